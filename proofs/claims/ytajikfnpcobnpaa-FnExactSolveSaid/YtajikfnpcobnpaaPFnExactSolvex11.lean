-- Laid by a program of this session.
import Derived.Test.YtajikfnpcobnpaaPFnExactSolvex0
import Derived.Test.YtajikfnpcobnpaaPFnExactSolvex8
import Derived.Test.YtajikfnpcobnpaaPFnExactSolvex9
import Derived.Test.YtajikfnpcobnpaaPFnExactSolvex10
namespace Go.Proofs.Ytajikfnpcobnpaa.PFnExactSolve
open Go.RowKit Go.Proofs.YtajikfnpcobnpaaW.PrintWords Go.Proofs.YtajikfnpcobnpaaW.PrintLast Go.Proofs.YtajikfnpcobnpaaW.PrintMore
attribute [local go_sem] max2_int min2_int max_two min_two max_three min_three max_four min_four   -- for this text's walks alone
set_option linter.unusedVariables false
set_option linter.unusedSimpArgs false

/-! ### impl_inverseOf: function 101 (by hand) -/
section
open Go.Proofs.Ytajikfnpcobnpaa.Gf Go.Proofs.Ytajikfnpcobnpaa.Kit Go.Proofs.Ytajikfnpcobnpaa.KitW Go.Proofs.Ytajikfnpcobnpaa.KitN
namespace ImplInv
theorem impl_identity.ev_l0 (n : Nat) (hn : n ≤ 1048576) : ∀ (d i : Nat) (o : List (List Int)), i + d = n → o = (idM n).take i → Ev (fun k => impl_identity.l0 k (n : Int) o (n : Int) (i : Int)) (idM n)
 | 0, i, o, hi, ho => by
  refine Ev.step (fun k => impl_identity.l0.eq_2 _ _ _ _ k) ?_
  refine ev_neg (by omega) (ev_now ?_)
  rw [ho, List.take_of_length_le (by simp [idM]; omega)]
 | d + 1, i, o, hi, ho => by
  have hl : o.length = i := by rw [ho, List.length_take]; simp [idM]; omega
  refine Ev.step (fun k => impl_identity.l0.eq_2 _ _ _ _ k) ?_
  simp only [Option.bind_some, Int.toNat_natCast, List.length_replicate]
  refine ev_pos (by omega) (ev_pos (by omega) (ev_pos (by omega) (ev_pos (by omega) (ev_pos (by omega) (ev_pos (by omega) ?_)))))
  rw [inc (by omega)]
  refine impl_identity.ev_l0 n hn d (i + 1) _ (by omega) ?_
  rw [List.take_succ_eq_append_getElem (by simp [idM]; omega), ← ho]
  simp [idM]
theorem impl_identity.ev (n : Nat) (hn : n ≤ 1048576) : Ev (fun k => impl_identity.f k (n : Int)) (idM n) := by
 unfold impl_identity.f
 exact impl_identity.ev_l0 n hn n 0 [] (by omega) rfl
end ImplInv
theorem iv_info8 : (Try.prog.info? 5).map (fun i => (i.zero, i.size, i.bytes)) = some (some (.int .u8 0), 1, 1) := by kernel_rfl
theorem iv_info : (Try.prog.info? 57).map (fun i => (i.zero, i.size, i.bytes)) = some (some (.slice none 0 0), 1, 24) := by kernel_rfl
def impl_inverseOf.f (l0 : List (List Int)) : Option (List (List Int) × Bool) := if sqN l0 = true then some (invM l0) else none
/-- The first loop: rows with the identity's beside them. -/
structure IV (w : World) (l0 : List (List Int)) (ad15 : Addr) (i : Nat) (v5 : Value) (wr : World) : Prop where
 N : Kd.N (Kd.slice 5 (Kd.int .u8)) 57 wr w.heap.size (fun _ => True) v5 ((catM l0).take i)
 F : Kd.F (Kd.slice 5 (Kd.int .u8)) wr (fun k => True ∧ some k ≠ v5.ownBlock) (some ad15) l0.length (idM l0.length)
 B : Below w.heap.size w wr
theorem IV.below {w wr w1 : World} {l0 : List (List Int)} {ad15 : Addr} {i : Nat} {v5 : Value} (h : IV w l0 ad15 i v5 wr) (hb : Below wr.heap.size wr w1) : IV w l0 ad15 i v5 w1 := ⟨Kd.N_below h.N hb, Kd.F_below h.F hb, below_step h.B hb⟩
theorem IV.row {w wr : World} {l0 : List (List Int)} {ad15 : Addr} {i : Nat} {v5 : Value} (h : IV w l0 ad15 i v5 wr) (j : Nat) (hj : j < l0.length) :
  ∃ A c, wr.cell? (ad15.add j) = some (.slice A ((idM l0.length).getD j []).length c) ∧ ((idM l0.length).getD j []).length ≤ c ∧ Kd.F (Kd.int .u8) wr (fun k => True ∧ some k ≠ v5.ownBlock) A ((idM l0.length).getD j []).length ((idM l0.length).getD j []) := by
 obtain ⟨ad, c, e, _, hK, hcc, _⟩ := Kd.F_get h.F ([] : List Int) (j : Int) (by omega) (by omega)
 injection e with e
 subst e
 rw [Int.toNat_natCast] at hK hcc
 obtain ⟨A, c1, rfl, hle, hF⟩ := Kd.FK_slice_open hK
 have h0 := hcc 0 _ rfl
 have hsz : (Kd.slice 5 (Kd.int .u8)).sz = 1 := rfl
 rw [hsz, Nat.mul_one, Nat.add_zero] at h0
 exact ⟨A, c1, h0, hle, hF⟩
/-- The second loop: what stands beside is copied out. -/
structure IW (w : World) (D : List (List Int)) (n g cap len : Nat) (i : Nat) (v8 : Value) (wr : World) : Prop where
 N : Kd.N (Kd.slice 5 (Kd.int .u8)) 57 wr w.heap.size (fun k => True ∧ some k ≠ v8.ownBlock) (.slice (some ⟨g, 0, none⟩) len cap) D
 S : Kd.S (Kd.slice 5 (Kd.int .u8)) 57 wr w.heap.size (fun _ => True) v8 ((D.map (List.drop n)).take i)
 B : Below w.heap.size w wr
set_option maxHeartbeats 8000000 in
set_option maxRecDepth 100000 in
theorem impl_inverseOf.calls (A0 : Option Addr) (c0 : Nat) (l0 : List (List Int)) (r1 : List (List Int)) (r2 : Bool) (w : World) (hr0 : Kd.C (Kd.slice 5 (Kd.int .u8)) w A0 l0.length l0) (hc0 : l0.length ≤ c0) (h : impl_inverseOf.f l0 = some (r1, r2)) :
  Calls Try.prog 101 #[.slice A0 l0.length c0] w fun e w' => ∃ v0_ : Value, e = .returned (.tuple #[v0_, .bool r2]) ∧ Kd.S (Kd.slice 5 (Kd.int .u8)) 57 w' w.heap.size (fun _ => True) v0_ r1 ∧ Below w.heap.size w w' := by
 unfold impl_inverseOf.f at h
 by_cases hs : sqN l0 = true
 case neg => rw [if_neg hs] at h; cases h
 rw [if_pos hs] at h
 have hrr : invM l0 = (r1, r2) := Option.some.inj h
 clear h
 obtain ⟨h1, h2, h3⟩ := sqN_iff.1 hs
 clear hs
 obtain ⟨ad0, rfl, _⟩ := hr0.2.2 (by omega)
 obtain ⟨n, hn⟩ : ∃ n, n = l0.length := ⟨_, rfl⟩
 obtain ⟨kI, hI⟩ := (ImplInv.impl_identity.ev l0.length (by omega)).rounds
 have HI := Aside0.mk hI
 have HN := Aside0.mk hn
 have HR0 := Aside0.mk hr0
 have HO3 := Aside0.mk h3
 have HRR := Aside0.mk hrr
 rw [← hn] at h1 h2 hc0 ⊢
 clear hI hn hr0 h3 hrr
 have HB := Aside0.mk (Below.refl w.heap.size w)
 go_enter Try.func101, Try.ntmps101
 go_wp2_with (first | ((with_reducible refine gate_dst (N := 13) rfl ?_); refine Kd.N_lit (Kd.slice 5 (Kd.int .u8)) _ 57 ?hg (N' := 13) ?hd (xs := ([] : List (List Int))) (inner := []) (ok := fun _ => True) (okp := fun _ => True) ?hr ?hp (fun _ hk => hk) trivial (Below.refl _ _) (Nat.le_refl _) (by simp) ?_; (case hd => rfl); (case hg => rfl); (case hr => first | (go_simp; done) | (go_simp; rfl)); (case hp => exact (Reps.none _ _)); intro v13 w3 ho4 hb hg_ hnew_; clear hg_ hnew_; have HO := Aside0.mk ho4; clear HB; have HB := Aside0.mk hb; clear hb ho4) | fail)
 have hI : impl_identity.f kI (n : Int) = some (idM l0.length) := by rw [HN.out]; exact HI.out
 refine (impl_identity.calls kI (n : Int) (idM l0.length) _ hI).mono ?_
 clear hI
 rintro e w4 ⟨v15, rfl, ho, hb⟩
 obtain ⟨g15, c15, e15, _⟩ := Kd.S_form ho (by rw [idM_length]; have := HN.out; omega)
 rw [idM_length] at e15
 have hN4 := Kd.N_below HO.out hb
 have hlt := Kd.N_lt HO.out
 have HX := Aside0.mk (show IV w l0 ⟨g15, 0, none⟩ 0 v13 w4 from ⟨by simpa using hN4, by
  have hS := Kd.S_F (n := l0.length) (by rw [e15] at ho; exact Kd.S_mono (Kd.S_bound ho) (ok' := fun k => True ∧ some k ≠ v13.ownBlock) (fun k hk => ⟨trivial, fun e => by have := hlt k e.symm; have := hk.2.1; omega⟩))
  exact hS, below_step HB.out hb⟩)
 rw [← HN.out] at e15
 subst e15
 clear HO HB hb ho hN4 hlt
 go_wp2_with fail
 go_loopg [5, 17] (n + 1) (fun fu v5 v17 wr => ∃ i : Nat, i ≤ n ∧ n - i < fu ∧ v17 = .int .i64 i ∧ Aside0 (IV w l0 ⟨g15, 0, none⟩ i v5 wr))
 case atStart => exact ⟨0, Nat.zero_le _, by omega, rfl, HX⟩
 case round =>
  clear HX
  obtain ⟨i, hi, hfu, rfl, HX⟩ := hrel
  by_cases hin : i < n
  case neg =>
   have e : i = n := by omega
   subst e
   have hrz : ¬ (i : Int) < (i : Int) := by omega
   have hdr : decide ((i : Int) < (i : Int)) = false := decide_eq_false hrz
   obtain ⟨g, cap, eg, _⟩ := Kd.N_form HX.out.N (by rw [List.length_take, catM_length]; have := HN.out; omega)
   rw [List.length_take, catM_length, ← HN.out, Nat.min_self] at eg
   subst eg
   have hN := HX.out.N
   rw [List.take_of_length_le (by rw [catM_length]; have := HN.out; omega)] at hN
   have HN1 := Aside0.mk hN
   have HB := Aside0.mk HX.out.B
   clear hN HX
   obtain ⟨D, hD⟩ : ∃ D, D = (rowI.red (catM l0) l0.length).1 := ⟨_, rfl⟩
   obtain ⟨z, hz⟩ : ∃ z, z = (redP l0 (idM l0.length) l0.length).2 := ⟨_, rfl⟩
   have HD := Aside0.mk hD
   have HZ := Aside0.mk hz
   have HE := Aside0.mk (impl_eliminate.calls (catM l0) (l0.length + l0.length) l0.length (catM_ok HO3.out) (by omega) (by have := HN.out; omega) (by rw [catM_length]; have := HN.out; omega) g cap i (by rw [catM_length]; exact HN.out.symm) w wr HB.out HN1.out)
   rw [← HN.out, HN.out, ← hD, show (rowI.red (catM l0) l0.length).2 = z by rw [hz, catM_red HO3.out], ← HN.out] at HE
   clear hD hz HN1 HB
   go_wp2_with fail
   refine HE.out.mono ?_
   clear HE
   rintro e w5 ⟨rfl, hN, hB⟩
   have HN1 := Aside0.mk hN
   have HB := Aside0.mk hB
   have HDA := Aside0.mk (show ∀ r ∈ D, okI (i + i) r by rw [HD.out]; have z := RowK.red_all (shutI (l0.length + l0.length)) (catM_ok HO3.out) l0.length; rw [← HN.out] at z ⊢; exact z)
   have HDL := Aside0.mk (show D.length = i by rw [HD.out, RowK.red_length, catM_length]; exact HN.out.symm)
   clear hN hB
   by_cases hzi : z < i
   case pos =>
    have hzz : (z : Int) < (i : Int) := by omega
    have hdz : decide ((z : Int) < (i : Int)) = true := decide_eq_true hzz
    go_wp2_with fail
    go_ret2
    have e := HRR.out
    unfold invM at e
    rw [← HZ.out, ← HN.out, if_pos hzi] at e
    injection e with e1 e2
    subst e1 e2
    exact ⟨_, rfl, Kd.S_nil _ _ _ _ _, HB.out⟩
   have hzz : ¬ (z : Int) < (i : Int) := by omega
   have hdz : decide ((z : Int) < (i : Int)) = false := decide_eq_false hzz
   have HRE := Aside0.mk (show D.map (List.drop i) = r1 ∧ r2 = true by
    have e := HRR.out
    unfold invM at e
    rw [← HZ.out, if_neg (by have := HN.out; omega), ← catM_out HO3.out, ← HD.out, ← HN.out] at e
    injection e with e1 e2
    exact ⟨e1, e2.symm⟩)
   obtain ⟨_, rfl⟩ := HRE.out
   go_wp2_with (first | ((with_reducible refine gate_dst (N := 38) rfl ?_); refine Kd.S_lit (Kd.slice 5 (Kd.int .u8)) _ 57 ?hg (N := 38) ?hd (xs := ([] : List (List Int))) (inner := []) (ok := fun _ => True) (okp := fun _ => True) ?hr ?hp (fun _ hk => hk) trivial (Below.refl _ _) (Nat.le_refl _) (by simp) ?_; (case hd => rfl); (case hg => rfl); (case hr => first | (go_simp; done) | (go_simp; rfl)); (case hp => exact (Reps.none _ _)); intro v38 w6 ho6 hb6 hg6 hnew6; clear hg6 hnew6; have HX := Aside0.mk (show IW w D i g cap i 0 v38 w6 from ⟨Kd.N_elder' HN1.out (Kd.S_base ho6) hb6, by rw [List.take_zero]; exact Kd.S_lower ho6 HB.out.size, below_step HB.out hb6⟩); clear HN1 HB ho6 hb6) | fail)
   go_loopg [8, 41] (i + 1) (fun fu v8 v41 wr => ∃ j : Nat, j ≤ i ∧ i - j < fu ∧ v41 = .int .i64 j ∧ Aside0 (IW w D i g cap i j v8 wr))
   case atStart => exact ⟨0, Nat.zero_le _, by omega, rfl, HX⟩
   case round =>
    clear HX
    obtain ⟨j, hj, hfu2, rfl, HX⟩ := hrel
    by_cases hji : j < i
    case neg =>
     have e : j = i := by omega
     subst e
     have hrz : ¬ (j : Int) < (j : Int) := by omega
     have hdr : decide ((j : Int) < (j : Int)) = false := decide_eq_false hrz
     go_wp2_with fail
     go_ret2
     have hS := HX.out.S
     rw [List.take_of_length_le (by rw [List.length_map, HDL.out]; omega), HRE.out.1] at hS
     exact ⟨_, rfl, hS, HX.out.B⟩
    have hrz : (j : Int) < (i : Int) := by omega
    have hdr : decide ((j : Int) < (i : Int)) = true := decide_eq_true hrz
    obtain ⟨A44, c44, hcell44, hle44, hF44, _⟩ := N_row HX.out.N j hji
    obtain ⟨dj, hdj⟩ : ∃ x, x = D.getD j [] := ⟨_, rfl⟩
    rw [← hdj] at hcell44 hle44 hF44
    have hok : okI (i + i) dj := by rw [hdj]; exact RowK.at_all (O := rowI) HDA.out (by rw [HDL.out]; exact hji)
    have hdl := hok.2
    obtain ⟨ad44, rfl, _⟩ := F_byte hF44 0 (by omega)
    have hCd := Kd.F_now (Kd.F_cut (m := i) hF44 (by omega) hle44)
    rw [hdl] at hcell44 hle44
    have hcn : (c44 = i) = False := eq_false (by omega)
    have hci : i ≤ c44 := by omega
    rw [if_neg (by omega), show (some ad44).map (fun x => x.add (i * (Kd.int .u8).sz)) = some (ad44.add i) from by show some (ad44.add (i * 1)) = _; rw [Nat.mul_one]] at hCd
    have hdd : (dj.drop i).length = i := by rw [List.length_drop]; omega
    have hcl := slices_Clone_byte_byte.calls _ (c44 - i) (dj.drop i) (dj.drop i) wr hCd (by omega) (by unfold slices_Clone_byte_byte.f; simp; omega)
    rw [hdd] at hcl
    have HDJ := Aside0.mk hdj
    have HCL := Aside0.mk hcl
    clear hcl hCd hF44 hok hdj
    go_wp2_with fail
    refine HCL.out.mono ?_
    clear HCL
    rintro e w6 ⟨v49, rfl, ho, hb⟩
    obtain ⟨A49, c49, e49⟩ := Kd.R_slice ho
    rw [hdd] at e49
    subst e49
    have HO := Aside0.mk (Kd.R_lower (Kd.R_mono (Kd.R_bound ho) (ok' := fun k => wr.heap.size ≤ k) (fun k hk => hk.2.1)) HX.out.B.size)
    have HLT := Aside0.mk (Kd.S_lt HX.out.S)
    have HS := Aside0.mk (Kd.S_mono (Kd.S_below (Kd.S_bound HX.out.S) hb) (ok' := fun k => True ∧ ¬ wr.heap.size ≤ k) (fun k hk => ⟨trivial, by have := hk.2.2.1; omega⟩))
    have HN1 := Aside0.mk (Kd.N_below HX.out.N hb)
    have HB := Aside0.mk (below_step HX.out.B hb)
    clear HX ho hb
    go_wp2_with (first | ((with_reducible refine gate_builtin (b := .append) (xs := #[.tmp 45, .tmp 50]) rfl ?_); at_builtin; refine Kd.S_append (Kd.slice 5 (Kd.int .u8)) (w0 := w) w.heap.size rfl (.tmp 45) (.tmp 50) 37 57 (.slice none 0 0) 24 rfl Try.underlying37 iv_info rfl (by decide) (by omega) u8 ((D.map (List.drop i)).take j) (dj.drop i) [.slice A49 i c49] (fun _ => True) (fun k => wr.heap.size ≤ k) rfl rfl (Kd.M_row HO.out) (fun k hk => ⟨trivial, fun e => by have := HLT.out k e.symm; omega⟩) (fun _ _ => trivial) HS.out HB.out HB.out.size (by rw [List.length_take]; omega) ?_; intro v51 w7 ho7 hb7 hg7 hat7; have HX := Aside0.mk (show IW w D i g cap i (j + 1) v51 w7 from ⟨Kd.N_after HN1.out hg7 hat7, by rw [List.take_succ_eq_append_getElem (by rw [List.length_map, HDL.out]; exact hji), List.getElem_map, show D[j]'(by rw [HDL.out]; exact hji) = dj from by rw [HDJ.out, List.getD_eq_getElem?_getD, List.getElem?_eq_getElem (by rw [HDL.out]; exact hji)]; rfl]; exact ho7, hb7⟩); clear HO HLT HS HN1 HB ho7 hb7 hg7 hat7) | fail)
    go_roundg (i - j)
    case measure => omega
    case rel => exact ⟨j + 1, by omega, by omega, by go_num, HX⟩
  have hrz : (i : Int) < (n : Int) := by omega
  have hdr : decide ((i : Int) < (n : Int)) = true := decide_eq_true hrz
  obtain ⟨A21, c21, hcell21, hle21, hF21⟩ := HX.out.row i (by have := HN.out; omega)
  obtain ⟨ad, A26, c26, e26, hcell26, hle26, hC26⟩ := C_row (Kd.C_below HR0.out HX.out.B) i (by have := HN.out; omega)
  injection e26 with e26
  subst e26
  obtain ⟨li, hli⟩ : ∃ x, x = l0.getD i [] := ⟨_, rfl⟩
  obtain ⟨di, hdi⟩ : ∃ x, x = (idM l0.length).getD i [] := ⟨_, rfl⟩
  rw [← hdi] at hcell21 hle21 hF21
  rw [add_plain] at hcell21
  rw [← hli] at hcell26 hle26 hC26
  have HLI := Aside0.mk hli
  have HDI := Aside0.mk hdi
  clear hli hdi
  have hil : i < n := hin
  have hl1 : li.length = n := by rw [HLI.out, HN.out]; exact (RowK.at_all (O := rowI) HO3.out (i := i) (by have := HN.out; omega)).2
  have hd1 : di.length = n := by rw [HDI.out, HN.out]; exact (RowK.at_all (O := rowI) (idM_ok l0.length) (i := i) (by rw [idM_length]; have := HN.out; omega)).2
  have hcl := slices_Clone_byte_byte.calls A26 c26 li li wr hC26 hle26 (by unfold slices_Clone_byte_byte.f; simp; omega)
  rw [hl1] at hcell26 hcl
  rw [hd1] at hcell21
  go_wp2_with fail
  refine hcl.mono ?_
  clear hcl
  rintro e w5 ⟨v27, rfl, ho, hb⟩
  have HX5 := HX.out.below hb
  have hF5 := Aside0.mk (Kd.F_below hF21 hb)
  have HO := Aside0.mk ho
  have HB5 := Aside0.mk hb
  clear ho hb hF21 hcell21 hcell26 hC26 HX5
  go_wp2_with (first | ((with_reducible refine gate_builtin (b := .append) (xs := #[.tmp 27, .tmp 28]) rfl ?_); at_builtin; refine Kd.R_append_rows (Kd.int .u8) (w0 := wr) wr.heap.size rfl (.tmp 27) (.tmp 28) 57 5 (.int .u8 0) 1 rfl Try.underlying57 iv_info8 rfl (by decide) (by omega) v27 li di A21 n c21 (fun _ => True) (fun _ => False) rfl rfl HO.out (by have z := Kd.F_now hF5.out; rwa [hd1] at z) (fun _ _ h => h) (fun _ h => h.elim) (fun _ _ => trivial) HB5.out HB5.out.size (by rw [hl1]; omega) ?_; intro v29 w6 ho6 hb6 hg6 hat6; obtain ⟨A29, c29, e29⟩ := Kd.R_slice ho6; rw [List.length_append, hl1, hd1] at e29; subst e29; have HX6 := Aside0.mk (HX.out.below hb6); have HO6 := Aside0.mk ho6; clear HO HB5 hF5 ho6 hb6 hg6 hat6) | ((with_reducible refine gate_builtin (b := .append) (xs := #[.tmp 22, .tmp 30]) rfl ?_); at_builtin; refine Kd.N_append (Kd.slice 5 (Kd.int .u8)) (w0 := w) w.heap.size rfl (.tmp 22) (.tmp 30) 37 57 (.slice none 0 0) 24 rfl Try.underlying37 iv_info rfl (by decide) (by omega) u5 ((catM l0).take i) (li ++ di) [.slice A29 (n + n) c29] (fun _ => True) (fun k => wr.heap.size ≤ k) rfl rfl (FK_of_R (Kd.R_mono (Kd.R_bound HO6.out) (ok' := fun k => wr.heap.size ≤ k) (fun k hk => hk.2.1))) (fun k hk => ⟨trivial, fun e => by have := Kd.N_lt HX.out.N k e.symm; omega⟩) (fun _ _ => trivial) HX6.out.N HX6.out.B HX6.out.B.size (by rw [List.length_take]; omega) ?_; intro v31 w7 ho7 hb7 hg7 hat7; rw [HLI.out, HDI.out, ← catM_succ (by have := HN.out; omega)] at ho7; have HX7 := Aside0.mk (IV.mk ho7 (Kd.F_after HX6.out.F hg7 hat7) hb7); clear HX HX6 HO6 ho7 hb7 hg7 hat7))
  go_roundg (n - i)
  case measure => omega
  case rel => exact ⟨i + 1, by omega, by omega, by go_num, HX7⟩
end

/-! ### impl_dot: function 169 -/
def impl_dot.l0 : Nat → List Int → Int → List Int → Int → Int → Option (Int)
 | 0, _, _, _, _, _ => none
 | k + 1, x1, x5, x8, x9, x10 => if x10 < x9 then (if 0 ≤ x10 then (if x10 < (x8.length : Int) then (if x10 < (x1.length : Int) then ((impl_Times.f k (rd x8 x10) (rd x1 x10)).bind fun t241 => (impl_dot.l0 k x1 (Go.bits .xor .u8 x5 t241) x8 x9 (wrap64 (x10 + 1)))) else (none)) else (none)) else (none)) else (some x5)
def impl_dot.f (k : Nat) (l0 : List Int) (l1 : List Int) : Option (Int) := impl_dot.l0 k l1 0 l0 (l0.length : Int) 0
theorem impl_dot.mono_l : ∀ k, (∀ y0 y1 y2 y3 y4, LeO (impl_dot.l0 k y0 y1 y2 y3 y4) (impl_dot.l0 (k + 1) y0 y1 y2 y3 y4))
 | 0 => fun _ _ _ _ _ r h => by simp [impl_dot.l0] at h
 | k + 1 => by
  have ih0 := impl_dot.mono_l k
  ·intro y0 y1 y2 y3 y4
   unfold impl_dot.l0
   repeat' first
   | (with_reducible exact ih0 _ _ _ _ _)
   | (with_reducible exact impl_Times.mono _ _ _)
   | (with_reducible exact LeO.refl _)
   | (with_reducible exact LeO.none _)
   | (with_reducible refine LeO.ite ?_ ?_)
   | (with_reducible refine LeO.bind ?_ (fun _ => ?_))
   | exact ih0 _ _ _ _ _
   | exact impl_Times.mono _ _ _
   | exact LeO.none _
   | refine LeO.ite ?_ ?_
   | refine LeO.bind ?_ (fun _ => ?_)
theorem impl_dot.mono : ∀ a0 a1 k, LeO (impl_dot.f k a0 a1) (impl_dot.f (k + 1) a0 a1) := by
 intro a0 a1 k
 have ih0 := impl_dot.mono_l k
 unfold impl_dot.f
 repeat' first
   | (with_reducible exact ih0 _ _ _ _ _)
   | (with_reducible exact impl_Times.mono _ _ _)
   | (with_reducible exact LeO.refl _)
   | (with_reducible exact LeO.none _)
   | (with_reducible refine LeO.ite ?_ ?_)
   | (with_reducible refine LeO.bind ?_ (fun _ => ?_))
   | exact ih0 _ _ _ _ _
   | exact impl_Times.mono _ _ _
   | exact LeO.none _
   | refine LeO.ite ?_ ?_
   | refine LeO.bind ?_ (fun _ => ?_)
set_option maxHeartbeats 8000000 in
set_option maxRecDepth 100000 in
theorem impl_dot.calls (k : Nat) (A0 : Option Addr) (c0 : Nat) (l0 : List Int) (A1 : Option Addr) (c1 : Nat) (l1 : List Int) (r : Int) (w : World) (hr0 : Kd.C (Kd.int .u8) w A0 l0.length l0) (hc0 : l0.length ≤ c0) (hr1 : Kd.C (Kd.int .u8) w A1 l1.length l1) (hc1 : l1.length ≤ c1) (h : impl_dot.f k l0 l1 = some r) :
  Calls Try.prog 169 #[.slice A0 l0.length c0, .slice A1 l1.length c1] w fun e w' => e = .returned (.int .u8 r) ∧ Drawn0 w w' := by
 have HR0 := Aside0.mk hr0
 have HC0 := Aside0.mk hc0
 clear hr0 hc0
 have HR1 := Aside0.mk hr1
 have HC1 := Aside0.mk hc1
 clear hr1 hc1
 have H : (impl_dot.l0 k l1 0 l0 (l0.length : Int) 0) = some r := h
 clear h
 have H' := Aside0.mk H
 clear H
 go_enter Try.func169, Try.ntmps169
 go_wp2
 go_loopg [5, 10] k (fun kq v5 v10 w' => ∃ (x5_1 : Int) (x10_1 : Int), v5 = .int .u8 x5_1 ∧ v10 = .int .i64 x10_1 ∧ Aside0 (impl_dot.l0 kq l1 x5_1 l0 (l0.length : Int) x10_1 = some r) ∧ Aside0 (kq ≤ k) ∧ Drawn0 w w')
 case atStart => exact ⟨(0), (0), (by first | rfl | (simp; done) | (simp [*]; done)), (by first | rfl | (simp; done) | (simp [*]; done)), H', ⟨Nat.le_refl _⟩, by repeat (first | exact Drawn0.refl _ | apply Drawn0.step)⟩
 case round =>
  clear H'
  try clear c1
  try clear p2
  obtain ⟨x5_1, x10_1, rfl, rfl, HA, HK1, ⟨m1, rfl⟩⟩ := hrel
  cases gk with
  | zero => exact absurd HA.out (by simp [impl_dot.l0])
  | succ k1 =>
   have H := HA.out
   clear HA
   simp only [impl_dot.l0] at H
   by_cases c3 : x10_1 < (l0.length : Int)
   ·rw [if_pos c3] at H
    have c3b0 : decide (x10_1 < (l0.length : Int)) = true := decide_eq_true c3
    clear c3
    by_cases c4 : 0 ≤ x10_1
    ·rw [if_pos c4] at H
     have c4b0 : decide (0 ≤ x10_1) = true := decide_eq_true c4
     clear c4
     by_cases c5 : x10_1 < (l0.length : Int)
     ·rw [if_pos c5] at H
      have c5b0 : decide (x10_1 < (l0.length : Int)) = true := decide_eq_true c5
      clear c5
      by_cases c6 : x10_1 < (l1.length : Int)
      ·rw [if_pos c6] at H
       have c6b0 : decide (x10_1 < (l1.length : Int)) = true := decide_eq_true c6
       clear c6
       replace H := Option.bind_eq_some_iff.mp H
       obtain ⟨t241, A70, H⟩ := H
       replace H : (impl_dot.l0 k1 l1 (Go.bits .xor .u8 x5_1 t241) l0 (l0.length : Int) (wrap64 (x10_1 + 1))) = some r := H
       have A7 := Aside0.mk A70
       clear A70
       have H' := Aside0.mk H
       clear H
       have p239 : 0 ≤ (x10_1 : Int) := of_decide_eq_true (by first | (with_reducible assumption) | assumption)
       have q239 : x10_1 < (l0.length : Int) := of_decide_eq_true (by first | (with_reducible assumption) | assumption)
       obtain ⟨ad239, e239, hx239_0⟩ := Kd.at_int HR0.out x10_1 p239 q239
       cases e239
       replace p239 := eq_true p239
       replace q239 := eq_true q239
       have p240 : 0 ≤ (x10_1 : Int) := of_decide_eq_true (by first | (with_reducible assumption) | assumption)
       have q240 : x10_1 < (l1.length : Int) := of_decide_eq_true (by first | (with_reducible assumption) | assumption)
       obtain ⟨ad240, e240, hx240_0⟩ := Kd.at_int HR1.out x10_1 p240 q240
       cases e240
       replace p240 := eq_true p240
       replace q240 := eq_true q240
       go_wp2_with (first | ((with_reducible refine gate_callee (f := 192) rfl ?_); refine goesL_ (some 21) rfl rfl Try.func192 (by kernel_rfl) rfl #[.int .u8 (rd l0 x10_1), .int .u8 (rd l1 x10_1)] rfl (by (try simp only [List.map_toArray, List.map_cons, List.map_nil]); first | done | rfl | (simp only [List.length_drop, List.length_take]; rfl)) ?_; (with_reducible refine (impl_Times.calls k1 (rd l0 x10_1) (rd l1 x10_1) t241 _ A7.out).mono ?_); rintro e w' ⟨rfl, ⟨nd, rfl⟩⟩; refine ⟨_, rfl, ?_⟩))
       go_roundg k1
       case measure => have := HK1.out; omega
       case rel => exact ⟨(Go.bits .xor .u8 x5_1 t241), (wrap64 (x10_1 + 1)), (by first | rfl | (simp; done) | (simp [*]; done)), (by first | rfl | (simp; done) | (simp [*]; done)), H', ⟨by have := HK1.out; omega⟩, by repeat (first | exact Drawn0.refl _ | apply Drawn0.step)⟩
      ·rw [if_neg c6] at H
       exact absurd H (by simp)
     ·rw [if_neg c5] at H
      exact absurd H (by simp)
    ·rw [if_neg c4] at H
     exact absurd H (by simp)
   ·rw [if_neg c3] at H
    have c3b0 : decide (x10_1 < (l0.length : Int)) = false := decide_eq_false c3
    clear c3
    obtain rfl := Option.some.inj H
    go_wp2
    go_ret
    exact ⟨by first | rfl | (simp; done) | (simp [*]; done), by repeat (first | exact Drawn0.refl _ | apply Drawn0.step)⟩

/-! ### impl_solve: function 119 -/
def impl_solve.l0 : Nat → List Int → List Int → List (List Int) → Int → Int → Option (List Int × Bool)
 | 0, _, _, _, _, _ => none
 | k + 1, x1, x8, x19, x20, x21 => if x21 < x20 then (if 0 ≤ x21 then (if x21 < (x19.length : Int) then ((impl_dot.f k (rd_L1 x19 x21) x1).bind fun t250 => (if x8.length < 140737488355328 then (impl_solve.l0 k x1 (x8 ++ [t250]) x19 x20 (wrap64 (x21 + 1))) else (none))) else (none)) else (none)) else (some (x8, true))
def impl_solve.f (k : Nat) (l0 : List (List Int)) (l1 : List Int) : Option (List Int × Bool) := (impl_inverseOf.f l0).bind fun bt242 => (if bt242.2 = true then (impl_solve.l0 k l1 (([] : List Int)) bt242.1 (bt242.1.length : Int) 0) else (some (([] : List Int), false)))
theorem impl_solve.mono_l : ∀ k, (∀ y0 y1 y2 y3 y4, LeO (impl_solve.l0 k y0 y1 y2 y3 y4) (impl_solve.l0 (k + 1) y0 y1 y2 y3 y4))
 | 0 => fun _ _ _ _ _ r h => by simp [impl_solve.l0] at h
 | k + 1 => by
  have ih0 := impl_solve.mono_l k
  ·intro y0 y1 y2 y3 y4
   unfold impl_solve.l0
   repeat' first
   | (with_reducible exact ih0 _ _ _ _ _)
   | (with_reducible exact impl_dot.mono _ _ _)
   | (with_reducible exact LeO.refl _)
   | (with_reducible exact LeO.none _)
   | (with_reducible refine LeO.ite ?_ ?_)
   | (with_reducible refine LeO.bind ?_ (fun _ => ?_))
   | exact ih0 _ _ _ _ _
   | exact impl_dot.mono _ _ _
   | exact LeO.none _
   | refine LeO.ite ?_ ?_
   | refine LeO.bind ?_ (fun _ => ?_)
theorem impl_solve.mono : ∀ a0 a1 k, LeO (impl_solve.f k a0 a1) (impl_solve.f (k + 1) a0 a1) := by
 intro a0 a1 k
 have ih0 := impl_solve.mono_l k
 unfold impl_solve.f
 repeat' first
   | (with_reducible exact ih0 _ _ _ _ _)
   | (with_reducible exact impl_dot.mono _ _ _)
   | (with_reducible exact LeO.refl _)
   | (with_reducible exact LeO.none _)
   | (with_reducible refine LeO.ite ?_ ?_)
   | (with_reducible refine LeO.bind ?_ (fun _ => ?_))
   | exact ih0 _ _ _ _ _
   | exact impl_dot.mono _ _ _
   | exact LeO.none _
   | refine LeO.ite ?_ ?_
   | refine LeO.bind ?_ (fun _ => ?_)
set_option maxHeartbeats 8000000 in
set_option maxRecDepth 100000 in
theorem impl_solve.calls (k : Nat) (A0 : Option Addr) (c0 : Nat) (l0 : List (List Int)) (A1 : Option Addr) (c1 : Nat) (l1 : List Int) (r1 : List Int) (r2 : Bool) (w : World) (hr0 : Kd.C (Kd.slice 5 (Kd.int .u8)) w A0 l0.length l0) (hc0 : l0.length ≤ c0) (hr1 : Kd.C (Kd.int .u8) w A1 l1.length l1) (hc1 : l1.length ≤ c1) (h : impl_solve.f k l0 l1 = some (r1, r2)) :
  Calls Try.prog 119 #[.slice A0 l0.length c0, .slice A1 l1.length c1] w fun e w' => ∃ v0_ : Value, e = .returned (.tuple #[v0_, .bool r2]) ∧ Kd.R (Kd.int .u8) 5 w' w.heap.size (fun _ => True) v0_ r1 ∧ Below w.heap.size w w' := by
 have HR0 := Aside0.mk hr0
 have HC0 := Aside0.mk hc0
 clear hr0 hc0
 have HR1 := Aside0.mk hr1
 have HC1 := Aside0.mk hc1
 clear hr1 hc1
 have HB := Aside0.mk (Below.refl w.heap.size w)
 have H : ((impl_inverseOf.f l0).bind fun bt242 => (if bt242.2 = true then (impl_solve.l0 k l1 (([] : List Int)) bt242.1 (bt242.1.length : Int) 0) else (some (([] : List Int), false)))) = some (r1, r2) := h
 clear h
 replace H := Option.bind_eq_some_iff.mp H
 obtain ⟨⟨t242, t243⟩, A30, H⟩ := H
 replace H : (if t243 = true then (impl_solve.l0 k l1 (([] : List Int)) t242 (t242.length : Int) 0) else (some (([] : List Int), false))) = some (r1, r2) := H
 have A3 := Aside0.mk A30
 clear A30
 by_cases c4 : t243 = true
 ·subst c4
  have H1 : (impl_solve.l0 k l1 (([] : List Int)) t242 (t242.length : Int) 0) = some (r1, r2) := by rw [if_pos rfl] at H; exact H
  clear H
  have H := H1
  clear H1
  obtain ⟨y246, hy246⟩ : ∃ y_ : List Int, y_ = (([] : List Int)) := ⟨_, rfl⟩
  replace H : (impl_solve.l0 k l1 y246 t242 (t242.length : Int) 0) = some (r1, r2) := by first | (rw [hy246]; with_reducible exact H) | (have H2_ := (Option.bind_some _ _).symm.trans H; rw [hy246]; with_reducible exact H2_) | (have H2_ := (Option.bind_some _ _).symm.trans H; with_reducible exact H2_) | with_reducible exact H | (rw [hy246]; exact H) | exact H
  have Ny246 := Aside0.mk hy246
  clear hy246
  have H' := Aside0.mk H
  clear H
  go_enter Try.func119, Try.ntmps119
  go_wp2_with (first | ((with_reducible refine gate_callee (f := 101) rfl ?_); refine goesL_ (some 13) rfl rfl Try.func101 (by kernel_rfl) rfl #[.slice A0 l0.length c0] rfl (by (try simp only [List.map_toArray, List.map_cons, List.map_nil]); first | done | rfl | (simp only [List.length_drop, List.length_take]; rfl)) ?_; (with_reducible refine (impl_inverseOf.calls _ _ l0 t242 true _ ?side1 ?side2 A3.out).mono ?_); (case side1 => repeat (first | exact HR0.out | (with_reducible refine Kd.C_alloc ?_ _) | (with_reducible refine Kd.C_drewN ?_ _) | (with_reducible refine Kd.C_drew ?_))); (case side2 => exact HC0.out); rintro e w5 ⟨v244, rfl, ho0, hb⟩; refine ⟨_, rfl, ?_⟩; have n0_ := Aside0.mk (Kd.S_lower ho0 (below_size (by repeat (first | (with_reducible first | exact HB.out | apply below_alloc | apply pw_below_drewN | apply below_drew1) | exact HB.out)))); have n1_ := Aside0.mk (below_step (by repeat (first | (with_reducible first | exact HB.out | apply below_alloc | apply pw_below_drewN | apply below_drew1) | exact HB.out)) hb); clear HB; have HO245 := n0_; have HB := n1_; clear n0_ n1_; (try clear hb); (try clear hb2); (try clear hk); (try clear hi); (try clear ho0)) | ((with_reducible refine gate_dst (N := 18) rfl ?_); refine Kd.R_lit (Kd.int .u8) _ 5 ?hg (N := 18) ?hd (xs := ([] : List Int)) (inner := []) (ok := fun _ => True) (okp := fun _ => True) ?hr ?hp (fun _ hk => hk) trivial (Below.refl _ _) (Nat.le_refl _) (by simp) ?_; (case hd => rfl); (case hg => rfl); (case hr => first | (go_simp; done) | (go_simp; rfl)); (case hp => exact (Reps.none _ _)); intro v247 w6 ho7 hb hg_ hnew_; clear hg_ hnew_; (first | rw [← Ny246.out] at ho7 | (simp only [Int.reduceToNat] at ho7; rw [← Ny246.out] at ho7)); have n0_ := Aside0.mk (Kd.S_elder' (by (with_reducible repeat (first | apply Kd.S_alloc | apply Kd.S_drewN | apply Kd.S_drew)); exact HO245.out) (Kd.R_base ho7) hb); have n1_ := Aside0.mk (Kd.R_lower ho7 (below_size (by repeat (first | (with_reducible first | exact HB.out | apply below_alloc | apply pw_below_drewN | apply below_drew1) | exact HB.out)))); have n2_ := Aside0.mk (below_step (by repeat (first | (with_reducible first | exact HB.out | apply below_alloc | apply pw_below_drewN | apply below_drew1) | exact HB.out)) hb); clear HO245; clear HB; have HO245 := n0_; have HO248 := n1_; have HB := n2_; clear n0_ n1_ n2_; clear hb ho7; obtain ⟨Ao8, co8, eo8⟩ := Kd.S_slice HO245.out; subst eo8))
  go_loopg [8, 21] k (fun kq v8 v21 w' => ∃ (x8_1 : List Int) (x21_1 : Int), v21 = .int .i64 x21_1 ∧ Aside0 (impl_solve.l0 kq l1 x8_1 t242 (t242.length : Int) x21_1 = some (r1, r2)) ∧ Aside0 (kq ≤ k) ∧ Aside0 (Kd.R (Kd.int .u8) 5 w' w.heap.size (fun _ => True) v8 x8_1) ∧ Aside0 (Kd.S (Kd.slice 5 (Kd.int .u8)) 57 w' w.heap.size (fun k_ => some k_ ≠ (v8 : Value).ownBlock) (.slice Ao8 t242.length co8) t242) ∧ Aside0 (Below w.heap.size w w'))
  case atStart => exact ⟨(y246), (0), (by first | rfl | (simp; done) | (simp [*]; done)), H', ⟨Nat.le_refl _⟩, ⟨by (with_reducible repeat (first | apply Kd.R_alloc | apply Kd.R_drewN | apply Kd.R_drew)); exact HO248.out⟩, ⟨by (with_reducible repeat (first | apply Kd.S_alloc | apply Kd.S_drewN | apply Kd.S_drew)); exact Kd.S_mono HO245.out (fun _ hk => hk.2)⟩, ⟨by repeat (first | (with_reducible first | exact HB.out | apply below_alloc | apply pw_below_drewN | apply below_drew1) | exact HB.out)⟩⟩
  case round =>
   clear H'
   try clear c1
   try clear p2
   try clear c4
   obtain ⟨x8_1, x21_1, rfl, HA, HK1, HO_8, HO_19, HB⟩ := hrel
   cases gk with
   | zero => exact absurd HA.out (by simp [impl_solve.l0])
   | succ k1 =>
    have H := HA.out
    clear HA
    simp only [impl_solve.l0] at H
    by_cases c9 : x21_1 < (t242.length : Int)
    ·rw [if_pos c9] at H
     have c9b0 : decide (x21_1 < (t242.length : Int)) = true := decide_eq_true c9
     clear c9
     by_cases c10 : 0 ≤ x21_1
     ·rw [if_pos c10] at H
      have c10b0 : decide (0 ≤ x21_1) = true := decide_eq_true c10
      clear c10
      by_cases c11 : x21_1 < (t242.length : Int)
      ·rw [if_pos c11] at H
       have c11b0 : decide (x21_1 < (t242.length : Int)) = true := decide_eq_true c11
       clear c11
       replace H := Option.bind_eq_some_iff.mp H
       obtain ⟨t250, A120, H⟩ := H
       replace H : (if x8_1.length < 140737488355328 then (impl_solve.l0 k1 l1 (x8_1 ++ [t250]) t242 (t242.length : Int) (wrap64 (x21_1 + 1))) else (none)) = some (r1, r2) := H
       have A12 := Aside0.mk A120
       clear A120
       by_cases c13 : x8_1.length < 140737488355328
       ·rw [if_pos c13] at H
        have LMc13 := Aside0.mk c13
        clear c13
        obtain ⟨y251, hy251⟩ : ∃ y_ : List Int, y_ = (x8_1 ++ [t250]) := ⟨_, rfl⟩
        replace H : (impl_solve.l0 k1 l1 y251 t242 (t242.length : Int) (wrap64 (x21_1 + 1))) = some (r1, r2) := by first | (rw [hy251]; with_reducible exact H) | (have H2_ := (Option.bind_some _ _).symm.trans H; rw [hy251]; with_reducible exact H2_) | (have H2_ := (Option.bind_some _ _).symm.trans H; with_reducible exact H2_) | with_reducible exact H | (rw [hy251]; exact H) | exact H
        have Ny251 := Aside0.mk hy251
        clear hy251
        have H' := Aside0.mk H
        clear H
        have p249 : 0 ≤ (x21_1 : Int) := of_decide_eq_true (by first | (with_reducible assumption) | assumption)
        have q249 : x21_1 < (t242.length : Int) := of_decide_eq_true (by first | (with_reducible assumption) | assumption)
        obtain ⟨ad249, A249_0, c249_0, e249, hx249_0, hl249_0, hi249_0⟩ := at_L1 (Kd.S_reads' HO_19.out).2.2 x21_1 p249 q249
        cases e249
        obtain ⟨ce249, hce249, hMe249, hcc249⟩ := Kd.S_get HO_19.out [] x21_1 p249 (by first | exact q249 | exact of_decide_eq_true (by first | (with_reducible assumption) | assumption) | (have e_ := (Kd.S_reads' HO_19.out).1; omega))
        obtain ⟨ve249_0, rfl, ge249_0⟩ := hMe249
        have hv249_0 := hcc249 0 _ rfl
        rw [Nat.add_zero, show ((Kd.slice 5 (Kd.int .u8))).sz = 1 from rfl, Nat.mul_one] at hv249_0
        replace hv249_0 := Option.some.inj (hv249_0.symm.trans hx249_0)
        rw [hv249_0] at ge249_0
        have HL249_0 := Aside0.mk (show Kd.R (Kd.int .u8) 5 _ _ _ _ (rd_L1 t242 x21_1) from ge249_0)
        clear hv249_0 ge249_0
        clear hcc249 hce249
        have HR249_0 := Aside0.mk hi249_0
        have HC249_0 := Aside0.mk hl249_0
        clear hi249_0 hl249_0
        replace p249 := eq_true p249
        replace q249 := eq_true q249
        go_wp2_with (first | ((with_reducible refine gate_callee (f := 169) rfl ?_); refine goesL_ (some 28) rfl rfl Try.func169 (by kernel_rfl) rfl #[.slice A249_0 (rd_L1 t242 x21_1).length c249_0, .slice A1 l1.length c1] rfl (by (try simp only [List.map_toArray, List.map_cons, List.map_nil]); first | done | rfl | (simp only [List.length_drop, List.length_take]; rfl)) ?_; (with_reducible refine (impl_dot.calls k1 _ _ (rd_L1 t242 x21_1) _ _ l1 t250 _ ?side1 ?side2 ?side3 ?side4 A12.out).mono ?_); (case side1 => repeat (first | exact (by repeat (first | (with_reducible exact HR249_0.out) | (with_reducible refine Kd.C_alloc ?_ _) | (with_reducible refine Kd.C_drewN ?_ _) | (with_reducible refine Kd.C_drew ?_) | exact HR249_0.out)) | (with_reducible refine Kd.C_alloc ?_ _) | (with_reducible refine Kd.C_drewN ?_ _) | (with_reducible refine Kd.C_drew ?_))); (case side2 => exact HC249_0.out); (case side3 => repeat (first | exact (Kd.C_below HR1.out HB.out) | (with_reducible refine Kd.C_alloc ?_ _) | (with_reducible refine Kd.C_drewN ?_ _) | (with_reducible refine Kd.C_drew ?_))); (case side4 => exact HC1.out); rintro e w' ⟨rfl, ⟨nd, rfl⟩⟩; refine ⟨_, rfl, ?_⟩) | ((with_reducible refine gate_builtin (b := .append) (xs := #[.tmp 25, .tmp 29]) rfl ?_); at_builtin; refine Kd.R_append (Kd.int .u8) (w0 := w) w.heap.size rfl (.tmp 25) (.tmp 29) 57 5 (.int .u8 0) 1 rfl Try.underlying57 info5 rfl (by decide) (by omega) u8 x8_1 t250 [.int .u8 t250] (fun _ => True) (fun _ => False) rfl rfl ?aP (fun _ hk => hk.elim) ?aF ?aO ?aB ?aS ?aL ?_; (case aP => exact rfl); (case aB => exact (by repeat (first | (with_reducible first | exact HB.out | apply below_alloc | apply pw_below_drewN | apply below_drew1) | exact HB.out))); (case aF => exact (fun _ _ => trivial)); (case aO => exact (by (with_reducible repeat (first | apply Kd.R_alloc | apply Kd.R_drewN | apply Kd.R_drew)); exact HO_8.out)); (case aS => exact (below_size (by repeat (first | (with_reducible first | exact HB.out | apply below_alloc | apply pw_below_drewN | apply below_drew1) | exact HB.out)))); (case aL => have := LMc13.out; omega); intro v252 w14 ho hb hg hat; rw [← Ny251.out] at ho; have n0_ := Aside0.mk (Kd.S_after (ok := (fun _ => True)) (by (with_reducible repeat (first | apply Kd.S_alloc | apply Kd.S_drewN | apply Kd.S_drew)); exact Kd.S_mono HO_19.out (fun _ hk => ⟨trivial, hk⟩)) hg hat); have n1_ := Aside0.mk (Kd.R_after (ok := (fun k_ => some k_ ≠ (.slice (some ad249) t242.length co8 : Value).ownBlock)) (by (with_reducible repeat (first | apply Kd.R_alloc | apply Kd.R_drewN | apply Kd.R_drew)); exact Kd.R_mono HL249_0.out (fun _ hk => ⟨hk.2, hk.1⟩)) hg hat); have n2_ := Aside0.mk (hb); have n3_ := Aside0.mk (ho); clear HO_19; clear HL249_0; clear HB; clear HO_8; have HO_19 := n0_; have HL249_0 := n1_; have HB := n2_; have HO253 := n3_; clear n0_ n1_ n2_ n3_; clear ho hb hg hat))
        go_roundg k1
        case measure => have := HK1.out; omega
        case rel => exact ⟨(y251), (wrap64 (x21_1 + 1)), (by first | rfl | (simp; done) | (simp [*]; done)), H', ⟨by have := HK1.out; omega⟩, ⟨by (with_reducible repeat (first | apply Kd.R_alloc | apply Kd.R_drewN | apply Kd.R_drew)); exact HO253.out⟩, ⟨by (with_reducible repeat (first | apply Kd.S_alloc | apply Kd.S_drewN | apply Kd.S_drew)); exact Kd.S_mono HO_19.out (fun _ hk => hk.2)⟩, ⟨by repeat (first | (with_reducible first | exact HB.out | apply below_alloc | apply pw_below_drewN | apply below_drew1) | exact HB.out)⟩⟩
       ·rw [if_neg c13] at H
        exact absurd H (by simp)
      ·rw [if_neg c11] at H
       exact absurd H (by simp)
     ·rw [if_neg c10] at H
      exact absurd H (by simp)
    ·rw [if_neg c9] at H
     have c9b0 : decide (x21_1 < (t242.length : Int)) = false := decide_eq_false c9
     clear c9
     simp only [Option.some.injEq, Prod.mk.injEq] at H
     obtain ⟨rfl, rfl⟩ := H
     go_wp2
     go_ret2
     exact ⟨_, by first | rfl | (simp [errW_none, errW_some] <;> rfl) | (simp [*, errW_none, errW_some] <;> rfl), by (with_reducible repeat (first | apply Kd.R_alloc | apply Kd.R_drewN | apply Kd.R_drew)); exact HO_8.out, by repeat (first | (with_reducible first | exact HB.out | apply below_alloc | apply pw_below_drewN | apply below_drew1) | exact HB.out)⟩
 ·replace c4 := Bool.eq_false_iff.mpr c4
  subst c4
  have H1 : (some (([] : List Int), false)) = some (r1, r2) := by rw [if_neg (show ¬ (false = true) by decide)] at H; exact H
  clear H
  have H := H1
  clear H1
  simp only [Option.some.injEq, Prod.mk.injEq] at H
  obtain ⟨rfl, rfl⟩ := H
  go_enter Try.func119, Try.ntmps119
  go_wp2_with (first | ((with_reducible refine gate_callee (f := 101) rfl ?_); refine goesL_ (some 13) rfl rfl Try.func101 (by kernel_rfl) rfl #[.slice A0 l0.length c0] rfl (by (try simp only [List.map_toArray, List.map_cons, List.map_nil]); first | done | rfl | (simp only [List.length_drop, List.length_take]; rfl)) ?_; (with_reducible refine (impl_inverseOf.calls _ _ l0 t242 false _ ?side1 ?side2 A3.out).mono ?_); (case side1 => repeat (first | exact HR0.out | (with_reducible refine Kd.C_alloc ?_ _) | (with_reducible refine Kd.C_drewN ?_ _) | (with_reducible refine Kd.C_drew ?_))); (case side2 => exact HC0.out); rintro e w15 ⟨v244, rfl, ho0, hb⟩; refine ⟨_, rfl, ?_⟩; have n0_ := Aside0.mk (Kd.S_lower ho0 (below_size (by repeat (first | (with_reducible first | exact HB.out | apply below_alloc | apply pw_below_drewN | apply below_drew1) | exact HB.out)))); have n1_ := Aside0.mk (below_step (by repeat (first | (with_reducible first | exact HB.out | apply below_alloc | apply pw_below_drewN | apply below_drew1) | exact HB.out)) hb); clear HB; have HO245 := n0_; have HB := n1_; clear n0_ n1_; (try clear hb); (try clear hb2); (try clear hk); (try clear hi); (try clear ho0)))
  go_ret2
  exact ⟨_, by first | rfl | (simp [errW_none, errW_some] <;> rfl) | (simp [*, errW_none, errW_some] <;> rfl), by first | exact Kd.R_nil _ _ _ _ _ | exact Kd.N_nil _ _ _ _ _ | exact Kd.V_nil _ _ _ _ _ | exact Kd.Q_nil _ _ _ _ _ | exact Kd.S_nil _ _ _ _ _, by repeat (first | (with_reducible first | exact HB.out | apply below_alloc | apply pw_below_drewN | apply below_drew1) | exact HB.out)⟩

end Go.Proofs.Ytajikfnpcobnpaa.PFnExactSolve
-- HALVED
