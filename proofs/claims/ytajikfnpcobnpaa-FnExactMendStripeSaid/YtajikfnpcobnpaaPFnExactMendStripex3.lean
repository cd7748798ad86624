-- Laid by a program of this session.
import Derived.Test.YtajikfnpcobnpaaVMendStripeB
import Derived.Test.YtajikfnpcobnpaaPFnExactMendStripex0
namespace Go.Proofs.Ytajikfnpcobnpaa.PFnExactMendStripe
open Go.RowKit Go.Proofs.YtajikfnpcobnpaaW.PrintWords Go.Proofs.YtajikfnpcobnpaaW.PrintLast Go.Proofs.YtajikfnpcobnpaaW.PrintMore Go.Proofs.Ytajikfnpcobnpaa.KitS
attribute [local go_sem] max2_int min2_int max_two min_two max_three min_three max_four min_four   -- for this text's walks alone
set_option linter.unusedVariables false
set_option maxHeartbeats 8000000
set_option maxRecDepth 100000
set_option linter.unusedSimpArgs false

def spec_l6Own.f (l0_0:List ByteArray) (l0_1:List ByteArray):Option (List ByteArray × List ByteArray):=(some (([]:List ByteArray):List ByteArray)).bind fun y128=>(if y128.length+l0_0.length < 8796093022208 then ((some (([]:List ByteArray):List ByteArray)).bind fun y134=>(if y134.length+l0_1.length < 8796093022208 then (some ((y128 ++ l0_0),(y134 ++ l0_1))) else (none))) else (none))
def spec_l6Own.T1:Bool × List (List Nat × List Nat):=(true,[([],[]),([],[]),([1],[1]),([0,2],[0,2]),([],[]),([],[]),([5],[5]),([4,6,3],[4,6]),([3,7],[3,7]),([8,7,0,1,2,3,4,5,6,7,8],[8])])
def spec_l6Own.B1:List Nat:=[0,0,2,7,0,0,32,127,255,511]
theorem spec_l6Own.tab1:rtab .any (opsOf Try.f87 1)=spec_l6Own.T1:=by kernel_rfl
theorem spec_l6Own.bits1:waitsOk spec_l6Own.T1.2 spec_l6Own.B1=true:=by kernel_rfl
theorem spec_l6Own.calls (A0_0:Option Addr) (c0_0:Nat) (l0_0:List ByteArray) (A0_1:Option Addr) (c0_1:Nat) (l0_1:List ByteArray) (r1:List ByteArray) (r2:List ByteArray) (w:World) (hr0_0:Kd.C Kd.string w A0_0 l0_0.length l0_0) (hc0_0:l0_0.length≤c0_0) (hr0_1:Kd.C Kd.string w A0_1 l0_1.length l0_1) (hc0_1:l0_1.length≤c0_1) (h:spec_l6Own.f l0_0 l0_1=some (r1,r2)) :
  Calls Try.prog 87 #[.agg #[.slice A0_0 l0_0.length c0_0, .slice A0_1 l0_1.length c0_1]] w fun e w'=>∃ v0_ v1_:Value,e = .returned (.agg #[v0_,v1_])∧Kd.R Kd.string 9 w' w.heap.size (fun k_=>some k_ ≠ (v1_:Value).ownBlock) v0_ r1∧Kd.R Kd.string 9 w' w.heap.size (fun k_=>some k_ ≠ (v0_:Value).ownBlock) v1_ r2∧Below w.heap.size w w':=by
 have hu27:=Try.underlying27
 have HR0_0:=am hr0_0
 have HC0_0:=am hc0_0
 clear hr0_0 hc0_0
 have HR0_1:=am hr0_1
 have HC0_1:=am hc0_1
 clear hr0_1 hc0_1
 have HB:=am (Below.refl w.heap.size w)
 have H:=h
 unfold spec_l6Own.f at H
 clear h
 obtain ⟨y128,hy128,H⟩:=ys H
 have Ny128:=am hy128
 clear hy128
 by_cases c2:y128.length+l0_0.length < 8796093022208
 ·rw [if_pos c2] at H
  have LMc2:=am c2
  clear c2
  generalize hy131:(y128 ++ l0_0:List ByteArray)=y131 at H
  have Ny131:=am hy131.symm
  clear hy131
  obtain ⟨y134,hy134,H⟩:=ys H
  have Ny134:=am hy134
  clear hy134
  obtain ⟨c3,H⟩:=yi H
  have LMc3:=am c3
  clear c3
  generalize hy137:(y134 ++ l0_1:List ByteArray)=y137 at H
  have Ny137:=am hy137.symm
  clear hy137
  simp only [Option.some.injEq,Prod.mk.injEq] at H
  obtain ⟨rfl,rfl⟩:=H
  go_enter Try.func87,Try.ntmps87
  try go_wp2_with (first|(refine gD 1 ?_;refine gB (cs:=#[.slice A0_0 l0_0.length c0_0, .slice A0_1 l0_1.length c0_1]) 27 ?_;intro gb126 hg w4 hbox hb;have BK126:=am (hbox);have GW126:=ye HB hg;replace HB:=yH HB hb;have GE126:=GW126;clear hb hbox hg)|(refine gD 2 ?_;refine gB (cs:=#[.slice none 0 0, .slice none 0 0]) 27 ?_;intro gb127 hg w5 hbox hb;have BK127:=am (hbox);have GW127:=ye HB hg;replace HB:=yH HB hb;have NB126_127:=yl BK126 hg;have NB127_126:=yg BK126 hg;replace BK126:=yb BK126 hb;have GE127:=GW127;clear hb hbox hg))
  replace BK126:=am (qd BK126.out)
  replace BK127:=am (qd BK127.out)
  replace HB:=am (pd HB.out)
  refine start_ (n:=10) (S:=fun w'=>w'.cell? ⟨gb126,0,none⟩=some (.slice A0_0 l0_0.length c0_0)∧w'.cell? ⟨gb126,1,none⟩=some (.slice A0_1 l0_1.length c0_1)) (ds:=[]) #[Z,Z,Z,Z,Z,Z,Z,Z,Z,Z] D2 rfl rfl ⟨(blk_cell BK126.out 0).trans rfl,(blk_cell BK126.out 1).trans rfl⟩ (fun hHeld=>?_);refine with_tabW spec_l6Own.tab1 spec_l6Own.bits1 (fun HT_ HW_=>?_)
  generalize w5.drew=w6 at BK126 BK127 HB hHeld ⊢
  refine pure_ (i:=1) (N:=some 4) (v:=?_) (a':=?_) #[Z,Y,Z,Z,Z,Z,Z,Z,Z,Z] rfl rfl (any_of HT_.out D2) hh (Or.inl ⟨D10,?_⟩) ?_ ?_
  rotate_left
  ·intro w'
   go_simp
   with_reducible rfl
  rotate_left
  ·simp only [Act.put,q1,q2,q3,i64_w,i32_w]
   rfl
  refine pure_ (i:=5) (N:=some 8) (v:=?_) (a':=?_) #[Z,Y,Z,Z,Z,Y,Z,Z,Z,Z] rfl rfl (any_of HT_.out D2) hh (Or.inl ⟨D10,?_⟩) ?_ ?_
  rotate_left
  ·intro w'
   go_simp
   with_reducible rfl
  rotate_left
  ·simp only [Act.put,q1,q2,q3,i64_w,i32_w]
   rfl
  refine take_ (i:=2) (N:=some 5) (v:=?_) (a':=?_) #[Z,Y,Y,Z,Z,Y,Z,Z,Z,Z] rfl rfl (take_ofW HT_.out HW_.out D2) hh (Or.inl ⟨D10,?_⟩) hHeld ?_ ?_
  rotate_left
  ·rintro w' ⟨s0,s1⟩
   go_simp
   with_reducible rfl
  rotate_left
  ·simp only [Act.put,q1,q2,q3,i64_w,i32_w]
   rfl
  refine take_ (i:=6) (N:=some 9) (v:=?_) (a':=?_) #[Z,Y,Y,Z,Z,Y,Y,Z,Z,Z] rfl rfl (take_ofW HT_.out HW_.out D2) hh (Or.inl ⟨D10,?_⟩) hHeld ?_ ?_
  rotate_left
  ·rintro w' ⟨s0,s1⟩
   go_simp
   with_reducible rfl
  rotate_left
  ·simp only [Act.put,q1,q2,q3,i64_w,i32_w]
   rfl
  refine join_ (σ:=Value × Value × Value) 3 #[Y,Y,Y,Y,Y,Y,Y,Z,Z,Z] (fun s_=>[(3,s_.1),(6,s_.2.1),(7,s_.2.2)]) (fun s_ w'=>(w'.cell? ⟨gb126,0,none⟩=some (.slice A0_0 l0_0.length c0_0)∧w'.cell? ⟨gb126,1,none⟩=some (.slice A0_1 l0_1.length c0_1))∧(Kd.R Kd.string 9 w' w.heap.size (fun k_=>some k_ ≠ (s_.2.2:Value).ownBlock) s_.2.1 y131)∧(Kd.R Kd.string 9 w' w.heap.size (fun k_=>some k_ ≠ (s_.2.1:Value).ownBlock) s_.2.2 y134)∧(w'.heap[gb126]? = some (.cells #[.slice A0_0 l0_0.length c0_0, .slice A0_1 l0_1.length c0_1] 27 (0,0)))∧(w'.heap[gb127]? = some (.cells #[.slice none 0 0, .slice none 0 0] 27 (0,0)))∧(Below w.heap.size w w')) ?_ ?_
  rotate_left
  ·intro hCont
   refine two_ (i:=0) (j:=4) (Ni:=some 3) (Nj:=some 7) #[Y,Y,Y,Z,Z,Y,Y,Z,Z,Z] #[Z,Y,Y,Z,Y,Y,Y,Z,Z,Z] rfl rfl rfl rfl (two_of HT_.out D2) D6 D6 (fun K hK=>?_) (fun K hK=>?_)
   ·skip
    refine Kd.R_lit_step Kd.string _ 9 ?hg (N:=3) ?hd (xs:=([]:List ByteArray)) (inner:=[]) (ok:=fun _=>True) (okp:=fun _=>True) ?hr ?hp (fun _ hk=>hk) trivial (Below.refl _ _) (Nat.le_refl _) D38 ?_;(case hd=>rfl);(case hg=>rfl);(case hr=>first|(go_simp;done)|(go_simp;rfl));(case hp=>exact (Reps.none _ _))
    intro v129 w7 ho8 hb hg_ hnew_
    clear hg_ hnew_
    (first|rw [← Ny128.out] at ho8|(simp only [Int.reduceToNat] at ho8;rw [← Ny128.out] at ho8))
    have HO130:=am (Kd.R_lower ho8 (pz (yW HB)))
    replace BK126:=yb BK126 hb
    replace BK127:=yb BK127 hb
    replace HB:=yH HB hb
    clear hb ho8
    refine hK.out _ _ ⟨(blk_cell BK126.out 0).trans rfl,(blk_cell BK126.out 1).trans rfl⟩ (fun hHeld=>?_)
    clear hK K
    refine norm_ (a':=?_) ?_ ?_
    rotate_left
    ·show Act.put _ (some 3) _=_
     simp only [Act.put,q1,q2,q3,i64_w,i32_w]
     rfl
    refine two_ (i:=3) (j:=4) (Ni:=some 6) (Nj:=some 7) #[Y,Y,Y,Y,Z,Y,Y,Z,Z,Z] #[Y,Y,Y,Z,Y,Y,Y,Z,Z,Z] rfl rfl rfl rfl (two_of HT_.out D2) D6 D6 (fun K hK=>?_) (fun K hK=>?_)
    ·skip
     refine Kd.R_append_rows_step Kd.string (w0:=w) w.heap.size D10 (.tmp 3) (.tmp 5) 22 9 (.string ⟨#[]⟩) 16 rfl Try.underlying22 info9 rfl D6 D8 v129 y128 l0_0 _ _ _ (fun _=>True) (fun _=>False) rfl rfl ?aO ?aR (fun _ _ h=>h) (fun _ h=>h.elim) ?aF ?aB ?aS ?aL ?_
     (case aR=>repeat (first|exact (Kd.C_below HR0_0.out HB.out)|(with_reducible refine Kd.C_alloc ?_ _)|(with_reducible refine Kd.C_drewN ?_ _)|(with_reducible refine Kd.C_drew ?_)))
     (case aB=>exact (yW HB))
     (case aF=>exact (fun _ _=>trivial))
     (case aO=>exact (yR HO130))
     (case aS=>exact (pz (yW HB)))
     (case aL=>have:=LMc2.out;omega)
     intro v132 w9 ho hb hg hat
     rw [← Ny131.out] at ho
     have n0_:=am (blk_grown (g:=gb126) (o:=.cells #[.slice A0_0 l0_0.length c0_0, .slice A0_1 l0_1.length c0_1] 27 (0,0)) (yB BK126) hg (Kd.R_ne HO130.out BK126.out D6))
     have n1_:=am (blk_grown (g:=gb127) (o:=.cells #[.slice none 0 0, .slice none 0 0] 27 (0,0)) (yB BK127) hg (Kd.R_ne HO130.out BK127.out D6))
     have n2_:=am (hb)
     have n3_:=am (ho)
     clear BK126
     clear BK127
     clear HB
     clear HO130
     have BK126:=n0_
     have BK127:=n1_
     have HB:=n2_
     have HO133:=n3_
     clear n0_ n1_ n2_ n3_
     clear ho hb hg hat
     refine hK.out _ _ ⟨(blk_cell BK126.out 0).trans rfl,(blk_cell BK126.out 1).trans rfl⟩ (fun hHeld=>?_)
     clear hK K
     refine norm_ (a':=?_) ?_ ?_
     rotate_left
     ·show Act.put _ (some 6) _=_
      simp only [Act.put,q1,q2,q3,i64_w,i32_w]
      rfl
     refine one_ (i:=4) (N:=some 7) #[Y,Y,Y,Y,Y,Y,Y,Z,Z,Z] rfl rfl (one_of HT_.out D2) D6 (fun K hK=>?_)
     refine Kd.R_lit_step Kd.string _ 9 ?hg (N:=7) ?hd (xs:=([]:List ByteArray)) (inner:=[]) (ok:=fun _=>True) (okp:=fun _=>True) ?hr ?hp (fun _ hk=>hk) trivial (Below.refl _ _) (Nat.le_refl _) D38 ?_;(case hd=>rfl);(case hg=>rfl);(case hr=>first|(go_simp;done)|(go_simp;rfl));(case hp=>exact (Reps.none _ _))
     intro v135 w10 ho11 hb hg_ hnew_
     clear hg_ hnew_
     (first|rw [← Ny134.out] at ho11|(simp only [Int.reduceToNat] at ho11;rw [← Ny134.out] at ho11))
     have HO136:=am (Kd.R_lower (Kd.R_new' ho11 (Kd.R_lt (yR HO133))) (pz (yW HB)))
     replace HO133:=eR HO133 (Kd.R_base ho11) hb
     replace BK126:=yb BK126 hb
     replace BK127:=yb BK127 hb
     replace HB:=yH HB hb
     clear hb ho11
     refine hK.out _ _ ⟨(blk_cell BK126.out 0).trans rfl,(blk_cell BK126.out 1).trans rfl⟩ (fun hHeld=>?_)
     clear hK K
     refine norm_ (a':=?_) ?_ ?_
     rotate_left
     ·show Act.put _ (some 7) _=_
      simp only [Act.put,q1,q2,q3,i64_w,i32_w]
      rfl
     exact norm_ D18 (hCont (v129,v132,v135) _ ⟨hHeld,(by refine sR ?_;exact Kd.R_mono HO133.out (fun _ hk=>hk.2)),D64,(yB BK126),(yB BK127),(yW HB)⟩)
    skip
    refine Kd.R_lit_step Kd.string _ 9 ?hg (N:=7) ?hd (xs:=([]:List ByteArray)) (inner:=[]) (ok:=fun _=>True) (okp:=fun _=>True) ?hr ?hp (fun _ hk=>hk) trivial (Below.refl _ _) (Nat.le_refl _) D38 ?_;(case hd=>rfl);(case hg=>rfl);(case hr=>first|(go_simp;done)|(go_simp;rfl));(case hp=>exact (Reps.none _ _))
    intro v135 w9 ho10 hb hg_ hnew_
    clear hg_ hnew_
    (first|rw [← Ny134.out] at ho10|(simp only [Int.reduceToNat] at ho10;rw [← Ny134.out] at ho10))
    have HO136:=am (Kd.R_lower (Kd.R_new' ho10 (Kd.R_lt (yR HO130))) (pz (yW HB)))
    replace HO130:=eR HO130 (Kd.R_base ho10) hb
    replace BK126:=yb BK126 hb
    replace BK127:=yb BK127 hb
    replace HB:=yH HB hb
    clear hb ho10
    refine hK.out _ _ ⟨(blk_cell BK126.out 0).trans rfl,(blk_cell BK126.out 1).trans rfl⟩ (fun hHeld=>?_)
    clear hK K
    refine norm_ (a':=?_) ?_ ?_
    rotate_left
    ·show Act.put _ (some 7) _=_
     simp only [Act.put,q1,q2,q3,i64_w,i32_w]
     rfl
    refine one_ (i:=3) (N:=some 6) #[Y,Y,Y,Y,Y,Y,Y,Z,Z,Z] rfl rfl (one_of HT_.out D2) D6 (fun K hK=>?_)
    refine Kd.R_append_rows_step Kd.string (w0:=w) w.heap.size D10 (.tmp 3) (.tmp 5) 22 9 (.string ⟨#[]⟩) 16 rfl Try.underlying22 info9 rfl D6 D8 v129 y128 l0_0 _ _ _ (fun k_=>some k_ ≠ (v135:Value).ownBlock) (fun _=>False) rfl rfl ?aO ?aR (fun _ _ h=>h) (fun _ h=>h.elim) ?aF ?aB ?aS ?aL ?_
    (case aR=>repeat (first|exact (Kd.C_below HR0_0.out HB.out)|(with_reducible refine Kd.C_alloc ?_ _)|(with_reducible refine Kd.C_drewN ?_ _)|(with_reducible refine Kd.C_drew ?_)))
    (case aB=>exact (yW HB))
    (case aF=>exact (fun k_ hk=>Kd.fresh' (Kd.R_lt (yR HO136)) k_ hk))
    (case aO=>exact (by refine sR ?_;exact Kd.R_mono HO130.out (fun _ hk=>hk.2)))
    (case aS=>exact (pz (yW HB)))
    (case aL=>have:=LMc2.out;omega)
    intro v132 w11 ho hb hg hat
    rw [← Ny131.out] at ho
    have n0_:=am (blk_grown (g:=gb126) (o:=.cells #[.slice A0_0 l0_0.length c0_0, .slice A0_1 l0_1.length c0_1] 27 (0,0)) (yB BK126) hg (Kd.R_ne HO130.out BK126.out D6))
    have n1_:=am (blk_grown (g:=gb127) (o:=.cells #[.slice none 0 0, .slice none 0 0] 27 (0,0)) (yB BK127) hg (Kd.R_ne HO130.out BK127.out D6))
    have n2_:=am (Kd.R_after (ok:=(fun _=>True)) (yR HO136) hg hat)
    have n3_:=am (hb)
    have n4_:=am (ho)
    clear BK126
    clear BK127
    clear HO136
    clear HB
    clear HO130
    have BK126:=n0_
    have BK127:=n1_
    have HO136:=n2_
    have HB:=n3_
    have HO133:=n4_
    clear n0_ n1_ n2_ n3_ n4_
    clear ho hb hg hat
    refine hK.out _ _ ⟨(blk_cell BK126.out 0).trans rfl,(blk_cell BK126.out 1).trans rfl⟩ (fun hHeld=>?_)
    clear hK K
    refine norm_ (a':=?_) ?_ ?_
    rotate_left
    ·show Act.put _ (some 6) _=_
     simp only [Act.put,q1,q2,q3,i64_w,i32_w]
     rfl
    exact norm_ D18 (hCont (v129,v132,v135) _ ⟨hHeld,(yR HO133),D64,(yB BK126),(yB BK127),(yW HB)⟩)
   skip
   refine Kd.R_lit_step Kd.string _ 9 ?hg (N:=7) ?hd (xs:=([]:List ByteArray)) (inner:=[]) (ok:=fun _=>True) (okp:=fun _=>True) ?hr ?hp (fun _ hk=>hk) trivial (Below.refl _ _) (Nat.le_refl _) D38 ?_;(case hd=>rfl);(case hg=>rfl);(case hr=>first|(go_simp;done)|(go_simp;rfl));(case hp=>exact (Reps.none _ _))
   intro v135 w7 ho8 hb hg_ hnew_
   clear hg_ hnew_
   (first|rw [← Ny134.out] at ho8|(simp only [Int.reduceToNat] at ho8;rw [← Ny134.out] at ho8))
   have HO136:=am (Kd.R_lower ho8 (pz (yW HB)))
   replace BK126:=yb BK126 hb
   replace BK127:=yb BK127 hb
   replace HB:=yH HB hb
   clear hb ho8
   refine hK.out _ _ ⟨(blk_cell BK126.out 0).trans rfl,(blk_cell BK126.out 1).trans rfl⟩ (fun hHeld=>?_)
   clear hK K
   refine norm_ (a':=?_) ?_ ?_
   rotate_left
   ·show Act.put _ (some 7) _=_
    simp only [Act.put,q1,q2,q3,i64_w,i32_w]
    rfl
   refine one_ (i:=0) (N:=some 3) #[Y,Y,Y,Z,Y,Y,Y,Z,Z,Z] rfl rfl (one_of HT_.out D2) D6 (fun K hK=>?_)
   refine Kd.R_lit_step Kd.string _ 9 ?hg (N:=3) ?hd (xs:=([]:List ByteArray)) (inner:=[]) (ok:=fun _=>True) (okp:=fun _=>True) ?hr ?hp (fun _ hk=>hk) trivial (Below.refl _ _) (Nat.le_refl _) D38 ?_;(case hd=>rfl);(case hg=>rfl);(case hr=>first|(go_simp;done)|(go_simp;rfl));(case hp=>exact (Reps.none _ _))
   intro v129 w9 ho10 hb hg_ hnew_
   clear hg_ hnew_
   (first|rw [← Ny128.out] at ho10|(simp only [Int.reduceToNat] at ho10;rw [← Ny128.out] at ho10))
   have HO130:=am (Kd.R_lower (Kd.R_new' ho10 (Kd.R_lt (yR HO136))) (pz (yW HB)))
   replace HO136:=eR HO136 (Kd.R_base ho10) hb
   replace BK126:=yb BK126 hb
   replace BK127:=yb BK127 hb
   replace HB:=yH HB hb
   clear hb ho10
   refine hK.out _ _ ⟨(blk_cell BK126.out 0).trans rfl,(blk_cell BK126.out 1).trans rfl⟩ (fun hHeld=>?_)
   clear hK K
   refine norm_ (a':=?_) ?_ ?_
   rotate_left
   ·show Act.put _ (some 3) _=_
    simp only [Act.put,q1,q2,q3,i64_w,i32_w]
    rfl
   refine one_ (i:=3) (N:=some 6) #[Y,Y,Y,Y,Y,Y,Y,Z,Z,Z] rfl rfl (one_of HT_.out D2) D6 (fun K hK=>?_)
   refine Kd.R_append_rows_step Kd.string (w0:=w) w.heap.size D10 (.tmp 3) (.tmp 5) 22 9 (.string ⟨#[]⟩) 16 rfl Try.underlying22 info9 rfl D6 D8 v129 y128 l0_0 _ _ _ (fun k_=>some k_ ≠ (v135:Value).ownBlock) (fun _=>False) rfl rfl ?aO ?aR (fun _ _ h=>h) (fun _ h=>h.elim) ?aF ?aB ?aS ?aL ?_
   (case aR=>repeat (first|exact (Kd.C_below HR0_0.out HB.out)|(with_reducible refine Kd.C_alloc ?_ _)|(with_reducible refine Kd.C_drewN ?_ _)|(with_reducible refine Kd.C_drew ?_)))
   (case aB=>exact (yW HB))
   (case aF=>exact (fun k_ hk=>Kd.fresh' (Kd.R_lt (yR HO136)) k_ hk))
   (case aO=>exact (by refine sR ?_;exact Kd.R_mono HO130.out (fun _ hk=>hk.2)))
   (case aS=>exact (pz (yW HB)))
   (case aL=>have:=LMc2.out;omega)
   intro v132 w11 ho hb hg hat
   rw [← Ny131.out] at ho
   have n0_:=am (blk_grown (g:=gb126) (o:=.cells #[.slice A0_0 l0_0.length c0_0, .slice A0_1 l0_1.length c0_1] 27 (0,0)) (yB BK126) hg (Kd.R_ne HO130.out BK126.out D6))
   have n1_:=am (blk_grown (g:=gb127) (o:=.cells #[.slice none 0 0, .slice none 0 0] 27 (0,0)) (yB BK127) hg (Kd.R_ne HO130.out BK127.out D6))
   have n2_:=am (Kd.R_after (ok:=(fun _=>True)) (yR HO136) hg hat)
   have n3_:=am (hb)
   have n4_:=am (ho)
   clear BK126
   clear BK127
   clear HO136
   clear HB
   clear HO130
   have BK126:=n0_
   have BK127:=n1_
   have HO136:=n2_
   have HB:=n3_
   have HO133:=n4_
   clear n0_ n1_ n2_ n3_ n4_
   clear ho hb hg hat
   refine hK.out _ _ ⟨(blk_cell BK126.out 0).trans rfl,(blk_cell BK126.out 1).trans rfl⟩ (fun hHeld=>?_)
   clear hK K
   refine norm_ (a':=?_) ?_ ?_
   rotate_left
   ·show Act.put _ (some 6) _=_
    simp only [Act.put,q1,q2,q3,i64_w,i32_w]
    rfl
   exact norm_ D18 (hCont (v129,v132,v135) _ ⟨hHeld,(yR HO133),D64,(yB BK126),(yB BK127),(yW HB)⟩)
  rintro ⟨v129,v132,v135⟩ w12 ⟨hS_,h0_,h1_,h2_,h3_,h4_⟩
  have n0_:Aside0 (Kd.R Kd.string 9 w12 w.heap.size (fun k_=>some k_ ≠ (v135:Value).ownBlock) v132 y131):=⟨h0_⟩
  have n1_:Aside0 (Kd.R Kd.string 9 w12 w.heap.size (fun k_=>some k_ ≠ (v132:Value).ownBlock) v135 y134):=⟨h1_⟩
  have n2_:Aside0 (w12.heap[gb126]? = some (.cells #[.slice A0_0 l0_0.length c0_0, .slice A0_1 l0_1.length c0_1] 27 (0,0))):=⟨h2_⟩
  have n3_:Aside0 (w12.heap[gb127]? = some (.cells #[.slice none 0 0, .slice none 0 0] 27 (0,0))):=⟨h3_⟩
  have n4_:Aside0 (Below w.heap.size w w12):=⟨h4_⟩
  clear BK126
  clear BK127
  clear HB
  clear h0_ h1_ h2_ h3_ h4_
  have HO133:=n0_
  have HO136:=n1_
  have BK126:=n2_
  have BK127:=n3_
  have HB:=n4_
  clear n0_ n1_ n2_ n3_ n4_
  have hHeld:w12.cell? ⟨gb126,0,none⟩=some (.slice A0_0 l0_0.length c0_0)∧w12.cell? ⟨gb126,1,none⟩=some (.slice A0_1 l0_1.length c0_1):=hS_
  refine norm_ (a':=?_) ?_ ?_
  rotate_left
  ·simp only [putAll,Act.put,q1,q2,q3]
   rfl
  refine one_ (i:=7) (N:=some 10) #[Y,Y,Y,Y,Y,Y,Y,Y,Z,Z] rfl rfl (one_of HT_.out D2) D6 (fun K hK=>?_)
  refine Kd.R_append_rows_step Kd.string (w0:=w) w.heap.size D10 (.tmp 7) (.tmp 9) 22 9 (.string ⟨#[]⟩) 16 rfl Try.underlying22 info9 rfl D6 D8 v135 y134 l0_1 _ _ _ (fun k_=>some k_ ≠ (v132:Value).ownBlock) (fun _=>False) rfl rfl ?aO ?aR (fun _ _ h=>h) (fun _ h=>h.elim) ?aF ?aB ?aS ?aL ?_
  (case aR=>repeat (first|exact (Kd.C_below HR0_1.out HB.out)|(with_reducible refine Kd.C_alloc ?_ _)|(with_reducible refine Kd.C_drewN ?_ _)|(with_reducible refine Kd.C_drew ?_)))
  (case aB=>exact (yW HB))
  (case aF=>exact (fun k_ hk=>Kd.fresh' (Kd.R_lt (yR HO133)) k_ hk))
  (case aO=>exact (yR HO136))
  (case aS=>exact (pz (yW HB)))
  (case aL=>have:=LMc3.out;omega)
  intro v138 w13 ho hb hg hat
  rw [← Ny137.out] at ho
  have n0_:=am (blk_grown (g:=gb126) (o:=.cells #[.slice A0_0 l0_0.length c0_0, .slice A0_1 l0_1.length c0_1] 27 (0,0)) (yB BK126) hg (Kd.R_ne HO136.out BK126.out D6))
  have n1_:=am (blk_grown (g:=gb127) (o:=.cells #[.slice none 0 0, .slice none 0 0] 27 (0,0)) (yB BK127) hg (Kd.R_ne HO136.out BK127.out D6))
  have n2_:=am (Kd.R_after (ok:=(fun _=>True)) (by refine sR ?_;exact Kd.R_mono HO133.out (fun _ hk=>⟨trivial,hk⟩)) hg hat)
  have n3_:=am (hb)
  have n4_:=am (ho)
  clear BK126
  clear BK127
  clear HO133
  clear HB
  clear HO136
  have BK126:=n0_
  have BK127:=n1_
  have HO133:=n2_
  have HB:=n3_
  have HO139:=n4_
  clear n0_ n1_ n2_ n3_ n4_
  clear ho hb hg hat
  obtain ⟨Ao14,co14,eo14⟩:=Kd.R_slice HO139.out
  (first|subst eo14|(injection eo14 with f1_ f2_ f3_;have f4_:=f1_.symm;have f5_:=f3_.symm;clear f1_ f2_ f3_;subst f4_;subst f5_))
  obtain ⟨Ao15,co15,eo15⟩:=Kd.R_slice HO133.out
  (first|subst eo15|(injection eo15 with f1_ f2_ f3_;have f4_:=f1_.symm;have f5_:=f3_.symm;clear f1_ f2_ f3_;subst f4_;subst f5_))
  refine hK.out _ _ ⟨(blk_cell BK126.out 0).trans rfl,(blk_cell BK126.out 1).trans rfl⟩ (fun hHeld=>?_)
  clear hK K
  refine norm_ (a':=?_) ?_ ?_
  rotate_left
  ·show Act.put _ (some 10) _=_
   simp only [Act.put,q1,q2,q3,i64_w,i32_w]
   rfl
  refine pure_ (i:=8) (N:=some 11) (v:=?_) (a':=?_) #[Y,Y,Y,Y,Y,Y,Y,Y,Y,Z] rfl rfl (any_of HT_.out D2) hh (Or.inl ⟨D10,?_⟩) ?_ ?_
  rotate_left
  ·intro w'
   go_simp
   with_reducible rfl
  rotate_left
  ·simp only [Act.put,q1,q2,q3,i64_w,i32_w]
   rfl
  refine one_ (i:=9) (N:=none) #[Y,Y,Y,Y,Y,Y,Y,Y,Y,Y] rfl rfl (one_of HT_.out D2) D6 (fun K hK=>?_)
  have hs16:w13.cell? ⟨gb127,0,none⟩=some (.slice none 0 0):=(blk_cell BK127.out 0).trans rfl
  have hfs16:=blk_frozen BK127.out 0
  have hns16_0:=NB126_127.out
  have hms16_0:=NB127_126.out
  have hs17:w13.cell? ⟨gb127,1,none⟩=some (.slice none 0 0):=(blk_cell BK127.out 1).trans rfl
  have hfs17:=blk_frozen BK127.out 1
  have hns17_0:=NB126_127.out
  have hms17_0:=NB127_126.out
  refine skip_ (w1:=?_) D10 rfl ?_ ?_
  rotate_left
  ·go_simp
   rfl
  refine hK.out _ _ ⟨((cell_far (p:=⟨gb127,_,none⟩) NB126_127.out _).trans (((cell_far (p:=⟨gb127,_,none⟩) NB126_127.out _).trans (hHeld.1)))),((cell_far (p:=⟨gb127,_,none⟩) NB126_127.out _).trans (((cell_far (p:=⟨gb127,_,none⟩) NB126_127.out _).trans (hHeld.2))))⟩ (fun hHeld=>?_)
  clear hK K
  refine done_ (done_of HT_.out D2) ?_
  try go_wp2
  refine bodyPost_ret (results_cell_row rfl _ _ gb127 27 #[.slice Ao15 y131.length co15, .slice Ao14 y137.length co14] (0,0) _ rfl (by refine sB ?_;refine blk_put (cs:=#[.slice Ao15 y131.length co15, .slice none 0 0]) ?_ 1 _ rfl;refine sB ?_;refine blk_put (cs:=#[.slice none 0 0, .slice none 0 0]) ?_ 0 _ rfl;exact yB BK127) Try.underlying27 rfl D2) rfl ?_
  exact ⟨_,_,D3,by refine sR ?_;exact Kd.R_mono (Kd.R_far (p:=⟨gb127,1,none⟩) (Kd.R_far (p:=⟨gb127,0,none⟩) (Kd.R_types HO133.out BK127.out D6) (fun _ hk=>hk.2) (.slice Ao15 y131.length co15)) (fun _ hk=>hk.2) (.slice Ao14 y137.length co14)) (fun _ hk=>hk.1.2),by refine sR ?_;exact Kd.R_mono (Kd.R_far (p:=⟨gb127,1,none⟩) (Kd.R_far (p:=⟨gb127,0,none⟩) (Kd.R_types HO139.out BK127.out D6) (fun _ hk=>hk.2) (.slice Ao15 y131.length co15)) (fun _ hk=>hk.2) (.slice Ao14 y137.length co14)) (fun _ hk=>hk.1),yW HB⟩
 rw [if_neg c2] at H
 exact absurd H D38

def spec_l2Blank.l0:Nat→Int→Int→Int→List (List Int)→Option ((List (List Int)))
 | 0,_,_,_,_=>none
 | k+1,x0,x1,x6,x142000=>if x6 < x0 then (if 0≤x1 then (if (x1:Int).toNat≤281474976710656 then (if x142000.length < 5864062014805 then (spec_l2Blank.l0 k x0 x1 (wrap64 (x6+1)) (x142000 ++ [(List.replicate (x1:Int).toNat 0)])) else (none)) else (none)) else (none)) else (some x142000)
def spec_l2Blank.f (k:Nat) (a0:Int) (a1:Int):Option ((List (List Int))):=spec_l2Blank.l0 k a0 a1 0 ([]:List (List Int))
theorem spec_l2Blank.mono_l:∀ k,(∀ y0 y1 y2 y3,LeO (spec_l2Blank.l0 k y0 y1 y2 y3) (spec_l2Blank.l0 (k+1) y0 y1 y2 y3))
 | 0=>fun _ _ _ _ r h=>by simp [spec_l2Blank.l0] at h
 | k+1=>by
  have ih0:=spec_l2Blank.mono_l k
  intro y0 y1 y2 y3
  unfold spec_l2Blank.l0
  exact mm
theorem spec_l2Blank.mono:∀ a0 a1 k,LeO (spec_l2Blank.f k a0 a1) (spec_l2Blank.f (k+1) a0 a1):=by
 intro a0 a1 k
 have ih0:=spec_l2Blank.mono_l k
 unfold spec_l2Blank.f
 exact mm
def spec_l2Blank.T5:Bool × List (List Nat × List Nat):=(true,[([],[]),([0],[0]),([],[]),([2,2],[2]),([3],[3]),([1,4],[1,4]),([0,1,2,3,4,5],[]),([6,5,5,0,1,2,3,4,5],[5,6])])
def spec_l2Blank.B5:List Nat:=[0,1,0,4,12,31,63,127]
theorem spec_l2Blank.tab5:rtab .any (opsOf Try.f172 5)=spec_l2Blank.T5:=by kernel_rfl
theorem spec_l2Blank.bits5:waitsOk spec_l2Blank.T5.2 spec_l2Blank.B5=true:=by kernel_rfl
theorem spec_l2Blank.calls (k:Nat) (a0:Int) (a1:Int) (r:List (List Int)) (w:World) (h:spec_l2Blank.f k a0 a1=some r) :
  Calls Try.prog 172 #[.int .i64 a0, .int .i64 a1] w fun e w'=>∃ v0_:Value,e = .returned (.agg #[v0_])∧Kd.S (Kd.slice 5 (Kd.int .u8)) 57 w' w.heap.size (fun _=>True) v0_ r∧Below w.heap.size w w':=by
 have hu43:=Try.underlying43
 have HB:=am (Below.refl w.heap.size w)
 have H:=h
 unfold spec_l2Blank.f at H
 clear h
 have H':=am H
 clear H
 go_enter Try.func172,Try.ntmps172
 go_wp2_with (first|(refine gD 4 ?_;refine gB (cs:=#[.slice none 0 0]) 43 ?_;intro gb140 hg w3 hbox hb;have BK140:=am (hbox);have GW140:=ye HB hg;replace HB:=yH HB hb;have GE140:=GW140;clear hb hbox hg)|(refine gD 5 ?_;refine gB (cs:=#[.slice none 0 0]) 43 ?_;intro gb141 hg w4 hbox hb;have BK141:=am (hbox);have GW141:=ye HB hg;replace HB:=yH HB hb;have NB140_141:=yl BK140 hg;have NB141_140:=yg BK140 hg;replace BK140:=yb BK140 hb;have GE141:=GW141;clear hb hbox hg;have hnb5:=NB141_140.out;have hnc5:=NB140_141.out;obtain ⟨hcz6_0,hfz6_0⟩:=yk1 BK141))
 go_loopg [6] k (fun kq v6 w'=>∃ (x6_1:Int) (x142000_1:List (List Int)) (u142000:Value),v6 = .int .i64 x6_1∧Aside0 (spec_l2Blank.l0 kq a0 a1 x6_1 x142000_1=some r)∧Aside0 (kq≤k)∧Aside0 (Kd.S (Kd.slice 5 (Kd.int .u8)) 57 w' w.heap.size (fun _=>True) u142000 x142000_1)∧Aside0 (w'.heap[gb140]? = some (.cells #[(.slice none 0 0)] 43 (0,0)))∧Aside0 (w'.heap[gb141]? = some (.cells #[u142000] 43 (0,0)))∧Aside0 (Below w.heap.size w w'))
 case atStart=>exact ⟨(0),(([]:List (List Int))),(.slice none 0 0),D1,H',⟨Nat.le_refl _⟩,⟨D40⟩,⟨yF BK140⟩,⟨by refine sB ?_;refine blk_put (cs:=#[.slice none 0 0]) ?_ 0 _ rfl;exact yB BK141⟩,⟨yW HB⟩⟩
 case round =>
  clear H'
  try clear c1
  try clear p2
  try clear c5
  try clear hcz6_0
  try clear hfz6_0
  obtain ⟨x6_1,x142000_1,u142000,rfl,HA,HK1,HO_142000,BK140,BK141,HB⟩:=hrel
  cases gk with
  | zero=>exact absurd HA.out (by simp [spec_l2Blank.l0])
  | succ k1 =>
   have H:=HA.out
   clear HA
   simp only [spec_l2Blank.l0] at H
   by_cases c7:x6_1 < a0
   ·rw [if_pos c7] at H
    have c7b0:=decide_eq_true c7
    clear c7
    obtain ⟨c8,H⟩:=yi H
    have c8b0:=eq_true c8
    have c8b1:decide (0≤a1)=true:=decide_eq_true c8
    clear c8
    obtain ⟨c9,H⟩:=yi H
    have c9b0:=eq_true c9
    have c9b1:decide ((a1:Int).toNat≤281474976710656)=true:=decide_eq_true c9
    clear c9
    generalize hy142:(List.replicate (a1:Int).toNat 0:List Int)=y142 at H
    have Ny142:=am hy142.symm
    clear hy142
    obtain ⟨c10,H⟩:=yi H
    have LMc10:=am c10
    clear c10
    generalize hy145:(x142000_1 ++ [y142]:List (List Int))=y145 at H
    have Ny145:=am hy145.symm
    clear hy145
    have H':=am H
    clear H
    try go_wp2
    replace HO_142000:=am (Kd.S_drew HO_142000.out)
    replace BK140:=am (qd BK140.out)
    replace BK141:=am (qd BK141.out)
    replace HB:=am (pd HB.out)
    refine rS (n:=8) (S:=fun w'=>w'.cell? ⟨gb141,0,none⟩=some (u142000)) (ds:=[7]) [(0,13),(2,15),(1,14),(3,0),(4,0),(5,0),(6,19),(7,0)] D2 rfl spec_l2Blank.tab5 spec_l2Blank.bits5 ((blk_cell BK141.out 0).trans rfl) (fun hHeld HT_ HW_=>?_)
    generalize wr.drew=w11 at HO_142000 BK140 BK141 HB hHeld ⊢
    refine rR ?_
    refine rO (N:=some 16) HT_ rfl rfl D2 D6 (fun K hK=>?_)
    refine Kd.R_make_step (Kd.int .u8) _ 5 D10 (N:=16) rfl 57 _ _ rfl a1 rfl rfl Try.underlying57 (.int .u8 0) 1 info5 rfl D6 D8 0 (ok:=fun _=>True) (okp:=fun _=>True) rfl (fun _ hk=>hk) trivial (od D0) (Nat.le_trans (Nat.mul_le_mul_right _ (od D0:a1.toNat≤281474976710656)) D8) (Below.refl _ _) (Nat.le_refl _) ?_
    intro v143 w12 ho13 hb hg_ hnew_
    clear hg_ hnew_
    (first|rw [← Ny142.out] at ho13|(simp only [Int.reduceToNat] at ho13;rw [← Ny142.out] at ho13))
    replace HO_142000:=eS HO_142000 (Kd.R_base ho13) hb
    have HO144:=am (Kd.R_lower ho13 (pz (yW HB)))
    replace BK140:=yb BK140 hb
    replace BK141:=yb BK141 hb
    replace HB:=yH HB hb
    clear hb ho13
    obtain ⟨Ao15,co15,eo15⟩:=Kd.R_slice HO144.out
    (first|subst eo15|(injection eo15 with f1_ f2_ f3_;have f4_:=f1_.symm;have f5_:=f3_.symm;clear f1_ f2_ f3_;subst f4_;subst f5_))
    refine hK.out _ _ ((blk_cell BK141.out 0).trans rfl) (fun hHeld=>?_)
    clear hK K
    refine rN (a':=?_) ?_ ?_
    rotate_left
    ·show Act.put _ (some 16) _=_
     simp only [Act.put,q1,q2,q3,i64_w,i32_w]
     rfl
    refine rO (N:=some 17) HT_ rfl rfl D2 D6 (fun K hK=>?_)
    refine value_ (w1:=?_) (v:=?_) D10 rfl ?_ ?_
    rotate_left 2
    ·go_simp
     constructor
     ·rfl
     rfl
    refine hK.out _ _ ((blk_cell (qa BK141.out _) 0).trans rfl) (fun hHeld=>?_)
    clear hK K
    refine rN (a':=?_) ?_ ?_
    rotate_left
    ·show Act.put _ (some 17) _=_
     simp only [Act.put,q1,q2,q3,i64_w,i32_w]
     rfl
    refine rO (N:=some 18) HT_ rfl rfl D2 D6 (fun K hK=>?_)
    refine Kd.S_append_step (Kd.slice 5 (Kd.int .u8)) (w0:=w) w.heap.size D10 (.tmp 14) (.tmp 17) 37 57 (.slice none 0 0) 24 rfl Try.underlying37 info57 rfl D6 D8 u142000 x142000_1 y142 [.slice Ao15 y142.length co15] (fun _=>True) (fun k_=>some k_=(.slice Ao15 y142.length co15:Value).ownBlock) rfl rfl ?aP (fun k_ hk_=>((Kd.R_mono (ok':=fun k_=>((fun _=>True)) k_∧some k_ ≠ (u142000:Value).ownBlock) (Kd.R_apart' (HO144.out) (Kd.S_typed HO_142000.out) D6) (fun k_ hk=>⟨trivial,hk.2⟩))).1 k_ hk_.symm) ?aF ?aO ?aB ?aS ?aL ?_
    (case aP=>exact Kd.M_row (Kd.R_mono (Kd.R_tight rfl (Kd.R_mono (ok':=fun k_=>((fun _=>True)) k_∧some k_ ≠ (u142000:Value).ownBlock) (Kd.R_apart' (HO144.out) (Kd.S_typed HO_142000.out) D6) (fun k_ hk=>⟨trivial,hk.2⟩))) (fun _ h_=>h_)))
    (case aB=>exact (yW HB))
    (case aF=>exact (fun _ _=>trivial))
    (case aO=>exact (by refine sS ?_;exact Kd.S_mono HO_142000.out (fun k_ hk=>⟨trivial,fun e_=>hk.2 e_⟩)))
    (case aS=>exact (pz (yW HB)))
    (case aL=>have:=LMc10.out;omega)
    intro v146 w14 ho hb hg hat
    rw [← Ny145.out] at ho
    have n0_:=am (blk_grown (g:=gb140) (o:=.cells #[.slice none 0 0] 43 (0,0)) (yB BK140) hg (Kd.S_ne HO_142000.out BK140.out D6))
    have n1_:=am (blk_grown (g:=gb141) (o:=.cells #[u142000] 43 (0,0)) (yB BK141) hg (Kd.S_ne HO_142000.out BK141.out D6))
    have n2_:=am (hb)
    have n3_:=am (ho)
    clear BK140
    clear BK141
    clear HB
    clear HO_142000
    clear HO144
    have BK140:=n0_
    have BK141:=n1_
    have HB:=n2_
    have HO147:=n3_
    clear n0_ n1_ n2_ n3_
    clear ho hb hg hat
    obtain ⟨Ao16,co16,eo16⟩:=Kd.S_slice HO147.out
    (first|subst eo16|(injection eo16 with f1_ f2_ f3_;have f4_:=f1_.symm;have f5_:=f3_.symm;clear f1_ f2_ f3_;subst f4_;subst f5_))
    refine hK.out _ _ ((blk_cell BK141.out 0).trans rfl) (fun hHeld=>?_)
    clear hK K
    refine rN (a':=?_) ?_ ?_
    rotate_left
    ·show Act.put _ (some 18) _=_
     simp only [Act.put,q1,q2,q3,i64_w,i32_w]
     rfl
    refine rR ?_
    refine rL (N:=none) HT_ rfl rfl D2 D6 (fun K hK=>?_)
    have hs17:w14.cell? ⟨gb141,0,none⟩=some (u142000):=(blk_cell BK141.out 0).trans rfl
    have hfs17:=blk_frozen BK141.out 0
    have hns17_0:=NB140_141.out
    have hms17_0:=NB141_140.out
    refine skip_ (w1:=?_) D10 rfl ?_ ?_
    rotate_left
    ·go_simp
     rfl
    refine hK.out _ _ ?_
    clear hK K
    refine rD HT_ D2 ?_
    try go_wp2
    go_roundg k1
    case measure=>have:=HK1.out;omega
    case rel=>exact ⟨(wrap64 (x6_1+1)),(y145),(.slice Ao16 y145.length co16),D1,H',⟨D17⟩,⟨by refine sS ?_;exact Kd.S_mono (Kd.S_far (p:=⟨gb141,0,none⟩) (Kd.S_types HO147.out BK141.out D6) (fun _ hk=>hk.2) (.slice Ao16 y145.length co16)) (fun _ hk=>trivial)⟩,⟨yF BK140⟩,⟨by refine sB ?_;refine blk_put (cs:=#[u142000]) ?_ 0 _ rfl;exact yB BK141⟩,⟨yW HB⟩⟩
   rw [if_neg c7] at H
   have c7b0:=decide_eq_false c7
   clear c7
   obtain rfl:=Option.some.inj H
   have hnb18:=NB141_140.out
   have hnc18:=NB140_141.out
   obtain ⟨hcz19_0,hfz19_0⟩:=yk1 BK141
   obtain ⟨Ao20,co20,eo20⟩:=Kd.S_slice HO_142000.out
   subst eo20
   obtain ⟨hcz21_0,hfz21_0⟩:=yk1 BK140
   go_wp2
   refine bodyPost_ret (results_cell_row rfl _ _ gb140 43 #[.slice Ao20 x142000_1.length co20] (0,0) _ rfl (by refine sB ?_;refine blk_put (cs:=#[.slice none 0 0]) ?_ 0 _ rfl;exact yB BK140) Try.underlying43 rfl D2) rfl ?_
   exact ⟨_,D3,by refine sS ?_;exact Kd.S_mono (Kd.S_far (p:=⟨gb140,0,none⟩) (Kd.S_types HO_142000.out BK140.out D6) (fun _ hk=>hk.2) (.slice Ao20 x142000_1.length co20)) (fun _ hk=>trivial),yW HB⟩

def spec_l1Times.l0:Nat→Int→Int→Int→Option (Int)
 | 0,_,_,_=>none
 | k+1,x5,x6,x7=>if x7 > 0 then (if (Go.bits .and .i64 x7 1)=1 then (if (wrap64 (x6*2)) > 255 then (spec_l1Times.l0 k (Go.bits .xor .i64 x5 x6) (Go.bits .xor .i64 (wrap64 (x6*2)) 283) (x7 / 2)) else (spec_l1Times.l0 k (Go.bits .xor .i64 x5 x6) (wrap64 (x6*2)) (x7 / 2))) else (if (wrap64 (x6*2)) > 255 then (spec_l1Times.l0 k x5 (Go.bits .xor .i64 (wrap64 (x6*2)) 283) (x7 / 2)) else (spec_l1Times.l0 k x5 (wrap64 (x6*2)) (x7 / 2)))) else (some ((x5) % 256))
def spec_l1Times.f (k:Nat) (a0:Int) (a1:Int):Option (Int):=spec_l1Times.l0 k 0 (wrap64 (a0)) (wrap64 (a1))
theorem spec_l1Times.mono_l:∀ k,(∀ y0 y1 y2,LeO (spec_l1Times.l0 k y0 y1 y2) (spec_l1Times.l0 (k+1) y0 y1 y2))
 | 0=>fun _ _ _ r h=>by simp [spec_l1Times.l0] at h
 | k+1=>by
  have ih0:=spec_l1Times.mono_l k
  intro y0 y1 y2
  unfold spec_l1Times.l0
  exact mm
theorem spec_l1Times.mono:∀ a0 a1 k,LeO (spec_l1Times.f k a0 a1) (spec_l1Times.f (k+1) a0 a1):=by
 intro a0 a1 k
 have ih0:=spec_l1Times.mono_l k
 unfold spec_l1Times.f
 exact mm
theorem spec_l1Times.calls (k:Nat) (a0:Int) (a1:Int) (r:Int) (w:World) (h:spec_l1Times.f k a0 a1=some r) :
  Calls Try.prog 174 #[.int .u8 a0, .int .u8 a1] w fun e w'=>e = .returned (.int .u8 r)∧Drawn0 w w':=by
 have H:=h
 unfold spec_l1Times.f at H
 clear h
 have H':=am H
 clear H
 go_enter Try.func174,Try.ntmps174
 go_wp2
 go_loopg [5,6,7] k (fun kq v5 v6 v7 w'=>∃ (x5_1:Int) (x6_1:Int) (x7_1:Int),v5 = .int .i64 x5_1∧v6 = .int .i64 x6_1∧v7 = .int .i64 x7_1∧Aside0 (spec_l1Times.l0 kq x5_1 x6_1 x7_1=some r)∧Aside0 (kq≤k)∧Drawn0 w w')
 case atStart=>exact ⟨(0),(wrap64 (a0)),(wrap64 (a1)),D1,D1,D1,H',⟨Nat.le_refl _⟩,D5⟩
 case round =>
  clear H'
  try clear c1
  try clear p2
  obtain ⟨x5_1,x6_1,x7_1,rfl,rfl,rfl,HA,HK1,⟨m1,rfl⟩⟩:=hrel
  cases gk with
  | zero=>exact absurd HA.out (by simp [spec_l1Times.l0])
  | succ k1 =>
   have H:=HA.out
   clear HA
   simp only [spec_l1Times.l0] at H
   by_cases c3:x7_1 > 0
   ·rw [if_pos c3] at H
    have c3b0:decide (0 < x7_1)=true:=decide_eq_true c3
    clear c3
    by_cases c4:(Go.bits .and .i64 x7_1 1)=1
    ·rw [if_pos c4] at H
     have c4b0:((Go.bits .and .i64 x7_1 1) == 1)=true:=beq_iff_eq.mpr c4
     have c4b1:((Go.bits .and .i64 x7_1 1) != 1)=false:=bne_eq_false_iff_eq.mpr c4
     clear c4
     by_cases c5:(wrap64 (x6_1*2)) > 255
     ·rw [if_pos c5] at H
      have c5b0:decide (255 < (wrap64 (x6_1*2)))=true:=decide_eq_true c5
      clear c5
      have H':=am H
      clear H
      go_wp2
      go_roundg k1
      case measure=>have:=HK1.out;omega
      case rel=>exact ⟨(Go.bits .xor .i64 x5_1 x6_1),(Go.bits .xor .i64 (wrap64 (x6_1*2)) 283),(x7_1 / 2),D1,D1,D1,H',⟨D17⟩,D5⟩
     rw [if_neg c5] at H
     have c5b0:decide (255 < (wrap64 (x6_1*2)))=false:=decide_eq_false c5
     clear c5
     have H':=am H
     clear H
     go_wp2
     go_roundg k1
     case measure=>have:=HK1.out;omega
     case rel=>exact ⟨(Go.bits .xor .i64 x5_1 x6_1),(wrap64 (x6_1*2)),(x7_1 / 2),D1,D1,D1,H',⟨D17⟩,D5⟩
    rw [if_neg c4] at H
    have c4b0:((Go.bits .and .i64 x7_1 1) == 1)=false:=beq_eq_false_iff_ne.mpr c4
    have c4b1:((Go.bits .and .i64 x7_1 1) != 1)=true:=bne_iff_ne.mpr c4
    by_cases c6:(wrap64 (x6_1*2)) > 255
    ·rw [if_pos c6] at H
     have c6b0:decide (255 < (wrap64 (x6_1*2)))=true:=decide_eq_true c6
     clear c6
     have H':=am H
     clear H
     go_wp2
     go_roundg k1
     case measure=>have:=HK1.out;omega
     case rel=>exact ⟨(x5_1),(Go.bits .xor .i64 (wrap64 (x6_1*2)) 283),(x7_1 / 2),D1,D1,D1,H',⟨D17⟩,D5⟩
    rw [if_neg c6] at H
    have c6b0:decide (255 < (wrap64 (x6_1*2)))=false:=decide_eq_false c6
    clear c6
    have H':=am H
    clear H
    go_wp2
    go_roundg k1
    case measure=>have:=HK1.out;omega
    case rel=>exact ⟨(x5_1),(wrap64 (x6_1*2)),(x7_1 / 2),D1,D1,D1,H',⟨D17⟩,D5⟩
   rw [if_neg c3] at H
   have c3b0:decide (0 < x7_1)=false:=decide_eq_false c3
   clear c3
   obtain rfl:=Option.some.inj H
   go_wp2
   go_ret
   exact ⟨D1,D5⟩

def spec_l1Power.l0:Nat→Int→Int→Int→Option (Int)
 | 0,_,_,_=>none
 | k+1,x0,x1,x5=>if x1 > 0 then ((spec_l1Times.f k x5 x0).bind fun t148=>(spec_l1Power.l0 k x0 (wrap64 (x1 - 1)) t148)) else (some x5)
def spec_l1Power.f (k:Nat) (a0:Int) (a1:Int):Option (Int):=spec_l1Power.l0 k a0 a1 1
theorem spec_l1Power.mono_l:∀ k,(∀ y0 y1 y2,LeO (spec_l1Power.l0 k y0 y1 y2) (spec_l1Power.l0 (k+1) y0 y1 y2))
 | 0=>fun _ _ _ r h=>by simp [spec_l1Power.l0] at h
 | k+1=>by
  have ih0:=spec_l1Power.mono_l k
  intro y0 y1 y2
  unfold spec_l1Power.l0
  exact mm
theorem spec_l1Power.mono:∀ a0 a1 k,LeO (spec_l1Power.f k a0 a1) (spec_l1Power.f (k+1) a0 a1):=by
 intro a0 a1 k
 have ih0:=spec_l1Power.mono_l k
 unfold spec_l1Power.f
 exact mm
theorem spec_l1Power.calls (k:Nat) (a0:Int) (a1:Int) (r:Int) (w:World) (h:spec_l1Power.f k a0 a1=some r) :
  Calls Try.prog 173 #[.int .u8 a0, .int .i64 a1] w fun e w'=>e = .returned (.int .u8 r)∧Drawn0 w w':=by
 have H:=h
 unfold spec_l1Power.f at H
 clear h
 have H':=am H
 clear H
 go_enter Try.func173,Try.ntmps173
 go_wp2
 go_loopg [1,5] k (fun kq v1 v5 w'=>∃ (x1_1:Int) (x5_1:Int),v1 = .int .i64 x1_1∧v5 = .int .u8 x5_1∧Aside0 (spec_l1Power.l0 kq a0 x1_1 x5_1=some r)∧Aside0 (kq≤k)∧Drawn0 w w')
 case atStart=>exact ⟨(a1),(1),D1,D1,H',⟨Nat.le_refl _⟩,D5⟩
 case round =>
  clear H'
  try clear c1
  try clear p2
  obtain ⟨x1_1,x5_1,rfl,rfl,HA,HK1,⟨m1,rfl⟩⟩:=hrel
  cases gk with
  | zero=>exact absurd HA.out (by simp [spec_l1Power.l0])
  | succ k1 =>
   have H:=HA.out
   clear HA
   simp only [spec_l1Power.l0] at H
   by_cases c3:x1_1 > 0
   ·rw [if_pos c3] at H
    have c3b0:decide (0 < x1_1)=true:=decide_eq_true c3
    clear c3
    obtain ⟨t148,A4,H⟩:=yo H
    have H':=am H
    clear H
    go_wp2_with (first|(refine gC 174 ?_;refine gM (some 12) Try.func174 (args:=#[.int .u8 x5_1, .int .u8 a0]) (spec_l1Times.calls k1 x5_1 a0 t148 _ A4.out) ?_;rintro e w' ⟨rfl,⟨nd,rfl⟩⟩;refine ⟨_,rfl,?_⟩))
    go_roundg k1
    case measure=>have:=HK1.out;omega
    case rel=>exact ⟨(wrap64 (x1_1 - 1)),(t148),D1,D1,H',⟨D17⟩,D5⟩
   rw [if_neg c3] at H
   have c3b0:decide (0 < x1_1)=false:=decide_eq_false c3
   clear c3
   obtain rfl:=Option.some.inj H
   go_wp2
   go_ret
   exact ⟨D1,D5⟩

end Go.Proofs.Ytajikfnpcobnpaa.PFnExactMendStripe
-- SHRUNK
-- HALVED
-- SQUEEZED
-- SQUEEZED2
-- SQUEEZED3
-- SQUEEZED4
-- SQUEEZED5
-- SQUEEZED6
