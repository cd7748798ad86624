import Derived.Test.YteflgifmdojahaaVFnRegeneratedB
import Derived.Test.YteflgifmdojahaaPFnRegeneratedx0
namespace Go.Proofs.Yteflgifmdojahaa.PFnRegenerated
open Go.RowKit Go.Proofs.YteflgifmdojahaaW.PrintWords Go.Proofs.YteflgifmdojahaaW.PrintLast Go.Proofs.YteflgifmdojahaaW.PrintMore Go.Proofs.Yteflgifmdojahaa.KitS
attribute [local go_sem] max2_int min2_int max_two min_two max_three min_three max_four min_four
set_option linter.unusedVariables false
set_option maxHeartbeats 8000000
set_option maxRecDepth 100000
set_option linter.unusedSimpArgs false
def spec_l5Row.f (k:Nat) (a0_0:Int) (a0_1:Int) (a1:Int):Option (List Int):=(spec_l5Short.f k a0_0 a0_1 a1).bind fun t154=>((some (([]:List Int):List Int)).bind fun y157=>(if y157.length+t154.length < 140737488355328 then ((some (y157 ++ t154:List Int)).bind fun y160=>((spec_l5F.f k a0_0 a0_1 a1).bind fun t163=>((spec_l1Scale.f k t163 t154).bind fun t164=>(if y160.length+t164.length < 140737488355328 then (some (y160 ++ t164)) else (none))))) else (none)))
theorem spec_l5Row.mono:∀ a0 a1 a2 k,LeO (spec_l5Row.f k a0 a1 a2) (spec_l5Row.f (k+1) a0 a1 a2):=by
 intro a0 a1 a2 k
 unfold spec_l5Row.f
 exact mm
def spec_l5Row.T2:Bool × List (List Nat × List Nat):=(true,[([],[]),([],[]),([0,1],[0,1]),([],[]),([],[]),([3,4,2],[3,4]),([],[]),([5,6,5],[5,6]),([2,7,7],[2,7]),([8,8,0,1,2,3,4,5,6,7,8],[8])])
def spec_l5Row.B2:List Nat:=[0,0,3,0,0,31,0,127,255,511]
theorem spec_l5Row.tab2:rtab .any (opsOf Try.f121 2)=spec_l5Row.T2:=by kernel_rfl
theorem spec_l5Row.bits2:waitsOk spec_l5Row.T2.2 spec_l5Row.B2=true:=by kernel_rfl
theorem spec_l5Row.calls (k:Nat) (a0_0:Int) (a0_1:Int) (a1:Int) (r:List Int) (w:World) (h:spec_l5Row.f k a0_0 a0_1 a1=some r) :
  Calls Try.prog 121 #[.agg #[.int .i64 a0_0, .int .i64 a0_1], .int .i64 a1] w fun e w'=>∃ v0_:Value,e = .returned (v0_)∧Kd.R (Kd.int .u8) 5 w' w.heap.size (fun _=>True) v0_ r∧Below w.heap.size w w':=by
 have hu30:=Try.underlying30
 have HB:=am (Below.refl w.heap.size w)
 have H:=h
 unfold spec_l5Row.f at H
 clear h
 obtain ⟨t154,A3,H⟩:=yo H
 obtain ⟨y157,hy157,H⟩:=ys H
 have Ny157:=am hy157
 clear hy157
 by_cases c4:y157.length+t154.length < 140737488355328
 ·rw [if_pos c4] at H
  have LMc4:=am c4
  clear c4
  obtain ⟨y160,hy160,H⟩:=ys H
  have Ny160:=am hy160
  clear hy160
  obtain ⟨t163,A5,H⟩:=yo H
  obtain ⟨t164,A6,H⟩:=yo H
  obtain ⟨c7,H⟩:=yi H
  have LMc7:=am c7
  clear c7
  generalize hy167:(y160 ++ t164:List Int)=y167 at H
  have Ny167:=am hy167.symm
  clear hy167
  obtain rfl:=Option.some.inj H
  go_enter Try.func121,Try.ntmps121
  try go_wp2_with (first|((with_reducible refine gD 2 ?_);refine gB (cs:=#[.int .i64 a0_0, .int .i64 a0_1]) 30 ?_;intro gb153 hg w8 hbox hb;have BK153:=am (hbox);have GW153:=ye HB hg;replace HB:=yH HB hb;have GE153:=GW153;clear hb hbox hg;obtain ⟨hcz9_0,hcz9_1,hfz9_0,hfz9_1⟩:=yk2 BK153)|((with_reducible refine gC 151 ?_);refine gM (some 8) Try.func151 (args:=#[.agg #[.int .i64 a0_0, .int .i64 a0_1], .int .i64 a1]) (spec_l5Short.calls k a0_0 a0_1 a1 t154 _ A3.out) ?_;rintro e w10 ⟨v155,rfl,ho0,hb⟩;refine ⟨_,rfl,?_⟩;have HO156:=am (Kd.R_lower ho0 (pz (yW HB)));replace BK153:=yb BK153 hb;replace HB:=yH HB hb;clear hb ho0))
  replace HO156:=am (Kd.R_drew HO156.out)
  replace BK153:=am (qd BK153.out)
  replace HB:=am (pd HB.out)
  refine rS (n:=10) (S:=fun w'=>w'.cell? ⟨gb153,0,none⟩=some (.int .i64 a0_0)∧w'.cell? ⟨gb153,1,none⟩=some (.int .i64 a0_1)) (ds:=[]) [(1,10),(4,13),(6,15),(3,12),(0,0),(2,0),(5,0),(7,0),(8,0),(9,4)] D2 rfl spec_l5Row.tab2 spec_l5Row.bits2 ⟨yk BK153 0,yk BK153 1⟩ (fun hHeld HT_ HW_=>?_)
  generalize w10.drew=w11 at HO156 BK153 HB hHeld ⊢
  refine rR ?_
  refine rO (N:=some 9) HT_ rfl rfl D2 D5 (fun K hK=>?_)
  refine Kd.R_lit_step (Kd.int .u8) _ 5 ?hg (N:=9) ?hd (xs:=([]:List Int)) (inner:=[]) (ok:=fun _=>True) (okp:=fun _=>True) ?hr ?hp (fun _ hk=>hk) trivial (Below.refl _ _) (Nat.le_refl _) D44 ?_;(case hd=>rfl);(case hg=>rfl);(case hr=>first|(go_simp;done)|(go_simp;rfl));(case hp=>exact (Reps.none _ _))
  intro v158 w12 ho13 hb hg_ hnew_
  clear hg_ hnew_
  (first|rw [← Ny157.out] at ho13|(simp only [Int.reduceToNat] at ho13;rw [← Ny157.out] at ho13))
  have HO159:=am (Kd.R_lower (Kd.R_new' ho13 (Kd.R_lt (yR HO156))) (pz (yW HB)))
  replace HO156:=eR HO156 (Kd.R_base ho13) hb
  replace BK153:=yb BK153 hb
  replace HB:=yH HB hb
  clear hb ho13
  obtain ⟨Ao15,co15,eo15⟩:=Kd.R_slice HO156.out
  (first|subst eo15|(injection eo15 with f1_ f2_ f3_;have f4_:=f1_.symm;have f5_:=f3_.symm;clear f1_ f2_ f3_;subst f4_;subst f5_))
  refine hK.out _ _ ⟨yk BK153 0,yk BK153 1⟩ (fun hHeld=>?_)
  clear hK K
  refine rN (nA 9) ?_
  refine rO (N:=some 11) HT_ rfl rfl D2 D5 (fun K hK=>?_)
  refine Kd.R_append_rows_step (Kd.int .u8) (w0:=w) w.heap.size D16 (.tmp 9) (.tmp 10) 24 5 (.int .u8 0) 1 rfl Try.underlying24 info5 rfl D5 D13 v158 y157 t154 _ _ _ (fun k_=>some k_ ≠ (.slice Ao15 t154.length co15:Value).ownBlock) (fun _=>False) rfl rfl ?aO ?aR (fun _ _ h=>h) (fun _ h=>h.elim) ?aF ?aB ?aS ?aL ?_
  (case aR=>repeat (first|exact (Kd.R_reads' HO156.out).2.2|(with_reducible refine Kd.C_alloc ?_ _)|(with_reducible refine Kd.C_drewN ?_ _)|(with_reducible refine Kd.C_drew ?_)))
  (case aB=>exact (yW HB))
  (case aF=>exact (fun k_ hk=>Kd.fresh' (Kd.R_lt (yR HO156)) k_ hk))
  (case aO=>exact (by refine sR ?_;exact Kd.R_mono HO159.out (fun _ hk=>hk.2)))
  (case aS=>exact (pz (yW HB)))
  (case aL=>have:=LMc4.out;omega)
  intro v161 w14 ho hb hg hat
  rw [← Ny160.out] at ho
  have n0_:=am (blk_grown (g:=gb153) (o:=.cells #[.int .i64 a0_0, .int .i64 a0_1] 30 (0,0)) (yB BK153) hg (Kd.R_ne HO159.out BK153.out D5))
  have n1_:=am (Kd.R_after (ok:=(fun _=>True)) (yR HO156) hg hat)
  have n2_:=am (hb)
  have n3_:=am (ho)
  clear BK153
  clear HO156
  clear HB
  clear HO159
  have BK153:=n0_
  have HO156:=n1_
  have HB:=n2_
  have HO162:=n3_
  clear n0_ n1_ n2_ n3_
  clear ho hb hg hat
  refine hK.out _ _ ⟨yk BK153 0,yk BK153 1⟩ (fun hHeld=>?_)
  clear hK K
  refine rN (nA 11) ?_
  refine rO (N:=some 14) HT_ rfl rfl D2 D5 (fun K hK=>?_)
  refine goes_ Try.func123 D2 rfl #[.agg #[.int .i64 a0_0, .int .i64 a0_1], .int .i64 a1] D16 rfl rfl D8 ?_
  with_reducible refine (spec_l5F.calls k a0_0 a0_1 a1 t163 _ A5.out).mono ?_
  rintro e w16 ⟨rfl,hb⟩
  refine ⟨_,rfl,?_⟩
  replace HO156:=bR HO156 hb
  replace HO162:=bR HO162 hb
  replace BK153:=yb BK153 hb
  replace HB:=yH HB hb
  (try clear hb)
  (try clear hb2)
  (try clear hk)
  (try clear hi)
  refine hK.out _ _ ⟨yk BK153 0,yk BK153 1⟩ (fun hHeld=>?_)
  clear hK K
  refine rN (nA 14) ?_
  refine rO (N:=some 16) HT_ rfl rfl D2 D5 (fun K hK=>?_)
  refine goes_ Try.func122 D2 rfl #[.int .u8 t163, .slice Ao15 t154.length co15] D16 rfl rfl D8 ?_
  with_reducible refine (spec_l1Scale.calls k t163 _ _ t154 t164 _ (yc (Kd.R_reads' HO156.out).2.2) (Kd.R_reads' HO156.out).2.1 A6.out).mono ?_
  rintro e w17 ⟨v165,rfl,ho0,hb⟩
  refine ⟨_,rfl,?_⟩
  have HO166:=am (Kd.R_lower (Kd.R_new' (Kd.R_new' ho0 (Kd.R_lt (yR HO156))) (Kd.R_lt (yR HO162))) (pz (yW HB)))
  replace HO156:=eR HO156 (Kd.R_base ho0) hb
  replace HO162:=eR HO162 (Kd.R_base ho0) hb
  replace BK153:=yb BK153 hb
  replace HB:=yH HB hb
  (try clear hb)
  (try clear hb2)
  (try clear hk)
  (try clear hi)
  (try clear ho0)
  obtain ⟨Ao19,co19,eo19⟩:=Kd.R_slice HO166.out
  (first|subst eo19|(injection eo19 with f1_ f2_ f3_;have f4_:=f1_.symm;have f5_:=f3_.symm;clear f1_ f2_ f3_;subst f4_;subst f5_))
  refine hK.out _ _ ⟨yk BK153 0,yk BK153 1⟩ (fun hHeld=>?_)
  clear hK K
  refine rN (nA 16) ?_
  refine rO (N:=some 17) HT_ rfl rfl D2 D5 (fun K hK=>?_)
  refine Kd.R_append_rows_step (Kd.int .u8) (w0:=w) w.heap.size D16 (.tmp 11) (.tmp 16) 24 5 (.int .u8 0) 1 rfl Try.underlying24 info5 rfl D5 D13 v161 y160 t164 _ _ _ (fun k_=>some k_ ≠ (.slice Ao15 t154.length co15:Value).ownBlock∧some k_ ≠ (.slice Ao19 t164.length co19:Value).ownBlock) (fun _=>False) rfl rfl ?aO ?aR (fun _ _ h=>h) (fun _ h=>h.elim) ?aF ?aB ?aS ?aL ?_
  (case aR=>repeat (first|exact (Kd.R_reads' HO166.out).2.2|(with_reducible refine Kd.C_alloc ?_ _)|(with_reducible refine Kd.C_drewN ?_ _)|(with_reducible refine Kd.C_drew ?_)))
  (case aB=>exact (yW HB))
  (case aF=>exact (fun k_ hk=>⟨Kd.fresh' (Kd.R_lt (yR HO156)) k_ hk,Kd.fresh' (Kd.R_lt (yR HO166)) k_ hk⟩))
  (case aO=>exact (yR HO162))
  (case aS=>exact (pz (yW HB)))
  (case aL=>have:=LMc7.out;omega)
  intro v168 w18 ho hb hg hat
  rw [← Ny167.out] at ho
  have n0_:=am (blk_grown (g:=gb153) (o:=.cells #[.int .i64 a0_0, .int .i64 a0_1] 30 (0,0)) (yB BK153) hg (Kd.R_ne HO162.out BK153.out D5))
  have n1_:=am (Kd.R_after (ok:=(fun k_=>some k_ ≠ (.slice Ao19 t164.length co19:Value).ownBlock)) (by refine sR ?_;exact Kd.R_mono HO156.out (fun _ hk=>⟨hk.2,hk.1.2⟩)) hg hat)
  have n2_:=am (Kd.R_after (ok:=(fun k_=>some k_ ≠ (.slice Ao15 t154.length co15:Value).ownBlock)) (by refine sR ?_;exact Kd.R_mono HO166.out (fun _ hk=>⟨hk.1.2,hk.2⟩)) hg hat)
  have n3_:=am (hb)
  have n4_:=am (ho)
  clear BK153
  clear HO156
  clear HO166
  clear HB
  clear HO162
  have BK153:=n0_
  have HO156:=n1_
  have HO166:=n2_
  have HB:=n3_
  have HO169:=n4_
  clear n0_ n1_ n2_ n3_ n4_
  clear ho hb hg hat
  refine hK.out _ _ ⟨yk BK153 0,yk BK153 1⟩ (fun hHeld=>?_)
  clear hK K
  refine rN (nA 17) ?_
  refine rR ?_
  refine rD HT_ D2 ?_
  try go_wp2
  go_ret
  exact ⟨_,D3,by refine sR ?_;exact Kd.R_mono HO169.out (fun _ hk=>trivial),yW HB⟩
 rw [if_neg c4] at H
 exact absurd H D44

mutual
def spec_l2Transposed.l0:Nat→List (List Int)→Int→Int→List (List Int)→Option ((List (List Int)))
 | 0,_,_,_,_=>none
 | k+1,x18,x19,x20,x177000=>if x20 < x19 then (if 0≤x20 then (if x20 < (x18.length:Int) then (spec_l2Transposed.l1 k x20 x18 x19 x20 (rd_L1 x18 x20) ((rd_L1 x18 x20).length:Int) 0 x177000) else (none)) else (none)) else (some x177000)
def spec_l2Transposed.l1:Nat→Int→List (List Int)→Int→Int→List Int→Int→Int→List (List Int)→Option ((List (List Int)))
 | 0,_,_,_,_,_,_,_,_=>none
 | k+1,x4,x18,x19,x20,x25,x26,x27,x177000=>if x27 < x26 then (if 0≤x27 then (if x27 < (x25.length:Int) then (if x27 < (x177000.length:Int) then (if 0≤x4 then (if x4 < ((rd_L1 x177000 x27).length:Int) then (spec_l2Transposed.l1 k x4 x18 x19 x20 x25 x26 (wrap64 (x27+1)) (x177000.set (x27:Int).toNat ((rd_L1 x177000 x27).set (x4:Int).toNat (rd x25 x27)))) else (none)) else (none)) else (none)) else (none)) else (none)) else (spec_l2Transposed.l0 k x18 x19 (wrap64 (x20+1)) x177000)
end
def spec_l2Transposed.f (k:Nat) (l0_0:List (List Int)):Option ((List (List Int))):=if 0 < (l0_0.length:Int) then ((spec_l2Blank.f k ((rd_L1 l0_0 0).length:Int) (l0_0.length:Int)).bind fun t173=>(spec_l2Transposed.l0 k l0_0 (l0_0.length:Int) 0 t173)) else (none)
theorem spec_l2Transposed.mono_l:∀ k,(∀ y0 y1 y2 y3,LeO (spec_l2Transposed.l0 k y0 y1 y2 y3) (spec_l2Transposed.l0 (k+1) y0 y1 y2 y3))∧(∀ y0 y1 y2 y3 y4 y5 y6 y7,LeO (spec_l2Transposed.l1 k y0 y1 y2 y3 y4 y5 y6 y7) (spec_l2Transposed.l1 (k+1) y0 y1 y2 y3 y4 y5 y6 y7))
 | 0=>⟨fun _ _ _ _ r h=>by simp [spec_l2Transposed.l0] at h,fun _ _ _ _ _ _ _ _ r h=>by simp [spec_l2Transposed.l1] at h⟩
 | k+1=>by
  obtain ⟨ih0,ih1⟩:=spec_l2Transposed.mono_l k
  refine ⟨?_,?_⟩
  ·intro y0 y1 y2 y3
   unfold spec_l2Transposed.l0
   exact mm
  intro y0 y1 y2 y3 y4 y5 y6 y7
  unfold spec_l2Transposed.l1
  exact mm
theorem spec_l2Transposed.mono:∀ a0 k,LeO (spec_l2Transposed.f k a0) (spec_l2Transposed.f (k+1) a0):=by
 intro a0 k
 obtain ⟨ih0,ih1⟩:=spec_l2Transposed.mono_l k
 unfold spec_l2Transposed.f
 exact mm
def spec_l2Transposed.T1:Bool × List (List Nat × List Nat):=(true,[([],[]),([0],[0]),([1],[1]),([2],[2]),([3],[3]),([],[]),([5],[5]),([6],[6]),([4,7],[4,7]),([],[]),([9,8,8,0,1,2,3,4,5,6,7,8,9],[8,9])])
def spec_l2Transposed.B1:List Nat:=[0,1,3,7,15,0,32,96,255,0,1023]
theorem spec_l2Transposed.tab1:rtab .any (opsOf Try.f126 1)=spec_l2Transposed.T1:=by kernel_rfl
theorem spec_l2Transposed.bits1:waitsOk spec_l2Transposed.T1.2 spec_l2Transposed.B1=true:=by kernel_rfl
theorem spec_l2Transposed.calls (k:Nat) (A0_0:Option Addr) (c0_0:Nat) (l0_0:List (List Int)) (r:List (List Int)) (w:World) (hr0_0:Kd.C (Kd.slice 5 (Kd.int .u8)) w A0_0 l0_0.length l0_0) (hc0_0:l0_0.length≤c0_0) (h:spec_l2Transposed.f k l0_0=some r) :
  Calls Try.prog 126 #[.agg #[.slice A0_0 l0_0.length c0_0]] w fun e w'=>∃ v0_:Value,e = .returned (.agg #[v0_])∧Kd.S (Kd.slice 5 (Kd.int .u8)) 24 w' w.heap.size (fun _=>True) v0_ r∧Below w.heap.size w w':=by
 have hu27:=Try.underlying27
 have HR0_0:=am hr0_0
 have HC0_0:=am hc0_0
 clear hr0_0 hc0_0
 have HB:=am (Below.refl w.heap.size w)
 have H:=h
 unfold spec_l2Transposed.f at H
 clear h
 by_cases c2:0 < (l0_0.length:Int)
 ·rw [if_pos c2] at H
  have c2b0:=decide_eq_true c2
  have c2b1:decide (0 < l0_0.length)=true:=decide_eq_true D13
  clear c2
  obtain ⟨t173,A3,H⟩:=yo H
  have H':=am H
  clear H
  go_enter Try.func126,Try.ntmps126
  try go_wp2_with (first|((with_reducible refine gD 1 ?_);refine gB (cs:=#[.slice A0_0 l0_0.length c0_0]) 27 ?_;intro gb170 hg w4 hbox hb;have BK170:=am (hbox);have GW170:=ye HB hg;replace HB:=yH HB hb;have GE170:=GW170;clear hb hbox hg)|((with_reducible refine gD 2 ?_);refine gB (cs:=#[.slice none 0 0]) 27 ?_;intro gb171 hg w5 hbox hb;have BK171:=am (hbox);have GW171:=ye HB hg;replace HB:=yH HB hb;have NB170_171:=yl BK170 hg;have NB171_170:=yg BK170 hg;replace BK170:=yb BK170 hb;have GE171:=GW171;clear hb hbox hg))
  replace BK170:=am (qd BK170.out)
  replace BK171:=am (qd BK171.out)
  replace HB:=am (pd HB.out)
  have p172:0≤(0:Int):=D13
  have q172:0 < (l0_0.length:Int):=od D0
  obtain ⟨ad172,A172_0,c172_0,e172,hx172_0,hl172_0,hi172_0⟩:=at_L1 HR0_0.out 0 p172 q172
  have hw172_0:=hx172_0
  (try rw [show ((0:Int)).toNat=0 from rfl] at hw172_0)
  (try rw [show 0*1=0 from rfl] at hw172_0)
  (try rw [Addr.add_zero'] at hw172_0)
  cases e172
  have qi172:(0 < l0_0.length)=True:=eq_true D13
  (try rw [show ((0:Int)).toNat=0 from rfl] at hx172_0)
  (try rw [Addr.add_zero'] at hx172_0)
  replace hx172_0:=(HB.out.cell (World.block_lt_of_cell? w _ hx172_0)).trans hx172_0
  have HR172_0:=am hi172_0
  have HC172_0:=am hl172_0
  clear hi172_0 hl172_0
  replace p172:=eq_true p172
  replace q172:=eq_true q172
  refine start_ (n:=11) (S:=fun w'=>w'.cell? ⟨gb170,0,none⟩=some (.slice (some ad172) l0_0.length c0_0)∧w'.cell? ad172=some (.slice A172_0 (rd_L1 l0_0 0).length c172_0)) (ds:=[]) #[Z,Z,Z,Z,Z,Z,Z,Z,Z,Z,Z] D2 rfl rfl ⟨yk BK170 0,((HB.out.cell (World.block_lt_of_cell? w _ hw172_0)).trans hw172_0)⟩ (fun hHeld=>?_);refine with_tabW spec_l2Transposed.tab1 spec_l2Transposed.bits1 (fun HT_ HW_=>?_)
  generalize w5.drew=w6 at BK170 BK171 HB HR172_0 hx172_0 hHeld ⊢
  refine pure_ (i:=0) (N:=some 8) (v:=?_) (a':=?_) #[Y,Z,Z,Z,Z,Z,Z,Z,Z,Z,Z] rfl rfl (any_of HT_.out D2) hh (Or.inl ⟨D16,?_⟩) ?_ ?_
  rotate_left
  ·intro w'
   go_simp
   with_reducible rfl
  rotate_left
  ·simp only [Act.put,q1,q2,q3,i64_w,i32_w]
   rfl
  refine pure_ (i:=5) (N:=some 13) (v:=?_) (a':=?_) #[Y,Z,Z,Z,Z,Y,Z,Z,Z,Z,Z] rfl rfl (any_of HT_.out D2) hh (Or.inl ⟨D16,?_⟩) ?_ ?_
  rotate_left
  ·intro w'
   go_simp
   with_reducible rfl
  rotate_left
  ·simp only [Act.put,q1,q2,q3,i64_w,i32_w]
   rfl
  refine take_ (i:=1) (N:=some 9) (v:=?_) (a':=?_) #[Y,Y,Z,Z,Z,Y,Z,Z,Z,Z,Z] rfl rfl (take_ofW HT_.out HW_.out D2) hh (Or.inl ⟨D16,?_⟩) hHeld ?_ ?_
  rotate_left
  ·rintro w' ⟨s0,s1⟩
   go_simp
   with_reducible rfl
  rotate_left
  ·simp only [Act.put,q1,q2,q3,i64_w,i32_w]
   rfl
  refine pure_ (i:=2) (N:=some 10) (v:=?_) (a':=?_) #[Y,Y,Y,Z,Z,Y,Z,Z,Z,Z,Z] rfl rfl (any_of HT_.out D2) hh (Or.inl ⟨D16,?_⟩) ?_ ?_
  rotate_left
  ·intro w'
   go_simp
   with_reducible rfl
  rotate_left
  ·simp only [Act.put,q1,q2,q3,i64_w,i32_w]
   rfl
  refine take_ (i:=3) (N:=some 11) (v:=?_) (a':=?_) #[Y,Y,Y,Y,Z,Y,Z,Z,Z,Z,Z] rfl rfl (take_ofW HT_.out HW_.out D2) hh (Or.inl ⟨D16,?_⟩) hHeld ?_ ?_
  rotate_left
  ·rintro w' ⟨s0,s1⟩
   go_simp
   with_reducible rfl
  rotate_left
  ·simp only [Act.put,q1,q2,q3,i64_w,i32_w]
   rfl
  refine pure_ (i:=4) (N:=some 12) (v:=?_) (a':=?_) #[Y,Y,Y,Y,Y,Y,Z,Z,Z,Z,Z] rfl rfl (any_of HT_.out D2) hh (Or.inl ⟨D16,?_⟩) ?_ ?_
  rotate_left
  ·intro w'
   go_simp
   with_reducible rfl
  rotate_left
  ·simp only [Act.put,q1,q2,q3,i64_w,i32_w]
   rfl
  refine take_ (i:=6) (N:=some 14) (v:=?_) (a':=?_) #[Y,Y,Y,Y,Y,Y,Y,Z,Z,Z,Z] rfl rfl (take_ofW HT_.out HW_.out D2) hh (Or.inl ⟨D16,?_⟩) hHeld ?_ ?_
  rotate_left
  ·rintro w' ⟨s0,s1⟩
   go_simp
   with_reducible rfl
  rotate_left
  ·simp only [Act.put,q1,q2,q3,i64_w,i32_w]
   rfl
  refine pure_ (i:=7) (N:=some 15) (v:=?_) (a':=?_) #[Y,Y,Y,Y,Y,Y,Y,Y,Z,Z,Z] rfl rfl (any_of HT_.out D2) hh (Or.inl ⟨D16,?_⟩) ?_ ?_
  rotate_left
  ·intro w'
   go_simp
   with_reducible rfl
  rotate_left
  ·simp only [Act.put,q1,q2,q3,i64_w,i32_w]
   rfl
  refine join_ (σ:=Value × Nat) 1 #[Y,Y,Y,Y,Y,Y,Y,Y,Y,Y,Z] (fun s_=>[(16, .agg #[s_.1]),(3, .pointer (some ⟨s_.2,0,none⟩))]) (fun s_ w'=>(w'.cell? ⟨gb170,0,none⟩=some (.slice (some ad172) l0_0.length c0_0)∧w'.cell? ad172=some (.slice A172_0 (rd_L1 l0_0 0).length c172_0))∧(Kd.S (Kd.slice 5 (Kd.int .u8)) 24 w' w.heap.size (fun _=>True) s_.1 t173)∧(w'.heap[gb170]? = some (.cells #[.slice (some ad172) l0_0.length c0_0] 27 (0,0)))∧(w'.heap[gb171]? = some (.cells #[.slice none 0 0] 27 (0,0)))∧(w'.heap[s_.2]? = some (.cells #[.slice none 0 0] 27 (0,0)))∧(w.heap.size≤s_.2)∧(w.heap.size≤s_.2)∧(gb170 ≠ s_.2)∧(s_.2 ≠ gb170)∧(gb171 ≠ s_.2)∧(s_.2 ≠ gb171)∧(Below w.heap.size w w')) ?_ ?_
  rotate_left
  ·intro hCont
   refine two_ (i:=8) (j:=9) (Ni:=some 16) (Nj:=some 3) #[Y,Y,Y,Y,Y,Y,Y,Y,Y,Z,Z] #[Y,Y,Y,Y,Y,Y,Y,Y,Z,Y,Z] rfl rfl rfl rfl (two_of HT_.out D2) D5 D5 (fun K hK=>?_) (fun K hK=>?_)
   ·skip
    refine goes_ Try.func124 D2 rfl #[.int .i64 ((rd_L1 l0_0 0).length:Int), .int .i64 (l0_0.length:Int)] D16 rfl rfl D8 ?_
    with_reducible refine (spec_l2Blank.calls k ((rd_L1 l0_0 0).length:Int) (l0_0.length:Int) t173 _ A3.out).mono ?_
    rintro e w7 ⟨v174,rfl,ho0,hb⟩
    refine ⟨_,rfl,?_⟩
    have HO175:=am (Kd.S_lower ho0 (pz (yW HB)))
    replace BK170:=yb BK170 hb
    replace BK171:=yb BK171 hb
    replace HB:=yH HB hb
    (try clear hb)
    (try clear hb2)
    (try clear hk)
    (try clear hi)
    (try clear ho0)
    refine hK.out _ _ ⟨yk BK170 0,((HB.out.cell (World.block_lt_of_cell? w _ hw172_0)).trans hw172_0)⟩ (fun hHeld=>?_)
    clear hK K
    refine norm_ (nA 16) ?_
    refine one_ (i:=9) (N:=some 3) #[Y,Y,Y,Y,Y,Y,Y,Y,Y,Y,Z] rfl rfl (one_of HT_.out D2) D5 (fun K hK=>?_)
    refine box_step ?hg (N:=3) ?hd (cs:=#[.slice none 0 0]) (t:=27) ?hr ?_;(case hd=>rfl);(case hg=>rfl);(case hr=>first|(go_simp;done)|(go_simp;rfl))
    intro gb176 hg w8 hbox hb
    replace HO175:=bS HO175 hb
    have BK176:=am (hbox)
    have GW176:=ye HB hg
    replace HB:=yH HB hb
    have NB170_176:=yl BK170 hg
    have NB176_170:=yg BK170 hg
    replace BK170:=yb BK170 hb
    have NB171_176:=yl BK171 hg
    have NB176_171:=yg BK171 hg
    replace BK171:=yb BK171 hb
    have GE176:=GW176
    clear hb hbox hg
    refine hK.out _ _ ⟨yk BK170 0,((HB.out.cell (World.block_lt_of_cell? w _ hw172_0)).trans hw172_0)⟩ (fun hHeld=>?_)
    clear hK K
    refine norm_ (nA 3) ?_
    exact norm_ D83 (hCont (v174,gb176) _ ⟨hHeld,(yS HO175),(yB BK170),(yB BK171),(yB BK176),GW176.out,GE176.out,NB170_176.out,NB176_170.out,NB171_176.out,NB176_171.out,(yW HB)⟩)
   skip
   refine box_step ?hg (N:=3) ?hd (cs:=#[.slice none 0 0]) (t:=27) ?hr ?_;(case hd=>rfl);(case hg=>rfl);(case hr=>first|(go_simp;done)|(go_simp;rfl))
   intro gb176 hg w7 hbox hb
   have BK176:=am (hbox)
   have GW176:=ye HB hg
   replace HB:=yH HB hb
   have NB170_176:=yl BK170 hg
   have NB176_170:=yg BK170 hg
   replace BK170:=yb BK170 hb
   have NB171_176:=yl BK171 hg
   have NB176_171:=yg BK171 hg
   replace BK171:=yb BK171 hb
   have GE176:=GW176
   clear hb hbox hg
   refine hK.out _ _ ⟨yk BK170 0,((HB.out.cell (World.block_lt_of_cell? w _ hw172_0)).trans hw172_0)⟩ (fun hHeld=>?_)
   clear hK K
   refine norm_ (nA 3) ?_
   refine one_ (i:=8) (N:=some 16) #[Y,Y,Y,Y,Y,Y,Y,Y,Y,Y,Z] rfl rfl (one_of HT_.out D2) D5 (fun K hK=>?_)
   refine goes_ Try.func124 D2 rfl #[.int .i64 ((rd_L1 l0_0 0).length:Int), .int .i64 (l0_0.length:Int)] D16 rfl rfl D8 ?_
   with_reducible refine (spec_l2Blank.calls k ((rd_L1 l0_0 0).length:Int) (l0_0.length:Int) t173 _ A3.out).mono ?_
   rintro e w8 ⟨v174,rfl,ho0,hb⟩
   refine ⟨_,rfl,?_⟩
   have HO175:=am (Kd.S_lower ho0 (pz (yW HB)))
   replace BK170:=yb BK170 hb
   replace BK171:=yb BK171 hb
   replace BK176:=yb BK176 hb
   replace HB:=yH HB hb
   (try clear hb)
   (try clear hb2)
   (try clear hk)
   (try clear hi)
   (try clear ho0)
   refine hK.out _ _ ⟨yk BK170 0,((HB.out.cell (World.block_lt_of_cell? w _ hw172_0)).trans hw172_0)⟩ (fun hHeld=>?_)
   clear hK K
   refine norm_ (nA 16) ?_
   exact norm_ D83 (hCont (v174,gb176) _ ⟨hHeld,(yS HO175),(yB BK170),(yB BK171),(yB BK176),GW176.out,GE176.out,NB170_176.out,NB176_170.out,NB171_176.out,NB176_171.out,(yW HB)⟩)
  rintro ⟨v174,gb176⟩ w9 ⟨hS_,h0_,h1_,h2_,h3_,h4_,h5_,h6_,h7_,h8_,h9_,h10_⟩
  have n0_:Aside0 (Kd.S (Kd.slice 5 (Kd.int .u8)) 24 w9 w.heap.size (fun _=>True) v174 t173):=⟨h0_⟩
  have n1_:Aside0 (w9.heap[gb170]? = some (.cells #[.slice (some ad172) l0_0.length c0_0] 27 (0,0))):=⟨h1_⟩
  have n2_:Aside0 (w9.heap[gb171]? = some (.cells #[.slice none 0 0] 27 (0,0))):=⟨h2_⟩
  have n3_:Aside0 (w9.heap[gb176]? = some (.cells #[.slice none 0 0] 27 (0,0))):=⟨h3_⟩
  have n4_:Aside0 (w.heap.size≤gb176):=⟨h4_⟩
  have n5_:Aside0 (w.heap.size≤gb176):=⟨h5_⟩
  have n6_:Aside0 (gb170 ≠ gb176):=⟨h6_⟩
  have n7_:Aside0 (gb176 ≠ gb170):=⟨h7_⟩
  have n8_:Aside0 (gb171 ≠ gb176):=⟨h8_⟩
  have n9_:Aside0 (gb176 ≠ gb171):=⟨h9_⟩
  have n10_:Aside0 (Below w.heap.size w w9):=⟨h10_⟩
  clear BK170
  clear BK171
  clear HB
  clear h0_ h1_ h2_ h3_ h4_ h5_ h6_ h7_ h8_ h9_ h10_
  have HO175:=n0_
  have BK170:=n1_
  have BK171:=n2_
  have BK176:=n3_
  have GW176:=n4_
  have GE176:=n5_
  have NB170_176:=n6_
  have NB176_170:=n7_
  have NB171_176:=n8_
  have NB176_171:=n9_
  have HB:=n10_
  clear n0_ n1_ n2_ n3_ n4_ n5_ n6_ n7_ n8_ n9_ n10_
  have hHeld:w9.cell? ⟨gb170,0,none⟩=some (.slice (some ad172) l0_0.length c0_0)∧w9.cell? ad172=some (.slice A172_0 (rd_L1 l0_0 0).length c172_0):=hS_
  obtain ⟨Ao10,co10,eo10⟩:=Kd.S_slice HO175.out
  (first|subst eo10|(injection eo10 with f1_ f2_ f3_;have f4_:=f1_.symm;have f5_:=f3_.symm;clear f1_ f2_ f3_;subst f4_;subst f5_))
  refine norm_ (a':=?_) ?_ ?_
  rotate_left
  ·simp only [putAll,Act.put,q1,q2,q3]
   rfl
  refine one_ (i:=10) (N:=none) #[Y,Y,Y,Y,Y,Y,Y,Y,Y,Y,Y] rfl rfl (one_of HT_.out D2) D5 (fun K hK=>?_)
  have hs11:w9.cell? ⟨gb176,0,none⟩=some (.slice none 0 0):=(blk_cell BK176.out 0).trans rfl
  have hfs11:=blk_frozen BK176.out 0
  have hns11_0:=NB170_176.out
  have hns11_1:=NB171_176.out
  have hms11_0:=NB176_170.out
  have hms11_1:=NB176_171.out
  refine skip_ (w1:=?_) D16 rfl ?_ ?_
  rotate_left
  ·go_simp
   rfl
  refine hK.out _ _ ⟨((cell_far (p:=⟨gb176,_,none⟩) NB170_176.out _).trans (hHeld.1)),((cell_far (p:=⟨gb176,_,none⟩) (by first|exact Nat.ne_of_lt (Nat.lt_of_lt_of_le (by have:=World.block_lt_of_cell? _ _ hw172_0;first|rwa [add_block] at this|exact this) GW176.out)|(rw [add_block];exact Nat.ne_of_lt (Nat.lt_of_lt_of_le (by have:=World.block_lt_of_cell? _ _ hw172_0;first|rwa [add_block] at this|exact this) GW176.out))|(show (Addr.add _ _).block ≠ _;rw [add_block];exact Nat.ne_of_lt (Nat.lt_of_lt_of_le (by have:=World.block_lt_of_cell? _ _ hw172_0;first|rwa [add_block] at this|exact this) GW176.out))|(dsimp only;exact Nat.ne_of_lt (Nat.lt_of_lt_of_le (by have:=World.block_lt_of_cell? _ _ hw172_0;first|rwa [add_block] at this|exact this) GW176.out))) _).trans (hHeld.2))⟩ (fun hHeld=>?_)
  clear hK K
  refine done_ (done_of HT_.out D2) ?_
  have hnb12:=NB170_171.out
  have hnc12:=NB171_170.out
  have hnb13:=NB170_176.out
  have hnc13:=NB176_170.out
  obtain ⟨hcz14_0,hfz14_0⟩:=yk1 BK170
  try go_wp2
  go_loopg [20] k (fun kq v20 w'=>∃ (x20_1:Int) (x177000_1:List (List Int)) (u177000:Value),v20 = .int .i64 x20_1∧Aside0 (spec_l2Transposed.l0 kq l0_0 (l0_0.length:Int) x20_1 x177000_1=some r)∧Aside0 (kq≤k)∧Aside0 (Kd.S (Kd.slice 5 (Kd.int .u8)) 24 w' w.heap.size (fun _=>True) u177000 x177000_1)∧Aside0 (w'.heap[gb170]? = some (.cells #[(.slice (some ad172) l0_0.length c0_0)] 27 (0,0)))∧Aside0 (w'.heap[gb171]? = some (.cells #[(.slice none 0 0)] 27 (0,0)))∧Aside0 (w'.heap[gb176]? = some (.cells #[u177000] 27 (0,0)))∧Aside0 (Below w.heap.size w w'))
  case atStart=>exact ⟨(0),(t173),(.slice Ao10 t173.length co10),D1,H',⟨Nat.le_refl _⟩,⟨by refine sS ?_;exact Kd.S_mono (Kd.S_far (p:=⟨gb176,0,none⟩) (Kd.S_types HO175.out BK176.out D5) (fun _ hk=>hk.2) (.slice Ao10 t173.length co10)) (fun _ hk=>trivial)⟩,⟨yF BK170⟩,⟨yF BK171⟩,⟨by refine sB ?_;refine blk_put (cs:=#[.slice none 0 0]) ?_ 0 _ rfl;exact yB BK176⟩,⟨yW HB⟩⟩
  case round =>
   clear H'
   try clear c1
   try clear p1
   try clear q1
   try clear hx1
   try clear qi1
   try clear c2
   try clear c2b0
   try clear c2b1
   try clear p2
   try clear c12
   try clear c13
   try clear hcz14_0
   try clear hfz14_0
   try clear hx172_0
   try clear p172
   try clear q172
   obtain ⟨x20_1,x177000_1,u177000,rfl,HA,HK1,HO_177000,BK170,BK171,BK176,HB⟩:=hrel
   cases gk with
   | zero=>exact absurd HA.out (by simp [spec_l2Transposed.l0])
   | succ k1 =>
    have H:=HA.out
    clear HA
    simp only [spec_l2Transposed.l0] at H
    by_cases c15:x20_1 < (l0_0.length:Int)
    ·rw [if_pos c15] at H
     have c15b0:=decide_eq_true c15
     clear c15
     obtain ⟨c16,H⟩:=yi H
     have c16b0:=decide_eq_true c16
     clear c16
     obtain ⟨c17,H⟩:=yi H
     have c17b0:=decide_eq_true c17
     clear c17
     have H':=am H
     clear H
     have p177:0≤(x20_1:Int):=od D0
     have q177:x20_1 < (l0_0.length:Int):=od D0
     obtain ⟨ad177,A177_0,c177_0,e177,hx177_0,hl177_0,hi177_0⟩:=at_L1 HR0_0.out x20_1 p177 q177
     obtain rfl:ad172=ad177:=(by injection e177)
     replace hx177_0:=(HB.out.cell (World.block_lt_of_cell? w _ hx177_0)).trans hx177_0
     have HR177_0:=am hi177_0
     have HC177_0:=am hl177_0
     clear hi177_0 hl177_0
     replace p177:=eq_true p177
     replace q177:=eq_true q177
     go_wp2
     go_loopg [27] k1 (fun kq v27 w'=>∃ (x27_2:Int) (x177000_2:List (List Int)) (u177000:Value),v27 = .int .i64 x27_2∧Aside0 (spec_l2Transposed.l1 kq x20_1 l0_0 (l0_0.length:Int) x20_1 (rd_L1 l0_0 x20_1) ((rd_L1 l0_0 x20_1).length:Int) x27_2 x177000_2=some r)∧Aside0 (kq≤k1)∧Aside0 (Kd.S (Kd.slice 5 (Kd.int .u8)) 24 w' w.heap.size (fun _=>True) u177000 x177000_2)∧Aside0 (w'.heap[gb170]? = some (.cells #[(.slice (some ad172) l0_0.length c0_0)] 27 (0,0)))∧Aside0 (w'.heap[gb171]? = some (.cells #[(.slice none 0 0)] 27 (0,0)))∧Aside0 (w'.heap[gb176]? = some (.cells #[u177000] 27 (0,0)))∧Aside0 (Below w.heap.size w w'))
     case atStart=>exact ⟨(0),(x177000_1),(u177000),D1,H',⟨Nat.le_refl _⟩,⟨yS HO_177000⟩,⟨yB BK170⟩,⟨yB BK171⟩,⟨yB BK176⟩,⟨yW HB⟩⟩
     case round =>
      clear H'
      try clear c1
      try clear p1
      try clear q1
      try clear hx1
      try clear qi1
      try clear c2
      try clear c2b0
      try clear c2b1
      try clear p2
      try clear c12
      try clear c13
      try clear c15
      try clear c15b0
      try clear c16
      try clear c16b0
      try clear c17
      try clear c17b0
      try clear p17
      try clear q17
      try clear hx17
      try clear qi17
      try clear hcz14_0
      try clear hfz14_0
      try clear hx172_0
      try clear hx177_0
      try clear p1
      try clear p172
      try clear p177
      try clear p2
      try clear q1
      try clear q172
      try clear q177
      obtain ⟨x27_2,x177000_2,u177000,rfl,HA,HK2,HO_177000,BK170,BK171,BK176,HB⟩:=hrel
      cases gk with
      | zero=>exact absurd HA.out (by simp [spec_l2Transposed.l1])
      | succ k2 =>
       have H:=HA.out
       clear HA
       simp only [spec_l2Transposed.l1] at H
       by_cases c18:x27_2 < ((rd_L1 l0_0 x20_1).length:Int)
       ·rw [if_pos c18] at H
        have c18b0:=decide_eq_true c18
        clear c18
        obtain ⟨c19,H⟩:=yi H
        have c19b0:=decide_eq_true c19
        clear c19
        obtain ⟨c20,H⟩:=yi H
        have c20b0:=decide_eq_true c20
        clear c20
        obtain ⟨c21,H⟩:=yi H
        have c21b0:=decide_eq_true c21
        clear c21
        obtain ⟨c22,H⟩:=yi H
        have c22b0:=decide_eq_true c22
        clear c22
        obtain ⟨c23,H⟩:=yi H
        have c23b0:=decide_eq_true c23
        clear c23
        generalize hy180:((rd_L1 x177000_2 x27_2).set (x20_1:Int).toNat (rd (rd_L1 l0_0 x20_1) x27_2):List Int)=y180 at H
        have Ny180:=am hy180.symm
        clear hy180
        generalize hy182:(x177000_2.set (x27_2:Int).toNat y180:List (List Int))=y182 at H
        have Ny182:=am hy182.symm
        clear hy182
        have H':=am H
        clear H
        have p178:0≤(x27_2:Int):=od D0
        have q178:x27_2 < ((rd_L1 l0_0 x20_1).length:Int):=od D0
        obtain ⟨ad178,e178,hx178_0⟩:=Kd.at_int HR177_0.out x27_2 p178 q178
        cases e178
        replace hx178_0:=(HB.out.cell (World.block_lt_of_cell? w _ hx178_0)).trans hx178_0
        replace p178:=eq_true p178
        replace q178:=eq_true q178
        have hnb25:=NB176_170.out
        have hnc25:=NB170_176.out
        have hnb26:=NB176_171.out
        have hnc26:=NB171_176.out
        obtain ⟨hcz27_0,hfz27_0⟩:=yk1 BK176
        obtain ⟨Ao28,co28,eo28⟩:=Kd.S_slice HO_177000.out
        subst eo28
        have p179:0≤(x27_2:Int):=od D0
        have q179:x27_2 < (x177000_2.length:Int):=od D0
        obtain ⟨ad179,A179_0,c179_0,e179,hx179_0,hl179_0,hi179_0⟩:=at_L1 (Kd.S_reads' HO_177000.out).2.2 x27_2 p179 q179
        cases e179
        obtain ⟨ce179,hce179,hMe179,hcc179⟩:=Kd.S_get HO_177000.out [] x27_2 p179 (by first|exact q179|exact od D0|(have e_:=(Kd.S_reads' HO_177000.out).1;omega))
        obtain ⟨ve179_0,rfl,ge179_0⟩:=hMe179
        have hv179_0:=hcc179 0 _ rfl
        rw [Nat.add_zero,show ((Kd.slice 5 (Kd.int .u8))).sz=1 from rfl,Nat.mul_one] at hv179_0
        replace hv179_0:=Option.some.inj (hv179_0.symm.trans hx179_0)
        rw [hv179_0] at ge179_0
        have HL179_0:=am (show Kd.R (Kd.int .u8) 5 _ _ _ _ (rd_L1 x177000_2 x27_2) from ge179_0)
        clear hv179_0 ge179_0
        have HX179_0:=am hx179_0
        clear hcc179 hce179
        have HR179_0:=am hi179_0
        have HC179_0:=am hl179_0
        clear hi179_0 hl179_0
        replace p179:=eq_true p179
        replace q179:=eq_true q179
        have p24:0≤(x20_1:Int):=od D0
        have q24:(x20_1:Int) < (((rd_L1 x177000_2 x27_2).length:Int):Int):=od D0
        obtain ⟨go24,co24,eo24,gb24,gl24,cl24,HG24⟩:=Kd.R_form HL179_0.out D13
        (first|cases eo24|(injection eo24 with ea_ en_ ec_;(first|subst ea_|(injection ea_ with ea_;subst ea_));subst ec_;clear en_))
        have GB24:=am gb24
        have GG24:=am HG24
        clear gb24 gl24 HG24
        obtain ⟨hx24_0,hf24_0⟩:=Kd.R_celln 0 HL179_0.out (x20_1:Int) p24 q24
        replace p24:=eq_true p24
        replace q24:=eq_true q24
        have hq29:(x27_2:Int) < (x177000_2.length:Int):=(by have h_:(x27_2:Int) < ((x177000_2.length:Int):Int):=od D0;first|exact h_|(have e_:=(Kd.S_reads' HO_177000.out).1;omega)|simpa only [List.length_set,List.length_set] using h_)
        obtain ⟨oki29,ce29,hcl29,hM29,hcc29,hok29,hbk29⟩:=Kd.S_borrow HO_177000.out [] (x27_2:Int) (od D0) hq29
        obtain ⟨ve29_0,rfl,ge29_0⟩:=hM29
        have hv29:=hcc29 0 _ rfl
        rw [Nat.add_zero,show ((Kd.slice 5 (Kd.int .u8))).sz=1 from rfl,Nat.mul_one] at hv29
        replace hv29:=Option.some.inj (hv29.symm.trans HX179_0.out)
        subst hv29
        clear hcc29 hcl29
        replace ge29_0:=(show Kd.R (Kd.int .u8) 5 _ _ _ _ (rd_L1 x177000_2 x27_2) from ge29_0)
        have HP29:=Kd.R_putg ge29_0 (x20_1:Int) (rd (rd_L1 l0_0 x20_1) x27_2)
        go_wp2_with (first|((with_reducible refine gate_store (t:=5) (p:=39) rfl ?_);refine store_event (t:=5) (p:=39) (v:=?vo_w30) (w1:=(wr.setCell ⟨go24,(x20_1:Int).toNat,none⟩ (.int .u8 (rd (rd_L1 l0_0 x20_1) x27_2)))) ?hg ?ho ?hn ?hr ?_;(case ho=>rfl);(case hg=>rfl);(case hn=>rfl);(case hr=>first|(go_simp;done)|(go_simp;rfl));intro w30 hw;have hg:wr.grownBy w30 (some go24):=(by rw [hw];exact HP29.2);have hz_:Kd.R (Kd.int .u8) 5 w30 w.heap.size oki29 (.slice (some ⟨go24,0,none⟩) (rd_L1 x177000_2 x27_2).length c179_0) y180:=(by rw [hw,Ny180.out];exact HP29.1);have hp_:Kd.S (Kd.slice 5 (Kd.int .u8)) 24 w30 w.heap.size (fun _=>True) (.slice (some ad179) x177000_2.length co28) y182:=(by rw [Ny182.out];exact hbk29 hg (fun k_ e_=>by injection e_ with e_;subst e_;exact ge29_0.1 _ rfl) (Kd.M_row hz_));have hm_:=Kd.R_mono hz_ hok29;clear HP29 hbk29;have n0_:=am (hp_);have n1_:=am (blk_grown (g:=gb170) (o:=.cells #[.slice (some ad172) l0_0.length c0_0] 27 (0,0)) (yB BK170) hg (Kd.R_ne HL179_0.out BK170.out D5));have n2_:=am (blk_grown (g:=gb171) (o:=.cells #[.slice none 0 0] 27 (0,0)) (yB BK171) hg (Kd.R_ne HL179_0.out BK171.out D5));have n3_:=am (blk_grown (g:=gb176) (o:=.cells #[.slice (some ad179) x177000_2.length co28] 27 (0,0)) (yB BK176) hg (Kd.R_ne HL179_0.out BK176.out D5));have n4_:=am ((by rw [hw];exact pt (HB.out) GB24.out:Below w.heap.size w w30));have n5_:=am (hm_);have n6_:=am ((Kd.R_reads' hm_).2.1);clear HO_177000 BK170 BK171 BK176 HB HL179_0;have HO_177000:=n0_;have BK170:=n1_;have BK171:=n2_;have BK176:=n3_;have HB:=n4_;have HL183:=n5_;have HC181:=n6_;clear n0_ n1_ n2_ n3_ n4_ n5_ n6_ hg hw hp_ hz_ hm_ hok29))
        go_roundg k2
        case measure=>have:=HK1.out;have:=HK2.out;omega
        case rel=>exact ⟨(wrap64 (x27_2+1)),(y182),(.slice (some ad179) x177000_2.length co28),D1,H',⟨D93⟩,⟨yS HO_177000⟩,⟨yB BK170⟩,⟨yB BK171⟩,⟨yB BK176⟩,⟨yW HB⟩⟩
       rw [if_neg c18] at H
       have c18b0:=decide_eq_false c18
       clear c18
       have H':=am H
       clear H
       go_wp2
       go_roundg k2
       case measure=>have:=HK1.out;have:=HK2.out;omega
       case rel=>exact ⟨(wrap64 (x20_1+1)),(x177000_2),(u177000),D1,H',⟨D93⟩,⟨yS HO_177000⟩,⟨yB BK170⟩,⟨yB BK171⟩,⟨yB BK176⟩,⟨yW HB⟩⟩
    rw [if_neg c15] at H
    have c15b0:=decide_eq_false c15
    clear c15
    obtain rfl:=Option.some.inj H
    have hnb31:=NB176_170.out
    have hnc31:=NB170_176.out
    have hnb32:=NB176_171.out
    have hnc32:=NB171_176.out
    obtain ⟨hcz33_0,hfz33_0⟩:=yk1 BK176
    obtain ⟨Ao34,co34,eo34⟩:=Kd.S_slice HO_177000.out
    subst eo34
    have hnb35:=NB171_170.out
    have hnc35:=NB170_171.out
    obtain ⟨hcz36_0,hfz36_0⟩:=yk1 BK171
    go_wp2
    refine bodyPost_ret (results_cell_row rfl _ _ gb171 27 #[.slice Ao34 x177000_1.length co34] (0,0) _ rfl (by refine sB ?_;refine blk_put (cs:=#[.slice none 0 0]) ?_ 0 _ rfl;exact yB BK171) Try.underlying27 rfl D2) rfl ?_
    exact ⟨_,D3,by refine sS ?_;exact Kd.S_mono (Kd.S_far (p:=⟨gb171,0,none⟩) (Kd.S_types HO_177000.out BK171.out D5) (fun _ hk=>hk.2) (.slice Ao34 x177000_1.length co34)) (fun _ hk=>trivial),yW HB⟩
 rw [if_neg c2] at H
 exact absurd H D44
def spec_l5Encode.l0:Nat→List (S76)→Int→Int→Int→List (List Int)→Option ((List (S76)))
 | 0,_,_,_,_,_=>none
 | k+1,x6,x7,x185000,x185001,x192000=>if x7 < x185000 then ((spec_l5Row.f k x185000 x185001 x7).bind fun t192=>((spec_l2Apply.f k x192000 t192).bind fun t195=>(if x6.length < 4398046511104 then (spec_l5Encode.l0 k (x6 ++ [(⟨x7,t195⟩:S76)]) (wrap64 (x7+1)) x185000 x185001 x192000) else (none)))) else (some x6)
def spec_l5Encode.f (k:Nat) (a0_0:Int) (a0_1:Int) (l1:List Int):Option ((List (S76))):=(spec_l5Message.f k a0_0 a0_1 l1).bind fun t185=>((spec_l2Transposed.f k t185).bind fun t188=>(spec_l5Encode.l0 k ([]:List (S76)) 0 a0_0 a0_1 t188))
theorem spec_l5Encode.mono_l:∀ k,(∀ y0 y1 y2 y3 y4,LeO (spec_l5Encode.l0 k y0 y1 y2 y3 y4) (spec_l5Encode.l0 (k+1) y0 y1 y2 y3 y4))
 | 0=>fun _ _ _ _ _ r h=>by simp [spec_l5Encode.l0] at h
 | k+1=>by
  have ih0:=spec_l5Encode.mono_l k
  intro y0 y1 y2 y3 y4
  unfold spec_l5Encode.l0
  exact mm
theorem spec_l5Encode.mono:∀ a0 a1 a2 k,LeO (spec_l5Encode.f k a0 a1 a2) (spec_l5Encode.f (k+1) a0 a1 a2):=by
 intro a0 a1 a2 k
 have ih0:=spec_l5Encode.mono_l k
 unfold spec_l5Encode.f
 exact mm
def spec_l5Encode.T6:Bool × List (List Nat × List Nat):=(true,[([],[]),([],[]),([],[]),([],[]),([],[]),([3,4],[3,4]),([2,5,5],[2,5]),([1,6],[1,6]),([7],[7]),([0,8,6],[0,8]),([9,9,0,1,2,3,4,5,6,7,8,9],[0,9])])
def spec_l5Encode.B6:List Nat:=[0,0,0,0,0,24,60,126,254,511,1023]
theorem spec_l5Encode.tab6:rtab .any (opsOf Try.f64 6)=spec_l5Encode.T6:=by kernel_rfl
theorem spec_l5Encode.bits6:waitsOk spec_l5Encode.T6.2 spec_l5Encode.B6=true:=by kernel_rfl
theorem spec_l5Encode.calls (k:Nat) (a0_0:Int) (a0_1:Int) (A1:Option Addr) (c1:Nat) (l1:List Int) (r:List (S76)) (w:World) (hr1:Kd.C (Kd.int .u8) w A1 l1.length l1) (hc1:l1.length≤c1) (h:spec_l5Encode.f k a0_0 a0_1 l1=some r) :
  Calls Try.prog 64 #[.agg #[.int .i64 a0_0, .int .i64 a0_1], .slice A1 l1.length c1] w fun e w'=>∃ v0_:Value,e = .returned (v0_)∧Kd.S k76 76 w' w.heap.size (fun _=>True) v0_ r∧Below w.heap.size w w':=by
 have hu30:=Try.underlying30
 have hu27:=Try.underlying27
 have hu76:=Try.underlying76
 have HR1:=am hr1
 have HC1:=am hc1
 clear hr1 hc1
 have HB:=am (Below.refl w.heap.size w)
 have H:=h
 unfold spec_l5Encode.f at H
 clear h
 obtain ⟨t185,A3,H⟩:=yo H
 obtain ⟨t188,A4,H⟩:=yo H
 have H':=am H
 clear H
 go_enter Try.func64,Try.ntmps64
 go_wp2_with (first|((with_reducible refine gD 2 ?_);refine gB (cs:=#[.int .i64 a0_0, .int .i64 a0_1]) 30 ?_;intro gb184 hg w5 hbox hb;have BK184:=am (hbox);have GW184:=ye HB hg;replace HB:=yH HB hb;have GE184:=GW184;clear hb hbox hg;obtain ⟨hcz6_0,hcz6_1,hfz6_0,hfz6_1⟩:=yk2 BK184)|((with_reducible refine gC 58 ?_);refine gM (some 10) Try.func58 (args:=#[.agg #[.int .i64 a0_0, .int .i64 a0_1], .slice A1 l1.length c1]) (spec_l5Message.calls k a0_0 a0_1 _ _ l1 t185 _ (yc (Kd.C_below HR1.out HB.out)) HC1.out A3.out) ?_;rintro e w7 ⟨v186,rfl,ho0,hb⟩;refine ⟨_,rfl,?_⟩;have HO187:=am (Kd.S_lower ho0 (pz (yW HB)));replace BK184:=yb BK184 hb;replace HB:=yH HB hb;clear hb ho0;obtain ⟨Ao8,co8,eo8⟩:=Kd.S_slice HO187.out;subst eo8)|((with_reducible refine gC 126 ?_);refine gM (some 11) Try.func126 (args:=#[.agg #[.slice Ao8 t185.length co8]]) (spec_l2Transposed.calls k _ _ t185 t188 _ (yc (Kd.S_reads' HO187.out).2.2) (Kd.S_reads' HO187.out).2.1 A4.out) ?_;rintro e w9 ⟨v189,rfl,ho0,hb⟩;refine ⟨_,rfl,?_⟩;have HO190:=am (Kd.S_lower (Kd.S_new' ho0 (Kd.S_lt (yS HO187))) (pz (yW HB)));replace HO187:=eS HO187 (Kd.S_base ho0) hb;replace BK184:=yb BK184 hb;replace HB:=yH HB hb;clear hb ho0)|((with_reducible refine gD 5 ?_);refine gB (cs:=#[.slice none 0 0]) 27 ?_;intro gb191 hg w10 hbox hb;replace HO187:=bS HO187 hb;replace HO190:=bS HO190 hb;have BK191:=am (hbox);have GW191:=ye HB hg;replace HB:=yH HB hb;have NB184_191:=yl BK184 hg;have NB191_184:=yg BK184 hg;replace BK184:=yb BK184 hb;have GE191:=GW191;clear hb hbox hg;obtain ⟨Ao11,co11,eo11⟩:=Kd.S_slice HO190.out;subst eo11;have hnb12:=NB191_184.out;have hnc12:=NB184_191.out;obtain ⟨hcz13_0,hfz13_0⟩:=yk1 BK191))
 go_loopg [6,7] k (fun kq v6 v7 w'=>∃ (x6_1:List (S76)) (x7_1:Int),v7 = .int .i64 x7_1∧Aside0 (spec_l5Encode.l0 kq x6_1 x7_1 a0_0 a0_1 t188=some r)∧Aside0 (kq≤k)∧Aside0 (Kd.S k76 76 w' w.heap.size (fun _=>True) v6 x6_1)∧Aside0 (Kd.S (Kd.slice 5 (Kd.int .u8)) 24 w' w.heap.size (fun _=>True) (.slice Ao11 t188.length co11) t188)∧Aside0 (w'.heap[gb184]? = some (.cells #[.int .i64 a0_0, .int .i64 a0_1] 30 (0,0)))∧Aside0 (w'.heap[gb191]? = some (.cells #[(.slice Ao11 t188.length co11)] 27 (0,0)))∧Aside0 (Below w.heap.size w w'))
 case atStart=>exact ⟨(([]:List (S76))),(0),D1,H',⟨Nat.le_refl _⟩,⟨D34⟩,⟨by refine sS ?_;exact Kd.S_mono (Kd.S_far (p:=⟨gb191,0,none⟩) (Kd.S_types HO190.out BK191.out D5) (fun _ hk=>hk.2) (.slice Ao11 t188.length co11)) (fun _ hk=>trivial)⟩,⟨yF BK184⟩,⟨by refine sB ?_;refine blk_put (cs:=#[.slice none 0 0]) ?_ 0 _ rfl;exact yB BK191⟩,⟨yW HB⟩⟩
 case round =>
  clear H'
  try clear c1
  try clear p2
  try clear c5
  try clear c6
  try clear c12
  try clear hcz13_0
  try clear hcz6_0
  try clear hcz6_1
  try clear hfz13_0
  try clear hfz6_0
  try clear hfz6_1
  obtain ⟨x6_1,x7_1,rfl,HA,HK1,HO_6,HO_192000,BK184,BK191,HB⟩:=hrel
  cases gk with
  | zero=>exact absurd HA.out (by simp [spec_l5Encode.l0])
  | succ k1 =>
   have H:=HA.out
   clear HA
   simp only [spec_l5Encode.l0] at H
   by_cases c14:x7_1 < a0_0
   ·rw [if_pos c14] at H
    have c14b0:=decide_eq_true c14
    clear c14
    obtain ⟨t192,A15,H⟩:=yo H
    obtain ⟨t195,A16,H⟩:=yo H
    obtain ⟨c17,H⟩:=yi H
    have LMc17:=am c17
    clear c17
    generalize hy198:(x6_1 ++ [(⟨x7_1,t195⟩:S76)]:List (S76))=y198 at H
    have Ny198:=am hy198.symm
    clear hy198
    have H':=am H
    clear H
    have hnb18:=NB184_191.out
    have hnc18:=NB191_184.out
    obtain ⟨hcz19_0,hcz19_1,hfz19_0,hfz19_1⟩:=yk2 BK184
    try go_wp2
    replace HO_6:=am (Kd.S_drew HO_6.out)
    replace HO_192000:=am (Kd.S_drew HO_192000.out)
    replace BK184:=am (qd BK184.out)
    replace BK191:=am (qd BK191.out)
    replace HB:=am (pd HB.out)
    refine rS (n:=11) (S:=fun w'=>w'.cell? ⟨gb191,0,none⟩=some (.slice Ao11 t188.length co11)∧w'.cell? ⟨gb184,0,none⟩=some (.int .i64 a0_0)∧w'.cell? ⟨gb184,1,none⟩=some (.int .i64 a0_1)) (ds:=[]) [(0,18),(1,19),(4,22),(2,20),(3,21),(5,0),(6,0),(7,25),(8,0),(9,0),(10,6)] D2 rfl spec_l5Encode.tab6 spec_l5Encode.bits6 ⟨yk BK191 0,yk BK184 0,yk BK184 1⟩ (fun hHeld HT_ HW_=>?_)
    generalize wr.drew=w20 at HO_6 HO_192000 BK184 BK191 HB hHeld ⊢
    refine rR ?_
    refine rO (N:=some 23) HT_ rfl rfl D2 D5 (fun K hK=>?_)
    refine goes_ Try.func121 D2 rfl #[.agg #[.int .i64 a0_0, .int .i64 a0_1], .int .i64 x7_1] D16 rfl rfl D8 ?_
    with_reducible refine (spec_l5Row.calls k1 a0_0 a0_1 x7_1 t192 _ A15.out).mono ?_
    rintro e w21 ⟨v193,rfl,ho0,hb⟩
    refine ⟨_,rfl,?_⟩
    replace HO_6:=eS HO_6 (Kd.R_base ho0) hb
    replace HO_192000:=eS HO_192000 (Kd.R_base ho0) hb
    have HO194:=am (Kd.R_lower ho0 (pz (yW HB)))
    replace BK184:=yb BK184 hb
    replace BK191:=yb BK191 hb
    replace HB:=yH HB hb
    (try clear hb)
    (try clear hb2)
    (try clear hk)
    (try clear hi)
    (try clear ho0)
    obtain ⟨Ao22,co22,eo22⟩:=Kd.R_slice HO194.out
    (first|subst eo22|(injection eo22 with f1_ f2_ f3_;have f4_:=f1_.symm;have f5_:=f3_.symm;clear f1_ f2_ f3_;subst f4_;subst f5_))
    refine hK.out _ _ ⟨yk BK191 0,yk BK184 0,yk BK184 1⟩ (fun hHeld=>?_)
    clear hK K
    refine rN (nA 23) ?_
    refine rO (N:=some 24) HT_ rfl rfl D2 D5 (fun K hK=>?_)
    refine goes_ Try.func115 D2 rfl #[.agg #[.slice Ao11 t188.length co11], .slice Ao22 t192.length co22] D16 rfl rfl D8 ?_
    with_reducible refine (spec_l2Apply.calls k1 _ _ t188 _ _ t192 t195 _ (yc (Kd.S_reads' HO_192000.out).2.2) (Kd.S_reads' HO_192000.out).2.1 (yc (Kd.R_reads' HO194.out).2.2) (Kd.R_reads' HO194.out).2.1 A16.out).mono ?_
    rintro e w23 ⟨v196,rfl,ho0,hb⟩
    refine ⟨_,rfl,?_⟩
    replace HO_6:=eS HO_6 (Kd.R_base ho0) hb
    replace HO_192000:=eS HO_192000 (Kd.R_base ho0) hb
    have HO197:=am (Kd.R_lower (Kd.R_new' ho0 (Kd.R_lt (yR HO194))) (pz (yW HB)))
    replace HO194:=eR HO194 (Kd.R_base ho0) hb
    replace BK184:=yb BK184 hb
    replace BK191:=yb BK191 hb
    replace HB:=yH HB hb
    (try clear hb)
    (try clear hb2)
    (try clear hk)
    (try clear hi)
    (try clear ho0)
    obtain ⟨Ao24,co24,eo24⟩:=Kd.R_slice HO197.out
    (first|subst eo24|(injection eo24 with f1_ f2_ f3_;have f4_:=f1_.symm;have f5_:=f3_.symm;clear f1_ f2_ f3_;subst f4_;subst f5_))
    refine hK.out _ _ ⟨yk BK191 0,yk BK184 0,yk BK184 1⟩ (fun hHeld=>?_)
    clear hK K
    refine rN (nA 24) ?_
    refine rR ?_
    refine rO (N:=some 26) HT_ rfl rfl D2 D5 (fun K hK=>?_)
    refine value_ (w1:=?_) (v:=?_) D16 rfl ?_ ?_
    rotate_left 2
    ·go_simp
     constructor
     ·rfl
     rfl
    refine hK.out _ _ ⟨(blk_cell (qa BK191.out _) 0).trans rfl,(blk_cell (qa BK184.out _) 0).trans rfl,(blk_cell (qa BK184.out _) 1).trans rfl⟩ (fun hHeld=>?_)
    clear hK K
    refine rN (nA 26) ?_
    refine rO (N:=some 27) HT_ rfl rfl D2 D5 (fun K hK=>?_)
    refine Kd.S_append_step k76 (w0:=w) w.heap.size D16 (.tmp 18) (.tmp 26) 38 76 (.agg #[(.int .i64 0),(.slice none 0 0)]) 32 rfl Try.underlying38 info76 rfl D5 D13 u6 x6_1 (⟨x7_1,t195⟩:S76) [.int .i64 x7_1, .slice Ao24 t195.length co24] (fun k_=>some k_ ≠ (.slice Ao22 t192.length co22:Value).ownBlock) (fun k_=>some k_=(.slice Ao24 t195.length co24:Value).ownBlock) rfl rfl ?aP (fun k_ hk_=>((Kd.R_mono (ok':=fun k_=>((fun k_=>some k_ ≠ (.slice Ao22 t192.length co22:Value).ownBlock)) k_∧some k_ ≠ (u6:Value).ownBlock) (Kd.R_apart' (HO197.out) (Kd.S_typed HO_6.out) D5) (fun k_ hk=>⟨hk.1.2,hk.2⟩))).1 k_ hk_.symm) ?aF ?aO ?aB ?aS ?aL ?_
    (case aP=>exact k76_mkM _ _ _ (⟨x7_1,t195⟩:S76) (Kd.R_mono (Kd.R_tight rfl (Kd.R_mono (ok':=fun k_=>((fun k_=>some k_ ≠ (.slice Ao22 t192.length co22:Value).ownBlock)) k_∧some k_ ≠ (u6:Value).ownBlock) (Kd.R_apart' (HO197.out) (Kd.S_typed HO_6.out) D5) (fun k_ hk=>⟨hk.1.2,hk.2⟩))) (fun _ h_=>h_)))
    (case aB=>exact (yW HB))
    (case aF=>exact (fun k_ hk=>Kd.fresh' (Kd.R_lt (yR HO194)) k_ hk))
    (case aO=>exact (by refine sS ?_;exact Kd.S_mono HO_6.out (fun k_ hk=>⟨hk.1.2,fun e_=>hk.2 e_⟩)))
    (case aS=>exact (pz (yW HB)))
    (case aL=>have:=LMc17.out;omega)
    intro v199 w25 ho hb hg hat
    rw [← Ny198.out] at ho
    have n0_:=am (Kd.S_over' (yS HO_192000) (Kd.S_typed (yS HO_6)) D5 hg)
    have n1_:=am (blk_grown (g:=gb184) (o:=.cells #[.int .i64 a0_0, .int .i64 a0_1] 30 (0,0)) (yB BK184) hg (Kd.S_ne HO_6.out BK184.out D5))
    have n2_:=am (blk_grown (g:=gb191) (o:=.cells #[.slice Ao11 t188.length co11] 27 (0,0)) (yB BK191) hg (Kd.S_ne HO_6.out BK191.out D5))
    have n3_:=am (Kd.R_over' (yR HO194) (Kd.S_typed (yS HO_6)) D5 hg)
    have n4_:=am (hb)
    have n5_:=am (ho)
    clear HO_192000
    clear BK184
    clear BK191
    clear HO194
    clear HB
    clear HO_6
    clear HO197
    have HO_192000:=n0_
    have BK184:=n1_
    have BK191:=n2_
    have HO194:=n3_
    have HB:=n4_
    have HO200:=n5_
    clear n0_ n1_ n2_ n3_ n4_ n5_
    clear ho hb hg hat
    refine hK.out _ _ ⟨yk BK191 0,yk BK184 0,yk BK184 1⟩ (fun hHeld=>?_)
    clear hK K
    refine rN (nA 27) ?_
    refine rR ?_
    refine rD HT_ D2 ?_
    try go_wp2
    go_roundg k1
    case measure=>have:=HK1.out;omega
    case rel=>exact ⟨(y198),(wrap64 (x7_1+1)),D1,H',⟨D38⟩,⟨by refine sS ?_;exact Kd.S_mono HO200.out (fun _ hk=>trivial)⟩,⟨by refine sS ?_;exact Kd.S_mono HO_192000.out (fun _ hk=>trivial)⟩,⟨yB BK184⟩,⟨yB BK191⟩,⟨yW HB⟩⟩
   rw [if_neg c14] at H
   have c14b0:=decide_eq_false c14
   clear c14
   obtain rfl:=Option.some.inj H
   have hnb26:=NB184_191.out
   have hnc26:=NB191_184.out
   obtain ⟨hcz27_0,hcz27_1,hfz27_0,hfz27_1⟩:=yk2 BK184
   go_wp2
   go_ret
   exact ⟨_,D3,yS HO_6,yW HB⟩

def spec_EncodeMsr.f (k:Nat) (a0_0:Int) (a0_1:Int) (l1:List Int):Option ((List (S76)) × Bool):=(spec_GoodMsr.f a0_0 a0_1).bind fun t202=>(if t202=true then (if (l1.length:Int)=(wrap64 (a0_1*(wrap64 (a0_1 - 1)))) then ((spec_l5Encode.f k a0_0 a0_1 l1).bind fun t203=>(some (t203,true))) else (some (([]:List (S76)),false))) else (some (([]:List (S76)),false)))
theorem spec_EncodeMsr.mono:∀ a0 a1 a2 k,LeO (spec_EncodeMsr.f k a0 a1 a2) (spec_EncodeMsr.f (k+1) a0 a1 a2):=by
 intro a0 a1 a2 k
 unfold spec_EncodeMsr.f
 exact mm
theorem spec_EncodeMsr.calls (k:Nat) (a0_0:Int) (a0_1:Int) (A1:Option Addr) (c1:Nat) (l1:List Int) (r1:List (S76)) (r2:Bool) (w:World) (hr1:Kd.C (Kd.int .u8) w A1 l1.length l1) (hc1:l1.length≤c1) (h:spec_EncodeMsr.f k a0_0 a0_1 l1=some (r1,r2)) :
  Calls Try.prog 18 #[.agg #[.int .i64 a0_0, .int .i64 a0_1], .slice A1 l1.length c1] w fun e w'=>∃ v0_:Value,e = .returned (.tuple #[v0_, .bool r2])∧Kd.S k76 76 w' w.heap.size (fun _=>True) v0_ r1∧Below w.heap.size w w':=by
 have hu30:=Try.underlying30
 have HR1:=am hr1
 have HC1:=am hc1
 clear hr1 hc1
 have HB:=am (Below.refl w.heap.size w)
 have H:=h
 unfold spec_EncodeMsr.f at H
 clear h
 obtain ⟨t202,A3,H⟩:=yo H
 by_cases c4:t202=true
 ·subst c4
  replace H:=yt H
  by_cases c5:(l1.length:Int)=(wrap64 (a0_1*(wrap64 (a0_1 - 1))))
  ·rw [if_pos c5] at H
   have c5b0:((l1.length:Int) == (wrap64 (a0_1*(wrap64 (a0_1 - 1)))))=true:=beq_iff_eq.mpr c5
   have c5b1:((l1.length:Int) != (wrap64 (a0_1*(wrap64 (a0_1 - 1)))))=false:=bne_eq_false_iff_eq.mpr c5
   clear c5
   obtain ⟨t203,A6,H⟩:=yo H
   simp only [Option.some.injEq,Prod.mk.injEq] at H
   obtain ⟨rfl,rfl⟩:=H
   go_enter Try.func18,Try.ntmps18
   go_wp2_with (first|((with_reducible refine gD 2 ?_);(try (refine gate_guard D16 ?_;dsimp only));refine gB (cs:=#[.int .i64 a0_0, .int .i64 a0_1]) 30 ?_;intro gb201 hg w7 hbox hb;have BK201:=am (hbox);have GW201:=ye HB hg;replace HB:=yH HB hb;have GE201:=GW201;clear hb hbox hg;obtain ⟨hcz8_0,hcz8_1,hfz8_0,hfz8_1⟩:=yk2 BK201)|((with_reducible refine gC 47 ?_);refine gM (some 7) Try.func47 (args:=#[.agg #[.int .i64 a0_0, .int .i64 a0_1]]) (spec_GoodMsr.calls a0_0 a0_1 true _ A3.out) ?_;rintro e w9 ⟨rfl,hb⟩;refine ⟨_,rfl,?_⟩;replace BK201:=yb BK201 hb;replace HB:=yH HB hb;clear hb;obtain ⟨hcz10_0,hcz10_1,hfz10_0,hfz10_1⟩:=yk2 BK201)|((with_reducible refine gC 64 ?_);refine gM (some 22) Try.func64 (args:=#[.agg #[.int .i64 a0_0, .int .i64 a0_1], .slice A1 l1.length c1]) (spec_l5Encode.calls k a0_0 a0_1 _ _ l1 t203 _ (yc (Kd.C_below HR1.out HB.out)) HC1.out A6.out) ?_;rintro e w11 ⟨v204,rfl,ho0,hb⟩;refine ⟨_,rfl,?_⟩;have HO205:=am (Kd.S_lower ho0 (pz (yW HB)));replace BK201:=yb BK201 hb;replace HB:=yH HB hb;clear hb ho0))
   go_ret2
   exact ⟨_,D3,yS HO205,yW HB⟩
  rw [if_neg c5] at H
  have c5b0:((l1.length:Int) == (wrap64 (a0_1*(wrap64 (a0_1 - 1)))))=false:=beq_eq_false_iff_ne.mpr c5
  have c5b1:((l1.length:Int) != (wrap64 (a0_1*(wrap64 (a0_1 - 1)))))=true:=bne_iff_ne.mpr c5
  simp only [Option.some.injEq,Prod.mk.injEq] at H
  obtain ⟨rfl,rfl⟩:=H
  go_enter Try.func18,Try.ntmps18
  go_wp2_with (first|((with_reducible refine gD 2 ?_);(try (refine gate_guard D16 ?_;dsimp only));refine gB (cs:=#[.int .i64 a0_0, .int .i64 a0_1]) 30 ?_;intro gb201 hg w12 hbox hb;have BK201:=am (hbox);have GW201:=ye HB hg;replace HB:=yH HB hb;have GE201:=GW201;clear hb hbox hg;obtain ⟨hcz13_0,hcz13_1,hfz13_0,hfz13_1⟩:=yk2 BK201)|((with_reducible refine gC 47 ?_);refine gM (some 7) Try.func47 (args:=#[.agg #[.int .i64 a0_0, .int .i64 a0_1]]) (spec_GoodMsr.calls a0_0 a0_1 true _ A3.out) ?_;rintro e w14 ⟨rfl,hb⟩;refine ⟨_,rfl,?_⟩;replace BK201:=yb BK201 hb;replace HB:=yH HB hb;clear hb;obtain ⟨hcz15_0,hcz15_1,hfz15_0,hfz15_1⟩:=yk2 BK201))
  go_ret2
  exact ⟨_,D3,D34,yW HB⟩
 replace c4:=Bool.eq_false_iff.mpr c4
 subst c4
 replace H:=yn H
 simp only [Option.some.injEq,Prod.mk.injEq] at H
 obtain ⟨rfl,rfl⟩:=H
 go_enter Try.func18,Try.ntmps18
 go_wp2_with (first|((with_reducible refine gD 2 ?_);(try (refine gate_guard D16 ?_;dsimp only));refine gB (cs:=#[.int .i64 a0_0, .int .i64 a0_1]) 30 ?_;intro gb201 hg w16 hbox hb;have BK201:=am (hbox);have GW201:=ye HB hg;replace HB:=yH HB hb;have GE201:=GW201;clear hb hbox hg;obtain ⟨hcz17_0,hcz17_1,hfz17_0,hfz17_1⟩:=yk2 BK201)|((with_reducible refine gC 47 ?_);refine gM (some 7) Try.func47 (args:=#[.agg #[.int .i64 a0_0, .int .i64 a0_1]]) (spec_GoodMsr.calls a0_0 a0_1 false _ A3.out) ?_;rintro e w18 ⟨rfl,hb⟩;refine ⟨_,rfl,?_⟩;replace BK201:=yb BK201 hb;replace HB:=yH HB hb;clear hb))
 go_ret2
 exact ⟨_,D3,D34,yW HB⟩

def impl_within.f (a0:Int) (a1:Int) (a2:Int):Option (Bool):=if a0 ≥ a1 then (some (decide (a0≤a2))) else (some false)
theorem impl_within.calls (a0:Int) (a1:Int) (a2:Int) (r:Bool) (w:World) (h:impl_within.f a0 a1 a2=some r) :
  Calls Try.prog 104 #[.int .i64 a0, .int .i64 a1, .int .i64 a2] w fun e w'=>e = .returned (.bool r)∧Drawn0 w w':=by
 have H:=h
 unfold impl_within.f at H
 clear h
 by_cases c4:a0 ≥ a1
 ·rw [if_pos c4] at H
  have c4b0:decide (a1≤a0)=true:=decide_eq_true c4
  clear c4
  obtain rfl:=Option.some.inj H
  go_enter Try.func104,Try.ntmps104
  go_wp2
  go_ret
  exact ⟨D1,D15⟩
 rw [if_neg c4] at H
 have c4b0:decide (a1≤a0)=false:=decide_eq_false c4
 clear c4
 obtain rfl:=Option.some.inj H
 go_enter Try.func104,Try.ntmps104
 go_wp2
 go_ret
 exact ⟨D1,D15⟩

def impl_GoodMsr.f (a0_0:Int) (a0_1:Int):Option (Bool):=(impl_within.f a0_1 2 4).bind fun t207=>(if t207=true then ((impl_within.f a0_0 (wrap64 ((wrap64 (2*a0_1)) - 1)) 14).bind fun t208=>(some t208)) else (some false))
theorem impl_GoodMsr.calls (a0_0:Int) (a0_1:Int) (r:Bool) (w:World) (h:impl_GoodMsr.f a0_0 a0_1=some r) :
  Calls Try.prog 46 #[.agg #[.int .i64 a0_0, .int .i64 a0_1]] w fun e w'=>e = .returned (.bool r)∧Below w.heap.size w w':=by
 have hu30:=Try.underlying30
 have HB:=am (Below.refl w.heap.size w)
 have H:=h
 unfold impl_GoodMsr.f at H
 clear h
 obtain ⟨t207,A2,H⟩:=yo H
 by_cases c3:t207=true
 ·subst c3
  replace H:=yt H
  obtain ⟨t208,A4,H⟩:=yo H
  obtain rfl:=Option.some.inj H
  go_enter Try.func46,Try.ntmps46
  go_wp2_with (first|((with_reducible refine gD 1 ?_);refine gB (cs:=#[.int .i64 a0_0, .int .i64 a0_1]) 30 ?_;intro gb206 hg w5 hbox hb;have BK206:=am (hbox);have GW206:=ye HB hg;replace HB:=yH HB hb;have GE206:=GW206;clear hb hbox hg;obtain ⟨hcz6_0,hcz6_1,hfz6_0,hfz6_1⟩:=yk2 BK206)|((with_reducible refine gC 104 ?_);refine gM (some 5) Try.func104 (args:=#[.int .i64 a0_1, .int .i64 2, .int .i64 4]) (impl_within.calls a0_1 2 4 true _ A2.out) ?_;rintro e w' ⟨rfl,⟨nd,rfl⟩⟩;refine ⟨_,rfl,?_⟩)|(go_at_call 104;(with_reducible refine (impl_within.calls a0_0 (wrap64 ((wrap64 (2*a0_1)) - 1)) 14 t208 _ A4.out).mono ?_);rintro e w' ⟨rfl,⟨nd,rfl⟩⟩))
  go_ret
  exact ⟨D3,yW HB⟩
 replace c3:=Bool.eq_false_iff.mpr c3
 subst c3
 replace H:=yn H
 obtain rfl:=Option.some.inj H
 go_enter Try.func46,Try.ntmps46
 go_wp2_with (first|((with_reducible refine gD 1 ?_);refine gB (cs:=#[.int .i64 a0_0, .int .i64 a0_1]) 30 ?_;intro gb206 hg w7 hbox hb;have BK206:=am (hbox);have GW206:=ye HB hg;replace HB:=yH HB hb;have GE206:=GW206;clear hb hbox hg;obtain ⟨hcz8_0,hcz8_1,hfz8_0,hfz8_1⟩:=yk2 BK206)|((with_reducible refine gC 104 ?_);refine gM (some 5) Try.func104 (args:=#[.int .i64 a0_1, .int .i64 2, .int .i64 4]) (impl_within.calls a0_1 2 4 false _ A2.out) ?_;rintro e w' ⟨rfl,⟨nd,rfl⟩⟩;refine ⟨_,rfl,?_⟩))
 go_ret
 exact ⟨D3,yW HB⟩

def impl_Msr_alpha.f (a0_0:Int) (a0_1:Int):Option (Int):=some (wrap64 (a0_1 - 1))
theorem impl_Msr_alpha.calls (a0_0:Int) (a0_1:Int) (r:Int) (w:World) (h:impl_Msr_alpha.f a0_0 a0_1=some r) :
  Calls Try.prog 103 #[.agg #[.int .i64 a0_0, .int .i64 a0_1]] w fun e w'=>e = .returned (.int .i64 r)∧Below w.heap.size w w':=by
 have hu30:=Try.underlying30
 have HB:=am (Below.refl w.heap.size w)
 have H:=h
 unfold impl_Msr_alpha.f at H
 clear h
 obtain rfl:=Option.some.inj H
 go_enter Try.func103,Try.ntmps103
 go_wp2_with (first|((with_reducible refine gD 1 ?_);refine gB (cs:=#[.int .i64 a0_0, .int .i64 a0_1]) 30 ?_;intro gb209 hg w2 hbox hb;have BK209:=am (hbox);have GW209:=ye HB hg;replace HB:=yH HB hb;have GE209:=GW209;clear hb hbox hg;obtain ⟨hcz3_0,hcz3_1,hfz3_0,hfz3_1⟩:=yk2 BK209))
 go_ret
 exact ⟨D3,yW HB⟩

def impl_Msr_size.f (a0_0:Int) (a0_1:Int):Option (Int):=(impl_Msr_alpha.f a0_0 a0_1).bind fun t211=>(some (wrap64 (a0_1*t211)))
theorem impl_Msr_size.calls (a0_0:Int) (a0_1:Int) (r:Int) (w:World) (h:impl_Msr_size.f a0_0 a0_1=some r) :
  Calls Try.prog 59 #[.agg #[.int .i64 a0_0, .int .i64 a0_1]] w fun e w'=>e = .returned (.int .i64 r)∧Below w.heap.size w w':=by
 have hu30:=Try.underlying30
 have HB:=am (Below.refl w.heap.size w)
 have H:=h
 unfold impl_Msr_size.f at H
 clear h
 obtain ⟨t211,A2,H⟩:=yo H
 obtain rfl:=Option.some.inj H
 go_enter Try.func59,Try.ntmps59
 try go_wp2_with (first|((with_reducible refine gD 1 ?_);refine gB (cs:=#[.int .i64 a0_0, .int .i64 a0_1]) 30 ?_;intro gb210 hg w3 hbox hb;have BK210:=am (hbox);have GW210:=ye HB hg;replace HB:=yH HB hb;have GE210:=GW210;clear hb hbox hg))
 replace BK210:=am (qd BK210.out)
 replace HB:=am (pd HB.out)
 refine rS0 (n:=6) (S:=fun w'=>w'.cell? ⟨gb210,0,none⟩=some (.int .i64 a0_0)∧w'.cell? ⟨gb210,1,none⟩=some (.int .i64 a0_1)) (ds:=[]) [(0,3),(1,4),(2,5),(3,0),(4,7),(5,2)] D2 rfl ⟨yk BK210 0,yk BK210 1⟩ (fun hHeld HT_ HW_=>?_)
 generalize w3.drew=w4 at BK210 HB hHeld ⊢
 refine rR ?_
 refine rO (N:=some 6) HT_ rfl rfl D2 D5 (fun K hK=>?_)
 refine goes_ Try.func103 D2 rfl #[.agg #[.int .i64 a0_0, .int .i64 a0_1]] D16 rfl rfl D8 ?_
 with_reducible refine (impl_Msr_alpha.calls a0_0 a0_1 t211 _ A2.out).mono ?_
 rintro e w5 ⟨rfl,hb⟩
 refine ⟨_,rfl,?_⟩
 replace BK210:=yb BK210 hb
 replace HB:=yH HB hb
 (try clear hb)
 (try clear hb2)
 (try clear hk)
 (try clear hi)
 refine hK.out _ _ ⟨yk BK210 0,yk BK210 1⟩ (fun hHeld=>?_)
 clear hK K
 refine rN (nA 6) ?_
 refine rR ?_
 refine rD HT_ D2 ?_
 try go_wp2
 go_ret
 exact ⟨D3,yW HB⟩

theorem fl_info5:(Try.prog.info? 5).map (fun i=>(i.zero,i.size,i.bytes))=some (some (.int .u8 0),1,1):=by kernel_rfl
theorem fl_info32:(Try.prog.info? 24).map (fun i=>(i.zero,i.size,i.bytes))=some (some (.slice none 0 0),1,24):=by kernel_rfl

mutual
def impl_filled.l0 (E:Nat→Int→Int→Option Int):Nat→Int→List (List Int)→Int→Int→Option ((List (List Int)))
 | 0,_,_,_,_=>none
 | k+1,x1,x7,x12,x13=>if x13 < x12 then (impl_filled.l1 E k x1 x7 x13 (([]:List Int)) x12 x13 x1 0) else (some x7)
def impl_filled.l1 (E:Nat→Int→Int→Option Int):Nat→Int→List (List Int)→Int→List Int→Int→Int→Int→Int→Option ((List (List Int)))
 | 0,_,_,_,_,_,_,_,_=>none
 | k+1,x1,x7,x8,x9,x12,x13,x17,x18=>if x18 < x17 then ((E k x8 x18).bind fun t149=>(if x9.length < 140737488355328 then (impl_filled.l1 E k x1 x7 x8 (x9 ++ [t149]) x12 x13 x17 (wrap64 (x18+1))) else (none))) else (if x7.length < 5864062014805 then (impl_filled.l0 E k x1 (x7 ++ [x9]) x12 (wrap64 (x13+1))) else (none))
end
def impl_filled.f (E:Nat→Int→Int→Option Int) (k:Nat) (a0:Int) (a1:Int):Option ((List (List Int))):=impl_filled.l0 E k a1 (([]:List (List Int))) a0 0
theorem impl_filled.mono_l (E:Nat→Int→Int→Option Int) (hE:∀ i j k,LeO (E k i j) (E (k+1) i j)):∀ k,(∀ y0 y1 y2 y3,LeO (impl_filled.l0 E k y0 y1 y2 y3) (impl_filled.l0 E (k+1) y0 y1 y2 y3))∧(∀ y0 y1 y2 y3 y4 y5 y6 y7,LeO (impl_filled.l1 E k y0 y1 y2 y3 y4 y5 y6 y7) (impl_filled.l1 E (k+1) y0 y1 y2 y3 y4 y5 y6 y7))
 | 0=>⟨fun _ _ _ _ r h=>by simp [impl_filled.l0] at h,fun _ _ _ _ _ _ _ _ r h=>by simp [impl_filled.l1] at h⟩
 | k+1=>by
  obtain ⟨ih0,ih1⟩:=impl_filled.mono_l E hE k
  refine ⟨?_,?_⟩
  ·intro y0 y1 y2 y3
   unfold impl_filled.l0
   repeat' first
   | (with_reducible exact ih0 _ _ _ _)
   | (with_reducible exact ih1 _ _ _ _ _ _ _ _)
   | (with_reducible exact hE _ _ _)
   |(with_reducible exact LeO.refl _)|(with_reducible exact LeO.none _)|(with_reducible refine LeO.ite ?_ ?_)|(with_reducible refine LeO.bind ?_ (fun _=>?_))|exact ih0 _ _ _ _|exact ih1 _ _ _ _ _ _ _ _|exact hE _ _ _|exact LeO.none _|refine LeO.ite ?_ ?_|refine LeO.bind ?_ (fun _=>?_)
  intro y0 y1 y2 y3 y4 y5 y6 y7
  unfold impl_filled.l1
  repeat' first
  | (with_reducible exact ih0 _ _ _ _)
  | (with_reducible exact ih1 _ _ _ _ _ _ _ _)
  | (with_reducible exact hE _ _ _)
  |(with_reducible exact LeO.refl _)|(with_reducible exact LeO.none _)|(with_reducible refine LeO.ite ?_ ?_)|(with_reducible refine LeO.bind ?_ (fun _=>?_))|exact ih0 _ _ _ _|exact ih1 _ _ _ _ _ _ _ _|exact hE _ _ _|exact LeO.none _|refine LeO.ite ?_ ?_|refine LeO.bind ?_ (fun _=>?_)
theorem impl_filled.mono (E:Nat→Int→Int→Option Int) (hE:∀ i j k,LeO (E k i j) (E (k+1) i j)):∀ a0 a1 k,LeO (impl_filled.f E k a0 a1) (impl_filled.f E (k+1) a0 a1):=by
 intro a0 a1 k
 obtain ⟨ih0,ih1⟩:=impl_filled.mono_l E hE k
 unfold impl_filled.f
 repeat' first
   | (with_reducible exact ih0 _ _ _ _)
   | (with_reducible exact ih1 _ _ _ _ _ _ _ _)
   | (with_reducible exact hE _ _ _)
   |(with_reducible exact LeO.refl _)|(with_reducible exact LeO.none _)|(with_reducible refine LeO.ite ?_ ?_)|(with_reducible refine LeO.bind ?_ (fun _=>?_))|exact ih0 _ _ _ _|exact ih1 _ _ _ _ _ _ _ _|exact hE _ _ _|exact LeO.none _|refine LeO.ite ?_ ?_|refine LeO.bind ?_ (fun _=>?_)
theorem impl_filled.calls (E:Nat→Int→Int→Option Int) (g:Nat) (eg:∀ args w,(callFunc g args).run Try.prog w = .ok (.enter g args) w) (lb:Array Value) (k:Nat) (a0:Int) (a1:Int) (r:List (List Int)) (w:World)
  (hE:∀ k i j t W,Below w.heap.size w W→E k i j=some t→Calls Try.prog g (#[.int .i64 i, .int .i64 j] ++ lb) W fun e w'=>e = .returned (.int .u8 t)∧Drawn0 W w') (h:impl_filled.f E k a0 a1=some r) :
  Calls Try.prog 86 #[.int .i64 a0, .int .i64 a1, .func (.func g) #[] lb] w fun e w'=>∃ v0_:Value,e = .returned (v0_)∧Kd.S (Kd.slice 5 (Kd.int .u8)) 24 w' w.heap.size (fun _=>True) v0_ r∧Below w.heap.size w w':=by
 have HX:=am hE
 clear hE
 have HB:=am (Below.refl w.heap.size w)
 have H:=h
 unfold impl_filled.f at H
 clear h
 generalize hy143:(([]:List (List Int)):List (List Int))=y143 at H
 have Ny143:=am hy143.symm
 clear hy143
 have H':=am H
 clear H
 go_enter Try.func86,Try.ntmps86
 go_wp2_with (first|((with_reducible refine gD 11 ?_);refine Kd.S_lit (Kd.slice 5 (Kd.int .u8)) _ 24 D16 (N:=11) D16 (xs:=([]:List (List Int))) (inner:=[]) (ok:=fun _=>True) (okp:=fun _=>True) D33 D65 (fun _ hk=>hk) trivial (Below.refl _ _) (Nat.le_refl _) D44 ?_;intro v144 w4 ho5 hb hg_ hnew_;clear hg_ hnew_;(first|rw [← Ny143.out] at ho5|(simp only [Int.reduceToNat] at ho5;rw [← Ny143.out] at ho5));have HO145:=am (Kd.S_lower ho5 (pz (yW HB)));replace HB:=yH HB hb;clear hb ho5))
 go_loopg [7,13] k (fun kq v7 v13 w'=>∃ (x7_1:List (List Int)) (x13_1:Int),v13 = .int .i64 x13_1∧Aside0 (impl_filled.l0 E kq a1 x7_1 a0 x13_1=some r)∧Aside0 (kq≤k)∧Aside0 (Kd.S (Kd.slice 5 (Kd.int .u8)) 24 w' w.heap.size (fun _=>True) v7 x7_1)∧Aside0 (Below w.heap.size w w'))
 case atStart=>exact ⟨(y143),(0),D1,H',⟨Nat.le_refl _⟩,⟨yS HO145⟩,⟨yW HB⟩⟩
 case round =>
  clear H'
  try clear p2
  obtain ⟨x7_1,x13_1,rfl,HA,HK1,HO_7,HB⟩:=hrel
  cases gk with
  | zero=>exact absurd HA.out (by simp [impl_filled.l0])
  | succ k1 =>
   have H:=HA.out
   clear HA
   simp only [impl_filled.l0] at H
   by_cases c6:x13_1 < a0
   ·rw [if_pos c6] at H
    have c6b0:=decide_eq_true c6
    clear c6
    generalize hy146:(([]:List Int):List Int)=y146 at H
    have Ny146:=am hy146.symm
    clear hy146
    have H':=am H
    clear H
    go_wp2_with (first|((with_reducible refine gD 16 ?_);refine Kd.R_lit (Kd.int .u8) _ 5 D16 (N:=16) D16 (xs:=([]:List Int)) (inner:=[]) (ok:=fun _=>True) (okp:=fun _=>True) D33 D65 (fun _ hk=>hk) trivial (Below.refl _ _) (Nat.le_refl _) D44 ?_;intro v147 w7 ho8 hb hg_ hnew_;clear hg_ hnew_;(first|rw [← Ny146.out] at ho8|(simp only [Int.reduceToNat] at ho8;rw [← Ny146.out] at ho8));replace HO_7:=eS HO_7 (Kd.R_base ho8) hb;have HO148:=am (Kd.R_lower ho8 (pz (yW HB)));replace HB:=yH HB hb;clear hb ho8))
    go_loopg [9,18] k1 (fun kq v9 v18 w'=>∃ (x9_2:List Int) (x18_2:Int),v18 = .int .i64 x18_2∧Aside0 (impl_filled.l1 E kq a1 x7_1 x13_1 x9_2 a0 x13_1 a1 x18_2=some r)∧Aside0 (kq≤k1)∧Aside0 (Kd.S (Kd.slice 5 (Kd.int .u8)) 24 w' w.heap.size (fun k_=>some k_ ≠ (v9:Value).ownBlock) u7 x7_1)∧Aside0 (Kd.R (Kd.int .u8) 5 w' w.heap.size (fun _=>True) v9 x9_2)∧Aside0 (Below w.heap.size w w'))
    case atStart=>exact ⟨(y146),(0),D1,H',⟨Nat.le_refl _⟩,⟨by refine sS ?_;exact Kd.S_mono HO_7.out (fun _ hk=>hk.2)⟩,⟨yR HO148⟩,⟨yW HB⟩⟩
    case round =>
     clear H'
     try clear p2
     try clear c6
     try clear c6b0
     try clear c8
     try clear p2
     obtain ⟨x9_2,x18_2,rfl,HA,HK2,HO_7,HO_9,HB⟩:=hrel
     cases gk with
     | zero=>exact absurd HA.out (by simp [impl_filled.l1])
     | succ k2 =>
      have H:=HA.out
      clear HA
      simp only [impl_filled.l1] at H
      by_cases c9:x18_2 < a1
      ·rw [if_pos c9] at H
       have c9b0:=decide_eq_true c9
       clear c9
       obtain ⟨t149,A10,H⟩:=yo H
       obtain ⟨c11,H⟩:=yi H
       have LMc11:=am c11
       clear c11
       generalize hy150:(x9_2 ++ [t149]:List Int)=y150 at H
       have Ny150:=am hy150.symm
       clear hy150
       have H':=am H
       clear H
       go_wp2_with (first|(go_at_fn g;refine (HX.out _ _ _ _ _ (by (repeat (first|(with_reducible first|exact HB.out|apply pa|apply pb|apply pd)|exact HB.out))) A10.out).mono ?_;rintro e w' ⟨rfl,⟨nd,rfl⟩⟩)|((with_reducible refine gate_builtin (b:=.append) (xs:=#[.tmp 21, .tmp 26]) rfl ?_);at_builtin;refine Kd.R_append (Kd.int .u8) (w0:=w) w.heap.size rfl (.tmp 21) (.tmp 26) 24 5 (.int .u8 0) 1 rfl Try.underlying24 fl_info5 rfl D5 D13 u9 x9_2 t149 [.int .u8 t149] (fun _=>True) (fun _=>False) rfl rfl D98 (fun _ hk=>hk.elim) D43 (by exact (yR HO_9)) D64 D47 (by have:=LMc11.out;omega) ?_;intro v151 w12 ho hb hg hat;rw [← Ny150.out] at ho;have n0_:=am (Kd.S_after (ok:=(fun _=>True)) (by refine sS ?_;exact Kd.S_mono HO_7.out (fun _ hk=>⟨trivial,hk⟩)) hg hat);have n1_:=am (hb);have n2_:=am (ho);clear HO_7 HB HO_9;have HO_7:=n0_;have HB:=n1_;have HO152:=n2_;clear n0_ n1_ n2_ ho hb hg hat))
       go_roundg k2
       case measure=>have:=HK1.out;have:=HK2.out;omega
       case rel=>exact ⟨(y150),(wrap64 (x18_2+1)),D1,H',⟨D93⟩,⟨by refine sS ?_;exact Kd.S_mono HO_7.out (fun _ hk=>hk.2)⟩,⟨yR HO152⟩,⟨yW HB⟩⟩
      rw [if_neg c9] at H
      have c9b0:=decide_eq_false c9
      clear c9
      obtain ⟨c13,H⟩:=yi H
      have LMc13:=am c13
      clear c13
      generalize hy153:(x7_1 ++ [x9_2]:List (List Int))=y153 at H
      have Ny153:=am hy153.symm
      clear hy153
      have H':=am H
      clear H
      obtain ⟨Ao15,co15,eo15⟩:=Kd.R_slice HO_9.out
      subst eo15
      go_wp2_with (first|((with_reducible refine gate_builtin (b:=.append) (xs:=#[.tmp 29, .tmp 31]) rfl ?_);at_builtin;refine Kd.S_append (Kd.slice 5 (Kd.int .u8)) (w0:=w) w.heap.size rfl (.tmp 29) (.tmp 31) 25 24 (.slice none 0 0) 24 rfl Try.underlying25 fl_info32 rfl D5 D13 u7 x7_1 x9_2 [.slice Ao15 x9_2.length co15] (fun _=>True) (fun k_=>some k_=(.slice Ao15 x9_2.length co15:Value).ownBlock) rfl rfl (by exact Kd.M_row (Kd.R_mono (Kd.R_tight rfl (Kd.R_mono (ok':=fun k_=>((fun _=>True)) k_∧some k_ ≠ (u7:Value).ownBlock) (Kd.R_apart' (HO_9.out) (Kd.S_typed HO_7.out) D5) (fun k_ hk=>⟨trivial,hk.2⟩))) (fun _ h_=>h_))) (fun k_ hk_=>((Kd.R_mono (ok':=fun k_=>((fun _=>True)) k_∧some k_ ≠ (u7:Value).ownBlock) (Kd.R_apart' (HO_9.out) (Kd.S_typed HO_7.out) D5) (fun k_ hk=>⟨trivial,hk.2⟩))).1 k_ hk_.symm) D43 (by exact (by refine sS ?_;exact Kd.S_mono HO_7.out (fun k_ hk=>⟨trivial,fun e_=>hk e_⟩))) D64 D47 (by have:=LMc13.out;omega) ?_;intro v154 w14 ho hb hg hat;rw [← Ny153.out] at ho;have n0_:=am (hb);have n1_:=am (ho);clear HB HO_7 HO_9;have HB:=n0_;have HO155:=n1_;clear n0_ n1_ ho hb hg hat))
      go_roundg k2
      case measure=>have:=HK1.out;have:=HK2.out;omega
      case rel=>exact ⟨(y153),(wrap64 (x13_1+1)),D1,H',⟨D93⟩,⟨yS HO155⟩,⟨yW HB⟩⟩
   rw [if_neg c6] at H
   have c6b0:=decide_eq_false c6
   clear c6
   obtain rfl:=Option.some.inj H
   go_wp2
   go_ret
   exact ⟨_,D3,yS HO_7,yW HB⟩
section
section
open Go.Proofs.Yteflgifmdojahaa.KitR
theorem pl_add (a:Addr) (n:Nat):(a.add n).block=a.block:=by first | rfl | (cases a;rfl) | (unfold Addr.add;rfl) | (unfold Addr.add;split <;> rfl) | simp
theorem pl_infoI:(Try.prog.info? 3).map (fun i=>(i.zero,i.size,i.bytes))=some (some (.int .i64 0),1,8):=by kernel_rfl
theorem pl_infoS:(Try.prog.info? 62).map (fun i=>(i.zero,i.size,i.bytes))=some (some (.slice none 0 0),1,24):=by kernel_rfl
def rd_II (xs:List (List Int)) (i:Int):(List Int):=xs.getD i.toNat ([]:List Int)
theorem at_II {w:World} {A:Option Addr} {n:Nat} {xs:List (List Int)} (h:Kd.C (Kd.slice 3 (Kd.int .i64)) w A n xs) (i:Int) (h0:0≤i) (h1:i < n):∃ ad A0 c0,A=some ad∧w.cell? (ad.add i.toNat)=some (.slice A0 (rd_II xs i).length c0)∧(rd_II xs i).length≤c0∧(Kd.int .i64).C w A0 (rd_II xs i).length (rd_II xs i):=by
 obtain ⟨ad,c,e,_,hK,hc0⟩:=Kd.C_get h ([]:List Int) i h0 h1
 have hc:∀ j u,c[j]? = some u→w.cell? (ad.add (i.toNat*1+j))=some u:=hc0
 obtain ⟨A0,c0,rfl,l0,g0⟩:=hK
 exact ⟨ad,A0,c0,e,by have hq:=hc 0 _ rfl;rwa [Nat.mul_one,Nat.add_zero] at hq,l0,g0⟩
mutual
def impl_Msr_places.l0:Nat→Int→List (List Int)→Int→Int→Option ((List (List Int)))
 | 0,_,_,_,_=>none
 | k+1,x3,x4,x14,x15=>if x15 < x14 then (if 0≤x3 then (if (x3:Int).toNat≤35184372088832 then (if x4.length < 5864062014805 then (impl_Msr_places.l0 k x3 (x4 ++ [(List.replicate (x3:Int).toNat 0)]) x14 (wrap64 (x15+1))) else (none)) else (none)) else (none)) else ((some (([0,x3]:List Int):List Int)).bind fun y159=>(impl_Msr_places.l1 k x3 x4 0 y159 (y159.length:Int) 0))
def impl_Msr_places.l1:Nat→Int→List (List Int)→Int→List Int→Int→Int→Option ((List (List Int)))
 | 0,_,_,_,_,_,_=>none
 | k+1,x3,x4,x5,x24,x25,x26=>if x26 < x25 then (if 0≤x26 then (if x26 < (x24.length:Int) then (impl_Msr_places.l2 k x3 x4 x5 (rd x24 x26) x24 x25 x26 x3 0) else (none)) else (none)) else (some x4)
def impl_Msr_places.l2:Nat→Int→List (List Int)→Int→Int→List Int→Int→Int→Int→Int→Option ((List (List Int)))
 | 0,_,_,_,_,_,_,_,_,_=>none
 | k+1,x3,x4,x5,x7,x24,x25,x26,x30,x31=>if x31 < x30 then (impl_Msr_places.l3 k x3 x4 x5 x7 x31 x31 x24 x25 x26 x30 x31) else (impl_Msr_places.l1 k x3 x4 x5 x24 x25 (wrap64 (x26+1)))
def impl_Msr_places.l3:Nat→Int→List (List Int)→Int→Int→Int→Int→List Int→Int→Int→Int→Int→Option ((List (List Int)))
 | 0,_,_,_,_,_,_,_,_,_,_,_=>none
 | k+1,x3,x4,x5,x7,x8,x9,x24,x25,x26,x30,x31=>if x9 < x3 then (if 0≤(wrap64 (x7+x8)) then (if (wrap64 (x7+x8)) < (x4.length:Int) then (if 0≤x9 then (if x9 < ((rd_II x4 (wrap64 (x7+x8))).length:Int) then ((some (x4.set ((wrap64 (x7+x8)):Int).toNat ((rd_II x4 (wrap64 (x7+x8))).set (x9:Int).toNat x5):List (List Int))).bind fun y166=>(if 0≤(wrap64 (x7+x9)) then (if (wrap64 (x7+x9)) < (x4.length:Int) then (if 0≤x8 then (if x8 < ((rd_II y166 (wrap64 (x7+x9))).length:Int) then (impl_Msr_places.l3 k x3 (y166.set ((wrap64 (x7+x9)):Int).toNat ((rd_II y166 (wrap64 (x7+x9))).set (x8:Int).toNat x5)) (wrap64 (x5+1)) x7 x8 (wrap64 (x9+1)) x24 x25 x26 x30 x31) else (none)) else (none)) else (none)) else (none))) else (none)) else (none)) else (none)) else (none)) else (impl_Msr_places.l2 k x3 x4 x5 x7 x24 x25 x26 x30 (wrap64 (x31+1)))
end
def impl_Msr_places.f (k:Nat) (a0_0:Int) (a0_1:Int):Option ((List (List Int))):=(impl_Msr_alpha.f a0_0 a0_1).bind fun t149=>(impl_Msr_places.l0 k t149 (([]:List (List Int))) (wrap64 (2*t149)) 0)
theorem impl_Msr_places.mono_l:∀ k,(∀ y0 y1 y2 y3,LeO (impl_Msr_places.l0 k y0 y1 y2 y3) (impl_Msr_places.l0 (k+1) y0 y1 y2 y3))∧(∀ y0 y1 y2 y3 y4 y5,LeO (impl_Msr_places.l1 k y0 y1 y2 y3 y4 y5) (impl_Msr_places.l1 (k+1) y0 y1 y2 y3 y4 y5))∧(∀ y0 y1 y2 y3 y4 y5 y6 y7 y8,LeO (impl_Msr_places.l2 k y0 y1 y2 y3 y4 y5 y6 y7 y8) (impl_Msr_places.l2 (k+1) y0 y1 y2 y3 y4 y5 y6 y7 y8))∧(∀ y0 y1 y2 y3 y4 y5 y6 y7 y8 y9 y10,LeO (impl_Msr_places.l3 k y0 y1 y2 y3 y4 y5 y6 y7 y8 y9 y10) (impl_Msr_places.l3 (k+1) y0 y1 y2 y3 y4 y5 y6 y7 y8 y9 y10))
 | 0=>⟨fun _ _ _ _ r h=>by simp [impl_Msr_places.l0] at h,fun _ _ _ _ _ _ r h=>by simp [impl_Msr_places.l1] at h,fun _ _ _ _ _ _ _ _ _ r h=>by simp [impl_Msr_places.l2] at h,fun _ _ _ _ _ _ _ _ _ _ _ r h=>by simp [impl_Msr_places.l3] at h⟩
 | k+1=>by
  obtain ⟨ih0,ih1,ih2,ih3⟩:=impl_Msr_places.mono_l k
  refine ⟨?_,?_,?_,?_⟩
  ·intro y0 y1 y2 y3
   unfold impl_Msr_places.l0
   exact mm
  ·intro y0 y1 y2 y3 y4 y5
   unfold impl_Msr_places.l1
   exact mm
  ·intro y0 y1 y2 y3 y4 y5 y6 y7 y8
   unfold impl_Msr_places.l2
   exact mm
  intro y0 y1 y2 y3 y4 y5 y6 y7 y8 y9 y10
  unfold impl_Msr_places.l3
  exact mm
theorem impl_Msr_places.mono:∀ a0 a1 k,LeO (impl_Msr_places.f k a0 a1) (impl_Msr_places.f (k+1) a0 a1):=by
 intro a0 a1 k
 obtain ⟨ih0,ih1,ih2,ih3⟩:=impl_Msr_places.mono_l k
 unfold impl_Msr_places.f
 exact mm
theorem impl_Msr_places.calls (k:Nat) (a0_0:Int) (a0_1:Int) (r:List (List Int)) (w:World) (h:impl_Msr_places.f k a0_0 a0_1=some r) :
  Calls Try.prog 108 #[.agg #[.int .i64 a0_0, .int .i64 a0_1]] w fun e w'=>∃ v0_:Value,e = .returned (v0_)∧Kd.S (Kd.slice 3 (Kd.int .i64)) 62 w' w.heap.size (fun _=>True) v0_ r∧Below w.heap.size w w':=by
 have hu30:=Try.underlying30
 have HB:=am (Below.refl w.heap.size w)
 have H:=h
 unfold impl_Msr_places.f at H
 clear h
 obtain ⟨t149,A2,H⟩:=yo H
 generalize hy150:(([]:List (List Int)):List (List Int))=y150 at H
 have Ny150:=am hy150.symm
 clear hy150
 have H':=am H
 clear H
 go_enter Try.func108,Try.ntmps108
 go_wp2_with (first|((with_reducible refine gD 1 ?_);refine gB (cs:=#[.int .i64 a0_0, .int .i64 a0_1]) 30 ?_;intro gb148 hg w3 hbox hb;have BK148:=am (hbox);have GW148:=ye HB hg;replace HB:=yH HB hb;have GE148:=GW148;clear hb hbox hg;obtain ⟨hcz4_0,hcz4_1,hfz4_0,hfz4_1⟩:=yk2 BK148)|((with_reducible refine gC 103 ?_);refine gM (some 11) Try.func103 (args:=#[.agg #[.int .i64 a0_0, .int .i64 a0_1]]) (impl_Msr_alpha.calls a0_0 a0_1 t149 _ A2.out) ?_;rintro e w5 ⟨rfl,hb⟩;refine ⟨_,rfl,?_⟩;replace BK148:=yb BK148 hb;replace HB:=yH HB hb;clear hb)|((with_reducible refine gD 12 ?_);refine Kd.S_lit (Kd.slice 3 (Kd.int .i64)) _ 62 D16 (N:=12) D16 (xs:=([]:List (List Int))) (inner:=[]) (ok:=fun _=>True) (okp:=fun _=>True) D33 D65 (fun _ hk=>hk) trivial (Below.refl _ _) (Nat.le_refl _) D44 ?_;intro v151 w6 ho7 hb hg_ hnew_;clear hg_ hnew_;(first|rw [← Ny150.out] at ho7|(simp only [Int.reduceToNat] at ho7;rw [← Ny150.out] at ho7));have HO152:=am (Kd.S_lower ho7 (pz (yW HB)));replace BK148:=yb BK148 hb;replace HB:=yH HB hb;clear hb ho7))
 go_loopg [4,15] k (fun kq v4 v15 w'=>∃ (x4_1:List (List Int)) (x15_1:Int),v15 = .int .i64 x15_1∧Aside0 (impl_Msr_places.l0 kq t149 x4_1 (wrap64 (2*t149)) x15_1=some r)∧Aside0 (kq≤k)∧Aside0 (Kd.S (Kd.slice 3 (Kd.int .i64)) 62 w' w.heap.size (fun _=>True) v4 x4_1)∧Aside0 (w'.heap[gb148]? = some (.cells #[.int .i64 a0_0, .int .i64 a0_1] 30 (0,0)))∧Aside0 (Below w.heap.size w w'))
 case atStart=>exact ⟨(y150),(0),D1,H',⟨Nat.le_refl _⟩,⟨yS HO152⟩,⟨yB BK148⟩,⟨yW HB⟩⟩
 case round =>
  clear H'
  try clear c1
  try clear p2
  try clear p6
  try clear hcz4_0
  try clear hcz4_1
  try clear hfz4_0
  try clear hfz4_1
  obtain ⟨x4_1,x15_1,rfl,HA,HK1,HO_4,BK148,HB⟩:=hrel
  cases gk with
  | zero=>exact absurd HA.out (by simp [impl_Msr_places.l0])
  | succ k1 =>
   have H:=HA.out
   clear HA
   simp only [impl_Msr_places.l0] at H
   by_cases c8:x15_1 < (wrap64 (2*t149))
   ·rw [if_pos c8] at H
    have c8b0:=decide_eq_true c8
    clear c8
    obtain ⟨c9,H⟩:=yi H
    have c9b0:=eq_true c9
    have c9b1:decide (0≤t149)=true:=decide_eq_true c9
    clear c9
    obtain ⟨c10,H⟩:=yi H
    have c10b0:=eq_true c10
    have c10b1:decide ((t149:Int).toNat≤35184372088832)=true:=decide_eq_true c10
    clear c10
    generalize hy153:(List.replicate (t149:Int).toNat 0:List Int)=y153 at H
    have Ny153:=am hy153.symm
    clear hy153
    obtain ⟨c11,H⟩:=yi H
    have LMc11:=am c11
    clear c11
    generalize hy156:(x4_1 ++ [y153]:List (List Int))=y156 at H
    have Ny156:=am hy156.symm
    clear hy156
    have H':=am H
    clear H
    go_wp2_with (first|((with_reducible refine gD 19 ?_);refine Kd.R_make (Kd.int .i64) _ 3 rfl (N:=19) rfl 62 _ _ rfl t149 rfl rfl Try.underlying62 (.int .i64 0) 8 pl_infoI rfl D5 D13 0 (ok:=fun _=>True) (okp:=fun _=>True) rfl (fun _ hk=>hk) trivial (od D0) (Nat.le_trans (Nat.mul_le_mul_right _ (od D0:t149.toNat≤35184372088832)) D13) (Below.refl _ _) (Nat.le_refl _) ?_;intro v154 w12 ho13 hb hg_ hnew_;clear hg_ hnew_;(first|rw [← Ny153.out] at ho13|(simp only [Int.reduceToNat] at ho13;rw [← Ny153.out] at ho13));replace HO_4:=eS HO_4 (Kd.R_base ho13) hb;have HO155:=am (Kd.R_lower ho13 (pz (yW HB)));replace BK148:=yb BK148 hb;replace HB:=yH HB hb;clear hb ho13;obtain ⟨Ao15,co15,eo15⟩:=Kd.R_slice HO155.out;subst eo15)|((with_reducible refine gate_builtin (b:=.append) (xs:=#[.tmp 17, .tmp 20]) rfl ?_);at_builtin;refine Kd.S_append (Kd.slice 3 (Kd.int .i64)) (w0:=w) w.heap.size rfl (.tmp 17) (.tmp 20) 135 62 (.slice none 0 0) 24 rfl Try.underlying135 pl_infoS rfl D5 D13 u4 x4_1 y153 [.slice Ao15 y153.length co15] (fun _=>True) (fun k_=>some k_=(.slice Ao15 y153.length co15:Value).ownBlock) rfl rfl (by exact Kd.M_row (Kd.R_mono (Kd.R_tight rfl (Kd.R_mono (ok':=fun k_=>((fun _=>True)) k_∧some k_ ≠ (u4:Value).ownBlock) (Kd.R_apart' (HO155.out) (Kd.S_typed HO_4.out) D5) (fun k_ hk=>⟨trivial,hk.2⟩))) (fun _ h_=>h_))) (fun k_ hk_=>((Kd.R_mono (ok':=fun k_=>((fun _=>True)) k_∧some k_ ≠ (u4:Value).ownBlock) (Kd.R_apart' (HO155.out) (Kd.S_typed HO_4.out) D5) (fun k_ hk=>⟨trivial,hk.2⟩))).1 k_ hk_.symm) D43 (by exact (by refine sS ?_;exact Kd.S_mono HO_4.out (fun k_ hk=>⟨trivial,fun e_=>hk.2 e_⟩))) D64 D47 (by have:=LMc11.out;omega) ?_;intro v157 w14 ho hb hg hat;rw [← Ny156.out] at ho;have n0_:=am (blk_grown (g:=gb148) (o:=.cells #[.int .i64 a0_0, .int .i64 a0_1] 30 (0,0)) (yB BK148) hg (Kd.S_ne HO_4.out BK148.out D5));have n1_:=am (hb);have n2_:=am (ho);clear BK148 HB HO_4 HO155;have BK148:=n0_;have HB:=n1_;have HO158:=n2_;clear n0_ n1_ n2_ ho hb hg hat))
    go_roundg k1
    case measure=>have:=HK1.out;omega
    case rel=>exact ⟨(y156),(wrap64 (x15_1+1)),D1,H',⟨D38⟩,⟨yS HO158⟩,⟨yB BK148⟩,⟨yW HB⟩⟩
   rw [if_neg c8] at H
   have c8b0:=decide_eq_false c8
   clear c8
   obtain ⟨y159,hy159,H⟩:=ys H
   have Ny159:=am hy159
   clear hy159
   have H':=am H
   clear H
   go_wp2_with (first|((with_reducible refine gD 24 ?_);refine Kd.R_lit (Kd.int .i64) _ 3 D16 (N:=24) D16 (xs:=([0,t149]:List Int)) (inner:=[.int .i64 0, .int .i64 t149]) (ok:=fun _=>True) (okp:=fun _=>True) D33 (by exact (Reps.one (show Kd.M (Kd.int .i64) _ _ _ 0 [.int .i64 0] from rfl) (Reps.one (show Kd.M (Kd.int .i64) _ _ _ t149 [.int .i64 t149] from rfl) (Reps.none _ _)))) (fun _ hk=>hk) trivial (Below.refl _ _) (Nat.le_refl _) D44 ?_;intro v160 w16 ho17 hb hg_ hnew_;clear hg_ hnew_;(first|rw [← Ny159.out] at ho17|(simp only [Int.reduceToNat] at ho17;rw [← Ny159.out] at ho17));replace HO_4:=eS HO_4 (Kd.R_base ho17) hb;have HO161:=am (Kd.R_lower ho17 (pz (yW HB)));replace BK148:=yb BK148 hb;replace HB:=yH HB hb;clear hb ho17;obtain ⟨Ao18,co18,eo18⟩:=Kd.R_slice HO161.out;subst eo18))
   go_loopg [5,26] k1 (fun kq v5 v26 w'=>∃ (x4_2:List (List Int)) (x5_2:Int) (x24_2:List Int) (x26_2:Int),v5 = .int .i64 x5_2∧v26 = .int .i64 x26_2∧Aside0 (impl_Msr_places.l1 kq t149 x4_2 x5_2 x24_2 (y159.length:Int) x26_2=some r)∧Aside0 (kq≤k1)∧Aside0 (Kd.S (Kd.slice 3 (Kd.int .i64)) 62 w' w.heap.size (fun k_=>some k_ ≠ ((.slice Ao18 y159.length co18):Value).ownBlock) u4 x4_2)∧Aside0 (Kd.R (Kd.int .i64) 3 w' w.heap.size (fun _=>True) (.slice Ao18 y159.length co18) x24_2)∧Aside0 (w'.heap[gb148]? = some (.cells #[.int .i64 a0_0, .int .i64 a0_1] 30 (0,0)))∧Aside0 (Below w.heap.size w w'))
   case atStart=>exact ⟨(x4_1),(0),(y159),(0),D1,D1,H',⟨Nat.le_refl _⟩,⟨by refine sS ?_;exact Kd.S_mono HO_4.out (fun _ hk=>hk.2)⟩,⟨yR HO161⟩,⟨yB BK148⟩,⟨yW HB⟩⟩
   case round =>
    clear H'
    try clear c1
    try clear p2
    try clear p6
    try clear c8
    try clear c8b0
    try clear c9
    try clear c9b0
    try clear c9b1
    try clear c10
    try clear c10b0
    try clear c10b1
    try clear c11
    try clear hcz4_0
    try clear hcz4_1
    try clear hfz4_0
    try clear hfz4_1
    try clear p2
    try clear p6
    obtain ⟨x4_2,x5_2,x24_2,x26_2,rfl,rfl,HA,HK2,HO_4,HO_24,BK148,HB⟩:=hrel
    have hl24_2:=(Kd.R_reads' HO_24.out).1
    rw [hl24_2] at HO_24
    (try simp only [hl24_2])
    (try simp only [hl24_2] at BK148)
    (try simp only [hl24_2] at HO_4)
    cases gk with
    | zero=>exact absurd HA.out (by simp [impl_Msr_places.l1])
    | succ k2 =>
     have H:=HA.out
     clear HA
     simp only [impl_Msr_places.l1] at H
     by_cases c19:x26_2 < (y159.length:Int)
     ·rw [if_pos c19] at H
      have c19b0:=decide_eq_true c19
      clear c19
      obtain ⟨c20,H⟩:=yi H
      have c20b0:=decide_eq_true c20
      clear c20
      obtain ⟨c21,H⟩:=yi H
      have c21b0:=decide_eq_true c21
      clear c21
      have H':=am H
      clear H
      have p162:0≤(x26_2:Int):=od D0
      have q162:x26_2 < (x24_2.length:Int):=od D0
      obtain ⟨ad162,e162,hx162_0⟩:=Kd.at_int (Kd.R_reads' HO_24.out).2.2 x26_2 p162 q162
      cases e162
      replace p162:=eq_true p162
      replace q162:=eq_true q162
      go_wp2
      go_loopg [5,31] k2 (fun kq v5 v31 w'=>∃ (x4_3:List (List Int)) (x5_3:Int) (x24_3:List Int) (x31_3:Int),v5 = .int .i64 x5_3∧v31 = .int .i64 x31_3∧Aside0 (impl_Msr_places.l2 kq t149 x4_3 x5_3 (rd x24_2 x26_2) x24_3 (y159.length:Int) x26_2 t149 x31_3=some r)∧Aside0 (kq≤k2)∧Aside0 (Kd.S (Kd.slice 3 (Kd.int .i64)) 62 w' w.heap.size (fun k_=>some k_ ≠ ((.slice (some ad162) x24_2.length co18):Value).ownBlock) u4 x4_3)∧Aside0 (Kd.R (Kd.int .i64) 3 w' w.heap.size (fun _=>True) (.slice (some ad162) x24_2.length co18) x24_3)∧Aside0 (w'.heap[gb148]? = some (.cells #[.int .i64 a0_0, .int .i64 a0_1] 30 (0,0)))∧Aside0 (Below w.heap.size w w'))
      case atStart=>exact ⟨(x4_2),(x5_2),(x24_2),(0),D1,D1,H',⟨Nat.le_refl _⟩,⟨by (try simp only [hl24_2]);refine sS ?_;exact HO_4.out⟩,⟨by (try simp only [hl24_2]);refine sR ?_;exact HO_24.out⟩,⟨by (try simp only [hl24_2]);exact yB BK148⟩,⟨yW HB⟩⟩
      case round =>
       clear H'
       try clear c1
       try clear p1
       try clear q1
       try clear hx1
       try clear c2
       try clear p2
       try clear p6
       try clear c8
       try clear c8b0
       try clear c9
       try clear c9b0
       try clear c9b1
       try clear c10
       try clear c10b0
       try clear c10b1
       try clear c11
       try clear p16
       try clear q16
       try clear hx16
       try clear c19
       try clear c19b0
       try clear c20
       try clear c20b0
       try clear c21
       try clear c21b0
       try clear hcz4_0
       try clear hcz4_1
       try clear hfz4_0
       try clear hfz4_1
       try clear hx162_0
       try clear p162
       try clear p2
       try clear p6
       try clear q162
       obtain ⟨x4_3,x5_3,x24_3,x31_3,rfl,rfl,HA,HK3,HO_4,HO_24,BK148,HB⟩:=hrel
       have hl24_3:=(Kd.R_reads' HO_24.out).1
       rw [hl24_3] at HO_24
       (try simp only [hl24_3])
       (try simp only [hl24_3] at BK148)
       (try simp only [hl24_3] at HO_4)
       cases gk with
       | zero=>exact absurd HA.out (by simp [impl_Msr_places.l2])
       | succ k3 =>
        have H:=HA.out
        clear HA
        simp only [impl_Msr_places.l2] at H
        by_cases c22:x31_3 < t149
        ·rw [if_pos c22] at H
         have c22b0:=decide_eq_true c22
         clear c22
         have H':=am H
         clear H
         go_wp2
         go_loopg [5,9] k3 (fun kq v5 v9 w'=>∃ (x4_4:List (List Int)) (x5_4:Int) (x9_4:Int) (x24_4:List Int),v5 = .int .i64 x5_4∧v9 = .int .i64 x9_4∧Aside0 (impl_Msr_places.l3 kq t149 x4_4 x5_4 (rd x24_2 x26_2) x31_3 x9_4 x24_4 (y159.length:Int) x26_2 t149 x31_3=some r)∧Aside0 (kq≤k3)∧Aside0 (Kd.S (Kd.slice 3 (Kd.int .i64)) 62 w' w.heap.size (fun k_=>some k_ ≠ ((.slice (some ad162) x24_3.length co18):Value).ownBlock) u4 x4_4)∧Aside0 (Kd.R (Kd.int .i64) 3 w' w.heap.size (fun _=>True) (.slice (some ad162) x24_3.length co18) x24_4)∧Aside0 (w'.heap[gb148]? = some (.cells #[.int .i64 a0_0, .int .i64 a0_1] 30 (0,0)))∧Aside0 (Below w.heap.size w w'))
         case atStart=>exact ⟨(x4_3),(x5_3),(x31_3),(x24_3),D1,D1,H',⟨Nat.le_refl _⟩,⟨by (try simp only [hl24_2]);(try simp only [hl24_3]);refine sS ?_;exact HO_4.out⟩,⟨by (try simp only [hl24_2]);(try simp only [hl24_3]);refine sR ?_;exact HO_24.out⟩,⟨by (try simp only [hl24_2]);(try simp only [hl24_3]);exact yB BK148⟩,⟨yW HB⟩⟩
         case round =>
          clear H'
          try clear c1
          try clear p1
          try clear q1
          try clear hx1
          try clear c2
          try clear p2
          try clear p6
          try clear c8
          try clear c8b0
          try clear c9
          try clear c9b0
          try clear c9b1
          try clear c10
          try clear c10b0
          try clear c10b1
          try clear c11
          try clear p16
          try clear q16
          try clear hx16
          try clear c19
          try clear c19b0
          try clear c20
          try clear c20b0
          try clear c21
          try clear c21b0
          try clear c22
          try clear c22b0
          try clear hcz4_0
          try clear hcz4_1
          try clear hfz4_0
          try clear hfz4_1
          try clear hx162_0
          try clear p1
          try clear p16
          try clear p162
          try clear p2
          try clear p6
          try clear q1
          try clear q16
          try clear q162
          obtain ⟨x4_4,x5_4,x9_4,x24_4,rfl,rfl,HA,HK4,HO_4,HO_24,BK148,HB⟩:=hrel
          have hl24_4:=(Kd.R_reads' HO_24.out).1
          rw [hl24_4] at HO_24
          (try simp only [hl24_4])
          (try simp only [hl24_4] at BK148)
          (try simp only [hl24_4] at HO_4)
          cases gk with
          | zero=>exact absurd HA.out (by simp [impl_Msr_places.l3])
          | succ k4 =>
           have H:=HA.out
           clear HA
           simp only [impl_Msr_places.l3] at H
           by_cases c23:x9_4 < t149
           ·rw [if_pos c23] at H
            have c23b0:=decide_eq_true c23
            clear c23
            generalize hji24:(wrap64 ((rd x24_2 x26_2)+x31_3))=ji24 at H
            have hji24w:(IntKind.i64.wrap ((rd x24_2 x26_2)+x31_3))=ji24:=(i64_w _).trans hji24
            obtain ⟨c25,H⟩:=yi H
            have c25b0:=decide_eq_true c25
            clear c25
            obtain ⟨c26,H⟩:=yi H
            have c26b0:=decide_eq_true c26
            clear c26
            obtain ⟨c27,H⟩:=yi H
            have c27b0:=decide_eq_true c27
            clear c27
            obtain ⟨c28,H⟩:=yi H
            have c28b0:=decide_eq_true c28
            clear c28
            generalize hy164:((rd_II x4_4 (ji24)).set (x9_4:Int).toNat x5_4:List Int)=y164 at H
            have Ny164:=am hy164.symm
            clear hy164
            obtain ⟨y166,hy166,H⟩:=ys H
            have Ny166:=am hy166
            clear hy166
            generalize hji30:(wrap64 ((rd x24_2 x26_2)+x9_4))=ji30 at H
            have hji30w:(IntKind.i64.wrap ((rd x24_2 x26_2)+x9_4))=ji30:=(i64_w _).trans hji30
            obtain ⟨c31,H⟩:=yi H
            have c31b0:=decide_eq_true c31
            clear c31
            obtain ⟨c32,H⟩:=yi H
            have c32b0:=decide_eq_true c32
            clear c32
            obtain ⟨c33,H⟩:=yi H
            have c33b0:=decide_eq_true c33
            clear c33
            obtain ⟨c34,H⟩:=yi H
            have c34b0:=decide_eq_true c34
            clear c34
            generalize hy168:((rd_II y166 (ji30)).set (x31_3:Int).toNat x5_4:List Int)=y168 at H
            have Ny168:=am hy168.symm
            clear hy168
            generalize hy170:(y166.set ((ji30):Int).toNat y168:List (List Int))=y170 at H
            have Ny170:=am hy170.symm
            clear hy170
            have H':=am H
            clear H
            try go_wp2
            replace HO_4:=am (Kd.S_drew HO_4.out)
            replace HO_24:=am (Kd.R_drew HO_24.out)
            replace BK148:=am (qd BK148.out)
            replace HB:=am (pd HB.out)
            obtain ⟨Ao37,co37,eo37⟩:=Kd.S_slice HO_4.out
            (first|subst eo37|(injection eo37 with f1_ f2_ f3_;have f4_:=f1_.symm;have f5_:=f3_.symm;clear f1_ f2_ f3_;subst f4_;subst f5_))
            have p163:0≤((ji24):Int):=od D0
            have q163:(ji24) < (x4_4.length:Int):=od D0
            obtain ⟨ad163,A163_0,c163_0,e163,hx163_0,hl163_0,hi163_0⟩:=at_II (Kd.S_reads' HO_4.out).2.2 (ji24) p163 q163
            cases e163
            obtain ⟨ce163,hce163,hMe163,hcc163⟩:=Kd.S_get HO_4.out [] (ji24) p163 (by first|exact q163|exact od D0|(have e_:=(Kd.S_reads' HO_4.out).1;omega))
            obtain ⟨ve163_0,rfl,ge163_0⟩:=hMe163
            have hv163_0:=hcc163 0 _ rfl
            rw [Nat.add_zero,show ((Kd.slice 3 (Kd.int .i64))).sz=1 from rfl,Nat.mul_one] at hv163_0
            replace hv163_0:=Option.some.inj (hv163_0.symm.trans hx163_0)
            rw [hv163_0] at ge163_0
            have HL163_0:=am (show Kd.R (Kd.int .i64) 3 _ _ _ _ (rd_II x4_4 (ji24)) from ge163_0)
            clear hv163_0 ge163_0
            have HX163_0:=am hx163_0
            clear hcc163 hce163
            have HR163_0:=am hi163_0
            have HC163_0:=am hl163_0
            clear hi163_0 hl163_0
            replace p163:=eq_true p163
            replace q163:=eq_true q163
            have p29:0≤(x9_4:Int):=od D0
            have q29:(x9_4:Int) < (((rd_II x4_4 (ji24)).length:Int):Int):=od D0
            obtain ⟨go29,co29,eo29,gb29,gl29,cl29,HG29⟩:=Kd.R_form HL163_0.out D13
            (first|cases eo29|(injection eo29 with ea_ en_ ec_;(first|subst ea_|(injection ea_ with ea_;subst ea_));subst ec_;clear en_))
            have GB29:=am gb29
            have GG29:=am HG29
            clear gb29 gl29 HG29
            obtain ⟨hx29_0,hf29_0⟩:=Kd.R_celln 0 HL163_0.out (x9_4:Int) p29 q29
            replace p29:=eq_true p29
            replace q29:=eq_true q29
            have hq38:((ji24):Int) < (x4_4.length:Int):=(by have h_:((ji24):Int) < ((x4_4.length:Int):Int):=od D0;first|exact h_|(have e_:=(Kd.S_reads' HO_4.out).1;omega)|simpa only [List.length_set,List.length_set] using h_)
            obtain ⟨oki38,ce38,hcl38,hM38,hcc38,hok38,hbk38⟩:=Kd.S_borrow HO_4.out [] ((ji24):Int) (od D0) hq38
            obtain ⟨ve38_0,rfl,ge38_0⟩:=hM38
            have hv38:=hcc38 0 _ rfl
            rw [Nat.add_zero,show ((Kd.slice 3 (Kd.int .i64))).sz=1 from rfl,Nat.mul_one] at hv38
            replace hv38:=Option.some.inj (hv38.symm.trans HX163_0.out)
            subst hv38
            clear hcc38 hcl38
            replace ge38_0:=(show Kd.R (Kd.int .i64) 3 _ _ _ _ (rd_II x4_4 (ji24)) from ge38_0)
            have HP38:=Kd.R_putg ge38_0 (x9_4:Int) x5_4
            rw [← Ny164.out] at HP38
            have HS38:=hbk38 HP38.2 (fun k_ e_=>by injection e_ with e_;subst e_;exact ge38_0.1 _ rfl) (x':=y164) (Kd.M_row HP38.1)
            rw [← Ny166.out] at HS38
            have HQ38:=am HS38
            have hne_:go29 ≠ ad163.block:=fun e_=>(hok38 go29 (ge38_0.1 _ rfl)).2 (by rw [e_];rfl)
            clear HP38 HS38 hbk38 hok38
            have p2_:0≤((ji30):Int):=od D0
            have q2_:(ji30) < (x4_4.length:Int):=od D0
            obtain ⟨ad2_,A2_,c2_,e2_,hx2_,_,_⟩:=at_II (Kd.S_reads' HO_4.out).2.2 (ji30) p2_ q2_
            obtain rfl:ad163=ad2_:=(by injection e2_)
            obtain ⟨N2_,hN2_⟩:∃ N_:Nat,N_=(rd_II x4_4 (ji30)).length:=⟨_,rfl⟩
            rw [← hN2_] at hx2_
            clear e2_ hN2_
            replace p2_:=eq_true p2_
            replace q2_:=eq_true q2_
            refine KitR.rS (n:=20) (B:=[0,0,0,0,0,0,0,0,0,0,0,0,0,0,0,0,0,86143,0,524287]) (S:=fun w'=>w'.cell? (ad163.add ((ji24)).toNat)=some (.slice (some ⟨go29,0,none⟩) (rd_II x4_4 (ji24)).length c163_0)∧w'.cell? (ad163.add ((ji30)).toNat)=some (.slice A2_ N2_ c2_)) (ds:=[17,19]) [(0,40),(1,41),(2,42),(3,43),(4,44),(6,46),(7,47),(8,48),(9,49),(10,50),(11,51),(13,53),(14,54),(15,55),(5,45),(12,52),(16,56),(17,0),(18,57),(19,0)] D2 rfl rfl D2 ⟨hx163_0,hx2_⟩ (fun hHeld HT_ HW_=>?_)
            generalize wr.drew=w36 at HO_4 HO_24 BK148 HB GG29 HL163_0 HQ38 HR163_0 HX163_0 hf29_0 hx163_0 hx29_0 hHeld hx2_ ⊢
            refine KitR.rR ?_
            refine KitR.rL (N:=none) HT_ rfl rfl D2 D5 (fun K hK=>?_)
            refine skip_ (w1:=?_) D16 rfl ?_ ?_
            rotate_left
            ·go_simp
             rfl
            refine hK.out _ _ ?_
            clear hK K hHeld
            have n0_:Aside0 (Kd.S (Kd.slice 3 (Kd.int .i64)) 62 (w36.setCell ⟨go29,(x9_4:Int).toNat,none⟩ (.int .i64 x5_4)) w.heap.size (fun k_=>some k_ ≠ (.slice (some ad162) x24_4.length co18:Value).ownBlock) (.slice (some ad163) x4_4.length co37) y166):=⟨yS HQ38⟩
            have n1_:Aside0 (Kd.R (Kd.int .i64) 3 (w36.setCell ⟨go29,(x9_4:Int).toNat,none⟩ (.int .i64 x5_4)) w.heap.size (fun _=>True) (.slice (some ad162) x24_4.length co18) x24_4):=⟨by refine sR ?_;exact Kd.R_mono (Kd.R_far (p:=⟨go29,(x9_4:Int).toNat,none⟩) (Kd.R_far1 HO_24.out rfl ((HL163_0.out.1 _ rfl).1)) (fun _ hk=>hk.2) (.int .i64 x5_4)) (fun _ hk=>trivial)⟩
            have n2_:Aside0 ((w36.setCell ⟨go29,(x9_4:Int).toNat,none⟩ (.int .i64 x5_4)).heap[gb148]? = some (.cells #[.int .i64 a0_0, .int .i64 a0_1] 30 (0,0))):=⟨by refine sB ?_;refine blk_far ?_ (by have h_:=Kd.R_ne HL163_0.out BK148.out D5;intro e_;exact h_ (by rw [e_];rfl)) _;exact yB BK148⟩
            have n3_:Aside0 (Below w.heap.size w (w36.setCell ⟨go29,(x9_4:Int).toNat,none⟩ (.int .i64 x5_4))):=⟨by repeat (first|(with_reducible first|exact HB.out|apply pa|apply pb|apply pd|refine pt ?_ GB29.out|refine pt ?_ GE148.out)|exact HB.out)⟩
            (try clear HO_4)
            (try clear HO_24)
            (try clear BK148)
            (try clear HB)
            have hx3_:(w36.setCell ⟨go29,(x9_4:Int).toNat,none⟩ (.int .i64 x5_4)).cell? (ad163.add ((ji30)).toNat)=some (.slice A2_ N2_ c2_):=(cell_far (fun e_=>hne_ (((pl_add _ _).symm.trans e_).symm)) _).trans hx2_
            clear hx2_ hne_
            generalize (w36.setCell ⟨go29,(x9_4:Int).toNat,none⟩ (.int .i64 x5_4))=w40 at n0_ n1_ n2_ n3_ hx3_ ⊢
            have HO_4:=n0_
            have HO_24:=n1_
            have BK148:=n2_
            have HB:=n3_
            clear n0_ n1_ n2_ n3_
            have p167:0≤((ji30):Int):=od D0
            have q167:(ji30) < (y166.length:Int):=(by have h_:((ji30):Int) < ((x4_4.length:Int):Int):=od D0;first|(have e_:=(Kd.S_reads' HO_4.out).1;omega)|simpa only [Ny166.out,List.length_set] using h_)
            have ql167:(((ji30):Int) < ((x4_4.length:Int):Int))=True:=eq_true (od D0)
            obtain ⟨ad167,A167_0,c167_0,e167,hx167_0,hl167_0,hi167_0⟩:=at_II (Kd.S_reads' HO_4.out).2.2 (ji30) p167 q167
            obtain rfl:ad163=ad167:=(by injection e167)
            have he_:=Option.some.inj (hx167_0.symm.trans hx3_)
            clear hx3_
            injection he_ with he1_ he2_ he3_
            subst he1_
            subst he2_
            subst he3_
            obtain ⟨ce167,hce167,hMe167,hcc167⟩:=Kd.S_get HO_4.out [] (ji30) p167 (by first|exact q167|exact od D0|(have e_:=(Kd.S_reads' HO_4.out).1;omega))
            obtain ⟨ve167_0,rfl,ge167_0⟩:=hMe167
            have hv167_0:=hcc167 0 _ rfl
            rw [Nat.add_zero,show ((Kd.slice 3 (Kd.int .i64))).sz=1 from rfl,Nat.mul_one] at hv167_0
            replace hv167_0:=Option.some.inj (hv167_0.symm.trans hx167_0)
            rw [hv167_0] at ge167_0
            have HL167_0:=am (show Kd.R (Kd.int .i64) 3 _ _ _ _ (rd_II y166 (ji30)) from ge167_0)
            clear hv167_0 ge167_0
            have HX167_0:=am hx167_0
            clear hcc167 hce167
            have HR167_0:=am hi167_0
            have HC167_0:=am hl167_0
            clear hi167_0 hl167_0
            replace p167:=eq_true p167
            replace q167:=eq_true q167
            have p35:0≤(x31_3:Int):=od D0
            have q35:(x31_3:Int) < (((rd_II y166 (ji30)).length:Int):Int):=od D0
            obtain ⟨go35,co35,eo35,gb35,gl35,cl35,HG35⟩:=Kd.R_form HL167_0.out D13
            (first|cases eo35|(injection eo35 with ea_ en_ ec_;(first|subst ea_|(injection ea_ with ea_;subst ea_));subst ec_;clear en_))
            have GB35:=am gb35
            have GG35:=am HG35
            clear gb35 gl35 HG35
            obtain ⟨hx35_0,hf35_0⟩:=Kd.R_celln 0 HL167_0.out (x31_3:Int) p35 q35
            replace p35:=eq_true p35
            replace q35:=eq_true q35
            have hq42:((ji30):Int) < (x4_4.length:Int):=od D0
            obtain ⟨oki42,ce42,hcl42,hM42,hcc42,hok42,hbk42⟩:=Kd.S_borrow HO_4.out [] ((ji30):Int) (od D0) hq42
            obtain ⟨ve42_0,rfl,ge42_0⟩:=hM42
            have hv42:=hcc42 0 _ rfl
            rw [Nat.add_zero,show ((Kd.slice 3 (Kd.int .i64))).sz=1 from rfl,Nat.mul_one] at hv42
            replace hv42:=Option.some.inj (hv42.symm.trans HX167_0.out)
            subst hv42
            clear hcc42 hcl42
            replace ge42_0:=(show Kd.R (Kd.int .i64) 3 _ _ _ _ (rd_II y166 (ji30)) from ge42_0)
            have HP42:=Kd.R_putg ge42_0 (x31_3:Int) x5_4
            rw [← Ny168.out] at HP42
            have HS42:=hbk42 HP42.2 (fun k_ e_=>by injection e_ with e_;subst e_;exact ge42_0.1 _ rfl) (x':=y168) (Kd.M_row HP42.1)
            rw [← Ny170.out] at HS42
            have HQ42:=am HS42
            clear HP42 HS42 hbk42 hok42
            refine KitR.rR ?_
            refine KitR.rL (N:=none) HT_ rfl rfl D2 D5 (fun K hK=>?_)
            refine skip_ (w1:=?_) D16 rfl ?_ ?_
            rotate_left
            ·go_simp
             rfl
            refine hK.out _ _ ?_
            clear hK K
            refine KitR.rD HT_ D2 ?_
            try go_wp2
            (try simp only [← hl24_4])
            go_roundg k4
            case measure=>have:=HK1.out;have:=HK2.out;have:=HK3.out;have:=HK4.out;omega
            case rel=>exact ⟨(y170),(wrap64 (x5_4+1)),(wrap64 (x9_4+1)),(x24_4),D1,D1,H',⟨by have:=HK1.out;have:=HK2.out;have:=HK3.out;have:=HK4.out;omega⟩,⟨by (try simp only [hl24_2]);(try simp only [hl24_3]);(try simp only [hl24_4]);refine sS ?_;exact HQ42.out⟩,⟨by (try simp only [hl24_2]);(try simp only [hl24_3]);(try simp only [hl24_4]);refine sR ?_;exact Kd.R_mono (Kd.R_far (p:=⟨go35,(x31_3:Int).toNat,none⟩) (Kd.R_far1 HO_24.out rfl ((HL167_0.out.1 _ rfl).1)) (fun _ hk=>hk.2) (.int .i64 x5_4)) (fun _ hk=>trivial)⟩,⟨by (try simp only [hl24_2]);(try simp only [hl24_3]);(try simp only [hl24_4]);refine sB ?_;refine blk_far ?_ (by have h_:=Kd.R_ne HL167_0.out BK148.out D5;intro e_;exact h_ (by rw [e_];rfl)) _;exact yB BK148⟩,⟨by repeat (first|(with_reducible first|exact HB.out|apply pa|apply pb|apply pd|refine pt ?_ GB35.out|refine pt ?_ GE148.out)|exact HB.out)⟩⟩
           rw [if_neg c23] at H
           have c23b0:=decide_eq_false c23
           clear c23
           have H':=am H
           clear H
           go_wp2
           (try simp only [← hl24_3,← hl24_4])
           go_roundg k4
           case measure=>have:=HK1.out;have:=HK2.out;have:=HK3.out;have:=HK4.out;omega
           case rel=>exact ⟨(x4_4),(x5_4),(x24_4),(wrap64 (x31_3+1)),D1,D1,H',⟨by have:=HK1.out;have:=HK2.out;have:=HK3.out;have:=HK4.out;omega⟩,⟨by (try simp only [hl24_2]);(try simp only [hl24_3]);(try simp only [hl24_4]);refine sS ?_;exact HO_4.out⟩,⟨by (try simp only [hl24_2]);(try simp only [hl24_3]);(try simp only [hl24_4]);refine sR ?_;exact HO_24.out⟩,⟨by (try simp only [hl24_2]);(try simp only [hl24_3]);(try simp only [hl24_4]);exact yB BK148⟩,⟨yW HB⟩⟩
        rw [if_neg c22] at H
        have c22b0:=decide_eq_false c22
        clear c22
        have H':=am H
        clear H
        go_wp2
        (try simp only [← hl24_2,← hl24_3])
        go_roundg k3
        case measure=>have:=HK1.out;have:=HK2.out;have:=HK3.out;omega
        case rel=>exact ⟨(x4_3),(x5_3),(x24_3),(wrap64 (x26_2+1)),D1,D1,H',⟨by have:=HK1.out;have:=HK2.out;have:=HK3.out;omega⟩,⟨by (try simp only [hl24_2]);(try simp only [hl24_3]);refine sS ?_;exact HO_4.out⟩,⟨by (try simp only [hl24_2]);(try simp only [hl24_3]);refine sR ?_;exact HO_24.out⟩,⟨by (try simp only [hl24_2]);(try simp only [hl24_3]);exact yB BK148⟩,⟨yW HB⟩⟩
     rw [if_neg c19] at H
     have c19b0:=decide_eq_false c19
     (try simp only [hl24_2] at c19b0)
     (try simp only [hl24_2] at c19b0)
     clear c19
     obtain rfl:=Option.some.inj H
     go_wp2
     go_ret
     exact ⟨_,D3,by refine sS ?_;exact Kd.S_mono HO_4.out (fun _ hk=>trivial),yW HB⟩
end

section
open Go.Proofs.Yteflgifmdojahaa.KitR
def impl_Msr_message.E (l:List Int) (P:List (List Int)) (k:Nat) (i j:Int):Option Int:=if (0≤i∧i < (P.length:Int))∧(0≤j∧j < ((rd_II P i).length:Int))∧0≤rd (rd_II P i) j∧rd (rd_II P i) j < (l.length:Int) then some (rd l (rd (rd_II P i) j)) else none
theorem impl_Msr_message.mono_E (l:List Int) (P:List (List Int)):∀ i j k,LeO (impl_Msr_message.E l P k i j) (impl_Msr_message.E l P (k+1) i j):=fun _ _ _=>LeO.refl _
def impl_Msr_message.f (k:Nat) (a0_0:Int) (a0_1:Int) (l1:List Int):Option (List (List Int)):=(impl_Msr_places.f k a0_0 a0_1).bind fun P=>(impl_Msr_alpha.f a0_0 a0_1).bind fun n=>impl_filled.f (impl_Msr_message.E l1 P) k (wrap64 (2*n)) n
theorem impl_Msr_message.mono:∀ a0 a1 a2 k,LeO (impl_Msr_message.f k a0 a1 a2) (impl_Msr_message.f (k+1) a0 a1 a2):=fun a0 a1 a2 k=>by
 unfold impl_Msr_message.f
 exact LeO.bind (impl_Msr_places.mono _ _ _) (fun P=>LeO.bind (LeO.refl _) (fun n=>impl_filled.mono _ (impl_Msr_message.mono_E a2 P) _ _ _))
set_option maxHeartbeats 4000000 in
theorem impl_Msr_message.elem (g1 g2:Nat) (l:List Int) (P:List (List Int)) (AD AP:Option Addr) (cD cP:Nat) (k:Nat) (i j t:Int) (W:World) (hb1:W.cell? ⟨g1,0,none⟩=some (.slice AD l.length cD)) (hb2:W.cell? ⟨g2,0,none⟩=some (.slice AP P.length cP))
  (hD:Kd.C (Kd.int .u8) W AD l.length l) (hP:Kd.C (Kd.slice 3 (Kd.int .i64)) W AP P.length P) (h:impl_Msr_message.E l P k i j=some t) :
  Calls Try.prog 125 #[.int .i64 i, .int .i64 j, .pointer (some ⟨g1,0,none⟩), .pointer (some ⟨g2,0,none⟩)] W fun e w'=>e = .returned (.int .u8 t)∧Drawn0 W w':=by
 unfold impl_Msr_message.E at h
 by_cases hc:(0≤i∧i < (P.length:Int))∧(0≤j∧j < ((rd_II P i).length:Int))∧0≤rd (rd_II P i) j∧rd (rd_II P i) j < (l.length:Int)
 case neg=>rw [if_neg hc] at h;cases h
 rw [if_pos hc] at h
 obtain rfl:=Option.some.inj h
 clear h
 obtain ⟨⟨i0,i1⟩,⟨j0,j1⟩,x0,x1⟩:=hc
 obtain ⟨ap,A0,c0,rfl,hrow,hle,hR⟩:=at_II hP i i0 i1
 obtain ⟨a0,rfl,hint⟩:=Kd.at_int hR j j0 j1
 obtain ⟨x,hx⟩:∃ x,x=rd (rd_II P i) j:=⟨_,rfl⟩
 obtain ⟨n0,hn0⟩:∃ n,n=(rd_II P i).length:=⟨_,rfl⟩
 rw [← hx] at hint x0 x1 ⊢
 rw [← hn0] at hrow j1 hle
 obtain ⟨ad,rfl,hbyte⟩:=Kd.at_int hD x x0 x1
 have i0b:decide (0≤i)=true:=decide_eq_true i0
 have i1b:decide (i < (P.length:Int))=true:=decide_eq_true i1
 have j0b:decide (0≤j)=true:=decide_eq_true j0
 have j1b:decide (j < (n0:Int))=true:=decide_eq_true j1
 have x0b:decide (0≤x)=true:=decide_eq_true x0
 have x1b:decide (x < (l.length:Int))=true:=decide_eq_true x1
 replace i0:=eq_true i0
 replace i1:=eq_true i1
 replace j0:=eq_true j0
 replace j1:=eq_true j1
 replace x0:=eq_true x0
 replace x1:=eq_true x1
 clear hP hD hR hn0 hle hx
 go_enter Try.func125,Try.ntmps125
 go_wp2
 refine KitR.rS0 (n:=11) (S:=fun w'=>w'.cell? ⟨g1,0,none⟩=some (.slice (some ad) l.length cD)∧w'.cell? ⟨g2,0,none⟩=some (.slice (some ap) P.length cP)∧w'.cell? (ap.add i.toNat)=some (.slice (some a0) n0 c0)∧w'.cell? (a0.add j.toNat)=some (.int .i64 x)∧w'.cell? (ad.add x.toNat)=some (.int .u8 (rd l x))) (ds:=[]) [(0,7),(1,8),(2,9),(5,12),(3,10),(4,11),(6,13),(7,14),(8,15),(9,16),(10,6)] D2 rfl ⟨hb1,hb2,hrow,hint,hbyte⟩ (fun hHeld HT_ HW_=>?_)
 refine KitR.rR ?_
 refine KitR.rD HT_ D2 ?_
 try go_wp2
 go_ret
 exact ⟨rfl,⟨1,rfl⟩⟩
structure MsgInv (w:World) (g0 g1 g2:Nat) (a0_0 a0_1:Int) (A1:Option Addr) (c1:Nat) (l1:List Int) (A2:Option Addr) (c2:Nat) (P:List (List Int)) (W:World):Prop where
 B:Below w.heap.size w W
 k0:W.heap[g0]? = some (.cells #[.int .i64 a0_0, .int .i64 a0_1] 30 (0,0))
 k1:W.heap[g1]? = some (.cells #[.slice A1 l1.length c1] 24 (0,0))
 k2:W.heap[g2]? = some (.cells #[.slice A2 P.length c2] 135 (0,0))
 hD:Kd.C (Kd.int .u8) W A1 l1.length l1
 hP:Kd.C (Kd.slice 3 (Kd.int .i64)) W A2 P.length P
section
variable {w W w2 w1 W0:World} {g0 g1 g2:Nat} {a0_0 a0_1:Int} {A1:Option Addr} {c1:Nat} {l1:List Int} {A2:Option Addr} {c2:Nat} {P:List (List Int)}
theorem MsgInv.below (h:MsgInv w g0 g1 g2 a0_0 a0_1 A1 c1 l1 A2 c2 P W) (hb:Below W.heap.size W w2):MsgInv w g0 g1 g2 a0_0 a0_1 A1 c1 l1 A2 c2 P w2 :=
 ⟨pu h.B hb,qb h.k0 hb,qb h.k1 hb,qb h.k2 hb,Kd.C_below h.hD hb,Kd.C_below h.hP hb⟩
theorem MsgInv.cells (h:MsgInv w g0 g1 g2 a0_0 a0_1 A1 c1 l1 A2 c2 P W):W.cell? ⟨g0,0,none⟩=some (.int .i64 a0_0)∧W.cell? ⟨g0,1,none⟩=some (.int .i64 a0_1):=⟨(blk_cell h.k0 0).trans rfl,(blk_cell h.k0 1).trans rfl⟩
theorem MsgInv.first (hb0:Below w.heap.size w W0) (hk0:W0.heap[g0]? = some (.cells #[.int .i64 a0_0, .int .i64 a0_1] 30 (0,0))) (hk1:W0.heap[g1]? = some (.cells #[.slice A1 l1.length c1] 24 (0,0)))
  (hb1:Below W0.heap.size W0 w1) {b:Nat} {ok:Nat→Prop} (ho:Kd.S (Kd.slice 3 (Kd.int .i64)) 62 w1 b ok (.slice A2 P.length c2) P) (hr:Kd.C (Kd.int .u8) w A1 l1.length l1) :
  MsgInv w g0 g1 w1.heap.size a0_0 a0_1 A1 c1 l1 A2 c2 P (w1.alloc (Obj.cells #[.slice A2 P.length c2] 135 (0,0))):=by
 have hb:=pa (Below.refl w1.heap.size w1) (Obj.cells #[.slice A2 P.length c2] 135 (0,0))
 exact ⟨pu (pu hb0 hb1) hb,qb (qb hk0 hb1) hb,qb (qb hk1 hb1) hb,heap_alloc_new w1 _,Kd.C_below (Kd.C_below (Kd.C_below hr hb0) hb1) hb,Kd.C_below (Kd.S_reads' ho).2.2 hb⟩
theorem MsgInv.elem (h:MsgInv w g0 g1 g2 a0_0 a0_1 A1 c1 l1 A2 c2 P W) {k:Nat} {i j t:Int} (hE:impl_Msr_message.E l1 P k i j=some t) :
  Calls Try.prog 125 (#[.int .i64 i, .int .i64 j] ++ #[.pointer (some ⟨g1,0,none⟩), .pointer (some ⟨g2,0,none⟩)]) W fun e w'=>e = .returned (.int .u8 t)∧Drawn0 W w' :=
 impl_Msr_message.elem g1 g2 l1 P A1 A2 c1 c2 k i j t W ((blk_cell h.k1 0).trans rfl) ((blk_cell h.k2 0).trans rfl) h.hD h.hP hE
end
theorem impl_Msr_message.calls (k:Nat) (a0_0:Int) (a0_1:Int) (A1:Option Addr) (c1:Nat) (l1:List Int) (r:List (List Int)) (w:World) (hr1:Kd.C (Kd.int .u8) w A1 l1.length l1) (hc1:l1.length≤c1) (h:impl_Msr_message.f k a0_0 a0_1 l1=some r) :
  Calls Try.prog 60 #[.agg #[.int .i64 a0_0, .int .i64 a0_1], .slice A1 l1.length c1] w fun e w'=>∃ v0_:Value,e = .returned (v0_)∧Kd.S (Kd.slice 5 (Kd.int .u8)) 24 w' w.heap.size (fun _=>True) v0_ r∧Below w.heap.size w w':=by
 unfold impl_Msr_message.f at h
 obtain ⟨P,hP,h⟩:=Option.bind_eq_some_iff.mp h
 obtain ⟨n,hn,h⟩:=Option.bind_eq_some_iff.mp h
 have HP:=am hP
 have HN:=am hn
 have HF:=am h
 have HR:=am hr1
 have HC:=am hc1
 clear hP hn h hr1 hc1
 go_enter Try.func60,Try.ntmps60
 go_upto_region 1 with (fail)
 obtain ⟨W0,hW0⟩:∃ W:World,W=(w.alloc (.cells #[.int .i64 a0_0, .int .i64 a0_1] 30 (0,0))).alloc (.cells #[.slice A1 l1.length c1] 24 (0,0)):=⟨_,rfl⟩
 have b0:Below w.heap.size w W0:=by rw [hW0];exact pa (pa (Below.refl _ _) _) _
 have k0:W0.heap[w.heap.size]? = some (.cells #[.int .i64 a0_0, .int .i64 a0_1] 30 (0,0)):=by rw [hW0];exact qa (heap_alloc_new w _) _
 have k1:W0.heap[w.heap.size+1]? = some (.cells #[.slice A1 l1.length c1] 24 (0,0)):=by
  rw [hW0]
  have:=heap_alloc_new (w.alloc (.cells #[.int .i64 a0_0, .int .i64 a0_1] 30 (0,0))) (.cells #[.slice A1 l1.length c1] 24 (0,0))
  have e:(w.alloc (.cells #[.int .i64 a0_0, .int .i64 a0_1] 30 (0,0))).heap.size=w.heap.size+1:=by simp
  rwa [e] at this
 rw [← hW0]
 clear hW0
 obtain ⟨g0,hg0⟩:∃ g,g=w.heap.size:=⟨_,rfl⟩
 rw [← hg0] at k0 k1 ⊢
 obtain ⟨g1,hg1⟩:∃ g,g=g0+1:=⟨_,rfl⟩
 rw [← hg1] at k1 ⊢
 have hc0:W0.cell? ⟨g0,0,none⟩=some (.int .i64 a0_0):=(blk_cell k0 0).trans rfl
 have hc1:W0.cell? ⟨g0,1,none⟩=some (.int .i64 a0_1):=(blk_cell k0 1).trans rfl
 have HB0:=am b0
 have HK0:=am k0
 have HK1:=am k1
 have hu:=Try.underlying30
 clear b0 k0 k1 hg0 hg1
 go_wp2_with (first|(go_at_call 108;refine (impl_Msr_places.calls k a0_0 a0_1 P _ HP.out).mono ?_;rintro e w1 ⟨v1,rfl,ho1,hb1⟩;obtain ⟨A2,c2,rfl⟩:=Kd.S_slice ho1;have HO1:=am ho1;have HB1:=am hb1;clear ho1 hb1 hc0 hc1))
 have HM:=am (MsgInv.first HB0.out HK0.out HK1.out HB1.out HO1.out HR.out)
 clear HB0 HK0 HK1 HB1 HO1
 generalize w1.heap.size=g2 at HM ⊢
 generalize w1.alloc (Obj.cells #[.slice A2 P.length c2] 135 (0,0))=W1 at HM ⊢
 replace HM:=am (HM.out.below (pd (Below.refl _ _)))
 refine KitR.rS0 (n:=8) (S:=fun w'=>w'.cell? ⟨g0,0,none⟩=some (.int .i64 a0_0)∧w'.cell? ⟨g0,1,none⟩=some (.int .i64 a0_1)) (ds:=[]) [(0,8),(3,11),(5,13),(1,0),(2,10),(4,0),(6,0),(7,4)] D2 rfl HM.out.cells (fun hHeld HT_ HW_=>?_)
 generalize W1.drew=W1 at HM hHeld ⊢
 refine KitR.rR ?_
 refine KitR.rO (N:=some 9) HT_ rfl rfl D2 D5 (fun K hK=>?_)
 refine goes_ Try.func103 D2 rfl #[.agg #[.int .i64 a0_0, .int .i64 a0_1]] D16 rfl rfl (by (try simp only [q4,q5,q6]);first|done|rfl) ?_
 with_reducible refine (impl_Msr_alpha.calls a0_0 a0_1 n _ HN.out).mono ?_
 rintro e w2 ⟨rfl,hb⟩
 refine ⟨_,rfl,?_⟩
 replace HM:=am (HM.out.below hb)
 clear hb
 refine hK.out _ _ HM.out.cells (fun hHeld=>?_)
 clear hK K
 refine KitR.rN (a':=?_) ?_ ?_
 rotate_left
 ·show Act.put _ (some 9) _=_
  simp only [Act.put,q1,q2,q3,i64_w,i32_w]
  rfl
 refine KitR.rR ?_
 refine KitR.rO (N:=some 12) HT_ rfl rfl D2 D5 (fun K hK=>?_)
 refine goes_ Try.func103 D2 rfl #[.agg #[.int .i64 a0_0, .int .i64 a0_1]] D16 rfl rfl (by (try simp only [q4,q5,q6]);first|done|rfl) ?_
 with_reducible refine (impl_Msr_alpha.calls a0_0 a0_1 n _ HN.out).mono ?_
 rintro e w3 ⟨rfl,hb⟩
 refine ⟨_,rfl,?_⟩
 replace HM:=am (HM.out.below hb)
 clear hb
 refine hK.out _ _ HM.out.cells (fun hHeld=>?_)
 clear hK K
 refine KitR.rN (a':=?_) ?_ ?_
 rotate_left
 ·show Act.put _ (some 12) _=_
  simp only [Act.put,q1,q2,q3,i64_w,i32_w]
  rfl
 refine KitR.rO (N:=some 14) HT_ rfl rfl D2 D5 (fun K hK=>?_)
 refine goes_ Try.func86 D2 rfl #[.int .i64 (wrap64 (2*n)), .int .i64 n, .func (.func 125) #[] #[.pointer (some ⟨g1,0,none⟩), .pointer (some ⟨g2,0,none⟩)]] D16 rfl rfl (by (try simp only [q4,q5,q6]);first|done|rfl) ?_
 refine (impl_filled.calls (impl_Msr_message.E l1 P) 125 (enters_of Try.func125 rfl rfl) #[.pointer (some ⟨g1,0,none⟩), .pointer (some ⟨g2,0,none⟩)] k (wrap64 (2*n)) n r w3 (fun k i j t W' hb' hE=>(HM.out.below hb').elem hE) HF.out).mono ?_
 rintro e w4 ⟨v,rfl,hS,hb⟩
 refine ⟨_,rfl,?_⟩
 have HS:=am (Kd.S_lower hS (pz HM.out.B))
 replace HM:=am (HM.out.below hb)
 clear hb hS
 refine hK.out _ _ HM.out.cells (fun hHeld=>?_)
 clear hK K
 refine KitR.rN (a':=?_) ?_ ?_
 rotate_left
 ·show Act.put _ (some 14) _=_
  simp only [Act.put,q1,q2,q3,i64_w,i32_w]
  rfl
 refine KitR.rR ?_
 refine KitR.rD HT_ D2 ?_
 try go_wp2
 go_ret
 exact ⟨_,rfl,HS.out,HM.out.B⟩
end
end
end Go.Proofs.Yteflgifmdojahaa.PFnRegenerated
-- SQUEEZED
