import Derived.Test.YteflgifmdojahaaVFnMsrB
import Derived.Test.YteflgifmdojahaaPFnMsrx0
import Derived.Test.YteflgifmdojahaaPFnMsrx1
import Derived.Test.YteflgifmdojahaaPFnMsrx2
import Derived.Test.YteflgifmdojahaaPFnMsrx4
namespace Go.Proofs.Yteflgifmdojahaa.PFnMsr
open Go.RowKit Go.Proofs.YteflgifmdojahaaW.PrintWords Go.Proofs.YteflgifmdojahaaW.PrintLast Go.Proofs.YteflgifmdojahaaW.PrintMore Go.Proofs.Yteflgifmdojahaa.KitS
attribute [local go_sem] max2_int min2_int max_two min_two max_three min_three max_four min_four
set_option linter.unusedVariables false
set_option maxHeartbeats 8000000
set_option maxRecDepth 100000
set_option linter.unusedSimpArgs false
mutual
def spec_l1Cur_msrPieces.l0:Nat→List (S76)→List (S76)→List Int→Int→Int→List Int→Int→Int→Int→Int→Option (Int × Int × (List (S76)) × Int × Int)
 | 0,_,_,_,_,_,_,_,_,_,_=>none
 | k+1,x5,x6,x39,x40,x41,x1000,x1001,x1002,x415000,x415001=>if x41 < x40 then (if 0≤x41 then (if x41 < (x39.length:Int) then (if 0≤(rd x39 x41) then (if (rd x39 x41) < (x5.length:Int) then (if x6.length < 4398046511104 then (spec_l1Cur_msrPieces.l0 k x5 (x6 ++ [(⟨(rd_T76 x5 (rd x39 x41)).f0,(rd_T76 x5 (rd x39 x41)).f1⟩:S76)]) x39 x40 (wrap64 (x41+1)) x1000 x1001 x1002 x415000 x415001) else (none)) else (none)) else (none)) else (none)) else (none)) else (if (x6.length:Int) > 0 then ((spec_l1Cur_one.f x1000 x1001 x1002 12).bind fun bt443=>(spec_l1Cur_msrPieces.j1 k x6 bt443.1 x1000 bt443.2.1 bt443.2.2 x415000 x415001)) else (spec_l1Cur_msrPieces.j1 k x6 false x1000 x1001 x1002 x415000 x415001))
def spec_l1Cur_msrPieces.j1:Nat→List (S76)→Bool→List Int→Int→Int→Int→Int→Option (Int × Int × (List (S76)) × Int × Int)
 | 0,_,_,_,_,_,_,_=>none
 | k+1,x6,x59,x1000,x1001,x1002,x415000,x415001=>if x59=true then ((spec_l1Cur_pick.f x1000 x1001 x1002 4).bind fun bt446=>((spec_l1Cur_vector.f k x1000 bt446.2.1 bt446.2.2 bt446.1).bind fun bt449=>(if 0 < (x6.length:Int) then (some (x415000,x415001,(x6.set (0:Int).toNat (⟨(rd_T76 x6 0).f0,bt449.1⟩:S76)),bt449.2.1,bt449.2.2)) else (none)))) else (some (x415000,x415001,x6,x1001,x1002))
end
def spec_l1Cur_msrPieces.f (k:Nat) (s0_0:List Int) (s0_1:Int) (s0_2:Int):Option (Int × Int × (List (S76)) × Int × Int):=(spec_l1Cur_msr.f s0_0 s0_1 s0_2).bind fun bt410=>((spec_GoodMsr.f bt410.1 bt410.2.1).bind fun t415=>(if t415=true then ((spec_l1Cur_vector.f k s0_0 bt410.2.2.1 bt410.2.2.2 (wrap64 (bt410.2.1*(wrap64 (bt410.2.1 - 1))))).bind fun bt416=>((spec_l5Encode.f k bt410.1 bt410.2.1 bt416.1).bind fun t421=>((spec_l1Cur_pick.f s0_0 bt416.2.1 bt416.2.2 3).bind fun bt424=>((spec_l1Cur_pick.f s0_0 bt424.2.1 bt424.2.2 2).bind fun bt427=>((spec_l1Cur_pick.f s0_0 bt427.2.1 bt427.2.2 2).bind fun bt430=>((spec_l1Cur_chosen.f k s0_0 bt430.2.1 bt430.2.2 (t421.length:Int) (wrap64 ((wrap64 (bt410.2.1+bt424.1)) - (wrap64 (bt427.1*bt430.1))))).bind fun bt433=>(spec_l1Cur_msrPieces.l0 k t421 ([]:List (S76)) bt433.1 (bt433.1.length:Int) 0 s0_0 bt433.2.1 bt433.2.2 bt410.1 bt410.2.1))))))) else (some (bt410.1,bt410.2.1,([]:List (S76)),bt410.2.2.1,bt410.2.2.2))))
theorem spec_l1Cur_msrPieces.mono_l:∀ k,(∀ y0 y1 y2 y3 y4 y5 y6 y7 y8 y9,LeO (spec_l1Cur_msrPieces.l0 k y0 y1 y2 y3 y4 y5 y6 y7 y8 y9) (spec_l1Cur_msrPieces.l0 (k+1) y0 y1 y2 y3 y4 y5 y6 y7 y8 y9))∧(∀ y0 y1 y2 y3 y4 y5 y6,LeO (spec_l1Cur_msrPieces.j1 k y0 y1 y2 y3 y4 y5 y6) (spec_l1Cur_msrPieces.j1 (k+1) y0 y1 y2 y3 y4 y5 y6))
 | 0=>⟨fun _ _ _ _ _ _ _ _ _ _ r h=>by simp [spec_l1Cur_msrPieces.l0] at h,fun _ _ _ _ _ _ _ r h=>by simp [spec_l1Cur_msrPieces.j1] at h⟩
 | k+1=>by
  obtain ⟨ih0,ih1⟩:=spec_l1Cur_msrPieces.mono_l k
  refine ⟨?_,?_⟩
  ·intro y0 y1 y2 y3 y4 y5 y6 y7 y8 y9
   unfold spec_l1Cur_msrPieces.l0
   exact mm
  intro y0 y1 y2 y3 y4 y5 y6
  unfold spec_l1Cur_msrPieces.j1
  exact mm
theorem spec_l1Cur_msrPieces.mono:∀ a0 a1 a2 k,LeO (spec_l1Cur_msrPieces.f k a0 a1 a2) (spec_l1Cur_msrPieces.f (k+1) a0 a1 a2):=by
 intro a0 a1 a2 k
 obtain ⟨ih0,ih1⟩:=spec_l1Cur_msrPieces.mono_l k
 unfold spec_l1Cur_msrPieces.f
 exact mm
def spec_l1Cur_msrPieces.T4:Bool × List (List Nat × List Nat):=(true,[([],[]),([],[]),([],[]),([2],[2]),([],[]),([4],[4]),([5],[5]),([3,6],[3,6]),([1,7],[1,7]),([0,8,8],[0,8]),([9,9,0,1,2,3,4,5,6,7,8,9],[9])])
def spec_l1Cur_msrPieces.B4:List Nat:=[0,0,0,4,0,16,48,124,254,511,1023]
theorem spec_l1Cur_msrPieces.tab4:rtab .any (opsOf Try.f111 4)=spec_l1Cur_msrPieces.T4:=by kernel_rfl
theorem spec_l1Cur_msrPieces.bits4:waitsOk spec_l1Cur_msrPieces.T4.2 spec_l1Cur_msrPieces.B4=true:=by kernel_rfl
def spec_l1Cur_msrPieces.T6:Bool × List (List Nat × List Nat):=(true,[([],[]),([],[]),([1],[1]),([],[]),([3],[3]),([],[]),([5],[5]),([4,6],[4,6]),([],[]),([8,6],[8]),([],[]),([10,9],[10]),([9,11],[9,11]),([7,12],[7,12]),([0,2,13,11],[0,2,13]),([14],[14]),([],[])])
def spec_l1Cur_msrPieces.B6:List Nat:=[0,0,2,0,8,0,32,120,0,352,0,1888,3936,8184,16383,32767,0]
theorem spec_l1Cur_msrPieces.tab6:rtab .any (opsOf Try.f111 6)=spec_l1Cur_msrPieces.T6:=by kernel_rfl
theorem spec_l1Cur_msrPieces.bits6:waitsOk spec_l1Cur_msrPieces.T6.2 spec_l1Cur_msrPieces.B6=true:=by kernel_rfl
theorem spec_l1Cur_msrPieces.calls (k:Nat) (g:Nat) (s0_0:List Int) (s0_1:Int) (s0_2:Int) (r1:Int) (r2:Int) (r3:List (S76)) (r4:Int) (r5:Int) (w0 w:World) (hI:IsS127 w0 w g s0_0 s0_1 s0_2) (hB:Below w0.heap.size w0 w) (h:spec_l1Cur_msrPieces.f k s0_0 s0_1 s0_2=some (r1,r2,r3,r4,r5)) :
  Calls Try.prog 111 #[.pointer (some ⟨g,0,none⟩)] w fun e w'=>∃ v2_:Value,e = .returned (.tuple #[.agg #[.int .i64 r1, .int .i64 r2],v2_])∧Kd.N k76 76 w' w.heap.size (fun k_=>(w.heap.size≤k_)) v2_ r3∧IsS127 w0 w' g s0_0 r4 r5∧Below w0.heap.size w0 w'∧KeepBut w w' g none:=by
 have hu30:=Try.underlying30
 have hu76:=Try.underlying76
 have HI0:=am hI
 have HK:=am (KeepBut.refl w g none)
 have HL:=am hB.size
 clear hI
 have HW0:=am hB.size
 have HB:=am hB
 clear hB
 have H:=h
 unfold spec_l1Cur_msrPieces.f at H
 clear h
 obtain ⟨⟨t410,t411,t412,t413⟩,A2,H⟩:=yo H
 try dsimp only at H
 obtain ⟨t415,A3,H⟩:=yo H
 by_cases c4:t415=true
 ·subst c4
  replace H:=yt H
  obtain ⟨⟨t416,t419,t420⟩,A5,H⟩:=yo H
  try dsimp only at H
  obtain ⟨t421,A6,H⟩:=yo H
  obtain ⟨⟨t424,t425,t426⟩,A7,H⟩:=yo H
  try dsimp only at H
  obtain ⟨⟨t427,t428,t429⟩,A8,H⟩:=yo H
  try dsimp only at H
  obtain ⟨⟨t430,t431,t432⟩,A9,H⟩:=yo H
  try dsimp only at H
  obtain ⟨⟨t433,t436,t437⟩,A10,H⟩:=yo H
  try dsimp only at H
  have H':=am H
  clear H
  go_enter Try.func111,Try.ntmps111
  try go_wp2_with (first|((with_reducible refine gD 2 ?_);refine gB (cs:=#[.int .i64 0, .int .i64 0]) 30 ?_;intro gb409 hg w11 hbox hb;replace HB:=am (pu D7 hb);have BK409:=am (hbox);have GW409:=am ((by rw [hg];exact (keep_size (w:=w) (g:=g) (row:=none) D3):w.heap.size≤gb409));have GE409:=am ((Nat.le_trans HW0.out (by rw [hg];exact (keep_size (w:=w) (g:=g) (row:=none) D3):w.heap.size≤gb409):w0.heap.size≤gb409));replace HK:=am (KeepBut.trans D3 (KeepBut.of_below hb g none) (.inl rfl));have NB0_409:=am ((by rw [hg];exact Nat.ne_of_lt (IsS127.lt (show IsS127 w0 _ g s0_0 s0_1 s0_2 from by repeat (first|(with_reducible first|exact HI0.out|apply IsS127.alloc|apply IsS127.drewN|apply IsS127.drew|apply IsS127.set_1|apply IsS127.set_2)|exact HI0.out))):g ≠ gb409));have NB409_0:=am ((by rw [hg];exact Nat.ne_of_gt (IsS127.lt (show IsS127 w0 _ g s0_0 s0_1 s0_2 from by repeat (first|(with_reducible first|exact HI0.out|apply IsS127.alloc|apply IsS127.drewN|apply IsS127.drew|apply IsS127.set_1|apply IsS127.set_2)|exact HI0.out))):gb409 ≠ g));replace HI0:=am (IsS127.below D6 hb);clear hb hbox hg)|((with_reducible refine gC 100 ?_);refine gM (some 10) Try.func100 (args:=#[.pointer (some ⟨g,0,none⟩)]) (spec_l1Cur_msr.calls g s0_0 s0_1 s0_2 t410 t411 t412 t413 w0 _ ?side1 ?side2 A2.out) ?_;(case side1=>repeat (first|(with_reducible first|exact HI0.out|apply IsS127.alloc|apply IsS127.drewN|apply IsS127.drew|apply IsS127.set_1|apply IsS127.set_2|refine IsS127.far ?_ NB0_409.out _)|exact HI0.out));(case side2=>repeat (first|(with_reducible first|exact HB.out|apply pa|apply pb|apply pd|refine pt ?_ (IsS127.ge HI0.out)|refine pt ?_ GE409.out)|exact HB.out));rintro e w12 ⟨rfl,hi,hb,hk⟩;refine ⟨_,rfl,?_⟩;replace BK409:=am (KeepBut.blk hk (g':=gb409) (o:=.cells #[.int .i64 0, .int .i64 0] 30 (0,0)) (yB BK409) NB409_0.out D43);replace HK:=am (KeepBut.trans D23 hk (.inl rfl));replace HB:=am (hb);replace HI0:=am (hi);clear hb hk hi)|((with_reducible refine gD 4 ?_);refine gB (cs:=#[.int .i64 0, .int .i64 0]) 30 ?_;intro gb414 hg w13 hbox hb;replace HB:=am (pu D98 hb);have BK414:=am (hbox);have GW414:=am ((by rw [hg];exact (keep_size (w:=w) (g:=g) (row:=none) D23):w.heap.size≤gb414));have GE414:=am ((Nat.le_trans HW0.out (by rw [hg];exact (keep_size (w:=w) (g:=g) (row:=none) D23):w.heap.size≤gb414):w0.heap.size≤gb414));replace HK:=am (KeepBut.trans D23 (KeepBut.of_below hb g none) (.inl rfl));have NB409_414:=yl BK409 hg;have NB414_409:=yg BK409 hg;replace BK409:=yb BK409 hb;have NB0_414:=am ((by rw [hg];exact Nat.ne_of_lt (IsS127.lt (show IsS127 w0 _ g s0_0 t412 t413 from by repeat (first|(with_reducible first|exact HI0.out|apply IsS127.alloc|apply IsS127.drewN|apply IsS127.drew|apply IsS127.set_1|apply IsS127.set_2|refine IsS127.far ?_ NB0_409.out _)|exact HI0.out))):g ≠ gb414));have NB414_0:=am ((by rw [hg];exact Nat.ne_of_gt (IsS127.lt (show IsS127 w0 _ g s0_0 t412 t413 from by repeat (first|(with_reducible first|exact HI0.out|apply IsS127.alloc|apply IsS127.drewN|apply IsS127.drew|apply IsS127.set_1|apply IsS127.set_2|refine IsS127.far ?_ NB0_409.out _)|exact HI0.out))):gb414 ≠ g));replace HI0:=am (IsS127.below D76 hb);clear hb hbox hg;have hnb14:=NB414_409.out;have hnc14:=NB409_414.out;have hnb15:=NB414_0.out;have hnc15:=NB0_414.out;obtain ⟨hcz16_0,hcz16_1,hfz16_0,hfz16_1⟩:=yk2 BK414)|((with_reducible refine gC 47 ?_);refine gM (some 12) Try.func47 (args:=#[.agg #[.int .i64 t410, .int .i64 t411]]) (spec_GoodMsr.calls t410 t411 true _ A3.out) ?_;rintro e w17 ⟨rfl,hb⟩;refine ⟨_,rfl,?_⟩;replace BK409:=am (qb (g:=gb409) (o:=.cells #[.int .i64 0, .int .i64 0] 30 (0,0)) (yF BK409) hb);replace BK414:=am (qb (g:=gb414) (o:=.cells #[.int .i64 t410, .int .i64 t411] 30 (0,0)) D91 hb);replace HK:=am (KeepBut.trans D4 (KeepBut.of_below hb g none) (.inl rfl));replace HB:=am (pu D13 hb);replace HI0:=am (IsS127.below (show IsS127 w0 ((w13.setCell ⟨gb414,0,none⟩ (.int .i64 t410)).setCell ⟨gb414,1,none⟩ (.int .i64 t411)) g s0_0 t412 t413 from by repeat (first|(with_reducible first|exact HI0.out|apply IsS127.alloc|apply IsS127.drewN|apply IsS127.drew|apply IsS127.set_1|apply IsS127.set_2|refine IsS127.far ?_ NB0_409.out _|refine IsS127.far ?_ NB0_414.out _)|exact HI0.out)) hb);clear hb))
  replace BK409:=am (qd BK409.out)
  replace BK414:=am (qd BK414.out)
  replace HI0:=am (IsS127.drew HI0.out)
  replace HK:=am (keep_drew HK.out)
  replace HB:=am (pd HB.out)
  refine rS (n:=11) (S:=fun w'=>w'.cell? ⟨gb414,0,none⟩=some (.int .i64 t410)∧w'.cell? ⟨gb414,1,none⟩=some (.int .i64 t411)) (ds:=[]) [(1,16),(2,17),(4,19),(0,15),(3,18),(5,20),(6,21),(7,22),(8,0),(9,0),(10,5)] D5 rfl spec_l1Cur_msrPieces.tab4 spec_l1Cur_msrPieces.bits4 ⟨yk BK414 0,yk BK414 1⟩ (fun hHeld HT_ HW_=>?_)
  generalize w17.drew=w18 at BK409 BK414 HI0 HK HB hHeld ⊢
  refine rR ?_
  refine rO (N:=some 23) HT_ rfl rfl D5 D8 (fun K hK=>?_)
  refine goes_ Try.func102 D5 rfl #[.pointer (some ⟨g,0,none⟩), .int .i64 (wrap64 (t411*(wrap64 (t411 - 1))))] D15 rfl rfl D10 ?_
  with_reducible refine (spec_l1Cur_vector.calls k g s0_0 t412 t413 (wrap64 (t411*(wrap64 (t411 - 1)))) t416 t419 t420 w0 _ ?side1 ?side2 A5.out).mono ?_
  (case side1=>repeat (first|(with_reducible first|exact HI0.out|apply IsS127.alloc|apply IsS127.drewN|apply IsS127.drew|apply IsS127.set_1|apply IsS127.set_2|refine IsS127.far ?_ NB0_409.out _|refine IsS127.far ?_ NB0_414.out _)|exact HI0.out))
  (case side2=>repeat (first|(with_reducible first|exact HB.out|apply pa|apply pb|apply pd|refine pt ?_ (IsS127.ge HI0.out)|refine pt ?_ GE409.out|refine pt ?_ GE414.out)|exact HB.out))
  rintro e w19 ⟨v417,rfl,ho0,hi,hb,hk⟩
  refine ⟨_,rfl,?_⟩
  replace BK409:=am (KeepBut.blk hk (g':=gb409) (o:=.cells #[.int .i64 0, .int .i64 0] 30 (0,0)) (yB BK409) NB409_0.out D43)
  replace BK414:=am (KeepBut.blk hk (g':=gb414) (o:=.cells #[.int .i64 t410, .int .i64 t411] 30 (0,0)) (yB BK414) NB414_0.out D43)
  have HO418:=am (Kd.R_lower (Kd.R_newM (M:=fun k_=>(w.heap.size≤k_)) ho0 (keep_size (w:=w) (g:=g) (row:=none) D4) (fun k_ h_=>h_)) (keep_size (w:=w) (g:=g) (row:=none) D4))
  replace HK:=am (KeepBut.trans D4 hk (.inl rfl))
  replace HB:=am (hb)
  replace HI0:=am (hi)
  (try clear hb)
  (try clear hb2)
  (try clear hk)
  (try clear hi)
  (try clear ho0)
  obtain ⟨Ao20,co20,eo20⟩:=Kd.R_slice HO418.out
  (first|subst eo20|(injection eo20 with f1_ f2_ f3_;have f4_:=f1_.symm;have f5_:=f3_.symm;clear f1_ f2_ f3_;subst f4_;subst f5_))
  refine hK.out _ _ ⟨yk BK414 0,yk BK414 1⟩ (fun hHeld=>?_)
  clear hK K
  refine rN (nA 23) ?_
  refine rO (N:=some 24) HT_ rfl rfl D5 D8 (fun K hK=>?_)
  refine goes_ Try.func64 D5 rfl #[.agg #[.int .i64 t410, .int .i64 t411], .slice Ao20 t416.length co20] D15 rfl rfl D10 ?_
  with_reducible refine (spec_l5Encode.calls k t410 t411 _ _ t416 t421 _ (yc (Kd.R_reads' HO418.out).2.2) (Kd.R_reads' HO418.out).2.1 A6.out).mono ?_
  rintro e w21 ⟨v422,rfl,ho0,hb⟩
  refine ⟨_,rfl,?_⟩
  have HO423:=am (Kd.N_lower (Kd.N_mono (ok':=fun k_=>(w.heap.size≤k_)∧some k_ ≠ (.slice Ao20 t416.length co20:Value).ownBlock∧k_ ≠ gb409∧k_ ≠ gb414∧k_ ≠ g) (Kd.S_N (Kd.S_bound ho0)) (fun k_ hk_=>⟨(Nat.le_trans (keep_size (w:=w) (g:=g) (row:=none) D4) hk_.2.1),(Kd.fresh' (Kd.R_lt (yR HO418)) k_ hk_.2.1),(yz BK409 k_ hk_.2.1),(yz BK414 k_ hk_.2.1),(IsS127.fresh D9 k_ hk_.2.1)⟩)) (keep_size (w:=w) (g:=g) (row:=none) D4))
  replace HO418:=bR HO418 hb
  replace BK409:=yb BK409 hb
  replace BK414:=yb BK414 hb
  replace HK:=am (KeepBut.trans D4 (KeepBut.of_below hb g none) (.inl rfl))
  replace HB:=am (pu D13 hb)
  replace HI0:=am (IsS127.below D9 hb)
  (try clear hb)
  (try clear hb2)
  (try clear hk)
  (try clear hi)
  (try clear ho0)
  refine hK.out _ _ ⟨yk BK414 0,yk BK414 1⟩ (fun hHeld=>?_)
  clear hK K
  refine rN (nA 24) ?_
  refine rR ?_
  refine rD HT_ D5 ?_
  try go_wp2
  replace HO418:=am (Kd.R_drew HO418.out)
  replace HO423:=am (Kd.N_drew HO423.out)
  replace BK409:=am (qd BK409.out)
  replace BK414:=am (qd BK414.out)
  replace HI0:=am (IsS127.drew HI0.out)
  replace HK:=am (keep_drew HK.out)
  replace HB:=am (pd HB.out)
  obtain ⟨Ao23,co23,eo23⟩:=Kd.N_slice HO423.out
  (first|subst eo23|(injection eo23 with f1_ f2_ f3_;have f4_:=f1_.symm;have f5_:=f3_.symm;clear f1_ f2_ f3_;subst f4_;subst f5_))
  refine rS (n:=17) (S:=fun w'=>w'.cell? ⟨gb414,0,none⟩=some (.int .i64 t410)∧w'.cell? ⟨gb414,1,none⟩=some (.int .i64 t411)) (ds:=[]) [(0,25),(1,26),(2,27),(3,28),(5,30),(8,33),(10,35),(16,41),(4,29),(6,0),(7,32),(9,0),(11,0),(12,37),(13,38),(14,0),(15,40)] D5 rfl spec_l1Cur_msrPieces.tab6 spec_l1Cur_msrPieces.bits6 ⟨yk BK414 0,yk BK414 1⟩ (fun hHeld HT_ HW_=>?_)
  generalize w21.drew=w22 at HO418 HO423 BK409 BK414 HI0 HK HB hHeld ⊢
  refine rR ?_
  refine rO (N:=some 31) HT_ rfl rfl D5 D8 (fun K hK=>?_)
  refine goes_ Try.func95 D5 rfl #[.pointer (some ⟨g,0,none⟩), .int .i64 3] D15 rfl rfl D10 ?_
  with_reducible refine (spec_l1Cur_pick.calls g s0_0 t419 t420 3 t424 t425 t426 w0 _ ?side1 ?side2 A7.out).mono ?_
  (case side1=>repeat (first|(with_reducible first|exact HI0.out|apply IsS127.alloc|apply IsS127.drewN|apply IsS127.drew|apply IsS127.set_1|apply IsS127.set_2|refine IsS127.far ?_ NB0_409.out _|refine IsS127.far ?_ NB0_414.out _)|exact HI0.out))
  (case side2=>repeat (first|(with_reducible first|exact HB.out|apply pa|apply pb|apply pd|refine pt ?_ (IsS127.ge HI0.out)|refine pt ?_ GE409.out|refine pt ?_ GE414.out)|exact HB.out))
  rintro e w24 ⟨rfl,hi,hb,hk⟩
  refine ⟨_,rfl,?_⟩
  replace BK409:=am (KeepBut.blk hk (g':=gb409) (o:=.cells #[.int .i64 0, .int .i64 0] 30 (0,0)) (yB BK409) NB409_0.out D43)
  replace BK414:=am (KeepBut.blk hk (g':=gb414) (o:=.cells #[.int .i64 t410, .int .i64 t411] 30 (0,0)) (yB BK414) NB414_0.out D43)
  replace HO418:=am (Kd.R_mono (Kd.R_keep (IsS127.apart (show IsS127 w0 _ g s0_0 t419 t420 from by repeat (first|(with_reducible first|exact HI0.out|apply IsS127.alloc|apply IsS127.drewN|apply IsS127.drew|apply IsS127.set_1|apply IsS127.set_2|refine IsS127.far ?_ NB0_409.out _|refine IsS127.far ?_ NB0_414.out _)|exact HI0.out)) (yR HO418) D8) hk (fun _ h=>h.2)) (fun _ h=>h.1))
  replace HO423:=am (Kd.N_mono (Kd.N_keep (Kd.N_mono (ok:=fun k_=>(((w.heap.size≤k_))∧(some k_ ≠ (.slice Ao20 t416.length co20:Value).ownBlock∧(k_ ≠ gb409∧(k_ ≠ gb414∧k_ ≠ g))))) (yN HO423) (fun k_ hk_=>(⟨hk_,hk_.2.2.2.2⟩:_∧k_ ≠ g))) hk (fun _ h=>h.2)) (fun _ h=>h.1))
  replace HK:=am (KeepBut.trans D4 hk (.inl rfl))
  replace HB:=am (hb)
  replace HI0:=am (hi)
  (try clear hb)
  (try clear hb2)
  (try clear hk)
  (try clear hi)
  refine hK.out _ _ ⟨yk BK414 0,yk BK414 1⟩ (fun hHeld=>?_)
  clear hK K
  refine rN (nA 31) ?_
  refine rR ?_
  refine rO (N:=some 34) HT_ rfl rfl D5 D8 (fun K hK=>?_)
  refine goes_ Try.func95 D5 rfl #[.pointer (some ⟨g,0,none⟩), .int .i64 2] D15 rfl rfl D10 ?_
  with_reducible refine (spec_l1Cur_pick.calls g s0_0 t425 t426 2 t427 t428 t429 w0 _ ?side1 ?side2 A8.out).mono ?_
  (case side1=>repeat (first|(with_reducible first|exact HI0.out|apply IsS127.alloc|apply IsS127.drewN|apply IsS127.drew|apply IsS127.set_1|apply IsS127.set_2|refine IsS127.far ?_ NB0_409.out _|refine IsS127.far ?_ NB0_414.out _)|exact HI0.out))
  (case side2=>repeat (first|(with_reducible first|exact HB.out|apply pa|apply pb|apply pd|refine pt ?_ (IsS127.ge HI0.out)|refine pt ?_ GE409.out|refine pt ?_ GE414.out)|exact HB.out))
  rintro e w25 ⟨rfl,hi,hb,hk⟩
  refine ⟨_,rfl,?_⟩
  replace BK409:=am (KeepBut.blk hk (g':=gb409) (o:=.cells #[.int .i64 0, .int .i64 0] 30 (0,0)) (yB BK409) NB409_0.out D43)
  replace BK414:=am (KeepBut.blk hk (g':=gb414) (o:=.cells #[.int .i64 t410, .int .i64 t411] 30 (0,0)) (yB BK414) NB414_0.out D43)
  replace HO418:=am (Kd.R_mono (Kd.R_keep (IsS127.apart (show IsS127 w0 _ g s0_0 t425 t426 from by repeat (first|(with_reducible first|exact HI0.out|apply IsS127.alloc|apply IsS127.drewN|apply IsS127.drew|apply IsS127.set_1|apply IsS127.set_2|refine IsS127.far ?_ NB0_409.out _|refine IsS127.far ?_ NB0_414.out _)|exact HI0.out)) (yR HO418) D8) hk (fun _ h=>h.2)) (fun _ h=>h.1))
  replace HO423:=am (Kd.N_mono (Kd.N_keep (Kd.N_mono (ok:=fun k_=>(((w.heap.size≤k_))∧(some k_ ≠ (.slice Ao20 t416.length co20:Value).ownBlock∧(k_ ≠ gb409∧(k_ ≠ gb414∧k_ ≠ g))))) (yN HO423) (fun k_ hk_=>(⟨hk_,hk_.2.2.2.2⟩:_∧k_ ≠ g))) hk (fun _ h=>h.2)) (fun _ h=>h.1))
  replace HK:=am (KeepBut.trans D4 hk (.inl rfl))
  replace HB:=am (hb)
  replace HI0:=am (hi)
  (try clear hb)
  (try clear hb2)
  (try clear hk)
  (try clear hi)
  refine hK.out _ _ ⟨yk BK414 0,yk BK414 1⟩ (fun hHeld=>?_)
  clear hK K
  refine rN (nA 34) ?_
  refine rO (N:=some 36) HT_ rfl rfl D5 D8 (fun K hK=>?_)
  refine goes_ Try.func95 D5 rfl #[.pointer (some ⟨g,0,none⟩), .int .i64 2] D15 rfl rfl D10 ?_
  with_reducible refine (spec_l1Cur_pick.calls g s0_0 t428 t429 2 t430 t431 t432 w0 _ ?side1 ?side2 A9.out).mono ?_
  (case side1=>repeat (first|(with_reducible first|exact HI0.out|apply IsS127.alloc|apply IsS127.drewN|apply IsS127.drew|apply IsS127.set_1|apply IsS127.set_2|refine IsS127.far ?_ NB0_409.out _|refine IsS127.far ?_ NB0_414.out _)|exact HI0.out))
  (case side2=>repeat (first|(with_reducible first|exact HB.out|apply pa|apply pb|apply pd|refine pt ?_ (IsS127.ge HI0.out)|refine pt ?_ GE409.out|refine pt ?_ GE414.out)|exact HB.out))
  rintro e w26 ⟨rfl,hi,hb,hk⟩
  refine ⟨_,rfl,?_⟩
  replace BK409:=am (KeepBut.blk hk (g':=gb409) (o:=.cells #[.int .i64 0, .int .i64 0] 30 (0,0)) (yB BK409) NB409_0.out D43)
  replace BK414:=am (KeepBut.blk hk (g':=gb414) (o:=.cells #[.int .i64 t410, .int .i64 t411] 30 (0,0)) (yB BK414) NB414_0.out D43)
  replace HO418:=am (Kd.R_mono (Kd.R_keep (IsS127.apart (show IsS127 w0 _ g s0_0 t428 t429 from by repeat (first|(with_reducible first|exact HI0.out|apply IsS127.alloc|apply IsS127.drewN|apply IsS127.drew|apply IsS127.set_1|apply IsS127.set_2|refine IsS127.far ?_ NB0_409.out _|refine IsS127.far ?_ NB0_414.out _)|exact HI0.out)) (yR HO418) D8) hk (fun _ h=>h.2)) (fun _ h=>h.1))
  replace HO423:=am (Kd.N_mono (Kd.N_keep (Kd.N_mono (ok:=fun k_=>(((w.heap.size≤k_))∧(some k_ ≠ (.slice Ao20 t416.length co20:Value).ownBlock∧(k_ ≠ gb409∧(k_ ≠ gb414∧k_ ≠ g))))) (yN HO423) (fun k_ hk_=>(⟨hk_,hk_.2.2.2.2⟩:_∧k_ ≠ g))) hk (fun _ h=>h.2)) (fun _ h=>h.1))
  replace HK:=am (KeepBut.trans D4 hk (.inl rfl))
  replace HB:=am (hb)
  replace HI0:=am (hi)
  (try clear hb)
  (try clear hb2)
  (try clear hk)
  (try clear hi)
  refine hK.out _ _ ⟨yk BK414 0,yk BK414 1⟩ (fun hHeld=>?_)
  clear hK K
  refine rN (nA 36) ?_
  refine rR ?_
  refine rO (N:=some 39) HT_ rfl rfl D5 D8 (fun K hK=>?_)
  refine goes_ Try.func96 D5 rfl #[.pointer (some ⟨g,0,none⟩), .int .i64 (t421.length:Int), .int .i64 (wrap64 ((wrap64 (t411+t424)) - (wrap64 (t427*t430))))] D15 rfl rfl D10 ?_
  with_reducible refine (spec_l1Cur_chosen.calls k g s0_0 t431 t432 (t421.length:Int) (wrap64 ((wrap64 (t411+t424)) - (wrap64 (t427*t430)))) t433 t436 t437 w0 _ ?side1 ?side2 A10.out).mono ?_
  (case side1=>repeat (first|(with_reducible first|exact HI0.out|apply IsS127.alloc|apply IsS127.drewN|apply IsS127.drew|apply IsS127.set_1|apply IsS127.set_2|refine IsS127.far ?_ NB0_409.out _|refine IsS127.far ?_ NB0_414.out _)|exact HI0.out))
  (case side2=>repeat (first|(with_reducible first|exact HB.out|apply pa|apply pb|apply pd|refine pt ?_ (IsS127.ge HI0.out)|refine pt ?_ GE409.out|refine pt ?_ GE414.out)|exact HB.out))
  rintro e w27 ⟨v434,rfl,ho0,hi,hb,hk⟩
  refine ⟨_,rfl,?_⟩
  replace BK409:=am (KeepBut.blk hk (g':=gb409) (o:=.cells #[.int .i64 0, .int .i64 0] 30 (0,0)) (yB BK409) NB409_0.out D43)
  replace BK414:=am (KeepBut.blk hk (g':=gb414) (o:=.cells #[.int .i64 t410, .int .i64 t411] 30 (0,0)) (yB BK414) NB414_0.out D43)
  replace HO418:=am (Kd.R_mono (Kd.R_keep (IsS127.apart (show IsS127 w0 _ g s0_0 t431 t432 from by repeat (first|(with_reducible first|exact HI0.out|apply IsS127.alloc|apply IsS127.drewN|apply IsS127.drew|apply IsS127.set_1|apply IsS127.set_2|refine IsS127.far ?_ NB0_409.out _|refine IsS127.far ?_ NB0_414.out _)|exact HI0.out)) (yR HO418) D8) hk (fun _ h=>h.2)) (fun _ h=>h.1))
  replace HO423:=am (Kd.N_mono (Kd.N_told (Kd.N_oldK (Kd.N_mono (ok:=fun k_=>(((w.heap.size≤k_))∧(some k_ ≠ (.slice Ao20 t416.length co20:Value).ownBlock∧(k_ ≠ gb409∧(k_ ≠ gb414∧k_ ≠ g))))) (yN HO423) (fun k_ hk_=>(⟨hk_,hk_.2.2.2.2⟩:_∧k_ ≠ g))) hk) (Kd.R_base ho0)) (fun _ h_=>h_.1))
  have HO435:=am (Kd.R_lower (Kd.R_newM (M:=fun k_=>(w.heap.size≤k_)) ho0 (keep_size (w:=w) (g:=g) (row:=none) D4) (fun k_ h_=>h_)) (keep_size (w:=w) (g:=g) (row:=none) D4))
  replace HK:=am (KeepBut.trans D4 hk (.inl rfl))
  replace HB:=am (hb)
  replace HI0:=am (hi)
  (try clear hb)
  (try clear hb2)
  (try clear hk)
  (try clear hi)
  (try clear ho0)
  obtain ⟨Ao28,co28,eo28⟩:=Kd.R_slice HO435.out
  (first|subst eo28|(injection eo28 with f1_ f2_ f3_;have f4_:=f1_.symm;have f5_:=f3_.symm;clear f1_ f2_ f3_;subst f4_;subst f5_))
  refine hK.out _ _ ⟨yk BK414 0,yk BK414 1⟩ (fun hHeld=>?_)
  clear hK K
  refine rN (nA 39) ?_
  refine rR ?_
  refine rD HT_ D5 ?_
  try go_wp2
  go_loopg [6,41] k (fun kq v6 v41 w'=>∃ (x6_1:List (S76)) (x41_1:Int),v41 = .int .i64 x41_1∧Aside0 (spec_l1Cur_msrPieces.l0 kq t421 x6_1 t433 (t433.length:Int) x41_1 s0_0 t436 t437 t410 t411=some (r1,r2,r3,r4,r5))∧Aside0 (kq≤k)∧Aside0 (Kd.N k76 76 w' w.heap.size (fun k_=>(w.heap.size≤k_)∧some k_ ≠ (v6:Value).ownBlock∧some k_ ≠ ((.slice Ao28 t433.length co28):Value).ownBlock∧k_ ≠ gb409∧k_ ≠ gb414∧k_ ≠ g) (.slice Ao23 t421.length co23) t421)∧Aside0 (Kd.N k76 76 w' w.heap.size (fun k_=>(w.heap.size≤k_)∧some k_ ≠ ((.slice Ao23 t421.length co23):Value).ownBlock∧some k_ ≠ ((.slice Ao28 t433.length co28):Value).ownBlock∧k_ ≠ gb409∧k_ ≠ gb414∧k_ ≠ g) v6 x6_1)∧Aside0 (Kd.R (Kd.int .i64) 3 w' w.heap.size (fun k_=>(w.heap.size≤k_)) (.slice Ao28 t433.length co28) t433)∧Aside0 (w'.heap[gb409]? = some (.cells #[.int .i64 0, .int .i64 0] 30 (0,0)))∧Aside0 (w'.heap[gb414]? = some (.cells #[.int .i64 t410, .int .i64 t411] 30 (0,0)))∧Aside0 (IsS127 w0 w' g s0_0 t436 t437)∧Aside0 (KeepBut w w' g none)∧Aside0 (Below w0.heap.size w0 w'))
  case atStart=>exact ⟨(([]:List (S76))),(0),D1,H',⟨Nat.le_refl _⟩,⟨by refine sN ?_;exact Kd.N_mono HO423.out (fun _ hk=>⟨hk.1.1,⟨D81,⟨hk.2,⟨hk.1.2.2.1,⟨hk.1.2.2.2.1,hk.1.2.2.2.2⟩⟩⟩⟩⟩)⟩,⟨D18⟩,⟨by refine sR ?_;exact Kd.R_mono HO435.out (fun _ hk=>hk.1)⟩,⟨yB BK409⟩,⟨yB BK414⟩,⟨D9⟩,⟨D4⟩,⟨D13⟩⟩
  case round =>
   clear H'
   try clear c1
   try clear p2
   try clear c4
   try clear c6
   try clear p6
   try clear c9
   try clear c10
   try clear c11
   try clear c14
   try clear c15
   try clear hcz16_0
   try clear hcz16_1
   try clear hfz16_0
   try clear hfz16_1
   obtain ⟨x6_1,x41_1,rfl,HA,HK1,HO_5,HO_6,HO_39,BK409,BK414,HI0,HK,HB⟩:=hrel
   cases gk with
   | zero=>exact absurd HA.out (by simp [spec_l1Cur_msrPieces.l0])
   | succ k1 =>
    have H:=HA.out
    clear HA
    simp only [spec_l1Cur_msrPieces.l0] at H
    by_cases c29:x41_1 < (t433.length:Int)
    ·rw [if_pos c29] at H
     have c29b0:=decide_eq_true c29
     clear c29
     obtain ⟨c30,H⟩:=yi H
     have c30b0:=decide_eq_true c30
     clear c30
     obtain ⟨c31,H⟩:=yi H
     have c31b0:=decide_eq_true c31
     clear c31
     obtain ⟨c32,H⟩:=yi H
     have c32b0:=decide_eq_true c32
     clear c32
     obtain ⟨c33,H⟩:=yi H
     have c33b0:=decide_eq_true c33
     clear c33
     obtain ⟨c34,H⟩:=yi H
     have LMc34:=am c34
     clear c34
     generalize hy440:(x6_1 ++ [(⟨(rd_T76 t421 (rd t433 x41_1)).f0,(rd_T76 t421 (rd t433 x41_1)).f1⟩:S76)]:List (S76))=y440 at H
     have Ny440:=am hy440.symm
     clear hy440
     have H':=am H
     clear H
     have p438:0≤(x41_1:Int):=od D0
     have q438:x41_1 < (t433.length:Int):=od D0
     obtain ⟨ad438,e438,hx438_0⟩:=Kd.at_int (Kd.R_reads' HO_39.out).2.2 x41_1 p438 q438
     cases e438
     replace p438:=eq_true p438
     replace q438:=eq_true q438
     have p439:0≤((rd t433 x41_1):Int):=od D0
     have q439:(rd t433 x41_1) < (t421.length:Int):=od D0
     obtain ⟨ad439,A439_1,c439_1,e439,hx439_0,hx439_1,hl439_1,hi439_1⟩:=at_T76 (Kd.N_reads' HO_5.out).2.2 (rd t433 x41_1) p439 q439
     cases e439
     obtain ⟨ce439,hce439,hMe439,hcc439⟩:=Kd.N_get HO_5.out z76 (rd t433 x41_1) p439 (by first|exact q439|exact od D0|(have e_:=(Kd.N_reads' HO_5.out).1;omega))
     obtain ⟨ua439_1,uc439_1,rfl,ul439_1,ge439_1⟩:=k76_openF hMe439
     have hv439_1:=hcc439 1 _ rfl
     rw [add_field _ _ 1 D11] at hv439_1
     replace hv439_1:=Option.some.inj (hv439_1.symm.trans hx439_1)
     injection hv439_1 with hva_ hvn_ hvc_
     rw [hva_] at ge439_1
     rw [hvc_] at ul439_1
     have HL439_1:=am (show Kd.V (Kd.int .u8) 5 _ w.heap.size _ _ ((rd_T76 t421 (rd t433 x41_1)).f1) from Kd.V_mk ul439_1 ge439_1)
     clear hva_ hvn_ hvc_ ge439_1 ul439_1
     clear hcc439 hce439
     have HR439_1:=am hi439_1
     have HC439_1:=am hl439_1
     clear hi439_1 hl439_1
     replace p439:=eq_true p439
     replace q439:=eq_true q439
     go_wp2_with (first|((with_reducible refine gate_builtin (b:=.append) (xs:=#[.tmp 45, .tmp 50]) rfl ?_);at_builtin;refine Kd.N_append k76 w.heap.size rfl (.tmp 45) (.tmp 50) 38 76 (.agg #[(.int .i64 0),(.slice none 0 0)]) 32 rfl Try.underlying38 info76 rfl D8 D11 u6 x6_1 (⟨(rd_T76 t421 (rd t433 x41_1)).f0,(rd_T76 t421 (rd t433 x41_1)).f1⟩:S76) [.int .i64 ((rd_T76 t421 (rd t433 x41_1)).f0), .slice A439_1 ((rd_T76 t421 (rd t433 x41_1)).f1).length c439_1] (fun k_=>(w.heap.size≤k_)∧some k_ ≠ (.slice (some ad439) t421.length co23:Value).ownBlock∧some k_ ≠ (.slice (some ad438) t433.length co28:Value).ownBlock∧k_ ≠ gb409∧k_ ≠ gb414∧k_ ≠ g) (fun k_=>((fun k_=>(w.heap.size≤k_)∧some k_ ≠ (.slice (some ad439) t421.length co23:Value).ownBlock∧some k_ ≠ (.slice (some ad438) t433.length co28:Value).ownBlock∧k_ ≠ gb409∧k_ ≠ gb414∧k_ ≠ g)) k_∧some k_ ≠ (u6:Value).ownBlock) rfl rfl (by exact (k76_mkF _ _ (⟨(rd_T76 t421 (rd t433 x41_1)).f0,(rd_T76 t421 (rd t433 x41_1)).f1⟩:S76) (Kd.V_reads' (Kd.V_mono (ok':=(fun k_=>((fun k_=>(w.heap.size≤k_)∧some k_ ≠ (.slice (some ad439) t421.length co23:Value).ownBlock∧some k_ ≠ (.slice (some ad438) t433.length co28:Value).ownBlock∧k_ ≠ gb409∧k_ ≠ gb414∧k_ ≠ g)) k_∧some k_ ≠ (u6:Value).ownBlock)) (HL439_1.out) (fun k_ hk=>⟨⟨hk.1.1,⟨hk.2,⟨hk.1.2.2.1,⟨hk.1.2.2.2.1,⟨hk.1.2.2.2.2.1,hk.1.2.2.2.2.2⟩⟩⟩⟩⟩,hk.1.2.1⟩))).2.1 (Kd.V_F (Kd.V_mono (ok':=(fun k_=>((fun k_=>(w.heap.size≤k_)∧some k_ ≠ (.slice (some ad439) t421.length co23:Value).ownBlock∧some k_ ≠ (.slice (some ad438) t433.length co28:Value).ownBlock∧k_ ≠ gb409∧k_ ≠ gb414∧k_ ≠ g)) k_∧some k_ ≠ (u6:Value).ownBlock)) (HL439_1.out) (fun k_ hk=>⟨⟨hk.1.1,⟨hk.2,⟨hk.1.2.2.1,⟨hk.1.2.2.2.1,⟨hk.1.2.2.2.2.1,hk.1.2.2.2.2.2⟩⟩⟩⟩⟩,hk.1.2.1⟩))))) (fun _ hk=>hk) (by exact (fun k_ hk=>⟨(Nat.le_trans (keep_size (w:=w) (g:=g) (row:=none) D4) hk),Kd.fresh' (Kd.N_lt (yN HO_5)) k_ hk,Kd.fresh' (Kd.R_lt (yR HO_39)) k_ hk,yz BK409 k_ hk,yz BK414 k_ hk,IsS127.fresh D9 k_ hk⟩)) (by exact (yN HO_6)) (Below.refl _ _) (by exact (keep_size (w:=w) (g:=g) (row:=none) D4)) (by have:=LMc34.out;omega) ?_;intro v441 w35 ho hb hg hat;rw [← Ny440.out] at ho;have n0_:=am (Kd.N_afterv (ok:=(fun k_=>(w.heap.size≤k_)∧some k_ ≠ (.slice (some ad438) t433.length co28:Value).ownBlock∧k_ ≠ gb409∧k_ ≠ gb414∧k_ ≠ g)) (by refine sN ?_;exact Kd.N_mono HO_5.out (fun _ hk=>⟨⟨hk.1,⟨hk.2.2.1,⟨hk.2.2.2.1,⟨hk.2.2.2.2.1,hk.2.2.2.2.2⟩⟩⟩⟩,hk.2.1⟩)) hg hat);have n1_:=am (Kd.R_over' (yR HO_39) (Kd.N_typed (yN HO_6)) D8 hg);have n2_:=am (blk_grown (g:=gb409) (o:=.cells #[.int .i64 0, .int .i64 0] 30 (0,0)) (yB BK409) hg (Kd.N_ne HO_6.out BK409.out D8));have n3_:=am (blk_grown (g:=gb414) (o:=.cells #[.int .i64 t410, .int .i64 t411] 30 (0,0)) (yB BK414) hg (Kd.N_ne HO_6.out BK414.out D8));have n4_:=am (IsS127.grown D9 hg (IsS127.own_neN HI0.out HO_6.out D8));have n5_:=am (Kd.V_afterv (ok:=(fun k_=>(w.heap.size≤k_)∧some k_ ≠ (.slice (some ad439) t421.length co23:Value).ownBlock∧some k_ ≠ (.slice (some ad438) t433.length co28:Value).ownBlock∧k_ ≠ gb409∧k_ ≠ gb414∧k_ ≠ g)) (by refine sV ?_;exact Kd.V_mono HL439_1.out (fun _ hk=>⟨⟨hk.1.1,⟨hk.2,⟨hk.1.2.2.1,⟨hk.1.2.2.2.1,⟨hk.1.2.2.2.2.1,hk.1.2.2.2.2.2⟩⟩⟩⟩⟩,hk.1.2.1⟩)) hg hat);have n6_:=am (below_weaken D13 HL.out hb);have n7_:=am (KeepBut.trans D4 (KeepBut.of_grown hg g) (Kd.N_base2 HO_6.out));have n8_:=am (ho);clear HO_5 HO_39 BK409 BK414 HI0 HL439_1 HB HK HO_6;have HO_5:=n0_;have HO_39:=n1_;have BK409:=n2_;have BK414:=n3_;have HI0:=n4_;have HL439_1:=n5_;have HB:=n6_;have HK:=n7_;have HO442:=n8_;clear n0_ n1_ n2_ n3_ n4_ n5_ n6_ n7_ n8_ ho hb hg hat))
     go_roundg k1
     case measure=>have:=HK1.out;omega
     case rel=>exact ⟨(y440),(wrap64 (x41_1+1)),D1,H',⟨D34⟩,⟨by refine sN ?_;exact Kd.N_mono HO_5.out (fun _ hk=>⟨hk.1.1,⟨hk.2,⟨hk.1.2.1,⟨hk.1.2.2.1,⟨hk.1.2.2.2.1,hk.1.2.2.2.2⟩⟩⟩⟩⟩)⟩,⟨yN HO442⟩,⟨yR HO_39⟩,⟨yB BK409⟩,⟨yB BK414⟩,⟨D9⟩,⟨D4⟩,⟨D13⟩⟩
    rw [if_neg c29] at H
    have c29b0:=decide_eq_false c29
    clear c29
    have HC36:=am H
    clear H
    go_upto_region 11 with (fail)
    go_cut [59] (fun v59 wc=>∃ (kq:Nat) (x59_35:Bool) (x1001_35:Int) (x1002_35:Int),v59 = .bool x59_35∧Aside0 (spec_l1Cur_msrPieces.j1 kq x6_1 x59_35 s0_0 x1001_35 x1002_35 t410 t411=some (r1,r2,r3,r4,r5))∧Aside0 (kq≤k1)∧Aside0 (Kd.N k76 76 wc w.heap.size (fun k_=>(w.heap.size≤k_)∧k_ ≠ gb409∧k_ ≠ gb414∧k_ ≠ g) u6 x6_1)∧Aside0 (wc.heap[gb409]? = some (.cells #[.int .i64 0, .int .i64 0] 30 (0,0)))∧Aside0 (wc.heap[gb414]? = some (.cells #[.int .i64 t410, .int .i64 t411] 30 (0,0)))∧Aside0 (IsS127 w0 wc g s0_0 x1001_35 x1002_35)∧Aside0 (KeepBut w wc g none)∧Aside0 (Below w0.heap.size w0 wc))
    case first =>
     have H:=HC36.out
     clear HC36
     by_cases c37:(x6_1.length:Int) > 0
     ·rw [if_pos c37] at H
      have c37b0:decide (0 < (x6_1.length:Int))=true:=decide_eq_true c37
      have c37b1:decide (0 < x6_1.length)=true:=decide_eq_true D11
      clear c37
      (first|rw [c37b0]|(simp only [i64_w,i32_w];rw [c37b0])|skip)
      obtain ⟨⟨t443,t444,t445⟩,A38,H⟩:=yo H
      try dsimp only at H
      have H':=am H
      clear H
      obtain ⟨Ao39,co39,eo39⟩:=Kd.N_slice HO_6.out
      subst eo39
      go_wp2_with (first|(go_at_call 101;(with_reducible refine (spec_l1Cur_one.calls g s0_0 t436 t437 12 t443 t444 t445 w0 _ D9 D13 A38.out).mono ?_);rintro e w40 ⟨rfl,hi,hb,hk⟩;replace HO_5:=am (Kd.N_mono (Kd.N_keep (Kd.N_mono (ok:=fun k_=>(((w.heap.size≤k_))∧(some k_ ≠ (.slice Ao39 x6_1.length co39:Value).ownBlock∧(some k_ ≠ (.slice Ao28 t433.length co28:Value).ownBlock∧(k_ ≠ gb409∧(k_ ≠ gb414∧k_ ≠ g)))))) (yN HO_5) (fun k_ hk_=>(⟨hk_,hk_.2.2.2.2.2⟩:_∧k_ ≠ g))) hk (fun _ h=>h.2)) (fun _ h=>h.1));replace HO_6:=am (Kd.N_mono (Kd.N_keep (Kd.N_mono (ok:=fun k_=>(((w.heap.size≤k_))∧(some k_ ≠ (.slice Ao23 t421.length co23:Value).ownBlock∧(some k_ ≠ (.slice Ao28 t433.length co28:Value).ownBlock∧(k_ ≠ gb409∧(k_ ≠ gb414∧k_ ≠ g)))))) (yN HO_6) (fun k_ hk_=>(⟨hk_,hk_.2.2.2.2.2⟩:_∧k_ ≠ g))) hk (fun _ h=>h.2)) (fun _ h=>h.1));replace HO_39:=am (Kd.R_mono (Kd.R_keep (IsS127.apart (show IsS127 w0 _ g s0_0 t436 t437 from by repeat (first|(with_reducible first|exact HI0.out|apply IsS127.alloc|apply IsS127.drewN|apply IsS127.drew|apply IsS127.set_1|apply IsS127.set_2|refine IsS127.far ?_ NB0_409.out _|refine IsS127.far ?_ NB0_414.out _)|exact HI0.out)) (yR HO_39) D8) hk (fun _ h=>h.2)) (fun _ h=>h.1));replace BK409:=am (KeepBut.blk hk (g':=gb409) (o:=.cells #[.int .i64 0, .int .i64 0] 30 (0,0)) (yB BK409) NB409_0.out D43);replace BK414:=am (KeepBut.blk hk (g':=gb414) (o:=.cells #[.int .i64 t410, .int .i64 t411] 30 (0,0)) (yB BK414) NB414_0.out D43);replace HK:=am (KeepBut.trans D4 hk (.inl rfl));replace HB:=am (hb);replace HI0:=am (hi);clear hb hk hi))
      go_meet
      case rel=>exact ⟨_,(t443),(t444),(t445),D1,H',⟨D104⟩,⟨D107⟩,⟨yB BK409⟩,⟨yB BK414⟩,⟨D9⟩,⟨D4⟩,⟨D13⟩⟩
     rw [if_neg c37] at H
     have c37b0:decide (0 < (x6_1.length:Int))=false:=decide_eq_false c37
     have c37b1:decide (0 < x6_1.length)=false:=decide_eq_false D11
     clear c37
     (first|rw [c37b0]|(simp only [i64_w,i32_w];rw [c37b0])|skip)
     have H':=am H
     clear H
     obtain ⟨Ao41,co41,eo41⟩:=Kd.N_slice HO_6.out
     subst eo41
     go_wp2
     go_meet
     case rel=>exact ⟨_,(false),(t436),(t437),D1,H',⟨D104⟩,⟨D107⟩,⟨yB BK409⟩,⟨yB BK414⟩,⟨D9⟩,⟨D4⟩,⟨D13⟩⟩
    case rest =>
     clear HC36
     try clear c1
     try clear c2
     try clear p2
     try clear c3
     try clear c4
     try clear p4
     try clear q4
     try clear hx4
     try clear c6
     try clear p6
     try clear c9
     try clear c10
     try clear c11
     try clear c14
     try clear c15
     try clear c29
     try clear c29b0
     try clear c30
     try clear c30b0
     try clear c31
     try clear c31b0
     try clear c32
     try clear c32b0
     try clear c33
     try clear c33b0
     try clear c34
     try clear c37
     try clear c37b0
     try clear c37b1
     try clear hcz16_0
     try clear hcz16_1
     try clear hfz16_0
     try clear hfz16_1
     try clear hx438_0
     try clear hx439_0
     try clear hx439_1
     try clear p2
     try clear p438
     try clear p439
     try clear p6
     try clear q438
     try clear q439
     obtain ⟨kq,x59_35,x1001_35,x1002_35,rfl,HA,HJ35,HO_6,BK409,BK414,HI0,HK,HB⟩:=hcut
     cases kq with
     | zero=>exact absurd HA.out (by simp [spec_l1Cur_msrPieces.j1])
     | succ kj35 =>
      have H:=HA.out
      clear HA
      simp only [spec_l1Cur_msrPieces.j1] at H
      by_cases c42:x59_35=true
      ·subst c42
       replace H:=yt H
       obtain ⟨⟨t446,t447,t448⟩,A43,H⟩:=yo H
       try dsimp only at H
       obtain ⟨⟨t449,t452,t453⟩,A44,H⟩:=yo H
       try dsimp only at H
       obtain ⟨c45,H⟩:=yi H
       have c45b0:=decide_eq_true c45
       have c45b1:decide (0 < x6_1.length)=true:=decide_eq_true D11
       clear c45
       generalize hy454:(x6_1.set (0:Int).toNat (⟨(rd_T76 x6_1 0).f0,t449⟩:S76):List (S76))=y454 at H
       have Ny454:=am hy454.symm
       clear hy454
       simp only [Option.some.injEq,Prod.mk.injEq] at H
       obtain ⟨rfl,rfl,rfl,rfl,rfl⟩:=H
       go_wp2_with (first|((with_reducible refine gC 95 ?_);refine gM (some 63) Try.func95 (args:=#[.pointer (some ⟨g,0,none⟩), .int .i64 4]) (spec_l1Cur_pick.calls g s0_0 x1001_35 x1002_35 4 t446 t447 t448 w0 _ ?side1 ?side2 A43.out) ?_;(case side1=>repeat (first|(with_reducible first|exact HI0.out|apply IsS127.alloc|apply IsS127.drewN|apply IsS127.drew|apply IsS127.set_1|apply IsS127.set_2|refine IsS127.far ?_ NB0_409.out _|refine IsS127.far ?_ NB0_414.out _)|exact HI0.out));(case side2=>repeat (first|(with_reducible first|exact HB.out|apply pa|apply pb|apply pd|refine pt ?_ (IsS127.ge HI0.out)|refine pt ?_ GE409.out|refine pt ?_ GE414.out)|exact HB.out));rintro e w47 ⟨rfl,hi,hb,hk⟩;refine ⟨_,rfl,?_⟩;replace HO_6:=am (Kd.N_mono (Kd.N_keep (Kd.N_mono (ok:=fun k_=>(((w.heap.size≤k_))∧(k_ ≠ gb409∧(k_ ≠ gb414∧k_ ≠ g)))) (yN HO_6) (fun k_ hk_=>(⟨hk_,hk_.2.2.2⟩:_∧k_ ≠ g))) hk (fun _ h=>h.2)) (fun _ h=>h.1));replace BK409:=am (KeepBut.blk hk (g':=gb409) (o:=.cells #[.int .i64 0, .int .i64 0] 30 (0,0)) (yB BK409) NB409_0.out D43);replace BK414:=am (KeepBut.blk hk (g':=gb414) (o:=.cells #[.int .i64 t410, .int .i64 t411] 30 (0,0)) (yB BK414) NB414_0.out D43);replace HK:=am (KeepBut.trans D4 hk (.inl rfl));replace HB:=am (hb);replace HI0:=am (hi);clear hb hk hi)|((with_reducible refine gC 102 ?_);refine gM (some 64) Try.func102 (args:=#[.pointer (some ⟨g,0,none⟩), .int .i64 t446]) (spec_l1Cur_vector.calls kj35 g s0_0 t447 t448 t446 t449 t452 t453 w0 _ ?side1 ?side2 A44.out) ?_;(case side1=>repeat (first|(with_reducible first|exact HI0.out|apply IsS127.alloc|apply IsS127.drewN|apply IsS127.drew|apply IsS127.set_1|apply IsS127.set_2|refine IsS127.far ?_ NB0_409.out _|refine IsS127.far ?_ NB0_414.out _)|exact HI0.out));(case side2=>repeat (first|(with_reducible first|exact HB.out|apply pa|apply pb|apply pd|refine pt ?_ (IsS127.ge HI0.out)|refine pt ?_ GE409.out|refine pt ?_ GE414.out)|exact HB.out));rintro e w48 ⟨v450,rfl,ho0,hi,hb,hk⟩;(first|have slv450:=Kd.R_slice ho0|have slv450:=Kd.S_slice ho0);refine ⟨_,rfl,?_⟩;replace HO_6:=am (Kd.N_mono (Kd.N_told (Kd.N_oldK (Kd.N_mono (ok:=fun k_=>(((w.heap.size≤k_))∧(k_ ≠ gb409∧(k_ ≠ gb414∧k_ ≠ g)))) (yN HO_6) (fun k_ hk_=>(⟨hk_,hk_.2.2.2⟩:_∧k_ ≠ g))) hk) (Kd.R_base ho0)) (fun _ h_=>h_.1));replace BK409:=am (KeepBut.blk hk (g':=gb409) (o:=.cells #[.int .i64 0, .int .i64 0] 30 (0,0)) (yB BK409) NB409_0.out D43);replace BK414:=am (KeepBut.blk hk (g':=gb414) (o:=.cells #[.int .i64 t410, .int .i64 t411] 30 (0,0)) (yB BK414) NB414_0.out D43);have HO451:=am (Kd.R_lower (Kd.R_newM (M:=fun k_=>(w.heap.size≤k_)) ho0 (keep_size (w:=w) (g:=g) (row:=none) D4) (fun k_ h_=>h_)) (keep_size (w:=w) (g:=g) (row:=none) D4));replace HK:=am (KeepBut.trans D4 hk (.inl rfl));replace HB:=am (hb);replace HI0:=am (hi);clear hb hk hi ho0;obtain ⟨Ao450,co450,rfl⟩:=Kd.R_slice HO451.out;have p46:0≤(0:Int):=D11;have q46:(0:Int) < ((x6_1.length:Int):Int):=od D0;have qi46:(0 < x6_1.length)=True:=eq_true D11;obtain ⟨go46,co46,eo46,gb46,gl46,cl46,HG46⟩:=Kd.N_form HO_6.out D11;(first|cases eo46|(injection eo46 with ea_ en_ ec_;(first|subst ea_|(injection ea_ with ea_;subst ea_));subst ec_;clear en_));have GB46:=am gb46;have GG46:=am HG46;clear gb46 gl46 HG46;obtain ⟨ce46,hcl46,hM46,hcc46,hfr46⟩:=Kd.N_elem HO_6.out z76 (0:Int) p46 q46;obtain ⟨ua46_1,uc46_1,rfl,ul46_1,ge46_1⟩:=k76_openF hM46;have hx46_0:w48.cell? ⟨go46,(0:Int).toNat*2,none⟩=some (.int .i64 ((rd_T76 x6_1 0).f0)):=hcc46 0 _ rfl;have hx46_1:w48.cell? ⟨go46,(0:Int).toNat*2+1,none⟩=some (.slice ua46_1 ((rd_T76 x6_1 0).f1).length uc46_1):=hcc46 1 _ rfl;have hf46_0:w48.frozen? ⟨go46,(0:Int).toNat*2,none⟩=false:=hfr46 0;have hf46_1:w48.frozen? ⟨go46,(0:Int).toNat*2+1,none⟩=false:=hfr46 1;clear hcl46 hcc46 hfr46;(try clear hM46);(try rw [show ((0:Int)).toNat=0 from rfl] at hx46_0);(try simp only [Nat.reduceMul,Nat.zero_mul,Nat.zero_add,Nat.reduceAdd] at hx46_0);(try rw [show ((0:Int)).toNat=0 from rfl] at hf46_0);(try simp only [Nat.reduceMul,Nat.zero_mul,Nat.zero_add,Nat.reduceAdd] at hf46_0);(try rw [show ((0:Int)).toNat=0 from rfl] at hx46_1);(try simp only [Nat.reduceMul,Nat.zero_mul,Nat.zero_add,Nat.reduceAdd] at hx46_1);(try rw [show ((0:Int)).toNat=0 from rfl] at hf46_1);(try simp only [Nat.reduceMul,Nat.zero_mul,Nat.zero_add,Nat.reduceAdd] at hf46_1);replace p46:=eq_true p46;replace q46:=eq_true q46;have n_:=am (Kd.N_mono (ok':=(fun k_=>(w.heap.size≤k_)∧some k_ ≠ ((.slice Ao450 t449.length co450):Value).ownBlock∧k_ ≠ gb409∧k_ ≠ gb414)) HO_6.out (fun k_ hk=>⟨hk.1.1,⟨hk.2,⟨hk.1.2.1,hk.1.2.2.1⟩⟩⟩));clear HO_6;have HO_6:=n_;clear n_;have HX49:=am (show Kd.N k76 76 w48 w.heap.size (fun k_=>(w.heap.size≤k_)∧k_ ≠ gb409∧k_ ≠ gb414) (.slice (some ⟨go46,0,none⟩) x6_1.length co46) x6_1 from (by refine sN ?_;exact Kd.N_mono HO_6.out (fun _ hk=>⟨hk.1,⟨hk.2.2.1,hk.2.2.2⟩⟩)));obtain ⟨ce49,hcl49,hM49,hcc49,hfr49⟩:=Kd.N_elem HX49.out z76 (0:Int) D11 (by have h_:(0:Int) < ((x6_1.length:Int):Int):=od D0;first|exact h_|(have e_:=(Kd.N_reads' HO_6.out).1;omega)|simpa using h_);obtain ⟨ua49_1,uc49_1,rfl,ul49_1,ge49_1⟩:=k76_openF hM49;have HP49:=Kd.N_seg HX49.out (0:Int) D11 (by have h_:(0:Int) < ((x6_1.length:Int):Int):=od D0;first|exact h_|(have e_:=(Kd.N_reads' HO_6.out).1;omega)|simpa using h_) (seg:=[(.slice Ao450 t449.length co450)]) (j:=1) hcl49 hcc49 (show 2≤2 from by decide) (x':=(⟨(rd_T76 x6_1 0).f0,t449⟩:S76)) (k76_mkF _ _ (⟨(rd_T76 x6_1 0).f0,t449⟩:S76) (Kd.R_reads' (Kd.R_mono (ok':=(fun k_=>((fun k_=>(w.heap.size≤k_)∧k_ ≠ gb409∧k_ ≠ gb414)) k_∧k_ ≠ go46)) (Kd.R_types (Kd.R_types (Kd.R_apart' (HO451.out) (Kd.N_typed HO_6.out) D8) BK409.out D8) BK414.out D8) (fun k_ hk=>⟨⟨hk.1.1.1.1,⟨hk.1.2,hk.2⟩⟩,fun e_=>(hk.1.1.2) D97⟩))).2.1 (Kd.R_F (Kd.R_mono (ok':=(fun k_=>((fun k_=>(w.heap.size≤k_)∧k_ ≠ gb409∧k_ ≠ gb414)) k_∧k_ ≠ go46)) (Kd.R_types (Kd.R_types (Kd.R_apart' (HO451.out) (Kd.N_typed HO_6.out) D8) BK409.out D8) BK414.out D8) (fun k_ hk=>⟨⟨hk.1.1.1.1,⟨hk.1.2,hk.2⟩⟩,fun e_=>(hk.1.1.2) D97⟩)))) (fun _ hk=>hk);have hx49_1:=hcc49 1 _ rfl;(try simp only [show (k76).sz=2 from rfl,Nat.mul_one,Nat.add_zero] at hx49_1);(try rw [show ((0:Int)).toNat=0 from rfl] at hx49_1);(try simp only [Nat.reduceMul,Nat.zero_mul,Nat.zero_add,Nat.reduceAdd] at hx49_1);have hf49_1:=hfr49 1;(try simp only [show (k76).sz=2 from rfl,Nat.mul_one,Nat.add_zero] at hf49_1);(try rw [show ((0:Int)).toNat=0 from rfl] at hf49_1);(try simp only [Nat.reduceMul,Nat.zero_mul,Nat.zero_add,Nat.reduceAdd] at hf49_1);clear hcl49 hcc49 hfr49 hM49)|((with_reducible refine gate_store (t:=24) (p:=66) rfl ?_);refine store_event (t:=24) (p:=66) (v:=?vo_w50) (w1:=(w48.setCell ⟨go46,1,none⟩ ((.slice Ao450 t449.length co450)))) ?hg ?ho ?hn ?hr ?_;(case ho=>rfl);(case hg=>rfl);(case hn=>rfl);(case hr=>first|(go_simp;done)|(go_simp;rfl)|(obtain ⟨_,_,e_⟩:=slv450;subst e_;go_simp;done)|(obtain ⟨_,_,e_⟩:=slv450;subst e_;go_simp;rfl));intro w50 hw;have hg:w48.grownBy w50 (some go46):=(by rw [hw];exact HP49.2);have hp_:Kd.N k76 76 w50 w.heap.size (fun k_=>(w.heap.size≤k_)∧k_ ≠ gb409∧k_ ≠ gb414) (.slice (some ⟨go46,0,none⟩) x6_1.length co46) y454:=(by rw [hw,Ny454.out];exact HP49.1);clear HP49;have n0_:=am (hp_);have n1_:=am (blk_grown (g:=gb409) (o:=.cells #[.int .i64 0, .int .i64 0] 30 (0,0)) (yB BK409) hg (Kd.N_ne HO_6.out BK409.out D8));have n2_:=am (blk_grown (g:=gb414) (o:=.cells #[.int .i64 t410, .int .i64 t411] 30 (0,0)) (yB BK414) hg (Kd.N_ne HO_6.out BK414.out D8));have n3_:=am (IsS127.grown D9 hg (IsS127.own_neN HI0.out HO_6.out D8));have n4_:=am ((by rw [hw];exact pt (HB.out) (Nat.le_trans HL.out GB46.out):Below w0.heap.size w0 w50));have n5_:=am (KeepBut.trans D4 (KeepBut.of_grown hg g) (Kd.N_base2 HO_6.out));clear HO_6 BK409 BK414 HI0 HB HK HO451;have HO_6:=n0_;have BK409:=n1_;have BK414:=n2_;have HI0:=n3_;have HB:=n4_;have HK:=n5_;clear n0_ n1_ n2_ n3_ n4_ n5_ hg hw hp_;have hnb51:=NB414_409.out;have hnc51:=NB409_414.out;have hnb52:=NB414_0.out;have hnc52:=NB0_414.out;obtain ⟨hcz53_0,hcz53_1,hfz53_0,hfz53_1⟩:=yk2 BK414;have hnb54:=NB409_0.out;have hnc54:=NB0_409.out;obtain ⟨hcz55_0,hcz55_1,hfz55_0,hfz55_1⟩:=yk2 BK409))
       refine bodyPost_ret (results_ct rfl _ _ gb409 30 #[.int .i64 t410, .int .i64 t411] (0,0) _ rfl D60 Try.underlying30 rfl D5) rfl ?_
       exact ⟨_,D2,D68,D9,D13,D4⟩
      replace c42:=Bool.eq_false_iff.mpr c42
      subst c42
      replace H:=yn H
      simp only [Option.some.injEq,Prod.mk.injEq] at H
      obtain ⟨rfl,rfl,rfl,rfl,rfl⟩:=H
      have hnb56:=NB414_409.out
      have hnc56:=NB409_414.out
      have hnb57:=NB414_0.out
      have hnc57:=NB0_414.out
      obtain ⟨hcz58_0,hcz58_1,hfz58_0,hfz58_1⟩:=yk2 BK414
      have hnb59:=NB409_0.out
      have hnc59:=NB0_409.out
      obtain ⟨hcz60_0,hcz60_1,hfz60_0,hfz60_1⟩:=yk2 BK409
      go_wp2
      refine bodyPost_ret (results_ct rfl _ _ gb409 30 #[.int .i64 t410, .int .i64 t411] (0,0) _ rfl D60 Try.underlying30 rfl D5) rfl ?_
      exact ⟨_,D2,D68,D9,D13,D4⟩
 replace c4:=Bool.eq_false_iff.mpr c4
 subst c4
 replace H:=yn H
 simp only [Option.some.injEq,Prod.mk.injEq] at H
 obtain ⟨rfl,rfl,rfl,rfl,rfl⟩:=H
 go_enter Try.func111,Try.ntmps111
 go_wp2_with (first|((with_reducible refine gD 2 ?_);refine gB (cs:=#[.int .i64 0, .int .i64 0]) 30 ?_;intro gb409 hg w61 hbox hb;replace HB:=am (pu D7 hb);have BK409:=am (hbox);have GW409:=am ((by rw [hg];exact (keep_size (w:=w) (g:=g) (row:=none) D3):w.heap.size≤gb409));have GE409:=am ((Nat.le_trans HW0.out (by rw [hg];exact (keep_size (w:=w) (g:=g) (row:=none) D3):w.heap.size≤gb409):w0.heap.size≤gb409));replace HK:=am (KeepBut.trans D3 (KeepBut.of_below hb g none) (.inl rfl));have NB0_409:=am ((by rw [hg];exact Nat.ne_of_lt (IsS127.lt (show IsS127 w0 _ g s0_0 s0_1 s0_2 from by repeat (first|(with_reducible first|exact HI0.out|apply IsS127.alloc|apply IsS127.drewN|apply IsS127.drew|apply IsS127.set_1|apply IsS127.set_2)|exact HI0.out))):g ≠ gb409));have NB409_0:=am ((by rw [hg];exact Nat.ne_of_gt (IsS127.lt (show IsS127 w0 _ g s0_0 s0_1 s0_2 from by repeat (first|(with_reducible first|exact HI0.out|apply IsS127.alloc|apply IsS127.drewN|apply IsS127.drew|apply IsS127.set_1|apply IsS127.set_2)|exact HI0.out))):gb409 ≠ g));replace HI0:=am (IsS127.below D6 hb);clear hb hbox hg)|((with_reducible refine gC 100 ?_);refine gM (some 10) Try.func100 (args:=#[.pointer (some ⟨g,0,none⟩)]) (spec_l1Cur_msr.calls g s0_0 s0_1 s0_2 t410 t411 t412 t413 w0 _ ?side1 ?side2 A2.out) ?_;(case side1=>repeat (first|(with_reducible first|exact HI0.out|apply IsS127.alloc|apply IsS127.drewN|apply IsS127.drew|apply IsS127.set_1|apply IsS127.set_2|refine IsS127.far ?_ NB0_409.out _)|exact HI0.out));(case side2=>repeat (first|(with_reducible first|exact HB.out|apply pa|apply pb|apply pd|refine pt ?_ (IsS127.ge HI0.out)|refine pt ?_ GE409.out)|exact HB.out));rintro e w62 ⟨rfl,hi,hb,hk⟩;refine ⟨_,rfl,?_⟩;replace BK409:=am (KeepBut.blk hk (g':=gb409) (o:=.cells #[.int .i64 0, .int .i64 0] 30 (0,0)) (yB BK409) NB409_0.out D43);replace HK:=am (KeepBut.trans D23 hk (.inl rfl));replace HB:=am (hb);replace HI0:=am (hi);clear hb hk hi)|((with_reducible refine gD 4 ?_);refine gB (cs:=#[.int .i64 0, .int .i64 0]) 30 ?_;intro gb414 hg w63 hbox hb;replace HB:=am (pu D98 hb);have BK414:=am (hbox);have GW414:=am ((by rw [hg];exact (keep_size (w:=w) (g:=g) (row:=none) D23):w.heap.size≤gb414));have GE414:=am ((Nat.le_trans HW0.out (by rw [hg];exact (keep_size (w:=w) (g:=g) (row:=none) D23):w.heap.size≤gb414):w0.heap.size≤gb414));replace HK:=am (KeepBut.trans D23 (KeepBut.of_below hb g none) (.inl rfl));have NB409_414:=yl BK409 hg;have NB414_409:=yg BK409 hg;replace BK409:=yb BK409 hb;have NB0_414:=am ((by rw [hg];exact Nat.ne_of_lt (IsS127.lt (show IsS127 w0 _ g s0_0 t412 t413 from by repeat (first|(with_reducible first|exact HI0.out|apply IsS127.alloc|apply IsS127.drewN|apply IsS127.drew|apply IsS127.set_1|apply IsS127.set_2|refine IsS127.far ?_ NB0_409.out _)|exact HI0.out))):g ≠ gb414));have NB414_0:=am ((by rw [hg];exact Nat.ne_of_gt (IsS127.lt (show IsS127 w0 _ g s0_0 t412 t413 from by repeat (first|(with_reducible first|exact HI0.out|apply IsS127.alloc|apply IsS127.drewN|apply IsS127.drew|apply IsS127.set_1|apply IsS127.set_2|refine IsS127.far ?_ NB0_409.out _)|exact HI0.out))):gb414 ≠ g));replace HI0:=am (IsS127.below D76 hb);clear hb hbox hg;have hnb64:=NB414_409.out;have hnc64:=NB409_414.out;have hnb65:=NB414_0.out;have hnc65:=NB0_414.out;obtain ⟨hcz66_0,hcz66_1,hfz66_0,hfz66_1⟩:=yk2 BK414)|((with_reducible refine gC 47 ?_);refine gM (some 12) Try.func47 (args:=#[.agg #[.int .i64 t410, .int .i64 t411]]) (spec_GoodMsr.calls t410 t411 false _ A3.out) ?_;rintro e w67 ⟨rfl,hb⟩;refine ⟨_,rfl,?_⟩;replace BK409:=am (qb (g:=gb409) (o:=.cells #[.int .i64 0, .int .i64 0] 30 (0,0)) (yF BK409) hb);replace BK414:=am (qb (g:=gb414) (o:=.cells #[.int .i64 t410, .int .i64 t411] 30 (0,0)) D91 hb);replace HK:=am (KeepBut.trans D4 (KeepBut.of_below hb g none) (.inl rfl));replace HB:=am (pu D13 hb);replace HI0:=am (IsS127.below (show IsS127 w0 ((w63.setCell ⟨gb414,0,none⟩ (.int .i64 t410)).setCell ⟨gb414,1,none⟩ (.int .i64 t411)) g s0_0 t412 t413 from by repeat (first|(with_reducible first|exact HI0.out|apply IsS127.alloc|apply IsS127.drewN|apply IsS127.drew|apply IsS127.set_1|apply IsS127.set_2|refine IsS127.far ?_ NB0_409.out _|refine IsS127.far ?_ NB0_414.out _)|exact HI0.out)) hb);clear hb;obtain ⟨hcz68_0,hcz68_1,hfz68_0,hfz68_1⟩:=yk2 BK414;have hnb69:=NB409_0.out;have hnc69:=NB0_409.out;obtain ⟨hcz70_0,hcz70_1,hfz70_0,hfz70_1⟩:=yk2 BK409))
 refine bodyPost_ret (results_ct rfl _ _ gb409 30 #[.int .i64 t410, .int .i64 t411] (0,0) _ rfl D60 Try.underlying30 rfl D5) rfl ?_
 exact ⟨_,D2,D18,D9,D13,D4⟩
def spec_DrawDecodeMsr.g (k:Nat) (s0_0:List Int) (s0_1:Int) (s0_2:Int):Option (Int × Int × (List (S76)) × Int × Int):=(spec_l1Cur_msrPieces.f k s0_0 s0_1 s0_2).bind fun bt391=>(some (bt391.1,bt391.2.1,bt391.2.2.1,bt391.2.2.2.1,bt391.2.2.2.2))
theorem spec_DrawDecodeMsr.monog:∀ a0 a1 a2 k,LeO (spec_DrawDecodeMsr.g k a0 a1 a2) (spec_DrawDecodeMsr.g (k+1) a0 a1 a2):=by
 intro a0 a1 a2 k
 unfold spec_DrawDecodeMsr.g
 exact mm
def spec_DrawDecodeMsr.f (k:Nat) (l0:List Int):Option (Int × Int × (List (S76))):=(spec_DrawDecodeMsr.g k l0 0 0).bind fun b=>some (b.1,b.2.1,b.2.2.1)
theorem spec_DrawDecodeMsr.mono:∀ a0 k,LeO (spec_DrawDecodeMsr.f k a0) (spec_DrawDecodeMsr.f (k+1) a0):=fun a0 k=>LeO.bind (spec_DrawDecodeMsr.monog _ _ _ k) (fun _=>LeO.refl _)
theorem spec_DrawDecodeMsr.calls (k:Nat) (A0:Option Addr) (c0:Nat) (l0:List Int) (p1:Int) (p2:Int) (p3:(List (S76))) (w0:World) (hr0:Kd.C (Kd.int .u8) w0 A0 l0.length l0) (hc0:l0.length≤c0) (h:spec_DrawDecodeMsr.f k l0=some (p1,p2,p3)) :
  Calls Try.prog 52 #[.slice A0 l0.length c0] w0 fun e w'=>∃ v2_:Value,e = .returned (.tuple #[.agg #[.int .i64 p1, .int .i64 p2],v2_])∧Kd.N k76 76 w' w0.heap.size (fun k_=>(w0.heap.size≤k_)) v2_ p3∧Below w0.heap.size w0 w':=by
 unfold spec_DrawDecodeMsr.f at h
 obtain ⟨⟨r1,r2,r3,r4,r5⟩,hG_,he_⟩:=Option.bind_eq_some_iff.mp h
 clear h
 have h:=hG_
 clear hG_
 simp only [Option.some.injEq,Prod.mk.injEq] at he_
 obtain ⟨rfl,rfl,rfl⟩:=he_
 have HR:=am hr0
 clear hr0 hc0
 have HB:=am (Below.refl w0.heap.size w0)
 have HL:=am (Nat.le_refl w0.heap.size)
 have HW0:=HL
 have hu127:=Try.underlying127
 have hu30:=Try.underlying30
 have H:=h
 unfold spec_DrawDecodeMsr.f at H
 clear h
 obtain ⟨⟨t391,t392,t393,t396,t397⟩,A2,H⟩:=yo H
 try dsimp only at H
 simp only [Option.some.injEq,Prod.mk.injEq] at H
 obtain ⟨rfl,rfl,rfl,rfl,rfl⟩:=H
 go_enter Try.func52,Try.ntmps52
 go_wp2_with (first|((with_reducible refine gD 7 ?_);refine gB (cs:=#[.slice A0 l0.length c0, .int .i64 0, .int .u64 0]) 127 ?_;intro g hg wS hbox hb;have n0_:=yH HB hb;have HI0:=am (show IsS127 w0 _ g l0 0 0 from ⟨A0,c0,hbox,by rw [hg];exact pz (yW HB),HR.out⟩);have m0_:=yb BK390 hb;have NB0_390:=yg BK390 hg;have NB390_0:=am (Ne.symm NB0_390.out);clear BK390;have BK390:=m0_;clear m0_ HB;have HB:=n0_;clear n0_;have HK:=am (KeepBut.of_below HB.out g none);clear hb hbox hg)|((with_reducible refine gD 2 ?_);refine gB (cs:=#[.int .i64 0, .int .i64 0]) 30 ?_;intro gb390 hg w3 hbox hb;have n2_:=am (pu D7 hb);have n3_:=am (hbox);have n4_:=am ((by rw [hg];exact (pz (yW HB)):w0.heap.size≤gb390));have n5_:=n4_;clear HB;have HB:=n2_;have BK390:=n3_;have GW390:=n4_;have GE390:=n5_;clear n2_ n3_ n4_ n5_ hb hbox hg)|((with_reducible refine gC 111 ?_);refine gM (some 9) Try.func111 (args:=#[.pointer (some ⟨g,0,none⟩)]) (spec_l1Cur_msrPieces.calls k g l0 0 0 t391 t392 t393 t396 t397 w0 _ ?side1 ?side2 A2.out) ?_;(case side1=>repeat (first|(with_reducible first|exact HI0.out|apply IsS127.alloc|apply IsS127.drewN|apply IsS127.drew|apply IsS127.set_1|apply IsS127.set_2|refine IsS127.far ?_ NB0_390.out _)|exact HI0.out));(case side2=>repeat (first|(with_reducible first|exact HB.out|apply pa|apply pb|apply pd|refine pt ?_ (IsS127.ge HI0.out)|refine pt ?_ GE390.out)|exact HB.out));rintro e w4 ⟨v394,rfl,ho0,hi,hb,hk⟩;refine ⟨_,rfl,?_⟩;have HO395:=am (Kd.N_lower (Kd.N_mono (ok':=fun k_=>(w0.heap.size≤k_)∧k_ ≠ gb390∧k_ ≠ g) ho0 (fun k_ hk_=>⟨(Nat.le_trans (keep_size (w:=w0) (g:=g) (row:=none) D59) hk_),(yz BK390 k_ hk_),(IsS127.fresh (by repeat (first|(with_reducible first|exact HI0.out|apply IsS127.alloc|apply IsS127.drewN|apply IsS127.drew|apply IsS127.set_1|apply IsS127.set_2|refine IsS127.far ?_ NB0_390.out _)|exact HI0.out)) k_ hk_)⟩)) (keep_size (w:=w0) (g:=g) (row:=none) D59));replace BK390:=am (KeepBut.blk hk (g':=gb390) (o:=.cells #[.int .i64 0, .int .i64 0] 30 (0,0)) (yB BK390) NB390_0.out D43);replace HK:=am (KeepBut.trans D59 hk (.inl rfl));replace HB:=am (hb);replace HI0:=am (hi);clear hb hk hi ho0;have hnb5:=NB390_0.out;have hnc5:=NB0_390.out;obtain ⟨hcz6_0,hcz6_1,hfz6_0,hfz6_1⟩:=yk2 BK390))
 refine bodyPost_ret (results_ct rfl _ _ gb390 30 #[.int .i64 t391, .int .i64 t392] (0,0) _ rfl (by refine sB ?_;refine blk_put (cs:=#[.int .i64 t391, .int .i64 0]) ?_ 1 _ rfl;refine sB ?_;refine blk_put (cs:=#[.int .i64 0, .int .i64 0]) ?_ 0 _ rfl;exact yB BK390) Try.underlying30 rfl D5) rfl ?_
 exact ⟨_,D2,by refine sN ?_;exact Kd.N_mono (Kd.N_far (p:=⟨gb390,1,none⟩) (Kd.N_far (p:=⟨gb390,0,none⟩) (Kd.N_mono HO395.out (fun k_ hk=>(⟨hk,hk.2.1⟩:_∧k_ ≠ gb390))) (fun _ hk=>hk.2) (.int .i64 t391)) (fun _ hk=>hk.2) (.int .i64 t392)) (fun _ hk=>hk.1.1),by repeat (first|(with_reducible first|exact HB.out|apply pa|apply pb|apply pd|refine pt ?_ (IsS127.ge HI0.out)|refine pt ?_ GE390.out)|exact HB.out)⟩

def spec_l5Piece.f (a0_0:Int) (a0_1:Int) (a1_0:Int) (l1_1:List Int):Option (Bool):=(spec_l1In.f a1_0 0 (wrap64 (a0_0 - 1))).bind fun t457=>(if t457=true then (some ((l1_1.length:Int) == (wrap64 (a0_1 - 1)))) else (some false))
theorem spec_l5Piece.calls (a0_0:Int) (a0_1:Int) (a1_0:Int) (A1_1:Option Addr) (c1_1:Nat) (l1_1:List Int) (r:Bool) (w:World) (hr1_1:Kd.C (Kd.int .u8) w A1_1 l1_1.length l1_1) (hc1_1:l1_1.length≤c1_1) (h:spec_l5Piece.f a0_0 a0_1 a1_0 l1_1=some r) :
  Calls Try.prog 112 #[.agg #[.int .i64 a0_0, .int .i64 a0_1], .agg #[.int .i64 a1_0, .slice A1_1 l1_1.length c1_1]] w fun e w'=>e = .returned (.bool r)∧Below w.heap.size w w':=by
 have hu30:=Try.underlying30
 have hu76:=Try.underlying76
 have HR1_1:=am hr1_1
 have HC1_1:=am hc1_1
 clear hr1_1 hc1_1
 have HB:=am (Below.refl w.heap.size w)
 have H:=h
 unfold spec_l5Piece.f at H
 clear h
 obtain ⟨t457,A3,H⟩:=yo H
 by_cases c4:t457=true
 ·subst c4
  replace H:=yt H
  obtain rfl:=Option.some.inj H
  go_enter Try.func112,Try.ntmps112
  go_wp2_with (first|((with_reducible refine gD 2 ?_);(try (refine gate_guard D15 ?_;dsimp only));refine gB (cs:=#[.int .i64 a0_0, .int .i64 a0_1]) 30 ?_;intro gb455 hg w5 hbox hb;have BK455:=am (hbox);have GW455:=ye HB hg;replace HB:=yH HB hb;have GE455:=GW455;clear hb hbox hg)|((with_reducible refine gD 3 ?_);(try (refine gate_guard D15 ?_;dsimp only));refine gB (cs:=#[.int .i64 a1_0, .slice A1_1 l1_1.length c1_1]) 76 ?_;intro gb456 hg w6 hbox hb;have BK456:=am (hbox);have GW456:=ye HB hg;replace HB:=yH HB hb;have NB455_456:=yl BK455 hg;have NB456_455:=yg BK455 hg;replace BK455:=yb BK455 hb;have GE456:=GW456;clear hb hbox hg;have hnb7:=NB456_455.out;have hnc7:=NB455_456.out;obtain ⟨hcz8_0,hcz8_1,hfz8_0,hfz8_1⟩:=yk2 BK456;obtain ⟨hcz9_0,hcz9_1,hfz9_0,hfz9_1⟩:=yk2 BK455)|((with_reducible refine gC 84 ?_);refine gM (some 10) Try.func84 (args:=#[.int .i64 a1_0, .int .i64 0, .int .i64 (wrap64 (a0_0 - 1))]) (spec_l1In.calls a1_0 0 (wrap64 (a0_0 - 1)) true _ A3.out) ?_;rintro e w' ⟨rfl,⟨nd,rfl⟩⟩;refine ⟨_,rfl,?_⟩))
  go_ret
  exact ⟨D2,yW HB⟩
 replace c4:=Bool.eq_false_iff.mpr c4
 subst c4
 replace H:=yn H
 obtain rfl:=Option.some.inj H
 go_enter Try.func112,Try.ntmps112
 go_wp2_with (first|((with_reducible refine gD 2 ?_);(try (refine gate_guard D15 ?_;dsimp only));refine gB (cs:=#[.int .i64 a0_0, .int .i64 a0_1]) 30 ?_;intro gb455 hg w10 hbox hb;have BK455:=am (hbox);have GW455:=ye HB hg;replace HB:=yH HB hb;have GE455:=GW455;clear hb hbox hg)|((with_reducible refine gD 3 ?_);(try (refine gate_guard D15 ?_;dsimp only));refine gB (cs:=#[.int .i64 a1_0, .slice A1_1 l1_1.length c1_1]) 76 ?_;intro gb456 hg w11 hbox hb;have BK456:=am (hbox);have GW456:=ye HB hg;replace HB:=yH HB hb;have NB455_456:=yl BK455 hg;have NB456_455:=yg BK455 hg;replace BK455:=yb BK455 hb;have GE456:=GW456;clear hb hbox hg;have hnb12:=NB456_455.out;have hnc12:=NB455_456.out;obtain ⟨hcz13_0,hcz13_1,hfz13_0,hfz13_1⟩:=yk2 BK456;obtain ⟨hcz14_0,hcz14_1,hfz14_0,hfz14_1⟩:=yk2 BK455)|((with_reducible refine gC 84 ?_);refine gM (some 10) Try.func84 (args:=#[.int .i64 a1_0, .int .i64 0, .int .i64 (wrap64 (a0_0 - 1))]) (spec_l1In.calls a1_0 0 (wrap64 (a0_0 - 1)) false _ A3.out) ?_;rintro e w' ⟨rfl,⟨nd,rfl⟩⟩;refine ⟨_,rfl,?_⟩))
 go_ret
 exact ⟨D2,yW HB⟩

mutual
def spec_l5Unknowns.l0:Nat→Int→Int→List (List Int)→Int→Int→Int→Int→Option ((List (List Int)))
 | 0,_,_,_,_,_,_,_=>none
 | k+1,x1,x5,x6,x23,x24,x459000,x459001=>if x24 < x23 then (if 0≤x5 then (if (x5:Int).toNat≤281474976710656 then (if 0≤x24 then (if x24 < (x6.length:Int) then (spec_l5Unknowns.l0 k x1 x5 (x6.set (x24:Int).toNat (List.replicate (x5:Int).toNat 0)) x23 (wrap64 (x24+1)) x459000 x459001) else (none)) else (none)) else (none)) else (none)) else (spec_l5Unknowns.l1 k x1 x5 x6 0 x459000 x459001)
def spec_l5Unknowns.l1:Nat→Int→Int→List (List Int)→Int→Int→Int→Option ((List (List Int)))
 | 0,_,_,_,_,_,_=>none
 | k+1,x1,x5,x6,x8,x459000,x459001=>if x8 < x5 then (if 0≤x5 then (if (x5:Int).toNat≤281474976710656 then ((some (List.replicate (x5:Int).toNat 0:List Int)).bind fun y466=>(if 0≤x8 then (if x8 < (y466.length:Int) then ((spec_l5Message.f k x459000 x459001 (y466.set (x8:Int).toNat 1)).bind fun t470=>((spec_l2Transposed.f k t470).bind fun t473=>((spec_l5Row.f k x459000 x459001 x1).bind fun t476=>((spec_l2Apply.f k t473 t476).bind fun t479=>(spec_l5Unknowns.l2 k x1 x5 x6 x8 t479 (t479.length:Int) 0 x459000 x459001))))) else (none)) else (none))) else (none)) else (none)) else (some x6)
def spec_l5Unknowns.l2:Nat→Int→Int→List (List Int)→Int→List Int→Int→Int→Int→Int→Option ((List (List Int)))
 | 0,_,_,_,_,_,_,_,_,_=>none
 | k+1,x1,x5,x6,x8,x50,x51,x52,x459000,x459001=>if x52 < x51 then (if 0≤x52 then (if x52 < (x50.length:Int) then (if x52 < (x6.length:Int) then (if 0≤x8 then (if x8 < ((rd_L3 x6 x52).length:Int) then (spec_l5Unknowns.l2 k x1 x5 (x6.set (x52:Int).toNat ((rd_L3 x6 x52).set (x8:Int).toNat (rd x50 x52))) x8 x50 x51 (wrap64 (x52+1)) x459000 x459001) else (none)) else (none)) else (none)) else (none)) else (none)) else (spec_l5Unknowns.l1 k x1 x5 x6 (wrap64 (x8+1)) x459000 x459001)
end
def spec_l5Unknowns.f (k:Nat) (a0_0:Int) (a0_1:Int) (a1:Int):Option ((List (List Int))):=if 0≤(wrap64 (a0_1 - 1)) then (if (wrap64 (a0_1 - 1):Int).toNat≤11728124029610 then ((some (List.replicate (wrap64 (a0_1 - 1):Int).toNat []:List (List Int))).bind fun y459=>(spec_l5Unknowns.l0 k a1 (wrap64 (a0_1*(wrap64 (a0_1 - 1)))) y459 (y459.length:Int) 0 a0_0 a0_1)) else (none)) else (none)
theorem spec_l5Unknowns.mono_l:∀ k,(∀ y0 y1 y2 y3 y4 y5 y6,LeO (spec_l5Unknowns.l0 k y0 y1 y2 y3 y4 y5 y6) (spec_l5Unknowns.l0 (k+1) y0 y1 y2 y3 y4 y5 y6))∧(∀ y0 y1 y2 y3 y4 y5,LeO (spec_l5Unknowns.l1 k y0 y1 y2 y3 y4 y5) (spec_l5Unknowns.l1 (k+1) y0 y1 y2 y3 y4 y5))∧(∀ y0 y1 y2 y3 y4 y5 y6 y7 y8,LeO (spec_l5Unknowns.l2 k y0 y1 y2 y3 y4 y5 y6 y7 y8) (spec_l5Unknowns.l2 (k+1) y0 y1 y2 y3 y4 y5 y6 y7 y8))
 | 0=>⟨fun _ _ _ _ _ _ _ r h=>by simp [spec_l5Unknowns.l0] at h,fun _ _ _ _ _ _ r h=>by simp [spec_l5Unknowns.l1] at h,fun _ _ _ _ _ _ _ _ _ r h=>by simp [spec_l5Unknowns.l2] at h⟩
 | k+1=>by
  obtain ⟨ih0,ih1,ih2⟩:=spec_l5Unknowns.mono_l k
  refine ⟨?_,?_,?_⟩
  ·intro y0 y1 y2 y3 y4 y5 y6
   unfold spec_l5Unknowns.l0
   exact mm
  ·intro y0 y1 y2 y3 y4 y5
   unfold spec_l5Unknowns.l1
   exact mm
  intro y0 y1 y2 y3 y4 y5 y6 y7 y8
  unfold spec_l5Unknowns.l2
  exact mm
theorem spec_l5Unknowns.mono:∀ a0 a1 a2 k,LeO (spec_l5Unknowns.f k a0 a1 a2) (spec_l5Unknowns.f (k+1) a0 a1 a2):=by
 intro a0 a1 a2 k
 obtain ⟨ih0,ih1,ih2⟩:=spec_l5Unknowns.mono_l k
 unfold spec_l5Unknowns.f
 exact mm
def spec_l5Unknowns.T13:Bool × List (List Nat × List Nat):=(true,[([],[]),([],[]),([0,1],[0,1]),([2,2],[2]),([],[]),([],[]),([4,5,3],[4,5]),([3,6,6],[3,6]),([7],[7]),([],[])])
def spec_l5Unknowns.B13:List Nat:=[0,0,3,7,0,0,63,127,255,0]
theorem spec_l5Unknowns.tab13:rtab .any (opsOf Try.f113 13)=spec_l5Unknowns.T13:=by kernel_rfl
theorem spec_l5Unknowns.bits13:waitsOk spec_l5Unknowns.T13.2 spec_l5Unknowns.B13=true:=by kernel_rfl
theorem spec_l5Unknowns.calls (k:Nat) (a0_0:Int) (a0_1:Int) (a1:Int) (r:List (List Int)) (w:World) (h:spec_l5Unknowns.f k a0_0 a0_1 a1=some r) :
  Calls Try.prog 113 #[.agg #[.int .i64 a0_0, .int .i64 a0_1], .int .i64 a1] w fun e w'=>∃ v0_:Value,e = .returned (v0_)∧Kd.S (Kd.slice 5 (Kd.int .u8)) 24 w' w.heap.size (fun _=>True) v0_ r∧Below w.heap.size w w':=by
 have hu30:=Try.underlying30
 have HB:=am (Below.refl w.heap.size w)
 have H:=h
 unfold spec_l5Unknowns.f at H
 clear h
 generalize hji3:(wrap64 (a0_1 - 1))=ji3 at H
 have hji3w:(IntKind.i64.wrap (a0_1 - 1))=ji3:=(i64_w _).trans hji3
 by_cases c4:0≤(ji3)
 ·rw [if_pos c4] at H
  have c4b0:=eq_true c4
  have c4b1:decide (0≤(ji3))=true:=decide_eq_true c4
  clear c4
  obtain ⟨c5,H⟩:=yi H
  have c5b0:=eq_true c5
  have c5b1:decide ((ji3:Int).toNat≤11728124029610)=true:=decide_eq_true c5
  clear c5
  obtain ⟨y459,hy459,H⟩:=ys H
  have Ny459:=am hy459
  clear hy459
  have H':=am H
  clear H
  go_enter Try.func113,Try.ntmps113
  go_wp2_with (first|((with_reducible refine gD 2 ?_);refine gB (cs:=#[.int .i64 a0_0, .int .i64 a0_1]) 30 ?_;intro gb458 hg w6 hbox hb;have BK458:=am (hbox);have GW458:=ye HB hg;replace HB:=yH HB hb;have GE458:=GW458;clear hb hbox hg;obtain ⟨hcz7_0,hcz7_1,hfz7_0,hfz7_1⟩:=yk2 BK458)|((with_reducible refine gD 21 ?_);refine Kd.S_make (Kd.slice 5 (Kd.int .u8)) _ 24 rfl (N:=21) rfl 25 _ _ rfl ji3 rfl rfl Try.underlying25 (.slice none 0 0) 24 info24 rfl D8 D11 [] (ok:=fun _=>True) (okp:=fun _=>True) ⟨_,rfl,Kd.R_nil _ _ _ _ _⟩ (fun _ hk=>hk) trivial (od D0) (Nat.le_trans (Nat.mul_le_mul_right _ (od D0:ji3.toNat≤11728124029610)) D11) (Below.refl _ _) (Nat.le_refl _) ?_;intro v460 w8 ho9 hb hg_ hnew_;clear hg_ hnew_;(first|rw [← Ny459.out] at ho9|(simp only [Int.reduceToNat] at ho9;rw [← Ny459.out] at ho9));have HO461:=am (Kd.S_lower ho9 (pz (yW HB)));replace BK458:=yb BK458 hb;replace HB:=yH HB hb;clear hb ho9;obtain ⟨Ao10,co10,eo10⟩:=Kd.S_slice HO461.out;subst eo10))
  go_loopg [24] k (fun kq v24 w'=>∃ (x6_1:List (List Int)) (x24_1:Int),v24 = .int .i64 x24_1∧Aside0 (spec_l5Unknowns.l0 kq a1 (wrap64 (a0_1*(ji3))) x6_1 (y459.length:Int) x24_1 a0_0 a0_1=some r)∧Aside0 (kq≤k)∧Aside0 (Kd.S (Kd.slice 5 (Kd.int .u8)) 24 w' w.heap.size (fun _=>True) (.slice Ao10 y459.length co10) x6_1)∧Aside0 (w'.heap[gb458]? = some (.cells #[.int .i64 a0_0, .int .i64 a0_1] 30 (0,0)))∧Aside0 (Below w.heap.size w w'))
  case atStart=>exact ⟨(y459),(0),D1,H',⟨Nat.le_refl _⟩,⟨yS HO461⟩,⟨yB BK458⟩,⟨yW HB⟩⟩
  case round =>
   clear H'
   try clear c1
   try clear p2
   try clear c4
   try clear c4b0
   try clear c4b1
   try clear c5
   try clear c5b0
   try clear c5b1
   try clear p6
   try clear hcz7_0
   try clear hcz7_1
   try clear hfz7_0
   try clear hfz7_1
   obtain ⟨x6_1,x24_1,rfl,HA,HK1,HO_6,BK458,HB⟩:=hrel
   have hl6_1:=(Kd.S_reads' HO_6.out).1
   rw [hl6_1] at HO_6
   (try simp only [hl6_1])
   (try simp only [hl6_1] at BK458)
   cases gk with
   | zero=>exact absurd HA.out (by simp [spec_l5Unknowns.l0])
   | succ k1 =>
    have H:=HA.out
    clear HA
    simp only [spec_l5Unknowns.l0] at H
    by_cases c11:x24_1 < (y459.length:Int)
    ·rw [if_pos c11] at H
     have c11b0:=decide_eq_true c11
     clear c11
     generalize hji12:(wrap64 (a0_1*(ji3)))=ji12 at H
     have hji12w:(IntKind.i64.wrap (a0_1*(ji3)))=ji12:=(i64_w _).trans hji12
     obtain ⟨c13,H⟩:=yi H
     have c13b0:=eq_true c13
     have c13b1:decide (0≤(ji12))=true:=decide_eq_true c13
     clear c13
     obtain ⟨c14,H⟩:=yi H
     have c14b0:=eq_true c14
     have c14b1:decide (((ji12):Int).toNat≤281474976710656)=true:=decide_eq_true c14
     clear c14
     generalize hy462:(List.replicate ((ji12):Int).toNat 0:List Int)=y462 at H
     have Ny462:=am hy462.symm
     clear hy462
     obtain ⟨c15,H⟩:=yi H
     have c15b0:=decide_eq_true c15
     clear c15
     obtain ⟨c16,H⟩:=yi H
     have c16b0:=decide_eq_true c16
     clear c16
     generalize hy465:(x6_1.set (x24_1:Int).toNat y462:List (List Int))=y465 at H
     have Ny465:=am hy465.symm
     clear hy465
     have H':=am H
     clear H
     go_wp2_with (first|((with_reducible refine gD 30 ?_);refine Kd.R_make (Kd.int .u8) _ 5 rfl (N:=30) rfl 24 _ _ rfl (ji12) (by first|rfl|exact congrArg (Value.int .i64) hji12) (by first|rfl|exact congrArg (Value.int .i64) hji12) Try.underlying24 (.int .u8 0) 1 info5 rfl D8 D11 0 (ok:=fun _=>True) (okp:=fun _=>True) rfl (fun _ hk=>hk) trivial (od D0) (Nat.le_trans (Nat.mul_le_mul_right _ (od D0:(ji12).toNat≤281474976710656)) D11) (Below.refl _ _) (Nat.le_refl _) ?_;intro v463 w18 ho19 hb hg_ hnew_;clear hg_ hnew_;(first|rw [← Ny462.out] at ho19|(simp only [Int.reduceToNat] at ho19;rw [← Ny462.out] at ho19));replace HO_6:=eS HO_6 (Kd.R_base ho19) hb;have HO464:=am (Kd.R_lower ho19 (pz (yW HB)));replace BK458:=yb BK458 hb;replace HB:=yH HB hb;clear hb ho19;obtain ⟨Ao463,co463,rfl⟩:=Kd.R_slice HO464.out;have p17:0≤(x24_1:Int):=od D0;have q17:(x24_1:Int) < ((x6_1.length:Int):Int):=od D0;obtain ⟨go17,co17,eo17,gb17,gl17,cl17,HG17⟩:=Kd.S_form HO_6.out D11;(first|cases eo17|(injection eo17 with ea_ en_ ec_;(first|subst ea_|(injection ea_ with ea_;subst ea_));subst ec_;clear en_));have GB17:=am gb17;have GG17:=am HG17;clear gb17 gl17 HG17;obtain ⟨_,ce17,hcl17,hM17,hcc17,hfr17,_,_⟩:=Kd.S_elem HO_6.out [] (x24_1:Int) p17 q17;obtain ⟨ve17_0,rfl,ge17_0⟩:=hM17;have hx17_0:=hcc17 0 _ rfl;have hf17_0:=hfr17 0;(try simp only [show ((Kd.slice 5 (Kd.int .u8))).sz=1 from rfl,Nat.mul_one,Nat.add_zero] at hx17_0);(try simp only [show ((Kd.slice 5 (Kd.int .u8))).sz=1 from rfl,Nat.mul_one,Nat.add_zero] at hf17_0);clear hcl17 hcc17 hfr17;(try clear hM17);replace p17:=eq_true p17;replace q17:=eq_true q17;have n_:=am (Kd.S_mono (ok':=(fun k_=>some k_ ≠ ((.slice Ao463 y462.length co463):Value).ownBlock)) HO_6.out (fun k_ hk=>hk.2));clear HO_6;have HO_6:=n_;clear n_;have HX20:=am (show Kd.S (Kd.slice 5 (Kd.int .u8)) 24 w18 w.heap.size (fun k_=>((fun _=>True)) k_∧¬ ((fun k_=>some k_=((.slice Ao463 y462.length co463):Value).ownBlock)) k_) (.slice (some ⟨go17,0,none⟩) x6_1.length co10) x6_1 from (by refine sS ?_;exact Kd.S_mono HO_6.out (fun k_ hk=>⟨trivial,fun e_=>hk e_⟩)));obtain ⟨oki20,ce20,hcl20,hM20,hcc20,hfr20,hoki20,hH20⟩:=Kd.S_elem HX20.out [] (x24_1:Int) (od D0) (by have h_:(x24_1:Int) < ((x6_1.length:Int):Int):=od D0;first|exact h_|(have e_:=(Kd.S_reads' HO_6.out).1;omega)|simpa using h_);obtain ⟨ve20_0,rfl,ge20_0⟩:=hM20;have HP20:=Kd.S_seg hH20 (od D0) (by have h_:(x24_1:Int) < ((x6_1.length:Int):Int):=od D0;first|exact h_|(have e_:=(Kd.S_reads' HO_6.out).1;omega)|simpa using h_) (seg:=[(.slice Ao463 y462.length co463)]) (j:=0) (show 1≤1 from by decide) (x':=y462) (Kd.M_row (Kd.R_mono (Kd.R_tight rfl (Kd.R_mono (ok':=fun k_=>((fun _=>True)) k_∧k_ ≠ go17) (Kd.R_apart' (HO464.out) (Kd.S_typed HO_6.out) D8) (fun k_ hk=>⟨trivial,fun e_=>(hk.2) D97⟩))) (fun _ h_=>Or.inr (h_)))) (fun _ hk=>hk) (fun k_ hk_=>((Kd.R_mono (ok':=fun k_=>((fun _=>True)) k_∧k_ ≠ go17) (Kd.R_apart' (HO464.out) (Kd.S_typed HO_6.out) D8) (fun k_ hk=>⟨trivial,fun e_=>(hk.2) D97⟩))).1 k_ hk_.symm);have hx20_0:=hcc20 0 _ rfl;(try simp only [show ((Kd.slice 5 (Kd.int .u8))).sz=1 from rfl,Nat.mul_one,Nat.add_zero] at hx20_0);have hf20_0:=hfr20 0;(try simp only [show ((Kd.slice 5 (Kd.int .u8))).sz=1 from rfl,Nat.mul_one,Nat.add_zero] at hf20_0);clear hcl20 hcc20 hfr20 hoki20 hH20;(try clear hM20);(try simp only [show ((Kd.slice 5 (Kd.int .u8))).sz=1 from rfl,Nat.mul_one,Nat.add_zero] at HP20))|((with_reducible refine gate_store (t:=24) (p:=31) rfl ?_);refine store_event (t:=24) (p:=31) (v:=?vo_w21) (w1:=(w18.setCell ⟨go17,(x24_1:Int).toNat,none⟩ ((.slice Ao463 y462.length co463)))) ?hg ?ho ?hn ?hr ?_;(case ho=>rfl);(case hg=>rfl);(case hn=>rfl);(case hr=>first|(go_simp;done)|(go_simp;rfl));intro w21 hw;have hg:w18.grownBy w21 (some go17):=(by rw [hw];exact HP20.2);have hp_:Kd.S (Kd.slice 5 (Kd.int .u8)) 24 w21 w.heap.size (fun _=>True) (.slice (some ⟨go17,0,none⟩) x6_1.length co10) y465:=(by rw [hw,Ny465.out];exact HP20.1);clear HP20;have n0_:=am (hp_);have n1_:=am (blk_grown (g:=gb458) (o:=.cells #[.int .i64 a0_0, .int .i64 a0_1] 30 (0,0)) (yB BK458) hg (Kd.S_ne HO_6.out BK458.out D8));have n2_:=am ((by rw [hw];exact pt (HB.out) GB17.out:Below w.heap.size w w21));clear HO_6 BK458 HB HO464;have HO_6:=n0_;have BK458:=n1_;have HB:=n2_;clear n0_ n1_ n2_ hg hw hp_))
     (try simp only [← hl6_1])
     (try simp only [← hji12])
     go_roundg k1
     case measure=>have:=HK1.out;omega
     case rel=>exact ⟨(y465),(wrap64 (x24_1+1)),D1,⟨by have h_:=H'.out;rw [← hji12] at h_;exact h_⟩,⟨D34⟩,⟨by (try simp only [hl6_1]);refine sS ?_;exact HO_6.out⟩,⟨by (try simp only [hl6_1]);exact yB BK458⟩,⟨yW HB⟩⟩
    rw [if_neg c11] at H
    have c11b0:=decide_eq_false c11
    (try simp only [hl6_1] at c11b0)
    clear c11
    have H':=am H
    clear H
    go_wp2
    go_loopg [8] k1 (fun kq v8 w'=>∃ (x6_2:List (List Int)) (x8_2:Int),v8 = .int .i64 x8_2∧Aside0 (spec_l5Unknowns.l1 kq a1 (wrap64 (a0_1*(ji3))) x6_2 x8_2 a0_0 a0_1=some r)∧Aside0 (kq≤k1)∧Aside0 (Kd.S (Kd.slice 5 (Kd.int .u8)) 24 w' w.heap.size (fun _=>True) (.slice Ao10 x6_1.length co10) x6_2)∧Aside0 (w'.heap[gb458]? = some (.cells #[.int .i64 a0_0, .int .i64 a0_1] 30 (0,0)))∧Aside0 (Below w.heap.size w w'))
    case atStart=>exact ⟨(x6_1),(0),D1,H',⟨Nat.le_refl _⟩,⟨by (try simp only [hl6_1]);refine sS ?_;exact HO_6.out⟩,⟨by (try simp only [hl6_1]);exact yB BK458⟩,⟨yW HB⟩⟩
    case round =>
     clear H'
     try clear c1
     try clear p1
     try clear q1
     try clear hx1
     try clear c2
     try clear p2
     try clear hx2
     try clear hf2
     try clear c4
     try clear c4b0
     try clear c4b1
     try clear c5
     try clear c5b0
     try clear c5b1
     try clear p6
     try clear c11
     try clear c11b0
     try clear c13
     try clear c13b0
     try clear c13b1
     try clear c14
     try clear c14b0
     try clear c14b1
     try clear c15
     try clear c15b0
     try clear c16
     try clear c16b0
     try clear c17
     try clear p17
     try clear q17
     try clear hx17
     try clear hf17
     try clear c20
     try clear hx20
     try clear hf20
     try clear hcz7_0
     try clear hcz7_1
     try clear hfz7_0
     try clear hfz7_1
     try clear hx17_0
     try clear hx20_0
     try clear p17
     try clear p2
     try clear p6
     try clear q17
     obtain ⟨x6_2,x8_2,rfl,HA,HK2,HO_6,BK458,HB⟩:=hrel
     have hl6_2:=(Kd.S_reads' HO_6.out).1
     rw [hl6_2] at HO_6
     (try simp only [hl6_2])
     (try simp only [hl6_2] at BK458)
     cases gk with
     | zero=>exact absurd HA.out (by simp [spec_l5Unknowns.l1])
     | succ k2 =>
      have H:=HA.out
      clear HA
      simp only [spec_l5Unknowns.l1] at H
      by_cases c22:x8_2 < (wrap64 (a0_1*(ji3)))
      ·rw [if_pos c22] at H
       have c22b0:=decide_eq_true c22
       clear c22
       generalize hji23:(wrap64 (a0_1*(ji3)))=ji23 at H
       (try rw [hji23] at c22b0)
       have hji23w:(IntKind.i64.wrap (a0_1*(ji3)))=ji23:=(i64_w _).trans hji23
       obtain ⟨c24,H⟩:=yi H
       have c24b0:=eq_true c24
       have c24b1:decide (0≤(ji23))=true:=decide_eq_true c24
       clear c24
       obtain ⟨c25,H⟩:=yi H
       have c25b0:=eq_true c25
       have c25b1:decide (((ji23):Int).toNat≤281474976710656)=true:=decide_eq_true c25
       clear c25
       obtain ⟨y466,hy466,H⟩:=ys H
       have Ny466:=am hy466
       clear hy466
       obtain ⟨c26,H⟩:=yi H
       have c26b0:=decide_eq_true c26
       clear c26
       obtain ⟨c27,H⟩:=yi H
       have c27b0:=decide_eq_true c27
       clear c27
       generalize hy469:(y466.set (x8_2:Int).toNat 1:List Int)=y469 at H
       have Ny469:=am hy469.symm
       clear hy469
       obtain ⟨t470,A29,H⟩:=yo H
       obtain ⟨t473,A30,H⟩:=yo H
       obtain ⟨t476,A31,H⟩:=yo H
       obtain ⟨t479,A32,H⟩:=yo H
       have H':=am H
       clear H
       try go_wp2_with (first|((with_reducible refine gD 39 ?_);refine Kd.R_make (Kd.int .u8) _ 5 rfl (N:=39) rfl 24 _ _ rfl (ji23) (by first|rfl|exact congrArg (Value.int .i64) hji23) (by first|rfl|exact congrArg (Value.int .i64) hji23) Try.underlying24 (.int .u8 0) 1 info5 rfl D8 D11 0 (ok:=fun _=>True) (okp:=fun _=>True) rfl (fun _ hk=>hk) trivial (od D0) (Nat.le_trans (Nat.mul_le_mul_right _ (od D0:(ji23).toNat≤281474976710656)) D11) (Below.refl _ _) (Nat.le_refl _) ?_;intro v467 w33 ho34 hb hg_ hnew_;clear hg_ hnew_;(first|rw [← Ny466.out] at ho34|(simp only [Int.reduceToNat] at ho34;rw [← Ny466.out] at ho34));replace HO_6:=eS HO_6 (Kd.R_base ho34) hb;have HO468:=am (Kd.R_lower ho34 (pz (yW HB)));replace BK458:=yb BK458 hb;replace HB:=yH HB hb;clear hb ho34;have p28:0≤(x8_2:Int):=od D0;have q28:(x8_2:Int) < ((y466.length:Int):Int):=od D0;obtain ⟨go28,co28,eo28,gb28,gl28,cl28,HG28⟩:=Kd.R_form HO468.out D11;(first|cases eo28|(injection eo28 with ea_ en_ ec_;(first|subst ea_|(injection ea_ with ea_;subst ea_));subst ec_;clear en_));have GB28:=am gb28;have GG28:=am HG28;clear gb28 gl28 HG28;obtain ⟨hx28_0,hf28_0⟩:=Kd.R_celln 0 HO468.out (x8_2:Int) p28 q28;replace p28:=eq_true p28;replace q28:=eq_true q28;obtain ⟨hy35_,hz35_⟩:=Kd.R_celln 0 HO468.out (x8_2:Int) (od D0) (od D0);have HP35:=Kd.R_putg HO468.out (x8_2:Int) 1)|((with_reducible refine gate_store (t:=5) (p:=42) rfl ?_);refine store_event (t:=5) (p:=42) (v:=?vo_w36) (w1:=(w33.setCell ⟨go28,(x8_2:Int).toNat,none⟩ (.int .u8 1))) ?hg ?ho ?hn ?hr ?_;(case ho=>rfl);(case hg=>rfl);(case hn=>rfl);(case hr=>first|(go_simp;done)|(go_simp;rfl));intro w36 hw;have hg:w33.grownBy w36 (some go28):=(by rw [hw];exact HP35.2);have hp_:Kd.R (Kd.int .u8) 5 w36 w.heap.size (fun _=>True) (.slice (some ⟨go28,0,none⟩) y466.length co28) y469:=(by rw [hw,Ny469.out];exact HP35.1);clear HP35;replace HO_6:=am (Kd.S_after (v:=(.slice (some ⟨go28,0,none⟩) y466.length co28)) (v1:=(.slice (some ⟨go28,0,none⟩) y466.length co28)) (ok:=(fun _=>True)) (yS HO_6) hg (.inl rfl));replace BK458:=am (blk_grown (g:=gb458) (o:=.cells #[.int .i64 a0_0, .int .i64 a0_1] 30 (0,0)) (yB BK458) hg (Kd.R_ne HO468.out BK458.out D8));replace HO468:=am (hp_);replace HB:=am ((by rw [hw];exact pt (HB.out) GB28.out:Below w.heap.size w w36));clear hg hw hp_))
       replace HO_6:=am (Kd.S_drew HO_6.out)
       replace HO468:=am (Kd.R_drew HO468.out)
       replace BK458:=am (qd BK458.out)
       replace HB:=am (pd HB.out)
       refine rS (n:=10) (S:=fun w'=>w'.cell? ⟨gb458,0,none⟩=some (.int .i64 a0_0)∧w'.cell? ⟨gb458,1,none⟩=some (.int .i64 a0_1)) (ds:=[]) [(1,44),(5,48),(9,52),(0,43),(4,47),(2,0),(3,0),(6,0),(7,0),(8,51)] D5 rfl spec_l5Unknowns.tab13 spec_l5Unknowns.bits13 ⟨yk BK458 0,yk BK458 1⟩ (fun hHeld HT_ HW_=>?_)
       generalize w36.drew=w37 at HO_6 HO468 BK458 HB hHeld ⊢
       refine rR ?_
       refine rO (N:=some 45) HT_ rfl rfl D5 D8 (fun K hK=>?_)
       refine goes_ Try.func58 D5 rfl #[.agg #[.int .i64 a0_0, .int .i64 a0_1], .slice (some ⟨go28,0,none⟩) y469.length co28] D15 rfl rfl (by (try simp only [q4,q5,q6]);first|done|(rw [show y469.length=y466.length from (Kd.R_reads' HO468.out).1.symm] <;> rfl)|rfl|(simp only [q7,q8];rfl)) ?_
       with_reducible refine (spec_l5Message.calls k2 a0_0 a0_1 _ _ y469 t470 _ ?side1 ?side2 A29.out).mono ?_
       (case side1=>repeat (first|exact (Kd.R_reads' HO468.out).2.2|(with_reducible refine Kd.C_alloc ?_ _)|(with_reducible refine Kd.C_drewN ?_ _)|(with_reducible refine Kd.C_drew ?_)))
       (case side2=>rw [show y469.length=y466.length from (Kd.R_reads' HO468.out).1.symm];exact (Kd.R_reads' HO468.out).2.1)
       rintro e w38 ⟨v471,rfl,ho0,hb⟩
       refine ⟨_,rfl,?_⟩
       have HO472:=am (Kd.S_lower (Kd.S_new' (Kd.S_new' ho0 (Kd.S_lt (yS HO_6))) (Kd.R_lt (yR HO468))) (pz (yW HB)))
       replace HO_6:=eS HO_6 (Kd.S_base ho0) hb
       replace HO468:=bR HO468 hb
       replace BK458:=yb BK458 hb
       replace HB:=yH HB hb
       (try clear hb)
       (try clear hb2)
       (try clear hk)
       (try clear hi)
       (try clear ho0)
       obtain ⟨Ao39,co39,eo39⟩:=Kd.S_slice HO472.out
       (first|subst eo39|(injection eo39 with f1_ f2_ f3_;have f4_:=f1_.symm;have f5_:=f3_.symm;clear f1_ f2_ f3_;subst f4_;subst f5_))
       refine hK.out _ _ ⟨yk BK458 0,yk BK458 1⟩ (fun hHeld=>?_)
       clear hK K
       refine rN (nA 45) ?_
       refine rO (N:=some 46) HT_ rfl rfl D5 D8 (fun K hK=>?_)
       refine goes_ Try.func126 D5 rfl #[.agg #[.slice Ao39 t470.length co39]] D15 rfl rfl D10 ?_
       with_reducible refine (spec_l2Transposed.calls k2 _ _ t470 t473 _ (yc (Kd.S_reads' HO472.out).2.2) (Kd.S_reads' HO472.out).2.1 A30.out).mono ?_
       rintro e w40 ⟨v474,rfl,ho0,hb⟩
       refine ⟨_,rfl,?_⟩
       have HO475:=am (Kd.S_lower (Kd.S_new' (Kd.S_new' (Kd.S_new' ho0 (Kd.S_lt (yS HO_6))) (Kd.R_lt (yR HO468))) (Kd.S_lt (yS HO472))) (pz (yW HB)))
       replace HO_6:=eS HO_6 (Kd.S_base ho0) hb
       replace HO468:=bR HO468 hb
       replace HO472:=eS HO472 (Kd.S_base ho0) hb
       replace BK458:=yb BK458 hb
       replace HB:=yH HB hb
       (try clear hb)
       (try clear hb2)
       (try clear hk)
       (try clear hi)
       (try clear ho0)
       refine hK.out _ _ ⟨yk BK458 0,yk BK458 1⟩ (fun hHeld=>?_)
       clear hK K
       refine rN (nA 46) ?_
       refine rO (N:=some 49) HT_ rfl rfl D5 D8 (fun K hK=>?_)
       refine goes_ Try.func121 D5 rfl #[.agg #[.int .i64 a0_0, .int .i64 a0_1], .int .i64 a1] D15 rfl rfl D10 ?_
       with_reducible refine (spec_l5Row.calls k2 a0_0 a0_1 a1 t476 _ A31.out).mono ?_
       rintro e w41 ⟨v477,rfl,ho0,hb⟩
       refine ⟨_,rfl,?_⟩
       replace HO_6:=eS HO_6 (Kd.R_base ho0) hb
       replace HO472:=eS HO472 (Kd.R_base ho0) hb
       replace HO475:=eS HO475 (Kd.R_base ho0) hb
       have HO478:=am (Kd.R_lower (Kd.R_new' ho0 (Kd.R_lt (yR HO468))) (pz (yW HB)))
       replace HO468:=eR HO468 (Kd.R_base ho0) hb
       replace BK458:=yb BK458 hb
       replace HB:=yH HB hb
       (try clear hb)
       (try clear hb2)
       (try clear hk)
       (try clear hi)
       (try clear ho0)
       obtain ⟨Ao42,co42,eo42⟩:=Kd.S_slice HO475.out
       (first|subst eo42|(injection eo42 with f1_ f2_ f3_;have f4_:=f1_.symm;have f5_:=f3_.symm;clear f1_ f2_ f3_;subst f4_;subst f5_))
       obtain ⟨Ao43,co43,eo43⟩:=Kd.R_slice HO478.out
       (first|subst eo43|(injection eo43 with f1_ f2_ f3_;have f4_:=f1_.symm;have f5_:=f3_.symm;clear f1_ f2_ f3_;subst f4_;subst f5_))
       refine hK.out _ _ ⟨yk BK458 0,yk BK458 1⟩ (fun hHeld=>?_)
       clear hK K
       refine rN (nA 49) ?_
       refine rO (N:=some 50) HT_ rfl rfl D5 D8 (fun K hK=>?_)
       refine goes_ Try.func115 D5 rfl #[.agg #[.slice Ao42 t473.length co42], .slice Ao43 t476.length co43] D15 rfl rfl D10 ?_
       with_reducible refine (spec_l2Apply.calls k2 _ _ t473 _ _ t476 t479 _ (yc (Kd.S_reads' HO475.out).2.2) (Kd.S_reads' HO475.out).2.1 (yc (Kd.R_reads' HO478.out).2.2) (Kd.R_reads' HO478.out).2.1 A32.out).mono ?_
       rintro e w44 ⟨v480,rfl,ho0,hb⟩
       refine ⟨_,rfl,?_⟩
       replace HO_6:=eS HO_6 (Kd.R_base ho0) hb
       replace HO472:=eS HO472 (Kd.R_base ho0) hb
       replace HO475:=eS HO475 (Kd.R_base ho0) hb
       have HO481:=am (Kd.R_lower (Kd.R_new' (Kd.R_new' ho0 (Kd.R_lt (yR HO468))) (Kd.R_lt (yR HO478))) (pz (yW HB)))
       replace HO468:=eR HO468 (Kd.R_base ho0) hb
       replace HO478:=eR HO478 (Kd.R_base ho0) hb
       replace BK458:=yb BK458 hb
       replace HB:=yH HB hb
       (try clear hb)
       (try clear hb2)
       (try clear hk)
       (try clear hi)
       (try clear ho0)
       obtain ⟨Ao45,co45,eo45⟩:=Kd.R_slice HO481.out
       (first|subst eo45|(injection eo45 with f1_ f2_ f3_;have f4_:=f1_.symm;have f5_:=f3_.symm;clear f1_ f2_ f3_;subst f4_;subst f5_))
       refine hK.out _ _ ⟨yk BK458 0,yk BK458 1⟩ (fun hHeld=>?_)
       clear hK K
       refine rN (nA 50) ?_
       refine rR ?_
       refine rD HT_ D5 ?_
       try go_wp2
       go_loopg [52] k2 (fun kq v52 w'=>∃ (x6_3:List (List Int)) (x50_3:List Int) (x52_3:Int),v52 = .int .i64 x52_3∧Aside0 (spec_l5Unknowns.l2 kq a1 (ji23) x6_3 x8_2 x50_3 (t479.length:Int) x52_3 a0_0 a0_1=some r)∧Aside0 (kq≤k2)∧Aside0 (Kd.S (Kd.slice 5 (Kd.int .u8)) 24 w' w.heap.size (fun k_=>some k_ ≠ ((.slice Ao45 t479.length co45):Value).ownBlock) (.slice Ao10 x6_2.length co10) x6_3)∧Aside0 (Kd.R (Kd.int .u8) 5 w' w.heap.size (fun _=>True) (.slice Ao45 t479.length co45) x50_3)∧Aside0 (w'.heap[gb458]? = some (.cells #[.int .i64 a0_0, .int .i64 a0_1] 30 (0,0)))∧Aside0 (Below w.heap.size w w'))
       case atStart=>exact ⟨(x6_2),(t479),(0),D1,H',⟨Nat.le_refl _⟩,⟨by (try simp only [hl6_1]);(try simp only [hl6_2]);refine sS ?_;exact Kd.S_mono HO_6.out (fun _ hk=>hk.2)⟩,⟨by (try simp only [hl6_1]);(try simp only [hl6_2]);refine sR ?_;exact Kd.R_mono HO481.out (fun _ hk=>trivial)⟩,⟨by (try simp only [hl6_1]);(try simp only [hl6_2]);exact yB BK458⟩,⟨yW HB⟩⟩
       case round =>
        clear H'
        try clear c1
        try clear p1
        try clear q1
        try clear hx1
        try clear c2
        try clear p2
        try clear q2
        try clear hx2
        try clear hf2
        try clear c4
        try clear c4b0
        try clear c4b1
        try clear c5
        try clear c5b0
        try clear c5b1
        try clear p6
        try clear c11
        try clear c11b0
        try clear c12
        try clear c13
        try clear c13b0
        try clear c13b1
        try clear c14
        try clear c14b0
        try clear c14b1
        try clear c15
        try clear c15b0
        try clear c16
        try clear c16b0
        try clear c17
        try clear p17
        try clear q17
        try clear hx17
        try clear hf17
        try clear c20
        try clear hx20
        try clear hf20
        try clear c22
        try clear c22b0
        try clear c24
        try clear c24b0
        try clear c24b1
        try clear c25
        try clear c25b0
        try clear c25b1
        try clear c26
        try clear c26b0
        try clear c27
        try clear c27b0
        try clear p28
        try clear q28
        try clear hx28
        try clear hf28
        try clear hcz7_0
        try clear hcz7_1
        try clear hfz7_0
        try clear hfz7_1
        try clear hx17_0
        try clear hx20_0
        try clear hx28_0
        try clear p1
        try clear p17
        try clear p2
        try clear p28
        try clear p6
        try clear q1
        try clear q17
        try clear q28
        obtain ⟨x6_3,x50_3,x52_3,rfl,HA,HK3,HO_6,HO_50,BK458,HB⟩:=hrel
        have hl6_3:=(Kd.S_reads' HO_6.out).1
        rw [hl6_3] at HO_6
        (try simp only [hl6_3])
        (try simp only [hl6_3] at BK458)
        (try simp only [hl6_3] at HO_50)
        have hl50_3:=(Kd.R_reads' HO_50.out).1
        rw [hl50_3] at HO_50
        (try simp only [hl50_3])
        (try simp only [hl50_3] at BK458)
        (try simp only [hl50_3] at HO_6)
        cases gk with
        | zero=>exact absurd HA.out (by simp [spec_l5Unknowns.l2])
        | succ k3 =>
         have H:=HA.out
         clear HA
         simp only [spec_l5Unknowns.l2] at H
         by_cases c46:x52_3 < (t479.length:Int)
         ·rw [if_pos c46] at H
          have c46b0:=decide_eq_true c46
          clear c46
          obtain ⟨c47,H⟩:=yi H
          have c47b0:=decide_eq_true c47
          clear c47
          obtain ⟨c48,H⟩:=yi H
          have c48b0:=decide_eq_true c48
          clear c48
          obtain ⟨c49,H⟩:=yi H
          have c49b0:=decide_eq_true c49
          clear c49
          obtain ⟨c50,H⟩:=yi H
          have c50b0:=decide_eq_true c50
          clear c50
          obtain ⟨c51,H⟩:=yi H
          have c51b0:=decide_eq_true c51
          clear c51
          generalize hy484:((rd_L3 x6_3 x52_3).set (x8_2:Int).toNat (rd x50_3 x52_3):List Int)=y484 at H
          have Ny484:=am hy484.symm
          clear hy484
          generalize hy486:(x6_3.set (x52_3:Int).toNat y484:List (List Int))=y486 at H
          have Ny486:=am hy486.symm
          clear hy486
          have H':=am H
          clear H
          have p482:0≤(x52_3:Int):=od D0
          have q482:x52_3 < (x50_3.length:Int):=od D0
          obtain ⟨ad482,e482,hx482_0⟩:=Kd.at_int (Kd.R_reads' HO_50.out).2.2 x52_3 p482 q482
          cases e482
          replace p482:=eq_true p482
          replace q482:=eq_true q482
          have p483:0≤(x52_3:Int):=od D0
          have q483:x52_3 < (x6_3.length:Int):=od D0
          obtain ⟨ad483,A483_0,c483_0,e483,hx483_0,hl483_0,hi483_0⟩:=at_L3 (Kd.S_reads' HO_6.out).2.2 x52_3 p483 q483
          cases e483
          obtain ⟨ce483,hce483,hMe483,hcc483⟩:=Kd.S_get HO_6.out [] x52_3 p483 (by first|exact q483|exact od D0|(have e_:=(Kd.S_reads' HO_6.out).1;omega))
          obtain ⟨ve483_0,rfl,ge483_0⟩:=hMe483
          have hv483_0:=hcc483 0 _ rfl
          rw [Nat.add_zero,show ((Kd.slice 5 (Kd.int .u8))).sz=1 from rfl,Nat.mul_one] at hv483_0
          replace hv483_0:=Option.some.inj (hv483_0.symm.trans hx483_0)
          rw [hv483_0] at ge483_0
          have HL483_0:=am (show Kd.R (Kd.int .u8) 5 _ _ _ _ (rd_L3 x6_3 x52_3) from ge483_0)
          clear hv483_0 ge483_0
          have HX483_0:=am hx483_0
          clear hcc483 hce483
          have HR483_0:=am hi483_0
          have HC483_0:=am hl483_0
          clear hi483_0 hl483_0
          replace p483:=eq_true p483
          replace q483:=eq_true q483
          have p52:0≤(x8_2:Int):=od D0
          have q52:(x8_2:Int) < (((rd_L3 x6_3 x52_3).length:Int):Int):=od D0
          obtain ⟨go52,co52,eo52,gb52,gl52,cl52,HG52⟩:=Kd.R_form HL483_0.out D11
          (first|cases eo52|(injection eo52 with ea_ en_ ec_;(first|subst ea_|(injection ea_ with ea_;subst ea_));subst ec_;clear en_))
          have GB52:=am gb52
          have GG52:=am HG52
          clear gb52 gl52 HG52
          obtain ⟨hx52_0,hf52_0⟩:=Kd.R_celln 0 HL483_0.out (x8_2:Int) p52 q52
          replace p52:=eq_true p52
          replace q52:=eq_true q52
          have hq53:(x52_3:Int) < (x6_3.length:Int):=(by have h_:(x52_3:Int) < ((x6_3.length:Int):Int):=od D0;first|exact h_|(have e_:=(Kd.S_reads' HO_6.out).1;omega)|simpa only [List.length_set,List.length_set] using h_)
          obtain ⟨oki53,ce53,hcl53,hM53,hcc53,hok53,hbk53⟩:=Kd.S_borrow HO_6.out [] (x52_3:Int) (od D0) hq53
          obtain ⟨ve53_0,rfl,ge53_0⟩:=hM53
          have hv53:=hcc53 0 _ rfl
          rw [Nat.add_zero,show ((Kd.slice 5 (Kd.int .u8))).sz=1 from rfl,Nat.mul_one] at hv53
          replace hv53:=Option.some.inj (hv53.symm.trans HX483_0.out)
          subst hv53
          clear hcc53 hcl53
          replace ge53_0:=(show Kd.R (Kd.int .u8) 5 _ _ _ _ (rd_L3 x6_3 x52_3) from ge53_0)
          have HP53:=Kd.R_putg ge53_0 (x8_2:Int) (rd x50_3 x52_3)
          go_wp2_with (first|((with_reducible refine gate_store (t:=5) (p:=63) rfl ?_);refine store_event (t:=5) (p:=63) (v:=?vo_w54) (w1:=(wr.setCell ⟨go52,(x8_2:Int).toNat,none⟩ (.int .u8 (rd x50_3 x52_3)))) ?hg ?ho ?hn ?hr ?_;(case ho=>rfl);(case hg=>rfl);(case hn=>rfl);(case hr=>first|(go_simp;done)|(go_simp;rfl));intro w54 hw;have hg:wr.grownBy w54 (some go52):=(by rw [hw];exact HP53.2);have hz_:Kd.R (Kd.int .u8) 5 w54 w.heap.size oki53 (.slice (some ⟨go52,0,none⟩) (rd_L3 x6_3 x52_3).length c483_0) y484:=(by rw [hw,Ny484.out];exact HP53.1);have hp_:Kd.S (Kd.slice 5 (Kd.int .u8)) 24 w54 w.heap.size (fun k_=>some k_ ≠ (.slice (some ad482) x50_3.length co45:Value).ownBlock) (.slice (some ad483) x6_3.length co10) y486:=(by rw [Ny486.out];exact hbk53 hg (fun k_ e_=>by injection e_ with e_;subst e_;exact ge53_0.1 _ rfl) (Kd.M_row hz_));have hm_:=Kd.R_mono hz_ hok53;clear HP53 hbk53;have n0_:=am (hp_);have n1_:=am (Kd.R_grown1 (yR HO_50) rfl hg ((HL483_0.out.1 _ rfl).1));have n2_:=am (blk_grown (g:=gb458) (o:=.cells #[.int .i64 a0_0, .int .i64 a0_1] 30 (0,0)) (yB BK458) hg (Kd.R_ne HL483_0.out BK458.out D8));have n3_:=am ((by rw [hw];exact pt (HB.out) GB52.out:Below w.heap.size w w54));have n4_:=am (hm_);have n5_:=am ((Kd.R_reads' hm_).2.1);clear HO_6 HO_50 BK458 HB HL483_0;have HO_6:=n0_;have HO_50:=n1_;have BK458:=n2_;have HB:=n3_;have HL487:=n4_;have HC485:=n5_;clear n0_ n1_ n2_ n3_ n4_ n5_ hg hw hp_ hz_ hm_ hok53))
          (try simp only [← hl6_3,← hl50_3])
          go_roundg k3
          case measure=>have:=HK1.out;have:=HK2.out;have:=HK3.out;omega
          case rel=>exact ⟨(y486),(x50_3),(wrap64 (x52_3+1)),D1,H',⟨D80⟩,⟨by (try simp only [hl6_1]);(try simp only [hl6_2]);(try simp only [hl6_3]);(try simp only [hl50_3]);refine sS ?_;exact HO_6.out⟩,⟨by (try simp only [hl6_1]);(try simp only [hl6_2]);(try simp only [hl6_3]);(try simp only [hl50_3]);refine sR ?_;exact HO_50.out⟩,⟨D106⟩,⟨yW HB⟩⟩
         rw [if_neg c46] at H
         have c46b0:=decide_eq_false c46
         (try simp only [hl6_1] at c46b0);(try simp only [hl6_2] at c46b0);(try simp only [hl6_3] at c46b0);(try simp only [hl50_3] at c46b0)
         clear c46
         have H':=am H
         clear H
         go_wp2
         (try simp only [← hl6_2,← hl6_3,← hl50_3])
         (try simp only [← hji23])
         go_roundg k3
         case measure=>have:=HK1.out;have:=HK2.out;have:=HK3.out;omega
         case rel=>exact ⟨(x6_3),(wrap64 (x8_2+1)),D1,⟨by have h_:=H'.out;rw [← hji23] at h_;exact h_⟩,⟨D80⟩,⟨by (try simp only [hl6_1]);(try simp only [hl6_2]);(try simp only [hl6_3]);(try simp only [hl50_3]);refine sS ?_;exact Kd.S_mono HO_6.out (fun _ hk=>trivial)⟩,⟨D106⟩,⟨yW HB⟩⟩
      rw [if_neg c22] at H
      have c22b0:=decide_eq_false c22
      clear c22
      obtain rfl:=Option.some.inj H
      go_wp2
      go_ret
      exact ⟨_,by first|rfl|(simp [errW_none,errW_some] <;> rfl)|(simp only [← hji3];first|rfl|(simp [errW_none,errW_some] <;> rfl))|(simp [*,errW_none,errW_some] <;> rfl),yS HO_6,yW HB⟩
 rw [if_neg c4] at H
 exact absurd H D43
def spec_l1Add.l0:Nat→List Int→List Int→List Int→Int→Int→Option (List Int)
 | 0,_,_,_,_,_=>none
 | k+1,x0,x1,x5,x8,x9=>if x9 < x8 then (if 0≤x9 then (if x9 < (x0.length:Int) then (if x9 < (x1.length:Int) then (if x5.length < 140737488355328 then (spec_l1Add.l0 k x0 x1 (x5 ++ [Go.bits .xor .u8 (rd x0 x9) (rd x1 x9)]) x8 (wrap64 (x9+1))) else (none)) else (none)) else (none)) else (none)) else (some x5)
def spec_l1Add.f (k:Nat) (l0:List Int) (l1:List Int):Option (List Int):=spec_l1Add.l0 k l0 l1 ([]:List Int) (l0.length:Int) 0
theorem spec_l1Add.mono_l:∀ k,(∀ y0 y1 y2 y3 y4,LeO (spec_l1Add.l0 k y0 y1 y2 y3 y4) (spec_l1Add.l0 (k+1) y0 y1 y2 y3 y4))
 | 0=>fun _ _ _ _ _ r h=>by simp [spec_l1Add.l0] at h
 | k+1=>by
  have ih0:=spec_l1Add.mono_l k
  intro y0 y1 y2 y3 y4
  unfold spec_l1Add.l0
  exact mm
theorem spec_l1Add.mono:∀ a0 a1 k,LeO (spec_l1Add.f k a0 a1) (spec_l1Add.f (k+1) a0 a1):=by
 intro a0 a1 k
 have ih0:=spec_l1Add.mono_l k
 unfold spec_l1Add.f
 exact mm
def spec_l1Add.T5:Bool × List (List Nat × List Nat):=(true,[([],[]),([],[]),([],[]),([1,2],[1,2]),([3],[3]),([],[]),([],[]),([5,6],[5,6]),([7],[7]),([4,8],[4,8]),([9],[9]),([0,10],[0,10]),([11,11,0,1,2,3,4,5,6,7,8,9,10,11],[0,11])])
def spec_l1Add.B5:List Nat:=[0,0,0,6,14,0,0,96,224,510,1022,2047,4095]
theorem spec_l1Add.tab5:rtab .any (opsOf Try.f73 5)=spec_l1Add.T5:=by kernel_rfl
theorem spec_l1Add.bits5:waitsOk spec_l1Add.T5.2 spec_l1Add.B5=true:=by kernel_rfl
theorem spec_l1Add.calls (k:Nat) (A0:Option Addr) (c0:Nat) (l0:List Int) (A1:Option Addr) (c1:Nat) (l1:List Int) (r:List Int) (w:World) (hr0:Kd.C (Kd.int .u8) w A0 l0.length l0) (hc0:l0.length≤c0) (hr1:Kd.C (Kd.int .u8) w A1 l1.length l1) (hc1:l1.length≤c1) (h:spec_l1Add.f k l0 l1=some r) :
  Calls Try.prog 73 #[.slice A0 l0.length c0, .slice A1 l1.length c1] w fun e w'=>∃ v0_:Value,e = .returned (v0_)∧Kd.R (Kd.int .u8) 5 w' w.heap.size (fun _=>True) v0_ r∧Below w.heap.size w w':=by
 have HR0:=am hr0
 have HC0:=am hc0
 clear hr0 hc0
 have HR1:=am hr1
 have HC1:=am hc1
 clear hr1 hc1
 have HB:=am (Below.refl w.heap.size w)
 have H:=h
 unfold spec_l1Add.f at H
 clear h
 have H':=am H
 clear H
 go_enter Try.func73,Try.ntmps73
 go_wp2
 go_loopg [5,9] k (fun kq v5 v9 w'=>∃ (x5_1:List Int) (x9_1:Int),v9 = .int .i64 x9_1∧Aside0 (spec_l1Add.l0 kq l0 l1 x5_1 (l0.length:Int) x9_1=some r)∧Aside0 (kq≤k)∧Aside0 (Kd.R (Kd.int .u8) 5 w' w.heap.size (fun _=>True) v5 x5_1)∧Aside0 (Below w.heap.size w w'))
 case atStart=>exact ⟨(([]:List Int)),(0),D1,H',⟨Nat.le_refl _⟩,⟨D14⟩,⟨yW HB⟩⟩
 case round =>
  clear H'
  try clear c1
  try clear p2
  obtain ⟨x5_1,x9_1,rfl,HA,HK1,HO_5,HB⟩:=hrel
  cases gk with
  | zero=>exact absurd HA.out (by simp [spec_l1Add.l0])
  | succ k1 =>
   have H:=HA.out
   clear HA
   simp only [spec_l1Add.l0] at H
   by_cases c3:x9_1 < (l0.length:Int)
   ·rw [if_pos c3] at H
    have c3b0:=decide_eq_true c3
    clear c3
    obtain ⟨c4,H⟩:=yi H
    have c4b0:=decide_eq_true c4
    clear c4
    obtain ⟨c5,H⟩:=yi H
    have c5b0:=decide_eq_true c5
    clear c5
    obtain ⟨c6,H⟩:=yi H
    have c6b0:=decide_eq_true c6
    clear c6
    obtain ⟨c7,H⟩:=yi H
    have LMc7:=am c7
    clear c7
    generalize hy490:(x5_1 ++ [Go.bits .xor .u8 (rd l0 x9_1) (rd l1 x9_1)]:List Int)=y490 at H
    have Ny490:=am hy490.symm
    clear hy490
    have H':=am H
    clear H
    try go_wp2
    replace HO_5:=am (Kd.R_drew HO_5.out)
    replace HB:=am (pd HB.out)
    have p488:0≤(x9_1:Int):=od D0
    have q488:x9_1 < (l0.length:Int):=od D0
    obtain ⟨ad488,e488,hx488_0⟩:=Kd.at_int HR0.out x9_1 p488 q488
    have hw488_0:=hx488_0
    cases e488
    replace hx488_0:=(HB.out.cell (World.block_lt_of_cell? w _ hx488_0)).trans hx488_0
    replace p488:=eq_true p488
    replace q488:=eq_true q488
    have p489:0≤(x9_1:Int):=od D0
    have q489:x9_1 < (l1.length:Int):=od D0
    obtain ⟨ad489,e489,hx489_0⟩:=Kd.at_int HR1.out x9_1 p489 q489
    have hw489_0:=hx489_0
    cases e489
    replace hx489_0:=(HB.out.cell (World.block_lt_of_cell? w _ hx489_0)).trans hx489_0
    replace p489:=eq_true p489
    replace q489:=eq_true q489
    refine rS (n:=13) (S:=fun w'=>w'.cell? (ad488.add (x9_1).toNat)=some (.int .u8 (rd l0 x9_1))∧w'.cell? (ad489.add (x9_1).toNat)=some (.int .u8 (rd l1 x9_1))) (ds:=[]) [(0,12),(1,13),(2,14),(3,15),(5,17),(6,18),(7,19),(4,16),(8,20),(9,21),(10,0),(11,0),(12,5)] D5 rfl spec_l1Add.tab5 spec_l1Add.bits5 ⟨((HB.out.cell (World.block_lt_of_cell? w _ hw488_0)).trans hw488_0),((HB.out.cell (World.block_lt_of_cell? w _ hw489_0)).trans hw489_0)⟩ (fun hHeld HT_ HW_=>?_)
    generalize wr.drew=w8 at HO_5 HB hx488_0 hx489_0 hHeld ⊢
    refine rR ?_
    refine rO (N:=some 22) HT_ rfl rfl D5 D8 (fun K hK=>?_)
    refine value_ (w1:=?_) (v:=?_) D15 rfl ?_ ?_
    rotate_left 2
    ·go_simp
     constructor
     ·rfl
     rfl
    refine hK.out _ _ ⟨(World.cell?_alloc_lt _ _ _ (World.block_lt_of_cell? _ _ (((HB.out.cell (World.block_lt_of_cell? w _ hw488_0)).trans hw488_0)))).trans (((HB.out.cell (World.block_lt_of_cell? w _ hw488_0)).trans hw488_0)),(World.cell?_alloc_lt _ _ _ (World.block_lt_of_cell? _ _ (((HB.out.cell (World.block_lt_of_cell? w _ hw489_0)).trans hw489_0)))).trans (((HB.out.cell (World.block_lt_of_cell? w _ hw489_0)).trans hw489_0))⟩ (fun hHeld=>?_)
    clear hK K
    refine rN (nA 22) ?_
    refine rO (N:=some 23) HT_ rfl rfl D5 D8 (fun K hK=>?_)
    refine Kd.R_append_step (Kd.int .u8) (w0:=w) w.heap.size D15 (.tmp 12) (.tmp 22) 24 5 (.int .u8 0) 1 rfl Try.underlying24 info5 rfl D8 D11 u5 x5_1 (Go.bits .xor .u8 (rd l0 x9_1) (rd l1 x9_1)) [.int .u8 (Go.bits .xor .u8 (rd l0 x9_1) (rd l1 x9_1))] (fun _=>True) (fun _=>False) rfl rfl ?aP (fun _ hk=>hk.elim) ?aF ?aO ?aB ?aS ?aL ?_
    (case aP=>exact rfl)
    (case aB=>exact (yW HB))
    (case aF=>exact (fun _ _=>trivial))
    (case aO=>exact (yR HO_5))
    (case aS=>exact (pz (yW HB)))
    (case aL=>have:=LMc7.out;omega)
    intro v491 w9 ho hb hg hat
    rw [← Ny490.out] at ho
    have n0_:=am (hb)
    have n1_:=am (ho)
    clear HB
    clear HO_5
    have HB:=n0_
    have HO492:=n1_
    clear n0_ n1_
    clear ho hb hg hat
    refine hK.out _ _ ⟨((HB.out.cell (World.block_lt_of_cell? w _ hw488_0)).trans hw488_0),((HB.out.cell (World.block_lt_of_cell? w _ hw489_0)).trans hw489_0)⟩ (fun hHeld=>?_)
    clear hK K
    refine rN (nA 23) ?_
    refine rR ?_
    refine rD HT_ D5 ?_
    try go_wp2
    go_roundg k1
    case measure=>have:=HK1.out;omega
    case rel=>exact ⟨(y490),(wrap64 (x9_1+1)),D1,H',⟨D34⟩,⟨yR HO492⟩,⟨yW HB⟩⟩
   rw [if_neg c3] at H
   have c3b0:=decide_eq_false c3
   clear c3
   obtain rfl:=Option.some.inj H
   go_wp2
   go_ret
   exact ⟨_,D2,yR HO_5,yW HB⟩

def spec_l1Inverse.f (k:Nat) (a0:Int):Option (Int):=if a0=0 then (some 0) else ((spec_l1Power.f k a0 254).bind fun t493=>(some t493))
theorem spec_l1Inverse.mono:∀ a0 k,LeO (spec_l1Inverse.f k a0) (spec_l1Inverse.f (k+1) a0):=by
 intro a0 k
 unfold spec_l1Inverse.f
 exact mm
theorem spec_l1Inverse.calls (k:Nat) (a0:Int) (r:Int) (w:World) (h:spec_l1Inverse.f k a0=some r) :
  Calls Try.prog 137 #[.int .u8 a0] w fun e w'=>e = .returned (.int .u8 r)∧Drawn0 w w':=by
 have H:=h
 unfold spec_l1Inverse.f at H
 clear h
 by_cases c2:a0=0
 ·rw [if_pos c2] at H
  have c2b0:(a0 == 0)=true:=beq_iff_eq.mpr c2
  have c2b1:(a0 != 0)=false:=bne_eq_false_iff_eq.mpr c2
  clear c2
  obtain rfl:=Option.some.inj H
  go_enter Try.func137,Try.ntmps137
  go_wp2
  go_ret
  exact ⟨D1,D12⟩
 rw [if_neg c2] at H
 have c2b0:(a0 == 0)=false:=beq_eq_false_iff_ne.mpr c2
 have c2b1:(a0 != 0)=true:=bne_iff_ne.mpr c2
 obtain ⟨t493,A3,H⟩:=yo H
 obtain rfl:=Option.some.inj H
 go_enter Try.func137,Try.ntmps137
 go_wp2_with (first|((with_reducible refine gC 138 ?_);refine gM (some 6) Try.func138 (args:=#[.int .u8 a0, .int .i64 254]) (spec_l1Power.calls k a0 254 t493 _ A3.out) ?_;rintro e w' ⟨rfl,⟨nd,rfl⟩⟩;refine ⟨_,rfl,?_⟩))
 go_ret
 exact ⟨D1,D12⟩

def spec_l2Own.l0:Nat→List (List Int)→Int→Int→List (List Int)→Option ((List (List Int)))
 | 0,_,_,_,_=>none
 | k+1,x8,x9,x10,x497000=>if x10 < x9 then (if 0≤x10 then (if x10 < (x8.length:Int) then ((some (([]:List Int):List Int)).bind fun y498=>(if y498.length+(rd_L3 x8 x10).length < 140737488355328 then (if x497000.length < 5864062014805 then (spec_l2Own.l0 k x8 x9 (wrap64 (x10+1)) (x497000 ++ [(y498 ++ (rd_L3 x8 x10))])) else (none)) else (none))) else (none)) else (none)) else (some x497000)
def spec_l2Own.f (k:Nat) (l0_0:List (List Int)):Option ((List (List Int))):=spec_l2Own.l0 k l0_0 (l0_0.length:Int) 0 ([]:List (List Int))
theorem spec_l2Own.mono_l:∀ k,(∀ y0 y1 y2 y3,LeO (spec_l2Own.l0 k y0 y1 y2 y3) (spec_l2Own.l0 (k+1) y0 y1 y2 y3))
 | 0=>fun _ _ _ _ r h=>by simp [spec_l2Own.l0] at h
 | k+1=>by
  have ih0:=spec_l2Own.mono_l k
  intro y0 y1 y2 y3
  unfold spec_l2Own.l0
  exact mm
theorem spec_l2Own.mono:∀ a0 k,LeO (spec_l2Own.f k a0) (spec_l2Own.f (k+1) a0):=by
 intro a0 k
 have ih0:=spec_l2Own.mono_l k
 unfold spec_l2Own.f
 exact mm
def spec_l2Own.T5:Bool × List (List Nat × List Nat):=(true,[([],[]),([0],[0]),([],[]),([],[]),([2,3],[2,3]),([4],[4]),([1,5,4],[1,5]),([0,1,2,3,4,5,6],[]),([7,6,6,0,1,2,3,4,5,6],[6,7])])
def spec_l2Own.B5:List Nat:=[0,1,0,0,12,28,63,127,255]
theorem spec_l2Own.tab5:rtab .any (opsOf Try.f161 5)=spec_l2Own.T5:=by kernel_rfl
theorem spec_l2Own.bits5:waitsOk spec_l2Own.T5.2 spec_l2Own.B5=true:=by kernel_rfl
theorem spec_l2Own.calls (k:Nat) (A0_0:Option Addr) (c0_0:Nat) (l0_0:List (List Int)) (r:List (List Int)) (w:World) (hr0_0:Kd.C (Kd.slice 5 (Kd.int .u8)) w A0_0 l0_0.length l0_0) (hc0_0:l0_0.length≤c0_0) (h:spec_l2Own.f k l0_0=some r) :
  Calls Try.prog 161 #[.agg #[.slice A0_0 l0_0.length c0_0]] w fun e w'=>∃ v0_:Value,e = .returned (.agg #[v0_])∧Kd.S (Kd.slice 5 (Kd.int .u8)) 24 w' w.heap.size (fun _=>True) v0_ r∧Below w.heap.size w w':=by
 have hu27:=Try.underlying27
 have HR0_0:=am hr0_0
 have HC0_0:=am hc0_0
 clear hr0_0 hc0_0
 have HB:=am (Below.refl w.heap.size w)
 have H:=h
 unfold spec_l2Own.f at H
 clear h
 have H':=am H
 clear H
 go_enter Try.func161,Try.ntmps161
 go_wp2_with (first|((with_reducible refine gD 1 ?_);refine gB (cs:=#[.slice A0_0 l0_0.length c0_0]) 27 ?_;intro gb494 hg w2 hbox hb;have BK494:=am (hbox);have GW494:=ye HB hg;replace HB:=yH HB hb;have GE494:=GW494;clear hb hbox hg)|((with_reducible refine gD 2 ?_);refine gB (cs:=#[.slice none 0 0]) 27 ?_;intro gb495 hg w3 hbox hb;have BK495:=am (hbox);have GW495:=ye HB hg;replace HB:=yH HB hb;have NB494_495:=yl BK494 hg;have NB495_494:=yg BK494 hg;replace BK494:=yb BK494 hb;have GE495:=GW495;clear hb hbox hg)|((with_reducible refine gD 3 ?_);refine gB (cs:=#[.slice none 0 0]) 27 ?_;intro gb496 hg w4 hbox hb;have BK496:=am (hbox);have GW496:=ye HB hg;replace HB:=yH HB hb;have NB494_496:=yl BK494 hg;have NB496_494:=yg BK494 hg;replace BK494:=yb BK494 hb;have NB495_496:=yl BK495 hg;have NB496_495:=yg BK495 hg;replace BK495:=yb BK495 hb;have GE496:=GW496;clear hb hbox hg;have hnb5:=NB496_494.out;have hnc5:=NB494_496.out;have hnb6:=NB496_495.out;have hnc6:=NB495_496.out;obtain ⟨hcz7_0,hfz7_0⟩:=yk1 BK496;have hnb8:=NB494_495.out;have hnc8:=NB495_494.out;obtain ⟨hcz9_0,hfz9_0⟩:=yk1 BK494))
 go_loopg [10] k (fun kq v10 w'=>∃ (x10_1:Int) (x497000_1:List (List Int)) (u497000:Value),v10 = .int .i64 x10_1∧Aside0 (spec_l2Own.l0 kq l0_0 (l0_0.length:Int) x10_1 x497000_1=some r)∧Aside0 (kq≤k)∧Aside0 (Kd.S (Kd.slice 5 (Kd.int .u8)) 24 w' w.heap.size (fun _=>True) u497000 x497000_1)∧Aside0 (w'.heap[gb494]? = some (.cells #[(.slice A0_0 l0_0.length c0_0)] 27 (0,0)))∧Aside0 (w'.heap[gb495]? = some (.cells #[(.slice none 0 0)] 27 (0,0)))∧Aside0 (w'.heap[gb496]? = some (.cells #[u497000] 27 (0,0)))∧Aside0 (Below w.heap.size w w'))
 case atStart=>exact ⟨(0),(([]:List (List Int))),(.slice none 0 0),D1,H',⟨Nat.le_refl _⟩,⟨D18⟩,⟨yF BK494⟩,⟨yF BK495⟩,⟨by refine sB ?_;refine blk_put (cs:=#[.slice none 0 0]) ?_ 0 _ rfl;exact yB BK496⟩,⟨yW HB⟩⟩
 case round =>
  clear H'
  try clear c1
  try clear p2
  try clear c5
  try clear c6
  try clear c8
  try clear hcz7_0
  try clear hcz9_0
  try clear hfz7_0
  try clear hfz9_0
  obtain ⟨x10_1,x497000_1,u497000,rfl,HA,HK1,HO_497000,BK494,BK495,BK496,HB⟩:=hrel
  cases gk with
  | zero=>exact absurd HA.out (by simp [spec_l2Own.l0])
  | succ k1 =>
   have H:=HA.out
   clear HA
   simp only [spec_l2Own.l0] at H
   by_cases c10:x10_1 < (l0_0.length:Int)
   ·rw [if_pos c10] at H
    have c10b0:=decide_eq_true c10
    clear c10
    obtain ⟨c11,H⟩:=yi H
    have c11b0:=decide_eq_true c11
    clear c11
    obtain ⟨c12,H⟩:=yi H
    have c12b0:=decide_eq_true c12
    clear c12
    obtain ⟨y498,hy498,H⟩:=ys H
    have Ny498:=am hy498
    clear hy498
    obtain ⟨c13,H⟩:=yi H
    have LMc13:=am c13
    clear c13
    generalize hy501:(y498 ++ (rd_L3 l0_0 x10_1):List Int)=y501 at H
    have Ny501:=am hy501.symm
    clear hy501
    obtain ⟨c14,H⟩:=yi H
    have LMc14:=am c14
    clear c14
    generalize hy504:(x497000_1 ++ [y501]:List (List Int))=y504 at H
    have Ny504:=am hy504.symm
    clear hy504
    have H':=am H
    clear H
    have p497:0≤(x10_1:Int):=od D0
    have q497:x10_1 < (l0_0.length:Int):=od D0
    obtain ⟨ad497,A497_0,c497_0,e497,hx497_0,hl497_0,hi497_0⟩:=at_L3 HR0_0.out x10_1 p497 q497
    cases e497
    replace hx497_0:=(HB.out.cell (World.block_lt_of_cell? w _ hx497_0)).trans hx497_0
    have HR497_0:=am hi497_0
    have HC497_0:=am hl497_0
    clear hi497_0 hl497_0
    replace p497:=eq_true p497
    replace q497:=eq_true q497
    try go_wp2
    replace HO_497000:=am (Kd.S_drew HO_497000.out)
    replace BK494:=am (qd BK494.out)
    replace BK495:=am (qd BK495.out)
    replace BK496:=am (qd BK496.out)
    replace HB:=am (pd HB.out)
    refine rS (n:=9) (S:=fun w'=>w'.cell? ⟨gb496,0,none⟩=some (u497000)) (ds:=[8]) [(0,14),(3,17),(1,15),(2,0),(4,0),(5,0),(6,0),(7,21),(8,0)] D5 rfl spec_l2Own.tab5 spec_l2Own.bits5 (yk BK496 0) (fun hHeld HT_ HW_=>?_)
    generalize wr.drew=w15 at HO_497000 BK494 BK495 BK496 HB hHeld ⊢
    refine rR ?_
    refine rO (N:=some 16) HT_ rfl rfl D5 D8 (fun K hK=>?_)
    refine Kd.R_lit_step (Kd.int .u8) _ 5 ?hg (N:=16) ?hd (xs:=([]:List Int)) (inner:=[]) (ok:=fun _=>True) (okp:=fun _=>True) ?hr ?hp (fun _ hk=>hk) trivial (Below.refl _ _) (Nat.le_refl _) D43 ?_;(case hd=>rfl);(case hg=>rfl);(case hr=>first|(go_simp;done)|(go_simp;rfl));(case hp=>exact (Reps.none _ _))
    intro v499 w16 ho17 hb hg_ hnew_
    clear hg_ hnew_
    (first|rw [← Ny498.out] at ho17|(simp only [Int.reduceToNat] at ho17;rw [← Ny498.out] at ho17))
    replace HO_497000:=eS HO_497000 (Kd.R_base ho17) hb
    have HO500:=am (Kd.R_lower ho17 (pz (yW HB)))
    replace BK494:=yb BK494 hb
    replace BK495:=yb BK495 hb
    replace BK496:=yb BK496 hb
    replace HB:=yH HB hb
    clear hb ho17
    refine hK.out _ _ (yk BK496 0) (fun hHeld=>?_)
    clear hK K
    refine rN (nA 16) ?_
    refine rO (N:=some 18) HT_ rfl rfl D5 D8 (fun K hK=>?_)
    refine Kd.R_append_rows_step (Kd.int .u8) (w0:=w) w.heap.size D15 (.tmp 16) (.tmp 17) 24 5 (.int .u8 0) 1 rfl Try.underlying24 info5 rfl D8 D11 v499 y498 (rd_L3 l0_0 x10_1) _ _ _ (fun _=>True) (fun _=>False) rfl rfl ?aO ?aR (fun _ _ h=>h) (fun _ h=>h.elim) ?aF ?aB ?aS ?aL ?_
    (case aR=>repeat (first|exact (Kd.C_below HR497_0.out HB.out)|(with_reducible refine Kd.C_alloc ?_ _)|(with_reducible refine Kd.C_drewN ?_ _)|(with_reducible refine Kd.C_drew ?_)))
    (case aB=>exact (yW HB))
    (case aF=>exact (fun _ _=>trivial))
    (case aO=>exact (yR HO500))
    (case aS=>exact (pz (yW HB)))
    (case aL=>have:=LMc13.out;omega)
    intro v502 w18 ho hb hg hat
    rw [← Ny501.out] at ho
    have n0_:=am (Kd.S_after (ok:=(fun _=>True)) (yS HO_497000) hg hat)
    have n1_:=am (blk_grown (g:=gb494) (o:=.cells #[.slice (some ad497) l0_0.length c0_0] 27 (0,0)) (yB BK494) hg (Kd.R_ne HO500.out BK494.out D8))
    have n2_:=am (blk_grown (g:=gb495) (o:=.cells #[.slice none 0 0] 27 (0,0)) (yB BK495) hg (Kd.R_ne HO500.out BK495.out D8))
    have n3_:=am (blk_grown (g:=gb496) (o:=.cells #[u497000] 27 (0,0)) (yB BK496) hg (Kd.R_ne HO500.out BK496.out D8))
    have n4_:=am (hb)
    have n5_:=am (ho)
    clear HO_497000
    clear BK494
    clear BK495
    clear BK496
    clear HB
    clear HO500
    have HO_497000:=n0_
    have BK494:=n1_
    have BK495:=n2_
    have BK496:=n3_
    have HB:=n4_
    have HO503:=n5_
    clear n0_ n1_ n2_ n3_ n4_ n5_
    clear ho hb hg hat
    obtain ⟨Ao20,co20,eo20⟩:=Kd.R_slice HO503.out
    (first|subst eo20|(injection eo20 with f1_ f2_ f3_;have f4_:=f1_.symm;have f5_:=f3_.symm;clear f1_ f2_ f3_;subst f4_;subst f5_))
    refine hK.out _ _ (yk BK496 0) (fun hHeld=>?_)
    clear hK K
    refine rN (nA 18) ?_
    refine rO (N:=some 19) HT_ rfl rfl D5 D8 (fun K hK=>?_)
    refine value_ (w1:=?_) (v:=?_) D15 rfl ?_ ?_
    rotate_left 2
    ·go_simp
     constructor
     ·rfl
     rfl
    refine hK.out _ _ ((blk_cell (qa BK496.out _) 0).trans rfl) (fun hHeld=>?_)
    clear hK K
    refine rN (nA 19) ?_
    refine rO (N:=some 20) HT_ rfl rfl D5 D8 (fun K hK=>?_)
    refine Kd.S_append_step (Kd.slice 5 (Kd.int .u8)) (w0:=w) w.heap.size D15 (.tmp 15) (.tmp 19) 25 24 (.slice none 0 0) 24 rfl Try.underlying25 info24 rfl D8 D11 u497000 x497000_1 y501 [.slice Ao20 y501.length co20] (fun _=>True) (fun k_=>some k_=(.slice Ao20 y501.length co20:Value).ownBlock) rfl rfl ?aP (fun k_ hk_=>((Kd.R_mono (ok':=fun k_=>((fun _=>True)) k_∧some k_ ≠ (u497000:Value).ownBlock) (Kd.R_apart' (HO503.out) (Kd.S_typed HO_497000.out) D8) (fun k_ hk=>⟨trivial,hk.2⟩))).1 k_ hk_.symm) ?aF ?aO ?aB ?aS ?aL ?_
    (case aP=>exact Kd.M_row (Kd.R_mono (Kd.R_tight rfl (Kd.R_mono (ok':=fun k_=>((fun _=>True)) k_∧some k_ ≠ (u497000:Value).ownBlock) (Kd.R_apart' (HO503.out) (Kd.S_typed HO_497000.out) D8) (fun k_ hk=>⟨trivial,hk.2⟩))) (fun _ h_=>h_)))
    (case aB=>exact (yW HB))
    (case aF=>exact (fun _ _=>trivial))
    (case aO=>exact (by refine sS ?_;exact Kd.S_mono HO_497000.out (fun k_ hk=>⟨trivial,fun e_=>hk.2 e_⟩)))
    (case aS=>exact (pz (yW HB)))
    (case aL=>have:=LMc14.out;omega)
    intro v505 w19 ho hb hg hat
    rw [← Ny504.out] at ho
    have n0_:=am (blk_grown (g:=gb494) (o:=.cells #[.slice (some ad497) l0_0.length c0_0] 27 (0,0)) (yB BK494) hg (Kd.S_ne HO_497000.out BK494.out D8))
    have n1_:=am (blk_grown (g:=gb495) (o:=.cells #[.slice none 0 0] 27 (0,0)) (yB BK495) hg (Kd.S_ne HO_497000.out BK495.out D8))
    have n2_:=am (blk_grown (g:=gb496) (o:=.cells #[u497000] 27 (0,0)) (yB BK496) hg (Kd.S_ne HO_497000.out BK496.out D8))
    have n3_:=am (hb)
    have n4_:=am (ho)
    clear BK494
    clear BK495
    clear BK496
    clear HB
    clear HO_497000
    clear HO503
    have BK494:=n0_
    have BK495:=n1_
    have BK496:=n2_
    have HB:=n3_
    have HO506:=n4_
    clear n0_ n1_ n2_ n3_ n4_
    clear ho hb hg hat
    obtain ⟨Ao21,co21,eo21⟩:=Kd.S_slice HO506.out
    (first|subst eo21|(injection eo21 with f1_ f2_ f3_;have f4_:=f1_.symm;have f5_:=f3_.symm;clear f1_ f2_ f3_;subst f4_;subst f5_))
    refine hK.out _ _ (yk BK496 0) (fun hHeld=>?_)
    clear hK K
    refine rN (nA 20) ?_
    refine rR ?_
    refine rL (N:=none) HT_ rfl rfl D5 D8 (fun K hK=>?_)
    have hs22:w19.cell? ⟨gb496,0,none⟩=some (u497000):=(blk_cell BK496.out 0).trans rfl
    have hfs22:=blk_frozen BK496.out 0
    have hns22_0:=NB494_496.out
    have hns22_1:=NB495_496.out
    have hms22_0:=NB496_494.out
    have hms22_1:=NB496_495.out
    refine skip_ (w1:=?_) D15 rfl ?_ ?_
    rotate_left
    ·go_simp
     rfl
    refine hK.out _ _ ?_
    clear hK K
    refine rD HT_ D5 ?_
    try go_wp2
    go_roundg k1
    case measure=>have:=HK1.out;omega
    case rel=>exact ⟨(wrap64 (x10_1+1)),(y504),(.slice Ao21 y504.length co21),D1,H',⟨D34⟩,⟨by refine sS ?_;exact Kd.S_mono (Kd.S_far (p:=⟨gb496,0,none⟩) (Kd.S_types HO506.out BK496.out D8) (fun _ hk=>hk.2) (.slice Ao21 y504.length co21)) (fun _ hk=>trivial)⟩,⟨yF BK494⟩,⟨yF BK495⟩,⟨by refine sB ?_;refine blk_put (cs:=#[u497000]) ?_ 0 _ rfl;exact yB BK496⟩,⟨yW HB⟩⟩
   rw [if_neg c10] at H
   have c10b0:=decide_eq_false c10
   clear c10
   obtain rfl:=Option.some.inj H
   have hnb23:=NB496_494.out
   have hnc23:=NB494_496.out
   have hnb24:=NB496_495.out
   have hnc24:=NB495_496.out
   obtain ⟨hcz25_0,hfz25_0⟩:=yk1 BK496
   obtain ⟨Ao26,co26,eo26⟩:=Kd.S_slice HO_497000.out
   subst eo26
   have hnb27:=NB495_494.out
   have hnc27:=NB494_495.out
   obtain ⟨hcz28_0,hfz28_0⟩:=yk1 BK495
   go_wp2
   refine bodyPost_ret (results_cell_row rfl _ _ gb495 27 #[.slice Ao26 x497000_1.length co26] (0,0) _ rfl (by refine sB ?_;refine blk_put (cs:=#[.slice none 0 0]) ?_ 0 _ rfl;exact yB BK495) Try.underlying27 rfl D5) rfl ?_
   exact ⟨_,D2,by refine sS ?_;exact Kd.S_mono (Kd.S_far (p:=⟨gb495,0,none⟩) (Kd.S_types HO_497000.out BK495.out D8) (fun _ hk=>hk.2) (.slice Ao26 x497000_1.length co26)) (fun _ hk=>trivial),yW HB⟩
end Go.Proofs.Yteflgifmdojahaa.PFnMsr
-- SQUEEZED
