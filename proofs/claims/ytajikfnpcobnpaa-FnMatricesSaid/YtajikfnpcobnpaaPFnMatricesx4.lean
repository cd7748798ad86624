import Derived.Test.YtajikfnpcobnpaaVFnMatricesB
import Derived.Test.YtajikfnpcobnpaaPFnMatricesx0
import Derived.Test.YtajikfnpcobnpaaPFnMatricesx1
import Derived.Test.YtajikfnpcobnpaaPFnMatricesx3
namespace Go.Proofs.Ytajikfnpcobnpaa.PFnMatrices
open Go.RowKit Go.Proofs.YtajikfnpcobnpaaW.PrintWords Go.Proofs.YtajikfnpcobnpaaW.PrintLast Go.Proofs.YtajikfnpcobnpaaW.PrintMore Go.Proofs.Ytajikfnpcobnpaa.KitS
attribute [local go_sem] max2_int min2_int max_two min_two max_three min_three max_four min_four
set_option linter.unusedVariables false
set_option maxHeartbeats 8000000
set_option maxRecDepth 100000
set_option linter.unusedSimpArgs false
def spec_DrawSolve.g (k:Nat) (s0_0:List Int) (s0_1:Int) (s0_2:Int):Option ((List (List Int)) × List Int × Int × Int):=(spec_l1Cur_side.f s0_0 s0_1 s0_2).bind fun bt146=>((spec_l1Cur_one.f s0_0 bt146.2.1 bt146.2.2 12).bind fun bt149=>(if bt149.1=true then ((spec_l1Cur_matrix.f k s0_0 bt149.2.1 bt149.2.2 bt146.1 bt146.1).bind fun bt152=>((spec_l1Cur_vector.f k s0_0 bt152.2.1 bt152.2.2 (wrap64 (bt146.1+1))).bind fun bt157=>(some (bt152.1,bt157.1,bt157.2.1,bt157.2.2)))) else ((spec_l1Cur_matrix.f k s0_0 bt149.2.1 bt149.2.2 bt146.1 bt146.1).bind fun bt162=>((spec_l1Cur_vector.f k s0_0 bt162.2.1 bt162.2.2 bt146.1).bind fun bt167=>(some (bt162.1,bt167.1,bt167.2.1,bt167.2.2))))))
theorem spec_DrawSolve.monog:∀ a0 a1 a2 k,LeO (spec_DrawSolve.g k a0 a1 a2) (spec_DrawSolve.g (k+1) a0 a1 a2):=by
 intro a0 a1 a2 k
 unfold spec_DrawSolve.g
 exact mm
def spec_DrawSolve.f (k:Nat) (l0:List Int):Option ((List (List Int)) × List Int):=(spec_DrawSolve.g k l0 0 0).bind fun b=>some (b.1,b.2.1)
theorem spec_DrawSolve.mono:∀ a0 k,LeO (spec_DrawSolve.f k a0) (spec_DrawSolve.f (k+1) a0):=fun a0 k=>LeO.bind (spec_DrawSolve.monog _ _ _ k) (fun _=>LeO.refl _)
theorem spec_DrawSolve.calls (k:Nat) (A0:Option Addr) (c0:Nat) (l0:List Int) (p1:(List (List Int))) (p2:List Int) (w0:World) (hr0:Kd.C (Kd.int .u8) w0 A0 l0.length l0) (hc0:l0.length≤c0) (h:spec_DrawSolve.f k l0=some (p1,p2)) :
  Calls Try.prog 75 #[.slice A0 l0.length c0] w0 fun e w'=>∃ v0_ v1_:Value,e = .returned (.tuple #[.agg #[v0_],v1_])∧Kd.S (Kd.slice 5 (Kd.int .u8)) 57 w' w0.heap.size (fun k_=>some k_ ≠ (v1_:Value).ownBlock) v0_ p1∧Kd.R (Kd.int .u8) 5 w' w0.heap.size (fun _=>True) v1_ p2∧Below w0.heap.size w0 w':=by
 unfold spec_DrawSolve.f at h
 obtain ⟨⟨r1,r2,r3,r4⟩,hG_,he_⟩:=Option.bind_eq_some_iff.mp h
 clear h
 have h:=hG_
 clear hG_
 simp only [Option.some.injEq,Prod.mk.injEq] at he_
 obtain ⟨rfl,rfl⟩:=he_
 have HR:=am hr0
 clear hr0 hc0
 have HB:=am (Below.refl w0.heap.size w0)
 have HL:=am (Nat.le_refl w0.heap.size)
 have HW0:=HL
 have hu180:=Try.underlying180
 have hu43:=Try.underlying43
 have H:=h
 unfold spec_DrawSolve.f at H
 clear h
 obtain ⟨⟨t146,t147,t148⟩,A2,H⟩:=yo H
 try dsimp only at H
 obtain ⟨⟨t149,t150,t151⟩,A3,H⟩:=yo H
 try dsimp only at H
 by_cases c4:t149=true
 ·subst c4
  replace H:=yt H
  obtain ⟨⟨t152,t155,t156⟩,A5,H⟩:=yo H
  try dsimp only at H
  obtain ⟨⟨t157,t160,t161⟩,A6,H⟩:=yo H
  try dsimp only at H
  simp only [Option.some.injEq,Prod.mk.injEq] at H
  obtain ⟨rfl,rfl,rfl,rfl⟩:=H
  go_enter Try.func75,Try.ntmps75
  go_wp2_with (first|((with_reducible refine gD 9 ?_);refine gB (cs:=#[.slice A0 l0.length c0, .int .i64 0, .int .u64 0]) 180 ?_;intro g hg wS hbox hb;have n0_:=yH HB hb;have HI0:=am (show IsS180 w0 _ g l0 0 0 from ⟨A0,c0,hbox,by rw [hg];exact pz (yW HB),HR.out⟩);have m0_:=yb BK145 hb;have NB0_145:=yg BK145 hg;have NB145_0:=am (Ne.symm NB0_145.out);clear BK145;have BK145:=m0_;clear m0_ HB;have HB:=n0_;clear n0_;have HK:=am (KeepBut.of_below HB.out g none);clear hb hbox hg)|((with_reducible refine gD 2 ?_);refine gB (cs:=#[.slice none 0 0]) 43 ?_;intro gb145 hg w7 hbox hb;have n2_:=am (pu D10 hb);have n3_:=am (hbox);have n4_:=am ((by rw [hg];exact (pz (yW HB)):w0.heap.size≤gb145));have n5_:=n4_;clear HB;have HB:=n2_;have BK145:=n3_;have GW145:=n4_;have GE145:=n5_;clear n2_ n3_ n4_ n5_ hb hbox hg)|((with_reducible refine gC 159 ?_);refine gM (some 11) Try.func159 (args:=#[.pointer (some ⟨g,0,none⟩)]) (spec_l1Cur_side.calls g l0 0 0 t146 t147 t148 w0 _ ?side1 ?side2 A2.out) ?_;(case side1=>repeat (first|(with_reducible first|exact HI0.out|apply IsS180.alloc|apply IsS180.drewN|apply IsS180.drew|apply IsS180.set_1|apply IsS180.set_2|refine IsS180.far ?_ NB0_145.out _)|exact HI0.out));(case side2=>repeat (first|(with_reducible first|exact HB.out|apply pa|apply pb|apply pd|refine pt ?_ (IsS180.ge HI0.out)|refine pt ?_ GE145.out)|exact HB.out));rintro e w8 ⟨rfl,hi,hb,hk⟩;refine ⟨_,rfl,?_⟩;replace BK145:=am (KeepBut.blk hk (g':=gb145) (o:=.cells #[.slice none 0 0] 43 (0,0)) (yB BK145) NB145_0.out D52);replace HK:=am (KeepBut.trans D26 hk (.inl rfl));replace HB:=am (hb);replace HI0:=am (hi);clear hb hk hi)|((with_reducible refine gC 160 ?_);refine gM (some 14) Try.func160 (args:=#[.pointer (some ⟨g,0,none⟩), .int .i64 12]) (spec_l1Cur_one.calls g l0 t147 t148 12 true t150 t151 w0 _ ?side1 ?side2 A3.out) ?_;(case side1=>repeat (first|(with_reducible first|exact HI0.out|apply IsS180.alloc|apply IsS180.drewN|apply IsS180.drew|apply IsS180.set_1|apply IsS180.set_2|refine IsS180.far ?_ NB0_145.out _)|exact HI0.out));(case side2=>repeat (first|(with_reducible first|exact HB.out|apply pa|apply pb|apply pd|refine pt ?_ (IsS180.ge HI0.out)|refine pt ?_ GE145.out)|exact HB.out));rintro e w9 ⟨rfl,hi,hb,hk⟩;refine ⟨_,rfl,?_⟩;replace BK145:=am (KeepBut.blk hk (g':=gb145) (o:=.cells #[.slice none 0 0] 43 (0,0)) (yB BK145) NB145_0.out D52);replace HK:=am (KeepBut.trans D26 hk (.inl rfl));replace HB:=am (hb);replace HI0:=am (hi);clear hb hk hi)|((with_reducible refine gC 161 ?_);refine gM (some 20) Try.func161 (args:=#[.pointer (some ⟨g,0,none⟩), .int .i64 t146, .int .i64 t146]) (spec_l1Cur_matrix.calls k g l0 t150 t151 t146 t146 t152 t155 t156 w0 _ ?side1 ?side2 A5.out) ?_;(case side1=>repeat (first|(with_reducible first|exact HI0.out|apply IsS180.alloc|apply IsS180.drewN|apply IsS180.drew|apply IsS180.set_1|apply IsS180.set_2|refine IsS180.far ?_ NB0_145.out _)|exact HI0.out));(case side2=>repeat (first|(with_reducible first|exact HB.out|apply pa|apply pb|apply pd|refine pt ?_ (IsS180.ge HI0.out)|refine pt ?_ GE145.out)|exact HB.out));rintro e w10 ⟨v153,rfl,ho0,hi,hb,hk⟩;refine ⟨_,rfl,?_⟩;replace BK145:=am (KeepBut.blk hk (g':=gb145) (o:=.cells #[.slice none 0 0] 43 (0,0)) (yB BK145) NB145_0.out D52);have HO154:=am (Kd.S_lower ho0 (keep_size (w:=w0) (g:=g) (row:=none) D26));replace HK:=am (KeepBut.trans D26 hk (.inl rfl));replace HB:=am (hb);replace HI0:=am (hi);clear hb hk hi ho0)|((with_reducible refine gC 162 ?_);refine gM (some 23) Try.func162 (args:=#[.pointer (some ⟨g,0,none⟩), .int .i64 (wrap64 (t146+1))]) (spec_l1Cur_vector.calls k g l0 t155 t156 (wrap64 (t146+1)) t157 t160 t161 w0 _ ?side1 ?side2 A6.out) ?_;(case side1=>repeat (first|(with_reducible first|exact HI0.out|apply IsS180.alloc|apply IsS180.drewN|apply IsS180.drew|apply IsS180.set_1|apply IsS180.set_2|refine IsS180.far ?_ NB0_145.out _)|exact HI0.out));(case side2=>repeat (first|(with_reducible first|exact HB.out|apply pa|apply pb|apply pd|refine pt ?_ (IsS180.ge HI0.out)|refine pt ?_ GE145.out)|exact HB.out));rintro e w11 ⟨v158,rfl,ho0,hi,hb,hk⟩;refine ⟨_,rfl,?_⟩;replace BK145:=am (KeepBut.blk hk (g':=gb145) (o:=.cells #[.slice none 0 0] 43 (0,0)) (yB BK145) NB145_0.out D52);replace HO154:=am (Kd.S_mono (Kd.S_told (Kd.S_oldK (IsS180.apartS (show IsS180 w0 _ g l0 t155 t156 from by repeat (first|(with_reducible first|exact HI0.out|apply IsS180.alloc|apply IsS180.drewN|apply IsS180.drew|apply IsS180.set_1|apply IsS180.set_2|refine IsS180.far ?_ NB0_145.out _)|exact HI0.out)) (yS HO154) D24) hk) (Kd.R_base ho0)) (fun _ h_=>h_.1));have HO159:=am (Kd.R_lower ho0 (keep_size (w:=w0) (g:=g) (row:=none) D26));replace HK:=am (KeepBut.trans D26 hk (.inl rfl));replace HB:=am (hb);replace HI0:=am (hi);clear hb hk hi ho0;obtain ⟨Ao12,co12,eo12⟩:=Kd.S_slice HO154.out;subst eo12;have hnb13:=NB145_0.out;have hnc13:=NB0_145.out;obtain ⟨hcz14_0,hfz14_0⟩:=yk1 BK145))
  refine bodyPost_ret (results_ct rfl _ _ gb145 43 #[.slice Ao12 t152.length co12] (0,0) _ rfl (by refine sB ?_;refine blk_put (cs:=#[.slice none 0 0]) ?_ 0 _ rfl;exact yB BK145) Try.underlying43 rfl D3) rfl ?_
  exact ⟨_,_,D0,by refine sS ?_;exact Kd.S_mono (Kd.S_far (p:=⟨gb145,0,none⟩) (Kd.S_types HO154.out BK145.out D24) (fun _ hk=>hk.2) (.slice Ao12 t152.length co12)) (fun _ hk=>hk.1.2),by refine sR ?_;exact Kd.R_mono (Kd.R_far (p:=⟨gb145,0,none⟩) (Kd.R_types HO159.out BK145.out D24) (fun _ hk=>hk.2) (.slice Ao12 t152.length co12)) (fun _ hk=>trivial),D51⟩
 replace c4:=Bool.eq_false_iff.mpr c4
 subst c4
 replace H:=yn H
 obtain ⟨⟨t162,t165,t166⟩,A15,H⟩:=yo H
 try dsimp only at H
 obtain ⟨⟨t167,t170,t171⟩,A16,H⟩:=yo H
 try dsimp only at H
 simp only [Option.some.injEq,Prod.mk.injEq] at H
 obtain ⟨rfl,rfl,rfl,rfl⟩:=H
 go_enter Try.func75,Try.ntmps75
 go_wp2_with (first|((with_reducible refine gD 9 ?_);refine gB (cs:=#[.slice A0 l0.length c0, .int .i64 0, .int .u64 0]) 180 ?_;intro g hg wS hbox hb;have n0_:=yH HB hb;have HI0:=am (show IsS180 w0 _ g l0 0 0 from ⟨A0,c0,hbox,by rw [hg];exact pz (yW HB),HR.out⟩);have m0_:=yb BK145 hb;have NB0_145:=yg BK145 hg;have NB145_0:=am (Ne.symm NB0_145.out);clear BK145;have BK145:=m0_;clear m0_ HB;have HB:=n0_;clear n0_;have HK:=am (KeepBut.of_below HB.out g none);clear hb hbox hg)|((with_reducible refine gD 2 ?_);refine gB (cs:=#[.slice none 0 0]) 43 ?_;intro gb145 hg w17 hbox hb;have n2_:=am (pu D10 hb);have n3_:=am (hbox);have n4_:=am ((by rw [hg];exact (pz (yW HB)):w0.heap.size≤gb145));have n5_:=n4_;clear HB;have HB:=n2_;have BK145:=n3_;have GW145:=n4_;have GE145:=n5_;clear n2_ n3_ n4_ n5_ hb hbox hg)|((with_reducible refine gC 159 ?_);refine gM (some 11) Try.func159 (args:=#[.pointer (some ⟨g,0,none⟩)]) (spec_l1Cur_side.calls g l0 0 0 t146 t147 t148 w0 _ ?side1 ?side2 A2.out) ?_;(case side1=>repeat (first|(with_reducible first|exact HI0.out|apply IsS180.alloc|apply IsS180.drewN|apply IsS180.drew|apply IsS180.set_1|apply IsS180.set_2|refine IsS180.far ?_ NB0_145.out _)|exact HI0.out));(case side2=>repeat (first|(with_reducible first|exact HB.out|apply pa|apply pb|apply pd|refine pt ?_ (IsS180.ge HI0.out)|refine pt ?_ GE145.out)|exact HB.out));rintro e w18 ⟨rfl,hi,hb,hk⟩;refine ⟨_,rfl,?_⟩;replace BK145:=am (KeepBut.blk hk (g':=gb145) (o:=.cells #[.slice none 0 0] 43 (0,0)) (yB BK145) NB145_0.out D52);replace HK:=am (KeepBut.trans D26 hk (.inl rfl));replace HB:=am (hb);replace HI0:=am (hi);clear hb hk hi)|((with_reducible refine gC 160 ?_);refine gM (some 14) Try.func160 (args:=#[.pointer (some ⟨g,0,none⟩), .int .i64 12]) (spec_l1Cur_one.calls g l0 t147 t148 12 false t150 t151 w0 _ ?side1 ?side2 A3.out) ?_;(case side1=>repeat (first|(with_reducible first|exact HI0.out|apply IsS180.alloc|apply IsS180.drewN|apply IsS180.drew|apply IsS180.set_1|apply IsS180.set_2|refine IsS180.far ?_ NB0_145.out _)|exact HI0.out));(case side2=>repeat (first|(with_reducible first|exact HB.out|apply pa|apply pb|apply pd|refine pt ?_ (IsS180.ge HI0.out)|refine pt ?_ GE145.out)|exact HB.out));rintro e w19 ⟨rfl,hi,hb,hk⟩;refine ⟨_,rfl,?_⟩;replace BK145:=am (KeepBut.blk hk (g':=gb145) (o:=.cells #[.slice none 0 0] 43 (0,0)) (yB BK145) NB145_0.out D52);replace HK:=am (KeepBut.trans D26 hk (.inl rfl));replace HB:=am (hb);replace HI0:=am (hi);clear hb hk hi)|((with_reducible refine gC 161 ?_);refine gM (some 20) Try.func161 (args:=#[.pointer (some ⟨g,0,none⟩), .int .i64 t146, .int .i64 t146]) (spec_l1Cur_matrix.calls k g l0 t150 t151 t146 t146 t162 t165 t166 w0 _ ?side1 ?side2 A15.out) ?_;(case side1=>repeat (first|(with_reducible first|exact HI0.out|apply IsS180.alloc|apply IsS180.drewN|apply IsS180.drew|apply IsS180.set_1|apply IsS180.set_2|refine IsS180.far ?_ NB0_145.out _)|exact HI0.out));(case side2=>repeat (first|(with_reducible first|exact HB.out|apply pa|apply pb|apply pd|refine pt ?_ (IsS180.ge HI0.out)|refine pt ?_ GE145.out)|exact HB.out));rintro e w20 ⟨v163,rfl,ho0,hi,hb,hk⟩;refine ⟨_,rfl,?_⟩;replace BK145:=am (KeepBut.blk hk (g':=gb145) (o:=.cells #[.slice none 0 0] 43 (0,0)) (yB BK145) NB145_0.out D52);have HO164:=am (Kd.S_lower ho0 (keep_size (w:=w0) (g:=g) (row:=none) D26));replace HK:=am (KeepBut.trans D26 hk (.inl rfl));replace HB:=am (hb);replace HI0:=am (hi);clear hb hk hi ho0)|((with_reducible refine gC 162 ?_);refine gM (some 23) Try.func162 (args:=#[.pointer (some ⟨g,0,none⟩), .int .i64 t146]) (spec_l1Cur_vector.calls k g l0 t165 t166 t146 t167 t170 t171 w0 _ ?side1 ?side2 A16.out) ?_;(case side1=>repeat (first|(with_reducible first|exact HI0.out|apply IsS180.alloc|apply IsS180.drewN|apply IsS180.drew|apply IsS180.set_1|apply IsS180.set_2|refine IsS180.far ?_ NB0_145.out _)|exact HI0.out));(case side2=>repeat (first|(with_reducible first|exact HB.out|apply pa|apply pb|apply pd|refine pt ?_ (IsS180.ge HI0.out)|refine pt ?_ GE145.out)|exact HB.out));rintro e w21 ⟨v168,rfl,ho0,hi,hb,hk⟩;refine ⟨_,rfl,?_⟩;replace BK145:=am (KeepBut.blk hk (g':=gb145) (o:=.cells #[.slice none 0 0] 43 (0,0)) (yB BK145) NB145_0.out D52);replace HO164:=am (Kd.S_mono (Kd.S_told (Kd.S_oldK (IsS180.apartS (show IsS180 w0 _ g l0 t165 t166 from by repeat (first|(with_reducible first|exact HI0.out|apply IsS180.alloc|apply IsS180.drewN|apply IsS180.drew|apply IsS180.set_1|apply IsS180.set_2|refine IsS180.far ?_ NB0_145.out _)|exact HI0.out)) (yS HO164) D24) hk) (Kd.R_base ho0)) (fun _ h_=>h_.1));have HO169:=am (Kd.R_lower ho0 (keep_size (w:=w0) (g:=g) (row:=none) D26));replace HK:=am (KeepBut.trans D26 hk (.inl rfl));replace HB:=am (hb);replace HI0:=am (hi);clear hb hk hi ho0;obtain ⟨Ao22,co22,eo22⟩:=Kd.S_slice HO164.out;subst eo22;have hnb23:=NB145_0.out;have hnc23:=NB0_145.out;obtain ⟨hcz24_0,hfz24_0⟩:=yk1 BK145))
 refine bodyPost_ret (results_ct rfl _ _ gb145 43 #[.slice Ao22 t162.length co22] (0,0) _ rfl (by refine sB ?_;refine blk_put (cs:=#[.slice none 0 0]) ?_ 0 _ rfl;exact yB BK145) Try.underlying43 rfl D3) rfl ?_
 exact ⟨_,_,D0,by refine sS ?_;exact Kd.S_mono (Kd.S_far (p:=⟨gb145,0,none⟩) (Kd.S_types HO164.out BK145.out D24) (fun _ hk=>hk.2) (.slice Ao22 t162.length co22)) (fun _ hk=>hk.1.2),by refine sR ?_;exact Kd.R_mono (Kd.R_far (p:=⟨gb145,0,none⟩) (Kd.R_types HO169.out BK145.out D24) (fun _ hk=>hk.2) (.slice Ao22 t162.length co22)) (fun _ hk=>trivial),D51⟩

def laws_sameBytes.f (l0:List Int) (l1:List Int):Option (Bool):=some ((strOfNums l0).toList == (strOfNums l1).toList)
theorem laws_sameBytes.calls (A0:Option Addr) (c0:Nat) (l0:List Int) (A1:Option Addr) (c1:Nat) (l1:List Int) (r:Bool) (w:World) (hr0:Kd.C (Kd.int .u8) w A0 l0.length l0) (hc0:l0.length≤c0) (hr1:Kd.C (Kd.int .u8) w A1 l1.length l1) (hc1:l1.length≤c1) (h:laws_sameBytes.f l0 l1=some r) :
  Calls Try.prog 163 #[.slice A0 l0.length c0, .slice A1 l1.length c1] w fun e w'=>e = .returned (.bool r)∧Drawn0 w w':=by
 have HR0:=am hr0
 have HC0:=am hc0
 clear hr0 hc0
 have HR1:=am hr1
 have HC1:=am hc1
 clear hr1 hc1
 have H:=h
 unfold laws_sameBytes.f at H
 clear h
 obtain rfl:=Option.some.inj H
 have hcv3:=Kd.C_string (P:=Try.prog) (A:=A0) (c:=c0) Try.underlying57 Try.underlying5 Try.underlying9 HR0.out
 have hcv4:=Kd.C_string (P:=Try.prog) (A:=A1) (c:=c1) Try.underlying57 Try.underlying5 Try.underlying9 HR1.out
 go_enter Try.func163,Try.ntmps163
 go_wp2
 go_ret
 exact ⟨D2,D34⟩

def laws_sameMatrices.l0:Nat→Int→Int→List (List Int)→List (List Int)→Option (Bool)
 | 0,_,_,_,_=>none
 | k+1,x15,x16,x270000,x271000=>if x16 < x15 then (if 0≤x16 then (if x16 < (x270000.length:Int) then (if x16 < (x271000.length:Int) then ((laws_sameBytes.f (rd_L1 x270000 x16) (rd_L1 x271000 x16)).bind fun t273=>(if t273=true then (laws_sameMatrices.l0 k x15 (wrap64 (x16+1)) x270000 x271000) else (some false))) else (none)) else (none)) else (none)) else (some true)
def laws_sameMatrices.f (k:Nat) (l0_0:List (List Int)) (l1_0:List (List Int)):Option (Bool):=if (l0_0.length:Int)=(l1_0.length:Int) then (laws_sameMatrices.l0 k (l0_0.length:Int) 0 l0_0 l1_0) else (some false)
theorem laws_sameMatrices.mono_l:∀ k,(∀ y0 y1 y2 y3,LeO (laws_sameMatrices.l0 k y0 y1 y2 y3) (laws_sameMatrices.l0 (k+1) y0 y1 y2 y3))
 | 0=>fun _ _ _ _ r h=>by simp [laws_sameMatrices.l0] at h
 | k+1=>by
  have ih0:=laws_sameMatrices.mono_l k
  intro y0 y1 y2 y3
  unfold laws_sameMatrices.l0
  exact mm
theorem laws_sameMatrices.mono:∀ a0 a1 k,LeO (laws_sameMatrices.f k a0 a1) (laws_sameMatrices.f (k+1) a0 a1):=by
 intro a0 a1 k
 have ih0:=laws_sameMatrices.mono_l k
 unfold laws_sameMatrices.f
 exact mm
theorem laws_sameMatrices.calls (k:Nat) (A0_0:Option Addr) (c0_0:Nat) (l0_0:List (List Int)) (A1_0:Option Addr) (c1_0:Nat) (l1_0:List (List Int)) (r:Bool) (w:World) (hr0_0:Kd.C (Kd.slice 5 (Kd.int .u8)) w A0_0 l0_0.length l0_0) (hc0_0:l0_0.length≤c0_0) (hr1_0:Kd.C (Kd.slice 5 (Kd.int .u8)) w A1_0 l1_0.length l1_0) (hc1_0:l1_0.length≤c1_0) (h:laws_sameMatrices.f k l0_0 l1_0=some r) :
  Calls Try.prog 76 #[.agg #[.slice A0_0 l0_0.length c0_0], .agg #[.slice A1_0 l1_0.length c1_0]] w fun e w'=>e = .returned (.bool r)∧Below w.heap.size w w':=by
 have hu43:=Try.underlying43
 have HR0_0:=am hr0_0
 have HC0_0:=am hc0_0
 clear hr0_0 hc0_0
 have HR1_0:=am hr1_0
 have HC1_0:=am hc1_0
 clear hr1_0 hc1_0
 have HB:=am (Below.refl w.heap.size w)
 have H:=h
 unfold laws_sameMatrices.f at H
 clear h
 by_cases c3:(l0_0.length:Int)=(l1_0.length:Int)
 ·rw [if_pos c3] at H
  have c3b0:((l0_0.length:Int) == (l1_0.length:Int))=true:=beq_iff_eq.mpr c3
  have c3b1:((l0_0.length:Int) != (l1_0.length:Int))=false:=bne_eq_false_iff_eq.mpr c3
  have c3b2:(l0_0.length == l1_0.length)=true:=by first|simpa using c3|(simp at c3 ⊢;omega)
  clear c3
  have H':=am H
  clear H
  go_enter Try.func76,Try.ntmps76
  go_wp2_with (first|((with_reducible refine gD 2 ?_);refine gB (cs:=#[.slice A0_0 l0_0.length c0_0]) 43 ?_;intro gb269 hg w4 hbox hb;have BK269:=am (hbox);have GW269:=ye HB hg;replace HB:=yH HB hb;have GE269:=GW269;clear hb hbox hg)|((with_reducible refine gD 3 ?_);refine gB (cs:=#[.slice A1_0 l1_0.length c1_0]) 43 ?_;intro gb270 hg w5 hbox hb;have BK270:=am (hbox);have GW270:=ye HB hg;replace HB:=yH HB hb;have NB269_270:=yl BK269 hg;have NB270_269:=yg BK269 hg;replace BK269:=yb BK269 hb;have GE270:=GW270;clear hb hbox hg;have hnb6:=NB269_270.out;have hnc6:=NB270_269.out;obtain ⟨hcz7_0,hfz7_0⟩:=yk1 BK269;obtain ⟨hcz8_0,hfz8_0⟩:=yk1 BK270))
  repeat (go_quiet (first|((with_reducible refine gate_dst (N:=2) rfl ?_);refine box_event ?hg (N:=2) ?hd (cs:=#[.slice A0_0 l0_0.length c0_0]) (t:=43) ?hr ?_;(case hd=>rfl);(case hg=>rfl);(case hr=>first|(go_simp;done)|(go_simp;rfl));intro gb269 hg w4 hbox hb;have n0_:=yH HB hb;have n1_:=am (hbox);have n2_:=ye HB hg;have n3_:=ye HB hg;clear HB;have HB:=n0_;have BK269:=n1_;have GW269:=n2_;have GE269:=n3_;clear n0_ n1_ n2_ n3_;clear hb hbox hg)|((with_reducible refine gate_dst (N:=3) rfl ?_);refine box_event ?hg (N:=3) ?hd (cs:=#[.slice A1_0 l1_0.length c1_0]) (t:=43) ?hr ?_;(case hd=>rfl);(case hg=>rfl);(case hr=>first|(go_simp;done)|(go_simp;rfl));intro gb270 hg w5 hbox hb;have n0_:=yb BK269 hb;have n1_:=yH HB hb;have n2_:=am (hbox);have n3_:=ye HB hg;have n4_:=ye HB hg;have n5_:=yl BK269 hg;have n6_:=yg BK269 hg;clear BK269;clear HB;have BK269:=n0_;have HB:=n1_;have BK270:=n2_;have GW270:=n3_;have GE270:=n4_;have NB269_270:=n5_;have NB270_269:=n6_;clear n0_ n1_ n2_ n3_ n4_ n5_ n6_;clear hb hbox hg;have hnb6:=NB269_270.out;have hnc6:=NB270_269.out;have hcz7_0:=yk BK269 0;have hfz7_0:=blk_frozen BK269.out 0;have hcz8_0:=yk BK270 0;have hfz8_0:=blk_frozen BK270.out 0));try go_wp2_with (first|((with_reducible refine gate_dst (N:=2) rfl ?_);refine box_event ?hg (N:=2) ?hd (cs:=#[.slice A0_0 l0_0.length c0_0]) (t:=43) ?hr ?_;(case hd=>rfl);(case hg=>rfl);(case hr=>first|(go_simp;done)|(go_simp;rfl));intro gb269 hg w4 hbox hb;have n0_:=yH HB hb;have n1_:=am (hbox);have n2_:=ye HB hg;have n3_:=ye HB hg;clear HB;have HB:=n0_;have BK269:=n1_;have GW269:=n2_;have GE269:=n3_;clear n0_ n1_ n2_ n3_;clear hb hbox hg)|((with_reducible refine gate_dst (N:=3) rfl ?_);refine box_event ?hg (N:=3) ?hd (cs:=#[.slice A1_0 l1_0.length c1_0]) (t:=43) ?hr ?_;(case hd=>rfl);(case hg=>rfl);(case hr=>first|(go_simp;done)|(go_simp;rfl));intro gb270 hg w5 hbox hb;have n0_:=yb BK269 hb;have n1_:=yH HB hb;have n2_:=am (hbox);have n3_:=ye HB hg;have n4_:=ye HB hg;have n5_:=yl BK269 hg;have n6_:=yg BK269 hg;clear BK269;clear HB;have BK269:=n0_;have HB:=n1_;have BK270:=n2_;have GW270:=n3_;have GE270:=n4_;have NB269_270:=n5_;have NB270_269:=n6_;clear n0_ n1_ n2_ n3_ n4_ n5_ n6_;clear hb hbox hg;have hnb6:=NB269_270.out;have hnc6:=NB270_269.out;have hcz7_0:=yk BK269 0;have hfz7_0:=blk_frozen BK269.out 0;have hcz8_0:=yk BK270 0;have hfz8_0:=blk_frozen BK270.out 0)))
  go_loopg [16] k (fun kq v16 w'=>∃ (x16_1:Int),v16 = .int .i64 x16_1∧Aside0 (laws_sameMatrices.l0 kq (l0_0.length:Int) x16_1 l0_0 l1_0=some r)∧Aside0 (kq≤k)∧Aside0 (w'.heap[gb269]? = some (.cells #[(.slice A0_0 l0_0.length c0_0)] 43 (0,0)))∧Aside0 (w'.heap[gb270]? = some (.cells #[(.slice A1_0 l1_0.length c1_0)] 43 (0,0)))∧Aside0 (Below w.heap.size w w'))
  case atStart=>exact ⟨(0),D2,H',⟨Nat.le_refl _⟩,⟨yB BK269⟩,⟨yB BK270⟩,⟨yW HB⟩⟩
  case round =>
   clear H'
   try clear c1
   try clear p2
   try clear c3
   try clear c3b0
   try clear c3b1
   try clear c3b2
   try clear c6
   try clear c7
   try clear hcz7_0
   try clear hcz8_0
   try clear hfz7_0
   try clear hfz8_0
   obtain ⟨x16_1,rfl,HA,HK1,BK269,BK270,HB⟩:=hrel
   cases gk with
   | zero=>exact absurd HA.out (by simp [laws_sameMatrices.l0])
   | succ k1 =>
    have H:=HA.out
    clear HA
    simp only [laws_sameMatrices.l0] at H
    by_cases c9:x16_1 < (l0_0.length:Int)
    ·rw [if_pos c9] at H
     have c9b0:=decide_eq_true c9
     clear c9
     obtain ⟨c10,H⟩:=yi H
     have c10b0:=decide_eq_true c10
     clear c10
     obtain ⟨c11,H⟩:=yi H
     have c11b0:=decide_eq_true c11
     clear c11
     obtain ⟨c12,H⟩:=yi H
     have c12b0:=decide_eq_true c12
     clear c12
     obtain ⟨t273,A13,H⟩:=yo H
     by_cases c14:t273=true
     ·subst c14
      replace H:=yt H
      have H':=am H
      clear H
      have hnb15:=NB269_270.out
      have hnc15:=NB270_269.out
      obtain ⟨hcz16_0,hfz16_0⟩:=yk1 BK269
      have p271:0≤(x16_1:Int):=od D1
      have q271:x16_1 < (l0_0.length:Int):=od D1
      obtain ⟨ad271,A271_0,c271_0,e271,hx271_0,hl271_0,hi271_0⟩:=at_L1 HR0_0.out x16_1 p271 q271
      cases e271
      replace hx271_0:=(HB.out.cell (World.block_lt_of_cell? w _ hx271_0)).trans hx271_0
      have HR271_0:=am hi271_0
      have HC271_0:=am hl271_0
      clear hi271_0 hl271_0
      replace p271:=eq_true p271
      replace q271:=eq_true q271
      obtain ⟨hcz17_0,hfz17_0⟩:=yk1 BK270
      have p272:0≤(x16_1:Int):=od D1
      have q272:x16_1 < (l1_0.length:Int):=od D1
      obtain ⟨ad272,A272_0,c272_0,e272,hx272_0,hl272_0,hi272_0⟩:=at_L1 HR1_0.out x16_1 p272 q272
      cases e272
      replace hx272_0:=(HB.out.cell (World.block_lt_of_cell? w _ hx272_0)).trans hx272_0
      have HR272_0:=am hi272_0
      have HC272_0:=am hl272_0
      clear hi272_0 hl272_0
      replace p272:=eq_true p272
      replace q272:=eq_true q272
      go_wp2_with (first|(go_at_call 163;(with_reducible refine (laws_sameBytes.calls _ _ (rd_L1 l0_0 x16_1) _ _ (rd_L1 l1_0 x16_1) true _ (yc (Kd.C_below HR271_0.out HB.out)) HC271_0.out (yc (Kd.C_below HR272_0.out HB.out)) HC272_0.out A13.out).mono ?_);rintro e w' ⟨rfl,⟨nd,rfl⟩⟩;(try first|exact ⟨rfl,_,World.drewN_drewN _ _ _⟩|exact ⟨rfl,_,Eq.trans (World.drewN_drewN _ _ _) (congrArg (World.drewN _) (Nat.add_assoc _ _ _))⟩)))
      repeat (go_quiet (first|(go_at_call 163;(with_reducible refine (laws_sameBytes.calls _ _ (rd_L1 l0_0 x16_1) _ _ (rd_L1 l1_0 x16_1) true _ (yc (Kd.C_below HR271_0.out HB.out)) HC271_0.out (yc (Kd.C_below HR272_0.out HB.out)) HC272_0.out A13.out).mono ?_);rintro e w' ⟨rfl,⟨nd,rfl⟩⟩;(try first|exact ⟨rfl,_,World.drewN_drewN _ _ _⟩|exact ⟨rfl,_,Eq.trans (World.drewN_drewN _ _ _) (congrArg (World.drewN _) (Nat.add_assoc _ _ _))⟩)));try go_wp2_with (first|(go_at_call 163;(with_reducible refine (laws_sameBytes.calls _ _ (rd_L1 l0_0 x16_1) _ _ (rd_L1 l1_0 x16_1) true _ (yc (Kd.C_below HR271_0.out HB.out)) HC271_0.out (yc (Kd.C_below HR272_0.out HB.out)) HC272_0.out A13.out).mono ?_);rintro e w' ⟨rfl,⟨nd,rfl⟩⟩;(try first|exact ⟨rfl,_,World.drewN_drewN _ _ _⟩|exact ⟨rfl,_,Eq.trans (World.drewN_drewN _ _ _) (congrArg (World.drewN _) (Nat.add_assoc _ _ _))⟩))))
      go_roundg k1
      case measure=>have:=HK1.out;omega
      case rel=>exact ⟨(wrap64 (x16_1+1)),D2,H',⟨D50⟩,⟨yB BK269⟩,⟨yB BK270⟩,⟨yW HB⟩⟩
     replace c14:=Bool.eq_false_iff.mpr c14
     subst c14
     replace H:=yn H
     obtain rfl:=Option.some.inj H
     have hnb18:=NB269_270.out
     have hnc18:=NB270_269.out
     obtain ⟨hcz19_0,hfz19_0⟩:=yk1 BK269
     have p271:0≤(x16_1:Int):=od D1
     have q271:x16_1 < (l0_0.length:Int):=od D1
     obtain ⟨ad271,A271_0,c271_0,e271,hx271_0,hl271_0,hi271_0⟩:=at_L1 HR0_0.out x16_1 p271 q271
     cases e271
     replace hx271_0:=(HB.out.cell (World.block_lt_of_cell? w _ hx271_0)).trans hx271_0
     have HR271_0:=am hi271_0
     have HC271_0:=am hl271_0
     clear hi271_0 hl271_0
     replace p271:=eq_true p271
     replace q271:=eq_true q271
     obtain ⟨hcz20_0,hfz20_0⟩:=yk1 BK270
     have p272:0≤(x16_1:Int):=od D1
     have q272:x16_1 < (l1_0.length:Int):=od D1
     obtain ⟨ad272,A272_0,c272_0,e272,hx272_0,hl272_0,hi272_0⟩:=at_L1 HR1_0.out x16_1 p272 q272
     cases e272
     replace hx272_0:=(HB.out.cell (World.block_lt_of_cell? w _ hx272_0)).trans hx272_0
     have HR272_0:=am hi272_0
     have HC272_0:=am hl272_0
     clear hi272_0 hl272_0
     replace p272:=eq_true p272
     replace q272:=eq_true q272
     go_wp2_with (first|(go_at_call 163;(with_reducible refine (laws_sameBytes.calls _ _ (rd_L1 l0_0 x16_1) _ _ (rd_L1 l1_0 x16_1) false _ (yc (Kd.C_below HR271_0.out HB.out)) HC271_0.out (yc (Kd.C_below HR272_0.out HB.out)) HC272_0.out A13.out).mono ?_);rintro e w' ⟨rfl,⟨nd,rfl⟩⟩;(try first|exact ⟨rfl,_,World.drewN_drewN _ _ _⟩|exact ⟨rfl,_,Eq.trans (World.drewN_drewN _ _ _) (congrArg (World.drewN _) (Nat.add_assoc _ _ _))⟩)))
     repeat (go_quiet (first|(go_at_call 163;(with_reducible refine (laws_sameBytes.calls _ _ (rd_L1 l0_0 x16_1) _ _ (rd_L1 l1_0 x16_1) false _ (yc (Kd.C_below HR271_0.out HB.out)) HC271_0.out (yc (Kd.C_below HR272_0.out HB.out)) HC272_0.out A13.out).mono ?_);rintro e w' ⟨rfl,⟨nd,rfl⟩⟩;(try first|exact ⟨rfl,_,World.drewN_drewN _ _ _⟩|exact ⟨rfl,_,Eq.trans (World.drewN_drewN _ _ _) (congrArg (World.drewN _) (Nat.add_assoc _ _ _))⟩)));try go_wp2_with (first|(go_at_call 163;(with_reducible refine (laws_sameBytes.calls _ _ (rd_L1 l0_0 x16_1) _ _ (rd_L1 l1_0 x16_1) false _ (yc (Kd.C_below HR271_0.out HB.out)) HC271_0.out (yc (Kd.C_below HR272_0.out HB.out)) HC272_0.out A13.out).mono ?_);rintro e w' ⟨rfl,⟨nd,rfl⟩⟩;(try first|exact ⟨rfl,_,World.drewN_drewN _ _ _⟩|exact ⟨rfl,_,Eq.trans (World.drewN_drewN _ _ _) (congrArg (World.drewN _) (Nat.add_assoc _ _ _))⟩))))
     go_ret
     exact ⟨D0,yW HB⟩
    rw [if_neg c9] at H
    have c9b0:=decide_eq_false c9
    clear c9
    obtain rfl:=Option.some.inj H
    go_wp2
    repeat (go_quiet (fail);try go_wp2)
    go_ret
    exact ⟨D0,yW HB⟩
 rw [if_neg c3] at H
 have c3b0:((l0_0.length:Int) == (l1_0.length:Int))=false:=beq_eq_false_iff_ne.mpr c3
 have c3b1:((l0_0.length:Int) != (l1_0.length:Int))=true:=bne_iff_ne.mpr c3
 have c3b2:(l0_0.length == l1_0.length)=false:=by first|simpa using c3|(simp at c3 ⊢;omega)
 obtain rfl:=Option.some.inj H
 go_enter Try.func76,Try.ntmps76
 go_wp2_with (first|((with_reducible refine gD 2 ?_);refine gB (cs:=#[.slice A0_0 l0_0.length c0_0]) 43 ?_;intro gb269 hg w21 hbox hb;have BK269:=am (hbox);have GW269:=ye HB hg;replace HB:=yH HB hb;have GE269:=GW269;clear hb hbox hg)|((with_reducible refine gD 3 ?_);refine gB (cs:=#[.slice A1_0 l1_0.length c1_0]) 43 ?_;intro gb270 hg w22 hbox hb;have BK270:=am (hbox);have GW270:=ye HB hg;replace HB:=yH HB hb;have NB269_270:=yl BK269 hg;have NB270_269:=yg BK269 hg;replace BK269:=yb BK269 hb;have GE270:=GW270;clear hb hbox hg;have hnb23:=NB269_270.out;have hnc23:=NB270_269.out;obtain ⟨hcz24_0,hfz24_0⟩:=yk1 BK269;obtain ⟨hcz25_0,hfz25_0⟩:=yk1 BK270))
 repeat (go_quiet (first|((with_reducible refine gate_dst (N:=2) rfl ?_);refine box_event ?hg (N:=2) ?hd (cs:=#[.slice A0_0 l0_0.length c0_0]) (t:=43) ?hr ?_;(case hd=>rfl);(case hg=>rfl);(case hr=>first|(go_simp;done)|(go_simp;rfl));intro gb269 hg w21 hbox hb;have n0_:=yH HB hb;have n1_:=am (hbox);have n2_:=ye HB hg;have n3_:=ye HB hg;clear HB;have HB:=n0_;have BK269:=n1_;have GW269:=n2_;have GE269:=n3_;clear n0_ n1_ n2_ n3_;clear hb hbox hg)|((with_reducible refine gate_dst (N:=3) rfl ?_);refine box_event ?hg (N:=3) ?hd (cs:=#[.slice A1_0 l1_0.length c1_0]) (t:=43) ?hr ?_;(case hd=>rfl);(case hg=>rfl);(case hr=>first|(go_simp;done)|(go_simp;rfl));intro gb270 hg w22 hbox hb;have n0_:=yb BK269 hb;have n1_:=yH HB hb;have n2_:=am (hbox);have n3_:=ye HB hg;have n4_:=ye HB hg;have n5_:=yl BK269 hg;have n6_:=yg BK269 hg;clear BK269;clear HB;have BK269:=n0_;have HB:=n1_;have BK270:=n2_;have GW270:=n3_;have GE270:=n4_;have NB269_270:=n5_;have NB270_269:=n6_;clear n0_ n1_ n2_ n3_ n4_ n5_ n6_;clear hb hbox hg;have hnb23:=NB269_270.out;have hnc23:=NB270_269.out;have hcz24_0:=yk BK269 0;have hfz24_0:=blk_frozen BK269.out 0;have hcz25_0:=yk BK270 0;have hfz25_0:=blk_frozen BK270.out 0));try go_wp2_with (first|((with_reducible refine gate_dst (N:=2) rfl ?_);refine box_event ?hg (N:=2) ?hd (cs:=#[.slice A0_0 l0_0.length c0_0]) (t:=43) ?hr ?_;(case hd=>rfl);(case hg=>rfl);(case hr=>first|(go_simp;done)|(go_simp;rfl));intro gb269 hg w21 hbox hb;have n0_:=yH HB hb;have n1_:=am (hbox);have n2_:=ye HB hg;have n3_:=ye HB hg;clear HB;have HB:=n0_;have BK269:=n1_;have GW269:=n2_;have GE269:=n3_;clear n0_ n1_ n2_ n3_;clear hb hbox hg)|((with_reducible refine gate_dst (N:=3) rfl ?_);refine box_event ?hg (N:=3) ?hd (cs:=#[.slice A1_0 l1_0.length c1_0]) (t:=43) ?hr ?_;(case hd=>rfl);(case hg=>rfl);(case hr=>first|(go_simp;done)|(go_simp;rfl));intro gb270 hg w22 hbox hb;have n0_:=yb BK269 hb;have n1_:=yH HB hb;have n2_:=am (hbox);have n3_:=ye HB hg;have n4_:=ye HB hg;have n5_:=yl BK269 hg;have n6_:=yg BK269 hg;clear BK269;clear HB;have BK269:=n0_;have HB:=n1_;have BK270:=n2_;have GW270:=n3_;have GE270:=n4_;have NB269_270:=n5_;have NB270_269:=n6_;clear n0_ n1_ n2_ n3_ n4_ n5_ n6_;clear hb hbox hg;have hnb23:=NB269_270.out;have hnc23:=NB270_269.out;have hcz24_0:=yk BK269 0;have hfz24_0:=blk_frozen BK269.out 0;have hcz25_0:=yk BK270 0;have hfz25_0:=blk_frozen BK270.out 0)))
 go_ret
 exact ⟨D0,yW HB⟩

def impl_column.l0:Nat→Int→List Int→List (List Int)→Int→Int→Option (List Int)
 | 0,_,_,_,_,_=>none
 | k+1,x1,x5,x9,x10,x11=>if x11 < x10 then (if 0≤x11 then (if x11 < (x9.length:Int) then (if 0≤x1 then (if x1 < ((rd_L1 x9 x11).length:Int) then (if x5.length < 140737488355328 then (impl_column.l0 k x1 (x5 ++ [rd (rd_L1 x9 x11) x1]) x9 x10 (wrap64 (x11+1))) else (none)) else (none)) else (none)) else (none)) else (none)) else (some x5)
def impl_column.f (k:Nat) (l0:List (List Int)) (a1:Int):Option (List Int):=impl_column.l0 k a1 (([]:List Int)) l0 (l0.length:Int) 0
theorem impl_column.mono_l:∀ k,(∀ y0 y1 y2 y3 y4,LeO (impl_column.l0 k y0 y1 y2 y3 y4) (impl_column.l0 (k+1) y0 y1 y2 y3 y4))
 | 0=>fun _ _ _ _ _ r h=>by simp [impl_column.l0] at h
 | k+1=>by
  have ih0:=impl_column.mono_l k
  intro y0 y1 y2 y3 y4
  unfold impl_column.l0
  exact mm
theorem impl_column.mono:∀ a0 a1 k,LeO (impl_column.f k a0 a1) (impl_column.f (k+1) a0 a1):=by
 intro a0 a1 k
 have ih0:=impl_column.mono_l k
 unfold impl_column.f
 exact mm
theorem impl_column.calls (k:Nat) (A0:Option Addr) (c0:Nat) (l0:List (List Int)) (a1:Int) (r:List Int) (w:World) (hr0:Kd.C (Kd.slice 5 (Kd.int .u8)) w A0 l0.length l0) (hc0:l0.length≤c0) (h:impl_column.f k l0 a1=some r) :
  Calls Try.prog 201 #[.slice A0 l0.length c0, .int .i64 a1] w fun e w'=>∃ v0_:Value,e = .returned (v0_)∧Kd.R (Kd.int .u8) 5 w' w.heap.size (fun _=>True) v0_ r∧Below w.heap.size w w':=by
 have HR0:=am hr0
 have HC0:=am hc0
 clear hr0 hc0
 have HB:=am (Below.refl w.heap.size w)
 have H:=h
 unfold impl_column.f at H
 clear h
 generalize hy274:(([]:List Int):List Int)=y274 at H
 have Ny274:=am hy274.symm
 clear hy274
 have H':=am H
 clear H
 go_enter Try.func201,Try.ntmps201
 go_wp2_with (first|((with_reducible refine gD 8 ?_);refine Kd.R_lit (Kd.int .u8) _ 5 D35 (N:=8) D35 (xs:=([]:List Int)) (inner:=[]) (ok:=fun _=>True) (okp:=fun _=>True) D45 D72 (fun _ hk=>hk) trivial (Below.refl _ _) (Nat.le_refl _) D52 ?_;intro v275 w3 ho4 hb hg_ hnew_;clear hg_ hnew_;(first|rw [← Ny274.out] at ho4|(simp only [Int.reduceToNat] at ho4;rw [← Ny274.out] at ho4));have HO276:=am (Kd.R_lower ho4 (pz (yW HB)));replace HB:=yH HB hb;clear hb ho4))
 go_loopg [5,11] k (fun kq v5 v11 w'=>∃ (x5_1:List Int) (x11_1:Int),v11 = .int .i64 x11_1∧Aside0 (impl_column.l0 kq a1 x5_1 l0 (l0.length:Int) x11_1=some r)∧Aside0 (kq≤k)∧Aside0 (Kd.R (Kd.int .u8) 5 w' w.heap.size (fun _=>True) v5 x5_1)∧Aside0 (Below w.heap.size w w'))
 case atStart=>exact ⟨(y274),(0),D2,H',⟨Nat.le_refl _⟩,⟨yR HO276⟩,⟨yW HB⟩⟩
 case round =>
  clear H'
  try clear c2
  try clear p2
  obtain ⟨x5_1,x11_1,rfl,HA,HK1,HO_5,HB⟩:=hrel
  cases gk with
  | zero=>exact absurd HA.out (by simp [impl_column.l0])
  | succ k1 =>
   have H:=HA.out
   clear HA
   simp only [impl_column.l0] at H
   by_cases c5:x11_1 < (l0.length:Int)
   ·rw [if_pos c5] at H
    have c5b0:=decide_eq_true c5
    clear c5
    obtain ⟨c6,H⟩:=yi H
    have c6b0:=decide_eq_true c6
    clear c6
    obtain ⟨c7,H⟩:=yi H
    have c7b0:=decide_eq_true c7
    clear c7
    obtain ⟨c8,H⟩:=yi H
    have c8b0:=decide_eq_true c8
    clear c8
    obtain ⟨c9,H⟩:=yi H
    have c9b0:=decide_eq_true c9
    clear c9
    obtain ⟨c10,H⟩:=yi H
    have LMc10:=am c10
    clear c10
    generalize hy279:(x5_1 ++ [rd (rd_L1 l0 x11_1) a1]:List Int)=y279 at H
    have Ny279:=am hy279.symm
    clear hy279
    have H':=am H
    clear H
    have p277:0≤(x11_1:Int):=od D1
    have q277:x11_1 < (l0.length:Int):=od D1
    obtain ⟨ad277,A277_0,c277_0,e277,hx277_0,hl277_0,hi277_0⟩:=at_L1 HR0.out x11_1 p277 q277
    cases e277
    replace hx277_0:=(HB.out.cell (World.block_lt_of_cell? w _ hx277_0)).trans hx277_0
    have HR277_0:=am hi277_0
    have HC277_0:=am hl277_0
    clear hi277_0 hl277_0
    replace p277:=eq_true p277
    replace q277:=eq_true q277
    have p278:0≤(a1:Int):=od D1
    have q278:a1 < ((rd_L1 l0 x11_1).length:Int):=od D1
    obtain ⟨ad278,e278,hx278_0⟩:=Kd.at_int HR277_0.out a1 p278 q278
    cases e278
    replace hx278_0:=(HB.out.cell (World.block_lt_of_cell? w _ hx278_0)).trans hx278_0
    replace p278:=eq_true p278
    replace q278:=eq_true q278
    go_wp2_with (first|((with_reducible refine gate_builtin (b:=.append) (xs:=#[.tmp 15, .tmp 20]) rfl ?_);at_builtin;refine Kd.R_append (Kd.int .u8) (w0:=w) w.heap.size rfl (.tmp 15) (.tmp 20) 57 5 (.int .u8 0) 1 rfl Try.underlying57 info5 rfl D24 D23 u5 x5_1 (rd (rd_L1 l0 x11_1) a1) [.int .u8 (rd (rd_L1 l0 x11_1) a1)] (fun _=>True) (fun _=>False) rfl rfl (by exact rfl) (fun _ hk=>hk.elim) D75 (by exact (yR HO_5)) D135 D87 (by have:=LMc10.out;omega) ?_;intro v280 w11 ho hb hg hat;rw [← Ny279.out] at ho;have n0_:=am (hb);have n1_:=am (ho);clear HB HO_5;have HB:=n0_;have HO281:=n1_;clear n0_ n1_ ho hb hg hat))
    go_roundg k1
    case measure=>have:=HK1.out;omega
    case rel=>exact ⟨(y279),(wrap64 (x11_1+1)),D2,H',⟨D50⟩,⟨yR HO281⟩,⟨yW HB⟩⟩
   rw [if_neg c5] at H
   have c5b0:=decide_eq_false c5
   clear c5
   obtain rfl:=Option.some.inj H
   go_wp2
   go_ret
   exact ⟨_,D0,yR HO_5,yW HB⟩

def impl_transposed.l0:Nat→List (List Int)→List (List Int)→Int→Int→Option ((List (List Int)))
 | 0,_,_,_,_=>none
 | k+1,x0,x3,x9,x10=>if x10 < x9 then ((impl_column.f k x0 x10).bind fun t286=>(if x3.length < 5864062014805 then (impl_transposed.l0 k x0 (x3 ++ [t286]) x9 (wrap64 (x10+1))) else (none))) else (some x3)
def impl_transposed.f (k:Nat) (l0:List (List Int)):Option ((List (List Int))):=if 0 < (l0.length:Int) then (impl_transposed.l0 k l0 (([]:List (List Int))) ((rd_L1 l0 0).length:Int) 0) else (none)
theorem impl_transposed.mono_l:∀ k,(∀ y0 y1 y2 y3,LeO (impl_transposed.l0 k y0 y1 y2 y3) (impl_transposed.l0 (k+1) y0 y1 y2 y3))
 | 0=>fun _ _ _ _ r h=>by simp [impl_transposed.l0] at h
 | k+1=>by
  have ih0:=impl_transposed.mono_l k
  intro y0 y1 y2 y3
  unfold impl_transposed.l0
  exact mm
theorem impl_transposed.mono:∀ a0 k,LeO (impl_transposed.f k a0) (impl_transposed.f (k+1) a0):=by
 intro a0 k
 have ih0:=impl_transposed.mono_l k
 unfold impl_transposed.f
 exact mm
theorem impl_transposed.calls (k:Nat) (A0:Option Addr) (c0:Nat) (l0:List (List Int)) (r:List (List Int)) (w:World) (hr0:Kd.C (Kd.slice 5 (Kd.int .u8)) w A0 l0.length l0) (hc0:l0.length≤c0) (h:impl_transposed.f k l0=some r) :
  Calls Try.prog 166 #[.slice A0 l0.length c0] w fun e w'=>∃ v0_:Value,e = .returned (v0_)∧Kd.S (Kd.slice 5 (Kd.int .u8)) 57 w' w.heap.size (fun _=>True) v0_ r∧Below w.heap.size w w':=by
 have HR0:=am hr0
 have HC0:=am hc0
 clear hr0 hc0
 have HB:=am (Below.refl w.heap.size w)
 have H:=h
 unfold impl_transposed.f at H
 clear h
 generalize hy282:(([]:List (List Int)):List (List Int))=y282 at H
 have Ny282:=am hy282.symm
 clear hy282
 by_cases c2:0 < (l0.length:Int)
 ·rw [if_pos c2] at H
  have c2b0:=decide_eq_true c2
  have c2b1:decide (0 < l0.length)=true:=decide_eq_true D23
  clear c2
  have H':=am H
  clear H
  go_enter Try.func166,Try.ntmps166
  go_wp2_with (first|((with_reducible refine gD 5 ?_);refine Kd.S_lit (Kd.slice 5 (Kd.int .u8)) _ 57 D35 (N:=5) D35 (xs:=([]:List (List Int))) (inner:=[]) (ok:=fun _=>True) (okp:=fun _=>True) D45 D72 (fun _ hk=>hk) trivial (Below.refl _ _) (Nat.le_refl _) D52 ?_;intro v283 w3 ho4 hb hg_ hnew_;clear hg_ hnew_;(first|rw [← Ny282.out] at ho4|(simp only [Int.reduceToNat] at ho4;rw [← Ny282.out] at ho4));have HO284:=am (Kd.S_lower ho4 (pz (yW HB)));replace HB:=yH HB hb;clear hb ho4;have p285:0≤(0:Int):=D23;have q285:0 < (l0.length:Int):=od D1;obtain ⟨ad285,A285_0,c285_0,e285,hx285_0,hl285_0,hi285_0⟩:=at_L1 HR0.out 0 p285 q285;cases e285;have qi285:(0 < l0.length)=True:=eq_true D23;(try rw [show ((0:Int)).toNat=0 from rfl] at hx285_0);(try rw [Addr.add_zero'] at hx285_0);replace hx285_0:=(HB.out.cell (World.block_lt_of_cell? w _ hx285_0)).trans hx285_0;have HR285_0:=am hi285_0;have HC285_0:=am hl285_0;clear hi285_0 hl285_0;replace p285:=eq_true p285;replace q285:=eq_true q285))
  go_loopg [3,10] k (fun kq v3 v10 w'=>∃ (x3_1:List (List Int)) (x10_1:Int),v10 = .int .i64 x10_1∧Aside0 (impl_transposed.l0 kq l0 x3_1 ((rd_L1 l0 0).length:Int) x10_1=some r)∧Aside0 (kq≤k)∧Aside0 (Kd.S (Kd.slice 5 (Kd.int .u8)) 57 w' w.heap.size (fun _=>True) v3 x3_1)∧Aside0 (Below w.heap.size w w'))
  case atStart=>exact ⟨(y282),(0),D2,H',⟨Nat.le_refl _⟩,⟨yS HO284⟩,⟨yW HB⟩⟩
  case round =>
   clear H'
   try clear c1
   try clear c2
   try clear c2b0
   try clear c2b1
   try clear p2
   try clear q2
   try clear hx2
   try clear qi2
   try clear hx285_0
   try clear p285
   try clear q285
   obtain ⟨x3_1,x10_1,rfl,HA,HK1,HO_3,HB⟩:=hrel
   cases gk with
   | zero=>exact absurd HA.out (by simp [impl_transposed.l0])
   | succ k1 =>
    have H:=HA.out
    clear HA
    simp only [impl_transposed.l0] at H
    by_cases c5:x10_1 < ((rd_L1 l0 0).length:Int)
    ·rw [if_pos c5] at H
     have c5b0:=decide_eq_true c5
     clear c5
     obtain ⟨t286,A6,H⟩:=yo H
     obtain ⟨c7,H⟩:=yi H
     have LMc7:=am c7
     clear c7
     generalize hy289:(x3_1 ++ [t286]:List (List Int))=y289 at H
     have Ny289:=am hy289.symm
     clear hy289
     have H':=am H
     clear H
     go_wp2_with (first|((with_reducible refine gC 201 ?_);refine gM (some 16) Try.func201 (args:=#[.slice (some ad285) l0.length c0, .int .i64 x10_1]) (impl_column.calls k1 _ _ l0 x10_1 t286 _ (yc (Kd.C_below HR0.out HB.out)) HC0.out A6.out) ?_;rintro e w8 ⟨v287,rfl,ho0,hb⟩;refine ⟨_,rfl,?_⟩;replace HO_3:=eS HO_3 (Kd.R_base ho0) hb;have HO288:=am (Kd.R_lower ho0 (pz (yW HB)));replace HB:=yH HB hb;clear hb ho0;obtain ⟨Ao10,co10,eo10⟩:=Kd.R_slice HO288.out;subst eo10)|((with_reducible refine gate_builtin (b:=.append) (xs:=#[.tmp 13, .tmp 17]) rfl ?_);at_builtin;refine Kd.S_append (Kd.slice 5 (Kd.int .u8)) (w0:=w) w.heap.size rfl (.tmp 13) (.tmp 17) 37 57 (.slice none 0 0) 24 rfl Try.underlying37 info57 rfl D24 D23 u3 x3_1 t286 [.slice Ao10 t286.length co10] (fun _=>True) (fun k_=>some k_=(.slice Ao10 t286.length co10:Value).ownBlock) rfl rfl (by exact Kd.M_row (Kd.R_mono (Kd.R_tight rfl (Kd.R_mono (ok':=fun k_=>((fun _=>True)) k_∧some k_ ≠ (u3:Value).ownBlock) (Kd.R_apart' (HO288.out) (Kd.S_typed HO_3.out) D24) (fun k_ hk=>⟨trivial,hk.2⟩))) (fun _ h_=>h_))) (fun k_ hk_=>((Kd.R_mono (ok':=fun k_=>((fun _=>True)) k_∧some k_ ≠ (u3:Value).ownBlock) (Kd.R_apart' (HO288.out) (Kd.S_typed HO_3.out) D24) (fun k_ hk=>⟨trivial,hk.2⟩))).1 k_ hk_.symm) D75 (by exact (by refine sS ?_;exact Kd.S_mono HO_3.out (fun k_ hk=>⟨trivial,fun e_=>hk.2 e_⟩))) D135 D87 (by have:=LMc7.out;omega) ?_;intro v290 w9 ho hb hg hat;rw [← Ny289.out] at ho;have n0_:=am (hb);have n1_:=am (ho);clear HB HO_3 HO288;have HB:=n0_;have HO291:=n1_;clear n0_ n1_ ho hb hg hat))
     go_roundg k1
     case measure=>have:=HK1.out;omega
     case rel=>exact ⟨(y289),(wrap64 (x10_1+1)),D2,H',⟨D50⟩,⟨yS HO291⟩,⟨yW HB⟩⟩
    rw [if_neg c5] at H
    have c5b0:=decide_eq_false c5
    clear c5
    obtain rfl:=Option.some.inj H
    go_wp2
    go_ret
    exact ⟨_,D0,yS HO_3,yW HB⟩
 rw [if_neg c2] at H
 exact absurd H D52

def impl_Transposed.f (k:Nat) (l0_0:List (List Int)):Option ((List (List Int)) × Bool):=(impl_GoodMatrix.f l0_0).bind fun t294=>(if t294=true then ((impl_transposed.f k l0_0).bind fun t295=>(some (t295,true))) else (some (([]:List (List Int)),false)))
theorem impl_Transposed.mono:∀ a0 k,LeO (impl_Transposed.f k a0) (impl_Transposed.f (k+1) a0):=by
 intro a0 k
 unfold impl_Transposed.f
 exact mm
theorem impl_Transposed.calls (k:Nat) (A0_0:Option Addr) (c0_0:Nat) (l0_0:List (List Int)) (r1:List (List Int)) (r2:Bool) (w:World) (hr0_0:Kd.C (Kd.slice 5 (Kd.int .u8)) w A0_0 l0_0.length l0_0) (hc0_0:l0_0.length≤c0_0) (h:impl_Transposed.f k l0_0=some (r1,r2)) :
  Calls Try.prog 78 #[.agg #[.slice A0_0 l0_0.length c0_0]] w fun e w'=>∃ v0_:Value,e = .returned (.tuple #[.agg #[v0_], .bool r2])∧Kd.S (Kd.slice 5 (Kd.int .u8)) 57 w' w.heap.size (fun _=>True) v0_ r1∧Below w.heap.size w w':=by
 have hu43:=Try.underlying43
 have HR0_0:=am hr0_0
 have HC0_0:=am hc0_0
 clear hr0_0 hc0_0
 have HB:=am (Below.refl w.heap.size w)
 have H:=h
 unfold impl_Transposed.f at H
 clear h
 obtain ⟨t294,A2,H⟩:=yo H
 by_cases c3:t294=true
 ·subst c3
  replace H:=yt H
  obtain ⟨t295,A4,H⟩:=yo H
  simp only [Option.some.injEq,Prod.mk.injEq] at H
  obtain ⟨rfl,rfl⟩:=H
  go_enter Try.func78,Try.ntmps78
  go_wp2_with (first|((with_reducible refine gD 1 ?_);refine gB (cs:=#[.slice A0_0 l0_0.length c0_0]) 43 ?_;intro gb292 hg w5 hbox hb;have BK292:=am (hbox);have GW292:=ye HB hg;replace HB:=yH HB hb;have GE292:=GW292;clear hb hbox hg)|((with_reducible refine gD 2 ?_);refine gB (cs:=#[.slice none 0 0]) 43 ?_;intro gb293 hg w6 hbox hb;have BK293:=am (hbox);have GW293:=ye HB hg;replace HB:=yH HB hb;have NB292_293:=yl BK292 hg;have NB293_292:=yg BK292 hg;replace BK292:=yb BK292 hb;have GE293:=GW293;clear hb hbox hg;have hnb7:=NB292_293.out;have hnc7:=NB293_292.out;obtain ⟨hcz8_0,hfz8_0⟩:=yk1 BK292)|((with_reducible refine gC 77 ?_);refine gM (some 5) Try.func77 (args:=#[.agg #[.slice A0_0 l0_0.length c0_0]]) (impl_GoodMatrix.calls _ _ l0_0 true _ (yc (Kd.C_below HR0_0.out HB.out)) HC0_0.out A2.out) ?_;rintro e w9 ⟨rfl,hb⟩;refine ⟨_,rfl,?_⟩;replace BK292:=yb BK292 hb;replace BK293:=yb BK293 hb;replace HB:=yH HB hb;clear hb;obtain ⟨hcz10_0,hfz10_0⟩:=yk1 BK292)|((with_reducible refine gC 166 ?_);refine gM (some 10) Try.func166 (args:=#[.slice A0_0 l0_0.length c0_0]) (impl_transposed.calls k _ _ l0_0 t295 _ (yc (Kd.C_below HR0_0.out HB.out)) HC0_0.out A4.out) ?_;rintro e w11 ⟨v296,rfl,ho0,hb⟩;refine ⟨_,rfl,?_⟩;have HO297:=am (Kd.S_lower ho0 (pz (yW HB)));replace BK292:=yb BK292 hb;replace BK293:=yb BK293 hb;replace HB:=yH HB hb;clear hb ho0;obtain ⟨Ao12,co12,eo12⟩:=Kd.S_slice HO297.out;subst eo12;obtain ⟨hcz13_0,hfz13_0⟩:=yk1 BK293))
  refine bodyPost_ret (results_ct rfl _ _ gb293 43 #[.slice Ao12 t295.length co12] (0,0) _ rfl (by refine sB ?_;refine blk_put (cs:=#[.slice none 0 0]) ?_ 0 _ rfl;exact yB BK293) Try.underlying43 rfl D3) rfl ?_
  exact ⟨_,D0,by refine sS ?_;exact Kd.S_mono (Kd.S_far (p:=⟨gb293,0,none⟩) (Kd.S_types HO297.out BK293.out D24) (fun _ hk=>hk.2) (.slice Ao12 t295.length co12)) (fun _ hk=>trivial),yW HB⟩
 replace c3:=Bool.eq_false_iff.mpr c3
 subst c3
 replace H:=yn H
 simp only [Option.some.injEq,Prod.mk.injEq] at H
 obtain ⟨rfl,rfl⟩:=H
 go_enter Try.func78,Try.ntmps78
 go_wp2_with (first|((with_reducible refine gD 1 ?_);refine gB (cs:=#[.slice A0_0 l0_0.length c0_0]) 43 ?_;intro gb292 hg w14 hbox hb;have BK292:=am (hbox);have GW292:=ye HB hg;replace HB:=yH HB hb;have GE292:=GW292;clear hb hbox hg)|((with_reducible refine gD 2 ?_);refine gB (cs:=#[.slice none 0 0]) 43 ?_;intro gb293 hg w15 hbox hb;have BK293:=am (hbox);have GW293:=ye HB hg;replace HB:=yH HB hb;have NB292_293:=yl BK292 hg;have NB293_292:=yg BK292 hg;replace BK292:=yb BK292 hb;have GE293:=GW293;clear hb hbox hg;have hnb16:=NB292_293.out;have hnc16:=NB293_292.out;obtain ⟨hcz17_0,hfz17_0⟩:=yk1 BK292)|((with_reducible refine gC 77 ?_);refine gM (some 5) Try.func77 (args:=#[.agg #[.slice A0_0 l0_0.length c0_0]]) (impl_GoodMatrix.calls _ _ l0_0 false _ (yc (Kd.C_below HR0_0.out HB.out)) HC0_0.out A2.out) ?_;rintro e w18 ⟨rfl,hb⟩;refine ⟨_,rfl,?_⟩;replace BK292:=yb BK292 hb;replace BK293:=yb BK293 hb;replace HB:=yH HB hb;clear hb;obtain ⟨hcz19_0,hfz19_0⟩:=yk1 BK293))
 refine bodyPost_ret (results_ct rfl _ _ gb293 43 #[.slice none 0 0] (0,0) _ rfl (by refine sB ?_;refine blk_put (cs:=#[.slice none 0 0]) ?_ 0 _ rfl;exact yB BK293) Try.underlying43 rfl D3) rfl ?_
 exact ⟨_,D0,D25,yW HB⟩

mutual
def impl_product.l0:Nat→List (List Int)→List (List Int)→List (List Int)→Int→Int→Option ((List (List Int)))
 | 0,_,_,_,_,_=>none
 | k+1,x5,x6,x15,x16,x17=>if x17 < x16 then (if 0≤x17 then (if x17 < (x15.length:Int) then (impl_product.l1 k x5 x6 (rd_L1 x15 x17) (([]:List Int)) x15 x16 x17 x5 (x5.length:Int) 0) else (none)) else (none)) else (some x6)
def impl_product.l1:Nat→List (List Int)→List (List Int)→List Int→List Int→List (List Int)→Int→Int→List (List Int)→Int→Int→Option ((List (List Int)))
 | 0,_,_,_,_,_,_,_,_,_,_=>none
 | k+1,x5,x6,x8,x9,x15,x16,x17,x22,x23,x24=>if x24 < x23 then (if 0≤x24 then (if x24 < (x22.length:Int) then ((impl_dot.f k x8 (rd_L1 x22 x24)).bind fun t309=>(if x9.length < 140737488355328 then (impl_product.l1 k x5 x6 x8 (x9 ++ [t309]) x15 x16 x17 x22 x23 (wrap64 (x24+1))) else (none))) else (none)) else (none)) else (if x6.length < 5864062014805 then (impl_product.l0 k x5 (x6 ++ [x9]) x15 x16 (wrap64 (x17+1))) else (none))
end
def impl_product.f (k:Nat) (l0:List (List Int)) (l1:List (List Int)):Option ((List (List Int))):=(impl_transposed.f k l1).bind fun t298=>(impl_product.l0 k t298 (([]:List (List Int))) l0 (l0.length:Int) 0)
theorem impl_product.mono_l:∀ k,(∀ y0 y1 y2 y3 y4,LeO (impl_product.l0 k y0 y1 y2 y3 y4) (impl_product.l0 (k+1) y0 y1 y2 y3 y4))∧(∀ y0 y1 y2 y3 y4 y5 y6 y7 y8 y9,LeO (impl_product.l1 k y0 y1 y2 y3 y4 y5 y6 y7 y8 y9) (impl_product.l1 (k+1) y0 y1 y2 y3 y4 y5 y6 y7 y8 y9))
 | 0=>⟨fun _ _ _ _ _ r h=>by simp [impl_product.l0] at h,fun _ _ _ _ _ _ _ _ _ _ r h=>by simp [impl_product.l1] at h⟩
 | k+1=>by
  obtain ⟨ih0,ih1⟩:=impl_product.mono_l k
  refine ⟨?_,?_⟩
  ·intro y0 y1 y2 y3 y4
   unfold impl_product.l0
   exact mm
  intro y0 y1 y2 y3 y4 y5 y6 y7 y8 y9
  unfold impl_product.l1
  exact mm
theorem impl_product.mono:∀ a0 a1 k,LeO (impl_product.f k a0 a1) (impl_product.f (k+1) a0 a1):=by
 intro a0 a1 k
 obtain ⟨ih0,ih1⟩:=impl_product.mono_l k
 unfold impl_product.f
 exact mm
theorem impl_product.calls (k:Nat) (A0:Option Addr) (c0:Nat) (l0:List (List Int)) (A1:Option Addr) (c1:Nat) (l1:List (List Int)) (r:List (List Int)) (w:World) (hr0:Kd.C (Kd.slice 5 (Kd.int .u8)) w A0 l0.length l0) (hc0:l0.length≤c0) (hr1:Kd.C (Kd.slice 5 (Kd.int .u8)) w A1 l1.length l1) (hc1:l1.length≤c1) (h:impl_product.f k l0 l1=some r) :
  Calls Try.prog 167 #[.slice A0 l0.length c0, .slice A1 l1.length c1] w fun e w'=>∃ v0_:Value,e = .returned (v0_)∧Kd.S (Kd.slice 5 (Kd.int .u8)) 57 w' w.heap.size (fun _=>True) v0_ r∧Below w.heap.size w w':=by
 have HR0:=am hr0
 have HC0:=am hc0
 clear hr0 hc0
 have HR1:=am hr1
 have HC1:=am hc1
 clear hr1 hc1
 have HB:=am (Below.refl w.heap.size w)
 have H:=h
 unfold impl_product.f at H
 clear h
 obtain ⟨t298,A3,H⟩:=yo H
 generalize hy301:(([]:List (List Int)):List (List Int))=y301 at H
 have Ny301:=am hy301.symm
 clear hy301
 have H':=am H
 clear H
 go_enter Try.func167,Try.ntmps167
 go_wp2_with (first|((with_reducible refine gC 166 ?_);refine gM (some 13) Try.func166 (args:=#[.slice A1 l1.length c1]) (impl_transposed.calls k _ _ l1 t298 _ (yc HR1.out) HC1.out A3.out) ?_;rintro e w4 ⟨v299,rfl,ho0,hb⟩;refine ⟨_,rfl,?_⟩;have HO300:=am (Kd.S_lower ho0 (pz (yW HB)));replace HB:=yH HB hb;clear hb ho0)|((with_reducible refine gD 14 ?_);refine Kd.S_lit (Kd.slice 5 (Kd.int .u8)) _ 57 D35 (N:=14) D35 (xs:=([]:List (List Int))) (inner:=[]) (ok:=fun _=>True) (okp:=fun _=>True) D45 D72 (fun _ hk=>hk) trivial (Below.refl _ _) (Nat.le_refl _) D52 ?_;intro v302 w5 ho6 hb hg_ hnew_;clear hg_ hnew_;(first|rw [← Ny301.out] at ho6|(simp only [Int.reduceToNat] at ho6;rw [← Ny301.out] at ho6));have HO303:=am (Kd.S_lower (Kd.S_new' ho6 (Kd.S_lt (yS HO300))) (pz (yW HB)));replace HO300:=eS HO300 (Kd.S_base ho6) hb;replace HB:=yH HB hb;clear hb ho6))
 go_loopg [6,17] k (fun kq v6 v17 w'=>∃ (x6_1:List (List Int)) (x17_1:Int),v17 = .int .i64 x17_1∧Aside0 (impl_product.l0 kq t298 x6_1 l0 (l0.length:Int) x17_1=some r)∧Aside0 (kq≤k)∧Aside0 (Kd.S (Kd.slice 5 (Kd.int .u8)) 57 w' w.heap.size (fun k_=>some k_ ≠ (v6:Value).ownBlock) v299 t298)∧Aside0 (Kd.S (Kd.slice 5 (Kd.int .u8)) 57 w' w.heap.size (fun k_=>some k_ ≠ (v299:Value).ownBlock) v6 x6_1)∧Aside0 (Below w.heap.size w w'))
 case atStart=>exact ⟨(y301),(0),D2,H',⟨Nat.le_refl _⟩,⟨by refine sS ?_;exact Kd.S_mono HO300.out (fun _ hk=>hk.2)⟩,⟨by refine sS ?_;exact Kd.S_mono HO303.out (fun _ hk=>hk.2)⟩,⟨yW HB⟩⟩
 case round =>
  clear H'
  try clear c1
  try clear p2
  obtain ⟨x6_1,x17_1,rfl,HA,HK1,HO_5,HO_6,HB⟩:=hrel
  cases gk with
  | zero=>exact absurd HA.out (by simp [impl_product.l0])
  | succ k1 =>
   have H:=HA.out
   clear HA
   simp only [impl_product.l0] at H
   by_cases c7:x17_1 < (l0.length:Int)
   ·rw [if_pos c7] at H
    have c7b0:=decide_eq_true c7
    clear c7
    obtain ⟨c8,H⟩:=yi H
    have c8b0:=decide_eq_true c8
    clear c8
    obtain ⟨c9,H⟩:=yi H
    have c9b0:=decide_eq_true c9
    clear c9
    generalize hy305:(([]:List Int):List Int)=y305 at H
    have Ny305:=am hy305.symm
    clear hy305
    have H':=am H
    clear H
    have p304:0≤(x17_1:Int):=od D1
    have q304:x17_1 < (l0.length:Int):=od D1
    obtain ⟨ad304,A304_0,c304_0,e304,hx304_0,hl304_0,hi304_0⟩:=at_L1 HR0.out x17_1 p304 q304
    cases e304
    replace hx304_0:=(HB.out.cell (World.block_lt_of_cell? w _ hx304_0)).trans hx304_0
    have HR304_0:=am hi304_0
    have HC304_0:=am hl304_0
    clear hi304_0 hl304_0
    replace p304:=eq_true p304
    replace q304:=eq_true q304
    go_wp2_with (first|((with_reducible refine gD 21 ?_);refine Kd.R_lit (Kd.int .u8) _ 5 D35 (N:=21) D35 (xs:=([]:List Int)) (inner:=[]) (ok:=fun _=>True) (okp:=fun _=>True) D45 D72 (fun _ hk=>hk) trivial (Below.refl _ _) (Nat.le_refl _) D52 ?_;intro v306 w10 ho11 hb hg_ hnew_;clear hg_ hnew_;(first|rw [← Ny305.out] at ho11|(simp only [Int.reduceToNat] at ho11;rw [← Ny305.out] at ho11));replace HO_5:=eS HO_5 (Kd.R_base ho11) hb;replace HO_6:=eS HO_6 (Kd.R_base ho11) hb;have HO307:=am (Kd.R_lower ho11 (pz (yW HB)));replace HB:=yH HB hb;clear hb ho11;obtain ⟨Ao12,co12,eo12⟩:=Kd.S_slice HO_5.out;subst eo12))
    go_loopg [9,24] k1 (fun kq v9 v24 w'=>∃ (x9_2:List Int) (x24_2:Int),v24 = .int .i64 x24_2∧Aside0 (impl_product.l1 kq t298 x6_1 (rd_L1 l0 x17_1) x9_2 l0 (l0.length:Int) x17_1 t298 (t298.length:Int) x24_2=some r)∧Aside0 (kq≤k1)∧Aside0 (Kd.S (Kd.slice 5 (Kd.int .u8)) 57 w' w.heap.size (fun k_=>some k_ ≠ (u6:Value).ownBlock∧some k_ ≠ (v9:Value).ownBlock) (.slice Ao12 t298.length co12) t298)∧Aside0 (Kd.S (Kd.slice 5 (Kd.int .u8)) 57 w' w.heap.size (fun k_=>some k_ ≠ ((.slice Ao12 t298.length co12):Value).ownBlock∧some k_ ≠ (v9:Value).ownBlock∧some k_ ≠ ((.slice Ao12 t298.length co12):Value).ownBlock) u6 x6_1)∧Aside0 (Kd.R (Kd.int .u8) 5 w' w.heap.size (fun _=>True) v9 x9_2)∧Aside0 (Kd.S (Kd.slice 5 (Kd.int .u8)) 57 w' w.heap.size (fun k_=>some k_ ≠ (u6:Value).ownBlock∧some k_ ≠ (v9:Value).ownBlock) (.slice Ao12 t298.length co12) t298)∧Aside0 (Below w.heap.size w w'))
    case atStart=>exact ⟨(y305),(0),D2,H',⟨Nat.le_refl _⟩,⟨yS HO_5⟩,⟨by refine sS ?_;exact Kd.S_mono HO_6.out (fun _ hk=>⟨hk.1,⟨hk.2,hk.1⟩⟩)⟩,⟨yR HO307⟩,⟨yS HO_5⟩,⟨yW HB⟩⟩
    case round =>
     clear H'
     try clear c1
     try clear p2
     try clear c3
     try clear p3
     try clear q3
     try clear hx3
     try clear c7
     try clear c7b0
     try clear c8
     try clear c8b0
     try clear c9
     try clear c9b0
     try clear hx304_0
     try clear p2
     try clear p304
     try clear q304
     obtain ⟨x9_2,x24_2,rfl,HA,HK2,HO_5,HO_6,HO_9,HO_22,HB⟩:=hrel
     cases gk with
     | zero=>exact absurd HA.out (by simp [impl_product.l1])
     | succ k2 =>
      have H:=HA.out
      clear HA
      simp only [impl_product.l1] at H
      by_cases c13:x24_2 < (t298.length:Int)
      ·rw [if_pos c13] at H
       have c13b0:=decide_eq_true c13
       clear c13
       obtain ⟨c14,H⟩:=yi H
       have c14b0:=decide_eq_true c14
       clear c14
       obtain ⟨c15,H⟩:=yi H
       have c15b0:=decide_eq_true c15
       clear c15
       obtain ⟨t309,A16,H⟩:=yo H
       obtain ⟨c17,H⟩:=yi H
       have LMc17:=am c17
       clear c17
       generalize hy310:(x9_2 ++ [t309]:List Int)=y310 at H
       have Ny310:=am hy310.symm
       clear hy310
       have H':=am H
       clear H
       have p308:0≤(x24_2:Int):=od D1
       have q308:x24_2 < (t298.length:Int):=od D1
       obtain ⟨ad308,A308_0,c308_0,e308,hx308_0,hl308_0,hi308_0⟩:=at_L1 (Kd.S_reads' HO_22.out).2.2 x24_2 p308 q308
       cases e308
       obtain ⟨ce308,hce308,hMe308,hcc308⟩:=Kd.S_get HO_22.out [] x24_2 p308 (by first|exact q308|exact od D1|(have e_:=(Kd.S_reads' HO_22.out).1;omega))
       obtain ⟨ve308_0,rfl,ge308_0⟩:=hMe308
       have hv308_0:=hcc308 0 _ rfl
       rw [Nat.add_zero,show ((Kd.slice 5 (Kd.int .u8))).sz=1 from rfl,Nat.mul_one] at hv308_0
       replace hv308_0:=Option.some.inj (hv308_0.symm.trans hx308_0)
       rw [hv308_0] at ge308_0
       have HL308_0:=am (show Kd.R (Kd.int .u8) 5 _ _ _ _ (rd_L1 t298 x24_2) from ge308_0)
       clear hv308_0 ge308_0
       clear hcc308 hce308
       have HR308_0:=am hi308_0
       have HC308_0:=am hl308_0
       clear hi308_0 hl308_0
       replace p308:=eq_true p308
       replace q308:=eq_true q308
       go_wp2_with (first|((with_reducible refine gC 169 ?_);refine gM (some 31) Try.func169 (args:=#[.slice A304_0 (rd_L1 l0 x17_1).length c304_0, .slice A308_0 (rd_L1 t298 x24_2).length c308_0]) (impl_dot.calls k2 _ _ (rd_L1 l0 x17_1) _ _ (rd_L1 t298 x24_2) t309 _ ?side1 ?side2 ?side3 ?side4 A16.out) ?_;(case side1=>repeat (first|exact (Kd.C_below HR304_0.out HB.out)|(with_reducible refine Kd.C_alloc ?_ _)|(with_reducible refine Kd.C_drewN ?_ _)|(with_reducible refine Kd.C_drew ?_)));(case side2=>exact HC304_0.out);(case side3=>repeat (first|exact (by repeat (first|(with_reducible exact HR308_0.out)|(with_reducible refine Kd.C_alloc ?_ _)|(with_reducible refine Kd.C_drewN ?_ _)|(with_reducible refine Kd.C_drew ?_)|exact HR308_0.out))|(with_reducible refine Kd.C_alloc ?_ _)|(with_reducible refine Kd.C_drewN ?_ _)|(with_reducible refine Kd.C_drew ?_)));(case side4=>exact HC308_0.out);rintro e w' ⟨rfl,⟨nd,rfl⟩⟩;refine ⟨_,rfl,?_⟩)|((with_reducible refine gate_builtin (b:=.append) (xs:=#[.tmp 28, .tmp 32]) rfl ?_);at_builtin;refine Kd.R_append (Kd.int .u8) (w0:=w) w.heap.size rfl (.tmp 28) (.tmp 32) 57 5 (.int .u8 0) 1 rfl Try.underlying57 info5 rfl D24 D23 u9 x9_2 t309 [.int .u8 t309] (fun _=>True) (fun _=>False) rfl rfl (by exact rfl) (fun _ hk=>hk.elim) D75 (by exact (yR HO_9)) D135 D87 (by have:=LMc17.out;omega) ?_;intro v311 w18 ho hb hg hat;rw [← Ny310.out] at ho;have n0_:=am (Kd.S_after (ok:=(fun k_=>some k_ ≠ (u6:Value).ownBlock)) (yS HO_5) hg hat);have n1_:=am (Kd.S_after (ok:=(fun k_=>some k_ ≠ (.slice (some ad308) t298.length co12:Value).ownBlock∧some k_ ≠ (.slice (some ad308) t298.length co12:Value).ownBlock)) (by refine sS ?_;exact Kd.S_mono HO_6.out (fun _ hk=>⟨⟨hk.1,hk.2.2⟩,hk.2.1⟩)) hg hat);have n2_:=am (Kd.S_after (ok:=(fun k_=>some k_ ≠ (u6:Value).ownBlock)) (yS HO_22) hg hat);have n3_:=am (Kd.R_after (ok:=(fun k_=>some k_ ≠ (u6:Value).ownBlock∧some k_ ≠ (.slice (some ad308) t298.length co12:Value).ownBlock)) (by refine sR ?_;exact Kd.R_mono HL308_0.out (fun _ hk=>⟨⟨hk.1.1,hk.2⟩,hk.1.2⟩)) hg hat);have n4_:=am (hb);have n5_:=am (ho);clear HO_5 HO_6 HO_22 HL308_0 HB HO_9;have HO_5:=n0_;have HO_6:=n1_;have HO_22:=n2_;have HL308_0:=n3_;have HB:=n4_;have HO312:=n5_;clear n0_ n1_ n2_ n3_ n4_ n5_ ho hb hg hat))
       go_roundg k2
       case measure=>have:=HK1.out;have:=HK2.out;omega
       case rel=>exact ⟨(y310),(wrap64 (x24_2+1)),D2,H',⟨D143⟩,⟨yS HO_5⟩,⟨by refine sS ?_;exact Kd.S_mono HO_6.out (fun _ hk=>⟨hk.1.1,⟨hk.2,hk.1.2⟩⟩)⟩,⟨yR HO312⟩,⟨yS HO_22⟩,⟨yW HB⟩⟩
      rw [if_neg c13] at H
      have c13b0:=decide_eq_false c13
      clear c13
      obtain ⟨c19,H⟩:=yi H
      have LMc19:=am c19
      clear c19
      generalize hy313:(x6_1 ++ [x9_2]:List (List Int))=y313 at H
      have Ny313:=am hy313.symm
      clear hy313
      have H':=am H
      clear H
      obtain ⟨Ao21,co21,eo21⟩:=Kd.R_slice HO_9.out
      subst eo21
      go_wp2_with (first|((with_reducible refine gate_builtin (b:=.append) (xs:=#[.tmp 35, .tmp 37]) rfl ?_);at_builtin;refine Kd.S_append (Kd.slice 5 (Kd.int .u8)) (w0:=w) w.heap.size rfl (.tmp 35) (.tmp 37) 37 57 (.slice none 0 0) 24 rfl Try.underlying37 info57 rfl D24 D23 u6 x6_1 x9_2 [.slice Ao21 x9_2.length co21] (fun k_=>some k_ ≠ (.slice Ao12 t298.length co12:Value).ownBlock∧some k_ ≠ (.slice Ao12 t298.length co12:Value).ownBlock) (fun k_=>some k_=(.slice Ao21 x9_2.length co21:Value).ownBlock) rfl rfl (by exact Kd.M_row (Kd.R_mono (Kd.R_tight rfl (Kd.R_mono (ok':=fun k_=>((fun k_=>some k_ ≠ (.slice Ao12 t298.length co12:Value).ownBlock∧some k_ ≠ (.slice Ao12 t298.length co12:Value).ownBlock)) k_∧some k_ ≠ (u6:Value).ownBlock) (Kd.R_apart' (Kd.R_apart' (Kd.R_apart' (HO_9.out) (Kd.S_typed HO_5.out) D24) (Kd.S_typed HO_22.out) D24) (Kd.S_typed HO_6.out) D24) (fun k_ hk=>⟨⟨hk.1.1.2,hk.1.2⟩,hk.2⟩))) (fun _ h_=>h_))) (fun k_ hk_=>((Kd.R_mono (ok':=fun k_=>((fun k_=>some k_ ≠ (.slice Ao12 t298.length co12:Value).ownBlock∧some k_ ≠ (.slice Ao12 t298.length co12:Value).ownBlock)) k_∧some k_ ≠ (u6:Value).ownBlock) (Kd.R_apart' (Kd.R_apart' (Kd.R_apart' (HO_9.out) (Kd.S_typed HO_5.out) D24) (Kd.S_typed HO_22.out) D24) (Kd.S_typed HO_6.out) D24) (fun k_ hk=>⟨⟨hk.1.1.2,hk.1.2⟩,hk.2⟩))).1 k_ hk_.symm) (by exact (fun k_ hk=>⟨Kd.fresh' (Kd.S_lt (yS HO_5)) k_ hk,Kd.fresh' (Kd.S_lt (yS HO_22)) k_ hk⟩)) (by exact (by refine sS ?_;exact Kd.S_mono HO_6.out (fun k_ hk=>⟨⟨hk.1,hk.2.2⟩,fun e_=>hk.2.1 e_⟩))) D135 D87 (by have:=LMc19.out;omega) ?_;intro v314 w20 ho hb hg hat;rw [← Ny313.out] at ho;have n0_:=am (Kd.S_after (ok:=(fun k_=>some k_ ≠ (.slice Ao21 x9_2.length co21:Value).ownBlock)) (by refine sS ?_;exact Kd.S_mono HO_5.out (fun _ hk=>⟨hk.2,hk.1⟩)) hg hat);have n1_:=am (Kd.S_after (ok:=(fun k_=>some k_ ≠ (.slice Ao21 x9_2.length co21:Value).ownBlock)) (by refine sS ?_;exact Kd.S_mono HO_22.out (fun _ hk=>⟨hk.2,hk.1⟩)) hg hat);have n2_:=am (hb);have n3_:=am (ho);clear HO_5 HO_22 HB HO_6 HO_9;have HO_5:=n0_;have HO_22:=n1_;have HB:=n2_;have HO315:=n3_;clear n0_ n1_ n2_ n3_ ho hb hg hat))
      go_roundg k2
      case measure=>have:=HK1.out;have:=HK2.out;omega
      case rel=>exact ⟨(y313),(wrap64 (x17_1+1)),D2,H',⟨D143⟩,⟨by refine sS ?_;exact Kd.S_mono HO_5.out (fun _ hk=>hk.2)⟩,⟨by refine sS ?_;exact Kd.S_mono HO315.out (fun _ hk=>hk.1)⟩,⟨yW HB⟩⟩
   rw [if_neg c7] at H
   have c7b0:=decide_eq_false c7
   clear c7
   obtain rfl:=Option.some.inj H
   go_wp2
   go_ret
   exact ⟨_,D0,by refine sS ?_;exact Kd.S_mono HO_6.out (fun _ hk=>trivial),yW HB⟩
def impl_Product.f (k:Nat) (l0_0:List (List Int)) (l1_0:List (List Int)):Option ((List (List Int)) × Bool):=(impl_GoodMatrix.f l0_0).bind fun t319=>(if t319=true then ((impl_GoodMatrix.f l1_0).bind fun t320=>(if t320=true then (if 0 < (l0_0.length:Int) then (if ((rd_L1 l0_0 0).length:Int)=(l1_0.length:Int) then ((impl_product.f k l0_0 l1_0).bind fun t322=>(some (t322,true))) else (some (([]:List (List Int)),false))) else (none)) else (some (([]:List (List Int)),false)))) else (some (([]:List (List Int)),false)))
theorem impl_Product.mono:∀ a0 a1 k,LeO (impl_Product.f k a0 a1) (impl_Product.f (k+1) a0 a1):=by
 intro a0 a1 k
 unfold impl_Product.f
 exact mm
def impl_Product.T1:Bool × List (List Nat × List Nat):=(true,[([],[]),([0],[0]),([1],[1]),([2,1],[2]),([3],[3]),([4,3,3],[3,4]),([5,3],[3,5]),([3,6],[3,6]),([7,5],[7]),([8],[8]),([9,8],[8,9]),([10,8],[8,10]),([11,8],[8,11]),([12,8],[8,12]),([8],[8]),([14,8],[8,14]),([15,8],[8,15]),([13,16,8],[8,13,16]),([8,17],[8,17])])
def impl_Product.B1:List Nat:=[0,1,3,7,15,31,63,127,255,511,1023,2047,4095,8191,511,16895,49663,131071,262143]
theorem impl_Product.tab1:rtab .any (opsOf Try.f79 1)=impl_Product.T1:=by kernel_rfl
theorem impl_Product.bits1:waitsOk impl_Product.T1.2 impl_Product.B1=true:=by kernel_rfl
theorem impl_Product.calls (k:Nat) (A0_0:Option Addr) (c0_0:Nat) (l0_0:List (List Int)) (A1_0:Option Addr) (c1_0:Nat) (l1_0:List (List Int)) (r1:List (List Int)) (r2:Bool) (w:World) (hr0_0:Kd.C (Kd.slice 5 (Kd.int .u8)) w A0_0 l0_0.length l0_0) (hc0_0:l0_0.length≤c0_0) (hr1_0:Kd.C (Kd.slice 5 (Kd.int .u8)) w A1_0 l1_0.length l1_0) (hc1_0:l1_0.length≤c1_0) (h:impl_Product.f k l0_0 l1_0=some (r1,r2)) :
  Calls Try.prog 79 #[.agg #[.slice A0_0 l0_0.length c0_0], .agg #[.slice A1_0 l1_0.length c1_0]] w fun e w'=>∃ v0_:Value,e = .returned (.tuple #[.agg #[v0_], .bool r2])∧Kd.S (Kd.slice 5 (Kd.int .u8)) 57 w' w.heap.size (fun _=>True) v0_ r1∧Below w.heap.size w w':=by
 have hu43:=Try.underlying43
 have HR0_0:=am hr0_0
 have HC0_0:=am hc0_0
 clear hr0_0 hc0_0
 have HR1_0:=am hr1_0
 have HC1_0:=am hc1_0
 clear hr1_0 hc1_0
 have HB:=am (Below.refl w.heap.size w)
 have H:=h
 unfold impl_Product.f at H
 clear h
 obtain ⟨t319,A3,H⟩:=yo H
 by_cases c4:t319=true
 ·subst c4
  replace H:=yt H
  obtain ⟨t320,A5,H⟩:=yo H
  by_cases c6:t320=true
  ·subst c6
   replace H:=yt H
   obtain ⟨c7,H⟩:=yi H
   have c7b0:=decide_eq_true c7
   have c7b1:decide (0 < l0_0.length)=true:=decide_eq_true D23
   clear c7
   by_cases c8:((rd_L1 l0_0 0).length:Int)=(l1_0.length:Int)
   ·rw [if_pos c8] at H
    have c8b0:(((rd_L1 l0_0 0).length:Int) == (l1_0.length:Int))=true:=beq_iff_eq.mpr c8
    have c8b1:(((rd_L1 l0_0 0).length:Int) != (l1_0.length:Int))=false:=bne_eq_false_iff_eq.mpr c8
    have c8b2:((rd_L1 l0_0 0).length == l1_0.length)=true:=by first|simpa using c8|(simp at c8 ⊢;omega)
    clear c8
    obtain ⟨t322,A9,H⟩:=yo H
    simp only [Option.some.injEq,Prod.mk.injEq] at H
    obtain ⟨rfl,rfl⟩:=H
    go_enter Try.func79,Try.ntmps79
    try go_wp2_with (first|((with_reducible refine gD 2 ?_);(try (refine gate_guard D35 ?_;dsimp only));refine gB (cs:=#[.slice A0_0 l0_0.length c0_0]) 43 ?_;intro gb316 hg w10 hbox hb;have BK316:=am (hbox);have GW316:=ye HB hg;replace HB:=yH HB hb;have GE316:=GW316;clear hb hbox hg)|((with_reducible refine gD 3 ?_);(try (refine gate_guard D35 ?_;dsimp only));refine gB (cs:=#[.slice A1_0 l1_0.length c1_0]) 43 ?_;intro gb317 hg w11 hbox hb;have BK317:=am (hbox);have GW317:=ye HB hg;replace HB:=yH HB hb;have NB316_317:=yl BK316 hg;have NB317_316:=yg BK316 hg;replace BK316:=yb BK316 hb;have GE317:=GW317;clear hb hbox hg)|((with_reducible refine gD 4 ?_);(try (refine gate_guard D35 ?_;dsimp only));refine gB (cs:=#[.slice none 0 0]) 43 ?_;intro gb318 hg w12 hbox hb;have BK318:=am (hbox);have GW318:=ye HB hg;replace HB:=yH HB hb;have NB316_318:=yl BK316 hg;have NB318_316:=yg BK316 hg;replace BK316:=yb BK316 hb;have NB317_318:=yl BK317 hg;have NB318_317:=yg BK317 hg;replace BK317:=yb BK317 hb;have GE318:=GW318;clear hb hbox hg))
    replace BK316:=am (qd BK316.out)
    replace BK317:=am (qd BK317.out)
    replace BK318:=am (qd BK318.out)
    replace HB:=am (pd HB.out)
    have p321:0≤(0:Int):=D23
    have q321:0 < (l0_0.length:Int):=od D1
    obtain ⟨ad321,A321_0,c321_0,e321,hx321_0,hl321_0,hi321_0⟩:=at_L1 HR0_0.out 0 p321 q321
    have hw321_0:=hx321_0
    (try rw [show ((0:Int)).toNat=0 from rfl] at hw321_0)
    (try rw [show 0*1=0 from rfl] at hw321_0)
    (try rw [Addr.add_zero'] at hw321_0)
    cases e321
    have qi321:(0 < l0_0.length)=True:=eq_true D23
    (try rw [show ((0:Int)).toNat=0 from rfl] at hx321_0)
    (try rw [Addr.add_zero'] at hx321_0)
    replace hx321_0:=(HB.out.cell (World.block_lt_of_cell? w _ hx321_0)).trans hx321_0
    have HR321_0:=am hi321_0
    have HC321_0:=am hl321_0
    clear hi321_0 hl321_0
    replace p321:=eq_true p321
    replace q321:=eq_true q321
    refine rS (n:=19) (S:=fun w'=>w'.cell? ⟨gb316,0,none⟩=some (.slice (some ad321) l0_0.length c0_0)∧w'.cell? ⟨gb317,0,none⟩=some (.slice A1_0 l1_0.length c1_0)∧w'.cell? ad321=some (.slice A321_0 (rd_L1 l0_0 0).length c321_0)) (ds:=[]) [(0,6),(1,0),(2,8),(3,9),(4,10),(5,0),(6,12),(7,13),(8,14),(9,15),(14,20),(10,16),(11,17),(12,18),(13,19),(15,21),(16,22),(17,23),(18,24)] D3 rfl impl_Product.tab1 impl_Product.bits1 ⟨yk BK316 0,yk BK317 0,((HB.out.cell (World.block_lt_of_cell? w _ hw321_0)).trans hw321_0)⟩ (fun hHeld HT_ HW_=>?_)
    generalize w12.drew=w13 at BK316 BK317 BK318 HB HR321_0 hx321_0 hHeld ⊢
    refine rR ?_
    refine rO (N:=some 7) HT_ rfl rfl D3 D24 (fun K hK=>?_)
    refine goes_ Try.func77 D3 rfl #[.agg #[.slice (some ad321) l0_0.length c0_0]] D35 rfl rfl D27 ?_
    with_reducible refine (impl_GoodMatrix.calls _ _ l0_0 true _ (yc (Kd.C_below HR0_0.out HB.out)) HC0_0.out A3.out).mono ?_
    rintro e w14 ⟨rfl,hb⟩
    refine ⟨_,rfl,?_⟩
    replace BK316:=yb BK316 hb
    replace BK317:=yb BK317 hb
    replace BK318:=yb BK318 hb
    replace HB:=yH HB hb
    (try clear hb)
    (try clear hb2)
    (try clear hk)
    (try clear hi)
    refine hK.out _ _ ⟨yk BK316 0,yk BK317 0,((HB.out.cell (World.block_lt_of_cell? w _ hw321_0)).trans hw321_0)⟩ (fun hHeld=>?_)
    clear hK K
    refine rN (nA 7) ?_
    refine rR ?_
    refine rO (N:=some 11) HT_ rfl rfl D3 D24 (fun K hK=>?_)
    refine goes_ Try.func77 D3 rfl #[.agg #[.slice A1_0 l1_0.length c1_0]] D35 rfl rfl D27 ?_
    with_reducible refine (impl_GoodMatrix.calls _ _ l1_0 true _ (yc (Kd.C_below HR1_0.out HB.out)) HC1_0.out A5.out).mono ?_
    rintro e w15 ⟨rfl,hb⟩
    refine ⟨_,rfl,?_⟩
    replace BK316:=yb BK316 hb
    replace BK317:=yb BK317 hb
    replace BK318:=yb BK318 hb
    replace HB:=yH HB hb
    (try clear hb)
    (try clear hb2)
    (try clear hk)
    (try clear hi)
    refine hK.out _ _ ⟨yk BK316 0,yk BK317 0,((HB.out.cell (World.block_lt_of_cell? w _ hw321_0)).trans hw321_0)⟩ (fun hHeld=>?_)
    clear hK K
    refine rN (nA 11) ?_
    refine rR ?_
    refine rD HT_ D3 ?_
    have hnb16:=NB316_317.out
    have hnc16:=NB317_316.out
    have hnb17:=NB316_318.out
    have hnc17:=NB318_316.out
    obtain ⟨hcz18_0,hfz18_0⟩:=yk1 BK316
    have hnb19:=NB317_318.out
    have hnc19:=NB318_317.out
    obtain ⟨hcz20_0,hfz20_0⟩:=yk1 BK317
    try go_wp2_with (first|((with_reducible refine gC 167 ?_);refine gM (some 30) Try.func167 (args:=#[.slice (some ad321) l0_0.length c0_0, .slice A1_0 l1_0.length c1_0]) (impl_product.calls k _ _ l0_0 _ _ l1_0 t322 _ (yc (Kd.C_below HR0_0.out HB.out)) HC0_0.out (yc (Kd.C_below HR1_0.out HB.out)) HC1_0.out A9.out) ?_;rintro e w21 ⟨v323,rfl,ho0,hb⟩;refine ⟨_,rfl,?_⟩;have HO324:=am (Kd.S_lower ho0 (pz (yW HB)));replace BK316:=yb BK316 hb;replace BK317:=yb BK317 hb;replace BK318:=yb BK318 hb;replace HB:=yH HB hb;clear hb ho0;obtain ⟨Ao22,co22,eo22⟩:=Kd.S_slice HO324.out;subst eo22;obtain ⟨hcz23_0,hfz23_0⟩:=yk1 BK318))
    refine bodyPost_ret (results_ct rfl _ _ gb318 43 #[.slice Ao22 t322.length co22] (0,0) _ rfl D84 Try.underlying43 rfl D3) rfl ?_
    exact ⟨_,D0,by refine sS ?_;exact Kd.S_mono (Kd.S_far (p:=⟨gb318,0,none⟩) (Kd.S_types HO324.out BK318.out D24) (fun _ hk=>hk.2) (.slice Ao22 t322.length co22)) (fun _ hk=>trivial),yW HB⟩
   rw [if_neg c8] at H
   have c8b0:(((rd_L1 l0_0 0).length:Int) == (l1_0.length:Int))=false:=beq_eq_false_iff_ne.mpr c8
   have c8b1:(((rd_L1 l0_0 0).length:Int) != (l1_0.length:Int))=true:=bne_iff_ne.mpr c8
   have c8b2:((rd_L1 l0_0 0).length == l1_0.length)=false:=by first|simpa using c8|(simp at c8 ⊢;omega)
   simp only [Option.some.injEq,Prod.mk.injEq] at H
   obtain ⟨rfl,rfl⟩:=H
   go_enter Try.func79,Try.ntmps79
   try go_wp2_with (first|((with_reducible refine gD 2 ?_);(try (refine gate_guard D35 ?_;dsimp only));refine gB (cs:=#[.slice A0_0 l0_0.length c0_0]) 43 ?_;intro gb316 hg w24 hbox hb;have BK316:=am (hbox);have GW316:=ye HB hg;replace HB:=yH HB hb;have GE316:=GW316;clear hb hbox hg)|((with_reducible refine gD 3 ?_);(try (refine gate_guard D35 ?_;dsimp only));refine gB (cs:=#[.slice A1_0 l1_0.length c1_0]) 43 ?_;intro gb317 hg w25 hbox hb;have BK317:=am (hbox);have GW317:=ye HB hg;replace HB:=yH HB hb;have NB316_317:=yl BK316 hg;have NB317_316:=yg BK316 hg;replace BK316:=yb BK316 hb;have GE317:=GW317;clear hb hbox hg)|((with_reducible refine gD 4 ?_);(try (refine gate_guard D35 ?_;dsimp only));refine gB (cs:=#[.slice none 0 0]) 43 ?_;intro gb318 hg w26 hbox hb;have BK318:=am (hbox);have GW318:=ye HB hg;replace HB:=yH HB hb;have NB316_318:=yl BK316 hg;have NB318_316:=yg BK316 hg;replace BK316:=yb BK316 hb;have NB317_318:=yl BK317 hg;have NB318_317:=yg BK317 hg;replace BK317:=yb BK317 hb;have GE318:=GW318;clear hb hbox hg))
   replace BK316:=am (qd BK316.out)
   replace BK317:=am (qd BK317.out)
   replace BK318:=am (qd BK318.out)
   replace HB:=am (pd HB.out)
   have p321:0≤(0:Int):=D23
   have q321:0 < (l0_0.length:Int):=od D1
   obtain ⟨ad321,A321_0,c321_0,e321,hx321_0,hl321_0,hi321_0⟩:=at_L1 HR0_0.out 0 p321 q321
   have hw321_0:=hx321_0
   (try rw [show ((0:Int)).toNat=0 from rfl] at hw321_0)
   (try rw [show 0*1=0 from rfl] at hw321_0)
   (try rw [Addr.add_zero'] at hw321_0)
   cases e321
   have qi321:(0 < l0_0.length)=True:=eq_true D23
   (try rw [show ((0:Int)).toNat=0 from rfl] at hx321_0)
   (try rw [Addr.add_zero'] at hx321_0)
   replace hx321_0:=(HB.out.cell (World.block_lt_of_cell? w _ hx321_0)).trans hx321_0
   have HR321_0:=am hi321_0
   have HC321_0:=am hl321_0
   clear hi321_0 hl321_0
   replace p321:=eq_true p321
   replace q321:=eq_true q321
   refine rS (n:=19) (S:=fun w'=>w'.cell? ⟨gb316,0,none⟩=some (.slice (some ad321) l0_0.length c0_0)∧w'.cell? ⟨gb317,0,none⟩=some (.slice A1_0 l1_0.length c1_0)∧w'.cell? ad321=some (.slice A321_0 (rd_L1 l0_0 0).length c321_0)) (ds:=[]) [(0,6),(1,0),(2,8),(3,9),(4,10),(5,0),(6,12),(7,13),(8,14),(9,15),(14,20),(10,16),(11,17),(12,18),(13,19),(15,21),(16,22),(17,23),(18,24)] D3 rfl impl_Product.tab1 impl_Product.bits1 ⟨yk BK316 0,yk BK317 0,((HB.out.cell (World.block_lt_of_cell? w _ hw321_0)).trans hw321_0)⟩ (fun hHeld HT_ HW_=>?_)
   generalize w26.drew=w27 at BK316 BK317 BK318 HB HR321_0 hx321_0 hHeld ⊢
   refine rR ?_
   refine rO (N:=some 7) HT_ rfl rfl D3 D24 (fun K hK=>?_)
   refine goes_ Try.func77 D3 rfl #[.agg #[.slice (some ad321) l0_0.length c0_0]] D35 rfl rfl D27 ?_
   with_reducible refine (impl_GoodMatrix.calls _ _ l0_0 true _ (yc (Kd.C_below HR0_0.out HB.out)) HC0_0.out A3.out).mono ?_
   rintro e w28 ⟨rfl,hb⟩
   refine ⟨_,rfl,?_⟩
   replace BK316:=yb BK316 hb
   replace BK317:=yb BK317 hb
   replace BK318:=yb BK318 hb
   replace HB:=yH HB hb
   (try clear hb)
   (try clear hb2)
   (try clear hk)
   (try clear hi)
   refine hK.out _ _ ⟨yk BK316 0,yk BK317 0,((HB.out.cell (World.block_lt_of_cell? w _ hw321_0)).trans hw321_0)⟩ (fun hHeld=>?_)
   clear hK K
   refine rN (nA 7) ?_
   refine rR ?_
   refine rO (N:=some 11) HT_ rfl rfl D3 D24 (fun K hK=>?_)
   refine goes_ Try.func77 D3 rfl #[.agg #[.slice A1_0 l1_0.length c1_0]] D35 rfl rfl D27 ?_
   with_reducible refine (impl_GoodMatrix.calls _ _ l1_0 true _ (yc (Kd.C_below HR1_0.out HB.out)) HC1_0.out A5.out).mono ?_
   rintro e w29 ⟨rfl,hb⟩
   refine ⟨_,rfl,?_⟩
   replace BK316:=yb BK316 hb
   replace BK317:=yb BK317 hb
   replace BK318:=yb BK318 hb
   replace HB:=yH HB hb
   (try clear hb)
   (try clear hb2)
   (try clear hk)
   (try clear hi)
   refine hK.out _ _ ⟨yk BK316 0,yk BK317 0,((HB.out.cell (World.block_lt_of_cell? w _ hw321_0)).trans hw321_0)⟩ (fun hHeld=>?_)
   clear hK K
   refine rN (nA 11) ?_
   refine rR ?_
   refine rD HT_ D3 ?_
   have hnb30:=NB318_316.out
   have hnc30:=NB316_318.out
   have hnb31:=NB318_317.out
   have hnc31:=NB317_318.out
   obtain ⟨hcz32_0,hfz32_0⟩:=yk1 BK318
   try go_wp2
   refine bodyPost_ret (results_ct rfl _ _ gb318 43 #[.slice none 0 0] (0,0) _ rfl D84 Try.underlying43 rfl D3) rfl ?_
   exact ⟨_,D0,D25,yW HB⟩
  replace c6:=Bool.eq_false_iff.mpr c6
  subst c6
  replace H:=yn H
  simp only [Option.some.injEq,Prod.mk.injEq] at H
  obtain ⟨rfl,rfl⟩:=H
  go_enter Try.func79,Try.ntmps79
  try go_wp2_with (first|((with_reducible refine gD 2 ?_);(try (refine gate_guard D35 ?_;dsimp only));refine gB (cs:=#[.slice A0_0 l0_0.length c0_0]) 43 ?_;intro gb316 hg w33 hbox hb;have BK316:=am (hbox);have GW316:=ye HB hg;replace HB:=yH HB hb;have GE316:=GW316;clear hb hbox hg)|((with_reducible refine gD 3 ?_);(try (refine gate_guard D35 ?_;dsimp only));refine gB (cs:=#[.slice A1_0 l1_0.length c1_0]) 43 ?_;intro gb317 hg w34 hbox hb;have BK317:=am (hbox);have GW317:=ye HB hg;replace HB:=yH HB hb;have NB316_317:=yl BK316 hg;have NB317_316:=yg BK316 hg;replace BK316:=yb BK316 hb;have GE317:=GW317;clear hb hbox hg)|((with_reducible refine gD 4 ?_);(try (refine gate_guard D35 ?_;dsimp only));refine gB (cs:=#[.slice none 0 0]) 43 ?_;intro gb318 hg w35 hbox hb;have BK318:=am (hbox);have GW318:=ye HB hg;replace HB:=yH HB hb;have NB316_318:=yl BK316 hg;have NB318_316:=yg BK316 hg;replace BK316:=yb BK316 hb;have NB317_318:=yl BK317 hg;have NB318_317:=yg BK317 hg;replace BK317:=yb BK317 hb;have GE318:=GW318;clear hb hbox hg))
  replace BK316:=am (qd BK316.out)
  replace BK317:=am (qd BK317.out)
  replace BK318:=am (qd BK318.out)
  replace HB:=am (pd HB.out)
  refine rS (n:=19) (S:=fun w'=>w'.cell? ⟨gb316,0,none⟩=some (.slice A0_0 l0_0.length c0_0)∧w'.cell? ⟨gb317,0,none⟩=some (.slice A1_0 l1_0.length c1_0)) (ds:=[]) [(0,6),(1,0),(2,8),(3,9),(4,10),(5,0),(6,12),(7,13),(8,14),(9,15),(10,16),(11,17),(12,18),(13,19),(14,20),(15,21),(16,22),(17,23),(18,24)] D3 rfl impl_Product.tab1 impl_Product.bits1 ⟨yk BK316 0,yk BK317 0⟩ (fun hHeld HT_ HW_=>?_)
  generalize w35.drew=w36 at BK316 BK317 BK318 HB hHeld ⊢
  refine rR ?_
  refine rO (N:=some 7) HT_ rfl rfl D3 D24 (fun K hK=>?_)
  refine goes_ Try.func77 D3 rfl #[.agg #[.slice A0_0 l0_0.length c0_0]] D35 rfl rfl D27 ?_
  with_reducible refine (impl_GoodMatrix.calls _ _ l0_0 true _ (yc (Kd.C_below HR0_0.out HB.out)) HC0_0.out A3.out).mono ?_
  rintro e w37 ⟨rfl,hb⟩
  refine ⟨_,rfl,?_⟩
  replace BK316:=yb BK316 hb
  replace BK317:=yb BK317 hb
  replace BK318:=yb BK318 hb
  replace HB:=yH HB hb
  (try clear hb)
  (try clear hb2)
  (try clear hk)
  (try clear hi)
  refine hK.out _ _ ⟨yk BK316 0,yk BK317 0⟩ (fun hHeld=>?_)
  clear hK K
  refine rN (nA 7) ?_
  refine rR ?_
  refine rO (N:=some 11) HT_ rfl rfl D3 D24 (fun K hK=>?_)
  refine goes_ Try.func77 D3 rfl #[.agg #[.slice A1_0 l1_0.length c1_0]] D35 rfl rfl D27 ?_
  with_reducible refine (impl_GoodMatrix.calls _ _ l1_0 false _ (yc (Kd.C_below HR1_0.out HB.out)) HC1_0.out A5.out).mono ?_
  rintro e w38 ⟨rfl,hb⟩
  refine ⟨_,rfl,?_⟩
  replace BK316:=yb BK316 hb
  replace BK317:=yb BK317 hb
  replace BK318:=yb BK318 hb
  replace HB:=yH HB hb
  (try clear hb)
  (try clear hb2)
  (try clear hk)
  (try clear hi)
  refine hK.out _ _ ⟨yk BK316 0,yk BK317 0⟩ (fun hHeld=>?_)
  clear hK K
  refine rN (nA 11) ?_
  refine rR ?_
  refine rD HT_ D3 ?_
  have hnb39:=NB318_316.out
  have hnc39:=NB316_318.out
  have hnb40:=NB318_317.out
  have hnc40:=NB317_318.out
  obtain ⟨hcz41_0,hfz41_0⟩:=yk1 BK318
  try go_wp2
  refine bodyPost_ret (results_ct rfl _ _ gb318 43 #[.slice none 0 0] (0,0) _ rfl D84 Try.underlying43 rfl D3) rfl ?_
  exact ⟨_,D0,D25,yW HB⟩
 replace c4:=Bool.eq_false_iff.mpr c4
 subst c4
 replace H:=yn H
 simp only [Option.some.injEq,Prod.mk.injEq] at H
 obtain ⟨rfl,rfl⟩:=H
 go_enter Try.func79,Try.ntmps79
 try go_wp2_with (first|((with_reducible refine gD 2 ?_);(try (refine gate_guard D35 ?_;dsimp only));refine gB (cs:=#[.slice A0_0 l0_0.length c0_0]) 43 ?_;intro gb316 hg w42 hbox hb;have BK316:=am (hbox);have GW316:=ye HB hg;replace HB:=yH HB hb;have GE316:=GW316;clear hb hbox hg)|((with_reducible refine gD 3 ?_);(try (refine gate_guard D35 ?_;dsimp only));refine gB (cs:=#[.slice A1_0 l1_0.length c1_0]) 43 ?_;intro gb317 hg w43 hbox hb;have BK317:=am (hbox);have GW317:=ye HB hg;replace HB:=yH HB hb;have NB316_317:=yl BK316 hg;have NB317_316:=yg BK316 hg;replace BK316:=yb BK316 hb;have GE317:=GW317;clear hb hbox hg)|((with_reducible refine gD 4 ?_);(try (refine gate_guard D35 ?_;dsimp only));refine gB (cs:=#[.slice none 0 0]) 43 ?_;intro gb318 hg w44 hbox hb;have BK318:=am (hbox);have GW318:=ye HB hg;replace HB:=yH HB hb;have NB316_318:=yl BK316 hg;have NB318_316:=yg BK316 hg;replace BK316:=yb BK316 hb;have NB317_318:=yl BK317 hg;have NB318_317:=yg BK317 hg;replace BK317:=yb BK317 hb;have GE318:=GW318;clear hb hbox hg))
 replace BK316:=am (qd BK316.out)
 replace BK317:=am (qd BK317.out)
 replace BK318:=am (qd BK318.out)
 replace HB:=am (pd HB.out)
 refine rS (n:=19) (S:=fun w'=>w'.cell? ⟨gb316,0,none⟩=some (.slice A0_0 l0_0.length c0_0)) (ds:=[]) [(0,6),(1,0),(2,8),(3,9),(4,10),(5,11),(6,12),(7,13),(8,14),(9,15),(10,16),(11,17),(12,18),(13,19),(14,20),(15,21),(16,22),(17,23),(18,24)] D3 rfl impl_Product.tab1 impl_Product.bits1 (yk BK316 0) (fun hHeld HT_ HW_=>?_)
 generalize w44.drew=w45 at BK316 BK317 BK318 HB hHeld ⊢
 refine rR ?_
 refine rO (N:=some 7) HT_ rfl rfl D3 D24 (fun K hK=>?_)
 refine goes_ Try.func77 D3 rfl #[.agg #[.slice A0_0 l0_0.length c0_0]] D35 rfl rfl D27 ?_
 with_reducible refine (impl_GoodMatrix.calls _ _ l0_0 false _ (yc (Kd.C_below HR0_0.out HB.out)) HC0_0.out A3.out).mono ?_
 rintro e w46 ⟨rfl,hb⟩
 refine ⟨_,rfl,?_⟩
 replace BK316:=yb BK316 hb
 replace BK317:=yb BK317 hb
 replace BK318:=yb BK318 hb
 replace HB:=yH HB hb
 (try clear hb)
 (try clear hb2)
 (try clear hk)
 (try clear hi)
 refine hK.out _ _ (yk BK316 0) (fun hHeld=>?_)
 clear hK K
 refine rN (nA 7) ?_
 refine rR ?_
 refine rD HT_ D3 ?_
 have hnb47:=NB318_316.out
 have hnc47:=NB316_318.out
 have hnb48:=NB318_317.out
 have hnc48:=NB317_318.out
 obtain ⟨hcz49_0,hfz49_0⟩:=yk1 BK318
 try go_wp2
 refine bodyPost_ret (results_ct rfl _ _ gb318 43 #[.slice none 0 0] (0,0) _ rfl D84 Try.underlying43 rfl D3) rfl ?_
 exact ⟨_,D0,D25,yW HB⟩
def impl_Identity.f (k:Nat) (a0:Int):Option ((List (List Int)) × Bool):=(impl_within.f a0 1 16).bind fun t326=>(if t326=true then ((impl_identity.f k a0).bind fun t327=>(some (t327,true))) else (some (([]:List (List Int)),false)))
theorem impl_Identity.mono:∀ a0 k,LeO (impl_Identity.f k a0) (impl_Identity.f (k+1) a0):=by
 intro a0 k
 unfold impl_Identity.f
 exact mm
theorem impl_Identity.calls (k:Nat) (a0:Int) (r1:List (List Int)) (r2:Bool) (w:World) (h:impl_Identity.f k a0=some (r1,r2)) :
  Calls Try.prog 80 #[.int .i64 a0] w fun e w'=>∃ v0_:Value,e = .returned (.tuple #[.agg #[v0_], .bool r2])∧Kd.S (Kd.slice 5 (Kd.int .u8)) 57 w' w.heap.size (fun _=>True) v0_ r1∧Below w.heap.size w w':=by
 have hu43:=Try.underlying43
 have HB:=am (Below.refl w.heap.size w)
 have H:=h
 unfold impl_Identity.f at H
 clear h
 obtain ⟨t326,A2,H⟩:=yo H
 by_cases c3:t326=true
 ·subst c3
  replace H:=yt H
  obtain ⟨t327,A4,H⟩:=yo H
  simp only [Option.some.injEq,Prod.mk.injEq] at H
  obtain ⟨rfl,rfl⟩:=H
  go_enter Try.func80,Try.ntmps80
  go_wp2_with (first|((with_reducible refine gD 2 ?_);refine gB (cs:=#[.slice none 0 0]) 43 ?_;intro gb325 hg w5 hbox hb;have BK325:=am (hbox);have GW325:=ye HB hg;replace HB:=yH HB hb;have GE325:=GW325;clear hb hbox hg)|((with_reducible refine gC 137 ?_);refine gM (some 5) Try.func137 (args:=#[.int .i64 a0, .int .i64 1, .int .i64 16]) (impl_within.calls a0 1 16 true _ A2.out) ?_;rintro e w' ⟨rfl,⟨nd,rfl⟩⟩;refine ⟨_,rfl,?_⟩;(try (rw [drewN_self w5];generalize hq_:World.drewN w5 _=w5;have n0_:Aside0 (w5.heap[gb325]? = some (.cells #[.slice none 0 0] 43 (0,0))):=⟨by rw [← hq_];exact (yB BK325)⟩;have n1_:Aside0 (Below w.heap.size w w5):=⟨by rw [← hq_];exact (yW HB)⟩;clear BK325 HB hq_;have BK325:=n0_;have HB:=n1_;clear n0_ n1_)))|((with_reducible refine gC 168 ?_);refine gM (some 9) Try.func168 (args:=#[.int .i64 a0]) (impl_identity.calls k a0 t327 _ A4.out) ?_;rintro e w6 ⟨v328,rfl,ho0,hb⟩;refine ⟨_,rfl,?_⟩;have HO329:=am (Kd.S_lower ho0 (pz (yW HB)));replace BK325:=yb BK325 hb;replace HB:=yH HB hb;clear hb ho0;obtain ⟨Ao7,co7,eo7⟩:=Kd.S_slice HO329.out;subst eo7;obtain ⟨hcz8_0,hfz8_0⟩:=yk1 BK325))
  refine bodyPost_ret (results_ct rfl _ _ gb325 43 #[.slice Ao7 t327.length co7] (0,0) _ rfl (by refine sB ?_;refine blk_put (cs:=#[.slice none 0 0]) ?_ 0 _ rfl;exact yB BK325) Try.underlying43 rfl D3) rfl ?_
  exact ⟨_,D0,by refine sS ?_;exact Kd.S_mono (Kd.S_far (p:=⟨gb325,0,none⟩) (Kd.S_types HO329.out BK325.out D24) (fun _ hk=>hk.2) (.slice Ao7 t327.length co7)) (fun _ hk=>trivial),yW HB⟩
 replace c3:=Bool.eq_false_iff.mpr c3
 subst c3
 replace H:=yn H
 simp only [Option.some.injEq,Prod.mk.injEq] at H
 obtain ⟨rfl,rfl⟩:=H
 go_enter Try.func80,Try.ntmps80
 go_wp2_with (first|((with_reducible refine gD 2 ?_);refine gB (cs:=#[.slice none 0 0]) 43 ?_;intro gb325 hg w9 hbox hb;have BK325:=am (hbox);have GW325:=ye HB hg;replace HB:=yH HB hb;have GE325:=GW325;clear hb hbox hg)|((with_reducible refine gC 137 ?_);refine gM (some 5) Try.func137 (args:=#[.int .i64 a0, .int .i64 1, .int .i64 16]) (impl_within.calls a0 1 16 false _ A2.out) ?_;rintro e w' ⟨rfl,⟨nd,rfl⟩⟩;refine ⟨_,rfl,?_⟩;(try (rw [drewN_self w9];generalize hq_:World.drewN w9 _=w9;have n0_:Aside0 (w9.heap[gb325]? = some (.cells #[.slice none 0 0] 43 (0,0))):=⟨by rw [← hq_];exact (yB BK325)⟩;have n1_:Aside0 (Below w.heap.size w w9):=⟨by rw [← hq_];exact (yW HB)⟩;clear BK325 HB hq_;have BK325:=n0_;have HB:=n1_;clear n0_ n1_));obtain ⟨hcz10_0,hfz10_0⟩:=yk1 BK325))
 refine bodyPost_ret (results_ct rfl _ _ gb325 43 #[.slice none 0 0] (0,0) _ rfl (by refine sB ?_;refine blk_put (cs:=#[.slice none 0 0]) ?_ 0 _ rfl;exact yB BK325) Try.underlying43 rfl D3) rfl ?_
 exact ⟨_,D0,D25,yW HB⟩

def impl_DotVectors.f (k:Nat) (l0:List Int) (l1:List Int):Option (Int × Bool):=if (l0.length:Int) > 80 then (some (0,false)) else (if (l1.length:Int)=(l0.length:Int) then ((impl_dot.f k l0 l1).bind fun t330=>(some (t330,true))) else (some (0,false)))
theorem impl_DotVectors.mono:∀ a0 a1 k,LeO (impl_DotVectors.f k a0 a1) (impl_DotVectors.f (k+1) a0 a1):=by
 intro a0 a1 k
 unfold impl_DotVectors.f
 exact mm
theorem impl_DotVectors.calls (k:Nat) (A0:Option Addr) (c0:Nat) (l0:List Int) (A1:Option Addr) (c1:Nat) (l1:List Int) (r1:Int) (r2:Bool) (w:World) (hr0:Kd.C (Kd.int .u8) w A0 l0.length l0) (hc0:l0.length≤c0) (hr1:Kd.C (Kd.int .u8) w A1 l1.length l1) (hc1:l1.length≤c1) (h:impl_DotVectors.f k l0 l1=some (r1,r2)) :
  Calls Try.prog 81 #[.slice A0 l0.length c0, .slice A1 l1.length c1] w fun e w'=>e = .returned (.tuple #[.int .u8 r1, .bool r2])∧Drawn0 w w':=by
 have HR0:=am hr0
 have HC0:=am hc0
 clear hr0 hc0
 have HR1:=am hr1
 have HC1:=am hc1
 clear hr1 hc1
 have H:=h
 unfold impl_DotVectors.f at H
 clear h
 by_cases c3:(l0.length:Int) > 80
 ·rw [if_pos c3] at H
  have c3b0:decide (80 < (l0.length:Int))=true:=decide_eq_true c3
  have c3b1:decide (80 < l0.length)=true:=decide_eq_true D23
  clear c3
  simp only [Option.some.injEq,Prod.mk.injEq] at H
  obtain ⟨rfl,rfl⟩:=H
  go_enter Try.func81,Try.ntmps81
  go_wp2
  go_ret2
  exact ⟨D2,D34⟩
 rw [if_neg c3] at H
 have c3b0:decide (80 < (l0.length:Int))=false:=decide_eq_false c3
 have c3b1:decide (80 < l0.length)=false:=decide_eq_false D23
 clear c3
 by_cases c4:(l1.length:Int)=(l0.length:Int)
 ·rw [if_pos c4] at H
  have c4b0:((l1.length:Int) == (l0.length:Int))=true:=beq_iff_eq.mpr c4
  have c4b1:((l1.length:Int) != (l0.length:Int))=false:=bne_eq_false_iff_eq.mpr c4
  have c4b2:(l1.length == l0.length)=true:=by first|simpa using c4|(simp at c4 ⊢;omega)
  clear c4
  obtain ⟨t330,A5,H⟩:=yo H
  simp only [Option.some.injEq,Prod.mk.injEq] at H
  obtain ⟨rfl,rfl⟩:=H
  go_enter Try.func81,Try.ntmps81
  go_wp2_with (first|((with_reducible refine gC 169 ?_);refine gM (some 18) Try.func169 (args:=#[.slice A0 l0.length c0, .slice A1 l1.length c1]) (impl_dot.calls k _ _ l0 _ _ l1 t330 _ (yc HR0.out) HC0.out (yc HR1.out) HC1.out A5.out) ?_;rintro e w' ⟨rfl,⟨nd,rfl⟩⟩;refine ⟨_,rfl,?_⟩))
  go_ret2
  exact ⟨D2,D34⟩
 rw [if_neg c4] at H
 have c4b0:((l1.length:Int) == (l0.length:Int))=false:=beq_eq_false_iff_ne.mpr c4
 have c4b1:((l1.length:Int) != (l0.length:Int))=true:=bne_iff_ne.mpr c4
 have c4b2:(l1.length == l0.length)=false:=by first|simpa using c4|(simp at c4 ⊢;omega)
 simp only [Option.some.injEq,Prod.mk.injEq] at H
 obtain ⟨rfl,rfl⟩:=H
 go_enter Try.func81,Try.ntmps81
 go_wp2
 go_ret2
 exact ⟨D2,D34⟩

def spec_DrawProduct.g (k:Nat) (s0_0:List Int) (s0_1:Int) (s0_2:Int):Option ((List (List Int)) × (List (List Int)) × Int × Int):=(spec_l1Cur_side.f s0_0 s0_1 s0_2).bind fun bt147=>((spec_l1Cur_side.f s0_0 bt147.2.1 bt147.2.2).bind fun bt150=>((spec_l1Cur_one.f s0_0 bt150.2.1 bt150.2.2 12).bind fun bt153=>(if bt153.1=true then ((spec_l1Cur_matrix.f k s0_0 bt153.2.1 bt153.2.2 bt147.1 bt150.1).bind fun bt156=>((spec_l1Cur_side.f s0_0 bt156.2.1 bt156.2.2).bind fun bt161=>((spec_l1Cur_matrix.f k s0_0 bt161.2.1 bt161.2.2 (wrap64 (bt150.1+1)) bt161.1).bind fun bt164=>(some (bt156.1,bt164.1,bt164.2.1,bt164.2.2))))) else ((spec_l1Cur_matrix.f k s0_0 bt153.2.1 bt153.2.2 bt147.1 bt150.1).bind fun bt169=>((spec_l1Cur_side.f s0_0 bt169.2.1 bt169.2.2).bind fun bt174=>((spec_l1Cur_matrix.f k s0_0 bt174.2.1 bt174.2.2 bt150.1 bt174.1).bind fun bt177=>(some (bt169.1,bt177.1,bt177.2.1,bt177.2.2))))))))
theorem spec_DrawProduct.monog:∀ a0 a1 a2 k,LeO (spec_DrawProduct.g k a0 a1 a2) (spec_DrawProduct.g (k+1) a0 a1 a2):=by
 intro a0 a1 a2 k
 unfold spec_DrawProduct.g
 exact mm
def spec_DrawProduct.f (k:Nat) (l0:List Int):Option ((List (List Int)) × (List (List Int))):=(spec_DrawProduct.g k l0 0 0).bind fun b=>some (b.1,b.2.1)
theorem spec_DrawProduct.mono:∀ a0 k,LeO (spec_DrawProduct.f k a0) (spec_DrawProduct.f (k+1) a0):=fun a0 k=>LeO.bind (spec_DrawProduct.monog _ _ _ k) (fun _=>LeO.refl _)
theorem spec_DrawProduct.calls (k:Nat) (A0:Option Addr) (c0:Nat) (l0:List Int) (p1:(List (List Int))) (p2:(List (List Int))) (w0:World) (hr0:Kd.C (Kd.int .u8) w0 A0 l0.length l0) (hc0:l0.length≤c0) (h:spec_DrawProduct.f k l0=some (p1,p2)) :
  Calls Try.prog 82 #[.slice A0 l0.length c0] w0 fun e w'=>∃ v0_ v1_:Value,e = .returned (.tuple #[.agg #[v0_], .agg #[v1_]])∧Kd.S (Kd.slice 5 (Kd.int .u8)) 57 w' w0.heap.size (fun k_=>some k_ ≠ (v1_:Value).ownBlock) v0_ p1∧Kd.S (Kd.slice 5 (Kd.int .u8)) 57 w' w0.heap.size (fun k_=>some k_ ≠ (v0_:Value).ownBlock) v1_ p2∧Below w0.heap.size w0 w':=by
 unfold spec_DrawProduct.f at h
 obtain ⟨⟨r1,r2,r3,r4⟩,hG_,he_⟩:=Option.bind_eq_some_iff.mp h
 clear h
 have h:=hG_
 clear hG_
 simp only [Option.some.injEq,Prod.mk.injEq] at he_
 obtain ⟨rfl,rfl⟩:=he_
 have HR:=am hr0
 clear hr0 hc0
 have HB:=am (Below.refl w0.heap.size w0)
 have HL:=am (Nat.le_refl w0.heap.size)
 have HW0:=HL
 have hu180:=Try.underlying180
 have hu43:=Try.underlying43
 have H:=h
 unfold spec_DrawProduct.f at H
 clear h
 obtain ⟨⟨t147,t148,t149⟩,A2,H⟩:=yo H
 try dsimp only at H
 obtain ⟨⟨t150,t151,t152⟩,A3,H⟩:=yo H
 try dsimp only at H
 obtain ⟨⟨t153,t154,t155⟩,A4,H⟩:=yo H
 try dsimp only at H
 by_cases c5:t153=true
 ·subst c5
  replace H:=yt H
  obtain ⟨⟨t156,t159,t160⟩,A6,H⟩:=yo H
  try dsimp only at H
  obtain ⟨⟨t161,t162,t163⟩,A7,H⟩:=yo H
  try dsimp only at H
  obtain ⟨⟨t164,t167,t168⟩,A8,H⟩:=yo H
  try dsimp only at H
  simp only [Option.some.injEq,Prod.mk.injEq] at H
  obtain ⟨rfl,rfl,rfl,rfl⟩:=H
  go_enter Try.func82,Try.ntmps82
  go_wp2_with (first|((with_reducible refine gD 10 ?_);refine gB (cs:=#[.slice A0 l0.length c0, .int .i64 0, .int .u64 0]) 180 ?_;intro g hg wS hbox hb;have n0_:=yH HB hb;have HI0:=am (show IsS180 w0 _ g l0 0 0 from ⟨A0,c0,hbox,by rw [hg];exact pz (yW HB),HR.out⟩);have m0_:=yb BK145 hb;have NB0_145:=yg BK145 hg;have NB145_0:=am (Ne.symm NB0_145.out);clear BK145;have BK145:=m0_;clear m0_;have m1_:=yb BK146 hb;have NB0_146:=yg BK146 hg;have NB146_0:=am (Ne.symm NB0_146.out);clear BK146;have BK146:=m1_;clear m1_ HB;have HB:=n0_;clear n0_;have HK:=am (KeepBut.of_below HB.out g none);clear hb hbox hg)|((with_reducible refine gD 2 ?_);refine gB (cs:=#[.slice none 0 0]) 43 ?_;intro gb145 hg w9 hbox hb;have n2_:=am (pu D10 hb);have n3_:=am (hbox);have n4_:=am ((by rw [hg];exact (pz (yW HB)):w0.heap.size≤gb145));have n5_:=n4_;clear HB;have HB:=n2_;have BK145:=n3_;have GW145:=n4_;have GE145:=n5_;clear n2_ n3_ n4_ n5_ hb hbox hg)|((with_reducible refine gD 3 ?_);refine gB (cs:=#[.slice none 0 0]) 43 ?_;intro gb146 hg w10 hbox hb;have n1_:=yb BK145 hb;have n3_:=am (pu D51 hb);have n4_:=am (hbox);have n5_:=am ((by rw [hg];exact (pz (yW HB)):w0.heap.size≤gb146));have n6_:=n5_;have n7_:=yl BK145 hg;have n8_:=yg BK145 hg;clear BK145 HB;have BK145:=n1_;have HB:=n3_;have BK146:=n4_;have GW146:=n5_;have GE146:=n6_;have NB145_146:=n7_;have NB146_145:=n8_;clear n1_ n3_ n4_ n5_ n6_ n7_ n8_ hb hbox hg)|((with_reducible refine gC 159 ?_);refine gM (some 12) Try.func159 (args:=#[.pointer (some ⟨g,0,none⟩)]) (spec_l1Cur_side.calls g l0 0 0 t147 t148 t149 w0 _ ?side1 ?side2 A2.out) ?_;(case side1=>repeat (first|(with_reducible first|exact HI0.out|apply IsS180.alloc|apply IsS180.drewN|apply IsS180.drew|apply IsS180.set_1|apply IsS180.set_2|refine IsS180.far ?_ NB0_145.out _|refine IsS180.far ?_ NB0_146.out _)|exact HI0.out));(case side2=>repeat (first|(with_reducible first|exact HB.out|apply pa|apply pb|apply pd|refine pt ?_ (IsS180.ge HI0.out)|refine pt ?_ GE145.out|refine pt ?_ GE146.out)|exact HB.out));rintro e w11 ⟨rfl,hi,hb,hk⟩;refine ⟨_,rfl,?_⟩;replace BK145:=am (KeepBut.blk hk (g':=gb145) (o:=.cells #[.slice none 0 0] 43 (0,0)) (yB BK145) NB145_0.out D52);replace BK146:=am (KeepBut.blk hk (g':=gb146) (o:=.cells #[.slice none 0 0] 43 (0,0)) (yB BK146) NB146_0.out D52);replace HK:=am (KeepBut.trans D9 hk (.inl rfl));replace HB:=am (hb);replace HI0:=am (hi);clear hb hk hi)|((with_reducible refine gC 159 ?_);refine gM (some 14) Try.func159 (args:=#[.pointer (some ⟨g,0,none⟩)]) (spec_l1Cur_side.calls g l0 t148 t149 t150 t151 t152 w0 _ ?side1 ?side2 A3.out) ?_;(case side1=>repeat (first|(with_reducible first|exact HI0.out|apply IsS180.alloc|apply IsS180.drewN|apply IsS180.drew|apply IsS180.set_1|apply IsS180.set_2|refine IsS180.far ?_ NB0_145.out _|refine IsS180.far ?_ NB0_146.out _)|exact HI0.out));(case side2=>repeat (first|(with_reducible first|exact HB.out|apply pa|apply pb|apply pd|refine pt ?_ (IsS180.ge HI0.out)|refine pt ?_ GE145.out|refine pt ?_ GE146.out)|exact HB.out));rintro e w12 ⟨rfl,hi,hb,hk⟩;refine ⟨_,rfl,?_⟩;replace BK145:=am (KeepBut.blk hk (g':=gb145) (o:=.cells #[.slice none 0 0] 43 (0,0)) (yB BK145) NB145_0.out D52);replace BK146:=am (KeepBut.blk hk (g':=gb146) (o:=.cells #[.slice none 0 0] 43 (0,0)) (yB BK146) NB146_0.out D52);replace HK:=am (KeepBut.trans D9 hk (.inl rfl));replace HB:=am (hb);replace HI0:=am (hi);clear hb hk hi)|((with_reducible refine gC 160 ?_);refine gM (some 17) Try.func160 (args:=#[.pointer (some ⟨g,0,none⟩), .int .i64 12]) (spec_l1Cur_one.calls g l0 t151 t152 12 true t154 t155 w0 _ ?side1 ?side2 A4.out) ?_;(case side1=>repeat (first|(with_reducible first|exact HI0.out|apply IsS180.alloc|apply IsS180.drewN|apply IsS180.drew|apply IsS180.set_1|apply IsS180.set_2|refine IsS180.far ?_ NB0_145.out _|refine IsS180.far ?_ NB0_146.out _)|exact HI0.out));(case side2=>repeat (first|(with_reducible first|exact HB.out|apply pa|apply pb|apply pd|refine pt ?_ (IsS180.ge HI0.out)|refine pt ?_ GE145.out|refine pt ?_ GE146.out)|exact HB.out));rintro e w13 ⟨rfl,hi,hb,hk⟩;refine ⟨_,rfl,?_⟩;replace BK145:=am (KeepBut.blk hk (g':=gb145) (o:=.cells #[.slice none 0 0] 43 (0,0)) (yB BK145) NB145_0.out D52);replace BK146:=am (KeepBut.blk hk (g':=gb146) (o:=.cells #[.slice none 0 0] 43 (0,0)) (yB BK146) NB146_0.out D52);replace HK:=am (KeepBut.trans D9 hk (.inl rfl));replace HB:=am (hb);replace HI0:=am (hi);clear hb hk hi)|((with_reducible refine gC 161 ?_);refine gM (some 23) Try.func161 (args:=#[.pointer (some ⟨g,0,none⟩), .int .i64 t147, .int .i64 t150]) (spec_l1Cur_matrix.calls k g l0 t154 t155 t147 t150 t156 t159 t160 w0 _ ?side1 ?side2 A6.out) ?_;(case side1=>repeat (first|(with_reducible first|exact HI0.out|apply IsS180.alloc|apply IsS180.drewN|apply IsS180.drew|apply IsS180.set_1|apply IsS180.set_2|refine IsS180.far ?_ NB0_145.out _|refine IsS180.far ?_ NB0_146.out _)|exact HI0.out));(case side2=>repeat (first|(with_reducible first|exact HB.out|apply pa|apply pb|apply pd|refine pt ?_ (IsS180.ge HI0.out)|refine pt ?_ GE145.out|refine pt ?_ GE146.out)|exact HB.out));rintro e w14 ⟨v157,rfl,ho0,hi,hb,hk⟩;refine ⟨_,rfl,?_⟩;replace BK145:=am (KeepBut.blk hk (g':=gb145) (o:=.cells #[.slice none 0 0] 43 (0,0)) (yB BK145) NB145_0.out D52);replace BK146:=am (KeepBut.blk hk (g':=gb146) (o:=.cells #[.slice none 0 0] 43 (0,0)) (yB BK146) NB146_0.out D52);have HO158:=am (Kd.S_lower ho0 (keep_size (w:=w0) (g:=g) (row:=none) D9));replace HK:=am (KeepBut.trans D9 hk (.inl rfl));replace HB:=am (hb);replace HI0:=am (hi);clear hb hk hi ho0)|((with_reducible refine gC 159 ?_);refine gM (some 27) Try.func159 (args:=#[.pointer (some ⟨g,0,none⟩)]) (spec_l1Cur_side.calls g l0 t159 t160 t161 t162 t163 w0 _ ?side1 ?side2 A7.out) ?_;(case side1=>repeat (first|(with_reducible first|exact HI0.out|apply IsS180.alloc|apply IsS180.drewN|apply IsS180.drew|apply IsS180.set_1|apply IsS180.set_2|refine IsS180.far ?_ NB0_145.out _|refine IsS180.far ?_ NB0_146.out _)|exact HI0.out));(case side2=>repeat (first|(with_reducible first|exact HB.out|apply pa|apply pb|apply pd|refine pt ?_ (IsS180.ge HI0.out)|refine pt ?_ GE145.out|refine pt ?_ GE146.out)|exact HB.out));rintro e w15 ⟨rfl,hi,hb,hk⟩;refine ⟨_,rfl,?_⟩;replace BK145:=am (KeepBut.blk hk (g':=gb145) (o:=.cells #[.slice none 0 0] 43 (0,0)) (yB BK145) NB145_0.out D52);replace BK146:=am (KeepBut.blk hk (g':=gb146) (o:=.cells #[.slice none 0 0] 43 (0,0)) (yB BK146) NB146_0.out D52);replace HO158:=am (Kd.S_mono (Kd.S_keep (IsS180.apartS (show IsS180 w0 _ g l0 t159 t160 from by repeat (first|(with_reducible first|exact HI0.out|apply IsS180.alloc|apply IsS180.drewN|apply IsS180.drew|apply IsS180.set_1|apply IsS180.set_2|refine IsS180.far ?_ NB0_145.out _|refine IsS180.far ?_ NB0_146.out _)|exact HI0.out)) (yS HO158) D24) hk (fun _ h=>h.2)) (fun _ h=>h.1));replace HK:=am (KeepBut.trans D9 hk (.inl rfl));replace HB:=am (hb);replace HI0:=am (hi);clear hb hk hi)|((with_reducible refine gC 161 ?_);refine gM (some 28) Try.func161 (args:=#[.pointer (some ⟨g,0,none⟩), .int .i64 (wrap64 (t150+1)), .int .i64 t161]) (spec_l1Cur_matrix.calls k g l0 t162 t163 (wrap64 (t150+1)) t161 t164 t167 t168 w0 _ ?side1 ?side2 A8.out) ?_;(case side1=>repeat (first|(with_reducible first|exact HI0.out|apply IsS180.alloc|apply IsS180.drewN|apply IsS180.drew|apply IsS180.set_1|apply IsS180.set_2|refine IsS180.far ?_ NB0_145.out _|refine IsS180.far ?_ NB0_146.out _)|exact HI0.out));(case side2=>repeat (first|(with_reducible first|exact HB.out|apply pa|apply pb|apply pd|refine pt ?_ (IsS180.ge HI0.out)|refine pt ?_ GE145.out|refine pt ?_ GE146.out)|exact HB.out));rintro e w16 ⟨v165,rfl,ho0,hi,hb,hk⟩;refine ⟨_,rfl,?_⟩;replace BK145:=am (KeepBut.blk hk (g':=gb145) (o:=.cells #[.slice none 0 0] 43 (0,0)) (yB BK145) NB145_0.out D52);replace BK146:=am (KeepBut.blk hk (g':=gb146) (o:=.cells #[.slice none 0 0] 43 (0,0)) (yB BK146) NB146_0.out D52);have HO166:=am (Kd.S_lower (Kd.S_new' ho0 (Kd.S_lt (yS HO158))) (keep_size (w:=w0) (g:=g) (row:=none) D9));replace HO158:=am (Kd.S_mono (Kd.S_told (Kd.S_oldK (IsS180.apartS (show IsS180 w0 _ g l0 t162 t163 from by repeat (first|(with_reducible first|exact HI0.out|apply IsS180.alloc|apply IsS180.drewN|apply IsS180.drew|apply IsS180.set_1|apply IsS180.set_2|refine IsS180.far ?_ NB0_145.out _|refine IsS180.far ?_ NB0_146.out _)|exact HI0.out)) (yS HO158) D24) hk) (Kd.S_base ho0)) (fun _ h_=>h_.1));replace HK:=am (KeepBut.trans D9 hk (.inl rfl));replace HB:=am (hb);replace HI0:=am (hi);clear hb hk hi ho0;obtain ⟨Ao17,co17,eo17⟩:=Kd.S_slice HO158.out;subst eo17;have hnb18:=NB145_146.out;have hnc18:=NB146_145.out;have hnb19:=NB145_0.out;have hnc19:=NB0_145.out;obtain ⟨hcz20_0,hfz20_0⟩:=yk1 BK145;obtain ⟨Ao21,co21,eo21⟩:=Kd.S_slice HO166.out;subst eo21;have hnb22:=NB146_0.out;have hnc22:=NB0_146.out;obtain ⟨hcz23_0,hfz23_0⟩:=yk1 BK146))
  refine bodyPost_ret (results_cc rfl _ _ gb145 gb146 43 43 #[.slice Ao17 t156.length co17] #[.slice Ao21 t164.length co21] (0,0) (0,0) _ _ rfl D145 Try.underlying43 rfl D3 rfl (by refine sB ?_;refine blk_put (cs:=#[.slice none 0 0]) ?_ 0 _ rfl;exact yF BK146) Try.underlying43 rfl D3) rfl ?_
  exact ⟨_,_,D0,by refine sS ?_;exact Kd.S_mono (Kd.S_far (p:=⟨gb146,0,none⟩) (Kd.S_far (p:=⟨gb145,0,none⟩) (Kd.S_types (Kd.S_types HO158.out BK145.out D24) BK146.out D24) (fun _ hk=>hk.1.2) (.slice Ao17 t156.length co17)) (fun _ hk=>hk.2) (.slice Ao21 t164.length co21)) (fun _ hk=>hk.1.1.2),by refine sS ?_;exact Kd.S_mono (Kd.S_far (p:=⟨gb146,0,none⟩) (Kd.S_far (p:=⟨gb145,0,none⟩) (Kd.S_types (Kd.S_types HO166.out BK145.out D24) BK146.out D24) (fun _ hk=>hk.1.2) (.slice Ao17 t156.length co17)) (fun _ hk=>hk.2) (.slice Ao21 t164.length co21)) (fun _ hk=>hk.1.1.2),D134⟩
 replace c5:=Bool.eq_false_iff.mpr c5
 subst c5
 replace H:=yn H
 obtain ⟨⟨t169,t172,t173⟩,A24,H⟩:=yo H
 try dsimp only at H
 obtain ⟨⟨t174,t175,t176⟩,A25,H⟩:=yo H
 try dsimp only at H
 obtain ⟨⟨t177,t180,t181⟩,A26,H⟩:=yo H
 try dsimp only at H
 simp only [Option.some.injEq,Prod.mk.injEq] at H
 obtain ⟨rfl,rfl,rfl,rfl⟩:=H
 go_enter Try.func82,Try.ntmps82
 go_wp2_with (first|((with_reducible refine gD 10 ?_);refine gB (cs:=#[.slice A0 l0.length c0, .int .i64 0, .int .u64 0]) 180 ?_;intro g hg wS hbox hb;have n0_:=yH HB hb;have HI0:=am (show IsS180 w0 _ g l0 0 0 from ⟨A0,c0,hbox,by rw [hg];exact pz (yW HB),HR.out⟩);have m0_:=yb BK145 hb;have NB0_145:=yg BK145 hg;have NB145_0:=am (Ne.symm NB0_145.out);clear BK145;have BK145:=m0_;clear m0_;have m1_:=yb BK146 hb;have NB0_146:=yg BK146 hg;have NB146_0:=am (Ne.symm NB0_146.out);clear BK146;have BK146:=m1_;clear m1_ HB;have HB:=n0_;clear n0_;have HK:=am (KeepBut.of_below HB.out g none);clear hb hbox hg)|((with_reducible refine gD 2 ?_);refine gB (cs:=#[.slice none 0 0]) 43 ?_;intro gb145 hg w27 hbox hb;have n2_:=am (pu D10 hb);have n3_:=am (hbox);have n4_:=am ((by rw [hg];exact (pz (yW HB)):w0.heap.size≤gb145));have n5_:=n4_;clear HB;have HB:=n2_;have BK145:=n3_;have GW145:=n4_;have GE145:=n5_;clear n2_ n3_ n4_ n5_ hb hbox hg)|((with_reducible refine gD 3 ?_);refine gB (cs:=#[.slice none 0 0]) 43 ?_;intro gb146 hg w28 hbox hb;have n1_:=yb BK145 hb;have n3_:=am (pu D51 hb);have n4_:=am (hbox);have n5_:=am ((by rw [hg];exact (pz (yW HB)):w0.heap.size≤gb146));have n6_:=n5_;have n7_:=yl BK145 hg;have n8_:=yg BK145 hg;clear BK145 HB;have BK145:=n1_;have HB:=n3_;have BK146:=n4_;have GW146:=n5_;have GE146:=n6_;have NB145_146:=n7_;have NB146_145:=n8_;clear n1_ n3_ n4_ n5_ n6_ n7_ n8_ hb hbox hg)|((with_reducible refine gC 159 ?_);refine gM (some 12) Try.func159 (args:=#[.pointer (some ⟨g,0,none⟩)]) (spec_l1Cur_side.calls g l0 0 0 t147 t148 t149 w0 _ ?side1 ?side2 A2.out) ?_;(case side1=>repeat (first|(with_reducible first|exact HI0.out|apply IsS180.alloc|apply IsS180.drewN|apply IsS180.drew|apply IsS180.set_1|apply IsS180.set_2|refine IsS180.far ?_ NB0_145.out _|refine IsS180.far ?_ NB0_146.out _)|exact HI0.out));(case side2=>repeat (first|(with_reducible first|exact HB.out|apply pa|apply pb|apply pd|refine pt ?_ (IsS180.ge HI0.out)|refine pt ?_ GE145.out|refine pt ?_ GE146.out)|exact HB.out));rintro e w29 ⟨rfl,hi,hb,hk⟩;refine ⟨_,rfl,?_⟩;replace BK145:=am (KeepBut.blk hk (g':=gb145) (o:=.cells #[.slice none 0 0] 43 (0,0)) (yB BK145) NB145_0.out D52);replace BK146:=am (KeepBut.blk hk (g':=gb146) (o:=.cells #[.slice none 0 0] 43 (0,0)) (yB BK146) NB146_0.out D52);replace HK:=am (KeepBut.trans D9 hk (.inl rfl));replace HB:=am (hb);replace HI0:=am (hi);clear hb hk hi)|((with_reducible refine gC 159 ?_);refine gM (some 14) Try.func159 (args:=#[.pointer (some ⟨g,0,none⟩)]) (spec_l1Cur_side.calls g l0 t148 t149 t150 t151 t152 w0 _ ?side1 ?side2 A3.out) ?_;(case side1=>repeat (first|(with_reducible first|exact HI0.out|apply IsS180.alloc|apply IsS180.drewN|apply IsS180.drew|apply IsS180.set_1|apply IsS180.set_2|refine IsS180.far ?_ NB0_145.out _|refine IsS180.far ?_ NB0_146.out _)|exact HI0.out));(case side2=>repeat (first|(with_reducible first|exact HB.out|apply pa|apply pb|apply pd|refine pt ?_ (IsS180.ge HI0.out)|refine pt ?_ GE145.out|refine pt ?_ GE146.out)|exact HB.out));rintro e w30 ⟨rfl,hi,hb,hk⟩;refine ⟨_,rfl,?_⟩;replace BK145:=am (KeepBut.blk hk (g':=gb145) (o:=.cells #[.slice none 0 0] 43 (0,0)) (yB BK145) NB145_0.out D52);replace BK146:=am (KeepBut.blk hk (g':=gb146) (o:=.cells #[.slice none 0 0] 43 (0,0)) (yB BK146) NB146_0.out D52);replace HK:=am (KeepBut.trans D9 hk (.inl rfl));replace HB:=am (hb);replace HI0:=am (hi);clear hb hk hi)|((with_reducible refine gC 160 ?_);refine gM (some 17) Try.func160 (args:=#[.pointer (some ⟨g,0,none⟩), .int .i64 12]) (spec_l1Cur_one.calls g l0 t151 t152 12 false t154 t155 w0 _ ?side1 ?side2 A4.out) ?_;(case side1=>repeat (first|(with_reducible first|exact HI0.out|apply IsS180.alloc|apply IsS180.drewN|apply IsS180.drew|apply IsS180.set_1|apply IsS180.set_2|refine IsS180.far ?_ NB0_145.out _|refine IsS180.far ?_ NB0_146.out _)|exact HI0.out));(case side2=>repeat (first|(with_reducible first|exact HB.out|apply pa|apply pb|apply pd|refine pt ?_ (IsS180.ge HI0.out)|refine pt ?_ GE145.out|refine pt ?_ GE146.out)|exact HB.out));rintro e w31 ⟨rfl,hi,hb,hk⟩;refine ⟨_,rfl,?_⟩;replace BK145:=am (KeepBut.blk hk (g':=gb145) (o:=.cells #[.slice none 0 0] 43 (0,0)) (yB BK145) NB145_0.out D52);replace BK146:=am (KeepBut.blk hk (g':=gb146) (o:=.cells #[.slice none 0 0] 43 (0,0)) (yB BK146) NB146_0.out D52);replace HK:=am (KeepBut.trans D9 hk (.inl rfl));replace HB:=am (hb);replace HI0:=am (hi);clear hb hk hi)|((with_reducible refine gC 161 ?_);refine gM (some 23) Try.func161 (args:=#[.pointer (some ⟨g,0,none⟩), .int .i64 t147, .int .i64 t150]) (spec_l1Cur_matrix.calls k g l0 t154 t155 t147 t150 t169 t172 t173 w0 _ ?side1 ?side2 A24.out) ?_;(case side1=>repeat (first|(with_reducible first|exact HI0.out|apply IsS180.alloc|apply IsS180.drewN|apply IsS180.drew|apply IsS180.set_1|apply IsS180.set_2|refine IsS180.far ?_ NB0_145.out _|refine IsS180.far ?_ NB0_146.out _)|exact HI0.out));(case side2=>repeat (first|(with_reducible first|exact HB.out|apply pa|apply pb|apply pd|refine pt ?_ (IsS180.ge HI0.out)|refine pt ?_ GE145.out|refine pt ?_ GE146.out)|exact HB.out));rintro e w32 ⟨v170,rfl,ho0,hi,hb,hk⟩;refine ⟨_,rfl,?_⟩;replace BK145:=am (KeepBut.blk hk (g':=gb145) (o:=.cells #[.slice none 0 0] 43 (0,0)) (yB BK145) NB145_0.out D52);replace BK146:=am (KeepBut.blk hk (g':=gb146) (o:=.cells #[.slice none 0 0] 43 (0,0)) (yB BK146) NB146_0.out D52);have HO171:=am (Kd.S_lower ho0 (keep_size (w:=w0) (g:=g) (row:=none) D9));replace HK:=am (KeepBut.trans D9 hk (.inl rfl));replace HB:=am (hb);replace HI0:=am (hi);clear hb hk hi ho0)|((with_reducible refine gC 159 ?_);refine gM (some 27) Try.func159 (args:=#[.pointer (some ⟨g,0,none⟩)]) (spec_l1Cur_side.calls g l0 t172 t173 t174 t175 t176 w0 _ ?side1 ?side2 A25.out) ?_;(case side1=>repeat (first|(with_reducible first|exact HI0.out|apply IsS180.alloc|apply IsS180.drewN|apply IsS180.drew|apply IsS180.set_1|apply IsS180.set_2|refine IsS180.far ?_ NB0_145.out _|refine IsS180.far ?_ NB0_146.out _)|exact HI0.out));(case side2=>repeat (first|(with_reducible first|exact HB.out|apply pa|apply pb|apply pd|refine pt ?_ (IsS180.ge HI0.out)|refine pt ?_ GE145.out|refine pt ?_ GE146.out)|exact HB.out));rintro e w33 ⟨rfl,hi,hb,hk⟩;refine ⟨_,rfl,?_⟩;replace BK145:=am (KeepBut.blk hk (g':=gb145) (o:=.cells #[.slice none 0 0] 43 (0,0)) (yB BK145) NB145_0.out D52);replace BK146:=am (KeepBut.blk hk (g':=gb146) (o:=.cells #[.slice none 0 0] 43 (0,0)) (yB BK146) NB146_0.out D52);replace HO171:=am (Kd.S_mono (Kd.S_keep (IsS180.apartS (show IsS180 w0 _ g l0 t172 t173 from by repeat (first|(with_reducible first|exact HI0.out|apply IsS180.alloc|apply IsS180.drewN|apply IsS180.drew|apply IsS180.set_1|apply IsS180.set_2|refine IsS180.far ?_ NB0_145.out _|refine IsS180.far ?_ NB0_146.out _)|exact HI0.out)) (yS HO171) D24) hk (fun _ h=>h.2)) (fun _ h=>h.1));replace HK:=am (KeepBut.trans D9 hk (.inl rfl));replace HB:=am (hb);replace HI0:=am (hi);clear hb hk hi)|((with_reducible refine gC 161 ?_);refine gM (some 28) Try.func161 (args:=#[.pointer (some ⟨g,0,none⟩), .int .i64 t150, .int .i64 t174]) (spec_l1Cur_matrix.calls k g l0 t175 t176 t150 t174 t177 t180 t181 w0 _ ?side1 ?side2 A26.out) ?_;(case side1=>repeat (first|(with_reducible first|exact HI0.out|apply IsS180.alloc|apply IsS180.drewN|apply IsS180.drew|apply IsS180.set_1|apply IsS180.set_2|refine IsS180.far ?_ NB0_145.out _|refine IsS180.far ?_ NB0_146.out _)|exact HI0.out));(case side2=>repeat (first|(with_reducible first|exact HB.out|apply pa|apply pb|apply pd|refine pt ?_ (IsS180.ge HI0.out)|refine pt ?_ GE145.out|refine pt ?_ GE146.out)|exact HB.out));rintro e w34 ⟨v178,rfl,ho0,hi,hb,hk⟩;refine ⟨_,rfl,?_⟩;replace BK145:=am (KeepBut.blk hk (g':=gb145) (o:=.cells #[.slice none 0 0] 43 (0,0)) (yB BK145) NB145_0.out D52);replace BK146:=am (KeepBut.blk hk (g':=gb146) (o:=.cells #[.slice none 0 0] 43 (0,0)) (yB BK146) NB146_0.out D52);have HO179:=am (Kd.S_lower (Kd.S_new' ho0 (Kd.S_lt (yS HO171))) (keep_size (w:=w0) (g:=g) (row:=none) D9));replace HO171:=am (Kd.S_mono (Kd.S_told (Kd.S_oldK (IsS180.apartS (show IsS180 w0 _ g l0 t175 t176 from by repeat (first|(with_reducible first|exact HI0.out|apply IsS180.alloc|apply IsS180.drewN|apply IsS180.drew|apply IsS180.set_1|apply IsS180.set_2|refine IsS180.far ?_ NB0_145.out _|refine IsS180.far ?_ NB0_146.out _)|exact HI0.out)) (yS HO171) D24) hk) (Kd.S_base ho0)) (fun _ h_=>h_.1));replace HK:=am (KeepBut.trans D9 hk (.inl rfl));replace HB:=am (hb);replace HI0:=am (hi);clear hb hk hi ho0;obtain ⟨Ao35,co35,eo35⟩:=Kd.S_slice HO171.out;subst eo35;have hnb36:=NB145_146.out;have hnc36:=NB146_145.out;have hnb37:=NB145_0.out;have hnc37:=NB0_145.out;obtain ⟨hcz38_0,hfz38_0⟩:=yk1 BK145;obtain ⟨Ao39,co39,eo39⟩:=Kd.S_slice HO179.out;subst eo39;have hnb40:=NB146_0.out;have hnc40:=NB0_146.out;obtain ⟨hcz41_0,hfz41_0⟩:=yk1 BK146))
 refine bodyPost_ret (results_cc rfl _ _ gb145 gb146 43 43 #[.slice Ao35 t169.length co35] #[.slice Ao39 t177.length co39] (0,0) (0,0) _ _ rfl D145 Try.underlying43 rfl D3 rfl (by refine sB ?_;refine blk_put (cs:=#[.slice none 0 0]) ?_ 0 _ rfl;exact yF BK146) Try.underlying43 rfl D3) rfl ?_
 exact ⟨_,_,D0,by refine sS ?_;exact Kd.S_mono (Kd.S_far (p:=⟨gb146,0,none⟩) (Kd.S_far (p:=⟨gb145,0,none⟩) (Kd.S_types (Kd.S_types HO171.out BK145.out D24) BK146.out D24) (fun _ hk=>hk.1.2) (.slice Ao35 t169.length co35)) (fun _ hk=>hk.2) (.slice Ao39 t177.length co39)) (fun _ hk=>hk.1.1.2),by refine sS ?_;exact Kd.S_mono (Kd.S_far (p:=⟨gb146,0,none⟩) (Kd.S_far (p:=⟨gb145,0,none⟩) (Kd.S_types (Kd.S_types HO179.out BK145.out D24) BK146.out D24) (fun _ hk=>hk.1.2) (.slice Ao35 t169.length co35)) (fun _ hk=>hk.2) (.slice Ao39 t177.length co39)) (fun _ hk=>hk.1.1.2),D134⟩
end Go.Proofs.Ytajikfnpcobnpaa.PFnMatrices
-- SQUEEZED
