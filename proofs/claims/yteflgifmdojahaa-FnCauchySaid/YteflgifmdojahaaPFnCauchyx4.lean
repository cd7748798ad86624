import Derived.Test.YteflgifmdojahaaVFnCauchyB
import Derived.Test.YteflgifmdojahaaPFnCauchyx0
import Derived.Test.YteflgifmdojahaaPFnCauchyx1
import Derived.Test.YteflgifmdojahaaPFnCauchyx2
import Derived.Test.YteflgifmdojahaaPFnCauchyx3
namespace Go.Proofs.Yteflgifmdojahaa.PFnCauchy
open Go.RowKit Go.Proofs.YteflgifmdojahaaW.PrintWords Go.Proofs.YteflgifmdojahaaW.PrintLast Go.Proofs.YteflgifmdojahaaW.PrintMore Go.Proofs.Yteflgifmdojahaa.KitS
attribute [local go_sem] max2_int min2_int max_two min_two max_three min_three max_four min_four
set_option linter.unusedVariables false
set_option maxHeartbeats 8000000
set_option maxRecDepth 100000
set_option linter.unusedSimpArgs false
mutual
def laws_FnCauchy.j0:Nat→List Int→List Int→Int→Int→Bool→Bool→List (List Int)→List (List Int)→Option (Bool)
 | 0,_,_,_,_,_,_,_,_=>none
 | k+1,x0,x1,x5,x6,x8,x85,x328000,x338000=>if x85=true then (some false) else (if x8=true then ((laws_numberOf.f k x1).bind fun t345=>(if (wrap64 (1+(Int.tmod t345 4))) > x5 then (laws_FnCauchy.j1 k x0 x1 x5 x6 x5 x328000 x338000) else (laws_FnCauchy.j1 k x0 x1 x5 x6 (wrap64 (1+(Int.tmod t345 4))) x328000 x338000))) else (laws_FnCauchy.j4 k x1))
def laws_FnCauchy.j4:Nat→List Int→Option (Bool)
 | 0,_=>none
 | k+1,x1=>(spec_DrawPartOf.f k x1).bind fun bt372=>((impl_PartOf.f k bt372.1 bt372.2.1 bt372.2.2).bind fun bt382=>((spec_PartOf.f k bt372.1 bt372.2.1 bt372.2.2).bind fun bt387=>(if (bt382.2 == bt387.2)=true then ((laws_sameMatrices.f k bt382.1 bt387.1).bind fun t392=>(some t392)) else (some false))))
def laws_FnCauchy.j1:Nat→List Int→List Int→Int→Int→Int→List (List Int)→List (List Int)→Option (Bool)
 | 0,_,_,_,_,_,_,_=>none
 | k+1,x0,x1,x5,x6,x15,x328000,x338000=>if x15 > x6 then (laws_FnCauchy.j2 k x0 x1 x5 x6 x6 x328000 x338000) else (laws_FnCauchy.j2 k x0 x1 x5 x6 x15 x328000 x338000)
def laws_FnCauchy.j2:Nat→List Int→List Int→Int→Int→Int→List (List Int)→List (List Int)→Option (Bool)
 | 0,_,_,_,_,_,_,_=>none
 | k+1,x0,x1,x5,x6,x15,x328000,x338000=>(laws_someOf.f k x5 x15 x1).bind fun t346=>(if 0≤x15 then (if x15≤(t346.length:Int) then ((laws_someOf.f k x6 x15 x0).bind fun t353=>(if x15≤(t353.length:Int) then ((impl_PartOf.f k x328000 (t346.take (x15:Int).toNat) (t353.take (x15:Int).toNat)).bind fun bt360=>((impl_InverseOf.f bt360.1).bind fun bt365=>(if bt360.2=true then (laws_FnCauchy.j3 k x1 x5 x6 (!bt365.2) x338000) else (laws_FnCauchy.j3 k x1 x5 x6 true x338000)))) else (none))) else (none)) else (none))
def laws_FnCauchy.j3:Nat→List Int→Int→Int→Bool→List (List Int)→Option (Bool)
 | 0,_,_,_,_,_=>none
 | k+1,x1,x5,x6,x128,x338000=>if x128=true then (some false) else (if x5 ≥ x6 then ((impl_RankOf.f x338000).bind fun bt370=>(if bt370.2=true then (if bt370.1=x6 then (laws_FnCauchy.j4 k x1) else (some false)) else (some false))) else (laws_FnCauchy.j4 k x1))
end
def laws_FnCauchy.f (k:Nat) (l0:List Int) (l1:List Int):Option (Bool):=if (wrap64 ((l0.length:Int)+(l1.length:Int))) > 1048576 then (some true) else ((spec_DrawCauchy.f l0).bind fun bt321=>((impl_Cauchy.f k bt321.1 bt321.2).bind fun bt323=>((spec_Cauchy.f k bt321.1 bt321.2).bind fun bt328=>((impl_Vandermonde.f k bt321.1 bt321.2).bind fun bt333=>((spec_Vandermonde.f k bt321.1 bt321.2).bind fun bt338=>(if (bt323.2 != bt328.2)=true then (laws_FnCauchy.j0 k l0 l1 bt321.1 bt321.2 bt323.2 true bt323.1 bt333.1) else ((laws_sameMatrices.f k bt323.1 bt328.1).bind fun t343=>(if t343=true then (if (bt333.2 != bt338.2)=true then (laws_FnCauchy.j0 k l0 l1 bt321.1 bt321.2 bt323.2 true bt323.1 bt333.1) else ((laws_sameMatrices.f k bt333.1 bt338.1).bind fun t344=>(laws_FnCauchy.j0 k l0 l1 bt321.1 bt321.2 bt323.2 (!t344) bt323.1 bt333.1))) else (laws_FnCauchy.j0 k l0 l1 bt321.1 bt321.2 bt323.2 true bt323.1 bt333.1)))))))))
theorem laws_FnCauchy.mono_l:∀ k,(∀ y0 y1 y2 y3 y4 y5 y6 y7,LeO (laws_FnCauchy.j0 k y0 y1 y2 y3 y4 y5 y6 y7) (laws_FnCauchy.j0 (k+1) y0 y1 y2 y3 y4 y5 y6 y7))∧(∀ y0,LeO (laws_FnCauchy.j4 k y0) (laws_FnCauchy.j4 (k+1) y0))∧(∀ y0 y1 y2 y3 y4 y5 y6,LeO (laws_FnCauchy.j1 k y0 y1 y2 y3 y4 y5 y6) (laws_FnCauchy.j1 (k+1) y0 y1 y2 y3 y4 y5 y6))∧(∀ y0 y1 y2 y3 y4 y5 y6,LeO (laws_FnCauchy.j2 k y0 y1 y2 y3 y4 y5 y6) (laws_FnCauchy.j2 (k+1) y0 y1 y2 y3 y4 y5 y6))∧(∀ y0 y1 y2 y3 y4,LeO (laws_FnCauchy.j3 k y0 y1 y2 y3 y4) (laws_FnCauchy.j3 (k+1) y0 y1 y2 y3 y4))
 | 0=>⟨fun _ _ _ _ _ _ _ _ r h=>by simp [laws_FnCauchy.j0] at h,fun _ r h=>by simp [laws_FnCauchy.j4] at h,fun _ _ _ _ _ _ _ r h=>by simp [laws_FnCauchy.j1] at h,fun _ _ _ _ _ _ _ r h=>by simp [laws_FnCauchy.j2] at h,fun _ _ _ _ _ r h=>by simp [laws_FnCauchy.j3] at h⟩
 | k+1=>by
  obtain ⟨ih0,ih1,ih2,ih3,ih4⟩:=laws_FnCauchy.mono_l k
  refine ⟨?_,?_,?_,?_,?_⟩
  ·intro y0 y1 y2 y3 y4 y5 y6 y7
   unfold laws_FnCauchy.j0
   exact mm
  ·intro y0
   unfold laws_FnCauchy.j4
   exact mm
  ·intro y0 y1 y2 y3 y4 y5 y6
   unfold laws_FnCauchy.j1
   exact mm
  ·intro y0 y1 y2 y3 y4 y5 y6
   unfold laws_FnCauchy.j2
   exact mm
  intro y0 y1 y2 y3 y4
  unfold laws_FnCauchy.j3
  exact mm
theorem laws_FnCauchy.mono:∀ a0 a1 k,LeO (laws_FnCauchy.f k a0 a1) (laws_FnCauchy.f (k+1) a0 a1):=by
 intro a0 a1 k
 obtain ⟨ih0,ih1,ih2,ih3,ih4⟩:=laws_FnCauchy.mono_l k
 unfold laws_FnCauchy.f
 exact mm
theorem laws_FnCauchy.calls (k:Nat) (A0:Option Addr) (c0:Nat) (l0:List Int) (A1:Option Addr) (c1:Nat) (l1:List Int) (r:Bool) (w:World) (hr0:Kd.C (Kd.int .u8) w A0 l0.length l0) (hc0:l0.length≤c0) (hr1:Kd.C (Kd.int .u8) w A1 l1.length l1) (hc1:l1.length≤c1) (h:laws_FnCauchy.f k l0 l1=some r) :
  Calls Try.prog 6 #[.slice A0 l0.length c0, .slice A1 l1.length c1] w fun e w'=>e = .returned (.bool r)∧Below w.heap.size w w':=by
 have hu27:=Try.underlying27
 have HR0:=am hr0
 have HC0:=am hc0
 clear hr0 hc0
 have HR1:=am hr1
 have HC1:=am hc1
 clear hr1 hc1
 have HB:=am (Below.refl w.heap.size w)
 have H:=h
 unfold laws_FnCauchy.f at H
 clear h
 by_cases c3:(wrap64 ((l0.length:Int)+(l1.length:Int))) > 1048576
 ·rw [if_pos c3] at H
  have c3b0:decide (1048576 < (wrap64 ((l0.length:Int)+(l1.length:Int))))=true:=decide_eq_true c3
  clear c3
  obtain rfl:=Option.some.inj H
  go_enter Try.func6,Try.ntmps6
  go_wp2
  go_ret
  exact ⟨d2,yW HB⟩
 rw [if_neg c3] at H
 have c3b0:decide (1048576 < (wrap64 ((l0.length:Int)+(l1.length:Int))))=false:=decide_eq_false c3
 clear c3
 obtain ⟨⟨t321,t322⟩,A4,H⟩:=yo H
 try dsimp only at H
 obtain ⟨⟨t323,t326⟩,A5,H⟩:=yo H
 try dsimp only at H
 obtain ⟨⟨t328,t331⟩,A6,H⟩:=yo H
 try dsimp only at H
 obtain ⟨⟨t333,t336⟩,A7,H⟩:=yo H
 try dsimp only at H
 obtain ⟨⟨t338,t341⟩,A8,H⟩:=yo H
 try dsimp only at H
 have HC9:=am H
 clear H
 go_enter Try.func6,Try.ntmps6
 go_upto_region 8 with (first|((with_reducible refine gC 30 ?_);refine gM (some 39) Try.func30 (args:=#[.slice A0 l0.length c0]) (spec_DrawCauchy.calls _ _ l0 t321 t322 _ (yc HR0.out) HC0.out A4.out) ?_;rintro e w10 ⟨rfl,hb⟩;refine ⟨_,rfl,?_⟩;replace HB:=yH HB hb;clear hb)|((with_reducible refine gC 31 ?_);refine gM (some 45) Try.func31 (args:=#[.int .i64 t321, .int .i64 t322]) (impl_Cauchy.calls k t321 t322 t323 t326 _ A5.out) ?_;rintro e w11 ⟨v324,rfl,ho0,hb⟩;refine ⟨_,rfl,?_⟩;have HO325:=am (Kd.S_lower ho0 (pz (yW HB)));replace HB:=yH HB hb;clear hb ho0)|((with_reducible refine gD 7 ?_);refine gB (cs:=#[.slice none 0 0]) 27 ?_;intro gb327 hg w12 hbox hb;replace HO325:=bS HO325 hb;have BK327:=am (hbox);have GW327:=ye HB hg;replace HB:=yH HB hb;have GE327:=GW327;clear hb hbox hg;obtain ⟨Ao13,co13,eo13⟩:=Kd.S_slice HO325.out;subst eo13;obtain ⟨hcz14_0,hfz14_0⟩:=yk1 BK327)|((with_reducible refine gC 32 ?_);refine gM (some 51) Try.func32 (args:=#[.int .i64 t321, .int .i64 t322]) (spec_Cauchy.calls k t321 t322 t328 t331 _ A6.out) ?_;rintro e w15 ⟨v329,rfl,ho0,hb⟩;refine ⟨_,rfl,?_⟩;have HO330:=am (Kd.S_lower (Kd.S_new' ho0 (Kd.S_lt d93)) (pz (yW HB)));replace HO325:=am (Kd.S_elder' d93 (Kd.S_base ho0) hb);replace BK327:=am (qb (g:=gb327) (o:=.cells #[.slice Ao13 t323.length co13] 27 (0,0)) (by refine sB ?_;refine blk_put (cs:=#[.slice none 0 0]) ?_ 0 _ rfl;exact yB BK327) hb);replace HB:=yH HB hb;clear hb ho0)|((with_reducible refine gD 9 ?_);refine gB (cs:=#[.slice none 0 0]) 27 ?_;intro gb332 hg w16 hbox hb;replace HO325:=bS HO325 hb;replace HO330:=bS HO330 hb;have BK332:=am (hbox);have GW332:=ye HB hg;replace HB:=yH HB hb;have NB327_332:=yl BK327 hg;have NB332_327:=yg BK327 hg;replace BK327:=yb BK327 hb;have GE332:=GW332;clear hb hbox hg;obtain ⟨Ao17,co17,eo17⟩:=Kd.S_slice HO330.out;subst eo17;have hnb18:=NB332_327.out;have hnc18:=NB327_332.out;obtain ⟨hcz19_0,hfz19_0⟩:=yk1 BK332)|((with_reducible refine gC 33 ?_);refine gM (some 57) Try.func33 (args:=#[.int .i64 t321, .int .i64 t322]) (impl_Vandermonde.calls k t321 t322 t333 t336 _ A7.out) ?_;rintro e w20 ⟨v334,rfl,ho0,hb⟩;refine ⟨_,rfl,?_⟩;have HO335:=am (Kd.S_lower (Kd.S_new' (Kd.S_new' ho0 (Kd.S_lt d92)) (Kd.S_lt d91)) (pz (yW HB)));replace HO325:=am (Kd.S_elder' d92 (Kd.S_base ho0) hb);replace HO330:=am (Kd.S_elder' d91 (Kd.S_base ho0) hb);replace BK327:=am (qb (g:=gb327) (o:=.cells #[.slice Ao13 t323.length co13] 27 (0,0)) (yF BK327) hb);replace BK332:=am (qb (g:=gb332) (o:=.cells #[.slice Ao17 t328.length co17] 27 (0,0)) (by refine sB ?_;refine blk_put (cs:=#[.slice none 0 0]) ?_ 0 _ rfl;exact yB BK332) hb);replace HB:=yH HB hb;clear hb ho0)|((with_reducible refine gD 11 ?_);refine gB (cs:=#[.slice none 0 0]) 27 ?_;intro gb337 hg w21 hbox hb;replace HO325:=bS HO325 hb;replace HO330:=bS HO330 hb;replace HO335:=bS HO335 hb;have BK337:=am (hbox);have GW337:=ye HB hg;replace HB:=yH HB hb;have NB327_337:=yl BK327 hg;have NB337_327:=yg BK327 hg;replace BK327:=yb BK327 hb;have NB332_337:=yl BK332 hg;have NB337_332:=yg BK332 hg;replace BK332:=yb BK332 hb;have GE337:=GW337;clear hb hbox hg;obtain ⟨Ao22,co22,eo22⟩:=Kd.S_slice HO335.out;subst eo22;have hnb23:=NB337_327.out;have hnc23:=NB327_337.out;have hnb24:=NB337_332.out;have hnc24:=NB332_337.out;obtain ⟨hcz25_0,hfz25_0⟩:=yk1 BK337)|((with_reducible refine gC 34 ?_);refine gM (some 63) Try.func34 (args:=#[.int .i64 t321, .int .i64 t322]) (spec_Vandermonde.calls k t321 t322 t338 t341 _ A8.out) ?_;rintro e w26 ⟨v339,rfl,ho0,hb⟩;refine ⟨_,rfl,?_⟩;have HO340:=am (Kd.S_lower (Kd.S_new' (Kd.S_new' (Kd.S_new' ho0 (Kd.S_lt d90)) (Kd.S_lt d89)) (Kd.S_lt d88)) (pz (yW HB)));replace HO325:=am (Kd.S_elder' d90 (Kd.S_base ho0) hb);replace HO330:=am (Kd.S_elder' d89 (Kd.S_base ho0) hb);replace HO335:=am (Kd.S_elder' d88 (Kd.S_base ho0) hb);replace BK327:=am (qb (g:=gb327) (o:=.cells #[.slice Ao13 t323.length co13] 27 (0,0)) (yF BK327) hb);replace BK332:=am (qb (g:=gb332) (o:=.cells #[.slice Ao17 t328.length co17] 27 (0,0)) (yF BK332) hb);replace BK337:=am (qb (g:=gb337) (o:=.cells #[.slice Ao22 t333.length co22] 27 (0,0)) (by refine sB ?_;refine blk_put (cs:=#[.slice none 0 0]) ?_ 0 _ rfl;exact yB BK337) hb);replace HB:=yH HB hb;clear hb ho0)|((with_reducible refine gD 13 ?_);refine gB (cs:=#[.slice none 0 0]) 27 ?_;intro gb342 hg w27 hbox hb;replace HO325:=bS HO325 hb;replace HO330:=bS HO330 hb;replace HO335:=bS HO335 hb;replace HO340:=bS HO340 hb;have BK342:=am (hbox);have GW342:=ye HB hg;replace HB:=yH HB hb;have NB327_342:=yl BK327 hg;have NB342_327:=yg BK327 hg;replace BK327:=yb BK327 hb;have NB332_342:=yl BK332 hg;have NB342_332:=yg BK332 hg;replace BK332:=yb BK332 hb;have NB337_342:=yl BK337 hg;have NB342_337:=yg BK337 hg;replace BK337:=yb BK337 hb;have GE342:=GW342;clear hb hbox hg;obtain ⟨Ao28,co28,eo28⟩:=Kd.S_slice HO340.out;subst eo28;have hnb29:=NB342_327.out;have hnc29:=NB327_342.out;have hnb30:=NB342_332.out;have hnc30:=NB332_342.out;have hnb31:=NB342_337.out;have hnc31:=NB337_342.out;obtain ⟨hcz32_0,hfz32_0⟩:=yk1 BK342))
 (try simp only [Act.put,q1,q2,q3])
 go_cut [85] (fun v85 wc=>∃ (kq:Nat) (x85_8:Bool),v85 = .bool x85_8∧Aside0 (laws_FnCauchy.j0 kq l0 l1 t321 t322 t326 x85_8 t323 t333=some r)∧Aside0 (kq≤k)∧Aside0 (Kd.S (Kd.slice 5 (Kd.int .u8)) 24 wc w.heap.size (fun k_=>some k_ ≠ ((.slice Ao17 t328.length co17):Value).ownBlock∧some k_ ≠ ((.slice Ao22 t333.length co22):Value).ownBlock∧some k_ ≠ ((.slice Ao28 t338.length co28):Value).ownBlock) (.slice Ao13 t323.length co13) t323)∧Aside0 (Kd.S (Kd.slice 5 (Kd.int .u8)) 24 wc w.heap.size (fun k_=>some k_ ≠ ((.slice Ao13 t323.length co13):Value).ownBlock∧some k_ ≠ ((.slice Ao22 t333.length co22):Value).ownBlock∧some k_ ≠ ((.slice Ao28 t338.length co28):Value).ownBlock) (.slice Ao17 t328.length co17) t328)∧Aside0 (Kd.S (Kd.slice 5 (Kd.int .u8)) 24 wc w.heap.size (fun k_=>some k_ ≠ ((.slice Ao13 t323.length co13):Value).ownBlock∧some k_ ≠ ((.slice Ao17 t328.length co17):Value).ownBlock∧some k_ ≠ ((.slice Ao28 t338.length co28):Value).ownBlock) (.slice Ao22 t333.length co22) t333)∧Aside0 (Kd.S (Kd.slice 5 (Kd.int .u8)) 24 wc w.heap.size (fun k_=>some k_ ≠ ((.slice Ao13 t323.length co13):Value).ownBlock∧some k_ ≠ ((.slice Ao17 t328.length co17):Value).ownBlock∧some k_ ≠ ((.slice Ao22 t333.length co22):Value).ownBlock) (.slice Ao28 t338.length co28) t338)∧Aside0 (wc.heap[gb327]? = some (.cells #[(.slice Ao13 t323.length co13)] 27 (0,0)))∧Aside0 (wc.heap[gb332]? = some (.cells #[(.slice Ao17 t328.length co17)] 27 (0,0)))∧Aside0 (wc.heap[gb337]? = some (.cells #[(.slice Ao22 t333.length co22)] 27 (0,0)))∧Aside0 (wc.heap[gb342]? = some (.cells #[(.slice Ao28 t338.length co28)] 27 (0,0)))∧Aside0 (Below w.heap.size w wc))
 case first =>
  have H:=HC9.out
  clear HC9
  by_cases c33:(t326 != t331)=true
  ·rw [if_pos c33] at H
   have c33b0:(t326 != t331)=true:=c33
   (try (have c33b1:decide (t326=t331)=false:=by simpa using c33))
   (try (have c33b2:(t326 == t331)=false:=by simpa using c33))
   (try (have c33b3:¬ (t326=t331):=by simpa using c33))
   clear c33
   (first|rw [c33b0]|(simp only [i64_w,i32_w];rw [c33b0])|skip)
   have H':=am H
   clear H
   go_wp2
   go_meet
   case rel=>exact ⟨_,(true),d3,H',⟨d39⟩,⟨by refine sS ?_;exact Kd.S_mono (Kd.S_far (p:=⟨gb342,0,none⟩) (Kd.S_types HO325.out BK342.out d9) (fun _ hk=>hk.2) (.slice Ao28 t338.length co28)) (fun _ hk=>⟨hk.1.1.1.2,⟨hk.1.1.2,hk.1.2⟩⟩)⟩,⟨by refine sS ?_;exact Kd.S_mono (Kd.S_far (p:=⟨gb342,0,none⟩) (Kd.S_types HO330.out BK342.out d9) (fun _ hk=>hk.2) (.slice Ao28 t338.length co28)) (fun _ hk=>⟨hk.1.1.1.2,⟨hk.1.1.2,hk.1.2⟩⟩)⟩,⟨by refine sS ?_;exact Kd.S_mono (Kd.S_far (p:=⟨gb342,0,none⟩) (Kd.S_types HO335.out BK342.out d9) (fun _ hk=>hk.2) (.slice Ao28 t338.length co28)) (fun _ hk=>⟨hk.1.1.1.2,⟨hk.1.1.2,hk.1.2⟩⟩)⟩,⟨by refine sS ?_;exact Kd.S_mono (Kd.S_far (p:=⟨gb342,0,none⟩) (Kd.S_types HO340.out BK342.out d9) (fun _ hk=>hk.2) (.slice Ao28 t338.length co28)) (fun _ hk=>⟨hk.1.1.1.2,⟨hk.1.1.2,hk.1.2⟩⟩)⟩,⟨yF BK327⟩,⟨yF BK332⟩,⟨yF BK337⟩,⟨d48⟩,⟨yW HB⟩⟩
  rw [if_neg c33] at H
  have c33b0:(t326 != t331)=false:=by simpa using c33
  (try (have c33b1:decide (t326=t331)=true:=by simpa using c33))
  (try (have c33b2:(t326 == t331)=true:=by simpa using c33))
  clear c33
  (first|rw [c33b0]|(simp only [i64_w,i32_w];rw [c33b0])|skip)
  obtain ⟨t343,A34,H⟩:=yo H
  by_cases c35:t343=true
  ·subst c35
   replace H:=yt H
   by_cases c36:(t336 != t341)=true
   ·rw [if_pos c36] at H
    have c36b0:(t336 != t341)=true:=c36
    (try (have c36b1:decide (t336=t341)=false:=by simpa using c36))
    (try (have c36b2:(t336 == t341)=false:=by simpa using c36))
    (try (have c36b3:¬ (t336=t341):=by simpa using c36))
    clear c36
    have H':=am H
    clear H
    have hnb37:=NB327_332.out
    have hnc37:=NB332_327.out
    have hnb38:=NB327_337.out
    have hnc38:=NB337_327.out
    have hnb39:=NB327_342.out
    have hnc39:=NB342_327.out
    obtain ⟨hcz40_0,hfz40_0⟩:=yk1 BK327
    have hnb41:=NB332_337.out
    have hnc41:=NB337_332.out
    have hnb42:=NB332_342.out
    have hnc42:=NB342_332.out
    obtain ⟨hcz43_0,hfz43_0⟩:=yk1 BK332
    go_wp2_with (first|(go_at_call 35;(with_reducible refine (laws_sameMatrices.calls k _ _ t323 _ _ t328 true _ d16 (by exact (Kd.S_reads' HO325.out).2.1) d17 (by exact (Kd.S_reads' HO330.out).2.1) A34.out).mono ?_);rintro e w44 ⟨rfl,hb⟩;replace HO325:=am (Kd.S_below d24 hb);replace HO330:=am (Kd.S_below d23 hb);replace HO335:=am (Kd.S_below d37 hb);replace HO340:=am (Kd.S_below d36 hb);replace BK327:=am (qb (g:=gb327) (o:=.cells #[.slice Ao13 t323.length co13] 27 (0,0)) (yF BK327) hb);replace BK332:=am (qb (g:=gb332) (o:=.cells #[.slice Ao17 t328.length co17] 27 (0,0)) (yF BK332) hb);replace BK337:=am (qb (g:=gb337) (o:=.cells #[.slice Ao22 t333.length co22] 27 (0,0)) (yF BK337) hb);replace BK342:=am (qb (g:=gb342) (o:=.cells #[.slice Ao28 t338.length co28] 27 (0,0)) d48 hb);replace HB:=yH HB hb;clear hb))
    go_meet
    case rel=>exact ⟨_,(true),d3,H',⟨d39⟩,⟨d97⟩,⟨d96⟩,⟨d95⟩,⟨d94⟩,⟨yB BK327⟩,⟨yB BK332⟩,⟨yB BK337⟩,⟨yB BK342⟩,⟨yW HB⟩⟩
   rw [if_neg c36] at H
   have c36b0:(t336 != t341)=false:=by simpa using c36
   (try (have c36b1:decide (t336=t341)=true:=by simpa using c36))
   (try (have c36b2:(t336 == t341)=true:=by simpa using c36))
   clear c36
   obtain ⟨t344,A45,H⟩:=yo H
   have H':=am H
   clear H
   have hnb46:=NB327_332.out
   have hnc46:=NB332_327.out
   have hnb47:=NB327_337.out
   have hnc47:=NB337_327.out
   have hnb48:=NB327_342.out
   have hnc48:=NB342_327.out
   obtain ⟨hcz49_0,hfz49_0⟩:=yk1 BK327
   have hnb50:=NB332_337.out
   have hnc50:=NB337_332.out
   have hnb51:=NB332_342.out
   have hnc51:=NB342_332.out
   obtain ⟨hcz52_0,hfz52_0⟩:=yk1 BK332
   go_wp2_with (first|(go_at_call 35;have hz_:=w53;clear hz_;(with_reducible refine (laws_sameMatrices.calls k _ _ t333 _ _ t338 t344 _ (yc (Kd.S_reads' HO335.out).2.2) (Kd.S_reads' HO335.out).2.1 (yc (Kd.S_reads' HO340.out).2.2) (Kd.S_reads' HO340.out).2.1 A45.out).mono ?_);rintro e w57 ⟨rfl,hb⟩;replace HO325:=bS HO325 hb;replace HO330:=bS HO330 hb;replace HO335:=bS HO335 hb;replace HO340:=bS HO340 hb;replace BK327:=yb BK327 hb;replace BK332:=yb BK332 hb;replace BK337:=yb BK337 hb;replace BK342:=yb BK342 hb;replace HB:=yH HB hb;clear hb)|(go_at_call 35;(with_reducible refine (laws_sameMatrices.calls k _ _ t323 _ _ t328 true _ d16 (by exact (Kd.S_reads' HO325.out).2.1) d17 (by exact (Kd.S_reads' HO330.out).2.1) A34.out).mono ?_);rintro e w53 ⟨rfl,hb⟩;replace HO325:=am (Kd.S_below d24 hb);replace HO330:=am (Kd.S_below d23 hb);replace HO335:=am (Kd.S_below d37 hb);replace HO340:=am (Kd.S_below d36 hb);replace BK327:=am (qb (g:=gb327) (o:=.cells #[.slice Ao13 t323.length co13] 27 (0,0)) (yF BK327) hb);replace BK332:=am (qb (g:=gb332) (o:=.cells #[.slice Ao17 t328.length co17] 27 (0,0)) (yF BK332) hb);replace BK337:=am (qb (g:=gb337) (o:=.cells #[.slice Ao22 t333.length co22] 27 (0,0)) (yF BK337) hb);replace BK342:=am (qb (g:=gb342) (o:=.cells #[.slice Ao28 t338.length co28] 27 (0,0)) d48 hb);replace HB:=yH HB hb;clear hb;have hnb54:=NB337_342.out;have hnc54:=NB342_337.out;obtain ⟨hcz55_0,hfz55_0⟩:=yk1 BK337;obtain ⟨hcz56_0,hfz56_0⟩:=yk1 BK342))
   go_meet
   case rel=>exact ⟨_,(!t344),d3,H',⟨d39⟩,⟨d97⟩,⟨d96⟩,⟨d95⟩,⟨d94⟩,⟨yB BK327⟩,⟨yB BK332⟩,⟨yB BK337⟩,⟨yB BK342⟩,⟨yW HB⟩⟩
  replace c35:=Bool.eq_false_iff.mpr c35
  subst c35
  replace H:=yn H
  have H':=am H
  clear H
  have hnb58:=NB327_332.out
  have hnc58:=NB332_327.out
  have hnb59:=NB327_337.out
  have hnc59:=NB337_327.out
  have hnb60:=NB327_342.out
  have hnc60:=NB342_327.out
  obtain ⟨hcz61_0,hfz61_0⟩:=yk1 BK327
  have hnb62:=NB332_337.out
  have hnc62:=NB337_332.out
  have hnb63:=NB332_342.out
  have hnc63:=NB342_332.out
  obtain ⟨hcz64_0,hfz64_0⟩:=yk1 BK332
  go_wp2_with (first|(go_at_call 35;(with_reducible refine (laws_sameMatrices.calls k _ _ t323 _ _ t328 false _ d16 (by exact (Kd.S_reads' HO325.out).2.1) d17 (by exact (Kd.S_reads' HO330.out).2.1) A34.out).mono ?_);rintro e w65 ⟨rfl,hb⟩;replace HO325:=am (Kd.S_below d24 hb);replace HO330:=am (Kd.S_below d23 hb);replace HO335:=am (Kd.S_below d37 hb);replace HO340:=am (Kd.S_below d36 hb);replace BK327:=am (qb (g:=gb327) (o:=.cells #[.slice Ao13 t323.length co13] 27 (0,0)) (yF BK327) hb);replace BK332:=am (qb (g:=gb332) (o:=.cells #[.slice Ao17 t328.length co17] 27 (0,0)) (yF BK332) hb);replace BK337:=am (qb (g:=gb337) (o:=.cells #[.slice Ao22 t333.length co22] 27 (0,0)) (yF BK337) hb);replace BK342:=am (qb (g:=gb342) (o:=.cells #[.slice Ao28 t338.length co28] 27 (0,0)) d48 hb);replace HB:=yH HB hb;clear hb))
  go_meet
  case rel=>exact ⟨_,(true),d3,H',⟨d39⟩,⟨d97⟩,⟨d96⟩,⟨d95⟩,⟨d94⟩,⟨yB BK327⟩,⟨yB BK332⟩,⟨yB BK337⟩,⟨yB BK342⟩,⟨yW HB⟩⟩
 case rest =>
  clear HC9
  try clear c1
  try clear c2
  try clear p2
  try clear c3
  try clear c3b0
  try clear c4
  try clear c5
  try clear c6
  try clear p6
  try clear c18
  try clear c23
  try clear c24
  try clear c29
  try clear c30
  try clear c31
  try clear c32
  try clear c33
  try clear c33b0
  try clear c33b1
  try clear c33b2
  try clear c34
  try clear c35
  try clear c36
  try clear c36b0
  try clear c36b1
  try clear c36b2
  try clear c37
  try clear c38
  try clear c39
  try clear c41
  try clear c42
  try clear c46
  try clear c47
  try clear c48
  try clear c50
  try clear c51
  try clear c54
  try clear c58
  try clear c59
  try clear c60
  try clear c62
  try clear c63
  try clear p64
  try clear hcz14_0
  try clear hcz19_0
  try clear hcz25_0
  try clear hcz32_0
  try clear hcz40_0
  try clear hcz43_0
  try clear hcz49_0
  try clear hcz52_0
  try clear hcz55_0
  try clear hcz56_0
  try clear hcz61_0
  try clear hcz64_0
  try clear hfz14_0
  try clear hfz19_0
  try clear hfz25_0
  try clear hfz32_0
  try clear hfz40_0
  try clear hfz43_0
  try clear hfz49_0
  try clear hfz52_0
  try clear hfz55_0
  try clear hfz56_0
  try clear hfz61_0
  try clear hfz64_0
  obtain ⟨kq,x85_8,rfl,HA,HJ8,HO_328000,HO_333000,HO_338000,HO_343000,BK327,BK332,BK337,BK342,HB⟩:=hcut
  cases kq with
  | zero=>exact absurd HA.out (by simp [laws_FnCauchy.j0])
  | succ kj8 =>
   have H:=HA.out
   clear HA
   simp only [laws_FnCauchy.j0] at H
   by_cases c66:x85_8=true
   ·subst c66
    replace H:=yt H
    obtain rfl:=Option.some.inj H
    go_wp2
    go_ret
    exact ⟨d2,yW HB⟩
   replace c66:=Bool.eq_false_iff.mpr c66
   subst c66
   replace H:=yn H
   have HC67:=am H
   clear H
   go_upto_if 86 with (fail)
   go_cut [] (fun wc=>∃ (kq:Nat),Aside0 (laws_FnCauchy.j4 kq l1=some r)∧Aside0 (kq≤kj8)∧Aside0 (Kd.S (Kd.slice 5 (Kd.int .u8)) 24 wc w.heap.size (fun k_=>some k_ ≠ ((.slice Ao17 t328.length co17):Value).ownBlock∧some k_ ≠ ((.slice Ao22 t333.length co22):Value).ownBlock∧some k_ ≠ ((.slice Ao28 t338.length co28):Value).ownBlock) (.slice Ao13 t323.length co13) t323)∧Aside0 (Kd.S (Kd.slice 5 (Kd.int .u8)) 24 wc w.heap.size (fun k_=>some k_ ≠ ((.slice Ao13 t323.length co13):Value).ownBlock∧some k_ ≠ ((.slice Ao22 t333.length co22):Value).ownBlock∧some k_ ≠ ((.slice Ao28 t338.length co28):Value).ownBlock) (.slice Ao17 t328.length co17) t328)∧Aside0 (Kd.S (Kd.slice 5 (Kd.int .u8)) 24 wc w.heap.size (fun k_=>some k_ ≠ ((.slice Ao13 t323.length co13):Value).ownBlock∧some k_ ≠ ((.slice Ao17 t328.length co17):Value).ownBlock∧some k_ ≠ ((.slice Ao28 t338.length co28):Value).ownBlock) (.slice Ao22 t333.length co22) t333)∧Aside0 (Kd.S (Kd.slice 5 (Kd.int .u8)) 24 wc w.heap.size (fun k_=>some k_ ≠ ((.slice Ao13 t323.length co13):Value).ownBlock∧some k_ ≠ ((.slice Ao17 t328.length co17):Value).ownBlock∧some k_ ≠ ((.slice Ao22 t333.length co22):Value).ownBlock) (.slice Ao28 t338.length co28) t338)∧Aside0 (wc.heap[gb327]? = some (.cells #[(.slice Ao13 t323.length co13)] 27 (0,0)))∧Aside0 (wc.heap[gb332]? = some (.cells #[(.slice Ao17 t328.length co17)] 27 (0,0)))∧Aside0 (wc.heap[gb337]? = some (.cells #[(.slice Ao22 t333.length co22)] 27 (0,0)))∧Aside0 (wc.heap[gb342]? = some (.cells #[(.slice Ao28 t338.length co28)] 27 (0,0)))∧Aside0 (Below w.heap.size w wc))
   case first =>
    have H:=HC67.out
    clear HC67
    by_cases c68:t326=true
    ·subst c68
     replace H:=yt H
     obtain ⟨t345,A69,H⟩:=yo H
     have HC70:=am H
     clear H
     go_upto_if 93 with (first|((with_reducible refine gC 36 ?_);refine gM (some 88) Try.func36 (args:=#[.slice A1 l1.length c1]) (laws_numberOf.calls kj8 _ _ l1 t345 _ (yc (Kd.C_below HR1.out HB.out)) HC1.out A69.out) ?_;rintro e w' ⟨rfl,⟨nd,rfl⟩⟩;refine ⟨_,rfl,?_⟩))
     (try simp only [Act.put,q1,q2,q3])
     go_cut [15] (fun v15 wc=>∃ (kq:Nat) (x15_69:Int),v15 = .int .i64 x15_69∧Aside0 (laws_FnCauchy.j1 kq l0 l1 t321 t322 x15_69 t323 t333=some r)∧Aside0 (kq≤kj8)∧Aside0 (Kd.S (Kd.slice 5 (Kd.int .u8)) 24 wc w.heap.size (fun k_=>some k_ ≠ ((.slice Ao17 t328.length co17):Value).ownBlock∧some k_ ≠ ((.slice Ao22 t333.length co22):Value).ownBlock∧some k_ ≠ ((.slice Ao28 t338.length co28):Value).ownBlock) (.slice Ao13 t323.length co13) t323)∧Aside0 (Kd.S (Kd.slice 5 (Kd.int .u8)) 24 wc w.heap.size (fun k_=>some k_ ≠ ((.slice Ao13 t323.length co13):Value).ownBlock∧some k_ ≠ ((.slice Ao22 t333.length co22):Value).ownBlock∧some k_ ≠ ((.slice Ao28 t338.length co28):Value).ownBlock) (.slice Ao17 t328.length co17) t328)∧Aside0 (Kd.S (Kd.slice 5 (Kd.int .u8)) 24 wc w.heap.size (fun k_=>some k_ ≠ ((.slice Ao13 t323.length co13):Value).ownBlock∧some k_ ≠ ((.slice Ao17 t328.length co17):Value).ownBlock∧some k_ ≠ ((.slice Ao28 t338.length co28):Value).ownBlock) (.slice Ao22 t333.length co22) t333)∧Aside0 (Kd.S (Kd.slice 5 (Kd.int .u8)) 24 wc w.heap.size (fun k_=>some k_ ≠ ((.slice Ao13 t323.length co13):Value).ownBlock∧some k_ ≠ ((.slice Ao17 t328.length co17):Value).ownBlock∧some k_ ≠ ((.slice Ao22 t333.length co22):Value).ownBlock) (.slice Ao28 t338.length co28) t338)∧Aside0 (wc.heap[gb327]? = some (.cells #[(.slice Ao13 t323.length co13)] 27 (0,0)))∧Aside0 (wc.heap[gb332]? = some (.cells #[(.slice Ao17 t328.length co17)] 27 (0,0)))∧Aside0 (wc.heap[gb337]? = some (.cells #[(.slice Ao22 t333.length co22)] 27 (0,0)))∧Aside0 (wc.heap[gb342]? = some (.cells #[(.slice Ao28 t338.length co28)] 27 (0,0)))∧Aside0 (Below w.heap.size w wc))
     case first =>
      have H:=HC70.out
      clear HC70
      by_cases c71:(wrap64 (1+(Int.tmod t345 4))) > t321
      ·rw [if_pos c71] at H
       have c71b0:decide (t321 < (wrap64 (1+(Int.tmod t345 4))))=true:=decide_eq_true c71
       clear c71
       (first|rw [c71b0]|(simp only [i64_w,i32_w];rw [c71b0])|skip)
       have H':=am H
       clear H
       go_wp2
       go_meet
       case rel=>exact ⟨_,(t321),d3,H',⟨by have:=HJ8.out;first|omega|exact Nat.le_refl _⟩,⟨yS HO_328000⟩,⟨yS HO_333000⟩,⟨yS HO_338000⟩,⟨yS HO_343000⟩,⟨yB BK327⟩,⟨yB BK332⟩,⟨yB BK337⟩,⟨yB BK342⟩,⟨yW HB⟩⟩
      rw [if_neg c71] at H
      have c71b0:decide (t321 < (wrap64 (1+(Int.tmod t345 4))))=false:=decide_eq_false c71
      clear c71
      (first|rw [c71b0]|(simp only [i64_w,i32_w];rw [c71b0])|skip)
      have H':=am H
      clear H
      go_wp2
      go_meet
      case rel=>exact ⟨_,(wrap64 (1+(Int.tmod t345 4))),d3,H',⟨by have:=HJ8.out;first|omega|exact Nat.le_refl _⟩,⟨yS HO_328000⟩,⟨yS HO_333000⟩,⟨yS HO_338000⟩,⟨yS HO_343000⟩,⟨yB BK327⟩,⟨yB BK332⟩,⟨yB BK337⟩,⟨yB BK342⟩,⟨yW HB⟩⟩
     case rest =>
      clear HC70
      try clear c1
      try clear c2
      try clear p2
      try clear c3
      try clear c3b0
      try clear c4
      try clear c5
      try clear c6
      try clear p6
      try clear c7
      try clear c18
      try clear c23
      try clear c24
      try clear c29
      try clear c30
      try clear c31
      try clear c32
      try clear c33
      try clear c33b0
      try clear c33b1
      try clear c33b2
      try clear c34
      try clear c35
      try clear c36
      try clear c36b0
      try clear c36b1
      try clear c36b2
      try clear c37
      try clear c38
      try clear c39
      try clear c41
      try clear c42
      try clear c46
      try clear c47
      try clear c48
      try clear c50
      try clear c51
      try clear c54
      try clear c58
      try clear c59
      try clear c60
      try clear c62
      try clear c63
      try clear p64
      try clear c66
      try clear c68
      try clear c71
      try clear c71b0
      try clear hcz14_0
      try clear hcz19_0
      try clear hcz25_0
      try clear hcz32_0
      try clear hcz40_0
      try clear hcz43_0
      try clear hcz49_0
      try clear hcz52_0
      try clear hcz55_0
      try clear hcz56_0
      try clear hcz61_0
      try clear hcz64_0
      try clear hfz14_0
      try clear hfz19_0
      try clear hfz25_0
      try clear hfz32_0
      try clear hfz40_0
      try clear hfz43_0
      try clear hfz49_0
      try clear hfz52_0
      try clear hfz55_0
      try clear hfz56_0
      try clear hfz61_0
      try clear hfz64_0
      try clear p2
      try clear p6
      try clear p64
      obtain ⟨kq,x15_69,rfl,HA,HJ69,HO_328000,HO_333000,HO_338000,HO_343000,BK327,BK332,BK337,BK342,HB⟩:=hcut
      cases kq with
      | zero=>exact absurd HA.out (by simp [laws_FnCauchy.j1])
      | succ kj69 =>
       have H:=HA.out
       clear HA
       simp only [laws_FnCauchy.j1] at H
       have HC72:=am H
       clear H
       go_upto_if 97 with (fail)
       go_cut [15] (fun v15 wc=>∃ (kq:Nat) (x15_71:Int),v15 = .int .i64 x15_71∧Aside0 (laws_FnCauchy.j2 kq l0 l1 t321 t322 x15_71 t323 t333=some r)∧Aside0 (kq≤kj69)∧Aside0 (Kd.S (Kd.slice 5 (Kd.int .u8)) 24 wc w.heap.size (fun k_=>some k_ ≠ ((.slice Ao17 t328.length co17):Value).ownBlock∧some k_ ≠ ((.slice Ao22 t333.length co22):Value).ownBlock∧some k_ ≠ ((.slice Ao28 t338.length co28):Value).ownBlock) (.slice Ao13 t323.length co13) t323)∧Aside0 (Kd.S (Kd.slice 5 (Kd.int .u8)) 24 wc w.heap.size (fun k_=>some k_ ≠ ((.slice Ao13 t323.length co13):Value).ownBlock∧some k_ ≠ ((.slice Ao22 t333.length co22):Value).ownBlock∧some k_ ≠ ((.slice Ao28 t338.length co28):Value).ownBlock) (.slice Ao17 t328.length co17) t328)∧Aside0 (Kd.S (Kd.slice 5 (Kd.int .u8)) 24 wc w.heap.size (fun k_=>some k_ ≠ ((.slice Ao13 t323.length co13):Value).ownBlock∧some k_ ≠ ((.slice Ao17 t328.length co17):Value).ownBlock∧some k_ ≠ ((.slice Ao28 t338.length co28):Value).ownBlock) (.slice Ao22 t333.length co22) t333)∧Aside0 (Kd.S (Kd.slice 5 (Kd.int .u8)) 24 wc w.heap.size (fun k_=>some k_ ≠ ((.slice Ao13 t323.length co13):Value).ownBlock∧some k_ ≠ ((.slice Ao17 t328.length co17):Value).ownBlock∧some k_ ≠ ((.slice Ao22 t333.length co22):Value).ownBlock) (.slice Ao28 t338.length co28) t338)∧Aside0 (wc.heap[gb327]? = some (.cells #[(.slice Ao13 t323.length co13)] 27 (0,0)))∧Aside0 (wc.heap[gb332]? = some (.cells #[(.slice Ao17 t328.length co17)] 27 (0,0)))∧Aside0 (wc.heap[gb337]? = some (.cells #[(.slice Ao22 t333.length co22)] 27 (0,0)))∧Aside0 (wc.heap[gb342]? = some (.cells #[(.slice Ao28 t338.length co28)] 27 (0,0)))∧Aside0 (Below w.heap.size w wc))
       case first =>
        have H:=HC72.out
        clear HC72
        by_cases c73:x15_69 > t322
        ·rw [if_pos c73] at H
         have c73b0:decide (t322 < x15_69)=true:=decide_eq_true c73
         clear c73
         (first|rw [c73b0]|(simp only [i64_w,i32_w];rw [c73b0])|skip)
         have H':=am H
         clear H
         go_wp2
         go_meet
         case rel=>exact ⟨_,(t322),d3,H',⟨by have:=HJ8.out;have:=HJ69.out;first|omega|exact Nat.le_refl _⟩,⟨yS HO_328000⟩,⟨yS HO_333000⟩,⟨yS HO_338000⟩,⟨yS HO_343000⟩,⟨yB BK327⟩,⟨yB BK332⟩,⟨yB BK337⟩,⟨yB BK342⟩,⟨yW HB⟩⟩
        rw [if_neg c73] at H
        have c73b0:decide (t322 < x15_69)=false:=decide_eq_false c73
        clear c73
        (first|rw [c73b0]|(simp only [i64_w,i32_w];rw [c73b0])|skip)
        have H':=am H
        clear H
        go_wp2
        go_meet
        case rel=>exact ⟨_,(x15_69),d3,H',⟨by have:=HJ8.out;have:=HJ69.out;first|omega|exact Nat.le_refl _⟩,⟨yS HO_328000⟩,⟨yS HO_333000⟩,⟨yS HO_338000⟩,⟨yS HO_343000⟩,⟨yB BK327⟩,⟨yB BK332⟩,⟨yB BK337⟩,⟨yB BK342⟩,⟨yW HB⟩⟩
       case rest =>
        clear HC72
        try clear c1
        try clear c2
        try clear p2
        try clear c3
        try clear c3b0
        try clear c4
        try clear c5
        try clear c6
        try clear p6
        try clear c7
        try clear c18
        try clear c23
        try clear c24
        try clear c29
        try clear c30
        try clear c31
        try clear c32
        try clear c33
        try clear c33b0
        try clear c33b1
        try clear c33b2
        try clear c34
        try clear c35
        try clear c36
        try clear c36b0
        try clear c36b1
        try clear c36b2
        try clear c37
        try clear c38
        try clear c39
        try clear c41
        try clear c42
        try clear c46
        try clear c47
        try clear c48
        try clear c50
        try clear c51
        try clear c54
        try clear c58
        try clear c59
        try clear c60
        try clear c62
        try clear c63
        try clear p64
        try clear c66
        try clear c68
        try clear c71
        try clear c71b0
        try clear c73
        try clear c73b0
        try clear hcz14_0
        try clear hcz19_0
        try clear hcz25_0
        try clear hcz32_0
        try clear hcz40_0
        try clear hcz43_0
        try clear hcz49_0
        try clear hcz52_0
        try clear hcz55_0
        try clear hcz56_0
        try clear hcz61_0
        try clear hcz64_0
        try clear hfz14_0
        try clear hfz19_0
        try clear hfz25_0
        try clear hfz32_0
        try clear hfz40_0
        try clear hfz43_0
        try clear hfz49_0
        try clear hfz52_0
        try clear hfz55_0
        try clear hfz56_0
        try clear hfz61_0
        try clear hfz64_0
        try clear p2
        try clear p6
        try clear p64
        obtain ⟨kq,x15_71,rfl,HA,HJ71,HO_328000,HO_333000,HO_338000,HO_343000,BK327,BK332,BK337,BK342,HB⟩:=hcut
        cases kq with
        | zero=>exact absurd HA.out (by simp [laws_FnCauchy.j2])
        | succ kj71 =>
         have H:=HA.out
         clear HA
         simp only [laws_FnCauchy.j2] at H
         obtain ⟨t346,A74,H⟩:=yo H
         by_cases c75:0≤x15_71
         ·rw [if_pos c75] at H
          have c75b0:=eq_true c75
          have c75b1:decide (0≤x15_71)=true:=decide_eq_true c75
          clear c75
          by_cases c76:x15_71≤(t346.length:Int)
          ·rw [if_pos c76] at H
           have c76b0:=eq_true c76
           have c76b1:decide (x15_71≤(t346.length:Int))=true:=decide_eq_true c76
           clear c76
           generalize hy349:(t346.take (x15_71:Int).toNat:List Int)=y349 at H
           have Ny349:=am hy349.symm
           clear hy349
           obtain ⟨t353,A77,H⟩:=yo H
           have c78b0:=eq_true (od d1:0≤x15_71)
           by_cases c79:x15_71≤(t353.length:Int)
           ·rw [if_pos c79] at H
            have c79b0:=eq_true c79
            have c79b1:decide (x15_71≤(t353.length:Int))=true:=decide_eq_true c79
            clear c79
            generalize hy356:(t353.take (x15_71:Int).toNat:List Int)=y356 at H
            have Ny356:=am hy356.symm
            clear hy356
            obtain ⟨⟨t360,t363⟩,A80,H⟩:=yo H
            try dsimp only at H
            obtain ⟨⟨t365,t368⟩,A81,H⟩:=yo H
            try dsimp only at H
            have HC82:=am H
            clear H
            go_upto_region 20 with (first|((with_reducible refine gC 37 ?_);have hz_:=w83;clear hz_;refine gM (some 108) Try.func37 (args:=#[.int .i64 t322, .int .i64 x15_71, .slice A0 l0.length c0]) (laws_someOf.calls kj71 t322 x15_71 _ _ l0 t353 _ (yc (Kd.C_below HR0.out HB.out)) HC0.out A77.out) ?_;rintro e w86 ⟨v354,rfl,ho0,hb⟩;refine ⟨_,rfl,?_⟩;replace HO_328000:=bS HO_328000 hb;replace HO_333000:=bS HO_333000 hb;replace HO_338000:=bS HO_338000 hb;replace HO_343000:=bS HO_343000 hb;have HO355:=am (Kd.R_lower (Kd.R_new' ho0 (Kd.R_lt (yR HO348))) (pz (yW HB)));replace HO348:=eR HO348 (Kd.R_base ho0) hb;replace BK327:=yb BK327 hb;replace BK332:=yb BK332 hb;replace BK337:=yb BK337 hb;replace BK342:=yb BK342 hb;replace HR352:=am (Kd.C_below d21 hb);replace HB:=yH HB hb;clear hb ho0;obtain ⟨Ao88,co88,eo88⟩:=Kd.R_slice HO355.out;subst eo88;have q87:(x15_71:Int)≤((t353.length:Int):Int):=od d1;obtain ⟨i087,hi087,_,hsz87,_⟩:=info_parts info3;have hroom87:t353.length≤co88:=(Kd.R_reads' HO355.out).2.1;have hC87:Kd.C (Kd.int .i64) _ Ao88 t353.length t353:=(Kd.R_reads' HO355.out).2.2;have hcut87:=cut_to (P:=Try.prog) 62 3 .i64 Try.underlying62 hi087 Ao88 t353.length co88 x15_71 (od d1) q87 hroom87;have hr87:=Kd.C_take (m:=(x15_71:Int).toNat) hC87 d13;have hy87:y356.length=(x15_71:Int).toNat:=(by rw [Ny356.out,List.length_take];omega);rw [← Ny356.out] at hr87;rw [← hy87] at hcut87;have HR359:=am hr87;have HC359:=am (show y356.length≤co88 from by omega);clear hr87 hC87 hroom87 hi087 hsz87;have KY87:=am hy87;clear hy87;have KL87:=am (show (x15_71:Int).toNat≤t353.length from by omega);replace q87:=eq_true q87;have hnb89:=NB327_332.out;have hnc89:=NB332_327.out;have hnb90:=NB327_337.out;have hnc90:=NB337_327.out;have hnb91:=NB327_342.out;have hnc91:=NB342_327.out;obtain ⟨hcz92_0,hfz92_0⟩:=yk1 BK327)|((with_reducible refine gC 37 ?_);refine gM (some 102) Try.func37 (args:=#[.int .i64 t321, .int .i64 x15_71, .slice A1 l1.length c1]) (laws_someOf.calls kj71 t321 x15_71 _ _ l1 t346 _ (yc (Kd.C_below HR1.out HB.out)) HC1.out A74.out) ?_;rintro e w83 ⟨v347,rfl,ho0,hb⟩;refine ⟨_,rfl,?_⟩;replace HO_328000:=bS HO_328000 hb;replace HO_333000:=bS HO_333000 hb;replace HO_338000:=bS HO_338000 hb;replace HO_343000:=bS HO_343000 hb;have HO348:=am (Kd.R_lower ho0 (pz (yW HB)));replace BK327:=yb BK327 hb;replace BK332:=yb BK332 hb;replace BK337:=yb BK337 hb;replace BK342:=yb BK342 hb;replace HB:=yH HB hb;clear hb ho0;obtain ⟨Ao85,co85,eo85⟩:=Kd.R_slice HO348.out;subst eo85;have q84:(x15_71:Int)≤((t346.length:Int):Int):=od d1;obtain ⟨i084,hi084,_,hsz84,_⟩:=info_parts info3;have hroom84:t346.length≤co85:=(Kd.R_reads' HO348.out).2.1;have hC84:Kd.C (Kd.int .i64) _ Ao85 t346.length t346:=(Kd.R_reads' HO348.out).2.2;have hcut84:=cut_to (P:=Try.prog) 62 3 .i64 Try.underlying62 hi084 Ao85 t346.length co85 x15_71 (od d1) q84 hroom84;have hr84:=Kd.C_take (m:=(x15_71:Int).toNat) hC84 d13;have hy84:y349.length=(x15_71:Int).toNat:=(by rw [Ny349.out,List.length_take];omega);rw [← Ny349.out] at hr84;rw [← hy84] at hcut84;have HR352:=am hr84;have HC352:=am (show y349.length≤co85 from by omega);clear hr84 hC84 hroom84 hi084 hsz84;have KY84:=am hy84;clear hy84;have KL84:=am (show (x15_71:Int).toNat≤t346.length from by omega);replace q84:=eq_true q84)|((with_reducible refine gC 38 ?_);refine gM (some 115) Try.func38 (args:=#[.agg #[.slice Ao13 t323.length co13], .slice Ao85 y349.length co85, .slice Ao88 y356.length co88]) (impl_PartOf.calls kj71 _ _ t323 _ _ y349 _ _ y356 t360 t363 _ (yc (Kd.S_reads' HO_328000.out).2.2) (Kd.S_reads' HO_328000.out).2.1 (yc d21) HC352.out (yc d30) HC359.out A80.out) ?_;rintro e w93 ⟨v361,rfl,ho0,hb⟩;refine ⟨_,rfl,?_⟩;replace HO348:=bR HO348 hb;replace HO355:=bR HO355 hb;have HO362:=am (Kd.S_lower (Kd.S_new' (Kd.S_new' (Kd.S_new' (Kd.S_new' ho0 (Kd.S_lt (yS HO_328000))) (Kd.S_lt (yS HO_333000))) (Kd.S_lt (yS HO_338000))) (Kd.S_lt (yS HO_343000))) (pz (yW HB)));replace HO_328000:=eS HO_328000 (Kd.S_base ho0) hb;replace HO_333000:=eS HO_333000 (Kd.S_base ho0) hb;replace HO_338000:=eS HO_338000 (Kd.S_base ho0) hb;replace HO_343000:=eS HO_343000 (Kd.S_base ho0) hb;replace BK327:=yb BK327 hb;replace BK332:=yb BK332 hb;replace BK337:=yb BK337 hb;replace BK342:=yb BK342 hb;replace HR352:=am (Kd.C_below d21 hb);replace HR359:=am (Kd.C_below d30 hb);replace HB:=yH HB hb;clear hb ho0)|((with_reducible refine gD 18 ?_);refine gB (cs:=#[.slice none 0 0]) 27 ?_;intro gb364 hg w94 hbox hb;replace HO_328000:=bS HO_328000 hb;replace HO_333000:=bS HO_333000 hb;replace HO_338000:=bS HO_338000 hb;replace HO_343000:=bS HO_343000 hb;replace HO348:=bR HO348 hb;replace HO355:=bR HO355 hb;replace HO362:=bS HO362 hb;replace HR352:=am (Kd.C_below d21 hb);replace HR359:=am (Kd.C_below d30 hb);have BK364:=am (hbox);have GW364:=ye HB hg;replace HB:=yH HB hb;have NB327_364:=yl BK327 hg;have NB364_327:=yg BK327 hg;replace BK327:=yb BK327 hb;have NB332_364:=yl BK332 hg;have NB364_332:=yg BK332 hg;replace BK332:=yb BK332 hb;have NB337_364:=yl BK337 hg;have NB364_337:=yg BK337 hg;replace BK337:=yb BK337 hb;have NB342_364:=yl BK342 hg;have NB364_342:=yg BK342 hg;replace BK342:=yb BK342 hb;have GE364:=GW364;clear hb hbox hg;obtain ⟨Ao95,co95,eo95⟩:=Kd.S_slice HO362.out;subst eo95;have hnb96:=NB364_327.out;have hnc96:=NB327_364.out;have hnb97:=NB364_332.out;have hnc97:=NB332_364.out;have hnb98:=NB364_337.out;have hnc98:=NB337_364.out;have hnb99:=NB364_342.out;have hnc99:=NB342_364.out;obtain ⟨hcz100_0,hfz100_0⟩:=yk1 BK364)|((with_reducible refine gC 39 ?_);refine gM (some 120) Try.func39 (args:=#[.agg #[.slice Ao95 t360.length co95]]) (impl_InverseOf.calls _ _ t360 t365 t368 _ ?side1 ?side2 A81.out) ?_;(case side1=>refine (Kd.S_reads' (e:=24) (base:=w.heap.size) (ok:=fun k_=>((((True∧some k_ ≠ (.slice Ao13 t323.length co13:Value).ownBlock)∧some k_ ≠ (.slice Ao17 t328.length co17:Value).ownBlock)∧some k_ ≠ (.slice Ao22 t333.length co22:Value).ownBlock)∧some k_ ≠ (.slice Ao28 t338.length co28:Value).ownBlock)) (n:=t360.length) (c:=co95) ?_).2.2;exact d35);(case side2=>exact (Kd.S_reads' HO362.out).2.1);rintro e w101 ⟨v366,rfl,ho0,hb⟩;refine ⟨_,rfl,?_⟩;replace HO348:=am (Kd.R_below (by refine sR ?_;exact (Kd.R_mono (Kd.R_far (p:=⟨gb364,0,none⟩) (Kd.R_types HO348.out BK364.out d9) (fun _ hk=>hk.2) (.slice Ao95 t360.length co95)) (fun _ h_=>h_.1))) hb);replace HO355:=am (Kd.R_below (by refine sR ?_;exact (Kd.R_mono (Kd.R_far (p:=⟨gb364,0,none⟩) (Kd.R_types HO355.out BK364.out d9) (fun _ hk=>hk.2) (.slice Ao95 t360.length co95)) (fun _ h_=>h_.1))) hb);have HO367:=am (Kd.S_lower (Kd.S_new' (Kd.S_new' (Kd.S_new' (Kd.S_new' (Kd.S_new' ho0 (Kd.S_lt d75)) (Kd.S_lt d74)) (Kd.S_lt d73)) (Kd.S_lt d72)) (Kd.S_lt d35)) (pz (yW HB)));replace HO_328000:=am (Kd.S_elder' d75 (Kd.S_base ho0) hb);replace HO_333000:=am (Kd.S_elder' d74 (Kd.S_base ho0) hb);replace HO_338000:=am (Kd.S_elder' d73 (Kd.S_base ho0) hb);replace HO_343000:=am (Kd.S_elder' d72 (Kd.S_base ho0) hb);replace HO362:=am (Kd.S_elder' d35 (Kd.S_base ho0) hb);replace BK327:=am (qb (g:=gb327) (o:=.cells #[.slice Ao13 t323.length co13] 27 (0,0)) (yF BK327) hb);replace BK332:=am (qb (g:=gb332) (o:=.cells #[.slice Ao17 t328.length co17] 27 (0,0)) (yF BK332) hb);replace BK337:=am (qb (g:=gb337) (o:=.cells #[.slice Ao22 t333.length co22] 27 (0,0)) (yF BK337) hb);replace BK342:=am (qb (g:=gb342) (o:=.cells #[.slice Ao28 t338.length co28] 27 (0,0)) (yF BK342) hb);replace BK364:=am (qb (g:=gb364) (o:=.cells #[.slice Ao95 t360.length co95] 27 (0,0)) (by refine sB ?_;refine blk_put (cs:=#[.slice none 0 0]) ?_ 0 _ rfl;exact yB BK364) hb);replace HB:=yH HB hb;clear hb ho0)|((with_reducible refine gD 20 ?_);refine gB (cs:=#[.slice none 0 0]) 27 ?_;intro gb369 hg w102 hbox hb;replace HO_328000:=bS HO_328000 hb;replace HO_333000:=bS HO_333000 hb;replace HO_338000:=bS HO_338000 hb;replace HO_343000:=bS HO_343000 hb;replace HO348:=bR HO348 hb;replace HO355:=bR HO355 hb;replace HO362:=bS HO362 hb;replace HO367:=bS HO367 hb;have BK369:=am (hbox);have GW369:=ye HB hg;replace HB:=yH HB hb;have NB327_369:=yl BK327 hg;have NB369_327:=yg BK327 hg;replace BK327:=yb BK327 hb;have NB332_369:=yl BK332 hg;have NB369_332:=yg BK332 hg;replace BK332:=yb BK332 hb;have NB337_369:=yl BK337 hg;have NB369_337:=yg BK337 hg;replace BK337:=yb BK337 hb;have NB342_369:=yl BK342 hg;have NB369_342:=yg BK342 hg;replace BK342:=yb BK342 hb;have NB364_369:=yl BK364 hg;have NB369_364:=yg BK364 hg;replace BK364:=yb BK364 hb;have GE369:=GW369;clear hb hbox hg;obtain ⟨Ao103,co103,eo103⟩:=Kd.S_slice HO367.out;subst eo103;have hnb104:=NB369_327.out;have hnc104:=NB327_369.out;have hnb105:=NB369_332.out;have hnc105:=NB332_369.out;have hnb106:=NB369_337.out;have hnc106:=NB337_369.out;have hnb107:=NB369_342.out;have hnc107:=NB342_369.out;have hnb108:=NB369_364.out;have hnc108:=NB364_369.out;obtain ⟨hcz109_0,hfz109_0⟩:=yk1 BK369))
            (try simp only [Act.put,q1,q2,q3])
            go_cut [128] (fun v128 wc=>∃ (kq:Nat) (x128_81:Bool),v128 = .bool x128_81∧Aside0 (laws_FnCauchy.j3 kq l1 t321 t322 x128_81 t333=some r)∧Aside0 (kq≤kj71)∧Aside0 (Kd.S (Kd.slice 5 (Kd.int .u8)) 24 wc w.heap.size (fun k_=>some k_ ≠ ((.slice Ao17 t328.length co17):Value).ownBlock∧some k_ ≠ ((.slice Ao22 t333.length co22):Value).ownBlock∧some k_ ≠ ((.slice Ao28 t338.length co28):Value).ownBlock∧some k_ ≠ ((.slice Ao95 t360.length co95):Value).ownBlock∧some k_ ≠ ((.slice Ao103 t365.length co103):Value).ownBlock) (.slice Ao13 t323.length co13) t323)∧Aside0 (Kd.S (Kd.slice 5 (Kd.int .u8)) 24 wc w.heap.size (fun k_=>some k_ ≠ ((.slice Ao13 t323.length co13):Value).ownBlock∧some k_ ≠ ((.slice Ao22 t333.length co22):Value).ownBlock∧some k_ ≠ ((.slice Ao28 t338.length co28):Value).ownBlock∧some k_ ≠ ((.slice Ao95 t360.length co95):Value).ownBlock∧some k_ ≠ ((.slice Ao103 t365.length co103):Value).ownBlock) (.slice Ao17 t328.length co17) t328)∧Aside0 (Kd.S (Kd.slice 5 (Kd.int .u8)) 24 wc w.heap.size (fun k_=>some k_ ≠ ((.slice Ao13 t323.length co13):Value).ownBlock∧some k_ ≠ ((.slice Ao17 t328.length co17):Value).ownBlock∧some k_ ≠ ((.slice Ao28 t338.length co28):Value).ownBlock∧some k_ ≠ ((.slice Ao95 t360.length co95):Value).ownBlock∧some k_ ≠ ((.slice Ao103 t365.length co103):Value).ownBlock) (.slice Ao22 t333.length co22) t333)∧Aside0 (Kd.S (Kd.slice 5 (Kd.int .u8)) 24 wc w.heap.size (fun k_=>some k_ ≠ ((.slice Ao13 t323.length co13):Value).ownBlock∧some k_ ≠ ((.slice Ao17 t328.length co17):Value).ownBlock∧some k_ ≠ ((.slice Ao22 t333.length co22):Value).ownBlock∧some k_ ≠ ((.slice Ao95 t360.length co95):Value).ownBlock∧some k_ ≠ ((.slice Ao103 t365.length co103):Value).ownBlock) (.slice Ao28 t338.length co28) t338)∧Aside0 (Kd.S (Kd.slice 5 (Kd.int .u8)) 24 wc w.heap.size (fun k_=>some k_ ≠ ((.slice Ao13 t323.length co13):Value).ownBlock∧some k_ ≠ ((.slice Ao17 t328.length co17):Value).ownBlock∧some k_ ≠ ((.slice Ao22 t333.length co22):Value).ownBlock∧some k_ ≠ ((.slice Ao28 t338.length co28):Value).ownBlock∧some k_ ≠ ((.slice Ao103 t365.length co103):Value).ownBlock) (.slice Ao95 t360.length co95) t360)∧Aside0 (Kd.S (Kd.slice 5 (Kd.int .u8)) 24 wc w.heap.size (fun k_=>some k_ ≠ ((.slice Ao13 t323.length co13):Value).ownBlock∧some k_ ≠ ((.slice Ao17 t328.length co17):Value).ownBlock∧some k_ ≠ ((.slice Ao22 t333.length co22):Value).ownBlock∧some k_ ≠ ((.slice Ao28 t338.length co28):Value).ownBlock∧some k_ ≠ ((.slice Ao95 t360.length co95):Value).ownBlock) (.slice Ao103 t365.length co103) t365)∧Aside0 (wc.heap[gb327]? = some (.cells #[(.slice Ao13 t323.length co13)] 27 (0,0)))∧Aside0 (wc.heap[gb332]? = some (.cells #[(.slice Ao17 t328.length co17)] 27 (0,0)))∧Aside0 (wc.heap[gb337]? = some (.cells #[(.slice Ao22 t333.length co22)] 27 (0,0)))∧Aside0 (wc.heap[gb342]? = some (.cells #[(.slice Ao28 t338.length co28)] 27 (0,0)))∧Aside0 (wc.heap[gb364]? = some (.cells #[(.slice Ao95 t360.length co95)] 27 (0,0)))∧Aside0 (wc.heap[gb369]? = some (.cells #[(.slice Ao103 t365.length co103)] 27 (0,0)))∧Aside0 (Below w.heap.size w wc))
            case first =>
             have H:=HC82.out
             clear HC82
             by_cases c110:t363=true
             ·subst c110
              replace H:=yt H
              have H':=am H
              clear H
              go_wp2
              go_meet
              case rel=>exact ⟨_,(!t368),d3,H',⟨by have:=HJ8.out;have:=HJ69.out;have:=HJ71.out;first|omega|exact Nat.le_refl _⟩,⟨d45⟩,⟨d44⟩,⟨d43⟩,⟨d42⟩,⟨d47⟩,⟨d46⟩,⟨yF BK327⟩,⟨yF BK332⟩,⟨yF BK337⟩,⟨yF BK342⟩,⟨yF BK364⟩,⟨by refine sB ?_;refine blk_put (cs:=#[.slice none 0 0]) ?_ 0 _ rfl;exact yB BK369⟩,⟨yW HB⟩⟩
             replace c110:=Bool.eq_false_iff.mpr c110
             subst c110
             replace H:=yn H
             have H':=am H
             clear H
             go_wp2
             go_meet
             case rel=>exact ⟨_,(true),d3,H',⟨by have:=HJ8.out;have:=HJ69.out;have:=HJ71.out;first|omega|exact Nat.le_refl _⟩,⟨d45⟩,⟨d44⟩,⟨d43⟩,⟨d42⟩,⟨d47⟩,⟨d46⟩,⟨yF BK327⟩,⟨yF BK332⟩,⟨yF BK337⟩,⟨yF BK342⟩,⟨yF BK364⟩,⟨by refine sB ?_;refine blk_put (cs:=#[.slice none 0 0]) ?_ 0 _ rfl;exact yB BK369⟩,⟨yW HB⟩⟩
            case rest =>
             clear HC82
             try clear c1
             try clear c2
             try clear p2
             try clear c3
             try clear c3b0
             try clear c4
             try clear c5
             try clear c6
             try clear p6
             try clear c7
             try clear c8
             try clear q8
             try clear c9
             try clear c10
             try clear c11
             try clear c18
             try clear c23
             try clear c24
             try clear c29
             try clear c30
             try clear c31
             try clear c32
             try clear c33
             try clear c33b0
             try clear c33b1
             try clear c33b2
             try clear c34
             try clear c35
             try clear c36
             try clear c36b0
             try clear c36b1
             try clear c36b2
             try clear c37
             try clear c38
             try clear c39
             try clear c41
             try clear c42
             try clear c46
             try clear c47
             try clear c48
             try clear c50
             try clear c51
             try clear c54
             try clear c58
             try clear c59
             try clear c60
             try clear c62
             try clear c63
             try clear p64
             try clear c66
             try clear c68
             try clear c71
             try clear c71b0
             try clear c73
             try clear c73b0
             try clear c75
             try clear c75b0
             try clear c75b1
             try clear c76
             try clear c76b0
             try clear c76b1
             try clear c78
             try clear c78b0
             try clear c79
             try clear c79b0
             try clear c79b1
             try clear q84
             try clear q87
             try clear c89
             try clear c90
             try clear c91
             try clear c96
             try clear c97
             try clear c98
             try clear c99
             try clear c104
             try clear c105
             try clear c106
             try clear c107
             try clear c108
             try clear c110
             try clear hcz100_0
             try clear hcz109_0
             try clear hcz14_0
             try clear hcz19_0
             try clear hcz25_0
             try clear hcz32_0
             try clear hcz40_0
             try clear hcz43_0
             try clear hcz49_0
             try clear hcz52_0
             try clear hcz55_0
             try clear hcz56_0
             try clear hcz61_0
             try clear hcz64_0
             try clear hcz92_0
             try clear hfz100_0
             try clear hfz109_0
             try clear hfz14_0
             try clear hfz19_0
             try clear hfz25_0
             try clear hfz32_0
             try clear hfz40_0
             try clear hfz43_0
             try clear hfz49_0
             try clear hfz52_0
             try clear hfz55_0
             try clear hfz56_0
             try clear hfz61_0
             try clear hfz64_0
             try clear hfz92_0
             try clear p2
             try clear p6
             try clear p64
             try clear q84
             try clear q87
             obtain ⟨kq,x128_81,rfl,HA,HJ81,HO_328000,HO_333000,HO_338000,HO_343000,HO_365000,HO_370000,BK327,BK332,BK337,BK342,BK364,BK369,HB⟩:=hcut
             cases kq with
             | zero=>exact absurd HA.out (by simp [laws_FnCauchy.j3])
             | succ kj81 =>
              have H:=HA.out
              clear HA
              simp only [laws_FnCauchy.j3] at H
              by_cases c111:x128_81=true
              ·subst c111
               replace H:=yt H
               obtain rfl:=Option.some.inj H
               go_wp2
               go_ret
               exact ⟨d2,yW HB⟩
              replace c111:=Bool.eq_false_iff.mpr c111
              subst c111
              replace H:=yn H
              by_cases c112:t321 ≥ t322
              ·rw [if_pos c112] at H
               have c112b0:decide (t322≤t321)=true:=decide_eq_true c112
               clear c112
               obtain ⟨⟨t370,t371⟩,A113,H⟩:=yo H
               try dsimp only at H
               by_cases c114:t371=true
               ·subst c114
                replace H:=yt H
                by_cases c115:t370=t322
                ·rw [if_pos c115] at H
                 have c115b0:(t370 == t322)=true:=beq_iff_eq.mpr c115
                 have c115b1:(t370 != t322)=false:=bne_eq_false_iff_eq.mpr c115
                 clear c115
                 have H':=am H
                 clear H
                 have hnb116:=NB337_327.out
                 have hnc116:=NB327_337.out
                 have hnb117:=NB337_332.out
                 have hnc117:=NB332_337.out
                 have hnb118:=NB337_342.out
                 have hnc118:=NB342_337.out
                 have hnb119:=NB337_364.out
                 have hnc119:=NB364_337.out
                 have hnb120:=NB337_369.out
                 have hnc120:=NB369_337.out
                 obtain ⟨hcz121_0,hfz121_0⟩:=yk1 BK337
                 go_wp2_with (first|((with_reducible refine gC 40 ?_);refine gM (some 134) Try.func40 (args:=#[.agg #[.slice Ao22 t333.length co22]]) (impl_RankOf.calls _ _ t333 t370 true _ (yc (Kd.S_reads' HO_338000.out).2.2) (Kd.S_reads' HO_338000.out).2.1 A113.out) ?_;rintro e w122 ⟨rfl,hb⟩;refine ⟨_,rfl,?_⟩;replace HO_328000:=bS HO_328000 hb;replace HO_333000:=bS HO_333000 hb;replace HO_338000:=bS HO_338000 hb;replace HO_343000:=bS HO_343000 hb;replace HO_365000:=bS HO_365000 hb;replace HO_370000:=bS HO_370000 hb;replace BK327:=yb BK327 hb;replace BK332:=yb BK332 hb;replace BK337:=yb BK337 hb;replace BK342:=yb BK342 hb;replace BK364:=yb BK364 hb;replace BK369:=yb BK369 hb;replace HB:=yH HB hb;clear hb))
                 go_meet
                 case rel=>exact ⟨_,H',⟨by have:=HJ8.out;have:=HJ69.out;have:=HJ71.out;have:=HJ81.out;first|omega|exact Nat.le_refl _⟩,⟨by refine sS ?_;exact Kd.S_mono HO_328000.out (fun _ hk=>⟨hk.1,⟨hk.2.1,hk.2.2.1⟩⟩)⟩,⟨by refine sS ?_;exact Kd.S_mono HO_333000.out (fun _ hk=>⟨hk.1,⟨hk.2.1,hk.2.2.1⟩⟩)⟩,⟨by refine sS ?_;exact Kd.S_mono HO_338000.out (fun _ hk=>⟨hk.1,⟨hk.2.1,hk.2.2.1⟩⟩)⟩,⟨by refine sS ?_;exact Kd.S_mono HO_343000.out (fun _ hk=>⟨hk.1,⟨hk.2.1,hk.2.2.1⟩⟩)⟩,⟨yB BK327⟩,⟨yB BK332⟩,⟨yB BK337⟩,⟨yB BK342⟩,⟨yW HB⟩⟩
                rw [if_neg c115] at H
                have c115b0:(t370 == t322)=false:=beq_eq_false_iff_ne.mpr c115
                have c115b1:(t370 != t322)=true:=bne_iff_ne.mpr c115
                obtain rfl:=Option.some.inj H
                have hnb123:=NB337_327.out
                have hnc123:=NB327_337.out
                have hnb124:=NB337_332.out
                have hnc124:=NB332_337.out
                have hnb125:=NB337_342.out
                have hnc125:=NB342_337.out
                have hnb126:=NB337_364.out
                have hnc126:=NB364_337.out
                have hnb127:=NB337_369.out
                have hnc127:=NB369_337.out
                obtain ⟨hcz128_0,hfz128_0⟩:=yk1 BK337
                go_wp2_with (first|((with_reducible refine gC 40 ?_);refine gM (some 134) Try.func40 (args:=#[.agg #[.slice Ao22 t333.length co22]]) (impl_RankOf.calls _ _ t333 t370 true _ (yc (Kd.S_reads' HO_338000.out).2.2) (Kd.S_reads' HO_338000.out).2.1 A113.out) ?_;rintro e w129 ⟨rfl,hb⟩;refine ⟨_,rfl,?_⟩;replace HO_328000:=bS HO_328000 hb;replace HO_333000:=bS HO_333000 hb;replace HO_338000:=bS HO_338000 hb;replace HO_343000:=bS HO_343000 hb;replace HO_365000:=bS HO_365000 hb;replace HO_370000:=bS HO_370000 hb;replace BK327:=yb BK327 hb;replace BK332:=yb BK332 hb;replace BK337:=yb BK337 hb;replace BK342:=yb BK342 hb;replace BK364:=yb BK364 hb;replace BK369:=yb BK369 hb;replace HB:=yH HB hb;clear hb))
                go_ret
                exact ⟨d2,yW HB⟩
               replace c114:=Bool.eq_false_iff.mpr c114
               subst c114
               replace H:=yn H
               obtain rfl:=Option.some.inj H
               have hnb130:=NB337_327.out
               have hnc130:=NB327_337.out
               have hnb131:=NB337_332.out
               have hnc131:=NB332_337.out
               have hnb132:=NB337_342.out
               have hnc132:=NB342_337.out
               have hnb133:=NB337_364.out
               have hnc133:=NB364_337.out
               have hnb134:=NB337_369.out
               have hnc134:=NB369_337.out
               obtain ⟨hcz135_0,hfz135_0⟩:=yk1 BK337
               go_wp2_with (first|((with_reducible refine gC 40 ?_);refine gM (some 134) Try.func40 (args:=#[.agg #[.slice Ao22 t333.length co22]]) (impl_RankOf.calls _ _ t333 t370 false _ (yc (Kd.S_reads' HO_338000.out).2.2) (Kd.S_reads' HO_338000.out).2.1 A113.out) ?_;rintro e w136 ⟨rfl,hb⟩;refine ⟨_,rfl,?_⟩;replace HO_328000:=bS HO_328000 hb;replace HO_333000:=bS HO_333000 hb;replace HO_338000:=bS HO_338000 hb;replace HO_343000:=bS HO_343000 hb;replace HO_365000:=bS HO_365000 hb;replace HO_370000:=bS HO_370000 hb;replace BK327:=yb BK327 hb;replace BK332:=yb BK332 hb;replace BK337:=yb BK337 hb;replace BK342:=yb BK342 hb;replace BK364:=yb BK364 hb;replace BK369:=yb BK369 hb;replace HB:=yH HB hb;clear hb))
               go_ret
               exact ⟨d2,yW HB⟩
              rw [if_neg c112] at H
              have c112b0:decide (t322≤t321)=false:=decide_eq_false c112
              clear c112
              have H':=am H
              clear H
              go_wp2
              go_meet
              case rel=>exact ⟨_,H',⟨by have:=HJ8.out;have:=HJ69.out;have:=HJ71.out;have:=HJ81.out;first|omega|exact Nat.le_refl _⟩,⟨by refine sS ?_;exact Kd.S_mono HO_328000.out (fun _ hk=>⟨hk.1,⟨hk.2.1,hk.2.2.1⟩⟩)⟩,⟨by refine sS ?_;exact Kd.S_mono HO_333000.out (fun _ hk=>⟨hk.1,⟨hk.2.1,hk.2.2.1⟩⟩)⟩,⟨by refine sS ?_;exact Kd.S_mono HO_338000.out (fun _ hk=>⟨hk.1,⟨hk.2.1,hk.2.2.1⟩⟩)⟩,⟨by refine sS ?_;exact Kd.S_mono HO_343000.out (fun _ hk=>⟨hk.1,⟨hk.2.1,hk.2.2.1⟩⟩)⟩,⟨yB BK327⟩,⟨yB BK332⟩,⟨yB BK337⟩,⟨yB BK342⟩,⟨yW HB⟩⟩
           rw [if_neg c79] at H
           exact absurd H d41
          rw [if_neg c76] at H
          exact absurd H d41
         rw [if_neg c75] at H
         exact absurd H d41
    replace c68:=Bool.eq_false_iff.mpr c68
    subst c68
    replace H:=yn H
    have H':=am H
    clear H
    go_wp2
    go_meet
    case rel=>exact ⟨_,H',⟨by have:=HJ8.out;first|omega|exact Nat.le_refl _⟩,⟨yS HO_328000⟩,⟨yS HO_333000⟩,⟨yS HO_338000⟩,⟨yS HO_343000⟩,⟨yB BK327⟩,⟨yB BK332⟩,⟨yB BK337⟩,⟨yB BK342⟩,⟨yW HB⟩⟩
   case rest =>
    clear HC67
    try clear c1
    try clear c2
    try clear p2
    try clear c3
    try clear c3b0
    try clear c4
    try clear c5
    try clear c6
    try clear p6
    try clear c7
    try clear c8
    try clear q8
    try clear c9
    try clear c10
    try clear c11
    try clear c12
    try clear c13
    try clear c18
    try clear c23
    try clear c24
    try clear c29
    try clear c30
    try clear c31
    try clear c32
    try clear c33
    try clear c33b0
    try clear c33b1
    try clear c33b2
    try clear c34
    try clear c35
    try clear c36
    try clear c36b0
    try clear c36b1
    try clear c36b2
    try clear c37
    try clear c38
    try clear c39
    try clear c40
    try clear c41
    try clear c42
    try clear c46
    try clear c47
    try clear c48
    try clear c50
    try clear c51
    try clear c54
    try clear c58
    try clear c59
    try clear c60
    try clear c62
    try clear c63
    try clear p64
    try clear c66
    try clear c68
    try clear c71
    try clear c71b0
    try clear c73
    try clear c73b0
    try clear c75
    try clear c75b0
    try clear c75b1
    try clear c76
    try clear c76b0
    try clear c76b1
    try clear c78
    try clear c78b0
    try clear c79
    try clear c79b0
    try clear c79b1
    try clear q84
    try clear q87
    try clear c89
    try clear c90
    try clear c91
    try clear c96
    try clear c97
    try clear c98
    try clear c99
    try clear c104
    try clear c105
    try clear c106
    try clear c107
    try clear c108
    try clear c110
    try clear c111
    try clear c112
    try clear c112b0
    try clear c114
    try clear c115
    try clear c115b0
    try clear c115b1
    try clear c116
    try clear c117
    try clear c118
    try clear c119
    try clear c120
    try clear c123
    try clear c124
    try clear c125
    try clear c126
    try clear c127
    try clear c130
    try clear c131
    try clear c132
    try clear c133
    try clear c134
    try clear hcz100_0
    try clear hcz109_0
    try clear hcz121_0
    try clear hcz128_0
    try clear hcz135_0
    try clear hcz14_0
    try clear hcz19_0
    try clear hcz25_0
    try clear hcz32_0
    try clear hcz40_0
    try clear hcz43_0
    try clear hcz49_0
    try clear hcz52_0
    try clear hcz55_0
    try clear hcz56_0
    try clear hcz61_0
    try clear hcz64_0
    try clear hcz92_0
    try clear hfz100_0
    try clear hfz109_0
    try clear hfz121_0
    try clear hfz128_0
    try clear hfz135_0
    try clear hfz14_0
    try clear hfz19_0
    try clear hfz25_0
    try clear hfz32_0
    try clear hfz40_0
    try clear hfz43_0
    try clear hfz49_0
    try clear hfz52_0
    try clear hfz55_0
    try clear hfz56_0
    try clear hfz61_0
    try clear hfz64_0
    try clear hfz92_0
    try clear p2
    try clear p6
    try clear p64
    try clear q8
    try clear q84
    try clear q87
    obtain ⟨kq,HA,HJ66,HO_328000,HO_333000,HO_338000,HO_343000,BK327,BK332,BK337,BK342,HB⟩:=hcut
    cases kq with
    | zero=>exact absurd HA.out (by simp [laws_FnCauchy.j4])
    | succ kj66 =>
     have H:=HA.out
     clear HA
     simp only [laws_FnCauchy.j4] at H
     obtain ⟨⟨t372,t375,t378⟩,A137,H⟩:=yo H
     try dsimp only at H
     obtain ⟨⟨t382,t385⟩,A138,H⟩:=yo H
     try dsimp only at H
     obtain ⟨⟨t387,t390⟩,A139,H⟩:=yo H
     try dsimp only at H
     by_cases c140:(t385 == t390)=true
     ·rw [if_pos c140] at H
      have c140b0:(t385 == t390)=true:=c140
      (try (have c140b1:decide (t385=t390)=true:=by simpa using c140))
      (try (have c140b2:(t385 == t390)=true:=by simpa using c140))
      clear c140
      obtain ⟨t392,A141,H⟩:=yo H
      obtain rfl:=Option.some.inj H
      go_wp2_with (first|((with_reducible refine gC 41 ?_);refine gM (some 146) Try.func41 (args:=#[.slice A1 l1.length c1]) (spec_DrawPartOf.calls kj66 _ _ l1 t372 t375 t378 _ (yc (Kd.C_below HR1.out HB.out)) HC1.out A137.out) ?_;rintro e w142 ⟨v373,v376,v379,rfl,ho0,ho1,ho2,hb⟩;refine ⟨_,rfl,?_⟩;have HO374:=am (Kd.S_lower (Kd.S_new' (Kd.S_new' (Kd.S_new' (Kd.S_new' ho0 (Kd.S_lt (yS HO_328000))) (Kd.S_lt (yS HO_333000))) (Kd.S_lt (yS HO_338000))) (Kd.S_lt (yS HO_343000))) (pz (yW HB)));replace HO_328000:=eS HO_328000 (Kd.S_base ho0) hb;replace HO_333000:=eS HO_333000 (Kd.S_base ho0) hb;replace HO_338000:=eS HO_338000 (Kd.S_base ho0) hb;replace HO_343000:=eS HO_343000 (Kd.S_base ho0) hb;have HO377:=am (Kd.R_lower ho1 (pz (yW HB)));have HO380:=am (Kd.R_lower ho2 (pz (yW HB)));replace BK327:=yb BK327 hb;replace BK332:=yb BK332 hb;replace BK337:=yb BK337 hb;replace BK342:=yb BK342 hb;replace HB:=yH HB hb;clear hb ho0 ho1 ho2)|((with_reducible refine gD 24 ?_);refine gB (cs:=#[.slice none 0 0]) 27 ?_;intro gb381 hg w143 hbox hb;replace HO_328000:=bS HO_328000 hb;replace HO_333000:=bS HO_333000 hb;replace HO_338000:=bS HO_338000 hb;replace HO_343000:=bS HO_343000 hb;replace HO374:=bS HO374 hb;replace HO377:=bR HO377 hb;replace HO380:=bR HO380 hb;have BK381:=am (hbox);have GW381:=ye HB hg;replace HB:=yH HB hb;have NB327_381:=yl BK327 hg;have NB381_327:=yg BK327 hg;replace BK327:=yb BK327 hb;have NB332_381:=yl BK332 hg;have NB381_332:=yg BK332 hg;replace BK332:=yb BK332 hb;have NB337_381:=yl BK337 hg;have NB381_337:=yg BK337 hg;replace BK337:=yb BK337 hb;have NB342_381:=yl BK342 hg;have NB381_342:=yg BK342 hg;replace BK342:=yb BK342 hb;have GE381:=GW381;clear hb hbox hg;obtain ⟨Ao144,co144,eo144⟩:=Kd.S_slice HO374.out;subst eo144;have hnb145:=NB381_327.out;have hnc145:=NB327_381.out;have hnb146:=NB381_332.out;have hnc146:=NB332_381.out;have hnb147:=NB381_337.out;have hnc147:=NB337_381.out;have hnb148:=NB381_342.out;have hnc148:=NB342_381.out;obtain ⟨hcz149_0,hfz149_0⟩:=yk1 BK381;obtain ⟨Ao150,co150,eo150⟩:=Kd.R_slice HO377.out;subst eo150;obtain ⟨Ao151,co151,eo151⟩:=Kd.R_slice HO380.out;subst eo151)|((with_reducible refine gC 38 ?_);refine gM (some 154) Try.func38 (args:=#[.agg #[.slice Ao144 t372.length co144], .slice Ao150 t375.length co150, .slice Ao151 t378.length co151]) (impl_PartOf.calls kj66 _ _ t372 _ _ t375 _ _ t378 t382 t385 _ ?side1 ?side2 ?side3 ?side4 ?side5 ?side6 A138.out) ?_;(case side1=>refine (Kd.S_reads' (e:=24) (base:=w.heap.size) (ok:=fun k_=>((((True∧some k_ ≠ (.slice Ao13 t323.length co13:Value).ownBlock)∧some k_ ≠ (.slice Ao17 t328.length co17:Value).ownBlock)∧some k_ ≠ (.slice Ao22 t333.length co22:Value).ownBlock)∧some k_ ≠ (.slice Ao28 t338.length co28:Value).ownBlock)) (n:=t372.length) (c:=co144) ?_).2.2;exact d34);(case side2=>exact (Kd.S_reads' HO374.out).2.1);(case side3=>refine (Kd.R_reads' (e:=3) (base:=w.heap.size) (ok:=fun k_=>some k_ ≠ (.slice Ao151 t378.length co151:Value).ownBlock) (n:=t375.length) (c:=co150) ?_).2.2;exact d87);(case side4=>exact (Kd.R_reads' HO377.out).2.1);(case side5=>refine (Kd.R_reads' (e:=3) (base:=w.heap.size) (ok:=fun k_=>some k_ ≠ (.slice Ao150 t375.length co150:Value).ownBlock) (n:=t378.length) (c:=co151) ?_).2.2;exact d85);(case side6=>exact (Kd.R_reads' HO380.out).2.1);rintro e w152 ⟨v383,rfl,ho0,hb⟩;refine ⟨_,rfl,?_⟩;replace HO377:=am (Kd.R_below d87 hb);replace HO380:=am (Kd.R_below d85 hb);have HO384:=am (Kd.S_lower (Kd.S_new' (Kd.S_new' (Kd.S_new' (Kd.S_new' (Kd.S_new' ho0 (Kd.S_lt d71)) (Kd.S_lt d69)) (Kd.S_lt d67)) (Kd.S_lt d65)) (Kd.S_lt d34)) (pz (yW HB)));replace HO_328000:=am (Kd.S_elder' d71 (Kd.S_base ho0) hb);replace HO_333000:=am (Kd.S_elder' d69 (Kd.S_base ho0) hb);replace HO_338000:=am (Kd.S_elder' d67 (Kd.S_base ho0) hb);replace HO_343000:=am (Kd.S_elder' d65 (Kd.S_base ho0) hb);replace HO374:=am (Kd.S_elder' d34 (Kd.S_base ho0) hb);replace BK327:=am (qb (g:=gb327) (o:=.cells #[.slice Ao13 t323.length co13] 27 (0,0)) (yF BK327) hb);replace BK332:=am (qb (g:=gb332) (o:=.cells #[.slice Ao17 t328.length co17] 27 (0,0)) (yF BK332) hb);replace BK337:=am (qb (g:=gb337) (o:=.cells #[.slice Ao22 t333.length co22] 27 (0,0)) (yF BK337) hb);replace BK342:=am (qb (g:=gb342) (o:=.cells #[.slice Ao28 t338.length co28] 27 (0,0)) (yF BK342) hb);replace BK381:=am (qb (g:=gb381) (o:=.cells #[.slice Ao144 t372.length co144] 27 (0,0)) (by refine sB ?_;refine blk_put (cs:=#[.slice none 0 0]) ?_ 0 _ rfl;exact yB BK381) hb);replace HB:=yH HB hb;clear hb ho0)|((with_reducible refine gD 27 ?_);refine gB (cs:=#[.slice none 0 0]) 27 ?_;intro gb386 hg w153 hbox hb;replace HO_328000:=bS HO_328000 hb;replace HO_333000:=bS HO_333000 hb;replace HO_338000:=bS HO_338000 hb;replace HO_343000:=bS HO_343000 hb;replace HO374:=bS HO374 hb;replace HO377:=bR HO377 hb;replace HO380:=bR HO380 hb;replace HO384:=bS HO384 hb;have BK386:=am (hbox);have GW386:=ye HB hg;replace HB:=yH HB hb;have NB327_386:=yl BK327 hg;have NB386_327:=yg BK327 hg;replace BK327:=yb BK327 hb;have NB332_386:=yl BK332 hg;have NB386_332:=yg BK332 hg;replace BK332:=yb BK332 hb;have NB337_386:=yl BK337 hg;have NB386_337:=yg BK337 hg;replace BK337:=yb BK337 hb;have NB342_386:=yl BK342 hg;have NB386_342:=yg BK342 hg;replace BK342:=yb BK342 hb;have NB381_386:=yl BK381 hg;have NB386_381:=yg BK381 hg;replace BK381:=yb BK381 hb;have GE386:=GW386;clear hb hbox hg;obtain ⟨Ao154,co154,eo154⟩:=Kd.S_slice HO384.out;subst eo154;have hnb155:=NB386_327.out;have hnc155:=NB327_386.out;have hnb156:=NB386_332.out;have hnc156:=NB332_386.out;have hnb157:=NB386_337.out;have hnc157:=NB337_386.out;have hnb158:=NB386_342.out;have hnc158:=NB342_386.out;have hnb159:=NB386_381.out;have hnc159:=NB381_386.out;obtain ⟨hcz160_0,hfz160_0⟩:=yk1 BK386;obtain ⟨hcz161_0,hfz161_0⟩:=yk1 BK381)|((with_reducible refine gC 42 ?_);refine gM (some 161) Try.func42 (args:=#[.agg #[.slice Ao144 t372.length co144], .slice Ao150 t375.length co150, .slice Ao151 t378.length co151]) (spec_PartOf.calls kj66 _ _ t372 _ _ t375 _ _ t378 t387 t390 _ ?side1 ?side2 ?side3 ?side4 ?side5 ?side6 A139.out) ?_;(case side1=>refine (Kd.S_reads' (e:=24) (base:=w.heap.size) (ok:=fun k_=>(((((True∧some k_ ≠ (.slice Ao13 t323.length co13:Value).ownBlock)∧some k_ ≠ (.slice Ao17 t328.length co17:Value).ownBlock)∧some k_ ≠ (.slice Ao22 t333.length co22:Value).ownBlock)∧some k_ ≠ (.slice Ao28 t338.length co28:Value).ownBlock)∧some k_ ≠ (.slice Ao154 t382.length co154:Value).ownBlock)) (n:=t372.length) (c:=co144) ?_).2.2;exact d32);(case side2=>exact (Kd.S_reads' HO374.out).2.1);(case side3=>refine (Kd.R_reads' (e:=3) (base:=w.heap.size) (ok:=fun k_=>some k_ ≠ (.slice Ao151 t378.length co151:Value).ownBlock) (n:=t375.length) (c:=co150) ?_).2.2;exact d83);(case side4=>exact (Kd.R_reads' HO377.out).2.1);(case side5=>refine (Kd.R_reads' (e:=3) (base:=w.heap.size) (ok:=fun k_=>some k_ ≠ (.slice Ao150 t375.length co150:Value).ownBlock) (n:=t378.length) (c:=co151) ?_).2.2;exact d81);(case side6=>exact (Kd.R_reads' HO380.out).2.1);rintro e w162 ⟨v388,rfl,ho0,hb⟩;refine ⟨_,rfl,?_⟩;replace HO377:=am (Kd.R_below d83 hb);replace HO380:=am (Kd.R_below d81 hb);have HO389:=am (Kd.S_lower (Kd.S_new' (Kd.S_new' (Kd.S_new' (Kd.S_new' (Kd.S_new' (Kd.S_new' ho0 (Kd.S_lt d63)) (Kd.S_lt d61)) (Kd.S_lt d59)) (Kd.S_lt d57)) (Kd.S_lt d32)) (Kd.S_lt d79)) (pz (yW HB)));replace HO_328000:=am (Kd.S_elder' d63 (Kd.S_base ho0) hb);replace HO_333000:=am (Kd.S_elder' d61 (Kd.S_base ho0) hb);replace HO_338000:=am (Kd.S_elder' d59 (Kd.S_base ho0) hb);replace HO_343000:=am (Kd.S_elder' d57 (Kd.S_base ho0) hb);replace HO374:=am (Kd.S_elder' d32 (Kd.S_base ho0) hb);replace HO384:=am (Kd.S_elder' d79 (Kd.S_base ho0) hb);replace BK327:=am (qb (g:=gb327) (o:=.cells #[.slice Ao13 t323.length co13] 27 (0,0)) (yF BK327) hb);replace BK332:=am (qb (g:=gb332) (o:=.cells #[.slice Ao17 t328.length co17] 27 (0,0)) (yF BK332) hb);replace BK337:=am (qb (g:=gb337) (o:=.cells #[.slice Ao22 t333.length co22] 27 (0,0)) (yF BK337) hb);replace BK342:=am (qb (g:=gb342) (o:=.cells #[.slice Ao28 t338.length co28] 27 (0,0)) (yF BK342) hb);replace BK381:=am (qb (g:=gb381) (o:=.cells #[.slice Ao144 t372.length co144] 27 (0,0)) (yF BK381) hb);replace BK386:=am (qb (g:=gb386) (o:=.cells #[.slice Ao154 t382.length co154] 27 (0,0)) (by refine sB ?_;refine blk_put (cs:=#[.slice none 0 0]) ?_ 0 _ rfl;exact yB BK386) hb);replace HB:=yH HB hb;clear hb ho0)|((with_reducible refine gD 29 ?_);refine gB (cs:=#[.slice none 0 0]) 27 ?_;intro gb391 hg w163 hbox hb;replace HO_328000:=bS HO_328000 hb;replace HO_333000:=bS HO_333000 hb;replace HO_338000:=bS HO_338000 hb;replace HO_343000:=bS HO_343000 hb;replace HO374:=bS HO374 hb;replace HO377:=bR HO377 hb;replace HO380:=bR HO380 hb;replace HO384:=bS HO384 hb;replace HO389:=bS HO389 hb;have BK391:=am (hbox);have GW391:=ye HB hg;replace HB:=yH HB hb;have NB327_391:=yl BK327 hg;have NB391_327:=yg BK327 hg;replace BK327:=yb BK327 hb;have NB332_391:=yl BK332 hg;have NB391_332:=yg BK332 hg;replace BK332:=yb BK332 hb;have NB337_391:=yl BK337 hg;have NB391_337:=yg BK337 hg;replace BK337:=yb BK337 hb;have NB342_391:=yl BK342 hg;have NB391_342:=yg BK342 hg;replace BK342:=yb BK342 hb;have NB381_391:=yl BK381 hg;have NB391_381:=yg BK381 hg;replace BK381:=yb BK381 hb;have NB386_391:=yl BK386 hg;have NB391_386:=yg BK386 hg;replace BK386:=yb BK386 hb;have GE391:=GW391;clear hb hbox hg;obtain ⟨Ao164,co164,eo164⟩:=Kd.S_slice HO389.out;subst eo164;have hnb165:=NB391_327.out;have hnc165:=NB327_391.out;have hnb166:=NB391_332.out;have hnc166:=NB332_391.out;have hnb167:=NB391_337.out;have hnc167:=NB337_391.out;have hnb168:=NB391_342.out;have hnc168:=NB342_391.out;have hnb169:=NB391_381.out;have hnc169:=NB381_391.out;have hnb170:=NB391_386.out;have hnc170:=NB386_391.out;obtain ⟨hcz171_0,hfz171_0⟩:=yk1 BK391;obtain ⟨hcz172_0,hfz172_0⟩:=yk1 BK386)|(go_at_call 35;(with_reducible refine (laws_sameMatrices.calls kj66 _ _ t382 _ _ t387 t392 _ (by refine (Kd.S_reads' (e:=24) (base:=w.heap.size) (ok:=fun k_=>((((((True∧some k_ ≠ (.slice Ao13 t323.length co13:Value).ownBlock)∧some k_ ≠ (.slice Ao17 t328.length co17:Value).ownBlock)∧some k_ ≠ (.slice Ao22 t333.length co22:Value).ownBlock)∧some k_ ≠ (.slice Ao28 t338.length co28:Value).ownBlock)∧some k_ ≠ (.slice Ao144 t372.length co144:Value).ownBlock)∧some k_ ≠ (.slice Ao164 t387.length co164:Value).ownBlock)) (n:=t382.length) (c:=co154) ?_).2.2;exact d77) (by exact (Kd.S_reads' HO384.out).2.1) (by refine (Kd.S_reads' (e:=24) (base:=w.heap.size) (ok:=fun k_=>((((((True∧some k_ ≠ (.slice Ao13 t323.length co13:Value).ownBlock)∧some k_ ≠ (.slice Ao17 t328.length co17:Value).ownBlock)∧some k_ ≠ (.slice Ao22 t333.length co22:Value).ownBlock)∧some k_ ≠ (.slice Ao28 t338.length co28:Value).ownBlock)∧some k_ ≠ (.slice Ao144 t372.length co144:Value).ownBlock)∧some k_ ≠ (.slice Ao154 t382.length co154:Value).ownBlock)) (n:=t387.length) (c:=co164) ?_).2.2;exact d76) (by exact (Kd.S_reads' HO389.out).2.1) A141.out).mono ?_);rintro e w173 ⟨rfl,hb⟩;replace HO_328000:=am (Kd.S_below (by refine sS ?_;exact (Kd.S_mono (Kd.S_far (p:=⟨gb391,0,none⟩) (Kd.S_types HO_328000.out BK391.out d9) (fun _ hk=>hk.2) (.slice Ao164 t387.length co164)) (fun _ h_=>h_.1))) hb);replace HO_333000:=am (Kd.S_below (by refine sS ?_;exact (Kd.S_mono (Kd.S_far (p:=⟨gb391,0,none⟩) (Kd.S_types HO_333000.out BK391.out d9) (fun _ hk=>hk.2) (.slice Ao164 t387.length co164)) (fun _ h_=>h_.1))) hb);replace HO_338000:=am (Kd.S_below (by refine sS ?_;exact (Kd.S_mono (Kd.S_far (p:=⟨gb391,0,none⟩) (Kd.S_types HO_338000.out BK391.out d9) (fun _ hk=>hk.2) (.slice Ao164 t387.length co164)) (fun _ h_=>h_.1))) hb);replace HO_343000:=am (Kd.S_below (by refine sS ?_;exact (Kd.S_mono (Kd.S_far (p:=⟨gb391,0,none⟩) (Kd.S_types HO_343000.out BK391.out d9) (fun _ hk=>hk.2) (.slice Ao164 t387.length co164)) (fun _ h_=>h_.1))) hb);replace HO374:=am (Kd.S_below (by refine sS ?_;exact (Kd.S_mono (Kd.S_far (p:=⟨gb391,0,none⟩) (Kd.S_types HO374.out BK391.out d9) (fun _ hk=>hk.2) (.slice Ao164 t387.length co164)) (fun _ h_=>h_.1))) hb);replace HO377:=am (Kd.R_below (by refine sR ?_;exact (Kd.R_mono (Kd.R_far (p:=⟨gb391,0,none⟩) (Kd.R_types HO377.out BK391.out d9) (fun _ hk=>hk.2) (.slice Ao164 t387.length co164)) (fun _ h_=>h_.1))) hb);replace HO380:=am (Kd.R_below (by refine sR ?_;exact (Kd.R_mono (Kd.R_far (p:=⟨gb391,0,none⟩) (Kd.R_types HO380.out BK391.out d9) (fun _ hk=>hk.2) (.slice Ao164 t387.length co164)) (fun _ h_=>h_.1))) hb);replace HO384:=am (Kd.S_below d77 hb);replace HO389:=am (Kd.S_below d76 hb);replace BK327:=am (qb (g:=gb327) (o:=.cells #[.slice Ao13 t323.length co13] 27 (0,0)) (yF BK327) hb);replace BK332:=am (qb (g:=gb332) (o:=.cells #[.slice Ao17 t328.length co17] 27 (0,0)) (yF BK332) hb);replace BK337:=am (qb (g:=gb337) (o:=.cells #[.slice Ao22 t333.length co22] 27 (0,0)) (yF BK337) hb);replace BK342:=am (qb (g:=gb342) (o:=.cells #[.slice Ao28 t338.length co28] 27 (0,0)) (yF BK342) hb);replace BK381:=am (qb (g:=gb381) (o:=.cells #[.slice Ao144 t372.length co144] 27 (0,0)) (yF BK381) hb);replace BK386:=am (qb (g:=gb386) (o:=.cells #[.slice Ao154 t382.length co154] 27 (0,0)) (yF BK386) hb);replace BK391:=am (qb (g:=gb391) (o:=.cells #[.slice Ao164 t387.length co164] 27 (0,0)) (by refine sB ?_;refine blk_put (cs:=#[.slice none 0 0]) ?_ 0 _ rfl;exact yB BK391) hb);replace HB:=yH HB hb;clear hb))
      go_ret
      exact ⟨d2,yW HB⟩
     rw [if_neg c140] at H
     have c140b0:(t385 == t390)=false:=by simpa using c140
     (try (have c140b1:decide (t385=t390)=false:=by simpa using c140))
     (try (have c140b2:(t385 == t390)=false:=by simpa using c140))
     (try (have c140b3:¬ (t385=t390):=by simpa using c140))
     clear c140
     obtain rfl:=Option.some.inj H
     go_wp2_with (first|((with_reducible refine gC 41 ?_);refine gM (some 146) Try.func41 (args:=#[.slice A1 l1.length c1]) (spec_DrawPartOf.calls kj66 _ _ l1 t372 t375 t378 _ (yc (Kd.C_below HR1.out HB.out)) HC1.out A137.out) ?_;rintro e w174 ⟨v373,v376,v379,rfl,ho0,ho1,ho2,hb⟩;refine ⟨_,rfl,?_⟩;have HO374:=am (Kd.S_lower (Kd.S_new' (Kd.S_new' (Kd.S_new' (Kd.S_new' ho0 (Kd.S_lt (yS HO_328000))) (Kd.S_lt (yS HO_333000))) (Kd.S_lt (yS HO_338000))) (Kd.S_lt (yS HO_343000))) (pz (yW HB)));replace HO_328000:=eS HO_328000 (Kd.S_base ho0) hb;replace HO_333000:=eS HO_333000 (Kd.S_base ho0) hb;replace HO_338000:=eS HO_338000 (Kd.S_base ho0) hb;replace HO_343000:=eS HO_343000 (Kd.S_base ho0) hb;have HO377:=am (Kd.R_lower ho1 (pz (yW HB)));have HO380:=am (Kd.R_lower ho2 (pz (yW HB)));replace BK327:=yb BK327 hb;replace BK332:=yb BK332 hb;replace BK337:=yb BK337 hb;replace BK342:=yb BK342 hb;replace HB:=yH HB hb;clear hb ho0 ho1 ho2)|((with_reducible refine gD 24 ?_);refine gB (cs:=#[.slice none 0 0]) 27 ?_;intro gb381 hg w175 hbox hb;replace HO_328000:=bS HO_328000 hb;replace HO_333000:=bS HO_333000 hb;replace HO_338000:=bS HO_338000 hb;replace HO_343000:=bS HO_343000 hb;replace HO374:=bS HO374 hb;replace HO377:=bR HO377 hb;replace HO380:=bR HO380 hb;have BK381:=am (hbox);have GW381:=ye HB hg;replace HB:=yH HB hb;have NB327_381:=yl BK327 hg;have NB381_327:=yg BK327 hg;replace BK327:=yb BK327 hb;have NB332_381:=yl BK332 hg;have NB381_332:=yg BK332 hg;replace BK332:=yb BK332 hb;have NB337_381:=yl BK337 hg;have NB381_337:=yg BK337 hg;replace BK337:=yb BK337 hb;have NB342_381:=yl BK342 hg;have NB381_342:=yg BK342 hg;replace BK342:=yb BK342 hb;have GE381:=GW381;clear hb hbox hg;obtain ⟨Ao176,co176,eo176⟩:=Kd.S_slice HO374.out;subst eo176;have hnb177:=NB381_327.out;have hnc177:=NB327_381.out;have hnb178:=NB381_332.out;have hnc178:=NB332_381.out;have hnb179:=NB381_337.out;have hnc179:=NB337_381.out;have hnb180:=NB381_342.out;have hnc180:=NB342_381.out;obtain ⟨hcz181_0,hfz181_0⟩:=yk1 BK381;obtain ⟨Ao182,co182,eo182⟩:=Kd.R_slice HO377.out;subst eo182;obtain ⟨Ao183,co183,eo183⟩:=Kd.R_slice HO380.out;subst eo183)|((with_reducible refine gC 38 ?_);refine gM (some 154) Try.func38 (args:=#[.agg #[.slice Ao176 t372.length co176], .slice Ao182 t375.length co182, .slice Ao183 t378.length co183]) (impl_PartOf.calls kj66 _ _ t372 _ _ t375 _ _ t378 t382 t385 _ ?side1 ?side2 ?side3 ?side4 ?side5 ?side6 A138.out) ?_;(case side1=>refine (Kd.S_reads' (e:=24) (base:=w.heap.size) (ok:=fun k_=>((((True∧some k_ ≠ (.slice Ao13 t323.length co13:Value).ownBlock)∧some k_ ≠ (.slice Ao17 t328.length co17:Value).ownBlock)∧some k_ ≠ (.slice Ao22 t333.length co22:Value).ownBlock)∧some k_ ≠ (.slice Ao28 t338.length co28:Value).ownBlock)) (n:=t372.length) (c:=co176) ?_).2.2;exact d33);(case side2=>exact (Kd.S_reads' HO374.out).2.1);(case side3=>refine (Kd.R_reads' (e:=3) (base:=w.heap.size) (ok:=fun k_=>some k_ ≠ (.slice Ao183 t378.length co183:Value).ownBlock) (n:=t375.length) (c:=co182) ?_).2.2;exact d86);(case side4=>exact (Kd.R_reads' HO377.out).2.1);(case side5=>refine (Kd.R_reads' (e:=3) (base:=w.heap.size) (ok:=fun k_=>some k_ ≠ (.slice Ao182 t375.length co182:Value).ownBlock) (n:=t378.length) (c:=co183) ?_).2.2;exact d84);(case side6=>exact (Kd.R_reads' HO380.out).2.1);rintro e w184 ⟨v383,rfl,ho0,hb⟩;refine ⟨_,rfl,?_⟩;replace HO377:=am (Kd.R_below d86 hb);replace HO380:=am (Kd.R_below d84 hb);have HO384:=am (Kd.S_lower (Kd.S_new' (Kd.S_new' (Kd.S_new' (Kd.S_new' (Kd.S_new' ho0 (Kd.S_lt d70)) (Kd.S_lt d68)) (Kd.S_lt d66)) (Kd.S_lt d64)) (Kd.S_lt d33)) (pz (yW HB)));replace HO_328000:=am (Kd.S_elder' d70 (Kd.S_base ho0) hb);replace HO_333000:=am (Kd.S_elder' d68 (Kd.S_base ho0) hb);replace HO_338000:=am (Kd.S_elder' d66 (Kd.S_base ho0) hb);replace HO_343000:=am (Kd.S_elder' d64 (Kd.S_base ho0) hb);replace HO374:=am (Kd.S_elder' d33 (Kd.S_base ho0) hb);replace BK327:=am (qb (g:=gb327) (o:=.cells #[.slice Ao13 t323.length co13] 27 (0,0)) (yF BK327) hb);replace BK332:=am (qb (g:=gb332) (o:=.cells #[.slice Ao17 t328.length co17] 27 (0,0)) (yF BK332) hb);replace BK337:=am (qb (g:=gb337) (o:=.cells #[.slice Ao22 t333.length co22] 27 (0,0)) (yF BK337) hb);replace BK342:=am (qb (g:=gb342) (o:=.cells #[.slice Ao28 t338.length co28] 27 (0,0)) (yF BK342) hb);replace BK381:=am (qb (g:=gb381) (o:=.cells #[.slice Ao176 t372.length co176] 27 (0,0)) (by refine sB ?_;refine blk_put (cs:=#[.slice none 0 0]) ?_ 0 _ rfl;exact yB BK381) hb);replace HB:=yH HB hb;clear hb ho0)|((with_reducible refine gD 27 ?_);refine gB (cs:=#[.slice none 0 0]) 27 ?_;intro gb386 hg w185 hbox hb;replace HO_328000:=bS HO_328000 hb;replace HO_333000:=bS HO_333000 hb;replace HO_338000:=bS HO_338000 hb;replace HO_343000:=bS HO_343000 hb;replace HO374:=bS HO374 hb;replace HO377:=bR HO377 hb;replace HO380:=bR HO380 hb;replace HO384:=bS HO384 hb;have BK386:=am (hbox);have GW386:=ye HB hg;replace HB:=yH HB hb;have NB327_386:=yl BK327 hg;have NB386_327:=yg BK327 hg;replace BK327:=yb BK327 hb;have NB332_386:=yl BK332 hg;have NB386_332:=yg BK332 hg;replace BK332:=yb BK332 hb;have NB337_386:=yl BK337 hg;have NB386_337:=yg BK337 hg;replace BK337:=yb BK337 hb;have NB342_386:=yl BK342 hg;have NB386_342:=yg BK342 hg;replace BK342:=yb BK342 hb;have NB381_386:=yl BK381 hg;have NB386_381:=yg BK381 hg;replace BK381:=yb BK381 hb;have GE386:=GW386;clear hb hbox hg;obtain ⟨Ao186,co186,eo186⟩:=Kd.S_slice HO384.out;subst eo186;have hnb187:=NB386_327.out;have hnc187:=NB327_386.out;have hnb188:=NB386_332.out;have hnc188:=NB332_386.out;have hnb189:=NB386_337.out;have hnc189:=NB337_386.out;have hnb190:=NB386_342.out;have hnc190:=NB342_386.out;have hnb191:=NB386_381.out;have hnc191:=NB381_386.out;obtain ⟨hcz192_0,hfz192_0⟩:=yk1 BK386;obtain ⟨hcz193_0,hfz193_0⟩:=yk1 BK381)|((with_reducible refine gC 42 ?_);refine gM (some 161) Try.func42 (args:=#[.agg #[.slice Ao176 t372.length co176], .slice Ao182 t375.length co182, .slice Ao183 t378.length co183]) (spec_PartOf.calls kj66 _ _ t372 _ _ t375 _ _ t378 t387 t390 _ ?side1 ?side2 ?side3 ?side4 ?side5 ?side6 A139.out) ?_;(case side1=>refine (Kd.S_reads' (e:=24) (base:=w.heap.size) (ok:=fun k_=>(((((True∧some k_ ≠ (.slice Ao13 t323.length co13:Value).ownBlock)∧some k_ ≠ (.slice Ao17 t328.length co17:Value).ownBlock)∧some k_ ≠ (.slice Ao22 t333.length co22:Value).ownBlock)∧some k_ ≠ (.slice Ao28 t338.length co28:Value).ownBlock)∧some k_ ≠ (.slice Ao186 t382.length co186:Value).ownBlock)) (n:=t372.length) (c:=co176) ?_).2.2;exact d31);(case side2=>exact (Kd.S_reads' HO374.out).2.1);(case side3=>refine (Kd.R_reads' (e:=3) (base:=w.heap.size) (ok:=fun k_=>some k_ ≠ (.slice Ao183 t378.length co183:Value).ownBlock) (n:=t375.length) (c:=co182) ?_).2.2;exact d82);(case side4=>exact (Kd.R_reads' HO377.out).2.1);(case side5=>refine (Kd.R_reads' (e:=3) (base:=w.heap.size) (ok:=fun k_=>some k_ ≠ (.slice Ao182 t375.length co182:Value).ownBlock) (n:=t378.length) (c:=co183) ?_).2.2;exact d80);(case side6=>exact (Kd.R_reads' HO380.out).2.1);rintro e w194 ⟨v388,rfl,ho0,hb⟩;refine ⟨_,rfl,?_⟩;replace HO377:=am (Kd.R_below d82 hb);replace HO380:=am (Kd.R_below d80 hb);have HO389:=am (Kd.S_lower (Kd.S_new' (Kd.S_new' (Kd.S_new' (Kd.S_new' (Kd.S_new' (Kd.S_new' ho0 (Kd.S_lt d62)) (Kd.S_lt d60)) (Kd.S_lt d58)) (Kd.S_lt d56)) (Kd.S_lt d31)) (Kd.S_lt d78)) (pz (yW HB)));replace HO_328000:=am (Kd.S_elder' d62 (Kd.S_base ho0) hb);replace HO_333000:=am (Kd.S_elder' d60 (Kd.S_base ho0) hb);replace HO_338000:=am (Kd.S_elder' d58 (Kd.S_base ho0) hb);replace HO_343000:=am (Kd.S_elder' d56 (Kd.S_base ho0) hb);replace HO374:=am (Kd.S_elder' d31 (Kd.S_base ho0) hb);replace HO384:=am (Kd.S_elder' d78 (Kd.S_base ho0) hb);replace BK327:=am (qb (g:=gb327) (o:=.cells #[.slice Ao13 t323.length co13] 27 (0,0)) (yF BK327) hb);replace BK332:=am (qb (g:=gb332) (o:=.cells #[.slice Ao17 t328.length co17] 27 (0,0)) (yF BK332) hb);replace BK337:=am (qb (g:=gb337) (o:=.cells #[.slice Ao22 t333.length co22] 27 (0,0)) (yF BK337) hb);replace BK342:=am (qb (g:=gb342) (o:=.cells #[.slice Ao28 t338.length co28] 27 (0,0)) (yF BK342) hb);replace BK381:=am (qb (g:=gb381) (o:=.cells #[.slice Ao176 t372.length co176] 27 (0,0)) (yF BK381) hb);replace BK386:=am (qb (g:=gb386) (o:=.cells #[.slice Ao186 t382.length co186] 27 (0,0)) (by refine sB ?_;refine blk_put (cs:=#[.slice none 0 0]) ?_ 0 _ rfl;exact yB BK386) hb);replace HB:=yH HB hb;clear hb ho0)|((with_reducible refine gD 29 ?_);refine gB (cs:=#[.slice none 0 0]) 27 ?_;intro gb391 hg w195 hbox hb;replace HO_328000:=bS HO_328000 hb;replace HO_333000:=bS HO_333000 hb;replace HO_338000:=bS HO_338000 hb;replace HO_343000:=bS HO_343000 hb;replace HO374:=bS HO374 hb;replace HO377:=bR HO377 hb;replace HO380:=bR HO380 hb;replace HO384:=bS HO384 hb;replace HO389:=bS HO389 hb;have BK391:=am (hbox);have GW391:=ye HB hg;replace HB:=yH HB hb;have NB327_391:=yl BK327 hg;have NB391_327:=yg BK327 hg;replace BK327:=yb BK327 hb;have NB332_391:=yl BK332 hg;have NB391_332:=yg BK332 hg;replace BK332:=yb BK332 hb;have NB337_391:=yl BK337 hg;have NB391_337:=yg BK337 hg;replace BK337:=yb BK337 hb;have NB342_391:=yl BK342 hg;have NB391_342:=yg BK342 hg;replace BK342:=yb BK342 hb;have NB381_391:=yl BK381 hg;have NB391_381:=yg BK381 hg;replace BK381:=yb BK381 hb;have NB386_391:=yl BK386 hg;have NB391_386:=yg BK386 hg;replace BK386:=yb BK386 hb;have GE391:=GW391;clear hb hbox hg;obtain ⟨Ao196,co196,eo196⟩:=Kd.S_slice HO389.out;subst eo196;have hnb197:=NB391_327.out;have hnc197:=NB327_391.out;have hnb198:=NB391_332.out;have hnc198:=NB332_391.out;have hnb199:=NB391_337.out;have hnc199:=NB337_391.out;have hnb200:=NB391_342.out;have hnc200:=NB342_391.out;have hnb201:=NB391_381.out;have hnc201:=NB381_391.out;have hnb202:=NB391_386.out;have hnc202:=NB386_391.out;obtain ⟨hcz203_0,hfz203_0⟩:=yk1 BK391))
     go_ret
     exact ⟨d2,yW HB⟩

/-- THE ONE PURE STATEMENT of laws_FnCauchy: yours. -/
def laws_FnCauchy.Pure:Prop:=∀ (l0:List Int) (l1:List Int),l0.length≤maxLen→l0.length*1≤140737488351232→(∀ x ∈ l0,(Lit.int .u8 x).wf=true)→l1.length≤maxLen→l1.length*1≤140737488351232→(∀ x ∈ l1,(Lit.int .u8 x).wf=true)→∃ k,laws_FnCauchy.f k l0 l1=some true
theorem laws_FnCauchy.walk (P:laws_FnCauchy.Pure) (a0:Option Addr) (len0 cap0:Nat) (z0:List Int) (a1:Option Addr) (len1 cap1:Nat) (z1:List Int) (w:World) (w0:(a0=none∧len0=0∧cap0=0∧z0=[])∨∃ x,a0=some x∧len0≤cap0∧cap0≤maxLen∧z0.length=cap0∧(∀ i,i < z0.length→w.cell? (x.add i)=some (.int .u8 (z0.getD i 0)))∧∀ n ∈ z0,(Lit.int .u8 n).wf=true) (y0:len0*1≤140737488351232) (w1:(a1=none∧len1=0∧cap1=0∧z1=[])∨∃ x,a1=some x∧len1≤cap1∧cap1≤maxLen∧z1.length=cap1∧(∀ i,i < z1.length→w.cell? (x.add i)=some (.int .u8 (z1.getD i 0)))∧∀ n ∈ z1,(Lit.int .u8 n).wf=true) (y1:len1*1≤140737488351232) :
  Calls Try.prog 6 #[.slice a0 len0 cap0, .slice a1 len1 cap1] w fun e w'=>e = .returned (.bool true)∧Below w.heap.size w w':=by
 obtain ⟨l0,rfl,hr0,hm0,hw0,hc0⟩:=ReadsInt.ofRowC w0
 obtain ⟨l1,rfl,hr1,hm1,hw1,hc1⟩:=ReadsInt.ofRowC w1
 obtain ⟨k,h⟩:=P l0 l1 hm0 y0 hw0 hm1 y1 hw1
 refine (laws_FnCauchy.calls k _ _ l0 _ _ l1 true w (Kd.C_of_reads (d:=(0:Int)) (h1:=fun _=>rfl) hr0) hc0 (Kd.C_of_reads (d:=(0:Int)) (h1:=fun _=>rfl) hr1) hc1 h).mono ?_
 rintro e w' ⟨rfl,hd⟩
 exact ⟨rfl,hd⟩
open Go.RowKit Go.Proofs.YteflgifmdojahaaW.PrintWords Go.Proofs.YteflgifmdojahaaW.PrintLast Go.Proofs.YteflgifmdojahaaW.PrintMore
end Go.Proofs.Yteflgifmdojahaa.PFnCauchy
-- SQUEEZED
