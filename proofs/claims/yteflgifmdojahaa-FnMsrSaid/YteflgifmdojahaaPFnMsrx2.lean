import Derived.Test.YteflgifmdojahaaVFnMsrB
import Derived.Test.YteflgifmdojahaaPFnMsrx0
import Derived.Test.YteflgifmdojahaaPFnMsrx1
namespace Go.Proofs.Yteflgifmdojahaa.PFnMsr
open Go.RowKit Go.Proofs.YteflgifmdojahaaW.PrintWords Go.Proofs.YteflgifmdojahaaW.PrintLast Go.Proofs.YteflgifmdojahaaW.PrintMore Go.Proofs.Yteflgifmdojahaa.KitS
attribute [local go_sem] max2_int min2_int max_two min_two max_three min_three max_four min_four
set_option linter.unusedVariables false
set_option maxHeartbeats 8000000
set_option maxRecDepth 100000
set_option linter.unusedSimpArgs false
mutual
def impl_product.l0:Nat→List (List Int)→List (List Int)→List (List Int)→Int→Int→Option ((List (List Int)))
 | 0,_,_,_,_,_=>none
 | k+1,x5,x6,x15,x16,x17=>if x17 < x16 then (if 0≤x17 then (if x17 < (x15.length:Int) then (impl_product.l1 k x5 x6 (rd_L3 x15 x17) (([]:List Int)) x15 x16 x17 x5 (x5.length:Int) 0) else (none)) else (none)) else (some x6)
def impl_product.l1:Nat→List (List Int)→List (List Int)→List Int→List Int→List (List Int)→Int→Int→List (List Int)→Int→Int→Option ((List (List Int)))
 | 0,_,_,_,_,_,_,_,_,_,_=>none
 | k+1,x5,x6,x8,x9,x15,x16,x17,x22,x23,x24=>if x24 < x23 then (if 0≤x24 then (if x24 < (x22.length:Int) then ((impl_dot.f k x8 (rd_L3 x22 x24)).bind fun t251=>(if x9.length < 140737488355328 then (impl_product.l1 k x5 x6 x8 (x9 ++ [t251]) x15 x16 x17 x22 x23 (wrap64 (x24+1))) else (none))) else (none)) else (none)) else (if x6.length < 5864062014805 then (impl_product.l0 k x5 (x6 ++ [x9]) x15 x16 (wrap64 (x17+1))) else (none))
end
def impl_product.f (k:Nat) (l0:List (List Int)) (l1:List (List Int)):Option ((List (List Int))):=(impl_transposed.f k l1).bind fun t240=>(impl_product.l0 k t240 (([]:List (List Int))) l0 (l0.length:Int) 0)
theorem impl_product.mono_l:∀ k,(∀ y0 y1 y2 y3 y4,LeO (impl_product.l0 k y0 y1 y2 y3 y4) (impl_product.l0 (k+1) y0 y1 y2 y3 y4))∧(∀ y0 y1 y2 y3 y4 y5 y6 y7 y8 y9,LeO (impl_product.l1 k y0 y1 y2 y3 y4 y5 y6 y7 y8 y9) (impl_product.l1 (k+1) y0 y1 y2 y3 y4 y5 y6 y7 y8 y9))
 | 0=>⟨fun _ _ _ _ _ r h=>by simp [impl_product.l0] at h,fun _ _ _ _ _ _ _ _ _ _ r h=>by simp [impl_product.l1] at h⟩
 | k+1=>by
  obtain ⟨ih0,ih1⟩:=impl_product.mono_l k
  refine ⟨?_,?_⟩
  ·intro y0 y1 y2 y3 y4
   unfold impl_product.l0
   exact mm
  intro y0 y1 y2 y3 y4 y5 y6 y7 y8 y9
  unfold impl_product.l1
  exact mm
theorem impl_product.mono:∀ a0 a1 k,LeO (impl_product.f k a0 a1) (impl_product.f (k+1) a0 a1):=by
 intro a0 a1 k
 obtain ⟨ih0,ih1⟩:=impl_product.mono_l k
 unfold impl_product.f
 exact mm
theorem impl_product.calls (k:Nat) (A0:Option Addr) (c0:Nat) (l0:List (List Int)) (A1:Option Addr) (c1:Nat) (l1:List (List Int)) (r:List (List Int)) (w:World) (hr0:Kd.C (Kd.slice 5 (Kd.int .u8)) w A0 l0.length l0) (hc0:l0.length≤c0) (hr1:Kd.C (Kd.slice 5 (Kd.int .u8)) w A1 l1.length l1) (hc1:l1.length≤c1) (h:impl_product.f k l0 l1=some r) :
  Calls Try.prog 65 #[.slice A0 l0.length c0, .slice A1 l1.length c1] w fun e w'=>∃ v0_:Value,e = .returned (v0_)∧Kd.S (Kd.slice 5 (Kd.int .u8)) 24 w' w.heap.size (fun _=>True) v0_ r∧Below w.heap.size w w':=by
 have HR0:=am hr0
 have HC0:=am hc0
 clear hr0 hc0
 have HR1:=am hr1
 have HC1:=am hc1
 clear hr1 hc1
 have HB:=am (Below.refl w.heap.size w)
 have H:=h
 unfold impl_product.f at H
 clear h
 obtain ⟨t240,A3,H⟩:=yo H
 generalize hy243:(([]:List (List Int)):List (List Int))=y243 at H
 have Ny243:=am hy243.symm
 clear hy243
 have H':=am H
 clear H
 go_enter Try.func65,Try.ntmps65
 go_wp2_with (first|((with_reducible refine gC 127 ?_);refine gM (some 13) Try.func127 (args:=#[.slice A1 l1.length c1]) (impl_transposed.calls k _ _ l1 t240 _ (yc HR1.out) HC1.out A3.out) ?_;rintro e w4 ⟨v241,rfl,ho0,hb⟩;refine ⟨_,rfl,?_⟩;have HO242:=am (Kd.S_lower ho0 (pz (yW HB)));replace HB:=yH HB hb;clear hb ho0)|((with_reducible refine gD 14 ?_);refine Kd.S_lit (Kd.slice 5 (Kd.int .u8)) _ 24 D15 (N:=14) D15 (xs:=([]:List (List Int))) (inner:=[]) (ok:=fun _=>True) (okp:=fun _=>True) D33 D51 (fun _ hk=>hk) trivial (Below.refl _ _) (Nat.le_refl _) D43 ?_;intro v244 w5 ho6 hb hg_ hnew_;clear hg_ hnew_;(first|rw [← Ny243.out] at ho6|(simp only [Int.reduceToNat] at ho6;rw [← Ny243.out] at ho6));have HO245:=am (Kd.S_lower (Kd.S_new' ho6 (Kd.S_lt (yS HO242))) (pz (yW HB)));replace HO242:=eS HO242 (Kd.S_base ho6) hb;replace HB:=yH HB hb;clear hb ho6))
 go_loopg [6,17] k (fun kq v6 v17 w'=>∃ (x6_1:List (List Int)) (x17_1:Int),v17 = .int .i64 x17_1∧Aside0 (impl_product.l0 kq t240 x6_1 l0 (l0.length:Int) x17_1=some r)∧Aside0 (kq≤k)∧Aside0 (Kd.S (Kd.slice 5 (Kd.int .u8)) 24 w' w.heap.size (fun k_=>some k_ ≠ (v6:Value).ownBlock) v241 t240)∧Aside0 (Kd.S (Kd.slice 5 (Kd.int .u8)) 24 w' w.heap.size (fun k_=>some k_ ≠ (v241:Value).ownBlock) v6 x6_1)∧Aside0 (Below w.heap.size w w'))
 case atStart=>exact ⟨(y243),(0),D1,H',⟨Nat.le_refl _⟩,⟨by refine sS ?_;exact Kd.S_mono HO242.out (fun _ hk=>hk.2)⟩,⟨by refine sS ?_;exact Kd.S_mono HO245.out (fun _ hk=>hk.2)⟩,⟨yW HB⟩⟩
 case round =>
  clear H'
  try clear c1
  try clear p2
  try clear c6
  obtain ⟨x6_1,x17_1,rfl,HA,HK1,HO_5,HO_6,HB⟩:=hrel
  cases gk with
  | zero=>exact absurd HA.out (by simp [impl_product.l0])
  | succ k1 =>
   have H:=HA.out
   clear HA
   simp only [impl_product.l0] at H
   by_cases c7:x17_1 < (l0.length:Int)
   ·rw [if_pos c7] at H
    have c7b0:=decide_eq_true c7
    clear c7
    obtain ⟨c8,H⟩:=yi H
    have c8b0:=decide_eq_true c8
    clear c8
    obtain ⟨c9,H⟩:=yi H
    have c9b0:=decide_eq_true c9
    clear c9
    generalize hy247:(([]:List Int):List Int)=y247 at H
    have Ny247:=am hy247.symm
    clear hy247
    have H':=am H
    clear H
    have p246:0≤(x17_1:Int):=od D0
    have q246:x17_1 < (l0.length:Int):=od D0
    obtain ⟨ad246,A246_0,c246_0,e246,hx246_0,hl246_0,hi246_0⟩:=at_L3 HR0.out x17_1 p246 q246
    cases e246
    replace hx246_0:=(HB.out.cell (World.block_lt_of_cell? w _ hx246_0)).trans hx246_0
    have HR246_0:=am hi246_0
    have HC246_0:=am hl246_0
    clear hi246_0 hl246_0
    replace p246:=eq_true p246
    replace q246:=eq_true q246
    go_wp2_with (first|((with_reducible refine gD 21 ?_);refine Kd.R_lit (Kd.int .u8) _ 5 D15 (N:=21) D15 (xs:=([]:List Int)) (inner:=[]) (ok:=fun _=>True) (okp:=fun _=>True) D33 D51 (fun _ hk=>hk) trivial (Below.refl _ _) (Nat.le_refl _) D43 ?_;intro v248 w10 ho11 hb hg_ hnew_;clear hg_ hnew_;(first|rw [← Ny247.out] at ho11|(simp only [Int.reduceToNat] at ho11;rw [← Ny247.out] at ho11));replace HO_5:=eS HO_5 (Kd.R_base ho11) hb;replace HO_6:=eS HO_6 (Kd.R_base ho11) hb;have HO249:=am (Kd.R_lower ho11 (pz (yW HB)));replace HB:=yH HB hb;clear hb ho11;obtain ⟨Ao12,co12,eo12⟩:=Kd.S_slice HO_5.out;subst eo12))
    go_loopg [9,24] k1 (fun kq v9 v24 w'=>∃ (x9_2:List Int) (x24_2:Int),v24 = .int .i64 x24_2∧Aside0 (impl_product.l1 kq t240 x6_1 (rd_L3 l0 x17_1) x9_2 l0 (l0.length:Int) x17_1 t240 (t240.length:Int) x24_2=some r)∧Aside0 (kq≤k1)∧Aside0 (Kd.S (Kd.slice 5 (Kd.int .u8)) 24 w' w.heap.size (fun k_=>some k_ ≠ (u6:Value).ownBlock∧some k_ ≠ (v9:Value).ownBlock) (.slice Ao12 t240.length co12) t240)∧Aside0 (Kd.S (Kd.slice 5 (Kd.int .u8)) 24 w' w.heap.size (fun k_=>some k_ ≠ ((.slice Ao12 t240.length co12):Value).ownBlock∧some k_ ≠ (v9:Value).ownBlock∧some k_ ≠ ((.slice Ao12 t240.length co12):Value).ownBlock) u6 x6_1)∧Aside0 (Kd.R (Kd.int .u8) 5 w' w.heap.size (fun _=>True) v9 x9_2)∧Aside0 (Kd.S (Kd.slice 5 (Kd.int .u8)) 24 w' w.heap.size (fun k_=>some k_ ≠ (u6:Value).ownBlock∧some k_ ≠ (v9:Value).ownBlock) (.slice Ao12 t240.length co12) t240)∧Aside0 (Below w.heap.size w w'))
    case atStart=>exact ⟨(y247),(0),D1,H',⟨Nat.le_refl _⟩,⟨yS HO_5⟩,⟨by refine sS ?_;exact Kd.S_mono HO_6.out (fun _ hk=>⟨hk.1,⟨hk.2,hk.1⟩⟩)⟩,⟨yR HO249⟩,⟨yS HO_5⟩,⟨yW HB⟩⟩
    case round =>
     clear H'
     try clear c1
     try clear c2
     try clear p2
     try clear q2
     try clear hx2
     try clear c6
     try clear c7
     try clear c7b0
     try clear c8
     try clear c8b0
     try clear c9
     try clear c9b0
     try clear c12
     try clear hx246_0
     try clear p2
     try clear p246
     try clear q246
     obtain ⟨x9_2,x24_2,rfl,HA,HK2,HO_5,HO_6,HO_9,HO_22,HB⟩:=hrel
     cases gk with
     | zero=>exact absurd HA.out (by simp [impl_product.l1])
     | succ k2 =>
      have H:=HA.out
      clear HA
      simp only [impl_product.l1] at H
      by_cases c13:x24_2 < (t240.length:Int)
      ·rw [if_pos c13] at H
       have c13b0:=decide_eq_true c13
       clear c13
       obtain ⟨c14,H⟩:=yi H
       have c14b0:=decide_eq_true c14
       clear c14
       obtain ⟨c15,H⟩:=yi H
       have c15b0:=decide_eq_true c15
       clear c15
       obtain ⟨t251,A16,H⟩:=yo H
       obtain ⟨c17,H⟩:=yi H
       have LMc17:=am c17
       clear c17
       generalize hy252:(x9_2 ++ [t251]:List Int)=y252 at H
       have Ny252:=am hy252.symm
       clear hy252
       have H':=am H
       clear H
       have p250:0≤(x24_2:Int):=od D0
       have q250:x24_2 < (t240.length:Int):=od D0
       obtain ⟨ad250,A250_0,c250_0,e250,hx250_0,hl250_0,hi250_0⟩:=at_L3 (Kd.S_reads' HO_22.out).2.2 x24_2 p250 q250
       cases e250
       obtain ⟨ce250,hce250,hMe250,hcc250⟩:=Kd.S_get HO_22.out [] x24_2 p250 (by first|exact q250|exact od D0|(have e_:=(Kd.S_reads' HO_22.out).1;omega))
       obtain ⟨ve250_0,rfl,ge250_0⟩:=hMe250
       have hv250_0:=hcc250 0 _ rfl
       rw [Nat.add_zero,show ((Kd.slice 5 (Kd.int .u8))).sz=1 from rfl,Nat.mul_one] at hv250_0
       replace hv250_0:=Option.some.inj (hv250_0.symm.trans hx250_0)
       rw [hv250_0] at ge250_0
       have HL250_0:=am (show Kd.R (Kd.int .u8) 5 _ _ _ _ (rd_L3 t240 x24_2) from ge250_0)
       clear hv250_0 ge250_0
       clear hcc250 hce250
       have HR250_0:=am hi250_0
       have HC250_0:=am hl250_0
       clear hi250_0 hl250_0
       replace p250:=eq_true p250
       replace q250:=eq_true q250
       go_wp2_with (first|((with_reducible refine gC 117 ?_);refine gM (some 31) Try.func117 (args:=#[.slice A246_0 (rd_L3 l0 x17_1).length c246_0, .slice A250_0 (rd_L3 t240 x24_2).length c250_0]) (impl_dot.calls k2 _ _ (rd_L3 l0 x17_1) _ _ (rd_L3 t240 x24_2) t251 _ ?side1 ?side2 ?side3 ?side4 A16.out) ?_;(case side1=>repeat (first|exact (Kd.C_below HR246_0.out HB.out)|(with_reducible refine Kd.C_alloc ?_ _)|(with_reducible refine Kd.C_drewN ?_ _)|(with_reducible refine Kd.C_drew ?_)));(case side2=>exact HC246_0.out);(case side3=>repeat (first|exact (by repeat (first|(with_reducible exact HR250_0.out)|(with_reducible refine Kd.C_alloc ?_ _)|(with_reducible refine Kd.C_drewN ?_ _)|(with_reducible refine Kd.C_drew ?_)|exact HR250_0.out))|(with_reducible refine Kd.C_alloc ?_ _)|(with_reducible refine Kd.C_drewN ?_ _)|(with_reducible refine Kd.C_drew ?_)));(case side4=>exact HC250_0.out);rintro e w' ⟨rfl,⟨nd,rfl⟩⟩;refine ⟨_,rfl,?_⟩)|((with_reducible refine gate_builtin (b:=.append) (xs:=#[.tmp 28, .tmp 32]) rfl ?_);at_builtin;refine Kd.R_append (Kd.int .u8) (w0:=w) w.heap.size rfl (.tmp 28) (.tmp 32) 24 5 (.int .u8 0) 1 rfl Try.underlying24 info5 rfl D8 D11 u9 x9_2 t251 [.int .u8 t251] (fun _=>True) (fun _=>False) rfl rfl D79 (fun _ hk=>hk.elim) D41 (by exact (yR HO_9)) D55 D47 (by have:=LMc17.out;omega) ?_;intro v253 w18 ho hb hg hat;rw [← Ny252.out] at ho;have n0_:=am (Kd.S_after (ok:=(fun k_=>some k_ ≠ (u6:Value).ownBlock)) (yS HO_5) hg hat);have n1_:=am (Kd.S_after (ok:=(fun k_=>some k_ ≠ (.slice (some ad250) t240.length co12:Value).ownBlock∧some k_ ≠ (.slice (some ad250) t240.length co12:Value).ownBlock)) (by refine sS ?_;exact Kd.S_mono HO_6.out (fun _ hk=>⟨⟨hk.1,hk.2.2⟩,hk.2.1⟩)) hg hat);have n2_:=am (Kd.S_after (ok:=(fun k_=>some k_ ≠ (u6:Value).ownBlock)) (yS HO_22) hg hat);have n3_:=am (Kd.R_after (ok:=(fun k_=>some k_ ≠ (u6:Value).ownBlock∧some k_ ≠ (.slice (some ad250) t240.length co12:Value).ownBlock)) (by refine sR ?_;exact Kd.R_mono HL250_0.out (fun _ hk=>⟨⟨hk.1.1,hk.2⟩,hk.1.2⟩)) hg hat);have n4_:=am (hb);have n5_:=am (ho);clear HO_5 HO_6 HO_22 HL250_0 HB HO_9;have HO_5:=n0_;have HO_6:=n1_;have HO_22:=n2_;have HL250_0:=n3_;have HB:=n4_;have HO254:=n5_;clear n0_ n1_ n2_ n3_ n4_ n5_ ho hb hg hat))
       go_roundg k2
       case measure=>have:=HK1.out;have:=HK2.out;omega
       case rel=>exact ⟨(y252),(wrap64 (x24_2+1)),D1,H',⟨D78⟩,⟨yS HO_5⟩,⟨by refine sS ?_;exact Kd.S_mono HO_6.out (fun _ hk=>⟨hk.1.1,⟨hk.2,hk.1.2⟩⟩)⟩,⟨yR HO254⟩,⟨yS HO_22⟩,⟨yW HB⟩⟩
      rw [if_neg c13] at H
      have c13b0:=decide_eq_false c13
      clear c13
      obtain ⟨c19,H⟩:=yi H
      have LMc19:=am c19
      clear c19
      generalize hy255:(x6_1 ++ [x9_2]:List (List Int))=y255 at H
      have Ny255:=am hy255.symm
      clear hy255
      have H':=am H
      clear H
      obtain ⟨Ao21,co21,eo21⟩:=Kd.R_slice HO_9.out
      subst eo21
      go_wp2_with (first|((with_reducible refine gate_builtin (b:=.append) (xs:=#[.tmp 35, .tmp 37]) rfl ?_);at_builtin;refine Kd.S_append (Kd.slice 5 (Kd.int .u8)) (w0:=w) w.heap.size rfl (.tmp 35) (.tmp 37) 25 24 (.slice none 0 0) 24 rfl Try.underlying25 info24 rfl D8 D11 u6 x6_1 x9_2 [.slice Ao21 x9_2.length co21] (fun k_=>some k_ ≠ (.slice Ao12 t240.length co12:Value).ownBlock∧some k_ ≠ (.slice Ao12 t240.length co12:Value).ownBlock) (fun k_=>some k_=(.slice Ao21 x9_2.length co21:Value).ownBlock) rfl rfl (by exact Kd.M_row (Kd.R_mono (Kd.R_tight rfl (Kd.R_mono (ok':=fun k_=>((fun k_=>some k_ ≠ (.slice Ao12 t240.length co12:Value).ownBlock∧some k_ ≠ (.slice Ao12 t240.length co12:Value).ownBlock)) k_∧some k_ ≠ (u6:Value).ownBlock) (Kd.R_apart' (Kd.R_apart' (Kd.R_apart' (HO_9.out) (Kd.S_typed HO_5.out) D8) (Kd.S_typed HO_22.out) D8) (Kd.S_typed HO_6.out) D8) (fun k_ hk=>⟨⟨hk.1.1.2,hk.1.2⟩,hk.2⟩))) (fun _ h_=>h_))) (fun k_ hk_=>((Kd.R_mono (ok':=fun k_=>((fun k_=>some k_ ≠ (.slice Ao12 t240.length co12:Value).ownBlock∧some k_ ≠ (.slice Ao12 t240.length co12:Value).ownBlock)) k_∧some k_ ≠ (u6:Value).ownBlock) (Kd.R_apart' (Kd.R_apart' (Kd.R_apart' (HO_9.out) (Kd.S_typed HO_5.out) D8) (Kd.S_typed HO_22.out) D8) (Kd.S_typed HO_6.out) D8) (fun k_ hk=>⟨⟨hk.1.1.2,hk.1.2⟩,hk.2⟩))).1 k_ hk_.symm) (by exact (fun k_ hk=>⟨Kd.fresh' (Kd.S_lt (yS HO_5)) k_ hk,Kd.fresh' (Kd.S_lt (yS HO_22)) k_ hk⟩)) (by exact (by refine sS ?_;exact Kd.S_mono HO_6.out (fun k_ hk=>⟨⟨hk.1,hk.2.2⟩,fun e_=>hk.2.1 e_⟩))) D55 D47 (by have:=LMc19.out;omega) ?_;intro v256 w20 ho hb hg hat;rw [← Ny255.out] at ho;have n0_:=am (Kd.S_after (ok:=(fun k_=>some k_ ≠ (.slice Ao21 x9_2.length co21:Value).ownBlock)) (by refine sS ?_;exact Kd.S_mono HO_5.out (fun _ hk=>⟨hk.2,hk.1⟩)) hg hat);have n1_:=am (Kd.S_after (ok:=(fun k_=>some k_ ≠ (.slice Ao21 x9_2.length co21:Value).ownBlock)) (by refine sS ?_;exact Kd.S_mono HO_22.out (fun _ hk=>⟨hk.2,hk.1⟩)) hg hat);have n2_:=am (hb);have n3_:=am (ho);clear HO_5 HO_22 HB HO_6 HO_9;have HO_5:=n0_;have HO_22:=n1_;have HB:=n2_;have HO257:=n3_;clear n0_ n1_ n2_ n3_ ho hb hg hat))
      go_roundg k2
      case measure=>have:=HK1.out;have:=HK2.out;omega
      case rel=>exact ⟨(y255),(wrap64 (x17_1+1)),D1,H',⟨D78⟩,⟨by refine sS ?_;exact Kd.S_mono HO_5.out (fun _ hk=>hk.2)⟩,⟨by refine sS ?_;exact Kd.S_mono HO257.out (fun _ hk=>hk.1)⟩,⟨yW HB⟩⟩
   rw [if_neg c7] at H
   have c7b0:=decide_eq_false c7
   clear c7
   obtain rfl:=Option.some.inj H
   go_wp2
   go_ret
   exact ⟨_,D2,by refine sS ?_;exact Kd.S_mono HO_6.out (fun _ hk=>trivial),yW HB⟩

def impl_Msr_powers.l0:Nat→Int→List Int→Int→Int→Int→Int→Option (List Int × Int)
 | 0,_,_,_,_,_,_=>none
 | k+1,x6,x7,x14,x15,x259000,x259001=>if x15 < x14 then ((impl_power.f k x6 x15).bind fun t264=>(if x7.length < 140737488355328 then (impl_Msr_powers.l0 k x6 (x7 ++ [t264]) x14 (wrap64 (x15+1)) x259000 x259001) else (none))) else ((impl_Msr_alpha.f x259000 x259001).bind fun t268=>((impl_power.f k x6 t268).bind fun t269=>(some (x7,t269))))
def impl_Msr_powers.f (k:Nat) (a0_0:Int) (a0_1:Int) (a1:Int):Option (List Int × Int):=(impl_power.f k 3 (wrap64 (a1+1))).bind fun t259=>((impl_Msr_alpha.f a0_0 a0_1).bind fun t263=>(impl_Msr_powers.l0 k t259 (([]:List Int)) t263 0 a0_0 a0_1))
theorem impl_Msr_powers.mono_l:∀ k,(∀ y0 y1 y2 y3 y4 y5,LeO (impl_Msr_powers.l0 k y0 y1 y2 y3 y4 y5) (impl_Msr_powers.l0 (k+1) y0 y1 y2 y3 y4 y5))
 | 0=>fun _ _ _ _ _ _ r h=>by simp [impl_Msr_powers.l0] at h
 | k+1=>by
  have ih0:=impl_Msr_powers.mono_l k
  intro y0 y1 y2 y3 y4 y5
  unfold impl_Msr_powers.l0
  exact mm
theorem impl_Msr_powers.mono:∀ a0 a1 a2 k,LeO (impl_Msr_powers.f k a0 a1 a2) (impl_Msr_powers.f (k+1) a0 a1 a2):=by
 intro a0 a1 a2 k
 have ih0:=impl_Msr_powers.mono_l k
 unfold impl_Msr_powers.f
 exact mm
theorem impl_Msr_powers.calls (k:Nat) (a0_0:Int) (a0_1:Int) (a1:Int) (r1:List Int) (r2:Int) (w:World) (h:impl_Msr_powers.f k a0_0 a0_1 a1=some (r1,r2)) :
  Calls Try.prog 116 #[.agg #[.int .i64 a0_0, .int .i64 a0_1], .int .i64 a1] w fun e w'=>∃ v0_:Value,e = .returned (.tuple #[v0_, .int .u8 r2])∧Kd.R (Kd.int .u8) 5 w' w.heap.size (fun _=>True) v0_ r1∧Below w.heap.size w w':=by
 have hu30:=Try.underlying30
 have HB:=am (Below.refl w.heap.size w)
 have H:=h
 unfold impl_Msr_powers.f at H
 clear h
 obtain ⟨t259,A3,H⟩:=yo H
 generalize hy260:(([]:List Int):List Int)=y260 at H
 have Ny260:=am hy260.symm
 clear hy260
 obtain ⟨t263,A4,H⟩:=yo H
 have H':=am H
 clear H
 go_enter Try.func116,Try.ntmps116
 go_wp2_with (first|((with_reducible refine gD 2 ?_);refine gB (cs:=#[.int .i64 a0_0, .int .i64 a0_1]) 30 ?_;intro gb258 hg w5 hbox hb;have BK258:=am (hbox);have GW258:=ye HB hg;replace HB:=yH HB hb;have GE258:=GW258;clear hb hbox hg)|((with_reducible refine gC 88 ?_);refine gM (some 11) Try.func88 (args:=#[.int .u8 3, .int .i64 (wrap64 (a1+1))]) (impl_power.calls k 3 (wrap64 (a1+1)) t259 _ A3.out) ?_;rintro e w' ⟨rfl,⟨nd,rfl⟩⟩;refine ⟨_,rfl,?_⟩)|((with_reducible refine gD 12 ?_);refine Kd.R_lit (Kd.int .u8) _ 5 D15 (N:=12) D15 (xs:=([]:List Int)) (inner:=[]) (ok:=fun _=>True) (okp:=fun _=>True) D33 D51 (fun _ hk=>hk) trivial (Below.refl _ _) (Nat.le_refl _) D43 ?_;intro v261 w6 ho7 hb hg_ hnew_;clear hg_ hnew_;(first|rw [← Ny260.out] at ho7|(simp only [Int.reduceToNat] at ho7;rw [← Ny260.out] at ho7));have HO262:=am (Kd.R_lower ho7 (pz (yW HB)));replace BK258:=yb BK258 hb;replace HB:=yH HB hb;clear hb ho7;obtain ⟨hcz8_0,hcz8_1,hfz8_0,hfz8_1⟩:=yk2 BK258)|((with_reducible refine gC 103 ?_);refine gM (some 14) Try.func103 (args:=#[.agg #[.int .i64 a0_0, .int .i64 a0_1]]) (impl_Msr_alpha.calls a0_0 a0_1 t263 _ A4.out) ?_;rintro e w9 ⟨rfl,hb⟩;refine ⟨_,rfl,?_⟩;replace HO262:=bR HO262 hb;replace BK258:=yb BK258 hb;replace HB:=yH HB hb;clear hb))
 go_loopg [7,15] k (fun kq v7 v15 w'=>∃ (x7_1:List Int) (x15_1:Int),v15 = .int .i64 x15_1∧Aside0 (impl_Msr_powers.l0 kq t259 x7_1 t263 x15_1 a0_0 a0_1=some (r1,r2))∧Aside0 (kq≤k)∧Aside0 (Kd.R (Kd.int .u8) 5 w' w.heap.size (fun _=>True) v7 x7_1)∧Aside0 (w'.heap[gb258]? = some (.cells #[.int .i64 a0_0, .int .i64 a0_1] 30 (0,0)))∧Aside0 (Below w.heap.size w w'))
 case atStart=>exact ⟨(y260),(0),D1,H',⟨Nat.le_refl _⟩,⟨yR HO262⟩,⟨yB BK258⟩,⟨yW HB⟩⟩
 case round =>
  clear H'
  try clear c1
  try clear p2
  try clear p6
  try clear c8
  try clear hcz8_0
  try clear hcz8_1
  try clear hfz8_0
  try clear hfz8_1
  obtain ⟨x7_1,x15_1,rfl,HA,HK1,HO_7,BK258,HB⟩:=hrel
  cases gk with
  | zero=>exact absurd HA.out (by simp [impl_Msr_powers.l0])
  | succ k1 =>
   have H:=HA.out
   clear HA
   simp only [impl_Msr_powers.l0] at H
   by_cases c10:x15_1 < t263
   ·rw [if_pos c10] at H
    have c10b0:=decide_eq_true c10
    clear c10
    obtain ⟨t264,A11,H⟩:=yo H
    obtain ⟨c12,H⟩:=yi H
    have LMc12:=am c12
    clear c12
    generalize hy265:(x7_1 ++ [t264]:List Int)=y265 at H
    have Ny265:=am hy265.symm
    clear hy265
    have H':=am H
    clear H
    go_wp2_with (first|((with_reducible refine gC 88 ?_);refine gM (some 21) Try.func88 (args:=#[.int .u8 t259, .int .i64 x15_1]) (impl_power.calls k1 t259 x15_1 t264 _ A11.out) ?_;rintro e w' ⟨rfl,⟨nd,rfl⟩⟩;refine ⟨_,rfl,?_⟩)|((with_reducible refine gate_builtin (b:=.append) (xs:=#[.tmp 18, .tmp 22]) rfl ?_);at_builtin;refine Kd.R_append (Kd.int .u8) (w0:=w) w.heap.size rfl (.tmp 18) (.tmp 22) 24 5 (.int .u8 0) 1 rfl Try.underlying24 info5 rfl D8 D11 u7 x7_1 t264 [.int .u8 t264] (fun _=>True) (fun _=>False) rfl rfl D79 (fun _ hk=>hk.elim) D41 (by exact (yR HO_7)) D55 D47 (by have:=LMc12.out;omega) ?_;intro v266 w13 ho hb hg hat;rw [← Ny265.out] at ho;have n0_:=am (blk_grown (g:=gb258) (o:=.cells #[.int .i64 a0_0, .int .i64 a0_1] 30 (0,0)) (yB BK258) hg (Kd.R_ne HO_7.out BK258.out D8));have n1_:=am (hb);have n2_:=am (ho);clear BK258 HB HO_7;have BK258:=n0_;have HB:=n1_;have HO267:=n2_;clear n0_ n1_ n2_ ho hb hg hat))
    go_roundg k1
    case measure=>have:=HK1.out;omega
    case rel=>exact ⟨(y265),(wrap64 (x15_1+1)),D1,H',⟨D34⟩,⟨yR HO267⟩,⟨yB BK258⟩,⟨yW HB⟩⟩
   rw [if_neg c10] at H
   have c10b0:=decide_eq_false c10
   clear c10
   obtain ⟨t268,A14,H⟩:=yo H
   obtain ⟨t269,A15,H⟩:=yo H
   simp only [Option.some.injEq,Prod.mk.injEq] at H
   obtain ⟨rfl,rfl⟩:=H
   obtain ⟨hcz16_0,hcz16_1,hfz16_0,hfz16_1⟩:=yk2 BK258
   go_wp2_with (first|((with_reducible refine gC 103 ?_);refine gM (some 28) Try.func103 (args:=#[.agg #[.int .i64 a0_0, .int .i64 a0_1]]) (impl_Msr_alpha.calls a0_0 a0_1 t268 _ A14.out) ?_;rintro e w17 ⟨rfl,hb⟩;refine ⟨_,rfl,?_⟩;replace HO_7:=bR HO_7 hb;replace BK258:=yb BK258 hb;replace HB:=yH HB hb;clear hb)|((with_reducible refine gC 88 ?_);refine gM (some 29) Try.func88 (args:=#[.int .u8 t259, .int .i64 t268]) (impl_power.calls k1 t259 t268 t269 _ A15.out) ?_;rintro e w' ⟨rfl,⟨nd,rfl⟩⟩;refine ⟨_,rfl,?_⟩))
   go_ret2
   exact ⟨_,D2,yR HO_7,yW HB⟩

def impl_scaled.l0:Nat→Int→List Int→List Int→Int→Int→Option (List Int)
 | 0,_,_,_,_,_=>none
 | k+1,x0,x5,x9,x10,x11=>if x11 < x10 then (if 0≤x11 then (if x11 < (x9.length:Int) then ((impl_Times.f k x0 (rd x9 x11)).bind fun t274=>(if x5.length < 140737488355328 then (impl_scaled.l0 k x0 (x5 ++ [t274]) x9 x10 (wrap64 (x11+1))) else (none))) else (none)) else (none)) else (some x5)
def impl_scaled.f (k:Nat) (a0:Int) (l1:List Int):Option (List Int):=impl_scaled.l0 k a0 (([]:List Int)) l1 (l1.length:Int) 0
theorem impl_scaled.mono_l:∀ k,(∀ y0 y1 y2 y3 y4,LeO (impl_scaled.l0 k y0 y1 y2 y3 y4) (impl_scaled.l0 (k+1) y0 y1 y2 y3 y4))
 | 0=>fun _ _ _ _ _ r h=>by simp [impl_scaled.l0] at h
 | k+1=>by
  have ih0:=impl_scaled.mono_l k
  intro y0 y1 y2 y3 y4
  unfold impl_scaled.l0
  exact mm
theorem impl_scaled.mono:∀ a0 a1 k,LeO (impl_scaled.f k a0 a1) (impl_scaled.f (k+1) a0 a1):=by
 intro a0 a1 k
 have ih0:=impl_scaled.mono_l k
 unfold impl_scaled.f
 exact mm
theorem impl_scaled.calls (k:Nat) (a0:Int) (A1:Option Addr) (c1:Nat) (l1:List Int) (r:List Int) (w:World) (hr1:Kd.C (Kd.int .u8) w A1 l1.length l1) (hc1:l1.length≤c1) (h:impl_scaled.f k a0 l1=some r) :
  Calls Try.prog 119 #[.int .u8 a0, .slice A1 l1.length c1] w fun e w'=>∃ v0_:Value,e = .returned (v0_)∧Kd.R (Kd.int .u8) 5 w' w.heap.size (fun _=>True) v0_ r∧Below w.heap.size w w':=by
 have HR1:=am hr1
 have HC1:=am hc1
 clear hr1 hc1
 have HB:=am (Below.refl w.heap.size w)
 have H:=h
 unfold impl_scaled.f at H
 clear h
 generalize hy270:(([]:List Int):List Int)=y270 at H
 have Ny270:=am hy270.symm
 clear hy270
 have H':=am H
 clear H
 go_enter Try.func119,Try.ntmps119
 go_wp2_with (first|((with_reducible refine gD 8 ?_);refine Kd.R_lit (Kd.int .u8) _ 5 D15 (N:=8) D15 (xs:=([]:List Int)) (inner:=[]) (ok:=fun _=>True) (okp:=fun _=>True) D33 D51 (fun _ hk=>hk) trivial (Below.refl _ _) (Nat.le_refl _) D43 ?_;intro v271 w3 ho4 hb hg_ hnew_;clear hg_ hnew_;(first|rw [← Ny270.out] at ho4|(simp only [Int.reduceToNat] at ho4;rw [← Ny270.out] at ho4));have HO272:=am (Kd.R_lower ho4 (pz (yW HB)));replace HB:=yH HB hb;clear hb ho4))
 go_loopg [5,11] k (fun kq v5 v11 w'=>∃ (x5_1:List Int) (x11_1:Int),v11 = .int .i64 x11_1∧Aside0 (impl_scaled.l0 kq a0 x5_1 l1 (l1.length:Int) x11_1=some r)∧Aside0 (kq≤k)∧Aside0 (Kd.R (Kd.int .u8) 5 w' w.heap.size (fun _=>True) v5 x5_1)∧Aside0 (Below w.heap.size w w'))
 case atStart=>exact ⟨(y270),(0),D1,H',⟨Nat.le_refl _⟩,⟨yR HO272⟩,⟨yW HB⟩⟩
 case round =>
  clear H'
  try clear c1
  try clear p2
  obtain ⟨x5_1,x11_1,rfl,HA,HK1,HO_5,HB⟩:=hrel
  cases gk with
  | zero=>exact absurd HA.out (by simp [impl_scaled.l0])
  | succ k1 =>
   have H:=HA.out
   clear HA
   simp only [impl_scaled.l0] at H
   by_cases c5:x11_1 < (l1.length:Int)
   ·rw [if_pos c5] at H
    have c5b0:=decide_eq_true c5
    clear c5
    obtain ⟨c6,H⟩:=yi H
    have c6b0:=decide_eq_true c6
    clear c6
    obtain ⟨c7,H⟩:=yi H
    have c7b0:=decide_eq_true c7
    clear c7
    obtain ⟨t274,A8,H⟩:=yo H
    obtain ⟨c9,H⟩:=yi H
    have LMc9:=am c9
    clear c9
    generalize hy275:(x5_1 ++ [t274]:List Int)=y275 at H
    have Ny275:=am hy275.symm
    clear hy275
    have H':=am H
    clear H
    have p273:0≤(x11_1:Int):=od D0
    have q273:x11_1 < (l1.length:Int):=od D0
    obtain ⟨ad273,e273,hx273_0⟩:=Kd.at_int HR1.out x11_1 p273 q273
    cases e273
    replace hx273_0:=(HB.out.cell (World.block_lt_of_cell? w _ hx273_0)).trans hx273_0
    replace p273:=eq_true p273
    replace q273:=eq_true q273
    go_wp2_with (first|((with_reducible refine gC 51 ?_);refine gM (some 18) Try.func51 (args:=#[.int .u8 a0, .int .u8 (rd l1 x11_1)]) (impl_Times.calls k1 a0 (rd l1 x11_1) t274 _ A8.out) ?_;rintro e w' ⟨rfl,⟨nd,rfl⟩⟩;refine ⟨_,rfl,?_⟩)|((with_reducible refine gate_builtin (b:=.append) (xs:=#[.tmp 15, .tmp 19]) rfl ?_);at_builtin;refine Kd.R_append (Kd.int .u8) (w0:=w) w.heap.size rfl (.tmp 15) (.tmp 19) 24 5 (.int .u8 0) 1 rfl Try.underlying24 info5 rfl D8 D11 u5 x5_1 t274 [.int .u8 t274] (fun _=>True) (fun _=>False) rfl rfl D79 (fun _ hk=>hk.elim) D41 (by exact (yR HO_5)) D55 D47 (by have:=LMc9.out;omega) ?_;intro v276 w10 ho hb hg hat;rw [← Ny275.out] at ho;have n0_:=am (hb);have n1_:=am (ho);clear HB HO_5;have HB:=n0_;have HO277:=n1_;clear n0_ n1_ ho hb hg hat))
    go_roundg k1
    case measure=>have:=HK1.out;omega
    case rel=>exact ⟨(y275),(wrap64 (x11_1+1)),D1,H',⟨D34⟩,⟨yR HO277⟩,⟨yW HB⟩⟩
   rw [if_neg c5] at H
   have c5b0:=decide_eq_false c5
   clear c5
   obtain rfl:=Option.some.inj H
   go_wp2
   go_ret
   exact ⟨_,D2,yR HO_5,yW HB⟩

def impl_Msr_row.f (k:Nat) (a0_0:Int) (a0_1:Int) (a1:Int):Option (List Int):=(impl_Msr_powers.f k a0_0 a0_1 a1).bind fun bt279=>((impl_scaled.f k bt279.2 bt279.1).bind fun t283=>(if bt279.1.length+t283.length < 140737488355328 then (some (bt279.1 ++ t283)) else (none)))
theorem impl_Msr_row.mono:∀ a0 a1 a2 k,LeO (impl_Msr_row.f k a0 a1 a2) (impl_Msr_row.f (k+1) a0 a1 a2):=by
 intro a0 a1 a2 k
 unfold impl_Msr_row.f
 exact mm
theorem impl_Msr_row.calls (k:Nat) (a0_0:Int) (a0_1:Int) (a1:Int) (r:List Int) (w:World) (h:impl_Msr_row.f k a0_0 a0_1 a1=some r) :
  Calls Try.prog 66 #[.agg #[.int .i64 a0_0, .int .i64 a0_1], .int .i64 a1] w fun e w'=>∃ v0_:Value,e = .returned (v0_)∧Kd.R (Kd.int .u8) 5 w' w.heap.size (fun _=>True) v0_ r∧Below w.heap.size w w':=by
 have hu30:=Try.underlying30
 have HB:=am (Below.refl w.heap.size w)
 have H:=h
 unfold impl_Msr_row.f at H
 clear h
 obtain ⟨⟨t279,t282⟩,A3,H⟩:=yo H
 try dsimp only at H
 obtain ⟨t283,A4,H⟩:=yo H
 by_cases c5:t279.length+t283.length < 140737488355328
 ·rw [if_pos c5] at H
  have LMc5:=am c5
  clear c5
  generalize hy286:(t279 ++ t283:List Int)=y286 at H
  have Ny286:=am hy286.symm
  clear hy286
  obtain rfl:=Option.some.inj H
  go_enter Try.func66,Try.ntmps66
  go_wp2_with (first|((with_reducible refine gD 2 ?_);refine gB (cs:=#[.int .i64 a0_0, .int .i64 a0_1]) 30 ?_;intro gb278 hg w6 hbox hb;have BK278:=am (hbox);have GW278:=ye HB hg;replace HB:=yH HB hb;have GE278:=GW278;clear hb hbox hg;obtain ⟨hcz7_0,hcz7_1,hfz7_0,hfz7_1⟩:=yk2 BK278)|((with_reducible refine gC 116 ?_);refine gM (some 10) Try.func116 (args:=#[.agg #[.int .i64 a0_0, .int .i64 a0_1], .int .i64 a1]) (impl_Msr_powers.calls k a0_0 a0_1 a1 t279 t282 _ A3.out) ?_;rintro e w8 ⟨v280,rfl,ho0,hb⟩;refine ⟨_,rfl,?_⟩;have HO281:=am (Kd.R_lower ho0 (pz (yW HB)));replace BK278:=yb BK278 hb;replace HB:=yH HB hb;clear hb ho0;obtain ⟨Ao9,co9,eo9⟩:=Kd.R_slice HO281.out;subst eo9)|((with_reducible refine gC 119 ?_);refine gM (some 16) Try.func119 (args:=#[.int .u8 t282, .slice Ao9 t279.length co9]) (impl_scaled.calls k t282 _ _ t279 t283 _ (yc (Kd.R_reads' HO281.out).2.2) (Kd.R_reads' HO281.out).2.1 A4.out) ?_;rintro e w10 ⟨v284,rfl,ho0,hb⟩;refine ⟨_,rfl,?_⟩;have HO285:=am (Kd.R_lower (Kd.R_new' ho0 (Kd.R_lt (yR HO281))) (pz (yW HB)));replace HO281:=eR HO281 (Kd.R_base ho0) hb;replace BK278:=yb BK278 hb;replace HB:=yH HB hb;clear hb ho0;obtain ⟨Ao12,co12,eo12⟩:=Kd.R_slice HO285.out;subst eo12)|((with_reducible refine gate_builtin (b:=.append) (xs:=#[.tmp 13, .tmp 16]) rfl ?_);at_builtin;refine Kd.R_append_rows (Kd.int .u8) (w0:=w) w.heap.size rfl (.tmp 13) (.tmp 16) 24 5 (.int .u8 0) 1 rfl Try.underlying24 info5 rfl D8 D11 (.slice Ao9 t279.length co9) t279 t283 _ _ _ (fun k_=>some k_ ≠ (.slice Ao12 t283.length co12:Value).ownBlock) (fun _=>False) rfl rfl (by exact (by refine sR ?_;exact Kd.R_mono HO281.out (fun _ hk=>hk.2))) (by repeat (first|exact (Kd.R_reads' HO285.out).2.2|(with_reducible refine Kd.C_alloc ?_ _)|(with_reducible refine Kd.C_drewN ?_ _)|(with_reducible refine Kd.C_drew ?_))) (fun _ _ h=>h) (fun _ h=>h.elim) (by exact (fun k_ hk=>Kd.fresh' (Kd.R_lt (yR HO285)) k_ hk)) D55 D47 (by have:=LMc5.out;omega) ?_;intro v287 w11 ho hb hg hat;rw [← Ny286.out] at ho;have n0_:=am (blk_grown (g:=gb278) (o:=.cells #[.int .i64 a0_0, .int .i64 a0_1] 30 (0,0)) (yB BK278) hg (Kd.R_ne HO281.out BK278.out D8));have n1_:=am (Kd.R_after (ok:=(fun _=>True)) (yR HO285) hg hat);have n2_:=am (hb);have n3_:=am (ho);clear BK278 HO285 HB HO281;have BK278:=n0_;have HO285:=n1_;have HB:=n2_;have HO288:=n3_;clear n0_ n1_ n2_ n3_ ho hb hg hat))
  go_ret
  exact ⟨_,D2,by refine sR ?_;exact Kd.R_mono HO288.out (fun _ hk=>trivial),yW HB⟩
 rw [if_neg c5] at H
 exact absurd H D43

mutual
def impl_EncodeMsr.j0:Nat→List Int→Bool→Int→Int→Option ((List (S76)) × Bool)
 | 0,_,_,_,_=>none
 | k+1,x1,x18,x294000,x294001=>if x18=true then (some (([]:List (S76)),false)) else ((impl_Msr_message.f k x294000 x294001 x1).bind fun t296=>(impl_EncodeMsr.l0 k t296 (([]:List (S76))) x294000 0 x294000 x294001))
def impl_EncodeMsr.l0:Nat→List (List Int)→List (S76)→Int→Int→Int→Int→Option ((List (S76)) × Bool)
 | 0,_,_,_,_,_,_=>none
 | k+1,x6,x7,x24,x25,x294000,x294001=>if x25 < x24 then ((impl_Msr_row.f k x294000 x294001 x25).bind fun t302=>((impl_product.f k (([t302]:List (List Int))) x6).bind fun t308=>(if 0 < (t308.length:Int) then (if x7.length < 4398046511104 then (impl_EncodeMsr.l0 k x6 (x7 ++ [(⟨x25,t308.getD 0 []⟩:S76)]) x24 (wrap64 (x25+1)) x294000 x294001) else (none)) else (none)))) else (some (x7,true))
end
def impl_EncodeMsr.f (k:Nat) (a0_0:Int) (a0_1:Int) (l1:List Int):Option ((List (S76)) × Bool):=(impl_GoodMsr.f a0_0 a0_1).bind fun t294=>(if t294=true then ((impl_Msr_size.f a0_0 a0_1).bind fun t295=>(impl_EncodeMsr.j0 k l1 ((l1.length:Int) != t295) a0_0 a0_1)) else (impl_EncodeMsr.j0 k l1 true a0_0 a0_1))
theorem impl_EncodeMsr.mono_l:∀ k,(∀ y0 y1 y2 y3,LeO (impl_EncodeMsr.j0 k y0 y1 y2 y3) (impl_EncodeMsr.j0 (k+1) y0 y1 y2 y3))∧(∀ y0 y1 y2 y3 y4 y5,LeO (impl_EncodeMsr.l0 k y0 y1 y2 y3 y4 y5) (impl_EncodeMsr.l0 (k+1) y0 y1 y2 y3 y4 y5))
 | 0=>⟨fun _ _ _ _ r h=>by simp [impl_EncodeMsr.j0] at h,fun _ _ _ _ _ _ r h=>by simp [impl_EncodeMsr.l0] at h⟩
 | k+1=>by
  obtain ⟨ih0,ih1⟩:=impl_EncodeMsr.mono_l k
  refine ⟨?_,?_⟩
  ·intro y0 y1 y2 y3
   unfold impl_EncodeMsr.j0
   exact mm
  intro y0 y1 y2 y3 y4 y5
  unfold impl_EncodeMsr.l0
  exact mm
theorem impl_EncodeMsr.mono:∀ a0 a1 a2 k,LeO (impl_EncodeMsr.f k a0 a1 a2) (impl_EncodeMsr.f (k+1) a0 a1 a2):=by
 intro a0 a1 a2 k
 obtain ⟨ih0,ih1⟩:=impl_EncodeMsr.mono_l k
 unfold impl_EncodeMsr.f
 exact mm
theorem impl_EncodeMsr.calls (k:Nat) (a0_0:Int) (a0_1:Int) (A1:Option Addr) (c1:Nat) (l1:List Int) (r1:List (S76)) (r2:Bool) (w:World) (hr1:Kd.C (Kd.int .u8) w A1 l1.length l1) (hc1:l1.length≤c1) (h:impl_EncodeMsr.f k a0_0 a0_1 l1=some (r1,r2)) :
  Calls Try.prog 19 #[.agg #[.int .i64 a0_0, .int .i64 a0_1], .slice A1 l1.length c1] w fun e w'=>∃ v0_:Value,e = .returned (.tuple #[v0_, .bool r2])∧Kd.S k76 76 w' w.heap.size (fun _=>True) v0_ r1∧Below w.heap.size w w':=by
 have hu30:=Try.underlying30
 have hu76:=Try.underlying76
 have HR1:=am hr1
 have HC1:=am hc1
 clear hr1 hc1
 have HB:=am (Below.refl w.heap.size w)
 have H:=h
 unfold impl_EncodeMsr.f at H
 clear h
 have HC3:=am H
 clear H
 go_enter Try.func19,Try.ntmps19
 go_upto_region 1 with (first|((with_reducible refine gD 2 ?_);(try (refine gate_guard D15 ?_;dsimp only));refine gB (cs:=#[.int .i64 a0_0, .int .i64 a0_1]) 30 ?_;intro gb293 hg w4 hbox hb;have BK293:=am (hbox);have GW293:=ye HB hg;replace HB:=yH HB hb;have GE293:=GW293;clear hb hbox hg))
 (try simp only [Act.put,q1,q2,q3])
 go_cut [18] (fun v18 wc=>∃ (kq:Nat) (x18_2:Bool),v18 = .bool x18_2∧Aside0 (impl_EncodeMsr.j0 kq l1 x18_2 a0_0 a0_1=some (r1,r2))∧Aside0 (kq≤k)∧Aside0 (wc.heap[gb293]? = some (.cells #[.int .i64 a0_0, .int .i64 a0_1] 30 (0,0)))∧Aside0 (Below w.heap.size w wc))
 case first =>
  have H:=HC3.out
  clear HC3
  obtain ⟨t294,A5,H⟩:=yo H
  by_cases c6:t294=true
  ·subst c6
   replace H:=yt H
   obtain ⟨t295,A7,H⟩:=yo H
   have H':=am H
   clear H
   obtain ⟨hcz8_0,hcz8_1,hfz8_0,hfz8_1⟩:=yk2 BK293
   go_wp2_with (first|((with_reducible refine gC 46 ?_);refine gM (some 10) Try.func46 (args:=#[.agg #[.int .i64 a0_0, .int .i64 a0_1]]) (impl_GoodMsr.calls a0_0 a0_1 true _ A5.out) ?_;rintro e w9 ⟨rfl,hb⟩;refine ⟨_,rfl,?_⟩;replace BK293:=yb BK293 hb;replace HB:=yH HB hb;clear hb;obtain ⟨hcz10_0,hcz10_1,hfz10_0,hfz10_1⟩:=yk2 BK293)|(go_at_call 59;(with_reducible refine (impl_Msr_size.calls a0_0 a0_1 t295 _ A7.out).mono ?_);rintro e w11 ⟨rfl,hb⟩;replace BK293:=yb BK293 hb;replace HB:=yH HB hb;clear hb))
   go_meet
   case rel=>exact ⟨_,(((l1.length:Int) != t295)),D1,H',⟨D54⟩,⟨yB BK293⟩,⟨yW HB⟩⟩
  replace c6:=Bool.eq_false_iff.mpr c6
  subst c6
  replace H:=yn H
  have H':=am H
  clear H
  obtain ⟨hcz12_0,hcz12_1,hfz12_0,hfz12_1⟩:=yk2 BK293
  go_wp2_with (first|((with_reducible refine gC 46 ?_);refine gM (some 10) Try.func46 (args:=#[.agg #[.int .i64 a0_0, .int .i64 a0_1]]) (impl_GoodMsr.calls a0_0 a0_1 false _ A5.out) ?_;rintro e w13 ⟨rfl,hb⟩;refine ⟨_,rfl,?_⟩;replace BK293:=yb BK293 hb;replace HB:=yH HB hb;clear hb))
  go_meet
  case rel=>exact ⟨_,(true),D1,H',⟨D54⟩,⟨yB BK293⟩,⟨yW HB⟩⟩
 case rest =>
  clear HC3
  try clear c1
  try clear p2
  try clear c4
  try clear c6
  try clear hcz10_0
  try clear hcz10_1
  try clear hcz12_0
  try clear hcz12_1
  try clear hcz8_0
  try clear hcz8_1
  try clear hfz10_0
  try clear hfz10_1
  try clear hfz12_0
  try clear hfz12_1
  try clear hfz8_0
  try clear hfz8_1
  obtain ⟨kq,x18_2,rfl,HA,HJ2,BK293,HB⟩:=hcut
  cases kq with
  | zero=>exact absurd HA.out (by simp [impl_EncodeMsr.j0])
  | succ kj2 =>
   have H:=HA.out
   clear HA
   simp only [impl_EncodeMsr.j0] at H
   by_cases c14:x18_2=true
   ·subst c14
    replace H:=yt H
    simp only [Option.some.injEq,Prod.mk.injEq] at H
    obtain ⟨rfl,rfl⟩:=H
    go_wp2
    go_ret2
    exact ⟨_,D2,D18,yW HB⟩
   replace c14:=Bool.eq_false_iff.mpr c14
   subst c14
   replace H:=yn H
   obtain ⟨t296,A15,H⟩:=yo H
   generalize hy299:(([]:List (S76)):List (S76))=y299 at H
   have Ny299:=am hy299.symm
   clear hy299
   have H':=am H
   clear H
   obtain ⟨hcz16_0,hcz16_1,hfz16_0,hfz16_1⟩:=yk2 BK293
   go_wp2_with (first|((with_reducible refine gC 60 ?_);refine gM (some 21) Try.func60 (args:=#[.agg #[.int .i64 a0_0, .int .i64 a0_1], .slice A1 l1.length c1]) (impl_Msr_message.calls kj2 a0_0 a0_1 _ _ l1 t296 _ (yc (Kd.C_below HR1.out HB.out)) HC1.out A15.out) ?_;rintro e w17 ⟨v297,rfl,ho0,hb⟩;refine ⟨_,rfl,?_⟩;have HO298:=am (Kd.N_lower (Kd.N_mono (ok':=fun k_=>(w.heap.size≤k_)∧k_ ≠ gb293) (Kd.S_N (Kd.S_bound ho0)) (fun k_ hk_=>⟨(Nat.le_trans (pz (yW HB)) hk_.2.1),(yz BK293 k_ hk_.2.1)⟩)) (pz (yW HB)));replace BK293:=yb BK293 hb;replace HB:=yH HB hb;clear hb ho0)|((with_reducible refine gD 22 ?_);(try (refine gate_guard D15 ?_;dsimp only));refine Kd.S_lit k76 _ 76 D15 (N:=22) D15 (xs:=([]:List (S76))) (inner:=[]) (ok:=fun _=>True) (okp:=fun _=>True) D33 D51 (fun _ hk=>hk) trivial (Below.refl _ _) (Nat.le_refl _) D43 ?_;intro v300 w18 ho19 hb hg_ hnew_;clear hg_ hnew_;(first|rw [← Ny299.out] at ho19|(simp only [Int.reduceToNat] at ho19;rw [← Ny299.out] at ho19));replace HO298:=eN HO298 (Kd.S_base ho19) hb;have HO301:=am (Kd.S_lower ho19 (pz (yW HB)));replace BK293:=yb BK293 hb;replace HB:=yH HB hb;clear hb ho19;obtain ⟨hcz20_0,hcz20_1,hfz20_0,hfz20_1⟩:=yk2 BK293))
   go_loopg [7,25] kj2 (fun kq v7 v25 w'=>∃ (x7_2:List (S76)) (x25_2:Int),v25 = .int .i64 x25_2∧Aside0 (impl_EncodeMsr.l0 kq t296 x7_2 a0_0 x25_2 a0_0 a0_1=some (r1,r2))∧Aside0 (kq≤kj2)∧Aside0 (Kd.N (Kd.slice 5 (Kd.int .u8)) 24 w' w.heap.size (fun k_=>(w.heap.size≤k_)∧some k_ ≠ (v7:Value).ownBlock∧k_ ≠ gb293) v297 t296)∧Aside0 (Kd.S k76 76 w' w.heap.size (fun _=>True) v7 x7_2)∧Aside0 (w'.heap[gb293]? = some (.cells #[.int .i64 a0_0, .int .i64 a0_1] 30 (0,0)))∧Aside0 (Below w.heap.size w w'))
   case atStart=>exact ⟨(y299),(0),D1,H',⟨Nat.le_refl _⟩,⟨by refine sN ?_;exact Kd.N_mono HO298.out (fun _ hk=>⟨hk.1.1,⟨hk.2,hk.1.2⟩⟩)⟩,⟨yS HO301⟩,⟨yB BK293⟩,⟨yW HB⟩⟩
   case round =>
    clear H'
    try clear c1
    try clear p2
    try clear c4
    try clear c6
    try clear c14
    try clear c19
    try clear hcz10_0
    try clear hcz10_1
    try clear hcz12_0
    try clear hcz12_1
    try clear hcz16_0
    try clear hcz16_1
    try clear hcz20_0
    try clear hcz20_1
    try clear hcz8_0
    try clear hcz8_1
    try clear hfz10_0
    try clear hfz10_1
    try clear hfz12_0
    try clear hfz12_1
    try clear hfz16_0
    try clear hfz16_1
    try clear hfz20_0
    try clear hfz20_1
    try clear hfz8_0
    try clear hfz8_1
    try clear p2
    obtain ⟨x7_2,x25_2,rfl,HA,HK2,HO_6,HO_7,BK293,HB⟩:=hrel
    cases gk with
    | zero=>exact absurd HA.out (by simp [impl_EncodeMsr.l0])
    | succ k2 =>
     have H:=HA.out
     clear HA
     simp only [impl_EncodeMsr.l0] at H
     by_cases c21:x25_2 < a0_0
     ·rw [if_pos c21] at H
      have c21b0:=decide_eq_true c21
      clear c21
      obtain ⟨t302,A22,H⟩:=yo H
      generalize hy305:(([t302]:List (List Int)):List (List Int))=y305 at H
      have Ny305:=am hy305.symm
      clear hy305
      obtain ⟨t308,A23,H⟩:=yo H
      obtain ⟨c24,H⟩:=yi H
      have c24b0:=decide_eq_true c24
      have c24b1:decide (0 < t308.length)=true:=decide_eq_true D11
      clear c24
      obtain ⟨c25,H⟩:=yi H
      have LMc25:=am c25
      clear c25
      generalize hy312:(x7_2 ++ [(⟨x25_2,t308.getD 0 []⟩:S76)]:List (S76))=y312 at H
      have Ny312:=am hy312.symm
      clear hy312
      have H':=am H
      clear H
      obtain ⟨hcz26_0,hcz26_1,hfz26_0,hfz26_1⟩:=yk2 BK293
      go_wp2_with (first|((with_reducible refine gC 66 ?_);refine gM (some 32) Try.func66 (args:=#[.agg #[.int .i64 a0_0, .int .i64 a0_1], .int .i64 x25_2]) (impl_Msr_row.calls k2 a0_0 a0_1 x25_2 t302 _ A22.out) ?_;rintro e w27 ⟨v303,rfl,ho0,hb⟩;refine ⟨_,rfl,?_⟩;replace HO_6:=eN HO_6 (Kd.R_base ho0) hb;replace HO_7:=eS HO_7 (Kd.R_base ho0) hb;have HO304:=am (Kd.R_lower (Kd.R_newM (M:=fun k_=>(w.heap.size≤k_)) ho0 (pz (yW HB)) (fun k_ h_=>h_)) (pz (yW HB)));replace BK293:=yb BK293 hb;replace HB:=yH HB hb;clear hb ho0;obtain ⟨Ao28,co28,eo28⟩:=Kd.R_slice HO304.out;subst eo28)|((with_reducible refine gD 33 ?_);(try (refine gate_guard D15 ?_;dsimp only));refine Kd.N_lit (Kd.slice 5 (Kd.int .u8)) _ 24 D15 (N':=33) D15 (xs:=([t302]:List (List Int))) (inner:=[.slice Ao28 t302.length co28]) (ok:=(fun k_=>(w.heap.size≤k_)∧some k_ ≠ (v297:Value).ownBlock∧some k_ ≠ (u7:Value).ownBlock∧k_ ≠ gb293)) (okp:=(fun k_=>(w.heap.size≤k_)∧some k_ ≠ (v297:Value).ownBlock∧some k_ ≠ (u7:Value).ownBlock∧k_ ≠ gb293)) D33 (by exact (Reps.one (show Kd.FK (Kd.slice 5 (Kd.int .u8)) _ _ t302 [.slice Ao28 t302.length co28] from (Kd.FK_slice_mk (Kd.R_reads' (Kd.R_mono (ok':=(fun k_=>(w.heap.size≤k_)∧some k_ ≠ (v297:Value).ownBlock∧some k_ ≠ (u7:Value).ownBlock∧k_ ≠ gb293)) (Kd.R_types (Kd.R_apart' (Kd.R_apart' (HO304.out) (Kd.N_typed HO_6.out) D8) (Kd.S_typed HO_7.out) D8) BK293.out D8) (fun k_ hk=>⟨hk.1.1.1.1,⟨hk.1.1.2,⟨hk.1.2,hk.2⟩⟩⟩))).2.1 (Kd.R_F (Kd.R_mono (ok':=(fun k_=>(w.heap.size≤k_)∧some k_ ≠ (v297:Value).ownBlock∧some k_ ≠ (u7:Value).ownBlock∧k_ ≠ gb293)) (Kd.R_types (Kd.R_apart' (Kd.R_apart' (HO304.out) (Kd.N_typed HO_6.out) D8) (Kd.S_typed HO_7.out) D8) BK293.out D8) (fun k_ hk=>⟨hk.1.1.1.1,⟨hk.1.1.2,⟨hk.1.2,hk.2⟩⟩⟩))))) (Reps.none _ _))) (fun _ hk=>hk) ((show ∀ k_,w27.heap.size≤k_→(fun k_=>(w.heap.size≤k_)∧some k_ ≠ (v297:Value).ownBlock∧some k_ ≠ (u7:Value).ownBlock∧k_ ≠ gb293) k_ from fun k_ hk=>⟨(Nat.le_trans (pz (yW HB)) hk),Kd.fresh' (Kd.N_lt (yN HO_6)) k_ hk,Kd.fresh' (Kd.S_lt (yS HO_7)) k_ hk,yz BK293 k_ hk⟩) _ (Nat.le_refl _)) (Below.refl _ _) (Nat.le_refl _) D43 ?_;intro v306 w29 ho30 hb hg_ hnew_;clear hg_ hnew_;(first|rw [← Ny305.out] at ho30|(simp only [Int.reduceToNat] at ho30;rw [← Ny305.out] at ho30));have n0_:=eN HO_6 (Kd.N_base ho30) hb;have n1_:=eS HO_7 (Kd.N_base ho30) hb;have n2_:=am (Kd.N_lower ho30 (pz (yW HB)));have n3_:=yb BK293 hb;have n4_:=yH HB hb;clear HO_6 HO_7 BK293 HB HO304;have HO_6:=n0_;have HO_7:=n1_;have HO307:=n2_;have BK293:=n3_;have HB:=n4_;clear n0_ n1_ n2_ n3_ n4_ hb ho30;obtain ⟨Ao31,co31,eo31⟩:=Kd.N_slice HO307.out;subst eo31;obtain ⟨Ao32,co32,eo32⟩:=Kd.N_slice HO_6.out;subst eo32)|((with_reducible refine gC 65 ?_);refine gM (some 35) Try.func65 (args:=#[.slice Ao31 y305.length co31, .slice Ao32 t296.length co32]) (impl_product.calls k2 _ _ y305 _ _ t296 t308 _ (yc (Kd.N_reads' HO307.out).2.2) (Kd.N_reads' HO307.out).2.1 (yc (Kd.N_reads' HO_6.out).2.2) (Kd.N_reads' HO_6.out).2.1 A23.out) ?_;have HBQ:=HB;rintro e w33 ⟨v309,rfl,ho0,hb⟩;refine ⟨_,rfl,?_⟩;have HO310:=am (Kd.N_lower (Kd.N_mono (ok':=fun k_=>(w.heap.size≤k_)∧some k_ ≠ (.slice Ao32 t296.length co32:Value).ownBlock∧some k_ ≠ (u7:Value).ownBlock∧some k_ ≠ (.slice Ao31 y305.length co31:Value).ownBlock∧k_ ≠ gb293) (Kd.S_N (Kd.S_bound ho0)) (fun k_ hk_=>⟨(Nat.le_trans (pz (yW HB)) hk_.2.1),(Kd.fresh' (Kd.N_lt (yN HO_6)) k_ hk_.2.1),(Kd.fresh' (Kd.S_lt (yS HO_7)) k_ hk_.2.1),(Kd.fresh' (Kd.N_lt (yN HO307)) k_ hk_.2.1),(yz BK293 k_ hk_.2.1)⟩)) (pz (yW HB)));replace HO_6:=eN HO_6 D26 hb;replace HO_7:=am (Kd.S_below (Kd.S_mono (Kd.S_bound (yS HO_7)) (ok':=fun k=>k < w29.heap.size) (fun k hk=>hk.2.2.1)) hb);replace HO307:=eN HO307 D26 hb;replace BK293:=yb BK293 hb;replace HB:=yH HB hb;clear hb;have HOS:=am (Kd.S_lower (Kd.S_mono (Kd.S_bound ho0) (ok':=fun k=>w29.heap.size≤k) (fun k hk=>hk.2.1)) (pz (by first|exact HBQ.out)));(try clear ho0);obtain ⟨Ao34,co34,eo34⟩:=Kd.N_slice HO310.out;subst eo34;have p311:0≤(0:Int):=D11;have q311:0 < (t308.length:Int):=od D0;obtain ⟨g311,cap311,eg311,_,_,_⟩:=Kd.S_form HOS.out D11;obtain ⟨ad311,rfl⟩:∃ ad,Ao34=some ad:=⟨_,(Value.slice.inj eg311).1⟩;clear eg311;obtain ⟨ce311,hce311,hMe311,hcc311⟩:=Kd.S_get HOS.out [] 0 p311 (by first|exact q311|omega);obtain ⟨uv311,rfl,hRe311⟩:=hMe311;rw [show ((0:Int)).toNat=0 from rfl] at hRe311;obtain ⟨dd311,hd311⟩:∃ d,d=t308.getD 0 []:=⟨_,rfl⟩;rw [← hd311] at hRe311;replace Ny312:=am (Ny312.out.trans (by rw [← hd311]));replace hd311:=am hd311;obtain ⟨A311_0,c311_0,rfl⟩:=Kd.R_slice hRe311;have hx311_0:=hcc311 0 _ rfl;rw [Nat.add_zero,show ((Kd.slice 5 (Kd.int .u8))).sz=1 from rfl,Nat.mul_one] at hx311_0;have HL311_0:=am (Kd.R_mono hRe311 (fun _ hk=>hk.1));clear hRe311 hcc311 hce311;have qi311:(0 < t308.length)=True:=eq_true D11;(try rw [show ((0:Int)).toNat=0 from rfl] at hx311_0);(try rw [Addr.add_zero'] at hx311_0);replace p311:=eq_true p311;replace q311:=eq_true q311)|((with_reducible refine gate_builtin (b:=.append) (xs:=#[.tmp 28, .tmp 39]) rfl ?_);(try (refine gate_guard D15 ?_;dsimp only));at_builtin;refine Kd.S_append k76 (w0:=w) w.heap.size rfl (.tmp 28) (.tmp 39) 38 76 (.agg #[(.int .i64 0),(.slice none 0 0)]) 32 rfl Try.underlying38 info76 rfl D8 D11 u7 x7_2 (⟨x25_2,dd311⟩:S76) [.int .i64 x25_2, .slice A311_0 dd311.length c311_0] (fun _=>True) (fun k=>w29.heap.size≤k) rfl rfl (by exact k76_mkM _ _ _ (⟨x25_2,dd311⟩:S76) (HL311_0.out)) (fun k hk=>⟨trivial,fun e=>absurd ((Kd.S_R HO_7.out).1 k e.symm) D11⟩) D41 (by exact (Kd.S_mono HO_7.out (fun k hk=>⟨trivial,D11⟩))) (by exact HB.out) (by exact (pz HB.out)) (by have:=LMc25.out;omega) ?_;intro v313 w35 ho hb hg hat;rw [← Ny312.out] at ho;have n0_:=am (Kd.N_afterv (ok:=(fun k_=>(w.heap.size≤k_)∧some k_ ≠ (.slice Ao31 y305.length co31:Value).ownBlock∧some k_ ≠ (.slice (some ad311) t308.length co34:Value).ownBlock∧k_ ≠ gb293)) (by refine sN ?_;exact Kd.N_mono HO_6.out (fun _ hk=>⟨⟨hk.1.1.1.1,⟨hk.1.2,⟨hk.2,hk.1.1.1.2.2⟩⟩⟩,hk.1.1.1.2.1⟩)) hg hat);have n1_:=am (blk_grown (g:=gb293) (o:=.cells #[.int .i64 a0_0, .int .i64 a0_1] 30 (0,0)) (yB BK293) hg (Kd.S_ne HO_7.out BK293.out D8));have n2_:=am (Kd.N_afterv (ok:=(fun k_=>(w.heap.size≤k_)∧some k_ ≠ (.slice Ao32 t296.length co32:Value).ownBlock∧some k_ ≠ (.slice (some ad311) t308.length co34:Value).ownBlock∧k_ ≠ gb293)) (by refine sN ?_;exact Kd.N_mono HO307.out (fun _ hk=>⟨⟨hk.1.1,⟨hk.1.2.1,⟨hk.2,hk.1.2.2.2⟩⟩⟩,hk.1.2.2.1⟩)) hg hat);have n3_:=am (Kd.N_afterv (ok:=(fun k_=>(w.heap.size≤k_)∧some k_ ≠ (.slice Ao32 t296.length co32:Value).ownBlock∧some k_ ≠ (.slice Ao31 y305.length co31:Value).ownBlock∧k_ ≠ gb293)) (by refine sN ?_;exact Kd.N_mono HO310.out (fun _ hk=>⟨⟨hk.1,⟨hk.2.1,⟨hk.2.2.2.1,hk.2.2.2.2⟩⟩⟩,hk.2.2.1⟩)) hg hat);have n5_:=am (hb);have n6_:=am (ho);clear HO_6 BK293 HO307 HO310 HL311_0 HB HO_7;have HO_6:=n0_;have BK293:=n1_;have HO307:=n2_;have HO310:=n3_;have HB:=n5_;have HO314:=n6_;clear n0_ n1_ n2_ n3_ n5_ n6_ ho hb hg hat))
      go_roundg k2
      case measure=>have:=HJ2.out;have:=HK2.out;omega
      case rel=>exact ⟨(y312),(wrap64 (x25_2+1)),D1,H',⟨by have:=HJ2.out;have:=HK2.out;omega⟩,⟨by refine sN ?_;exact Kd.N_mono HO_6.out (fun _ hk=>⟨hk.1.1,⟨hk.2,hk.1.2.2.2⟩⟩)⟩,⟨yS HO314⟩,⟨yB BK293⟩,⟨yW HB⟩⟩
     rw [if_neg c21] at H
     have c21b0:=decide_eq_false c21
     clear c21
     simp only [Option.some.injEq,Prod.mk.injEq] at H
     obtain ⟨rfl,rfl⟩:=H
     go_wp2
     go_ret2
     exact ⟨_,D2,yS HO_7,yW HB⟩
def laws_someOf.l0:Nat→Int→Int→List Int→List Int→Int→Option (List Int)
 | 0,_,_,_,_,_=>none
 | k+1,x0,x1,x2,x7,x8=>if x8 < x0 then (if x8 < (x2.length:Int) then (if 0≤x8 then (if (wrap64 (x0 - x8))≤(wrap64 (x1 - (x7.length:Int))) then (if x7.length < 17592186044416 then (laws_someOf.l0 k x0 x1 x2 (x7 ++ [x8]) (wrap64 (x8+1))) else (none)) else (if (Int.tmod (wrap64 (rd x2 x8)) 2)=0 then (if x7.length < 17592186044416 then (laws_someOf.l0 k x0 x1 x2 (x7 ++ [x8]) (wrap64 (x8+1))) else (none)) else (laws_someOf.l0 k x0 x1 x2 x7 (wrap64 (x8+1))))) else (none)) else (if (wrap64 (x0 - x8))≤(wrap64 (x1 - (x7.length:Int))) then (if x7.length < 17592186044416 then (laws_someOf.l0 k x0 x1 x2 (x7 ++ [x8]) (wrap64 (x8+1))) else (none)) else (if ((0:Int) % 2)=0 then (if x7.length < 17592186044416 then (laws_someOf.l0 k x0 x1 x2 (x7 ++ [x8]) (wrap64 (x8+1))) else (none)) else (laws_someOf.l0 k x0 x1 x2 x7 (wrap64 (x8+1)))))) else (some x7)
def laws_someOf.f (k:Nat) (a0:Int) (a1:Int) (l2:List Int):Option (List Int):=laws_someOf.l0 k a0 a1 l2 ([]:List Int) 0
theorem laws_someOf.mono_l:∀ k,(∀ y0 y1 y2 y3 y4,LeO (laws_someOf.l0 k y0 y1 y2 y3 y4) (laws_someOf.l0 (k+1) y0 y1 y2 y3 y4))
 | 0=>fun _ _ _ _ _ r h=>by simp [laws_someOf.l0] at h
 | k+1=>by
  have ih0:=laws_someOf.mono_l k
  intro y0 y1 y2 y3 y4
  unfold laws_someOf.l0
  exact mm
theorem laws_someOf.mono:∀ a0 a1 a2 k,LeO (laws_someOf.f k a0 a1 a2) (laws_someOf.f (k+1) a0 a1 a2):=by
 intro a0 a1 a2 k
 have ih0:=laws_someOf.mono_l k
 unfold laws_someOf.f
 exact mm
theorem laws_someOf.calls (k:Nat) (a0:Int) (a1:Int) (A2:Option Addr) (c2:Nat) (l2:List Int) (r:List Int) (w:World) (hr2:Kd.C (Kd.int .u8) w A2 l2.length l2) (hc2:l2.length≤c2) (h:laws_someOf.f k a0 a1 l2=some r) :
  Calls Try.prog 37 #[.int .i64 a0, .int .i64 a1, .slice A2 l2.length c2] w fun e w'=>∃ v0_:Value,e = .returned (v0_)∧Kd.R (Kd.int .i64) 3 w' w.heap.size (fun _=>True) v0_ r∧Below w.heap.size w w':=by
 have HR2:=am hr2
 have HC2:=am hc2
 clear hr2 hc2
 have HB:=am (Below.refl w.heap.size w)
 have H:=h
 unfold laws_someOf.f at H
 clear h
 have H':=am H
 clear H
 go_enter Try.func37,Try.ntmps37
 go_wp2
 go_loopg [7,8] k (fun kq v7 v8 w'=>∃ (x7_1:List Int) (x8_1:Int),v8 = .int .i64 x8_1∧Aside0 (laws_someOf.l0 kq a0 a1 l2 x7_1 x8_1=some r)∧Aside0 (kq≤k)∧Aside0 (Kd.R (Kd.int .i64) 3 w' w.heap.size (fun _=>True) v7 x7_1)∧Aside0 (Below w.heap.size w w'))
 case atStart=>exact ⟨(([]:List Int)),(0),D1,H',⟨Nat.le_refl _⟩,⟨D14⟩,⟨yW HB⟩⟩
 case round =>
  clear H'
  try clear c2
  try clear p2
  try clear c3
  obtain ⟨x7_1,x8_1,rfl,HA,HK1,HO_7,HB⟩:=hrel
  cases gk with
  | zero=>exact absurd HA.out (by simp [laws_someOf.l0])
  | succ k1 =>
   have H:=HA.out
   clear HA
   simp only [laws_someOf.l0] at H
   by_cases c4:x8_1 < a0
   ·rw [if_pos c4] at H
    have c4b0:=decide_eq_true c4
    clear c4
    by_cases c5:x8_1 < (l2.length:Int)
    ·rw [if_pos c5] at H
     have c5b0:=decide_eq_true c5
     clear c5
     obtain ⟨c6,H⟩:=yi H
     have c6b0:=decide_eq_true c6
     clear c6
     by_cases c7:(wrap64 (a0 - x8_1))≤(wrap64 (a1 - (x7_1.length:Int)))
     ·rw [if_pos c7] at H
      have c7b0:=decide_eq_true c7
      clear c7
      obtain ⟨c8,H⟩:=yi H
      have LMc8:=am c8
      clear c8
      generalize hy290:(x7_1 ++ [x8_1]:List Int)=y290 at H
      have Ny290:=am hy290.symm
      clear hy290
      have H':=am H
      clear H
      have p289:0≤(x8_1:Int):=od D0
      have q289:x8_1 < (l2.length:Int):=od D0
      obtain ⟨ad289,e289,hx289_0⟩:=Kd.at_int HR2.out x8_1 p289 q289
      cases e289
      replace hx289_0:=(HB.out.cell (World.block_lt_of_cell? w _ hx289_0)).trans hx289_0
      replace p289:=eq_true p289
      replace q289:=eq_true q289
      obtain ⟨Ao9,co9,eo9⟩:=Kd.R_slice HO_7.out
      subst eo9
      go_wp2_with (first|((with_reducible refine gate_builtin (b:=.append) (xs:=#[.tmp 37, .tmp 39]) rfl ?_);at_builtin;refine Kd.R_append (Kd.int .i64) (w0:=w) w.heap.size rfl (.tmp 37) (.tmp 39) 62 3 (.int .i64 0) 8 rfl Try.underlying62 info3 rfl D8 D11 (.slice Ao9 x7_1.length co9) x7_1 x8_1 [.int .i64 x8_1] (fun _=>True) (fun _=>False) rfl rfl D79 (fun _ hk=>hk.elim) D41 (by exact (yR HO_7)) D55 D47 (by have:=LMc8.out;omega) ?_;intro v291 w10 ho hb hg hat;rw [← Ny290.out] at ho;have n0_:=am (hb);have n1_:=am (ho);clear HB HO_7;have HB:=n0_;have HO292:=n1_;clear n0_ n1_ ho hb hg hat))
      go_roundg k1
      case measure=>have:=HK1.out;omega
      case rel=>exact ⟨(y290),(wrap64 (x8_1+1)),D1,H',⟨D34⟩,⟨yR HO292⟩,⟨yW HB⟩⟩
     rw [if_neg c7] at H
     have c7b0:=decide_eq_false c7
     clear c7
     by_cases c11:(Int.tmod (wrap64 (rd l2 x8_1)) 2)=0
     ·rw [if_pos c11] at H
      have c11b0:((Int.tmod (wrap64 (rd l2 x8_1)) 2) == 0)=true:=beq_iff_eq.mpr c11
      have c11b1:((Int.tmod (wrap64 (rd l2 x8_1)) 2) != 0)=false:=bne_eq_false_iff_eq.mpr c11
      clear c11
      obtain ⟨c12,H⟩:=yi H
      have LMc12:=am c12
      clear c12
      generalize hy293:(x7_1 ++ [x8_1]:List Int)=y293 at H
      have Ny293:=am hy293.symm
      clear hy293
      have H':=am H
      clear H
      have p289:0≤(x8_1:Int):=od D0
      have q289:x8_1 < (l2.length:Int):=od D0
      obtain ⟨ad289,e289,hx289_0⟩:=Kd.at_int HR2.out x8_1 p289 q289
      cases e289
      replace hx289_0:=(HB.out.cell (World.block_lt_of_cell? w _ hx289_0)).trans hx289_0
      replace p289:=eq_true p289
      replace q289:=eq_true q289
      obtain ⟨Ao13,co13,eo13⟩:=Kd.R_slice HO_7.out
      subst eo13
      go_wp2_with (first|((with_reducible refine gate_builtin (b:=.append) (xs:=#[.tmp 37, .tmp 39]) rfl ?_);at_builtin;refine Kd.R_append (Kd.int .i64) (w0:=w) w.heap.size rfl (.tmp 37) (.tmp 39) 62 3 (.int .i64 0) 8 rfl Try.underlying62 info3 rfl D8 D11 (.slice Ao13 x7_1.length co13) x7_1 x8_1 [.int .i64 x8_1] (fun _=>True) (fun _=>False) rfl rfl D79 (fun _ hk=>hk.elim) D41 (by exact (yR HO_7)) D55 D47 (by have:=LMc12.out;omega) ?_;intro v294 w14 ho hb hg hat;rw [← Ny293.out] at ho;have n0_:=am (hb);have n1_:=am (ho);clear HB HO_7;have HB:=n0_;have HO295:=n1_;clear n0_ n1_ ho hb hg hat))
      go_roundg k1
      case measure=>have:=HK1.out;omega
      case rel=>exact ⟨(y293),(wrap64 (x8_1+1)),D1,H',⟨D34⟩,⟨yR HO295⟩,⟨yW HB⟩⟩
     rw [if_neg c11] at H
     have c11b0:((Int.tmod (wrap64 (rd l2 x8_1)) 2) == 0)=false:=beq_eq_false_iff_ne.mpr c11
     have c11b1:((Int.tmod (wrap64 (rd l2 x8_1)) 2) != 0)=true:=bne_iff_ne.mpr c11
     have H':=am H
     clear H
     have p289:0≤(x8_1:Int):=od D0
     have q289:x8_1 < (l2.length:Int):=od D0
     obtain ⟨ad289,e289,hx289_0⟩:=Kd.at_int HR2.out x8_1 p289 q289
     cases e289
     replace hx289_0:=(HB.out.cell (World.block_lt_of_cell? w _ hx289_0)).trans hx289_0
     replace p289:=eq_true p289
     replace q289:=eq_true q289
     obtain ⟨Ao15,co15,eo15⟩:=Kd.R_slice HO_7.out
     subst eo15
     go_wp2
     go_roundg k1
     case measure=>have:=HK1.out;omega
     case rel=>exact ⟨(x7_1),(wrap64 (x8_1+1)),D1,H',⟨D34⟩,⟨yR HO_7⟩,⟨yW HB⟩⟩
    rw [if_neg c5] at H
    have c5b0:=decide_eq_false c5
    clear c5
    by_cases c16:(wrap64 (a0 - x8_1))≤(wrap64 (a1 - (x7_1.length:Int)))
    ·rw [if_pos c16] at H
     have c16b0:=decide_eq_true c16
     clear c16
     obtain ⟨c17,H⟩:=yi H
     have LMc17:=am c17
     clear c17
     generalize hy296:(x7_1 ++ [x8_1]:List Int)=y296 at H
     have Ny296:=am hy296.symm
     clear hy296
     have H':=am H
     clear H
     obtain ⟨Ao18,co18,eo18⟩:=Kd.R_slice HO_7.out
     subst eo18
     go_wp2_with (first|((with_reducible refine gate_builtin (b:=.append) (xs:=#[.tmp 37, .tmp 39]) rfl ?_);at_builtin;refine Kd.R_append (Kd.int .i64) (w0:=w) w.heap.size rfl (.tmp 37) (.tmp 39) 62 3 (.int .i64 0) 8 rfl Try.underlying62 info3 rfl D8 D11 (.slice Ao18 x7_1.length co18) x7_1 x8_1 [.int .i64 x8_1] (fun _=>True) (fun _=>False) rfl rfl D79 (fun _ hk=>hk.elim) D41 (by exact (yR HO_7)) D55 D47 (by have:=LMc17.out;omega) ?_;intro v297 w19 ho hb hg hat;rw [← Ny296.out] at ho;have n0_:=am (hb);have n1_:=am (ho);clear HB HO_7;have HB:=n0_;have HO298:=n1_;clear n0_ n1_ ho hb hg hat))
     go_roundg k1
     case measure=>have:=HK1.out;omega
     case rel=>exact ⟨(y296),(wrap64 (x8_1+1)),D1,H',⟨D34⟩,⟨yR HO298⟩,⟨yW HB⟩⟩
    rw [if_neg c16] at H
    have c16b0:=decide_eq_false c16
    clear c16
    by_cases c20:((0:Int) % 2)=0
    ·rw [if_pos c20] at H
     have c20b0:(((0:Int) % 2) == 0)=true:=beq_iff_eq.mpr c20
     have c20b1:(((0:Int) % 2) != 0)=false:=bne_eq_false_iff_eq.mpr c20
     clear c20
     obtain ⟨c21,H⟩:=yi H
     have LMc21:=am c21
     clear c21
     generalize hy299:(x7_1 ++ [x8_1]:List Int)=y299 at H
     have Ny299:=am hy299.symm
     clear hy299
     have H':=am H
     clear H
     obtain ⟨Ao22,co22,eo22⟩:=Kd.R_slice HO_7.out
     subst eo22
     go_wp2_with (first|((with_reducible refine gate_builtin (b:=.append) (xs:=#[.tmp 37, .tmp 39]) rfl ?_);at_builtin;refine Kd.R_append (Kd.int .i64) (w0:=w) w.heap.size rfl (.tmp 37) (.tmp 39) 62 3 (.int .i64 0) 8 rfl Try.underlying62 info3 rfl D8 D11 (.slice Ao22 x7_1.length co22) x7_1 x8_1 [.int .i64 x8_1] (fun _=>True) (fun _=>False) rfl rfl D79 (fun _ hk=>hk.elim) D41 (by exact (yR HO_7)) D55 D47 (by have:=LMc21.out;omega) ?_;intro v300 w23 ho hb hg hat;rw [← Ny299.out] at ho;have n0_:=am (hb);have n1_:=am (ho);clear HB HO_7;have HB:=n0_;have HO301:=n1_;clear n0_ n1_ ho hb hg hat))
     go_roundg k1
     case measure=>have:=HK1.out;omega
     case rel=>exact ⟨(y299),(wrap64 (x8_1+1)),D1,H',⟨D34⟩,⟨yR HO301⟩,⟨yW HB⟩⟩
    rw [if_neg c20] at H
    exact absurd D8 c20
   rw [if_neg c4] at H
   have c4b0:=decide_eq_false c4
   clear c4
   obtain rfl:=Option.some.inj H
   go_wp2
   go_ret
   exact ⟨_,D2,yR HO_7,yW HB⟩

/-- A state of type 127 at block g of W; what its slices lead to came in by w0. -/
def IsS127 (w0 W:World) (g:Nat) (f0:List Int) (f1:Int) (f2:Int):Prop:=∃ A0 c0,W.heap[g]? = some (.cells #[.slice A0 f0.length c0, .int .i64 f1, .int .u64 f2] 127 (0,0))∧w0.heap.size≤g∧Kd.C (Kd.int .u8) w0 A0 f0.length f0
theorem IsS127.grown {w0 W:World} {g:Nat} {f0:List Int} {f1:Int} {f2:Int} {W1:World} {row:Option Nat} (h:IsS127 w0 W g f0 f1 f2) (hw:W.grownBy W1 row) (hne:some g ≠ row):IsS127 w0 W1 g f0 f1 f2:=by
 obtain ⟨A0,c0,hb,hg,hr0⟩:=h
 exact ⟨A0,c0,blk_grown hb hw hne,hg,hr0⟩
theorem IsS127.own_neN {w0 W:World} {g:Nat} {f0:List Int} {f1:Int} {f2:Int} {α:Type} {d:Kd α} {e:Nat} {base:Nat} {ok:Nat→Prop} {v:Value} {xs:List α} (h:IsS127 w0 W g f0 f1 f2) (ho:Kd.N d e W base ok v xs) (ht:e ≠ 127):some g ≠ v.ownBlock:=by
 obtain ⟨A0,c0,hb,hg,hr0⟩:=h
 exact Kd.N_ne ho hb ht
theorem IsS127.fresh {w0 W:World} {g:Nat} {f0:List Int} {f1:Int} {f2:Int} (h:IsS127 w0 W g f0 f1 f2):∀ k,W.heap.size≤k→k ≠ g:=by
 obtain ⟨A0,c0,hb,hg,hr0⟩:=h
 exact Kd.freshB hb
theorem IsS127.kept {w0 W:World} {g:Nat} {f0:List Int} {f1:Int} {f2:Int} {W1:World} {S:Nat→Prop} (h:IsS127 w0 W g f0 f1 f2) (hk:Kept W W1 S) (hne:¬ S g):IsS127 w0 W1 g f0 f1 f2:=by
 obtain ⟨A0,c0,hb,hg,hr0⟩:=h
 exact ⟨A0,c0,blk_kept hb hk hne,hg,hr0⟩
theorem IsS127.below {w0 W:World} {g:Nat} {f0:List Int} {f1:Int} {f2:Int} {W1:World} (h:IsS127 w0 W g f0 f1 f2) (hw:Below W.heap.size W W1):IsS127 w0 W1 g f0 f1 f2:=h.grown (grown_of_below hw none) D43
theorem IsS127.alloc {w0 W:World} {g:Nat} {f0:List Int} {f1:Int} {f2:Int} (h:IsS127 w0 W g f0 f1 f2) (o:Obj):IsS127 w0 (W.alloc o) g f0 f1 f2:=h.below (pa (Below.refl _ _) o)
theorem IsS127.drewN {w0 W:World} {g:Nat} {f0:List Int} {f1:Int} {f2:Int} (h:IsS127 w0 W g f0 f1 f2) (m:Nat):IsS127 w0 (W.drewN m) g f0 f1 f2:=h
theorem IsS127.drew {w0 W:World} {g:Nat} {f0:List Int} {f1:Int} {f2:Int} (h:IsS127 w0 W g f0 f1 f2):IsS127 w0 W.drew g f0 f1 f2:=h
theorem IsS127.at_ {w0 W:World} {g:Nat} {f0:List Int} {f1:Int} {f2:Int} {w':World} {m:Nat} (hq:W.drewN m=w') (h:IsS127 w0 W g f0 f1 f2):IsS127 w0 w' g f0 f1 f2:=by subst hq;exact IsS127.drewN h m
theorem IsS127.apart {w0 W:World} {g:Nat} {f0:List Int} {f1:Int} {f2:Int} {α:Type} {d:Kd α} {e:Nat} {base:Nat} {ok:Nat→Prop} {v:Value} {xs:List α} (h:IsS127 w0 W g f0 f1 f2) (ho:d.R e W base ok v xs) (ht:∀ q,q ∈ e :: d.E→q ≠ 127):d.R e W base (fun k=>ok k∧k ≠ g) v xs:=by
 obtain ⟨A0,c0,hb,hg,hr0⟩:=h
 exact Kd.R_types ho hb ht
theorem IsS127.own_ne {w0 W:World} {g:Nat} {f0:List Int} {f1:Int} {f2:Int} {α:Type} {d:Kd α} {e:Nat} {base:Nat} {ok:Nat→Prop} {v:Value} {xs:List α} (h:IsS127 w0 W g f0 f1 f2) (ho:d.R e W base ok v xs) (ht:e ≠ 127):some g ≠ v.ownBlock:=by
 obtain ⟨A0,c0,hb,hg,hr0⟩:=h
 exact Kd.R_ne ho hb ht
theorem IsS127.lt {w0 W:World} {g:Nat} {f0:List Int} {f1:Int} {f2:Int} (h:IsS127 w0 W g f0 f1 f2):g < W.heap.size:=by
 obtain ⟨A0,c0,hb,hg,hr0⟩:=h
 exact blk_lt hb
theorem IsS127.ge {w0 W:World} {g:Nat} {f0:List Int} {f1:Int} {f2:Int} (h:IsS127 w0 W g f0 f1 f2):w0.heap.size≤g:=by
 obtain ⟨A0,c0,hb,hg,hr0⟩:=h
 exact hg
theorem IsS127.far {w0 W:World} {g:Nat} {f0:List Int} {f1:Int} {f2:Int} {p:Addr} (h:IsS127 w0 W g f0 f1 f2) (hne:g ≠ p.block) (u:Value):IsS127 w0 (W.setCell p u) g f0 f1 f2:=by
 obtain ⟨A0,c0,hb,hg,hr0⟩:=h
 exact ⟨A0,c0,blk_far hb hne u,hg,hr0⟩
theorem cellS127_0 {W:World} {g:Nat} {A0:Option Addr} {c0:Nat} {f0:List Int} {f1:Int} {f2:Int} (h:W.heap[g]? = some (.cells #[.slice A0 f0.length c0, .int .i64 f1, .int .u64 f2] 127 (0,0))):W.cell? ⟨g,0,none⟩=some (.slice A0 f0.length c0):=(blk_cell h 0).trans rfl
theorem cellS127_1 {W:World} {g:Nat} {A0:Option Addr} {c0:Nat} {f0:List Int} {f1:Int} {f2:Int} (h:W.heap[g]? = some (.cells #[.slice A0 f0.length c0, .int .i64 f1, .int .u64 f2] 127 (0,0))):W.cell? ⟨g,1,none⟩=some (.int .i64 f1):=(blk_cell h 1).trans rfl
theorem IsS127.set_1 {w0 W:World} {g:Nat} {f0:List Int} {f1:Int} {f2:Int} (h:IsS127 w0 W g f0 f1 f2) (x:Int):IsS127 w0 (W.setCell ⟨g,1,none⟩ (.int .i64 x)) g f0 x f2:=by
 obtain ⟨A0,c0,hb,hg,hr0⟩:=h
 exact ⟨A0,c0,by simpa using blk_set hb 1 (.int .i64 x),hg,hr0⟩
theorem cellS127_2 {W:World} {g:Nat} {A0:Option Addr} {c0:Nat} {f0:List Int} {f1:Int} {f2:Int} (h:W.heap[g]? = some (.cells #[.slice A0 f0.length c0, .int .i64 f1, .int .u64 f2] 127 (0,0))):W.cell? ⟨g,2,none⟩=some (.int .u64 f2):=(blk_cell h 2).trans rfl
theorem IsS127.set_2 {w0 W:World} {g:Nat} {f0:List Int} {f1:Int} {f2:Int} (h:IsS127 w0 W g f0 f1 f2) (x:Int):IsS127 w0 (W.setCell ⟨g,2,none⟩ (.int .u64 x)) g f0 f1 x:=by
 obtain ⟨A0,c0,hb,hg,hr0⟩:=h
 exact ⟨A0,c0,by simpa using blk_set hb 2 (.int .u64 x),hg,hr0⟩
def spec_l1Cur_next.f (s0_0:List Int) (s0_1:Int) (s0_2:Int):Option (Int × Int × Int):=if s0_1 < (s0_0.length:Int) then (if 0≤s0_1 then (if (wrap64 (s0_1+1))≤(s0_0.length:Int) then (some (wrap64 (rd s0_0 s0_1),wrap64 (s0_1+1),IntKind.u64.wrap ((IntKind.u64.wrap ((IntKind.u64.wrap (s0_2*6364136223846793005))+(IntKind.u64.wrap (wrap64 (rd s0_0 s0_1)))))+1442695040888963407))) else (some (wrap64 (Go.bits .and .u64 ((IntKind.u64.wrap ((IntKind.u64.wrap ((IntKind.u64.wrap (s0_2*6364136223846793005))+(IntKind.u64.wrap (wrap64 (rd s0_0 s0_1)))))+1442695040888963407)) / 1099511627776) 255),wrap64 (s0_1+1),IntKind.u64.wrap ((IntKind.u64.wrap ((IntKind.u64.wrap (s0_2*6364136223846793005))+(IntKind.u64.wrap (wrap64 (rd s0_0 s0_1)))))+1442695040888963407)))) else (none)) else (if (wrap64 (s0_1+1))≤(s0_0.length:Int) then (some (0,wrap64 (s0_1+1),IntKind.u64.wrap ((IntKind.u64.wrap (IntKind.u64.wrap (s0_2*6364136223846793005)))+1442695040888963407))) else (some (wrap64 (Go.bits .and .u64 ((IntKind.u64.wrap ((IntKind.u64.wrap (IntKind.u64.wrap (s0_2*6364136223846793005)))+1442695040888963407)) / 1099511627776) 255),wrap64 (s0_1+1),IntKind.u64.wrap ((IntKind.u64.wrap (IntKind.u64.wrap (s0_2*6364136223846793005)))+1442695040888963407))))
theorem spec_l1Cur_next.calls (g:Nat) (s0_0:List Int) (s0_1:Int) (s0_2:Int) (r1:Int) (r2:Int) (r3:Int) (w0 w:World) (hI:IsS127 w0 w g s0_0 s0_1 s0_2) (hB:Below w0.heap.size w0 w) (h:spec_l1Cur_next.f s0_0 s0_1 s0_2=some (r1,r2,r3)) :
  Calls Try.prog 145 #[.pointer (some ⟨g,0,none⟩)] w fun e w'=>e = .returned (.int .i64 r1)∧IsS127 w0 w' g s0_0 r2 r3∧Below w0.heap.size w0 w'∧KeepBut w w' g none:=by
 have HI0:=am hI
 have HK:=am (KeepBut.refl w g none)
 have HL:=am hB.size
 clear hI
 have HW0:=am hB.size
 have HB:=am hB
 clear hB
 have H:=h
 unfold spec_l1Cur_next.f at H
 clear h
 by_cases c2:s0_1 < (s0_0.length:Int)
 ·rw [if_pos c2] at H
  have c2b0:=decide_eq_true c2
  clear c2
  obtain ⟨c3,H⟩:=yi H
  have c3b0:=decide_eq_true c3
  clear c3
  by_cases c4:(wrap64 (s0_1+1))≤(s0_0.length:Int)
  ·rw [if_pos c4] at H
   have c4b0:=decide_eq_true c4
   clear c4
   simp only [Option.some.injEq,Prod.mk.injEq] at H
   obtain ⟨rfl,rfl,rfl⟩:=H
   obtain ⟨ASz5_0,cSz5_0,HGz5,hgz5,HSz5_0⟩:=HI0.out
   have hcz5_0:=cellS127_0 HGz5
   have hcz5_1:=cellS127_1 HGz5
   have hcz5_2:=cellS127_2 HGz5
   have hfz5_1:=blk_frozen HGz5 1
   have hfz5_2:=blk_frozen HGz5 2
   clear HGz5 hgz5
   have p302:0≤(s0_1:Int):=od D0
   have q302:s0_1 < (s0_0.length:Int):=od D0
   obtain ⟨ad302,e302,hx302_0⟩:=Kd.at_int HSz5_0 s0_1 p302 q302
   cases e302
   replace hx302_0:=pw_cell_below HB.out hx302_0
   replace p302:=eq_true p302
   replace q302:=eq_true q302
   go_enter Try.func145,Try.ntmps145
   go_wp2
   repeat (go_quiet (fail);try go_wp2)
   go_ret
   exact ⟨D2,D6,D7,D3⟩
  rw [if_neg c4] at H
  have c4b0:=decide_eq_false c4
  clear c4
  simp only [Option.some.injEq,Prod.mk.injEq] at H
  obtain ⟨rfl,rfl,rfl⟩:=H
  obtain ⟨ASz6_0,cSz6_0,HGz6,hgz6,HSz6_0⟩:=HI0.out
  have hcz6_0:=cellS127_0 HGz6
  have hcz6_1:=cellS127_1 HGz6
  have hcz6_2:=cellS127_2 HGz6
  have hfz6_1:=blk_frozen HGz6 1
  have hfz6_2:=blk_frozen HGz6 2
  clear HGz6 hgz6
  have p302:0≤(s0_1:Int):=od D0
  have q302:s0_1 < (s0_0.length:Int):=od D0
  obtain ⟨ad302,e302,hx302_0⟩:=Kd.at_int HSz6_0 s0_1 p302 q302
  cases e302
  replace hx302_0:=pw_cell_below HB.out hx302_0
  replace p302:=eq_true p302
  replace q302:=eq_true q302
  go_enter Try.func145,Try.ntmps145
  go_wp2
  repeat (go_quiet (fail);try go_wp2)
  go_ret
  exact ⟨D2,D6,D7,D3⟩
 rw [if_neg c2] at H
 have c2b0:=decide_eq_false c2
 clear c2
 by_cases c7:(wrap64 (s0_1+1))≤(s0_0.length:Int)
 ·rw [if_pos c7] at H
  have c7b0:=decide_eq_true c7
  clear c7
  simp only [Option.some.injEq,Prod.mk.injEq] at H
  obtain ⟨rfl,rfl,rfl⟩:=H
  obtain ⟨ASz8_0,cSz8_0,HGz8,hgz8,HSz8_0⟩:=HI0.out
  have hcz8_0:=cellS127_0 HGz8
  have hcz8_1:=cellS127_1 HGz8
  have hcz8_2:=cellS127_2 HGz8
  have hfz8_1:=blk_frozen HGz8 1
  have hfz8_2:=blk_frozen HGz8 2
  clear HGz8 hgz8
  go_enter Try.func145,Try.ntmps145
  go_wp2
  repeat (go_quiet (fail);try go_wp2)
  go_ret
  exact ⟨D2,D6,D7,D3⟩
 rw [if_neg c7] at H
 have c7b0:=decide_eq_false c7
 clear c7
 simp only [Option.some.injEq,Prod.mk.injEq] at H
 obtain ⟨rfl,rfl,rfl⟩:=H
 obtain ⟨ASz9_0,cSz9_0,HGz9,hgz9,HSz9_0⟩:=HI0.out
 have hcz9_0:=cellS127_0 HGz9
 have hcz9_1:=cellS127_1 HGz9
 have hcz9_2:=cellS127_2 HGz9
 have hfz9_1:=blk_frozen HGz9 1
 have hfz9_2:=blk_frozen HGz9 2
 clear HGz9 hgz9
 go_enter Try.func145,Try.ntmps145
 go_wp2
 repeat (go_quiet (fail);try go_wp2)
 go_ret
 exact ⟨D2,D6,D7,D3⟩

def spec_l1Cur_pick.f (s0_0:List Int) (s0_1:Int) (s0_2:Int) (a1:Int):Option (Int × Int × Int):=if a1≤1 then (some (0,s0_1,s0_2)) else ((spec_l1Cur_next.f s0_0 s0_1 s0_2).bind fun bt303=>(if a1 > 200 then ((spec_l1Cur_next.f s0_0 bt303.2.1 bt303.2.2).bind fun bt306=>(if a1=0 then (none) else (some (Int.tmod (wrap64 ((wrap64 (bt303.1*256))+bt306.1)) a1,bt306.2.1,bt306.2.2)))) else (if a1=0 then (none) else (some (Int.tmod bt303.1 a1,bt303.2.1,bt303.2.2)))))
theorem spec_l1Cur_pick.calls (g:Nat) (s0_0:List Int) (s0_1:Int) (s0_2:Int) (a1:Int) (r1:Int) (r2:Int) (r3:Int) (w0 w:World) (hI:IsS127 w0 w g s0_0 s0_1 s0_2) (hB:Below w0.heap.size w0 w) (h:spec_l1Cur_pick.f s0_0 s0_1 s0_2 a1=some (r1,r2,r3)) :
  Calls Try.prog 95 #[.pointer (some ⟨g,0,none⟩), .int .i64 a1] w fun e w'=>e = .returned (.int .i64 r1)∧IsS127 w0 w' g s0_0 r2 r3∧Below w0.heap.size w0 w'∧KeepBut w w' g none:=by
 have HI0:=am hI
 have HK:=am (KeepBut.refl w g none)
 have HL:=am hB.size
 clear hI
 have HW0:=am hB.size
 have HB:=am hB
 clear hB
 have H:=h
 unfold spec_l1Cur_pick.f at H
 clear h
 by_cases c3:a1≤1
 ·rw [if_pos c3] at H
  have c3b0:=decide_eq_true c3
  clear c3
  simp only [Option.some.injEq,Prod.mk.injEq] at H
  obtain ⟨rfl,rfl,rfl⟩:=H
  go_enter Try.func95,Try.ntmps95
  go_wp2
  go_ret
  exact ⟨D2,D6,D7,D3⟩
 rw [if_neg c3] at H
 have c3b0:=decide_eq_false c3
 clear c3
 obtain ⟨⟨t303,t304,t305⟩,A4,H⟩:=yo H
 try dsimp only at H
 by_cases c5:a1 > 200
 ·rw [if_pos c5] at H
  have c5b0:decide (200 < a1)=true:=decide_eq_true c5
  clear c5
  obtain ⟨⟨t306,t307,t308⟩,A6,H⟩:=yo H
  try dsimp only at H
  by_cases c7:a1=0
  ·rw [if_pos c7] at H
   exact absurd H D43
  rw [if_neg c7] at H
  have c7b0:(a1 == 0)=false:=beq_eq_false_iff_ne.mpr c7
  have c7b1:(a1 != 0)=true:=bne_iff_ne.mpr c7
  simp only [Option.some.injEq,Prod.mk.injEq] at H
  obtain ⟨rfl,rfl,rfl⟩:=H
  go_enter Try.func95,Try.ntmps95
  go_wp2_with (first|((with_reducible refine gC 145 ?_);refine gM (some 9) Try.func145 (args:=#[.pointer (some ⟨g,0,none⟩)]) (spec_l1Cur_next.calls g s0_0 s0_1 s0_2 t303 t304 t305 w0 _ ?side1 ?side2 A4.out) ?_;(case side1=>repeat (first|(with_reducible first|exact HI0.out|apply IsS127.alloc|apply IsS127.drewN|apply IsS127.drew|apply IsS127.set_1|apply IsS127.set_2)|exact HI0.out));(case side2=>repeat (first|(with_reducible first|exact HB.out|apply pa|apply pb|apply pd|refine pt ?_ (IsS127.ge HI0.out))|exact HB.out));rintro e w8 ⟨rfl,hi,hb,hk⟩;refine ⟨_,rfl,?_⟩;replace HK:=am (KeepBut.trans D3 hk (.inl rfl));replace HB:=am (hb);replace HI0:=am (hi);clear hb hk hi)|((with_reducible refine gC 145 ?_);refine gM (some 15) Try.func145 (args:=#[.pointer (some ⟨g,0,none⟩)]) (spec_l1Cur_next.calls g s0_0 t304 t305 t306 t307 t308 w0 _ ?side1 ?side2 A6.out) ?_;(case side1=>repeat (first|(with_reducible first|exact HI0.out|apply IsS127.alloc|apply IsS127.drewN|apply IsS127.drew|apply IsS127.set_1|apply IsS127.set_2)|exact HI0.out));(case side2=>repeat (first|(with_reducible first|exact HB.out|apply pa|apply pb|apply pd|refine pt ?_ (IsS127.ge HI0.out))|exact HB.out));rintro e w9 ⟨rfl,hi,hb,hk⟩;refine ⟨_,rfl,?_⟩;replace HK:=am (KeepBut.trans D3 hk (.inl rfl));replace HB:=am (hb);replace HI0:=am (hi);clear hb hk hi))
  go_ret
  exact ⟨D2,D6,D7,D3⟩
 rw [if_neg c5] at H
 have c5b0:decide (200 < a1)=false:=decide_eq_false c5
 clear c5
 by_cases c10:a1=0
 ·rw [if_pos c10] at H
  exact absurd H D43
 rw [if_neg c10] at H
 have c10b0:(a1 == 0)=false:=beq_eq_false_iff_ne.mpr c10
 have c10b1:(a1 != 0)=true:=bne_iff_ne.mpr c10
 simp only [Option.some.injEq,Prod.mk.injEq] at H
 obtain ⟨rfl,rfl,rfl⟩:=H
 go_enter Try.func95,Try.ntmps95
 go_wp2_with (first|((with_reducible refine gC 145 ?_);refine gM (some 9) Try.func145 (args:=#[.pointer (some ⟨g,0,none⟩)]) (spec_l1Cur_next.calls g s0_0 s0_1 s0_2 t303 t304 t305 w0 _ ?side1 ?side2 A4.out) ?_;(case side1=>repeat (first|(with_reducible first|exact HI0.out|apply IsS127.alloc|apply IsS127.drewN|apply IsS127.drew|apply IsS127.set_1|apply IsS127.set_2)|exact HI0.out));(case side2=>repeat (first|(with_reducible first|exact HB.out|apply pa|apply pb|apply pd|refine pt ?_ (IsS127.ge HI0.out))|exact HB.out));rintro e w11 ⟨rfl,hi,hb,hk⟩;refine ⟨_,rfl,?_⟩;replace HK:=am (KeepBut.trans D3 hk (.inl rfl));replace HB:=am (hb);replace HI0:=am (hi);clear hb hk hi))
 go_ret
 exact ⟨D2,D6,D7,D3⟩

def spec_l1Cur_one.f (s0_0:List Int) (s0_1:Int) (s0_2:Int) (a1:Int):Option (Bool × Int × Int):=(spec_l1Cur_pick.f s0_0 s0_1 s0_2 a1).bind fun bt309=>(some ((bt309.1 == 0),bt309.2.1,bt309.2.2))
theorem spec_l1Cur_one.calls (g:Nat) (s0_0:List Int) (s0_1:Int) (s0_2:Int) (a1:Int) (r1:Bool) (r2:Int) (r3:Int) (w0 w:World) (hI:IsS127 w0 w g s0_0 s0_1 s0_2) (hB:Below w0.heap.size w0 w) (h:spec_l1Cur_one.f s0_0 s0_1 s0_2 a1=some (r1,r2,r3)) :
  Calls Try.prog 101 #[.pointer (some ⟨g,0,none⟩), .int .i64 a1] w fun e w'=>e = .returned (.bool r1)∧IsS127 w0 w' g s0_0 r2 r3∧Below w0.heap.size w0 w'∧KeepBut w w' g none:=by
 have HI0:=am hI
 have HK:=am (KeepBut.refl w g none)
 have HL:=am hB.size
 clear hI
 have HW0:=am hB.size
 have HB:=am hB
 clear hB
 have H:=h
 unfold spec_l1Cur_one.f at H
 clear h
 obtain ⟨⟨t309,t310,t311⟩,A3,H⟩:=yo H
 try dsimp only at H
 simp only [Option.some.injEq,Prod.mk.injEq] at H
 obtain ⟨rfl,rfl,rfl⟩:=H
 go_enter Try.func101,Try.ntmps101
 go_wp2_with (first|((with_reducible refine gC 95 ?_);refine gM (some 7) Try.func95 (args:=#[.pointer (some ⟨g,0,none⟩), .int .i64 a1]) (spec_l1Cur_pick.calls g s0_0 s0_1 s0_2 a1 t309 t310 t311 w0 _ ?side1 ?side2 A3.out) ?_;(case side1=>repeat (first|(with_reducible first|exact HI0.out|apply IsS127.alloc|apply IsS127.drewN|apply IsS127.drew|apply IsS127.set_1|apply IsS127.set_2)|exact HI0.out));(case side2=>repeat (first|(with_reducible first|exact HB.out|apply pa|apply pb|apply pd|refine pt ?_ (IsS127.ge HI0.out))|exact HB.out));rintro e w4 ⟨rfl,hi,hb,hk⟩;refine ⟨_,rfl,?_⟩;replace HK:=am (KeepBut.trans D3 hk (.inl rfl));replace HB:=am (hb);replace HI0:=am (hi);clear hb hk hi))
 go_ret
 exact ⟨D2,D6,D7,D3⟩

def spec_l1Cur_msr.f (s0_0:List Int) (s0_1:Int) (s0_2:Int):Option (Int × Int × Int × Int):=(spec_l1Cur_pick.f s0_0 s0_1 s0_2 3).bind fun bt313=>((spec_l1Cur_pick.f s0_0 bt313.2.1 bt313.2.2 4).bind fun bt317=>((spec_l1Cur_one.f s0_0 bt317.2.1 bt317.2.2 20).bind fun bt320=>(if bt320.1=true then ((spec_l1Cur_pick.f s0_0 bt320.2.1 bt320.2.2 17).bind fun bt323=>((spec_l1Cur_pick.f s0_0 bt323.2.1 bt323.2.2 7).bind fun bt326=>(some (bt323.1,bt326.1,bt326.2.1,bt326.2.2)))) else (some (wrap64 ((wrap64 ((wrap64 (2*(wrap64 (2+bt313.1)))) - 1))+bt317.1),wrap64 (2+bt313.1),bt320.2.1,bt320.2.2)))))
def spec_l1Cur_msr.T2:Bool × List (List Nat × List Nat):=(true,[([],[]),([0],[0]),([1],[1]),([2],[2]),([],[]),([4],[4]),([3,5],[3,5]),([0,1,2,3,4,5,6],[]),([7,6,5,0,1,2,3,4,5,6],[6,7])])
def spec_l1Cur_msr.B2:List Nat:=[0,1,3,7,0,16,63,127,255]
theorem spec_l1Cur_msr.tab2:rtab .any (opsOf Try.f100 2)=spec_l1Cur_msr.T2:=by kernel_rfl
theorem spec_l1Cur_msr.bits2:waitsOk spec_l1Cur_msr.T2.2 spec_l1Cur_msr.B2=true:=by kernel_rfl
theorem spec_l1Cur_msr.calls (g:Nat) (s0_0:List Int) (s0_1:Int) (s0_2:Int) (r1:Int) (r2:Int) (r3:Int) (r4:Int) (w0 w:World) (hI:IsS127 w0 w g s0_0 s0_1 s0_2) (hB:Below w0.heap.size w0 w) (h:spec_l1Cur_msr.f s0_0 s0_1 s0_2=some (r1,r2,r3,r4)) :
  Calls Try.prog 100 #[.pointer (some ⟨g,0,none⟩)] w fun e w'=>e = .returned (.agg #[.int .i64 r1, .int .i64 r2])∧IsS127 w0 w' g s0_0 r3 r4∧Below w0.heap.size w0 w'∧KeepBut w w' g none:=by
 have hu30:=Try.underlying30
 have HI0:=am hI
 have HK:=am (KeepBut.refl w g none)
 have HL:=am hB.size
 clear hI
 have HW0:=am hB.size
 have HB:=am hB
 clear hB
 have H:=h
 unfold spec_l1Cur_msr.f at H
 clear h
 obtain ⟨⟨t313,t314,t315⟩,A2,H⟩:=yo H
 try dsimp only at H
 obtain ⟨⟨t317,t318,t319⟩,A3,H⟩:=yo H
 try dsimp only at H
 obtain ⟨⟨t320,t321,t322⟩,A4,H⟩:=yo H
 try dsimp only at H
 by_cases c5:t320=true
 ·subst c5
  replace H:=yt H
  obtain ⟨⟨t323,t324,t325⟩,A6,H⟩:=yo H
  try dsimp only at H
  obtain ⟨⟨t326,t327,t328⟩,A7,H⟩:=yo H
  try dsimp only at H
  simp only [Option.some.injEq,Prod.mk.injEq] at H
  obtain ⟨rfl,rfl,rfl,rfl⟩:=H
  go_enter Try.func100,Try.ntmps100
  try go_wp2_with (first|((with_reducible refine gD 2 ?_);refine gB (cs:=#[.int .i64 0, .int .i64 0]) 30 ?_;intro gb312 hg w8 hbox hb;replace HB:=am (pu D7 hb);have BK312:=am (hbox);have GW312:=am ((by rw [hg];exact (keep_size (w:=w) (g:=g) (row:=none) D3):w.heap.size≤gb312));have GE312:=am ((Nat.le_trans HW0.out (by rw [hg];exact (keep_size (w:=w) (g:=g) (row:=none) D3):w.heap.size≤gb312):w0.heap.size≤gb312));replace HK:=am (KeepBut.trans D3 (KeepBut.of_below hb g none) (.inl rfl));have NB0_312:=am ((by rw [hg];exact Nat.ne_of_lt (IsS127.lt (show IsS127 w0 _ g s0_0 s0_1 s0_2 from by repeat (first|(with_reducible first|exact HI0.out|apply IsS127.alloc|apply IsS127.drewN|apply IsS127.drew|apply IsS127.set_1|apply IsS127.set_2)|exact HI0.out))):g ≠ gb312));have NB312_0:=am ((by rw [hg];exact Nat.ne_of_gt (IsS127.lt (show IsS127 w0 _ g s0_0 s0_1 s0_2 from by repeat (first|(with_reducible first|exact HI0.out|apply IsS127.alloc|apply IsS127.drewN|apply IsS127.drew|apply IsS127.set_1|apply IsS127.set_2)|exact HI0.out))):gb312 ≠ g));replace HI0:=am (IsS127.below D6 hb);clear hb hbox hg)|((with_reducible refine gC 95 ?_);refine gM (some 5) Try.func95 (args:=#[.pointer (some ⟨g,0,none⟩), .int .i64 3]) (spec_l1Cur_pick.calls g s0_0 s0_1 s0_2 3 t313 t314 t315 w0 _ ?side1 ?side2 A2.out) ?_;(case side1=>repeat (first|(with_reducible first|exact HI0.out|apply IsS127.alloc|apply IsS127.drewN|apply IsS127.drew|apply IsS127.set_1|apply IsS127.set_2|refine IsS127.far ?_ NB0_312.out _)|exact HI0.out));(case side2=>repeat (first|(with_reducible first|exact HB.out|apply pa|apply pb|apply pd|refine pt ?_ (IsS127.ge HI0.out)|refine pt ?_ GE312.out)|exact HB.out));rintro e w9 ⟨rfl,hi,hb,hk⟩;refine ⟨_,rfl,?_⟩;replace BK312:=am (KeepBut.blk hk (g':=gb312) (o:=.cells #[.int .i64 0, .int .i64 0] 30 (0,0)) (yB BK312) NB312_0.out D43);replace HK:=am (KeepBut.trans D24 hk (.inl rfl));replace HB:=am (hb);replace HI0:=am (hi);clear hb hk hi)|((with_reducible refine gD 3 ?_);refine gB (cs:=#[.int .i64 0, .int .i64 0]) 30 ?_;intro gb316 hg w10 hbox hb;replace HB:=am (pu D99 hb);have BK316:=am (hbox);have GW316:=am ((by rw [hg];exact (keep_size (w:=w) (g:=g) (row:=none) D24):w.heap.size≤gb316));have GE316:=am ((Nat.le_trans HW0.out (by rw [hg];exact (keep_size (w:=w) (g:=g) (row:=none) D24):w.heap.size≤gb316):w0.heap.size≤gb316));replace HK:=am (KeepBut.trans D24 (KeepBut.of_below hb g none) (.inl rfl));have NB312_316:=yl BK312 hg;have NB316_312:=yg BK312 hg;replace BK312:=yb BK312 hb;have NB0_316:=am ((by rw [hg];exact Nat.ne_of_lt (IsS127.lt (show IsS127 w0 _ g s0_0 t314 t315 from by repeat (first|(with_reducible first|exact HI0.out|apply IsS127.alloc|apply IsS127.drewN|apply IsS127.drew|apply IsS127.set_1|apply IsS127.set_2|refine IsS127.far ?_ NB0_312.out _)|exact HI0.out))):g ≠ gb316));have NB316_0:=am ((by rw [hg];exact Nat.ne_of_gt (IsS127.lt (show IsS127 w0 _ g s0_0 t314 t315 from by repeat (first|(with_reducible first|exact HI0.out|apply IsS127.alloc|apply IsS127.drewN|apply IsS127.drew|apply IsS127.set_1|apply IsS127.set_2|refine IsS127.far ?_ NB0_312.out _)|exact HI0.out))):gb316 ≠ g));replace HI0:=am (IsS127.below D77 hb);clear hb hbox hg;have hnb11:=NB316_312.out;have hnc11:=NB312_316.out;have hnb12:=NB316_0.out;have hnc12:=NB0_316.out;obtain ⟨hcz13_0,hcz13_1,hfz13_0,hfz13_1⟩:=yk2 BK316))
  generalize hw_:((w10.setCell ⟨gb316,0,none⟩ (.int .i64 0)).setCell ⟨gb316,1,none⟩ (.int .i64 (wrap64 (2+t313))))=w14
  replace BK312:Aside0 (w14.heap[gb312]? = some (.cells #[.int .i64 0, .int .i64 0] 30 (0,0))):=⟨by rw [← hw_];exact yF BK312⟩
  replace BK316:Aside0 (w14.heap[gb316]? = some (.cells #[.int .i64 0, .int .i64 (wrap64 (2+t313))] 30 (0,0))):=⟨D84⟩
  replace HK:Aside0 (KeepBut w w14 g none):=⟨D73⟩
  replace HB:Aside0 (Below w0.heap.size w0 w14):=⟨D82⟩
  replace HI0:Aside0 (IsS127 w0 w14 g s0_0 t314 t315):=⟨D69⟩
  clear hw_
  replace BK312:=am (qd BK312.out)
  replace BK316:=am (qd BK316.out)
  replace HI0:=am (IsS127.drew HI0.out)
  replace HK:=am (keep_drew HK.out)
  replace HB:=am (pd HB.out)
  refine rS (n:=9) (S:=fun w'=>w'.cell? ⟨gb316,0,none⟩=some (.int .i64 0)∧w'.cell? ⟨gb316,1,none⟩=some (.int .i64 (wrap64 (2+t313)))) (ds:=[8]) [(0,8),(4,12),(1,9),(2,10),(3,11),(5,0),(6,14),(7,15),(8,0)] D5 rfl spec_l1Cur_msr.tab2 spec_l1Cur_msr.bits2 ⟨yk BK316 0,yk BK316 1⟩ (fun hHeld HT_ HW_=>?_)
  generalize w14.drew=w15 at BK312 BK316 HI0 HK HB hHeld ⊢
  refine rR ?_
  refine rO (N:=some 13) HT_ rfl rfl D5 D8 (fun K hK=>?_)
  refine goes_ Try.func95 D5 rfl #[.pointer (some ⟨g,0,none⟩), .int .i64 4] D15 rfl rfl D10 ?_
  with_reducible refine (spec_l1Cur_pick.calls g s0_0 t314 t315 4 t317 t318 t319 w0 _ ?side1 ?side2 A3.out).mono ?_
  (case side1=>repeat (first|(with_reducible first|exact HI0.out|apply IsS127.alloc|apply IsS127.drewN|apply IsS127.drew|apply IsS127.set_1|apply IsS127.set_2|refine IsS127.far ?_ NB0_312.out _|refine IsS127.far ?_ NB0_316.out _)|exact HI0.out))
  (case side2=>repeat (first|(with_reducible first|exact HB.out|apply pa|apply pb|apply pd|refine pt ?_ (IsS127.ge HI0.out)|refine pt ?_ GE312.out|refine pt ?_ GE316.out)|exact HB.out))
  rintro e w16 ⟨rfl,hi,hb,hk⟩
  refine ⟨_,rfl,?_⟩
  replace BK312:=am (KeepBut.blk hk (g':=gb312) (o:=.cells #[.int .i64 0, .int .i64 0] 30 (0,0)) (yB BK312) NB312_0.out D43)
  replace BK316:=am (KeepBut.blk hk (g':=gb316) (o:=.cells #[.int .i64 0, .int .i64 (wrap64 (2+t313))] 30 (0,0)) (yB BK316) NB316_0.out D43)
  replace HK:=am (KeepBut.trans D22 hk (.inl rfl))
  replace HB:=am (hb)
  replace HI0:=am (hi)
  (try clear hb)
  (try clear hb2)
  (try clear hk)
  (try clear hi)
  refine hK.out _ _ ⟨yk BK316 0,yk BK316 1⟩ (fun hHeld=>?_)
  clear hK K
  refine rN (nA 13) ?_
  refine rR ?_
  refine rL (N:=none) HT_ rfl rfl D5 D8 (fun K hK=>?_)
  have hs17:w16.cell? ⟨gb316,0,none⟩=some (.int .i64 0):=(blk_cell BK316.out 0).trans rfl
  have hfs17:=blk_frozen BK316.out 0
  have hns17_0:=NB312_316.out
  have hms17_0:=NB316_312.out
  refine skip_ (w1:=?_) D15 rfl ?_ ?_
  rotate_left
  ·go_simp
   rfl
  refine hK.out _ _ ?_
  clear hK K
  refine rD HT_ D5 ?_
  try go_wp2_with (first|((with_reducible refine gC 101 ?_);refine gM (some 17) Try.func101 (args:=#[.pointer (some ⟨g,0,none⟩), .int .i64 20]) (spec_l1Cur_one.calls g s0_0 t318 t319 20 true t321 t322 w0 _ ?side1 ?side2 A4.out) ?_;(case side1=>repeat (first|(with_reducible first|exact HI0.out|apply IsS127.alloc|apply IsS127.drewN|apply IsS127.drew|apply IsS127.set_1|apply IsS127.set_2|refine IsS127.far ?_ NB0_312.out _|refine IsS127.far ?_ NB0_316.out _)|exact HI0.out));(case side2=>repeat (first|(with_reducible first|exact HB.out|apply pa|apply pb|apply pd|refine pt ?_ (IsS127.ge HI0.out)|refine pt ?_ GE312.out|refine pt ?_ GE316.out)|exact HB.out));rintro e w18 ⟨rfl,hi,hb,hk⟩;refine ⟨_,rfl,?_⟩;replace BK312:=am (KeepBut.blk hk (g':=gb312) (o:=.cells #[.int .i64 0, .int .i64 0] 30 (0,0)) (yF BK312) NB312_0.out D43);replace BK316:=am (KeepBut.blk hk (g':=gb316) (o:=.cells #[.int .i64 (wrap64 ((wrap64 ((wrap64 (2*(wrap64 (2+t313)))) - 1))+t317)), .int .i64 (wrap64 (2+t313))] 30 (0,0)) (by refine sB ?_;refine blk_put (cs:=#[.int .i64 0, .int .i64 (wrap64 (2+t313))]) ?_ 0 _ rfl;exact yB BK316) NB316_0.out D43);replace HK:=am (KeepBut.trans D22 hk (.inl rfl));replace HB:=am (hb);replace HI0:=am (hi);clear hb hk hi)|((with_reducible refine gC 95 ?_);refine gM (some 19) Try.func95 (args:=#[.pointer (some ⟨g,0,none⟩), .int .i64 17]) (spec_l1Cur_pick.calls g s0_0 t321 t322 17 t323 t324 t325 w0 _ ?side1 ?side2 A6.out) ?_;(case side1=>repeat (first|(with_reducible first|exact HI0.out|apply IsS127.alloc|apply IsS127.drewN|apply IsS127.drew|apply IsS127.set_1|apply IsS127.set_2|refine IsS127.far ?_ NB0_312.out _|refine IsS127.far ?_ NB0_316.out _)|exact HI0.out));(case side2=>repeat (first|(with_reducible first|exact HB.out|apply pa|apply pb|apply pd|refine pt ?_ (IsS127.ge HI0.out)|refine pt ?_ GE312.out|refine pt ?_ GE316.out)|exact HB.out));rintro e w19 ⟨rfl,hi,hb,hk⟩;refine ⟨_,rfl,?_⟩;replace BK312:=am (KeepBut.blk hk (g':=gb312) (o:=.cells #[.int .i64 0, .int .i64 0] 30 (0,0)) (yB BK312) NB312_0.out D43);replace BK316:=am (KeepBut.blk hk (g':=gb316) (o:=.cells #[.int .i64 (wrap64 ((wrap64 ((wrap64 (2*(wrap64 (2+t313)))) - 1))+t317)), .int .i64 (wrap64 (2+t313))] 30 (0,0)) (yB BK316) NB316_0.out D43);replace HK:=am (KeepBut.trans D22 hk (.inl rfl));replace HB:=am (hb);replace HI0:=am (hi);clear hb hk hi)|((with_reducible refine gC 95 ?_);refine gM (some 21) Try.func95 (args:=#[.pointer (some ⟨g,0,none⟩), .int .i64 7]) (spec_l1Cur_pick.calls g s0_0 t324 t325 7 t326 t327 t328 w0 _ ?side1 ?side2 A7.out) ?_;(case side1=>repeat (first|(with_reducible first|exact HI0.out|apply IsS127.alloc|apply IsS127.drewN|apply IsS127.drew|apply IsS127.set_1|apply IsS127.set_2|refine IsS127.far ?_ NB0_312.out _|refine IsS127.far ?_ NB0_316.out _)|exact HI0.out));(case side2=>repeat (first|(with_reducible first|exact HB.out|apply pa|apply pb|apply pd|refine pt ?_ (IsS127.ge HI0.out)|refine pt ?_ GE312.out|refine pt ?_ GE316.out)|exact HB.out));rintro e w20 ⟨rfl,hi,hb,hk⟩;refine ⟨_,rfl,?_⟩;replace BK312:=am (KeepBut.blk hk (g':=gb312) (o:=.cells #[.int .i64 0, .int .i64 0] 30 (0,0)) (yB BK312) NB312_0.out D43);replace BK316:=am (KeepBut.blk hk (g':=gb316) (o:=.cells #[.int .i64 (wrap64 ((wrap64 ((wrap64 (2*(wrap64 (2+t313)))) - 1))+t317)), .int .i64 (wrap64 (2+t313))] 30 (0,0)) (yB BK316) NB316_0.out D43);replace HK:=am (KeepBut.trans D22 hk (.inl rfl));replace HB:=am (hb);replace HI0:=am (hi);clear hb hk hi;obtain ⟨hcz21_0,hcz21_1,hfz21_0,hfz21_1⟩:=yk2 BK316;have hnb22:=NB312_0.out;have hnc22:=NB0_312.out;obtain ⟨hcz23_0,hcz23_1,hfz23_0,hfz23_1⟩:=yk2 BK312))
  refine bodyPost_ret (results_cell_row rfl _ _ gb312 30 #[.int .i64 t323, .int .i64 t326] (0,0) _ rfl (by refine sB ?_;refine blk_put (cs:=#[.int .i64 t323, .int .i64 0]) ?_ 1 _ rfl;refine sB ?_;refine blk_put (cs:=#[.int .i64 0, .int .i64 0]) ?_ 0 _ rfl;exact yF BK312) Try.underlying30 rfl D5) rfl ?_
  exact ⟨D2,D70,D86,D22⟩
 replace c5:=Bool.eq_false_iff.mpr c5
 subst c5
 replace H:=yn H
 simp only [Option.some.injEq,Prod.mk.injEq] at H
 obtain ⟨rfl,rfl,rfl,rfl⟩:=H
 go_enter Try.func100,Try.ntmps100
 try go_wp2_with (first|((with_reducible refine gD 2 ?_);refine gB (cs:=#[.int .i64 0, .int .i64 0]) 30 ?_;intro gb312 hg w24 hbox hb;replace HB:=am (pu D7 hb);have BK312:=am (hbox);have GW312:=am ((by rw [hg];exact (keep_size (w:=w) (g:=g) (row:=none) D3):w.heap.size≤gb312));have GE312:=am ((Nat.le_trans HW0.out (by rw [hg];exact (keep_size (w:=w) (g:=g) (row:=none) D3):w.heap.size≤gb312):w0.heap.size≤gb312));replace HK:=am (KeepBut.trans D3 (KeepBut.of_below hb g none) (.inl rfl));have NB0_312:=am ((by rw [hg];exact Nat.ne_of_lt (IsS127.lt (show IsS127 w0 _ g s0_0 s0_1 s0_2 from by repeat (first|(with_reducible first|exact HI0.out|apply IsS127.alloc|apply IsS127.drewN|apply IsS127.drew|apply IsS127.set_1|apply IsS127.set_2)|exact HI0.out))):g ≠ gb312));have NB312_0:=am ((by rw [hg];exact Nat.ne_of_gt (IsS127.lt (show IsS127 w0 _ g s0_0 s0_1 s0_2 from by repeat (first|(with_reducible first|exact HI0.out|apply IsS127.alloc|apply IsS127.drewN|apply IsS127.drew|apply IsS127.set_1|apply IsS127.set_2)|exact HI0.out))):gb312 ≠ g));replace HI0:=am (IsS127.below D6 hb);clear hb hbox hg)|((with_reducible refine gC 95 ?_);refine gM (some 5) Try.func95 (args:=#[.pointer (some ⟨g,0,none⟩), .int .i64 3]) (spec_l1Cur_pick.calls g s0_0 s0_1 s0_2 3 t313 t314 t315 w0 _ ?side1 ?side2 A2.out) ?_;(case side1=>repeat (first|(with_reducible first|exact HI0.out|apply IsS127.alloc|apply IsS127.drewN|apply IsS127.drew|apply IsS127.set_1|apply IsS127.set_2|refine IsS127.far ?_ NB0_312.out _)|exact HI0.out));(case side2=>repeat (first|(with_reducible first|exact HB.out|apply pa|apply pb|apply pd|refine pt ?_ (IsS127.ge HI0.out)|refine pt ?_ GE312.out)|exact HB.out));rintro e w25 ⟨rfl,hi,hb,hk⟩;refine ⟨_,rfl,?_⟩;replace BK312:=am (KeepBut.blk hk (g':=gb312) (o:=.cells #[.int .i64 0, .int .i64 0] 30 (0,0)) (yB BK312) NB312_0.out D43);replace HK:=am (KeepBut.trans D24 hk (.inl rfl));replace HB:=am (hb);replace HI0:=am (hi);clear hb hk hi)|((with_reducible refine gD 3 ?_);refine gB (cs:=#[.int .i64 0, .int .i64 0]) 30 ?_;intro gb316 hg w26 hbox hb;replace HB:=am (pu D99 hb);have BK316:=am (hbox);have GW316:=am ((by rw [hg];exact (keep_size (w:=w) (g:=g) (row:=none) D24):w.heap.size≤gb316));have GE316:=am ((Nat.le_trans HW0.out (by rw [hg];exact (keep_size (w:=w) (g:=g) (row:=none) D24):w.heap.size≤gb316):w0.heap.size≤gb316));replace HK:=am (KeepBut.trans D24 (KeepBut.of_below hb g none) (.inl rfl));have NB312_316:=yl BK312 hg;have NB316_312:=yg BK312 hg;replace BK312:=yb BK312 hb;have NB0_316:=am ((by rw [hg];exact Nat.ne_of_lt (IsS127.lt (show IsS127 w0 _ g s0_0 t314 t315 from by repeat (first|(with_reducible first|exact HI0.out|apply IsS127.alloc|apply IsS127.drewN|apply IsS127.drew|apply IsS127.set_1|apply IsS127.set_2|refine IsS127.far ?_ NB0_312.out _)|exact HI0.out))):g ≠ gb316));have NB316_0:=am ((by rw [hg];exact Nat.ne_of_gt (IsS127.lt (show IsS127 w0 _ g s0_0 t314 t315 from by repeat (first|(with_reducible first|exact HI0.out|apply IsS127.alloc|apply IsS127.drewN|apply IsS127.drew|apply IsS127.set_1|apply IsS127.set_2|refine IsS127.far ?_ NB0_312.out _)|exact HI0.out))):gb316 ≠ g));replace HI0:=am (IsS127.below D77 hb);clear hb hbox hg;have hnb27:=NB316_312.out;have hnc27:=NB312_316.out;have hnb28:=NB316_0.out;have hnc28:=NB0_316.out;obtain ⟨hcz29_0,hcz29_1,hfz29_0,hfz29_1⟩:=yk2 BK316))
 generalize hw_:((w26.setCell ⟨gb316,0,none⟩ (.int .i64 0)).setCell ⟨gb316,1,none⟩ (.int .i64 (wrap64 (2+t313))))=w30
 replace BK312:Aside0 (w30.heap[gb312]? = some (.cells #[.int .i64 0, .int .i64 0] 30 (0,0))):=⟨by rw [← hw_];exact yF BK312⟩
 replace BK316:Aside0 (w30.heap[gb316]? = some (.cells #[.int .i64 0, .int .i64 (wrap64 (2+t313))] 30 (0,0))):=⟨D84⟩
 replace HK:Aside0 (KeepBut w w30 g none):=⟨D73⟩
 replace HB:Aside0 (Below w0.heap.size w0 w30):=⟨D82⟩
 replace HI0:Aside0 (IsS127 w0 w30 g s0_0 t314 t315):=⟨D69⟩
 clear hw_
 replace BK312:=am (qd BK312.out)
 replace BK316:=am (qd BK316.out)
 replace HI0:=am (IsS127.drew HI0.out)
 replace HK:=am (keep_drew HK.out)
 replace HB:=am (pd HB.out)
 refine rS (n:=9) (S:=fun w'=>w'.cell? ⟨gb316,0,none⟩=some (.int .i64 0)∧w'.cell? ⟨gb316,1,none⟩=some (.int .i64 (wrap64 (2+t313)))) (ds:=[8]) [(0,8),(4,12),(1,9),(2,10),(3,11),(5,0),(6,14),(7,15),(8,0)] D5 rfl spec_l1Cur_msr.tab2 spec_l1Cur_msr.bits2 ⟨yk BK316 0,yk BK316 1⟩ (fun hHeld HT_ HW_=>?_)
 generalize w30.drew=w31 at BK312 BK316 HI0 HK HB hHeld ⊢
 refine rR ?_
 refine rO (N:=some 13) HT_ rfl rfl D5 D8 (fun K hK=>?_)
 refine goes_ Try.func95 D5 rfl #[.pointer (some ⟨g,0,none⟩), .int .i64 4] D15 rfl rfl D10 ?_
 with_reducible refine (spec_l1Cur_pick.calls g s0_0 t314 t315 4 t317 t318 t319 w0 _ ?side1 ?side2 A3.out).mono ?_
 (case side1=>repeat (first|(with_reducible first|exact HI0.out|apply IsS127.alloc|apply IsS127.drewN|apply IsS127.drew|apply IsS127.set_1|apply IsS127.set_2|refine IsS127.far ?_ NB0_312.out _|refine IsS127.far ?_ NB0_316.out _)|exact HI0.out))
 (case side2=>repeat (first|(with_reducible first|exact HB.out|apply pa|apply pb|apply pd|refine pt ?_ (IsS127.ge HI0.out)|refine pt ?_ GE312.out|refine pt ?_ GE316.out)|exact HB.out))
 rintro e w32 ⟨rfl,hi,hb,hk⟩
 refine ⟨_,rfl,?_⟩
 replace BK312:=am (KeepBut.blk hk (g':=gb312) (o:=.cells #[.int .i64 0, .int .i64 0] 30 (0,0)) (yB BK312) NB312_0.out D43)
 replace BK316:=am (KeepBut.blk hk (g':=gb316) (o:=.cells #[.int .i64 0, .int .i64 (wrap64 (2+t313))] 30 (0,0)) (yB BK316) NB316_0.out D43)
 replace HK:=am (KeepBut.trans D22 hk (.inl rfl))
 replace HB:=am (hb)
 replace HI0:=am (hi)
 (try clear hb)
 (try clear hb2)
 (try clear hk)
 (try clear hi)
 refine hK.out _ _ ⟨yk BK316 0,yk BK316 1⟩ (fun hHeld=>?_)
 clear hK K
 refine rN (nA 13) ?_
 refine rR ?_
 refine rL (N:=none) HT_ rfl rfl D5 D8 (fun K hK=>?_)
 have hs33:w32.cell? ⟨gb316,0,none⟩=some (.int .i64 0):=(blk_cell BK316.out 0).trans rfl
 have hfs33:=blk_frozen BK316.out 0
 have hns33_0:=NB312_316.out
 have hms33_0:=NB316_312.out
 refine skip_ (w1:=?_) D15 rfl ?_ ?_
 rotate_left
 ·go_simp
  rfl
 refine hK.out _ _ ?_
 clear hK K
 refine rD HT_ D5 ?_
 try go_wp2_with (first|((with_reducible refine gC 101 ?_);refine gM (some 17) Try.func101 (args:=#[.pointer (some ⟨g,0,none⟩), .int .i64 20]) (spec_l1Cur_one.calls g s0_0 t318 t319 20 false t321 t322 w0 _ ?side1 ?side2 A4.out) ?_;(case side1=>repeat (first|(with_reducible first|exact HI0.out|apply IsS127.alloc|apply IsS127.drewN|apply IsS127.drew|apply IsS127.set_1|apply IsS127.set_2|refine IsS127.far ?_ NB0_312.out _|refine IsS127.far ?_ NB0_316.out _)|exact HI0.out));(case side2=>repeat (first|(with_reducible first|exact HB.out|apply pa|apply pb|apply pd|refine pt ?_ (IsS127.ge HI0.out)|refine pt ?_ GE312.out|refine pt ?_ GE316.out)|exact HB.out));rintro e w34 ⟨rfl,hi,hb,hk⟩;refine ⟨_,rfl,?_⟩;replace BK312:=am (KeepBut.blk hk (g':=gb312) (o:=.cells #[.int .i64 0, .int .i64 0] 30 (0,0)) (yF BK312) NB312_0.out D43);replace BK316:=am (KeepBut.blk hk (g':=gb316) (o:=.cells #[.int .i64 (wrap64 ((wrap64 ((wrap64 (2*(wrap64 (2+t313)))) - 1))+t317)), .int .i64 (wrap64 (2+t313))] 30 (0,0)) (by refine sB ?_;refine blk_put (cs:=#[.int .i64 0, .int .i64 (wrap64 (2+t313))]) ?_ 0 _ rfl;exact yB BK316) NB316_0.out D43);replace HK:=am (KeepBut.trans D22 hk (.inl rfl));replace HB:=am (hb);replace HI0:=am (hi);clear hb hk hi;obtain ⟨hcz35_0,hcz35_1,hfz35_0,hfz35_1⟩:=yk2 BK316;have hnb36:=NB312_0.out;have hnc36:=NB0_312.out;obtain ⟨hcz37_0,hcz37_1,hfz37_0,hfz37_1⟩:=yk2 BK312))
 refine bodyPost_ret (results_cell_row rfl _ _ gb312 30 #[.int .i64 (wrap64 ((wrap64 ((wrap64 (2*(wrap64 (2+t313)))) - 1))+t317)), .int .i64 (wrap64 (2+t313))] (0,0) _ rfl (by refine sB ?_;refine blk_put (cs:=#[.int .i64 (wrap64 ((wrap64 ((wrap64 (2*(wrap64 (2+t313)))) - 1))+t317)), .int .i64 0]) ?_ 1 _ rfl;refine sB ?_;refine blk_put (cs:=#[.int .i64 0, .int .i64 0]) ?_ 0 _ rfl;exact yB BK312) Try.underlying30 rfl D5) rfl ?_
 exact ⟨D2,D70,D86,D22⟩

def spec_l1Cur_among.f (s0_0:List Int) (s0_1:Int) (s0_2:Int) (l1:List Int):Option (Int × Int × Int):=(spec_l1Cur_pick.f s0_0 s0_1 s0_2 (l1.length:Int)).bind fun bt329=>(if 0≤bt329.1 then (if bt329.1 < (l1.length:Int) then (some (rd l1 bt329.1,bt329.2.1,bt329.2.2)) else (none)) else (none))
theorem spec_l1Cur_among.calls (g:Nat) (s0_0:List Int) (s0_1:Int) (s0_2:Int) (A1:Option Addr) (c1:Nat) (l1:List Int) (r1:Int) (r2:Int) (r3:Int) (w0 w:World) (hI:IsS127 w0 w g s0_0 s0_1 s0_2) (hB:Below w0.heap.size w0 w) (hr1:Kd.C (Kd.int .i64) w A1 l1.length l1) (hc1:l1.length≤c1) (hf1:∀ ad,A1=some ad→0 < l1.length→ad.block ≠ g) (h:spec_l1Cur_among.f s0_0 s0_1 s0_2 l1=some (r1,r2,r3)) :
  Calls Try.prog 158 #[.pointer (some ⟨g,0,none⟩), .slice A1 l1.length c1] w fun e w'=>e = .returned (.int .i64 r1)∧IsS127 w0 w' g s0_0 r2 r3∧Below w0.heap.size w0 w'∧KeepBut w w' g none:=by
 have HR1:=am hr1
 have HC1:=am hc1
 clear hr1 hc1
 have HI0:=am hI
 have HK:=am (KeepBut.refl w g none)
 have HL:=am hB.size
 clear hI
 have HW0:=am hB.size
 have HB:=am hB
 clear hB
 have H:=h
 unfold spec_l1Cur_among.f at H
 clear h
 obtain ⟨⟨t329,t330,t331⟩,A3,H⟩:=yo H
 try dsimp only at H
 by_cases c4:0≤t329
 ·rw [if_pos c4] at H
  have c4b0:=decide_eq_true c4
  clear c4
  obtain ⟨c5,H⟩:=yi H
  have c5b0:=decide_eq_true c5
  clear c5
  simp only [Option.some.injEq,Prod.mk.injEq] at H
  obtain ⟨rfl,rfl,rfl⟩:=H
  go_enter Try.func158,Try.ntmps158
  go_wp2_with (first|((with_reducible refine gC 95 ?_);refine gM (some 9) Try.func95 (args:=#[.pointer (some ⟨g,0,none⟩), .int .i64 (l1.length:Int)]) (spec_l1Cur_pick.calls g s0_0 s0_1 s0_2 (l1.length:Int) t329 t330 t331 w0 _ ?side1 ?side2 A3.out) ?_;(case side1=>repeat (first|(with_reducible first|exact HI0.out|apply IsS127.alloc|apply IsS127.drewN|apply IsS127.drew|apply IsS127.set_1|apply IsS127.set_2)|exact HI0.out));(case side2=>repeat (first|(with_reducible first|exact HB.out|apply pa|apply pb|apply pd|refine pt ?_ (IsS127.ge HI0.out))|exact HB.out));rintro e w6 ⟨rfl,hi,hb,hk⟩;refine ⟨_,rfl,?_⟩;replace HK:=am (KeepBut.trans D3 hk (.inl rfl));replace HB:=am (hb);replace HI0:=am (hi);clear hb hk hi;have p332:0≤(t329:Int):=od D0;have q332:t329 < (l1.length:Int):=od D0;obtain ⟨ad332,e332,hx332_0⟩:=Kd.at_int HR1.out t329 p332 q332;cases e332;replace hx332_0:=keep_cell HK.out hx332_0 (by first|(rw [add_block];exact hf1 _ rfl D11)|exact hf1 _ rfl D11|exact hf1 ad332 rfl D11);replace p332:=eq_true p332;replace q332:=eq_true q332))
  go_ret
  exact ⟨D2,D6,D7,D3⟩
 rw [if_neg c4] at H
 exact absurd H D43
def spec_l1Cur_byte.f (s0_0:List Int) (s0_1:Int) (s0_2:Int):Option (Int × Int × Int):=(spec_l1Cur_one.f s0_0 s0_1 s0_2 5).bind fun bt333=>(if bt333.1=true then ((spec_l1Cur_among.f s0_0 bt333.2.1 bt333.2.2 (([0,1,2,3,255,27]:List Int))).bind fun bt339=>(some ((bt339.1) % 256,bt339.2.1,bt339.2.2))) else ((spec_l1Cur_pick.f s0_0 bt333.2.1 bt333.2.2 256).bind fun bt342=>(some ((bt342.1) % 256,bt342.2.1,bt342.2.2))))
theorem spec_l1Cur_byte.calls (g:Nat) (s0_0:List Int) (s0_1:Int) (s0_2:Int) (r1:Int) (r2:Int) (r3:Int) (w0 w:World) (hI:IsS127 w0 w g s0_0 s0_1 s0_2) (hB:Below w0.heap.size w0 w) (h:spec_l1Cur_byte.f s0_0 s0_1 s0_2=some (r1,r2,r3)) :
  Calls Try.prog 146 #[.pointer (some ⟨g,0,none⟩)] w fun e w'=>e = .returned (.int .u8 r1)∧IsS127 w0 w' g s0_0 r2 r3∧Below w0.heap.size w0 w'∧KeepBut w w' g none:=by
 have HI0:=am hI
 have HK:=am (KeepBut.refl w g none)
 have HL:=am hB.size
 clear hI
 have HW0:=am hB.size
 have HB:=am hB
 clear hB
 have H:=h
 unfold spec_l1Cur_byte.f at H
 clear h
 obtain ⟨⟨t333,t334,t335⟩,A2,H⟩:=yo H
 try dsimp only at H
 by_cases c3:t333=true
 ·subst c3
  replace H:=yt H
  generalize hy336:(([0,1,2,3,255,27]:List Int):List Int)=y336 at H
  have Ny336:=am hy336.symm
  clear hy336
  obtain ⟨⟨t339,t340,t341⟩,A4,H⟩:=yo H
  try dsimp only at H
  simp only [Option.some.injEq,Prod.mk.injEq] at H
  obtain ⟨rfl,rfl,rfl⟩:=H
  go_enter Try.func146,Try.ntmps146
  go_wp2_with (first|((with_reducible refine gC 101 ?_);refine gM (some 4) Try.func101 (args:=#[.pointer (some ⟨g,0,none⟩), .int .i64 5]) (spec_l1Cur_one.calls g s0_0 s0_1 s0_2 5 true t334 t335 w0 _ ?side1 ?side2 A2.out) ?_;(case side1=>repeat (first|(with_reducible first|exact HI0.out|apply IsS127.alloc|apply IsS127.drewN|apply IsS127.drew|apply IsS127.set_1|apply IsS127.set_2)|exact HI0.out));(case side2=>repeat (first|(with_reducible first|exact HB.out|apply pa|apply pb|apply pd|refine pt ?_ (IsS127.ge HI0.out))|exact HB.out));rintro e w5 ⟨rfl,hi,hb,hk⟩;refine ⟨_,rfl,?_⟩;replace HK:=am (KeepBut.trans D3 hk (.inl rfl));replace HB:=am (hb);replace HI0:=am (hi);clear hb hk hi)|((with_reducible refine gD 6 ?_);refine Kd.R_lit (Kd.int .i64) _ 3 D15 (N:=6) D15 (xs:=([0,1,2,3,255,27]:List Int)) (inner:=[.int .i64 0, .int .i64 1, .int .i64 2, .int .i64 3, .int .i64 255, .int .i64 27]) (ok:=fun _=>True) (okp:=fun _=>True) D33 (by exact (Reps.one (show Kd.M (Kd.int .i64) _ _ _ 0 [.int .i64 0] from rfl) (Reps.one (show Kd.M (Kd.int .i64) _ _ _ 1 [.int .i64 1] from rfl) (Reps.one (show Kd.M (Kd.int .i64) _ _ _ 2 [.int .i64 2] from rfl) (Reps.one (show Kd.M (Kd.int .i64) _ _ _ 3 [.int .i64 3] from rfl) (Reps.one (show Kd.M (Kd.int .i64) _ _ _ 255 [.int .i64 255] from rfl) (Reps.one (show Kd.M (Kd.int .i64) _ _ _ 27 [.int .i64 27] from rfl) (Reps.none _ _)))))))) (fun _ hk=>hk) trivial (Below.refl _ _) (Nat.le_refl _) D43 ?_;intro v337 w6 ho7 hb hg_ hnew_;clear hg_ hnew_;(first|rw [← Ny336.out] at ho7|(simp only [Int.reduceToNat] at ho7;rw [← Ny336.out] at ho7));have HO338:=am (Kd.R_lower ho7 (keep_size (w:=w) (g:=g) (row:=none) D3));replace HK:=am (KeepBut.trans D3 (KeepBut.of_below hb g none) (.inl rfl));replace HB:=am (pu D7 hb);replace HI0:=am (IsS127.below D6 hb);clear hb ho7;obtain ⟨Ao8,co8,eo8⟩:=Kd.R_slice HO338.out;subst eo8)|((with_reducible refine gC 158 ?_);refine gM (some 7) Try.func158 (args:=#[.pointer (some ⟨g,0,none⟩), .slice Ao8 y336.length co8]) (spec_l1Cur_among.calls g s0_0 t334 t335 _ _ y336 t339 t340 t341 w0 _ ?side1 ?side2 ?side3 ?side4 ?side5 A4.out) ?_;(case side1=>repeat (first|(with_reducible first|exact HI0.out|apply IsS127.alloc|apply IsS127.drewN|apply IsS127.drew|apply IsS127.set_1|apply IsS127.set_2)|exact HI0.out));(case side2=>repeat (first|(with_reducible first|exact HB.out|apply pa|apply pb|apply pd|refine pt ?_ (IsS127.ge HI0.out))|exact HB.out));(case side3=>repeat (first|exact (Kd.R_reads' HO338.out).2.2|(with_reducible refine Kd.C_alloc ?_ _)|(with_reducible refine Kd.C_drewN ?_ _)|(with_reducible refine Kd.C_drew ?_)));(case side4=>exact (Kd.R_reads' HO338.out).2.1);(case side5=>exact far_slice (IsS127.own_ne HI0.out HO338.out D8));rintro e w9 ⟨rfl,hi,hb,hk⟩;refine ⟨_,rfl,?_⟩;replace HO338:=am (Kd.R_mono (Kd.R_keep (IsS127.apart (show IsS127 w0 _ g s0_0 t334 t335 from by repeat (first|(with_reducible first|exact HI0.out|apply IsS127.alloc|apply IsS127.drewN|apply IsS127.drew|apply IsS127.set_1|apply IsS127.set_2)|exact HI0.out)) (yR HO338) D8) hk (fun _ h=>h.2)) (fun _ h=>h.1));replace HK:=am (KeepBut.trans D3 hk (.inl rfl));replace HB:=am (hb);replace HI0:=am (hi);clear hb hk hi))
  go_ret
  exact ⟨D2,D6,D7,D3⟩
 replace c3:=Bool.eq_false_iff.mpr c3
 subst c3
 replace H:=yn H
 obtain ⟨⟨t342,t343,t344⟩,A10,H⟩:=yo H
 try dsimp only at H
 simp only [Option.some.injEq,Prod.mk.injEq] at H
 obtain ⟨rfl,rfl,rfl⟩:=H
 go_enter Try.func146,Try.ntmps146
 go_wp2_with (first|((with_reducible refine gC 101 ?_);refine gM (some 4) Try.func101 (args:=#[.pointer (some ⟨g,0,none⟩), .int .i64 5]) (spec_l1Cur_one.calls g s0_0 s0_1 s0_2 5 false t334 t335 w0 _ ?side1 ?side2 A2.out) ?_;(case side1=>repeat (first|(with_reducible first|exact HI0.out|apply IsS127.alloc|apply IsS127.drewN|apply IsS127.drew|apply IsS127.set_1|apply IsS127.set_2)|exact HI0.out));(case side2=>repeat (first|(with_reducible first|exact HB.out|apply pa|apply pb|apply pd|refine pt ?_ (IsS127.ge HI0.out))|exact HB.out));rintro e w11 ⟨rfl,hi,hb,hk⟩;refine ⟨_,rfl,?_⟩;replace HK:=am (KeepBut.trans D3 hk (.inl rfl));replace HB:=am (hb);replace HI0:=am (hi);clear hb hk hi)|((with_reducible refine gC 95 ?_);refine gM (some 10) Try.func95 (args:=#[.pointer (some ⟨g,0,none⟩), .int .i64 256]) (spec_l1Cur_pick.calls g s0_0 t334 t335 256 t342 t343 t344 w0 _ ?side1 ?side2 A10.out) ?_;(case side1=>repeat (first|(with_reducible first|exact HI0.out|apply IsS127.alloc|apply IsS127.drewN|apply IsS127.drew|apply IsS127.set_1|apply IsS127.set_2)|exact HI0.out));(case side2=>repeat (first|(with_reducible first|exact HB.out|apply pa|apply pb|apply pd|refine pt ?_ (IsS127.ge HI0.out))|exact HB.out));rintro e w12 ⟨rfl,hi,hb,hk⟩;refine ⟨_,rfl,?_⟩;replace HK:=am (KeepBut.trans D3 hk (.inl rfl));replace HB:=am (hb);replace HI0:=am (hi);clear hb hk hi))
 go_ret
 exact ⟨D2,D6,D7,D3⟩

def spec_l1Cur_vector.l0:Nat→Int→List Int→List Int→Int→Int→Option (List Int × Int × Int)
 | 0,_,_,_,_,_=>none
 | k+1,x1,x5,x1000,x1001,x1002=>if x1 > 0 then ((spec_l1Cur_byte.f x1000 x1001 x1002).bind fun bt345=>(if x5.length < 140737488355328 then (spec_l1Cur_vector.l0 k (wrap64 (x1 - 1)) (x5 ++ [bt345.1]) x1000 bt345.2.1 bt345.2.2) else (none))) else (some (x5,x1001,x1002))
def spec_l1Cur_vector.f (k:Nat) (s0_0:List Int) (s0_1:Int) (s0_2:Int) (a1:Int):Option (List Int × Int × Int):=spec_l1Cur_vector.l0 k a1 ([]:List Int) s0_0 s0_1 s0_2
theorem spec_l1Cur_vector.mono_l:∀ k,(∀ y0 y1 y2 y3 y4,LeO (spec_l1Cur_vector.l0 k y0 y1 y2 y3 y4) (spec_l1Cur_vector.l0 (k+1) y0 y1 y2 y3 y4))
 | 0=>fun _ _ _ _ _ r h=>by simp [spec_l1Cur_vector.l0] at h
 | k+1=>by
  have ih0:=spec_l1Cur_vector.mono_l k
  intro y0 y1 y2 y3 y4
  unfold spec_l1Cur_vector.l0
  exact mm
theorem spec_l1Cur_vector.mono:∀ a0 a1 a2 a3 k,LeO (spec_l1Cur_vector.f k a0 a1 a2 a3) (spec_l1Cur_vector.f (k+1) a0 a1 a2 a3):=by
 intro a0 a1 a2 a3 k
 have ih0:=spec_l1Cur_vector.mono_l k
 unfold spec_l1Cur_vector.f
 exact mm
theorem spec_l1Cur_vector.calls (k:Nat) (g:Nat) (s0_0:List Int) (s0_1:Int) (s0_2:Int) (a1:Int) (r1:List Int) (r2:Int) (r3:Int) (w0 w:World) (hI:IsS127 w0 w g s0_0 s0_1 s0_2) (hB:Below w0.heap.size w0 w) (h:spec_l1Cur_vector.f k s0_0 s0_1 s0_2 a1=some (r1,r2,r3)) :
  Calls Try.prog 102 #[.pointer (some ⟨g,0,none⟩), .int .i64 a1] w fun e w'=>∃ v0_:Value,e = .returned (v0_)∧Kd.R (Kd.int .u8) 5 w' w.heap.size (fun _=>True) v0_ r1∧IsS127 w0 w' g s0_0 r2 r3∧Below w0.heap.size w0 w'∧KeepBut w w' g none:=by
 have HI0:=am hI
 have HK:=am (KeepBut.refl w g none)
 have HL:=am hB.size
 clear hI
 have HW0:=am hB.size
 have HB:=am hB
 clear hB
 have H:=h
 unfold spec_l1Cur_vector.f at H
 clear h
 have H':=am H
 clear H
 go_enter Try.func102,Try.ntmps102
 go_wp2
 go_loopg [1,5] k (fun kq v1 v5 w'=>∃ (x1_1:Int) (x5_1:List Int) (x1001_1:Int) (x1002_1:Int),v1 = .int .i64 x1_1∧Aside0 (spec_l1Cur_vector.l0 kq x1_1 x5_1 s0_0 x1001_1 x1002_1=some (r1,r2,r3))∧Aside0 (kq≤k)∧Aside0 (Kd.R (Kd.int .u8) 5 w' w.heap.size (fun _=>True) v5 x5_1)∧Aside0 (IsS127 w0 w' g s0_0 x1001_1 x1002_1)∧Aside0 (KeepBut w w' g none)∧Aside0 (Below w0.heap.size w0 w'))
 case atStart=>exact ⟨(a1),(([]:List Int)),(s0_1),(s0_2),D1,H',⟨Nat.le_refl _⟩,⟨D14⟩,⟨D6⟩,⟨D3⟩,⟨D7⟩⟩
 case round =>
  clear H'
  try clear c1
  try clear p2
  obtain ⟨x1_1,x5_1,x1001_1,x1002_1,rfl,HA,HK1,HO_5,HI0,HK,HB⟩:=hrel
  cases gk with
  | zero=>exact absurd HA.out (by simp [spec_l1Cur_vector.l0])
  | succ k1 =>
   have H:=HA.out
   clear HA
   simp only [spec_l1Cur_vector.l0] at H
   by_cases c3:x1_1 > 0
   ·rw [if_pos c3] at H
    have c3b0:decide (0 < x1_1)=true:=decide_eq_true c3
    clear c3
    obtain ⟨⟨t345,t346,t347⟩,A4,H⟩:=yo H
    try dsimp only at H
    obtain ⟨c5,H⟩:=yi H
    have LMc5:=am c5
    clear c5
    generalize hy348:(x5_1 ++ [t345]:List Int)=y348 at H
    have Ny348:=am hy348.symm
    clear hy348
    have H':=am H
    clear H
    go_wp2_with (first|((with_reducible refine gC 146 ?_);refine gM (some 12) Try.func146 (args:=#[.pointer (some ⟨g,0,none⟩)]) (spec_l1Cur_byte.calls g s0_0 x1001_1 x1002_1 t345 t346 t347 w0 _ ?side1 ?side2 A4.out) ?_;(case side1=>repeat (first|(with_reducible first|exact HI0.out|apply IsS127.alloc|apply IsS127.drewN|apply IsS127.drew|apply IsS127.set_1|apply IsS127.set_2)|exact HI0.out));(case side2=>repeat (first|(with_reducible first|exact HB.out|apply pa|apply pb|apply pd|refine pt ?_ (IsS127.ge HI0.out))|exact HB.out));rintro e w6 ⟨rfl,hi,hb,hk⟩;refine ⟨_,rfl,?_⟩;replace HO_5:=am (Kd.R_mono (Kd.R_keep (IsS127.apart (show IsS127 w0 _ g s0_0 x1001_1 x1002_1 from by repeat (first|(with_reducible first|exact HI0.out|apply IsS127.alloc|apply IsS127.drewN|apply IsS127.drew|apply IsS127.set_1|apply IsS127.set_2)|exact HI0.out)) (yR HO_5) D8) hk (fun _ h=>h.2)) (fun _ h=>h.1));replace HK:=am (KeepBut.trans D3 hk (.inl rfl));replace HB:=am (hb);replace HI0:=am (hi);clear hb hk hi)|((with_reducible refine gate_builtin (b:=.append) (xs:=#[.tmp 10, .tmp 13]) rfl ?_);at_builtin;refine Kd.R_append (Kd.int .u8) w.heap.size rfl (.tmp 10) (.tmp 13) 24 5 (.int .u8 0) 1 rfl Try.underlying24 info5 rfl D8 D11 u5 x5_1 t345 [.int .u8 t345] (fun _=>True) (fun _=>False) rfl rfl D79 (fun _ hk=>hk.elim) D41 (by exact (yR HO_5)) (Below.refl _ _) (by exact (keep_size (w:=w) (g:=g) (row:=none) D3)) (by have:=LMc5.out;omega) ?_;intro v349 w7 ho hb hg hat;rw [← Ny348.out] at ho;have n0_:=am (IsS127.grown D6 hg (IsS127.own_ne HI0.out HO_5.out D8));have n1_:=am (below_weaken D7 HL.out hb);have n2_:=am (KeepBut.trans D3 (KeepBut.of_grown hg g) (Kd.R_base2 HO_5.out));have n3_:=am (ho);clear HI0 HB HK HO_5;have HI0:=n0_;have HB:=n1_;have HK:=n2_;have HO350:=n3_;clear n0_ n1_ n2_ n3_ ho hb hg hat))
    go_roundg k1
    case measure=>have:=HK1.out;omega
    case rel=>exact ⟨(wrap64 (x1_1 - 1)),(y348),(t346),(t347),D1,H',⟨D34⟩,⟨yR HO350⟩,⟨D6⟩,⟨D3⟩,⟨D7⟩⟩
   rw [if_neg c3] at H
   have c3b0:decide (0 < x1_1)=false:=decide_eq_false c3
   clear c3
   simp only [Option.some.injEq,Prod.mk.injEq] at H
   obtain ⟨rfl,rfl,rfl⟩:=H
   go_wp2
   go_ret
   exact ⟨_,D2,yR HO_5,D6,D7,D3⟩

mutual
def spec_DrawEncodeMsr.j0:Nat→Int→Bool→List Int→Int→Int→Int→Int→Option (Int × Int × List Int × Int × Int)
 | 0,_,_,_,_,_,_,_=>none
 | k+1,x6,x23,x1000,x1001,x1002,x174000,x174001=>if x23=true then ((spec_l1Cur_pick.f x1000 x1001 x1002 9).bind fun bt177=>(spec_DrawEncodeMsr.j1 k bt177.1 x1000 bt177.2.1 bt177.2.2 x174000 x174001)) else (spec_DrawEncodeMsr.j1 k x6 x1000 x1001 x1002 x174000 x174001)
def spec_DrawEncodeMsr.j1:Nat→Int→List Int→Int→Int→Int→Int→Option (Int × Int × List Int × Int × Int)
 | 0,_,_,_,_,_,_=>none
 | k+1,x6,x1000,x1001,x1002,x174000,x174001=>(spec_l1Cur_vector.f k x1000 x1001 x1002 x6).bind fun bt180=>(some (x174000,x174001,bt180.1,bt180.2.1,bt180.2.2))
end
def spec_DrawEncodeMsr.g (k:Nat) (s0_0:List Int) (s0_1:Int) (s0_2:Int):Option (Int × Int × List Int × Int × Int):=(spec_l1Cur_msr.f s0_0 s0_1 s0_2).bind fun bt169=>((spec_l1Cur_one.f s0_0 bt169.2.2.1 bt169.2.2.2 12).bind fun bt174=>(if bt174.1=true then (spec_DrawEncodeMsr.j0 k (wrap64 (bt169.2.1*(wrap64 (bt169.2.1 - 1)))) true s0_0 bt174.2.1 bt174.2.2 bt169.1 bt169.2.1) else (spec_DrawEncodeMsr.j0 k (wrap64 (bt169.2.1*(wrap64 (bt169.2.1 - 1)))) (decide ((wrap64 (bt169.2.1*(wrap64 (bt169.2.1 - 1)))) < 0)) s0_0 bt174.2.1 bt174.2.2 bt169.1 bt169.2.1)))
theorem spec_DrawEncodeMsr.monog_l:∀ k,(∀ y0 y1 y2 y3 y4 y5 y6,LeO (spec_DrawEncodeMsr.j0 k y0 y1 y2 y3 y4 y5 y6) (spec_DrawEncodeMsr.j0 (k+1) y0 y1 y2 y3 y4 y5 y6))∧(∀ y0 y1 y2 y3 y4 y5,LeO (spec_DrawEncodeMsr.j1 k y0 y1 y2 y3 y4 y5) (spec_DrawEncodeMsr.j1 (k+1) y0 y1 y2 y3 y4 y5))
 | 0=>⟨fun _ _ _ _ _ _ _ r h=>by simp [spec_DrawEncodeMsr.j0] at h,fun _ _ _ _ _ _ r h=>by simp [spec_DrawEncodeMsr.j1] at h⟩
 | k+1=>by
  obtain ⟨ih0,ih1⟩:=spec_DrawEncodeMsr.monog_l k
  refine ⟨?_,?_⟩
  ·intro y0 y1 y2 y3 y4 y5 y6
   unfold spec_DrawEncodeMsr.j0
   exact mm
  intro y0 y1 y2 y3 y4 y5
  unfold spec_DrawEncodeMsr.j1
  exact mm
theorem spec_DrawEncodeMsr.monog:∀ a0 a1 a2 k,LeO (spec_DrawEncodeMsr.g k a0 a1 a2) (spec_DrawEncodeMsr.g (k+1) a0 a1 a2):=by
 intro a0 a1 a2 k
 obtain ⟨ih0,ih1⟩:=spec_DrawEncodeMsr.monog_l k
 unfold spec_DrawEncodeMsr.g
 exact mm
def spec_DrawEncodeMsr.f (k:Nat) (l0:List Int):Option (Int × Int × List Int):=(spec_DrawEncodeMsr.g k l0 0 0).bind fun b=>some (b.1,b.2.1,b.2.2.1)
theorem spec_DrawEncodeMsr.mono:∀ a0 k,LeO (spec_DrawEncodeMsr.f k a0) (spec_DrawEncodeMsr.f (k+1) a0):=fun a0 k=>LeO.bind (spec_DrawEncodeMsr.monog _ _ _ k) (fun _=>LeO.refl _)
theorem spec_DrawEncodeMsr.calls (k:Nat) (A0:Option Addr) (c0:Nat) (l0:List Int) (p1:Int) (p2:Int) (p3:List Int) (w0:World) (hr0:Kd.C (Kd.int .u8) w0 A0 l0.length l0) (hc0:l0.length≤c0) (h:spec_DrawEncodeMsr.f k l0=some (p1,p2,p3)) :
  Calls Try.prog 43 #[.slice A0 l0.length c0] w0 fun e w'=>∃ v2_:Value,e = .returned (.tuple #[.agg #[.int .i64 p1, .int .i64 p2],v2_])∧Kd.R (Kd.int .u8) 5 w' w0.heap.size (fun _=>True) v2_ p3∧Below w0.heap.size w0 w':=by
 unfold spec_DrawEncodeMsr.f at h
 obtain ⟨⟨r1,r2,r3,r4,r5⟩,hG_,he_⟩:=Option.bind_eq_some_iff.mp h
 clear h
 have h:=hG_
 clear hG_
 simp only [Option.some.injEq,Prod.mk.injEq] at he_
 obtain ⟨rfl,rfl,rfl⟩:=he_
 have HR:=am hr0
 clear hr0 hc0
 have HB:=am (Below.refl w0.heap.size w0)
 have HL:=am (Nat.le_refl w0.heap.size)
 have HW0:=HL
 have hu127:=Try.underlying127
 have hu30:=Try.underlying30
 have H:=h
 unfold spec_DrawEncodeMsr.f at H
 clear h
 obtain ⟨⟨t169,t170,t171,t172⟩,A2,H⟩:=yo H
 try dsimp only at H
 have HC3:=am H
 clear H
 go_enter Try.func43,Try.ntmps43
 go_upto_region 4 with (first|((with_reducible refine gD 9 ?_);refine gB (cs:=#[.slice A0 l0.length c0, .int .i64 0, .int .u64 0]) 127 ?_;intro g hg wS hbox hb;have n0_:=yH HB hb;have HI0:=am (show IsS127 w0 _ g l0 0 0 from ⟨A0,c0,hbox,by rw [hg];exact pz (yW HB),HR.out⟩);have m0_:=yb BK168 hb;have NB0_168:=yg BK168 hg;have NB168_0:=am (Ne.symm NB0_168.out);clear BK168;have BK168:=m0_;clear m0_ HB;have HB:=n0_;clear n0_;have HK:=am (KeepBut.of_below HB.out g none);clear hb hbox hg)|((with_reducible refine gD 2 ?_);refine gB (cs:=#[.int .i64 0, .int .i64 0]) 30 ?_;intro gb168 hg w4 hbox hb;have n2_:=am (pu D7 hb);have n3_:=am (hbox);have n4_:=am ((by rw [hg];exact (pz (yW HB)):w0.heap.size≤gb168));have n5_:=n4_;clear HB;have HB:=n2_;have BK168:=n3_;have GW168:=n4_;have GE168:=n5_;clear n2_ n3_ n4_ n5_ hb hbox hg)|((with_reducible refine gC 100 ?_);refine gM (some 11) Try.func100 (args:=#[.pointer (some ⟨g,0,none⟩)]) (spec_l1Cur_msr.calls g l0 0 0 t169 t170 t171 t172 w0 _ ?side1 ?side2 A2.out) ?_;(case side1=>repeat (first|(with_reducible first|exact HI0.out|apply IsS127.alloc|apply IsS127.drewN|apply IsS127.drew|apply IsS127.set_1|apply IsS127.set_2|refine IsS127.far ?_ NB0_168.out _)|exact HI0.out));(case side2=>repeat (first|(with_reducible first|exact HB.out|apply pa|apply pb|apply pd|refine pt ?_ (IsS127.ge HI0.out)|refine pt ?_ GE168.out)|exact HB.out));rintro e w5 ⟨rfl,hi,hb,hk⟩;refine ⟨_,rfl,?_⟩;replace BK168:=am (KeepBut.blk hk (g':=gb168) (o:=.cells #[.int .i64 0, .int .i64 0] 30 (0,0)) (yB BK168) NB168_0.out D43);replace HK:=am (KeepBut.trans D46 hk (.inl rfl));replace HB:=am (hb);replace HI0:=am (hi);clear hb hk hi)|((with_reducible refine gD 5 ?_);refine gB (cs:=#[.int .i64 0, .int .i64 0]) 30 ?_;intro gb173 hg w6 hbox hb;replace HB:=am (pu (by repeat (first|(with_reducible first|exact HB.out|apply pa|apply pb|apply pd|refine pt ?_ (IsS127.ge HI0.out)|refine pt ?_ GE168.out)|exact HB.out)) hb);have BK173:=am (hbox);have GW173:=am ((by rw [hg];exact (keep_size (w:=w0) (g:=g) (row:=none) D46):w0.heap.size≤gb173));have GE173:=am ((Nat.le_trans HW0.out (by rw [hg];exact (keep_size (w:=w0) (g:=g) (row:=none) D46):w0.heap.size≤gb173):w0.heap.size≤gb173));replace HK:=am (KeepBut.trans D46 (KeepBut.of_below hb g none) (.inl rfl));have NB168_173:=yl BK168 hg;have NB173_168:=yg BK168 hg;replace BK168:=yb BK168 hb;have NB0_173:=am ((by rw [hg];exact Nat.ne_of_lt (IsS127.lt (show IsS127 w0 _ g l0 t171 t172 from by repeat (first|(with_reducible first|exact HI0.out|apply IsS127.alloc|apply IsS127.drewN|apply IsS127.drew|apply IsS127.set_1|apply IsS127.set_2|refine IsS127.far ?_ NB0_168.out _)|exact HI0.out))):g ≠ gb173));have NB173_0:=am ((by rw [hg];exact Nat.ne_of_gt (IsS127.lt (show IsS127 w0 _ g l0 t171 t172 from by repeat (first|(with_reducible first|exact HI0.out|apply IsS127.alloc|apply IsS127.drewN|apply IsS127.drew|apply IsS127.set_1|apply IsS127.set_2|refine IsS127.far ?_ NB0_168.out _)|exact HI0.out))):gb173 ≠ g));replace HI0:=am (IsS127.below (by repeat (first|(with_reducible first|exact HI0.out|apply IsS127.alloc|apply IsS127.drewN|apply IsS127.drew|apply IsS127.set_1|apply IsS127.set_2|refine IsS127.far ?_ NB0_168.out _)|exact HI0.out)) hb);clear hb hbox hg;have hnb7:=NB173_168.out;have hnc7:=NB168_173.out;have hnb8:=NB173_0.out;have hnc8:=NB0_173.out;obtain ⟨hcz9_0,hcz9_1,hfz9_0,hfz9_1⟩:=yk2 BK173))
 (try simp only [Act.put,q1,q2,q3])
 go_cut [23] (fun v23 wc=>∃ (kq:Nat) (x23_2:Bool) (x1001_2:Int) (x1002_2:Int),v23 = .bool x23_2∧Aside0 (spec_DrawEncodeMsr.j0 kq (wrap64 (t170*(wrap64 (t170 - 1)))) x23_2 l0 x1001_2 x1002_2 t169 t170=some (r1,r2,r3,r4,r5))∧Aside0 (kq≤k)∧Aside0 (wc.heap[gb168]? = some (.cells #[.int .i64 0, .int .i64 0] 30 (0,0)))∧Aside0 (wc.heap[gb173]? = some (.cells #[.int .i64 t169, .int .i64 t170] 30 (0,0)))∧Aside0 (IsS127 w0 wc g l0 x1001_2 x1002_2)∧Aside0 (KeepBut w0 wc g none)∧Aside0 (Below w0.heap.size w0 wc))
 case first =>
  have H:=HC3.out
  clear HC3
  obtain ⟨⟨t174,t175,t176⟩,A10,H⟩:=yo H
  try dsimp only at H
  by_cases c11:t174=true
  ·subst c11
   replace H:=yt H
   have H':=am H
   clear H
   go_wp2_with (first|((with_reducible refine gC 101 ?_);refine gM (some 19) Try.func101 (args:=#[.pointer (some ⟨g,0,none⟩), .int .i64 12]) (spec_l1Cur_one.calls g l0 t171 t172 12 true t175 t176 w0 _ ?side1 ?side2 A10.out) ?_;(case side1=>repeat (first|(with_reducible first|exact HI0.out|apply IsS127.alloc|apply IsS127.drewN|apply IsS127.drew|apply IsS127.set_1|apply IsS127.set_2|refine IsS127.far ?_ NB0_168.out _|refine IsS127.far ?_ NB0_173.out _)|exact HI0.out));(case side2=>repeat (first|(with_reducible first|exact HB.out|apply pa|apply pb|apply pd|refine pt ?_ (IsS127.ge HI0.out)|refine pt ?_ GE168.out|refine pt ?_ GE173.out)|exact HB.out));rintro e w12 ⟨rfl,hi,hb,hk⟩;refine ⟨_,rfl,?_⟩;replace BK168:=am (KeepBut.blk hk (g':=gb168) (o:=.cells #[.int .i64 0, .int .i64 0] 30 (0,0)) (yF BK168) NB168_0.out D43);replace BK173:=am (KeepBut.blk hk (g':=gb173) (o:=.cells #[.int .i64 t169, .int .i64 t170] 30 (0,0)) D92 NB173_0.out D43);replace HK:=am (KeepBut.trans D17 hk (.inl rfl));replace HB:=am (hb);replace HI0:=am (hi);clear hb hk hi))
   go_meet
   case rel=>exact ⟨_,(true),(t175),(t176),D1,H',⟨D54⟩,⟨yB BK168⟩,⟨yB BK173⟩,⟨D36⟩,⟨D17⟩,⟨D37⟩⟩
  replace c11:=Bool.eq_false_iff.mpr c11
  subst c11
  replace H:=yn H
  have H':=am H
  clear H
  go_wp2_with (first|((with_reducible refine gC 101 ?_);refine gM (some 19) Try.func101 (args:=#[.pointer (some ⟨g,0,none⟩), .int .i64 12]) (spec_l1Cur_one.calls g l0 t171 t172 12 false t175 t176 w0 _ ?side1 ?side2 A10.out) ?_;(case side1=>repeat (first|(with_reducible first|exact HI0.out|apply IsS127.alloc|apply IsS127.drewN|apply IsS127.drew|apply IsS127.set_1|apply IsS127.set_2|refine IsS127.far ?_ NB0_168.out _|refine IsS127.far ?_ NB0_173.out _)|exact HI0.out));(case side2=>repeat (first|(with_reducible first|exact HB.out|apply pa|apply pb|apply pd|refine pt ?_ (IsS127.ge HI0.out)|refine pt ?_ GE168.out|refine pt ?_ GE173.out)|exact HB.out));rintro e w13 ⟨rfl,hi,hb,hk⟩;refine ⟨_,rfl,?_⟩;replace BK168:=am (KeepBut.blk hk (g':=gb168) (o:=.cells #[.int .i64 0, .int .i64 0] 30 (0,0)) (yF BK168) NB168_0.out D43);replace BK173:=am (KeepBut.blk hk (g':=gb173) (o:=.cells #[.int .i64 t169, .int .i64 t170] 30 (0,0)) D92 NB173_0.out D43);replace HK:=am (KeepBut.trans D17 hk (.inl rfl));replace HB:=am (hb);replace HI0:=am (hi);clear hb hk hi))
  go_meet
  case rel=>exact ⟨_,(decide ((wrap64 (t170*(wrap64 (t170 - 1)))) < 0)),(t175),(t176),D1,H',⟨D54⟩,⟨yB BK168⟩,⟨yB BK173⟩,⟨D36⟩,⟨D17⟩,⟨D37⟩⟩
 case rest =>
  clear HC3
  try clear c1
  try clear p2
  try clear c4
  try clear p6
  try clear c7
  try clear c8
  try clear c10
  try clear c11
  try clear hcz9_0
  try clear hcz9_1
  try clear hfz9_0
  try clear hfz9_1
  obtain ⟨kq,x23_2,x1001_2,x1002_2,rfl,HA,HJ2,BK168,BK173,HI0,HK,HB⟩:=hcut
  cases kq with
  | zero=>exact absurd HA.out (by simp [spec_DrawEncodeMsr.j0])
  | succ kj2 =>
   have H:=HA.out
   clear HA
   simp only [spec_DrawEncodeMsr.j0] at H
   have HC14:=am H
   clear H
   go_upto_if 23 with (fail)
   go_cut [6] (fun v6 wc=>∃ (kq:Nat) (x6_13:Int) (x1001_13:Int) (x1002_13:Int),v6 = .int .i64 x6_13∧Aside0 (spec_DrawEncodeMsr.j1 kq x6_13 l0 x1001_13 x1002_13 t169 t170=some (r1,r2,r3,r4,r5))∧Aside0 (kq≤kj2)∧Aside0 (wc.heap[gb168]? = some (.cells #[.int .i64 0, .int .i64 0] 30 (0,0)))∧Aside0 (wc.heap[gb173]? = some (.cells #[.int .i64 t169, .int .i64 t170] 30 (0,0)))∧Aside0 (IsS127 w0 wc g l0 x1001_13 x1002_13)∧Aside0 (KeepBut w0 wc g none)∧Aside0 (Below w0.heap.size w0 wc))
   case first =>
    have H:=HC14.out
    clear HC14
    by_cases c15:x23_2=true
    ·subst c15
     replace H:=yt H
     obtain ⟨⟨t177,t178,t179⟩,A16,H⟩:=yo H
     try dsimp only at H
     have H':=am H
     clear H
     go_wp2_with (first|((with_reducible refine gC 95 ?_);refine gM (some 25) Try.func95 (args:=#[.pointer (some ⟨g,0,none⟩), .int .i64 9]) (spec_l1Cur_pick.calls g l0 x1001_2 x1002_2 9 t177 t178 t179 w0 _ ?side1 ?side2 A16.out) ?_;(case side1=>repeat (first|(with_reducible first|exact HI0.out|apply IsS127.alloc|apply IsS127.drewN|apply IsS127.drew|apply IsS127.set_1|apply IsS127.set_2|refine IsS127.far ?_ NB0_168.out _|refine IsS127.far ?_ NB0_173.out _)|exact HI0.out));(case side2=>repeat (first|(with_reducible first|exact HB.out|apply pa|apply pb|apply pd|refine pt ?_ (IsS127.ge HI0.out)|refine pt ?_ GE168.out|refine pt ?_ GE173.out)|exact HB.out));rintro e w17 ⟨rfl,hi,hb,hk⟩;refine ⟨_,rfl,?_⟩;replace BK168:=am (KeepBut.blk hk (g':=gb168) (o:=.cells #[.int .i64 0, .int .i64 0] 30 (0,0)) (yB BK168) NB168_0.out D43);replace BK173:=am (KeepBut.blk hk (g':=gb173) (o:=.cells #[.int .i64 t169, .int .i64 t170] 30 (0,0)) (yB BK173) NB173_0.out D43);replace HK:=am (KeepBut.trans D17 hk (.inl rfl));replace HB:=am (hb);replace HI0:=am (hi);clear hb hk hi))
     go_meet
     case rel=>exact ⟨_,(t177),(t178),(t179),D1,H',⟨by have:=HJ2.out;first|omega|exact Nat.le_refl _⟩,⟨yB BK168⟩,⟨yB BK173⟩,⟨D36⟩,⟨D17⟩,⟨D37⟩⟩
    replace c15:=Bool.eq_false_iff.mpr c15
    subst c15
    replace H:=yn H
    have H':=am H
    clear H
    go_wp2
    go_meet
    case rel=>exact ⟨_,((wrap64 (t170*(wrap64 (t170 - 1))))),(x1001_2),(x1002_2),D1,H',⟨by have:=HJ2.out;first|omega|exact Nat.le_refl _⟩,⟨yB BK168⟩,⟨yB BK173⟩,⟨D36⟩,⟨D17⟩,⟨D37⟩⟩
   case rest =>
    clear HC14
    try clear c1
    try clear p2
    try clear c4
    try clear p6
    try clear c7
    try clear c8
    try clear c9
    try clear c10
    try clear c11
    try clear c15
    try clear hcz9_0
    try clear hcz9_1
    try clear hfz9_0
    try clear hfz9_1
    try clear p2
    try clear p6
    obtain ⟨kq,x6_13,x1001_13,x1002_13,rfl,HA,HJ13,BK168,BK173,HI0,HK,HB⟩:=hcut
    cases kq with
    | zero=>exact absurd HA.out (by simp [spec_DrawEncodeMsr.j1])
    | succ kj13 =>
     have H:=HA.out
     clear HA
     simp only [spec_DrawEncodeMsr.j1] at H
     obtain ⟨⟨t180,t183,t184⟩,A18,H⟩:=yo H
     try dsimp only at H
     simp only [Option.some.injEq,Prod.mk.injEq] at H
     obtain ⟨rfl,rfl,rfl,rfl,rfl⟩:=H
     try go_wp2
     replace BK168:=am (qd BK168.out)
     replace BK173:=am (qd BK173.out)
     replace HI0:=am (IsS127.drew HI0.out)
     replace HK:=am (keep_drew HK.out)
     replace HB:=am (pd HB.out)
     refine rS0 (n:=6) (S:=fun w'=>w'.cell? ⟨gb173,0,none⟩=some (.int .i64 t169)∧w'.cell? ⟨gb173,1,none⟩=some (.int .i64 t170)) (ds:=[]) [(1,27),(2,28),(0,26),(3,0),(4,0),(5,3)] D5 rfl ⟨yk BK173 0,yk BK173 1⟩ (fun hHeld HT_ HW_=>?_)
     generalize wc.drew=w19 at BK168 BK173 HI0 HK HB hHeld ⊢
     refine rR ?_
     refine rO (N:=some 29) HT_ rfl rfl D5 D8 (fun K hK=>?_)
     refine goes_ Try.func102 D5 rfl #[.pointer (some ⟨g,0,none⟩), .int .i64 x6_13] D15 rfl rfl D10 ?_
     with_reducible refine (spec_l1Cur_vector.calls kj13 g l0 x1001_13 x1002_13 x6_13 t180 t183 t184 w0 _ ?side1 ?side2 A18.out).mono ?_
     (case side1=>repeat (first|(with_reducible first|exact HI0.out|apply IsS127.alloc|apply IsS127.drewN|apply IsS127.drew|apply IsS127.set_1|apply IsS127.set_2|refine IsS127.far ?_ NB0_168.out _|refine IsS127.far ?_ NB0_173.out _)|exact HI0.out))
     (case side2=>repeat (first|(with_reducible first|exact HB.out|apply pa|apply pb|apply pd|refine pt ?_ (IsS127.ge HI0.out)|refine pt ?_ GE168.out|refine pt ?_ GE173.out)|exact HB.out))
     rintro e w20 ⟨v181,rfl,ho0,hi,hb,hk⟩
     refine ⟨_,rfl,?_⟩
     replace BK168:=am (KeepBut.blk hk (g':=gb168) (o:=.cells #[.int .i64 0, .int .i64 0] 30 (0,0)) (yB BK168) NB168_0.out D43)
     replace BK173:=am (KeepBut.blk hk (g':=gb173) (o:=.cells #[.int .i64 t169, .int .i64 t170] 30 (0,0)) (yB BK173) NB173_0.out D43)
     have HO182:=am (Kd.R_lower ho0 (keep_size (w:=w0) (g:=g) (row:=none) D17))
     replace HK:=am (KeepBut.trans D17 hk (.inl rfl))
     replace HB:=am (hb)
     replace HI0:=am (hi)
     (try clear hb)
     (try clear hb2)
     (try clear hk)
     (try clear hi)
     (try clear ho0)
     refine hK.out _ _ ⟨yk BK173 0,yk BK173 1⟩ (fun hHeld=>?_)
     clear hK K
     refine rN (nA 29) ?_
     refine rO (N:=none) HT_ rfl rfl D5 D8 (fun K hK=>?_)
     have hs21:w20.cell? ⟨gb168,0,none⟩=some (.int .i64 0):=(blk_cell BK168.out 0).trans rfl
     have hfs21:=blk_frozen BK168.out 0
     have hns21_1:=NB173_168.out
     have hms21_1:=NB168_173.out
     have hs22:w20.cell? ⟨gb168,1,none⟩=some (.int .i64 0):=(blk_cell BK168.out 1).trans rfl
     have hfs22:=blk_frozen BK168.out 1
     have hns22_1:=NB173_168.out
     have hms22_1:=NB168_173.out
     refine skip_ (w1:=?_) D15 rfl ?_ ?_
     rotate_left
     ·go_simp
      rfl
     refine hK.out _ _ ⟨((cell_far (p:=⟨gb168,_,none⟩) NB173_168.out _).trans (((cell_far (p:=⟨gb168,_,none⟩) NB173_168.out _).trans (hHeld.1)))),((cell_far (p:=⟨gb168,_,none⟩) NB173_168.out _).trans (((cell_far (p:=⟨gb168,_,none⟩) NB173_168.out _).trans (hHeld.2))))⟩ (fun hHeld=>?_)
     clear hK K
     refine rR ?_
     refine rD HT_ D5 ?_
     try go_wp2
     refine bodyPost_ret (results_ct rfl _ _ gb168 30 #[.int .i64 t169, .int .i64 t170] (0,0) _ rfl (by refine sB ?_;refine blk_put (cs:=#[.int .i64 t169, .int .i64 0]) ?_ 1 _ rfl;refine sB ?_;refine blk_put (cs:=#[.int .i64 0, .int .i64 0]) ?_ 0 _ rfl;exact yB BK168) Try.underlying30 rfl D5) rfl ?_
     exact ⟨_,D2,by refine sR ?_;exact Kd.R_mono (Kd.R_far (p:=⟨gb168,1,none⟩) (Kd.R_far (p:=⟨gb168,0,none⟩) (Kd.R_types HO182.out BK168.out D8) (fun _ hk=>hk.2) (.int .i64 t169)) (fun _ hk=>hk.2) (.int .i64 t170)) (fun _ hk=>trivial),D37⟩

def impl_MsrSizes.f (a0_0:Int) (a0_1:Int):Option (Int × Int × Int × Bool):=(impl_GoodMsr.f a0_0 a0_1).bind fun t352=>(if t352=true then ((impl_Msr_alpha.f a0_0 a0_1).bind fun t353=>((impl_Msr_alpha.f a0_0 a0_1).bind fun t354=>((impl_Msr_size.f a0_0 a0_1).bind fun t355=>(some (t353,wrap64 (2*t354),t355,true))))) else (some (0,0,0,false)))
def impl_MsrSizes.T3:Bool × List (List Nat × List Nat):=(true,[([],[]),([0],[0]),([],[]),([2,1],[2]),([3],[3]),([],[]),([5,3],[5]),([1,6,0,1],[1]),([4,7,0,1,2,3,4,7],[4]),([6,8,0,1,2,3,4,5,6,7,8],[6]),([9,0,1,2,3,4,5,6,7,8,9],[])])
def impl_MsrSizes.B3:List Nat:=[0,1,0,7,15,0,47,111,255,511,1023]
theorem impl_MsrSizes.tab3:rtab .any (opsOf Try.f44 3)=impl_MsrSizes.T3:=by kernel_rfl
theorem impl_MsrSizes.bits3:waitsOk impl_MsrSizes.T3.2 impl_MsrSizes.B3=true:=by kernel_rfl
theorem impl_MsrSizes.calls (a0_0:Int) (a0_1:Int) (r1:Int) (r2:Int) (r3:Int) (r4:Bool) (w:World) (h:impl_MsrSizes.f a0_0 a0_1=some (r1,r2,r3,r4)) :
  Calls Try.prog 44 #[.agg #[.int .i64 a0_0, .int .i64 a0_1]] w fun e w'=>e = .returned (.tuple #[.int .i64 r1, .int .i64 r2, .int .i64 r3, .bool r4])∧Below w.heap.size w w':=by
 have hu30:=Try.underlying30
 have HB:=am (Below.refl w.heap.size w)
 have H:=h
 unfold impl_MsrSizes.f at H
 clear h
 obtain ⟨t352,A2,H⟩:=yo H
 by_cases c3:t352=true
 ·subst c3
  replace H:=yt H
  obtain ⟨t353,A4,H⟩:=yo H
  obtain ⟨t354,A5,H⟩:=yo H
  obtain ⟨t355,A6,H⟩:=yo H
  simp only [Option.some.injEq,Prod.mk.injEq] at H
  obtain ⟨rfl,rfl,rfl,rfl⟩:=H
  go_enter Try.func44,Try.ntmps44
  try go_wp2_with (first|((with_reducible refine gD 1 ?_);refine gB (cs:=#[.int .i64 a0_0, .int .i64 a0_1]) 30 ?_;intro gb351 hg w7 hbox hb;have BK351:=am (hbox);have GW351:=ye HB hg;replace HB:=yH HB hb;have GE351:=GW351;clear hb hbox hg;obtain ⟨hcz8_0,hcz8_1,hfz8_0,hfz8_1⟩:=yk2 BK351)|((with_reducible refine gC 46 ?_);refine gM (some 7) Try.func46 (args:=#[.agg #[.int .i64 a0_0, .int .i64 a0_1]]) (impl_GoodMsr.calls a0_0 a0_1 true _ A2.out) ?_;rintro e w9 ⟨rfl,hb⟩;refine ⟨_,rfl,?_⟩;replace BK351:=yb BK351 hb;replace HB:=yH HB hb;clear hb))
  replace BK351:=am (qd BK351.out)
  replace HB:=am (pd HB.out)
  refine rS (n:=11) (S:=fun w'=>w'.cell? ⟨gb351,0,none⟩=some (.int .i64 a0_0)∧w'.cell? ⟨gb351,1,none⟩=some (.int .i64 a0_1)) (ds:=[]) [(0,9),(2,11),(5,14),(1,0),(3,0),(4,13),(6,0),(7,2),(8,3),(9,4),(10,5)] D5 rfl impl_MsrSizes.tab3 impl_MsrSizes.bits3 ⟨yk BK351 0,yk BK351 1⟩ (fun hHeld HT_ HW_=>?_)
  generalize w9.drew=w10 at BK351 HB hHeld ⊢
  refine rR ?_
  refine rO (N:=some 10) HT_ rfl rfl D5 D8 (fun K hK=>?_)
  refine goes_ Try.func103 D5 rfl #[.agg #[.int .i64 a0_0, .int .i64 a0_1]] D15 rfl rfl D10 ?_
  with_reducible refine (impl_Msr_alpha.calls a0_0 a0_1 t353 _ A4.out).mono ?_
  rintro e w11 ⟨rfl,hb⟩
  refine ⟨_,rfl,?_⟩
  replace BK351:=yb BK351 hb
  replace HB:=yH HB hb
  (try clear hb)
  (try clear hb2)
  (try clear hk)
  (try clear hi)
  refine hK.out _ _ ⟨yk BK351 0,yk BK351 1⟩ (fun hHeld=>?_)
  clear hK K
  refine rN (nA 10) ?_
  refine rO (N:=some 12) HT_ rfl rfl D5 D8 (fun K hK=>?_)
  refine goes_ Try.func103 D5 rfl #[.agg #[.int .i64 a0_0, .int .i64 a0_1]] D15 rfl rfl D10 ?_
  with_reducible refine (impl_Msr_alpha.calls a0_0 a0_1 t354 _ A5.out).mono ?_
  rintro e w12 ⟨rfl,hb⟩
  refine ⟨_,rfl,?_⟩
  replace BK351:=yb BK351 hb
  replace HB:=yH HB hb
  (try clear hb)
  (try clear hb2)
  (try clear hk)
  (try clear hi)
  refine hK.out _ _ ⟨yk BK351 0,yk BK351 1⟩ (fun hHeld=>?_)
  clear hK K
  refine rN (nA 12) ?_
  refine rR ?_
  refine rO (N:=some 15) HT_ rfl rfl D5 D8 (fun K hK=>?_)
  refine goes_ Try.func59 D5 rfl #[.agg #[.int .i64 a0_0, .int .i64 a0_1]] D15 rfl rfl D10 ?_
  with_reducible refine (impl_Msr_size.calls a0_0 a0_1 t355 _ A6.out).mono ?_
  rintro e w13 ⟨rfl,hb⟩
  refine ⟨_,rfl,?_⟩
  replace BK351:=yb BK351 hb
  replace HB:=yH HB hb
  (try clear hb)
  (try clear hb2)
  (try clear hk)
  (try clear hi)
  refine hK.out _ _ ⟨yk BK351 0,yk BK351 1⟩ (fun hHeld=>?_)
  clear hK K
  refine rN (nA 15) ?_
  refine rR ?_
  refine rD HT_ D5 ?_
  try go_wp2
  refine bodyPost_ret (results_list (rs:=[.tmp 2, .tmp 3, .tmp 4, .tmp 5]) rfl D43 (.tmp (.tmp (.tmp (.tmp .nil))))) rfl ?_
  exact ⟨D2,yW HB⟩
 replace c3:=Bool.eq_false_iff.mpr c3
 subst c3
 replace H:=yn H
 simp only [Option.some.injEq,Prod.mk.injEq] at H
 obtain ⟨rfl,rfl,rfl,rfl⟩:=H
 go_enter Try.func44,Try.ntmps44
 go_wp2_with (first|((with_reducible refine gD 1 ?_);refine gB (cs:=#[.int .i64 a0_0, .int .i64 a0_1]) 30 ?_;intro gb351 hg w14 hbox hb;have BK351:=am (hbox);have GW351:=ye HB hg;replace HB:=yH HB hb;have GE351:=GW351;clear hb hbox hg;obtain ⟨hcz15_0,hcz15_1,hfz15_0,hfz15_1⟩:=yk2 BK351)|((with_reducible refine gC 46 ?_);refine gM (some 7) Try.func46 (args:=#[.agg #[.int .i64 a0_0, .int .i64 a0_1]]) (impl_GoodMsr.calls a0_0 a0_1 false _ A2.out) ?_;rintro e w16 ⟨rfl,hb⟩;refine ⟨_,rfl,?_⟩;replace BK351:=yb BK351 hb;replace HB:=yH HB hb;clear hb))
 refine bodyPost_ret (results_list (rs:=[.tmp 2, .tmp 3, .tmp 4, .tmp 5]) rfl D43 (.tmp (.tmp (.tmp (.tmp .nil))))) rfl ?_
 exact ⟨D2,yW HB⟩

def laws_sameBytes.f (l0:List Int) (l1:List Int):Option (Bool):=some ((strOfNums l0).toList == (strOfNums l1).toList)
theorem laws_sameBytes.calls (A0:Option Addr) (c0:Nat) (l0:List Int) (A1:Option Addr) (c1:Nat) (l1:List Int) (r:Bool) (w:World) (hr0:Kd.C (Kd.int .u8) w A0 l0.length l0) (hc0:l0.length≤c0) (hr1:Kd.C (Kd.int .u8) w A1 l1.length l1) (hc1:l1.length≤c1) (h:laws_sameBytes.f l0 l1=some r) :
  Calls Try.prog 49 #[.slice A0 l0.length c0, .slice A1 l1.length c1] w fun e w'=>e = .returned (.bool r)∧Drawn0 w w':=by
 have HR0:=am hr0
 have HC0:=am hc0
 clear hr0 hc0
 have HR1:=am hr1
 have HC1:=am hc1
 clear hr1 hc1
 have H:=h
 unfold laws_sameBytes.f at H
 clear h
 obtain rfl:=Option.some.inj H
 have hcv3:=Kd.C_string (P:=Try.prog) (A:=A0) (c:=c0) Try.underlying24 Try.underlying5 Try.underlying9 HR0.out
 have hcv4:=Kd.C_string (P:=Try.prog) (A:=A1) (c:=c1) Try.underlying24 Try.underlying5 Try.underlying9 HR1.out
 go_enter Try.func49,Try.ntmps49
 go_wp2
 go_ret
 exact ⟨D1,D12⟩
end Go.Proofs.Yteflgifmdojahaa.PFnMsr
-- SQUEEZED
