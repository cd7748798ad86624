-- Laid by a program of this session.
import Derived.Test.YtajikfnpcobnpaaVMendStripeB
import Derived.Test.YtajikfnpcobnpaaPFnExactMendStripex0
namespace Go.Proofs.Ytajikfnpcobnpaa.PFnExactMendStripe
open Go.RowKit Go.Proofs.YtajikfnpcobnpaaW.PrintWords Go.Proofs.YtajikfnpcobnpaaW.PrintLast Go.Proofs.YtajikfnpcobnpaaW.PrintMore Go.Proofs.Ytajikfnpcobnpaa.KitS
attribute [local go_sem] max2_int min2_int max_two min_two max_three min_three max_four min_four   -- for this text's walks alone
set_option linter.unusedVariables false
set_option maxHeartbeats 8000000
set_option maxRecDepth 100000
set_option linter.unusedSimpArgs false

def laws_toStringS.l0:Nat→List ByteArray→List ByteArray→Int→Option (List ByteArray)
 | 0,_,_,_=>none
 | k+1,x0,x3,x4=>if x4 < (x0.length:Int) then (if 0≤x4 then (if x4 < (x3.length:Int) then (laws_toStringS.l0 k x0 (x3.set (x4:Int).toNat (rdOf ByteArray.empty x0 x4)) (wrap64 (x4+1))) else (none)) else (none)) else (some x3)
def laws_toStringS.f (k:Nat) (l0:List ByteArray):Option (List ByteArray):=if 0≤(l0.length:Int) then (if ((l0.length:Int):Int).toNat≤17592186044416 then (laws_toStringS.l0 k l0 (List.replicate ((l0.length:Int):Int).toNat (⟨#[]⟩:ByteArray)) 0) else (none)) else (none)
theorem laws_toStringS.mono_l:∀ k,(∀ y0 y1 y2,LeO (laws_toStringS.l0 k y0 y1 y2) (laws_toStringS.l0 (k+1) y0 y1 y2))
 | 0=>fun _ _ _ r h=>by simp [laws_toStringS.l0] at h
 | k+1=>by
  have ih0:=laws_toStringS.mono_l k
  intro y0 y1 y2
  unfold laws_toStringS.l0
  exact mm
theorem laws_toStringS.mono:∀ a0 k,LeO (laws_toStringS.f k a0) (laws_toStringS.f (k+1) a0):=by
 intro a0 k
 have ih0:=laws_toStringS.mono_l k
 unfold laws_toStringS.f
 exact mm
theorem laws_toStringS.calls (k:Nat) (A0:Option Addr) (c0:Nat) (l0:List ByteArray) (r:List ByteArray) (w:World) (hr0:Kd.C Kd.string w A0 l0.length l0) (hc0:l0.length≤c0) (h:laws_toStringS.f k l0=some r) :
  Calls Try.prog 94 #[.slice A0 l0.length c0] w fun e w'=>∃ v0_:Value,e = .returned (v0_)∧Kd.R Kd.string 9 w' w.heap.size (fun _=>True) v0_ r∧Below w.heap.size w w':=by
 have HR0:=am hr0
 have HC0:=am hc0
 clear hr0 hc0
 have HB:=am (Below.refl w.heap.size w)
 have H:=h
 unfold laws_toStringS.f at H
 clear h
 by_cases c2:0≤(l0.length:Int)
 ·rw [if_pos c2] at H
  have c2b0:=eq_true c2
  have c2b1:decide (0≤(l0.length:Int))=true:=decide_eq_true c2
  clear c2
  obtain ⟨c3,H⟩:=yi H
  have c3b0:=eq_true c3
  have c3b1:decide (((l0.length:Int):Int).toNat≤17592186044416)=true:=decide_eq_true c3
  clear c3
  generalize hy225:(List.replicate ((l0.length:Int):Int).toNat (⟨#[]⟩:ByteArray):List ByteArray)=y225 at H
  have Ny225:=am hy225.symm
  clear hy225
  have H':=am H
  clear H
  go_enter Try.func94,Try.ntmps94
  go_wp2_with (first|(refine gD 7 ?_;refine Kd.R_make Kd.string _ 9 rfl (N:=7) rfl 22 _ _ rfl (l0.length:Int) rfl rfl Try.underlying22 (.string ⟨#[]⟩) 16 info9 rfl D6 D8 (⟨#[]⟩:ByteArray) (ok:=fun _=>True) (okp:=fun _=>True) rfl (fun _ hk=>hk) trivial (od D0) (Nat.le_trans (Nat.mul_le_mul_right _ (od D0:(l0.length:Int).toNat≤17592186044416)) D8) (Below.refl _ _) (Nat.le_refl _) ?_;intro v226 w4 ho5 hb hg_ hnew_;clear hg_ hnew_;(first|rw [← Ny225.out] at ho5|(simp only [Int.reduceToNat] at ho5;rw [← Ny225.out] at ho5));have HO227:=am (Kd.R_lower ho5 (pz (yW HB)));replace HB:=yH HB hb;clear hb ho5))
  go_loopg [4] k (fun kq v4 w'=>∃ (x3_1:List ByteArray) (x4_1:Int),v4 = .int .i64 x4_1∧Aside0 (laws_toStringS.l0 kq l0 x3_1 x4_1=some r)∧Aside0 (kq≤k)∧Aside0 (Kd.R Kd.string 9 w' w.heap.size (fun _=>True) v226 x3_1)∧Aside0 (Below w.heap.size w w'))
  case atStart=>exact ⟨(y225),(0),D1,H',⟨Nat.le_refl _⟩,⟨yR HO227⟩,⟨yW HB⟩⟩
  case round =>
   clear H'
   try clear c2
   try clear c2b0
   try clear c2b1
   try clear p2
   try clear c3
   try clear c3b0
   try clear c3b1
   obtain ⟨x3_1,x4_1,rfl,HA,HK1,HO_3,HB⟩:=hrel
   cases gk with
   | zero=>exact absurd HA.out (by simp [laws_toStringS.l0])
   | succ k1 =>
    have H:=HA.out
    clear HA
    simp only [laws_toStringS.l0] at H
    by_cases c6:x4_1 < (l0.length:Int)
    ·rw [if_pos c6] at H
     have c6b0:=decide_eq_true c6
     clear c6
     obtain ⟨c7,H⟩:=yi H
     have c7b0:=decide_eq_true c7
     clear c7
     obtain ⟨c8,H⟩:=yi H
     have c8b0:=decide_eq_true c8
     clear c8
     generalize hy229:(x3_1.set (x4_1:Int).toNat (rdOf ByteArray.empty l0 x4_1):List ByteArray)=y229 at H
     have Ny229:=am hy229.symm
     clear hy229
     have H':=am H
     clear H
     have p228:0≤(x4_1:Int):=od D0
     have q228:x4_1 < (l0.length:Int):=od D0
     obtain ⟨ad228,e228,hx228_0⟩:=Kd.at_string HR0.out x4_1 p228 q228
     cases e228
     replace hx228_0:=(HB.out.cell (World.block_lt_of_cell? w _ hx228_0)).trans hx228_0
     replace p228:=eq_true p228
     replace q228:=eq_true q228
     have p9:0≤(x4_1:Int):=od D0
     have q9:(x4_1:Int) < ((x3_1.length:Int):Int):=od D0
     obtain ⟨go9,co9,eo9,gb9,gl9,cl9,HG9⟩:=Kd.R_form HO_3.out D8
     (first|cases eo9|(injection eo9 with ea_ en_ ec_;(first|subst ea_|(injection ea_ with ea_;subst ea_));subst ec_;clear en_))
     have GB9:=am gb9
     have GG9:=am HG9
     clear gb9 gl9 HG9
     obtain ⟨hx9_0,hf9_0⟩:=Kd.R_celln (⟨#[]⟩:ByteArray) HO_3.out (x4_1:Int) p9 q9
     replace p9:=eq_true p9
     replace q9:=eq_true q9
     have HP10:=Kd.R_putg HO_3.out (x4_1:Int) (rdOf ByteArray.empty l0 x4_1)
     go_wp2_with (first|((with_reducible refine gate_store (t:=9) (p:=20) rfl ?_);refine store_event (t:=9) (p:=20) (v:=?vo_w11) (w1:=(wr.setCell ⟨go9,(x4_1:Int).toNat,none⟩ (.string (rdOf ByteArray.empty l0 x4_1)))) ?hg ?ho ?hn ?hr ?_;(case ho=>rfl);(case hg=>rfl);(case hn=>rfl);(case hr=>first|(go_simp;done)|(go_simp;rfl));intro w11 hw;have hg:wr.grownBy w11 (some go9):=(by rw [hw];exact HP10.2);have hp_:Kd.R Kd.string 9 w11 w.heap.size (fun _=>True) (.slice (some ⟨go9,0,none⟩) x3_1.length co9) y229:=(by rw [hw,Ny229.out];exact HP10.1);clear HP10;replace HO_3:=am (hp_);replace HB:=am ((by rw [hw];exact pt (HB.out) GB9.out:Below w.heap.size w w11));clear hg hw hp_))
     go_roundg k1
     case measure=>have:=HK1.out;omega
     case rel=>exact ⟨(y229),(wrap64 (x4_1+1)),D1,H',⟨D17⟩,⟨yR HO_3⟩,⟨yW HB⟩⟩
    rw [if_neg c6] at H
    have c6b0:=decide_eq_false c6
    clear c6
    obtain rfl:=Option.some.inj H
    go_wp2
    go_ret
    exact ⟨_,D3,yR HO_3,yW HB⟩
 rw [if_neg c2] at H
 exact absurd H D38

def laws_toStripe.f (k:Nat) (l0_0:List ByteArray) (l0_1:List ByteArray):Option (List ByteArray × List ByteArray):=(laws_toStringS.f k l0_0).bind fun t233=>((laws_toStringS.f k l0_1).bind fun t236=>(some (t233,t236)))
theorem laws_toStripe.mono:∀ a0 a1 k,LeO (laws_toStripe.f k a0 a1) (laws_toStripe.f (k+1) a0 a1):=by
 intro a0 a1 k
 unfold laws_toStripe.f
 exact mm
theorem laws_toStripe.calls (k:Nat) (A0_0:Option Addr) (c0_0:Nat) (l0_0:List ByteArray) (A0_1:Option Addr) (c0_1:Nat) (l0_1:List ByteArray) (r1:List ByteArray) (r2:List ByteArray) (w:World) (hr0_0:Kd.C Kd.string w A0_0 l0_0.length l0_0) (hc0_0:l0_0.length≤c0_0) (hr0_1:Kd.C Kd.string w A0_1 l0_1.length l0_1) (hc0_1:l0_1.length≤c0_1) (h:laws_toStripe.f k l0_0 l0_1=some (r1,r2)) :
  Calls Try.prog 17 #[.agg #[.slice A0_0 l0_0.length c0_0, .slice A0_1 l0_1.length c0_1]] w fun e w'=>∃ v0_ v1_:Value,e = .returned (.agg #[v0_,v1_])∧Kd.R Kd.string 9 w' w.heap.size (fun k_=>some k_ ≠ (v1_:Value).ownBlock) v0_ r1∧Kd.R Kd.string 9 w' w.heap.size (fun k_=>some k_ ≠ (v0_:Value).ownBlock) v1_ r2∧Below w.heap.size w w':=by
 have hu24:=Try.underlying24
 have hu27:=Try.underlying27
 have HR0_0:=am hr0_0
 have HC0_0:=am hc0_0
 clear hr0_0 hc0_0
 have HR0_1:=am hr0_1
 have HC0_1:=am hc0_1
 clear hr0_1 hc0_1
 have HB:=am (Below.refl w.heap.size w)
 have H:=h
 unfold laws_toStripe.f at H
 clear h
 obtain ⟨t233,A2,H⟩:=yo H
 obtain ⟨t236,A3,H⟩:=yo H
 simp only [Option.some.injEq,Prod.mk.injEq] at H
 obtain ⟨rfl,rfl⟩:=H
 go_enter Try.func17,Try.ntmps17
 go_wp2_with (first|(refine gD 1 ?_;refine gB (cs:=#[.slice A0_0 l0_0.length c0_0, .slice A0_1 l0_1.length c0_1]) 24 ?_;intro gb230 hg w4 hbox hb;have BK230:=am (hbox);have GW230:=ye HB hg;replace HB:=yH HB hb;have GE230:=GW230;clear hb hbox hg)|(refine gD 2 ?_;refine gB (cs:=#[.slice none 0 0, .slice none 0 0]) 27 ?_;intro gb231 hg w5 hbox hb;have BK231:=am (hbox);have GW231:=ye HB hg;replace HB:=yH HB hb;have NB230_231:=yl BK230 hg;have NB231_230:=yg BK230 hg;replace BK230:=yb BK230 hb;have GE231:=GW231;clear hb hbox hg)|(refine gD 3 ?_;refine gB (cs:=#[.slice none 0 0, .slice none 0 0]) 27 ?_;intro gb232 hg w6 hbox hb;have BK232:=am (hbox);have GW232:=ye HB hg;replace HB:=yH HB hb;have NB230_232:=yl BK230 hg;have NB232_230:=yg BK230 hg;replace BK230:=yb BK230 hb;have NB231_232:=yl BK231 hg;have NB232_231:=yg BK231 hg;replace BK231:=yb BK231 hb;have GE232:=GW232;clear hb hbox hg;have hnb7:=NB230_231.out;have hnc7:=NB231_230.out;have hnb8:=NB230_232.out;have hnc8:=NB232_230.out;obtain ⟨hcz9_0,hcz9_1,hfz9_0,hfz9_1⟩:=yk2 BK230)|(refine gC 94 ?_;refine gM (some 6) Try.func94 (args:=#[.slice A0_0 l0_0.length c0_0]) (laws_toStringS.calls k _ _ l0_0 t233 _ (yc (Kd.C_below HR0_0.out HB.out)) HC0_0.out A2.out) ?_;rintro e w10 ⟨v234,rfl,ho0,hb⟩;refine ⟨_,rfl,?_⟩;have HO235:=am (Kd.R_lower ho0 (pz (yW HB)));replace BK230:=yb BK230 hb;replace BK231:=yb BK231 hb;replace BK232:=yb BK232 hb;replace HB:=yH HB hb;clear hb ho0;obtain ⟨Ao11,co11,eo11⟩:=Kd.R_slice HO235.out;subst eo11;have hnb12:=NB232_231.out;have hnc12:=NB231_232.out;obtain ⟨hcz13_0,hcz13_1,hfz13_0,hfz13_1⟩:=yk2 BK232;obtain ⟨hcz14_0,hcz14_1,hfz14_0,hfz14_1⟩:=yk2 BK230)|(refine gC 94 ?_;refine gM (some 10) Try.func94 (args:=#[.slice A0_1 l0_1.length c0_1]) (laws_toStringS.calls k _ _ l0_1 t236 _ (Kd.C_below HR0_1.out (yW HB)) HC0_1.out A3.out) ?_;rintro e w15 ⟨v237,rfl,ho0,hb⟩;refine ⟨_,rfl,?_⟩;have HO238:=am (Kd.R_lower (Kd.R_new' ho0 (Kd.R_lt D58)) (pz (yW HB)));replace HO235:=am (Kd.R_elder' D58 (Kd.R_base ho0) hb);replace BK230:=am (qb (g:=gb230) (o:=.cells #[.slice A0_0 l0_0.length c0_0, .slice A0_1 l0_1.length c0_1] 24 (0,0)) (yF BK230) hb);replace BK231:=am (qb (g:=gb231) (o:=.cells #[.slice none 0 0, .slice none 0 0] 27 (0,0)) (yF BK231) hb);replace BK232:=am (qb (g:=gb232) (o:=.cells #[.slice Ao11 t233.length co11, .slice none 0 0] 27 (0,0)) (by refine sB ?_;refine blk_put (cs:=#[.slice none 0 0, .slice none 0 0]) ?_ 0 _ rfl;exact yB BK232) hb);replace HB:=yH HB hb;clear hb ho0;obtain ⟨Ao16,co16,eo16⟩:=Kd.R_slice HO238.out;subst eo16;obtain ⟨hcz17_0,hcz17_1,hfz17_0,hfz17_1⟩:=yk2 BK232;obtain ⟨hcz18_0,hcz18_1,hfz18_0,hfz18_1⟩:=yk2 BK231))
 refine bodyPost_ret (results_cell_row rfl _ _ gb231 27 #[.slice Ao11 t233.length co11, .slice Ao16 t236.length co16] (0,0) _ rfl (by refine sB ?_;refine blk_put (cs:=#[.slice Ao11 t233.length co11, .slice none 0 0]) ?_ 1 _ rfl;refine sB ?_;refine blk_put (cs:=#[.slice none 0 0, .slice none 0 0]) ?_ 0 _ rfl;exact yF BK231) Try.underlying27 rfl D2) rfl ?_
 exact ⟨_,_,D3,by refine sR ?_;exact Kd.R_mono (Kd.R_far (p:=⟨gb231,1,none⟩) (Kd.R_far (p:=⟨gb231,0,none⟩) (Kd.R_far (p:=⟨gb232,1,none⟩) (Kd.R_types (Kd.R_types HO235.out BK232.out D6) BK231.out D6) (fun _ hk=>hk.1.2) (.slice Ao16 t236.length co16)) (fun _ hk=>hk.2) (.slice Ao11 t233.length co11)) (fun _ hk=>hk.2) (.slice Ao16 t236.length co16)) (fun _ hk=>hk.1.1.2),by refine sR ?_;exact Kd.R_mono (Kd.R_far (p:=⟨gb231,1,none⟩) (Kd.R_far (p:=⟨gb231,0,none⟩) (Kd.R_far (p:=⟨gb232,1,none⟩) (Kd.R_types (Kd.R_types HO238.out BK232.out D6) BK231.out D6) (fun _ hk=>hk.1.2) (.slice Ao16 t236.length co16)) (fun _ hk=>hk.2) (.slice Ao11 t233.length co11)) (fun _ hk=>hk.2) (.slice Ao16 t236.length co16)) (fun _ hk=>hk.1.1.2),yW HB⟩

def laws_toIntS.l0:Nat→List Int→List Int→Int→Option (List Int)
 | 0,_,_,_=>none
 | k+1,x0,x3,x4=>if x4 < (x0.length:Int) then (if 0≤x4 then (if x4 < (x3.length:Int) then (laws_toIntS.l0 k x0 (x3.set (x4:Int).toNat (rd x0 x4)) (wrap64 (x4+1))) else (none)) else (none)) else (some x3)
def laws_toIntS.f (k:Nat) (l0:List Int):Option (List Int):=if 0≤(l0.length:Int) then (if ((l0.length:Int):Int).toNat≤35184372088832 then (laws_toIntS.l0 k l0 (List.replicate ((l0.length:Int):Int).toNat 0) 0) else (none)) else (none)
theorem laws_toIntS.mono_l:∀ k,(∀ y0 y1 y2,LeO (laws_toIntS.l0 k y0 y1 y2) (laws_toIntS.l0 (k+1) y0 y1 y2))
 | 0=>fun _ _ _ r h=>by simp [laws_toIntS.l0] at h
 | k+1=>by
  have ih0:=laws_toIntS.mono_l k
  intro y0 y1 y2
  unfold laws_toIntS.l0
  exact mm
theorem laws_toIntS.mono:∀ a0 k,LeO (laws_toIntS.f k a0) (laws_toIntS.f (k+1) a0):=by
 intro a0 k
 have ih0:=laws_toIntS.mono_l k
 unfold laws_toIntS.f
 exact mm
theorem laws_toIntS.calls (k:Nat) (A0:Option Addr) (c0:Nat) (l0:List Int) (r:List Int) (w:World) (hr0:Kd.C (Kd.int .i64) w A0 l0.length l0) (hc0:l0.length≤c0) (h:laws_toIntS.f k l0=some r) :
  Calls Try.prog 18 #[.slice A0 l0.length c0] w fun e w'=>∃ v0_:Value,e = .returned (v0_)∧Kd.R (Kd.int .i64) 3 w' w.heap.size (fun _=>True) v0_ r∧Below w.heap.size w w':=by
 have HR0:=am hr0
 have HC0:=am hc0
 clear hr0 hc0
 have HB:=am (Below.refl w.heap.size w)
 have H:=h
 unfold laws_toIntS.f at H
 clear h
 by_cases c2:0≤(l0.length:Int)
 ·rw [if_pos c2] at H
  have c2b0:=eq_true c2
  have c2b1:decide (0≤(l0.length:Int))=true:=decide_eq_true c2
  clear c2
  obtain ⟨c3,H⟩:=yi H
  have c3b0:=eq_true c3
  have c3b1:decide (((l0.length:Int):Int).toNat≤35184372088832)=true:=decide_eq_true c3
  clear c3
  generalize hy239:(List.replicate ((l0.length:Int):Int).toNat 0:List Int)=y239 at H
  have Ny239:=am hy239.symm
  clear hy239
  have H':=am H
  clear H
  go_enter Try.func18,Try.ntmps18
  go_wp2_with (first|(refine gD 7 ?_;refine Kd.R_make (Kd.int .i64) _ 3 rfl (N:=7) rfl 25 _ _ rfl (l0.length:Int) rfl rfl Try.underlying25 (.int .i64 0) 8 info3 rfl D6 D8 0 (ok:=fun _=>True) (okp:=fun _=>True) rfl (fun _ hk=>hk) trivial (od D0) (Nat.le_trans (Nat.mul_le_mul_right _ (od D0:(l0.length:Int).toNat≤35184372088832)) D8) (Below.refl _ _) (Nat.le_refl _) ?_;intro v240 w4 ho5 hb hg_ hnew_;clear hg_ hnew_;(first|rw [← Ny239.out] at ho5|(simp only [Int.reduceToNat] at ho5;rw [← Ny239.out] at ho5));have HO241:=am (Kd.R_lower ho5 (pz (yW HB)));replace HB:=yH HB hb;clear hb ho5))
  go_loopg [4] k (fun kq v4 w'=>∃ (x3_1:List Int) (x4_1:Int),v4 = .int .i64 x4_1∧Aside0 (laws_toIntS.l0 kq l0 x3_1 x4_1=some r)∧Aside0 (kq≤k)∧Aside0 (Kd.R (Kd.int .i64) 3 w' w.heap.size (fun _=>True) v240 x3_1)∧Aside0 (Below w.heap.size w w'))
  case atStart=>exact ⟨(y239),(0),D1,H',⟨Nat.le_refl _⟩,⟨yR HO241⟩,⟨yW HB⟩⟩
  case round =>
   clear H'
   try clear c1
   try clear c2
   try clear c2b0
   try clear c2b1
   try clear p2
   try clear c3
   try clear c3b0
   try clear c3b1
   obtain ⟨x3_1,x4_1,rfl,HA,HK1,HO_3,HB⟩:=hrel
   cases gk with
   | zero=>exact absurd HA.out (by simp [laws_toIntS.l0])
   | succ k1 =>
    have H:=HA.out
    clear HA
    simp only [laws_toIntS.l0] at H
    by_cases c6:x4_1 < (l0.length:Int)
    ·rw [if_pos c6] at H
     have c6b0:=decide_eq_true c6
     clear c6
     obtain ⟨c7,H⟩:=yi H
     have c7b0:=decide_eq_true c7
     clear c7
     obtain ⟨c8,H⟩:=yi H
     have c8b0:=decide_eq_true c8
     clear c8
     generalize hy243:(x3_1.set (x4_1:Int).toNat (rd l0 x4_1):List Int)=y243 at H
     have Ny243:=am hy243.symm
     clear hy243
     have H':=am H
     clear H
     have p242:0≤(x4_1:Int):=od D0
     have q242:x4_1 < (l0.length:Int):=od D0
     obtain ⟨ad242,e242,hx242_0⟩:=Kd.at_int HR0.out x4_1 p242 q242
     cases e242
     replace hx242_0:=(HB.out.cell (World.block_lt_of_cell? w _ hx242_0)).trans hx242_0
     replace p242:=eq_true p242
     replace q242:=eq_true q242
     have p9:0≤(x4_1:Int):=od D0
     have q9:(x4_1:Int) < ((x3_1.length:Int):Int):=od D0
     obtain ⟨go9,co9,eo9,gb9,gl9,cl9,HG9⟩:=Kd.R_form HO_3.out D8
     (first|cases eo9|(injection eo9 with ea_ en_ ec_;(first|subst ea_|(injection ea_ with ea_;subst ea_));subst ec_;clear en_))
     have GB9:=am gb9
     have GG9:=am HG9
     clear gb9 gl9 HG9
     obtain ⟨hx9_0,hf9_0⟩:=Kd.R_celln 0 HO_3.out (x4_1:Int) p9 q9
     replace p9:=eq_true p9
     replace q9:=eq_true q9
     have HP10:=Kd.R_putg HO_3.out (x4_1:Int) (rd l0 x4_1)
     go_wp2_with (first|((with_reducible refine gate_store (t:=3) (p:=20) rfl ?_);refine store_event (t:=3) (p:=20) (v:=?vo_w11) (w1:=(wr.setCell ⟨go9,(x4_1:Int).toNat,none⟩ (.int .i64 (rd l0 x4_1)))) ?hg ?ho ?hn ?hr ?_;(case ho=>rfl);(case hg=>rfl);(case hn=>rfl);(case hr=>first|(go_simp;done)|(go_simp;rfl));intro w11 hw;have hg:wr.grownBy w11 (some go9):=(by rw [hw];exact HP10.2);have hp_:Kd.R (Kd.int .i64) 3 w11 w.heap.size (fun _=>True) (.slice (some ⟨go9,0,none⟩) x3_1.length co9) y243:=(by rw [hw,Ny243.out];exact HP10.1);clear HP10;replace HO_3:=am (hp_);replace HB:=am ((by rw [hw];exact pt (HB.out) GB9.out:Below w.heap.size w w11));clear hg hw hp_))
     go_roundg k1
     case measure=>have:=HK1.out;omega
     case rel=>exact ⟨(y243),(wrap64 (x4_1+1)),D1,H',⟨D17⟩,⟨yR HO_3⟩,⟨yW HB⟩⟩
    rw [if_neg c6] at H
    have c6b0:=decide_eq_false c6
    clear c6
    obtain rfl:=Option.some.inj H
    go_wp2
    go_ret
    exact ⟨_,D3,yR HO_3,yW HB⟩
 rw [if_neg c2] at H
 exact absurd H D38

def slices_Clone_string_string.f (l0:List ByteArray):Option (List ByteArray):=(some (([]:List ByteArray):List ByteArray)).bind fun y181=>(if y181.length+l0.length < 8796093022208 then (some (y181 ++ l0)) else (none))
theorem slices_Clone_string_string.calls (A0:Option Addr) (c0:Nat) (l0:List ByteArray) (r:List ByteArray) (w:World) (hr0:Kd.C Kd.string w A0 l0.length l0) (hc0:l0.length≤c0) (h:slices_Clone_string_string.f l0=some r) :
  Calls Try.prog 97 #[.slice A0 l0.length c0] w fun e w'=>∃ v0_:Value,e = .returned (v0_)∧Kd.R Kd.string 9 w' w.heap.size (fun _=>True) v0_ r∧Below w.heap.size w w':=by
 have HR0:=am hr0
 have HC0:=am hc0
 clear hr0 hc0
 have HB:=am (Below.refl w.heap.size w)
 have H:=h
 unfold slices_Clone_string_string.f at H
 clear h
 obtain ⟨y181,hy181,H⟩:=ys H
 have Ny181:=am hy181
 clear hy181
 by_cases c2:y181.length+l0.length < 8796093022208
 ·rw [if_pos c2] at H
  have LMc2:=am c2
  clear c2
  generalize hy184:(y181 ++ l0:List ByteArray)=y184 at H
  have Ny184:=am hy184.symm
  clear hy184
  obtain rfl:=Option.some.inj H
  have keq:=fun (W:World) (a:Option Addr) (n c:Nat)=>Lib.run_eql_slice_nil (P:=Try.prog) W 22 9 a n c 0 0 Try.underlying22
  cases A0 with
  | none =>
   have e0:l0=[]:=by
    have hc:=HR0.out
    by_cases hp:0 < l0.length
    ·obtain ⟨ad,h1,_⟩:=hc.2.2 hp
     cases h1
    exact List.eq_nil_of_length_eq_zero D8
   have ey:y184=[]:=by rw [Ny184.out,Ny181.out,e0];rfl
   subst ey
   go_enter Try.func97,Try.ntmps97
   go_wp2
   go_ret
   exact ⟨_,rfl,Kd.R_nil _ _ _ _ _,HB.out⟩
  | some ad0 =>
  go_enter Try.func97,Try.ntmps97
  go_wp2_with (first|(refine gD 5 ?_;refine Kd.R_lit Kd.string _ 9 D10 (N:=5) D10 (xs:=([]:List ByteArray)) (inner:=[]) (ok:=fun _=>True) (okp:=fun _=>True) D19 D29 (fun _ hk=>hk) trivial (Below.refl _ _) (Nat.le_refl _) D38 ?_;intro v182 w3 ho4 hb hg_ hnew_;clear hg_ hnew_;(first|rw [← Ny181.out] at ho4|(simp only [Int.reduceToNat] at ho4;rw [← Ny181.out] at ho4));have HO183:=am (Kd.R_lower ho4 (pz (yW HB)));replace HB:=yH HB hb;clear hb ho4)|((with_reducible refine gate_builtin (b:=.append) (xs:=#[.tmp 5, .tmp 6]) rfl ?_);at_builtin;refine Kd.R_append_rows Kd.string (w0:=w) w.heap.size rfl (.tmp 5) (.tmp 6) 22 9 (.string ⟨#[]⟩) 16 rfl Try.underlying22 info9 rfl D6 D8 v182 y181 l0 _ _ _ (fun _=>True) (fun _=>False) rfl rfl (by exact (yR HO183)) D59 (fun _ _ h=>h) (fun _ h=>h.elim) D20 D50 D25 (by have:=LMc2.out;omega) ?_;intro v185 w5 ho hb hg hat;rw [← Ny184.out] at ho;have n0_:=am (hb);have n1_:=am (ho);clear HB HO183;have HB:=n0_;have HO186:=n1_;clear n0_ n1_ ho hb hg hat))
  go_ret
  exact ⟨_,D3,yR HO186,yW HB⟩
 rw [if_neg c2] at H
 exact absurd H D38

def impl_within.f (a0:Int) (a1:Int) (a2:Int):Option (Bool):=if a0 ≥ a1 then (some (decide (a0≤a2))) else (some false)
theorem impl_within.calls (a0:Int) (a1:Int) (a2:Int) (r:Bool) (w:World) (h:impl_within.f a0 a1 a2=some r) :
  Calls Try.prog 137 #[.int .i64 a0, .int .i64 a1, .int .i64 a2] w fun e w'=>e = .returned (.bool r)∧Drawn0 w w':=by
 have H:=h
 unfold impl_within.f at H
 clear h
 by_cases c4:a0 ≥ a1
 ·rw [if_pos c4] at H
  have c4b0:decide (a1≤a0)=true:=decide_eq_true c4
  clear c4
  obtain rfl:=Option.some.inj H
  go_enter Try.func137,Try.ntmps137
  go_wp2
  go_ret
  exact ⟨D1,D5⟩
 rw [if_neg c4] at H
 have c4b0:decide (a1≤a0)=false:=decide_eq_false c4
 clear c4
 obtain rfl:=Option.some.inj H
 go_enter Try.func137,Try.ntmps137
 go_wp2
 go_ret
 exact ⟨D1,D5⟩

-- NOT PRINTED: function 210 (slices_IndexFunc_string_string)

-- NOT PRINTED: function 204 (slices_ContainsFunc_string_string)

section
open Go.Proofs.Ytajikfnpcobnpaa.KitW
set_option maxHeartbeats 4000000 in
theorem texts_IndexFunc (g:Nat) (eg:∀ args w,(callFunc g args).run Try.prog w = .ok (.enter g args) w) (fv:Value) (p:Nat→Bool) (ad:Addr) (n c:Nat) (v:Nat→Value) (w:World) (hbig:n≤9223372036854775806)
  (hc:∀ i,i < n→w.cell? (ad.add i)=some (v i))
  (hp:∀ i,i < n→∀ W,Drawn0 w W→Calls Try.prog g #[v i,fv] W fun e w'=>e = .returned (.bool (p i))∧Drawn0 W w') :
  Calls Try.prog 210 #[.slice (some ad) n c, .func (.func g) #[] #[fv]] w fun e w'=>(∃ r,e = .returned (.int .i64 r)∧IdxOf p n r)∧Drawn0 w w':=by
 have HP:=am hp
 have HC:=am hc
 clear hp hc
 go_enter Try.func210,Try.ntmps210
 go_wp2
 go_loopg [5,8] n (fun gg _ s8 wr=>∃ kk:Nat,kk≤n∧n - kk≤gg∧s8 = .int .i64 kk∧Aside0 (Drawn0 w wr)∧Aside0 (∀ j,j < kk→p j=false))
 case atStart=>exact ⟨0,Nat.zero_le _,D8,rfl,⟨Drawn0.refl _⟩,⟨fun j hj=>absurd hj (Nat.not_lt_zero _)⟩⟩
 case round =>
  obtain ⟨kk,hkk,hg,rfl,HD,HA⟩:=hrel
  by_cases hlt:kk < n
  ·have hltz:(kk:Int) < (n:Int):=by omega
   have hcell:wr.cell? (ad.add kk)=some (v kk):=by
    obtain ⟨q,rfl⟩:=HD.out.out
    exact HC.out kk hlt
   have hcall:=HP.out kk hlt
   cases hq:p kk with
   | true =>
    rw [hq] at hcall
    have HQ:=am hq
    clear hq
    have HX:=am hcall
    clear hcall
    go_wp2_with (go_at_fn g;refine (HX.out _ ?dr).mono ?_;(case dr=>exact HD.out);rintro e w' ⟨rfl,hd⟩)
    go_ret
    exact ⟨⟨_,rfl, .inr ⟨kk,hlt,rfl,HQ.out,HA.out⟩⟩,drawn_trans HD.out hd⟩
   | false =>
    rw [hq] at hcall
    have HQ:=am hq
    clear hq
    have HX:=am hcall
    clear hcall
    go_wp2_with (go_at_fn g;refine (HX.out _ ?dr).mono ?_;(case dr=>exact HD.out);rintro e w' ⟨rfl,hd⟩)
    go_roundg (n - (kk+1))
    case measure=>omega
    case rel=>exact ⟨kk+1,D8,D8,by go_num,⟨drawn_trans HD.out hd⟩,⟨fun j hj=>by by_cases e:j=kk;exact e ▸ HQ.out;exact HA.out j D8⟩⟩
  have hltz:¬ (kk:Int) < (n:Int):=by omega
  have:kk=n:=by omega
  subst this
  go_wp2
  go_ret
  exact ⟨⟨_,rfl, .inl ⟨rfl,HA.out⟩⟩,HD.out⟩
set_option maxHeartbeats 4000000 in
theorem texts_ContainsFunc (g:Nat) (eg:∀ args w,(callFunc g args).run Try.prog w = .ok (.enter g args) w) (fv:Value) (p:Nat→Bool) (ad:Addr) (n c:Nat) (v:Nat→Value) (w:World) (hbig:n≤9223372036854775806)
  (hc:∀ i,i < n→w.cell? (ad.add i)=some (v i))
  (hp:∀ i,i < n→∀ W,Drawn0 w W→Calls Try.prog g #[v i,fv] W fun e w'=>e = .returned (.bool (p i))∧Drawn0 W w') :
  Calls Try.prog 204 #[.slice (some ad) n c, .func (.func g) #[] #[fv]] w fun e w'=>e = .returned (.bool ((List.range n).any p))∧Drawn0 w w':=by
 have HX:=am (texts_IndexFunc g eg fv p ad n c v w hbig hc hp)
 clear hp hc
 go_enter Try.func204,Try.ntmps204
 go_wp2_with (go_at_call 210;refine HX.out.mono ?_;rintro e w' ⟨⟨r,rfl,hr⟩,hd⟩)
 go_ret
 refine ⟨?_,hd⟩
 rw [← idxOf_nonneg hr]
 first|rfl|(simp;done)
/-- No text at all: nothing is looked at. -/
theorem texts_none (A:Option Addr) (c:Nat) (fv:Value) (w:World) :
  Calls Try.prog 204 #[.slice A 0 c,fv] w fun e w'=>e = .returned (.bool false)∧w=w':=by
 have HX:∀ w:World,Calls Try.prog 210 #[.slice A 0 c,fv] w fun e w'=>e = .returned (.int .i64 (-1))∧w=w':=by
  intro w
  go_enter Try.func210,Try.ntmps210
  go_wp2
  go_loopg [5,8] 0 (fun gg _ s8 wr=>s8 = .int .i64 0∧w=wr)
  case atStart=>exact ⟨rfl,rfl⟩
  case round =>
   obtain ⟨rfl,rfl⟩:=hrel
   go_wp2
   go_ret
   exact ⟨rfl,rfl⟩
 go_enter Try.func204,Try.ntmps204
 go_wp2_with (go_at_call 210;refine (HX _).mono ?_;rintro e w' ⟨rfl,rfl⟩)
 go_ret
 exact ⟨rfl,rfl⟩
/-- The test of one text. -/
theorem texts_test (gb:Nat) (ad:Addr) (n c:Nat) (hn:0 < n) (s0 s:ByteArray) (hs:s.size≤140737488355328) (h0s:s0.size≤140737488355328) (W:World)
  (hbox:W.cell? ⟨gb,0,none⟩=some (.slice (some ad) n c)) (h0:W.cell? (ad.add 0)=some (.string s0)) :
  Calls Try.prog 205 #[.string s, .pointer (some ⟨gb,0,none⟩)] W fun e w'=>e = .returned (.bool (decide (40 < s.size) ||s.size != s0.size))∧Drawn0 W w':=by
 rw [Addr.add_zero'] at h0
 have hn':(0 < n)=True:=eq_true hn
 by_cases h1:40 < s.size
 ·have h1z:decide ((s.size:Int) > 40)=true:=decide_eq_true D8
  have h1n:decide (40 < s.size)=true:=decide_eq_true h1
  go_enter Try.func205,Try.ntmps205
  go_wp2
  go_ret
  refine ⟨?_,Drawn0.refl _⟩
  rw [h1n];rfl
 have h1z:decide ((s.size:Int) > 40)=false:=decide_eq_false D8
 have h1n:decide (40 < s.size)=false:=decide_eq_false h1
 go_enter Try.func205,Try.ntmps205
 go_wp2
 go_ret
 refine ⟨?_,Drawn0.refl _⟩
 rw [h1n,Bool.false_or]
 by_cases e:s.size=s0.size
 ·rw [e];simp
 have e2:¬ ((s.size:Int)=(s0.size:Int)):=by omega
 simp only [bne]
 rw [show ((s.size:Int) == (s0.size:Int))=false by simpa using e2,show (s.size == s0.size)=false by simpa using e]
 rfl
def impl_areEqual.f (l0:List ByteArray):Option (Bool):=if l0.length≤140737488355328∧∀ s ∈ l0,s.size≤140737488355328 then some (textsOk l0) else none
set_option maxHeartbeats 4000000 in
theorem impl_areEqual.calls (A0:Option Addr) (c0:Nat) (l0:List ByteArray) (r:Bool) (w:World) (hr0:Kd.C Kd.string w A0 l0.length l0) (hc0:l0.length≤c0) (h:impl_areEqual.f l0=some r) :
  Calls Try.prog 177 #[.slice A0 l0.length c0] w fun e w'=>e = .returned (.bool r)∧Below w.heap.size w w':=by
 unfold impl_areEqual.f at h
 by_cases hs:l0.length≤140737488355328∧∀ s ∈ l0,s.size≤140737488355328
 ·rw [if_pos hs] at h
  obtain rfl:=Option.some.inj h
  clear h
  have HS:=am hs
  clear hs
  by_cases hp:0 < l0.length
  ·obtain ⟨ad,rfl,_⟩:=hr0.2.2 hp
   have hb9:l0.length≤9223372036854775806:=by have:=HS.out.1;omega
   have hcell:∀ i,i < l0.length→w.cell? (ad.add i)=some (.string (l0.getD i ByteArray.empty)):=fun i hi=>by
    obtain ⟨ad',e,h⟩:=Kd.at_string hr0 (i:Int) D8 D8
    injection e with e
    subst e
    rw [Int.toNat_natCast] at h
    rw [h]
    unfold rdOf
    rw [Int.toNat_natCast]
   have HC:=am hcell
   have HP:=am hp
   have H9:=am hb9
   clear hcell hr0 hp hb9
   go_enter Try.func177,Try.ntmps177
   go_wp2_with fail
   obtain ⟨W,hW⟩:∃ W:World,W=w.alloc (.cells #[.slice (some ad) l0.length c0] 22 (0,0)):=⟨_,rfl⟩
   have hb:Below w.heap.size w W:=by rw [hW];exact pa (Below.refl _ _) _
   have hc1:W.cell? ⟨w.heap.size,0,none⟩=some (.slice (some ad) l0.length c0):=by rw [hW];go_simp
   rw [← hW]
   clear hW
   have hcell:∀ i,i < l0.length→W.cell? (ad.add i)=some (.string (l0.getD i ByteArray.empty)):=fun i hi=>(hb.cell (World.block_lt_of_cell? w _ (HC.out i hi))).trans (HC.out i hi)
   have hsz:∀ i,(l0.getD i ByteArray.empty).size≤140737488355328:=fun i=>by
    rw [List.getD_eq_getElem?_getD]
    by_cases hi:i < l0.length
    ·rw [List.getElem?_eq_getElem hi];exact HS.out.2 _ (List.getElem_mem hi)
    rw [List.getElem?_eq_none D8];decide
   have hcf:=texts_ContainsFunc 205 (enters_of Try.func205 rfl rfl) (.pointer (some ⟨w.heap.size,0,none⟩)) (fun i=>decide (40 < (l0.getD i ByteArray.empty).size) ||(l0.getD i ByteArray.empty).size != (l0.getD 0 ByteArray.empty).size) ad l0.length c0 (fun i=>.string (l0.getD i ByteArray.empty)) W H9.out hcell
    (fun i hi W1 hd=>by
     obtain ⟨q3,rfl⟩:=hd.out
     exact texts_test w.heap.size ad l0.length c0 HP.out (l0.getD 0 ByteArray.empty) (l0.getD i ByteArray.empty) (hsz i) (hsz 0) _ hc1 (hcell 0 HP.out))
   have HB:=am hb
   clear hb hcell hsz
   refine hcf.mono ?_
   clear hcf
   rintro e w' ⟨rfl,⟨q3,rfl⟩⟩
   go_wp2
   go_ret
   exact ⟨rfl,pb HB.out _⟩
  have e0:l0=[]:=List.eq_nil_of_length_eq_zero D8
  subst e0
  clear hp hr0 HS hc0
  go_enter Try.func177,Try.ntmps177
  go_wp2_with (go_at_call 204;refine (texts_none _ _ _ _).mono ?_;rintro e w' ⟨rfl,rfl⟩)
  go_ret
  exact ⟨rfl,pa (Below.refl _ _) _⟩
 rw [if_neg hs] at h
 cases h
end

end Go.Proofs.Ytajikfnpcobnpaa.PFnExactMendStripe
-- SHRUNK
-- HALVED
-- SQUEEZED
-- SQUEEZED2
-- SQUEEZED3
-- SQUEEZED4
-- SQUEEZED5
-- SQUEEZED6
