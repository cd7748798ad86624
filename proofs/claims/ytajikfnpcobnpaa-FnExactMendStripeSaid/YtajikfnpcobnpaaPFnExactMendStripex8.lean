-- Laid by a program of this session.
import Derived.Test.YtajikfnpcobnpaaVMendStripeB
import Derived.Test.YtajikfnpcobnpaaPFnExactMendStripex0
import Derived.Test.YtajikfnpcobnpaaPFnExactMendStripex3
namespace Go.Proofs.Ytajikfnpcobnpaa.PFnExactMendStripe
open Go.RowKit Go.Proofs.YtajikfnpcobnpaaW.PrintWords Go.Proofs.YtajikfnpcobnpaaW.PrintLast Go.Proofs.YtajikfnpcobnpaaW.PrintMore Go.Proofs.Ytajikfnpcobnpaa.KitS
attribute [local go_sem] max2_int min2_int max_two min_two max_three min_three max_four min_four   -- for this text's walks alone
set_option linter.unusedVariables false
set_option maxHeartbeats 8000000
set_option maxRecDepth 100000
set_option linter.unusedSimpArgs false

def spec_l2Identity.l0:Nat→Int→Int→List (List Int)→Option ((List (List Int)))
 | 0,_,_,_=>none
 | k+1,x10,x11,x204000=>if x11 < x10 then (if 0≤x11 then (if x11 < (x204000.length:Int) then (if x11 < ((rd_L3 x204000 x11).length:Int) then (spec_l2Identity.l0 k x10 (wrap64 (x11+1)) (x204000.set (x11:Int).toNat ((rd_L3 x204000 x11).set (x11:Int).toNat 1))) else (none)) else (none)) else (none)) else (some x204000)
def spec_l2Identity.f (k:Nat) (a0:Int):Option ((List (List Int))):=(spec_l2Blank.f k a0 a0).bind fun t200=>(spec_l2Identity.l0 k (t200.length:Int) 0 t200)
theorem spec_l2Identity.mono_l:∀ k,(∀ y0 y1 y2,LeO (spec_l2Identity.l0 k y0 y1 y2) (spec_l2Identity.l0 (k+1) y0 y1 y2))
 | 0=>fun _ _ _ r h=>by simp [spec_l2Identity.l0] at h
 | k+1=>by
  have ih0:=spec_l2Identity.mono_l k
  intro y0 y1 y2
  unfold spec_l2Identity.l0
  exact mm
theorem spec_l2Identity.mono:∀ a0 k,LeO (spec_l2Identity.f k a0) (spec_l2Identity.f (k+1) a0):=by
 intro a0 k
 have ih0:=spec_l2Identity.mono_l k
 unfold spec_l2Identity.f
 exact mm
theorem spec_l2Identity.calls (k:Nat) (a0:Int) (r:List (List Int)) (w:World) (h:spec_l2Identity.f k a0=some r) :
  Calls Try.prog 176 #[.int .i64 a0] w fun e w'=>∃ v0_:Value,e = .returned (.agg #[v0_])∧Kd.S (Kd.slice 5 (Kd.int .u8)) 57 w' w.heap.size (fun _=>True) v0_ r∧Below w.heap.size w w':=by
 have hu43:=Try.underlying43
 have HB:=am (Below.refl w.heap.size w)
 have H:=h
 unfold spec_l2Identity.f at H
 clear h
 obtain ⟨t200,A2,H⟩:=yo H
 have H':=am H
 clear H
 go_enter Try.func176,Try.ntmps176
 go_wp2_with (first|(refine gD 2 ?_;refine gB (cs:=#[.slice none 0 0]) 43 ?_;intro gb199 hg w3 hbox hb;have BK199:=am (hbox);have GW199:=ye HB hg;replace HB:=yH HB hb;have GE199:=GW199;clear hb hbox hg)|(refine gC 172 ?_;refine gM (some 7) Try.func172 (args:=#[.int .i64 a0, .int .i64 a0]) (spec_l2Blank.calls k a0 a0 t200 _ A2.out) ?_;rintro e w4 ⟨v201,rfl,ho0,hb⟩;refine ⟨_,rfl,?_⟩;have HO202:=am (Kd.S_lower ho0 (pz (yW HB)));replace BK199:=yb BK199 hb;replace HB:=yH HB hb;clear hb ho0)|(refine gD 3 ?_;refine gB (cs:=#[.slice none 0 0]) 43 ?_;intro gb203 hg w5 hbox hb;replace HO202:=bS HO202 hb;have BK203:=am (hbox);have GW203:=ye HB hg;replace HB:=yH HB hb;have NB199_203:=yl BK199 hg;have NB203_199:=yg BK199 hg;replace BK199:=yb BK199 hb;have GE203:=GW203;clear hb hbox hg;obtain ⟨Ao6,co6,eo6⟩:=Kd.S_slice HO202.out;subst eo6;have hnb7:=NB203_199.out;have hnc7:=NB199_203.out;obtain ⟨hcz8_0,hfz8_0⟩:=yk1 BK203))
 go_loopg [11] k (fun kq v11 w'=>∃ (x11_1:Int) (x204000_1:List (List Int)) (u204000:Value),v11 = .int .i64 x11_1∧Aside0 (spec_l2Identity.l0 kq (t200.length:Int) x11_1 x204000_1=some r)∧Aside0 (kq≤k)∧Aside0 (Kd.S (Kd.slice 5 (Kd.int .u8)) 57 w' w.heap.size (fun _=>True) u204000 x204000_1)∧Aside0 (w'.heap[gb199]? = some (.cells #[(.slice none 0 0)] 43 (0,0)))∧Aside0 (w'.heap[gb203]? = some (.cells #[u204000] 43 (0,0)))∧Aside0 (Below w.heap.size w w'))
 case atStart=>exact ⟨(0),(t200),(.slice Ao6 t200.length co6),D1,H',⟨Nat.le_refl _⟩,⟨by refine sS ?_;exact Kd.S_mono (Kd.S_far (p:=⟨gb203,0,none⟩) (Kd.S_types HO202.out BK203.out D6) (fun _ hk=>hk.2) (.slice Ao6 t200.length co6)) (fun _ hk=>trivial)⟩,⟨yF BK199⟩,⟨by refine sB ?_;refine blk_put (cs:=#[.slice none 0 0]) ?_ 0 _ rfl;exact yB BK203⟩,⟨yW HB⟩⟩
 case round =>
  clear H'
  try clear c1
  try clear p2
  try clear c7
  try clear hcz8_0
  try clear hfz8_0
  obtain ⟨x11_1,x204000_1,u204000,rfl,HA,HK1,HO_204000,BK199,BK203,HB⟩:=hrel
  cases gk with
  | zero=>exact absurd HA.out (by simp [spec_l2Identity.l0])
  | succ k1 =>
   have H:=HA.out
   clear HA
   simp only [spec_l2Identity.l0] at H
   by_cases c9:x11_1 < (t200.length:Int)
   ·rw [if_pos c9] at H
    have c9b0:=decide_eq_true c9
    clear c9
    obtain ⟨c10,H⟩:=yi H
    have c10b0:=decide_eq_true c10
    clear c10
    obtain ⟨c11,H⟩:=yi H
    have c11b0:=decide_eq_true c11
    clear c11
    obtain ⟨c12,H⟩:=yi H
    have c12b0:=decide_eq_true c12
    clear c12
    generalize hy205:((rd_L3 x204000_1 x11_1).set (x11_1:Int).toNat 1:List Int)=y205 at H
    have Ny205:=am hy205.symm
    clear hy205
    generalize hy207:(x204000_1.set (x11_1:Int).toNat y205:List (List Int))=y207 at H
    have Ny207:=am hy207.symm
    clear hy207
    have H':=am H
    clear H
    have hnb14:=NB203_199.out
    have hnc14:=NB199_203.out
    obtain ⟨hcz15_0,hfz15_0⟩:=yk1 BK203
    obtain ⟨Ao16,co16,eo16⟩:=Kd.S_slice HO_204000.out
    subst eo16
    have p204:0≤(x11_1:Int):=od D0
    have q204:x11_1 < (x204000_1.length:Int):=od D0
    obtain ⟨ad204,A204_0,c204_0,e204,hx204_0,hl204_0,hi204_0⟩:=at_L3 (Kd.S_reads' HO_204000.out).2.2 x11_1 p204 q204
    cases e204
    obtain ⟨ce204,hce204,hMe204,hcc204⟩:=Kd.S_get HO_204000.out [] x11_1 p204 (by first|exact q204|exact od D0|(have e_:=(Kd.S_reads' HO_204000.out).1;omega))
    obtain ⟨ve204_0,rfl,ge204_0⟩:=hMe204
    have hv204_0:=hcc204 0 _ rfl
    rw [Nat.add_zero,show ((Kd.slice 5 (Kd.int .u8))).sz=1 from rfl,Nat.mul_one] at hv204_0
    replace hv204_0:=Option.some.inj (hv204_0.symm.trans hx204_0)
    rw [hv204_0] at ge204_0
    have HL204_0:=am (show Kd.R (Kd.int .u8) 5 _ _ _ _ (rd_L3 x204000_1 x11_1) from ge204_0)
    clear hv204_0 ge204_0
    have HX204_0:=am hx204_0
    clear hcc204 hce204
    have HR204_0:=am hi204_0
    have HC204_0:=am hl204_0
    clear hi204_0 hl204_0
    replace p204:=eq_true p204
    replace q204:=eq_true q204
    have p13:0≤(x11_1:Int):=od D0
    have q13:(x11_1:Int) < (((rd_L3 x204000_1 x11_1).length:Int):Int):=od D0
    obtain ⟨go13,co13,eo13,gb13,gl13,cl13,HG13⟩:=Kd.R_form HL204_0.out D8
    (first|cases eo13|(injection eo13 with ea_ en_ ec_;(first|subst ea_|(injection ea_ with ea_;subst ea_));subst ec_;clear en_))
    have GB13:=am gb13
    have GG13:=am HG13
    clear gb13 gl13 HG13
    obtain ⟨hx13_0,hf13_0⟩:=Kd.R_celln 0 HL204_0.out (x11_1:Int) p13 q13
    replace p13:=eq_true p13
    replace q13:=eq_true q13
    have hq17:(x11_1:Int) < (x204000_1.length:Int):=(by have h_:(x11_1:Int) < ((x204000_1.length:Int):Int):=od D0;first|exact h_|(have e_:=(Kd.S_reads' HO_204000.out).1;omega)|simpa only [List.length_set,List.length_set] using h_)
    obtain ⟨oki17,ce17,hcl17,hM17,hcc17,hok17,hbk17⟩:=Kd.S_borrow HO_204000.out [] (x11_1:Int) (od D0) hq17
    obtain ⟨ve17_0,rfl,ge17_0⟩:=hM17
    have hv17:=hcc17 0 _ rfl
    rw [Nat.add_zero,show ((Kd.slice 5 (Kd.int .u8))).sz=1 from rfl,Nat.mul_one] at hv17
    replace hv17:=Option.some.inj (hv17.symm.trans HX204_0.out)
    subst hv17
    clear hcc17 hcl17
    replace ge17_0:=(show Kd.R (Kd.int .u8) 5 _ _ _ _ (rd_L3 x204000_1 x11_1) from ge17_0)
    have HP17:=Kd.R_putg ge17_0 (x11_1:Int) 1
    go_wp2_with (first|((with_reducible refine gate_store (t:=5) (p:=20) rfl ?_);refine store_event (t:=5) (p:=20) (v:=?vo_w18) (w1:=(wr.setCell ⟨go13,(x11_1:Int).toNat,none⟩ (.int .u8 1))) ?hg ?ho ?hn ?hr ?_;(case ho=>rfl);(case hg=>rfl);(case hn=>rfl);(case hr=>first|(go_simp;done)|(go_simp;rfl));intro w18 hw;have hg:wr.grownBy w18 (some go13):=(by rw [hw];exact HP17.2);have hz_:Kd.R (Kd.int .u8) 5 w18 w.heap.size oki17 (.slice (some ⟨go13,0,none⟩) (rd_L3 x204000_1 x11_1).length c204_0) y205:=(by rw [hw,Ny205.out];exact HP17.1);have hp_:Kd.S (Kd.slice 5 (Kd.int .u8)) 57 w18 w.heap.size (fun _=>True) (.slice (some ad204) x204000_1.length co16) y207:=(by rw [Ny207.out];exact hbk17 hg (fun k_ e_=>by injection e_ with e_;subst e_;exact ge17_0.1 _ rfl) (Kd.M_row hz_));have hm_:=Kd.R_mono hz_ hok17;clear HP17 hbk17;have n0_:=am (hp_);have n1_:=am (blk_grown (g:=gb199) (o:=.cells #[.slice none 0 0] 43 (0,0)) (yB BK199) hg (Kd.R_ne HL204_0.out BK199.out D6));have n2_:=am (blk_grown (g:=gb203) (o:=.cells #[.slice (some ad204) x204000_1.length co16] 43 (0,0)) (yB BK203) hg (Kd.R_ne HL204_0.out BK203.out D6));have n3_:=am ((by rw [hw];exact pt (HB.out) GB13.out:Below w.heap.size w w18));have n4_:=am (hm_);have n5_:=am ((Kd.R_reads' hm_).2.1);clear HO_204000 BK199 BK203 HB HL204_0;have HO_204000:=n0_;have BK199:=n1_;have BK203:=n2_;have HB:=n3_;have HL208:=n4_;have HC206:=n5_;clear n0_ n1_ n2_ n3_ n4_ n5_ hg hw hp_ hz_ hm_ hok17))
    go_roundg k1
    case measure=>have:=HK1.out;omega
    case rel=>exact ⟨(wrap64 (x11_1+1)),(y207),(.slice (some ad204) x204000_1.length co16),D1,H',⟨D17⟩,⟨yS HO_204000⟩,⟨yB BK199⟩,⟨yB BK203⟩,⟨yW HB⟩⟩
   rw [if_neg c9] at H
   have c9b0:=decide_eq_false c9
   clear c9
   obtain rfl:=Option.some.inj H
   have hnb19:=NB203_199.out
   have hnc19:=NB199_203.out
   obtain ⟨hcz20_0,hfz20_0⟩:=yk1 BK203
   obtain ⟨Ao21,co21,eo21⟩:=Kd.S_slice HO_204000.out
   subst eo21
   obtain ⟨hcz22_0,hfz22_0⟩:=yk1 BK199
   go_wp2
   refine bodyPost_ret (results_cell_row rfl _ _ gb199 43 #[.slice Ao21 x204000_1.length co21] (0,0) _ rfl (by refine sB ?_;refine blk_put (cs:=#[.slice none 0 0]) ?_ 0 _ rfl;exact yB BK199) Try.underlying43 rfl D2) rfl ?_
   exact ⟨_,D3,by refine sS ?_;exact Kd.S_mono (Kd.S_far (p:=⟨gb199,0,none⟩) (Kd.S_types HO_204000.out BK199.out D6) (fun _ hk=>hk.2) (.slice Ao21 x204000_1.length co21)) (fun _ hk=>trivial),yW HB⟩

end Go.Proofs.Ytajikfnpcobnpaa.PFnExactMendStripe
-- SHRUNK
-- HALVED
-- SQUEEZED
-- SQUEEZED2
-- SQUEEZED3
-- SQUEEZED4
-- SQUEEZED5
-- SQUEEZED6
