-- Laid by a program of this session.
import Derived.Test.YtajikfnpcobnpaaVMendStripeB
import Derived.Test.YtajikfnpcobnpaaPFnExactMendStripex0
import Derived.Test.YtajikfnpcobnpaaPFnExactMendStripex3
namespace Go.Proofs.Ytajikfnpcobnpaa.PFnExactMendStripe
open Go.RowKit Go.Proofs.YtajikfnpcobnpaaW.PrintWords Go.Proofs.YtajikfnpcobnpaaW.PrintLast Go.Proofs.YtajikfnpcobnpaaW.PrintMore Go.Proofs.Ytajikfnpcobnpaa.KitS
attribute [local go_sem] max2_int min2_int max_two min_two max_three min_three max_four min_four   -- for this text's walks alone
set_option linter.unusedVariables false
set_option maxHeartbeats 8000000
set_option maxRecDepth 100000
set_option linter.unusedSimpArgs false

mutual
def spec_l6Matrix.l0:Nat→Int→Int→List (List Int)→Option ((List (List Int)))
 | 0,_,_,_=>none
 | k+1,x13,x14,x154000=>if x14 < x13 then (if 0≤x14 then (if x14 < (x154000.length:Int) then (spec_l6Matrix.l1 k x14 x13 x14 ((rd_L3 x154000 x14).length:Int) 0 x154000) else (none)) else (none)) else (some x154000)
def spec_l6Matrix.l1:Nat→Int→Int→Int→Int→Int→List (List Int)→Option ((List (List Int)))
 | 0,_,_,_,_,_,_=>none
 | k+1,x6,x13,x14,x22,x23,x154000=>if x23 < x22 then (if 0≤x6 then (if x6 < (x154000.length:Int) then ((spec_l1Power.f k 3 x6).bind fun t156=>((spec_l1Power.f k t156 x23).bind fun t157=>(if 0≤x23 then (if x23 < ((rd_L3 x154000 x6).length:Int) then (spec_l6Matrix.l1 k x6 x13 x14 x22 (wrap64 (x23+1)) (x154000.set (x6:Int).toNat ((rd_L3 x154000 x6).set (x23:Int).toNat t157))) else (none)) else (none)))) else (none)) else (none)) else (spec_l6Matrix.l0 k x13 (wrap64 (x14+1)) x154000)
end
def spec_l6Matrix.f (k:Nat) (a0:Int) (a1:Int):Option ((List (List Int))):=(spec_l2Blank.f k a1 a0).bind fun t150=>(spec_l6Matrix.l0 k (t150.length:Int) 0 t150)
theorem spec_l6Matrix.mono_l:∀ k,(∀ y0 y1 y2,LeO (spec_l6Matrix.l0 k y0 y1 y2) (spec_l6Matrix.l0 (k+1) y0 y1 y2))∧(∀ y0 y1 y2 y3 y4 y5,LeO (spec_l6Matrix.l1 k y0 y1 y2 y3 y4 y5) (spec_l6Matrix.l1 (k+1) y0 y1 y2 y3 y4 y5))
 | 0=>⟨fun _ _ _ r h=>by simp [spec_l6Matrix.l0] at h,fun _ _ _ _ _ _ r h=>by simp [spec_l6Matrix.l1] at h⟩
 | k+1=>by
  obtain ⟨ih0,ih1⟩:=spec_l6Matrix.mono_l k
  refine ⟨?_,?_⟩
  ·intro y0 y1 y2
   unfold spec_l6Matrix.l0
   exact mm
  intro y0 y1 y2 y3 y4 y5
  unfold spec_l6Matrix.l1
  exact mm
theorem spec_l6Matrix.mono:∀ a0 a1 k,LeO (spec_l6Matrix.f k a0 a1) (spec_l6Matrix.f (k+1) a0 a1):=by
 intro a0 a1 k
 obtain ⟨ih0,ih1⟩:=spec_l6Matrix.mono_l k
 unfold spec_l6Matrix.f
 exact mm
def spec_l6Matrix.T8:Bool × List (List Nat × List Nat):=(true,[([],[]),([0],[0]),([],[]),([1,2],[1,2]),([3],[3]),([],[]),([],[]),([6],[6]),([],[]),([7,8,7],[7,8]),([4,5,0,1,2,3,4,5,6,7,8,9],[4,5]),([10,9,9,0,1,2,3,4,5,6,7,8,9],[9,10])])
def spec_l6Matrix.B8:List Nat:=[0,1,0,7,15,0,0,64,0,448,1023,2047]
theorem spec_l6Matrix.tab8:rtab .any (opsOf Try.f88 8)=spec_l6Matrix.T8:=by kernel_rfl
theorem spec_l6Matrix.bits8:waitsOk spec_l6Matrix.T8.2 spec_l6Matrix.B8=true:=by kernel_rfl
theorem spec_l6Matrix.calls (k:Nat) (a0:Int) (a1:Int) (r:List (List Int)) (w:World) (h:spec_l6Matrix.f k a0 a1=some r) :
  Calls Try.prog 88 #[.int .i64 a0, .int .i64 a1] w fun e w'=>∃ v0_:Value,e = .returned (.agg #[v0_])∧Kd.S (Kd.slice 5 (Kd.int .u8)) 57 w' w.heap.size (fun _=>True) v0_ r∧Below w.heap.size w w':=by
 have hu43:=Try.underlying43
 have HB:=am (Below.refl w.heap.size w)
 have H:=h
 unfold spec_l6Matrix.f at H
 clear h
 obtain ⟨t150,A3,H⟩:=yo H
 have H':=am H
 clear H
 go_enter Try.func88,Try.ntmps88
 go_wp2_with (first|(refine gD 4 ?_;refine gB (cs:=#[.slice none 0 0]) 43 ?_;intro gb149 hg w4 hbox hb;have BK149:=am (hbox);have GW149:=ye HB hg;replace HB:=yH HB hb;have GE149:=GW149;clear hb hbox hg)|(refine gC 172 ?_;refine gM (some 10) Try.func172 (args:=#[.int .i64 a1, .int .i64 a0]) (spec_l2Blank.calls k a1 a0 t150 _ A3.out) ?_;rintro e w5 ⟨v151,rfl,ho0,hb⟩;refine ⟨_,rfl,?_⟩;have HO152:=am (Kd.S_lower ho0 (pz (yW HB)));replace BK149:=yb BK149 hb;replace HB:=yH HB hb;clear hb ho0)|(refine gD 5 ?_;refine gB (cs:=#[.slice none 0 0]) 43 ?_;intro gb153 hg w6 hbox hb;replace HO152:=bS HO152 hb;have BK153:=am (hbox);have GW153:=ye HB hg;replace HB:=yH HB hb;have NB149_153:=yl BK149 hg;have NB153_149:=yg BK149 hg;replace BK149:=yb BK149 hb;have GE153:=GW153;clear hb hbox hg;obtain ⟨Ao7,co7,eo7⟩:=Kd.S_slice HO152.out;subst eo7;have hnb8:=NB153_149.out;have hnc8:=NB149_153.out;obtain ⟨hcz9_0,hfz9_0⟩:=yk1 BK153))
 go_loopg [14] k (fun kq v14 w'=>∃ (x14_1:Int) (x154000_1:List (List Int)) (u154000:Value),v14 = .int .i64 x14_1∧Aside0 (spec_l6Matrix.l0 kq (t150.length:Int) x14_1 x154000_1=some r)∧Aside0 (kq≤k)∧Aside0 (Kd.S (Kd.slice 5 (Kd.int .u8)) 57 w' w.heap.size (fun _=>True) u154000 x154000_1)∧Aside0 (w'.heap[gb149]? = some (.cells #[(.slice none 0 0)] 43 (0,0)))∧Aside0 (w'.heap[gb153]? = some (.cells #[u154000] 43 (0,0)))∧Aside0 (Below w.heap.size w w'))
 case atStart=>exact ⟨(0),(t150),(.slice Ao7 t150.length co7),D1,H',⟨Nat.le_refl _⟩,⟨by refine sS ?_;exact Kd.S_mono (Kd.S_far (p:=⟨gb153,0,none⟩) (Kd.S_types HO152.out BK153.out D6) (fun _ hk=>hk.2) (.slice Ao7 t150.length co7)) (fun _ hk=>trivial)⟩,⟨yF BK149⟩,⟨by refine sB ?_;refine blk_put (cs:=#[.slice none 0 0]) ?_ 0 _ rfl;exact yB BK153⟩,⟨yW HB⟩⟩
 case round =>
  clear H'
  try clear c1
  try clear p2
  try clear c8
  try clear hcz9_0
  try clear hfz9_0
  obtain ⟨x14_1,x154000_1,u154000,rfl,HA,HK1,HO_154000,BK149,BK153,HB⟩:=hrel
  cases gk with
  | zero=>exact absurd HA.out (by simp [spec_l6Matrix.l0])
  | succ k1 =>
   have H:=HA.out
   clear HA
   simp only [spec_l6Matrix.l0] at H
   by_cases c10:x14_1 < (t150.length:Int)
   ·rw [if_pos c10] at H
    have c10b0:=decide_eq_true c10
    clear c10
    obtain ⟨c11,H⟩:=yi H
    have c11b0:=decide_eq_true c11
    clear c11
    obtain ⟨c12,H⟩:=yi H
    have c12b0:=decide_eq_true c12
    clear c12
    have H':=am H
    clear H
    have hnb13:=NB153_149.out
    have hnc13:=NB149_153.out
    obtain ⟨hcz14_0,hfz14_0⟩:=yk1 BK153
    obtain ⟨Ao15,co15,eo15⟩:=Kd.S_slice HO_154000.out
    subst eo15
    have p154:0≤(x14_1:Int):=od D0
    have q154:x14_1 < (x154000_1.length:Int):=od D0
    obtain ⟨ad154,A154_0,c154_0,e154,hx154_0,hl154_0,hi154_0⟩:=at_L3 (Kd.S_reads' HO_154000.out).2.2 x14_1 p154 q154
    cases e154
    obtain ⟨ce154,hce154,hMe154,hcc154⟩:=Kd.S_get HO_154000.out [] x14_1 p154 (by first|exact q154|exact od D0|(have e_:=(Kd.S_reads' HO_154000.out).1;omega))
    obtain ⟨ve154_0,rfl,ge154_0⟩:=hMe154
    have hv154_0:=hcc154 0 _ rfl
    rw [Nat.add_zero,show ((Kd.slice 5 (Kd.int .u8))).sz=1 from rfl,Nat.mul_one] at hv154_0
    replace hv154_0:=Option.some.inj (hv154_0.symm.trans hx154_0)
    rw [hv154_0] at ge154_0
    have HL154_0:=am (show Kd.R (Kd.int .u8) 5 _ _ _ _ (rd_L3 x154000_1 x14_1) from ge154_0)
    clear hv154_0 ge154_0
    have HX154_0:=am hx154_0
    clear hcc154 hce154
    have HR154_0:=am hi154_0
    have HC154_0:=am hl154_0
    clear hi154_0 hl154_0
    replace p154:=eq_true p154
    replace q154:=eq_true q154
    go_wp2
    go_loopg [23] k1 (fun kq v23 w'=>∃ (x23_2:Int) (x154000_2:List (List Int)) (u154000:Value),v23 = .int .i64 x23_2∧Aside0 (spec_l6Matrix.l1 kq x14_1 (t150.length:Int) x14_1 ((rd_L3 x154000_1 x14_1).length:Int) x23_2 x154000_2=some r)∧Aside0 (kq≤k1)∧Aside0 (Kd.S (Kd.slice 5 (Kd.int .u8)) 57 w' w.heap.size (fun _=>True) u154000 x154000_2)∧Aside0 (w'.heap[gb149]? = some (.cells #[(.slice none 0 0)] 43 (0,0)))∧Aside0 (w'.heap[gb153]? = some (.cells #[u154000] 43 (0,0)))∧Aside0 (Below w.heap.size w w'))
    case atStart=>exact ⟨(0),(x154000_1),(.slice (some ad154) x154000_1.length co15),D1,H',⟨Nat.le_refl _⟩,⟨yS HO_154000⟩,⟨yB BK149⟩,⟨yB BK153⟩,⟨yW HB⟩⟩
    case round =>
     clear H'
     try clear c1
     try clear p1
     try clear q1
     try clear hx1
     try clear p2
     try clear c8
     try clear c10
     try clear c10b0
     try clear c11
     try clear c11b0
     try clear c12
     try clear c12b0
     try clear c13
     try clear c15
     try clear p15
     try clear q15
     try clear hx15
     try clear hcz14_0
     try clear hcz9_0
     try clear hfz14_0
     try clear hfz9_0
     try clear hx154_0
     try clear p154
     try clear p2
     try clear q154
     obtain ⟨x23_2,x154000_2,u154000,rfl,HA,HK2,HO_154000,BK149,BK153,HB⟩:=hrel
     cases gk with
     | zero=>exact absurd HA.out (by simp [spec_l6Matrix.l1])
     | succ k2 =>
      have H:=HA.out
      clear HA
      simp only [spec_l6Matrix.l1] at H
      by_cases c16:x23_2 < ((rd_L3 x154000_1 x14_1).length:Int)
      ·rw [if_pos c16] at H
       have c16b0:=decide_eq_true c16
       clear c16
       obtain ⟨c17,H⟩:=yi H
       have c17b0:=decide_eq_true c17
       clear c17
       obtain ⟨c18,H⟩:=yi H
       have c18b0:=decide_eq_true c18
       clear c18
       obtain ⟨t156,A19,H⟩:=yo H
       obtain ⟨t157,A20,H⟩:=yo H
       obtain ⟨c21,H⟩:=yi H
       have c21b0:=decide_eq_true c21
       clear c21
       obtain ⟨c22,H⟩:=yi H
       have c22b0:=decide_eq_true c22
       clear c22
       generalize hy158:((rd_L3 x154000_2 x14_1).set (x23_2:Int).toNat t157:List Int)=y158 at H
       have Ny158:=am hy158.symm
       clear hy158
       generalize hy160:(x154000_2.set (x14_1:Int).toNat y158:List (List Int))=y160 at H
       have Ny160:=am hy160.symm
       clear hy160
       have H':=am H
       clear H
       try go_wp2
       replace HO_154000:=am (Kd.S_drew HO_154000.out)
       replace BK149:=am (qd BK149.out)
       replace BK153:=am (qd BK153.out)
       replace HB:=am (pd HB.out)
       obtain ⟨Ao25,co25,eo25⟩:=Kd.S_slice HO_154000.out
       (first|subst eo25|(injection eo25 with f1_ f2_ f3_;have f4_:=f1_.symm;have f5_:=f3_.symm;clear f1_ f2_ f3_;subst f4_;subst f5_))
       have p155:0≤(x14_1:Int):=od D0
       have q155:x14_1 < (x154000_2.length:Int):=od D0
       obtain ⟨ad155,A155_0,c155_0,e155,hx155_0,hl155_0,hi155_0⟩:=at_L3 (Kd.S_reads' HO_154000.out).2.2 x14_1 p155 q155
       cases e155
       obtain ⟨ce155,hce155,hMe155,hcc155⟩:=Kd.S_get HO_154000.out [] x14_1 p155 (by first|exact q155|exact od D0|(have e_:=(Kd.S_reads' HO_154000.out).1;omega))
       obtain ⟨ve155_0,rfl,ge155_0⟩:=hMe155
       have hv155_0:=hcc155 0 _ rfl
       rw [Nat.add_zero,show ((Kd.slice 5 (Kd.int .u8))).sz=1 from rfl,Nat.mul_one] at hv155_0
       replace hv155_0:=Option.some.inj (hv155_0.symm.trans hx155_0)
       rw [hv155_0] at ge155_0
       have HL155_0:=am (show Kd.R (Kd.int .u8) 5 _ _ _ _ (rd_L3 x154000_2 x14_1) from ge155_0)
       clear hv155_0 ge155_0
       have HX155_0:=am hx155_0
       clear hcc155 hce155
       have HR155_0:=am hi155_0
       have HC155_0:=am hl155_0
       clear hi155_0 hl155_0
       replace p155:=eq_true p155
       replace q155:=eq_true q155
       refine rS (n:=12) (S:=fun w'=>w'.cell? ⟨gb153,0,none⟩=some (.slice (some ad155) x154000_2.length co25)∧w'.cell? (ad155.add (x14_1).toNat)=some (.slice A155_0 (rd_L3 x154000_2 x14_1).length c155_0)) (ds:=[11]) [(0,26),(2,28),(5,31),(6,32),(8,34),(1,27),(3,29),(4,30),(7,0),(9,0),(10,36),(11,0)] D2 rfl spec_l6Matrix.tab8 spec_l6Matrix.bits8 ⟨(blk_cell BK153.out 0).trans rfl,hx155_0⟩ (fun hHeld HT_ HW_=>?_)
       generalize wr.drew=w24 at HO_154000 BK149 BK153 HB HL155_0 HR155_0 HX155_0 hx155_0 hHeld ⊢
       refine rR ?_
       refine rO (N:=some 33) HT_ rfl rfl D2 D6 (fun K hK=>?_)
       refine goes_ Try.func173 D2 rfl #[.int .u8 3, .int .i64 x14_1] D10 rfl rfl D4 ?_
       with_reducible refine (spec_l1Power.calls k2 3 x14_1 t156 _ A19.out).mono ?_
       rintro e w' ⟨rfl,⟨nd,rfl⟩⟩
       refine ⟨_,rfl,?_⟩
       refine hK.out _ _ ⟨(blk_cell BK153.out 0).trans rfl,hHeld.2⟩ (fun hHeld=>?_)
       clear hK K
       refine rN (a':=?_) ?_ ?_
       rotate_left
       ·show Act.put _ (some 33) _=_
        simp only [Act.put,q1,q2,q3,i64_w,i32_w]
        rfl
       refine rO (N:=some 35) HT_ rfl rfl D2 D6 (fun K hK=>?_)
       refine goes_ Try.func173 D2 rfl #[.int .u8 t156, .int .i64 x23_2] D10 rfl rfl D4 ?_
       with_reducible refine (spec_l1Power.calls k2 t156 x23_2 t157 _ A20.out).mono ?_
       rintro e w' ⟨rfl,⟨nd,rfl⟩⟩
       refine ⟨_,rfl,?_⟩
       have p23:0≤(x23_2:Int):=od D0
       have q23:(x23_2:Int) < (((rd_L3 x154000_2 x14_1).length:Int):Int):=od D0
       obtain ⟨go23,co23,eo23,gb23,gl23,cl23,HG23⟩:=Kd.R_form HL155_0.out D8
       (first|cases eo23|(injection eo23 with ea_ en_ ec_;(first|subst ea_|(injection ea_ with ea_;subst ea_));subst ec_;clear en_))
       have GB23:=am gb23
       have GG23:=am HG23
       clear gb23 gl23 HG23
       obtain ⟨hx23_0,hf23_0⟩:=Kd.R_celln 0 HL155_0.out (x23_2:Int) p23 q23
       replace p23:=eq_true p23
       replace q23:=eq_true q23
       have hq26:(x14_1:Int) < (x154000_2.length:Int):=(by have h_:(x14_1:Int) < ((x154000_2.length:Int):Int):=od D0;first|exact h_|(have e_:=(Kd.S_reads' HO_154000.out).1;omega)|simpa only [List.length_set,List.length_set] using h_)
       obtain ⟨oki26,ce26,hcl26,hM26,hcc26,hok26,hbk26⟩:=Kd.S_borrow HO_154000.out [] (x14_1:Int) (od D0) hq26
       obtain ⟨ve26_0,rfl,ge26_0⟩:=hM26
       have hv26:=hcc26 0 _ rfl
       rw [Nat.add_zero,show ((Kd.slice 5 (Kd.int .u8))).sz=1 from rfl,Nat.mul_one] at hv26
       replace hv26:=Option.some.inj (hv26.symm.trans HX155_0.out)
       subst hv26
       clear hcc26 hcl26
       replace ge26_0:=(show Kd.R (Kd.int .u8) 5 _ _ _ _ (rd_L3 x154000_2 x14_1) from ge26_0)
       have HP26:=Kd.R_putg ge26_0 (x23_2:Int) t157
       rw [← Ny158.out] at HP26
       have HS26:=hbk26 HP26.2 (fun k_ e_=>by injection e_ with e_;subst e_;exact ge26_0.1 _ rfl) (x':=y158) (Kd.M_row HP26.1)
       rw [← Ny160.out] at HS26
       have HQ26:=am HS26
       clear HP26 HS26 hbk26 hok26
       refine hK.out _ _ ⟨(blk_cell BK153.out 0).trans rfl,hHeld.2⟩ (fun hHeld=>?_)
       clear hK K
       refine rN (a':=?_) ?_ ?_
       rotate_left
       ·show Act.put _ (some 35) _=_
        simp only [Act.put,q1,q2,q3,i64_w,i32_w]
        rfl
       refine rR ?_
       refine rL (N:=none) HT_ rfl rfl D2 D6 (fun K hK=>?_)
       refine skip_ (w1:=?_) D10 rfl ?_ ?_
       rotate_left
       ·go_simp
        rfl
       refine hK.out _ _ ?_
       clear hK K
       refine rD HT_ D2 ?_
       try go_wp2
       go_roundg k2
       case measure=>have:=HK1.out;have:=HK2.out;omega
       case rel=>exact ⟨(wrap64 (x23_2+1)),(y160),(.slice (some ad155) x154000_2.length co25),D1,H',⟨D39⟩,⟨yS HQ26⟩,⟨by refine sB ?_;refine blk_far ?_ (by have h_:=Kd.R_ne HL155_0.out BK149.out D6;intro e_;exact h_ D45) _;exact yB BK149⟩,⟨by refine sB ?_;refine blk_far ?_ (by have h_:=Kd.R_ne HL155_0.out BK153.out D6;intro e_;exact h_ D45) _;exact yB BK153⟩,⟨by repeat (first|(with_reducible first|exact HB.out|apply pa|apply pb|apply pd|refine pt ?_ GB23.out|refine pt ?_ GE149.out|refine pt ?_ GE153.out)|exact HB.out)⟩⟩
      rw [if_neg c16] at H
      have c16b0:=decide_eq_false c16
      clear c16
      have H':=am H
      clear H
      go_wp2
      go_roundg k2
      case measure=>have:=HK1.out;have:=HK2.out;omega
      case rel=>exact ⟨(wrap64 (x14_1+1)),(x154000_2),(u154000),D1,H',⟨D39⟩,⟨yS HO_154000⟩,⟨yB BK149⟩,⟨yB BK153⟩,⟨yW HB⟩⟩
   rw [if_neg c10] at H
   have c10b0:=decide_eq_false c10
   clear c10
   obtain rfl:=Option.some.inj H
   have hnb28:=NB153_149.out
   have hnc28:=NB149_153.out
   obtain ⟨hcz29_0,hfz29_0⟩:=yk1 BK153
   obtain ⟨Ao30,co30,eo30⟩:=Kd.S_slice HO_154000.out
   subst eo30
   obtain ⟨hcz31_0,hfz31_0⟩:=yk1 BK149
   go_wp2
   refine bodyPost_ret (results_cell_row rfl _ _ gb149 43 #[.slice Ao30 x154000_1.length co30] (0,0) _ rfl (by refine sB ?_;refine blk_put (cs:=#[.slice none 0 0]) ?_ 0 _ rfl;exact yB BK149) Try.underlying43 rfl D2) rfl ?_
   exact ⟨_,D3,by refine sS ?_;exact Kd.S_mono (Kd.S_far (p:=⟨gb149,0,none⟩) (Kd.S_types HO_154000.out BK149.out D6) (fun _ hk=>hk.2) (.slice Ao30 x154000_1.length co30)) (fun _ hk=>trivial),yW HB⟩

end Go.Proofs.Ytajikfnpcobnpaa.PFnExactMendStripe
-- SHRUNK
-- HALVED
-- SQUEEZED
-- SQUEEZED2
-- SQUEEZED3
-- SQUEEZED4
-- SQUEEZED5
-- SQUEEZED6
