import Derived.Test.YteflgifmdojahaaVFnCauchyB
import Derived.Test.YteflgifmdojahaaPFnCauchyx0
namespace Go.Proofs.Yteflgifmdojahaa.PFnCauchy
open Go.RowKit Go.Proofs.YteflgifmdojahaaW.PrintWords Go.Proofs.YteflgifmdojahaaW.PrintLast Go.Proofs.YteflgifmdojahaaW.PrintMore Go.Proofs.Yteflgifmdojahaa.KitS
attribute [local go_sem] max2_int min2_int max_two min_two max_three min_three max_four min_four
set_option linter.unusedVariables false
set_option maxHeartbeats 8000000
set_option maxRecDepth 100000
set_option linter.unusedSimpArgs false
mutual
def spec_l2Vandermonde.l0:Nat→Int→Int→List (List Int)→Option ((List (List Int)))
 | 0,_,_,_=>none
 | k+1,x13,x14,x181000=>if x14 < x13 then (if 0≤x14 then (if x14 < (x181000.length:Int) then (spec_l2Vandermonde.l1 k x14 x13 x14 ((rd_L1 x181000 x14).length:Int) 0 x181000) else (none)) else (none)) else (some x181000)
def spec_l2Vandermonde.l1:Nat→Int→Int→Int→Int→Int→List (List Int)→Option ((List (List Int)))
 | 0,_,_,_,_,_,_=>none
 | k+1,x6,x13,x14,x22,x23,x181000=>if x23 < x22 then (if 0≤x6 then (if x6 < (x181000.length:Int) then ((spec_l1Power.f k ((x6) % 256) x23).bind fun t183=>(if 0≤x23 then (if x23 < ((rd_L1 x181000 x6).length:Int) then (spec_l2Vandermonde.l1 k x6 x13 x14 x22 (wrap64 (x23+1)) (x181000.set (x6:Int).toNat ((rd_L1 x181000 x6).set (x23:Int).toNat t183))) else (none)) else (none))) else (none)) else (none)) else (spec_l2Vandermonde.l0 k x13 (wrap64 (x14+1)) x181000)
end
def spec_l2Vandermonde.f (k:Nat) (a0:Int) (a1:Int):Option ((List (List Int))):=(spec_l2Blank.f k a0 a1).bind fun t177=>(spec_l2Vandermonde.l0 k (t177.length:Int) 0 t177)
theorem spec_l2Vandermonde.mono_l:∀ k,(∀ y0 y1 y2,LeO (spec_l2Vandermonde.l0 k y0 y1 y2) (spec_l2Vandermonde.l0 (k+1) y0 y1 y2))∧(∀ y0 y1 y2 y3 y4 y5,LeO (spec_l2Vandermonde.l1 k y0 y1 y2 y3 y4 y5) (spec_l2Vandermonde.l1 (k+1) y0 y1 y2 y3 y4 y5))
 | 0=>⟨fun _ _ _ r h=>by simp [spec_l2Vandermonde.l0] at h,fun _ _ _ _ _ _ r h=>by simp [spec_l2Vandermonde.l1] at h⟩
 | k+1=>by
  obtain ⟨ih0,ih1⟩:=spec_l2Vandermonde.mono_l k
  refine ⟨?_,?_⟩
  ·intro y0 y1 y2
   unfold spec_l2Vandermonde.l0
   exact mm
  intro y0 y1 y2 y3 y4 y5
  unfold spec_l2Vandermonde.l1
  exact mm
theorem spec_l2Vandermonde.mono:∀ a0 a1 k,LeO (spec_l2Vandermonde.f k a0 a1) (spec_l2Vandermonde.f (k+1) a0 a1):=by
 intro a0 a1 k
 obtain ⟨ih0,ih1⟩:=spec_l2Vandermonde.mono_l k
 unfold spec_l2Vandermonde.f
 exact mm
def spec_l2Vandermonde.T8:Bool × List (List Nat × List Nat):=(true,[([],[]),([0],[0]),([],[]),([1,2],[1,2]),([3],[3]),([],[]),([],[]),([6],[6]),([],[]),([7,8],[7,8]),([4,5,0,1,2,3,4,5,6,7,8,9],[4,5]),([10,9,9,0,1,2,3,4,5,6,7,8,9],[9,10])])
def spec_l2Vandermonde.B8:List Nat:=[0,1,0,7,15,0,0,64,0,448,1023,2047]
theorem spec_l2Vandermonde.tab8:rtab .any (opsOf Try.f89 8)=spec_l2Vandermonde.T8:=by kernel_rfl
theorem spec_l2Vandermonde.bits8:waitsOk spec_l2Vandermonde.T8.2 spec_l2Vandermonde.B8=true:=by kernel_rfl
theorem spec_l2Vandermonde.calls (k:Nat) (a0:Int) (a1:Int) (r:List (List Int)) (w:World) (h:spec_l2Vandermonde.f k a0 a1=some r) :
  Calls Try.prog 89 #[.int .i64 a0, .int .i64 a1] w fun e w'=>∃ v0_:Value,e = .returned (.agg #[v0_])∧Kd.S (Kd.slice 5 (Kd.int .u8)) 24 w' w.heap.size (fun _=>True) v0_ r∧Below w.heap.size w w':=by
 have hu27:=Try.underlying27
 have HB:=am (Below.refl w.heap.size w)
 have H:=h
 unfold spec_l2Vandermonde.f at H
 clear h
 obtain ⟨t177,A3,H⟩:=yo H
 have H':=am H
 clear H
 go_enter Try.func89,Try.ntmps89
 go_wp2_with (first|((with_reducible refine gD 4 ?_);refine gB (cs:=#[.slice none 0 0]) 27 ?_;intro gb176 hg w4 hbox hb;have BK176:=am (hbox);have GW176:=ye HB hg;replace HB:=yH HB hb;have GE176:=GW176;clear hb hbox hg)|((with_reducible refine gC 124 ?_);refine gM (some 10) Try.func124 (args:=#[.int .i64 a0, .int .i64 a1]) (spec_l2Blank.calls k a0 a1 t177 _ A3.out) ?_;rintro e w5 ⟨v178,rfl,ho0,hb⟩;refine ⟨_,rfl,?_⟩;have HO179:=am (Kd.S_lower ho0 (pz (yW HB)));replace BK176:=yb BK176 hb;replace HB:=yH HB hb;clear hb ho0)|((with_reducible refine gD 5 ?_);refine gB (cs:=#[.slice none 0 0]) 27 ?_;intro gb180 hg w6 hbox hb;replace HO179:=bS HO179 hb;have BK180:=am (hbox);have GW180:=ye HB hg;replace HB:=yH HB hb;have NB176_180:=yl BK176 hg;have NB180_176:=yg BK176 hg;replace BK176:=yb BK176 hb;have GE180:=GW180;clear hb hbox hg;obtain ⟨Ao7,co7,eo7⟩:=Kd.S_slice HO179.out;subst eo7;have hnb8:=NB180_176.out;have hnc8:=NB176_180.out;obtain ⟨hcz9_0,hfz9_0⟩:=yk1 BK180))
 go_loopg [14] k (fun kq v14 w'=>∃ (x14_1:Int) (x181000_1:List (List Int)) (u181000:Value),v14 = .int .i64 x14_1∧Aside0 (spec_l2Vandermonde.l0 kq (t177.length:Int) x14_1 x181000_1=some r)∧Aside0 (kq≤k)∧Aside0 (Kd.S (Kd.slice 5 (Kd.int .u8)) 24 w' w.heap.size (fun _=>True) u181000 x181000_1)∧Aside0 (w'.heap[gb176]? = some (.cells #[(.slice none 0 0)] 27 (0,0)))∧Aside0 (w'.heap[gb180]? = some (.cells #[u181000] 27 (0,0)))∧Aside0 (Below w.heap.size w w'))
 case atStart=>exact ⟨(0),(t177),(.slice Ao7 t177.length co7),d3,H',⟨Nat.le_refl _⟩,⟨by refine sS ?_;exact Kd.S_mono (Kd.S_far (p:=⟨gb180,0,none⟩) (Kd.S_types HO179.out BK180.out d9) (fun _ hk=>hk.2) (.slice Ao7 t177.length co7)) (fun _ hk=>trivial)⟩,⟨yF BK176⟩,⟨by refine sB ?_;refine blk_put (cs:=#[.slice none 0 0]) ?_ 0 _ rfl;exact yB BK180⟩,⟨yW HB⟩⟩
 case round =>
  clear H'
  try clear c1
  try clear p2
  try clear c8
  try clear hcz9_0
  try clear hfz9_0
  obtain ⟨x14_1,x181000_1,u181000,rfl,HA,HK1,HO_181000,BK176,BK180,HB⟩:=hrel
  cases gk with
  | zero=>exact absurd HA.out (by simp [spec_l2Vandermonde.l0])
  | succ k1 =>
   have H:=HA.out
   clear HA
   simp only [spec_l2Vandermonde.l0] at H
   by_cases c10:x14_1 < (t177.length:Int)
   ·rw [if_pos c10] at H
    have c10b0:=decide_eq_true c10
    clear c10
    obtain ⟨c11,H⟩:=yi H
    have c11b0:=decide_eq_true c11
    clear c11
    obtain ⟨c12,H⟩:=yi H
    have c12b0:=decide_eq_true c12
    clear c12
    have H':=am H
    clear H
    have hnb13:=NB180_176.out
    have hnc13:=NB176_180.out
    obtain ⟨hcz14_0,hfz14_0⟩:=yk1 BK180
    obtain ⟨Ao15,co15,eo15⟩:=Kd.S_slice HO_181000.out
    subst eo15
    have p181:0≤(x14_1:Int):=od d1
    have q181:x14_1 < (x181000_1.length:Int):=od d1
    obtain ⟨ad181,A181_0,c181_0,e181,hx181_0,hl181_0,hi181_0⟩:=at_L1 (Kd.S_reads' HO_181000.out).2.2 x14_1 p181 q181
    cases e181
    obtain ⟨ce181,hce181,hMe181,hcc181⟩:=Kd.S_get HO_181000.out [] x14_1 p181 (by first|exact q181|exact od d1|(have e_:=(Kd.S_reads' HO_181000.out).1;omega))
    obtain ⟨ve181_0,rfl,ge181_0⟩:=hMe181
    have hv181_0:=hcc181 0 _ rfl
    rw [Nat.add_zero,show ((Kd.slice 5 (Kd.int .u8))).sz=1 from rfl,Nat.mul_one] at hv181_0
    replace hv181_0:=Option.some.inj (hv181_0.symm.trans hx181_0)
    rw [hv181_0] at ge181_0
    have HL181_0:=am (show Kd.R (Kd.int .u8) 5 _ _ _ _ (rd_L1 x181000_1 x14_1) from ge181_0)
    clear hv181_0 ge181_0
    have HX181_0:=am hx181_0
    clear hcc181 hce181
    have HR181_0:=am hi181_0
    have HC181_0:=am hl181_0
    clear hi181_0 hl181_0
    replace p181:=eq_true p181
    replace q181:=eq_true q181
    go_wp2
    go_loopg [23] k1 (fun kq v23 w'=>∃ (x23_2:Int) (x181000_2:List (List Int)) (u181000:Value),v23 = .int .i64 x23_2∧Aside0 (spec_l2Vandermonde.l1 kq x14_1 (t177.length:Int) x14_1 ((rd_L1 x181000_1 x14_1).length:Int) x23_2 x181000_2=some r)∧Aside0 (kq≤k1)∧Aside0 (Kd.S (Kd.slice 5 (Kd.int .u8)) 24 w' w.heap.size (fun _=>True) u181000 x181000_2)∧Aside0 (w'.heap[gb176]? = some (.cells #[(.slice none 0 0)] 27 (0,0)))∧Aside0 (w'.heap[gb180]? = some (.cells #[u181000] 27 (0,0)))∧Aside0 (Below w.heap.size w w'))
    case atStart=>exact ⟨(0),(x181000_1),(.slice (some ad181) x181000_1.length co15),d3,H',⟨Nat.le_refl _⟩,⟨yS HO_181000⟩,⟨yB BK176⟩,⟨yB BK180⟩,⟨yW HB⟩⟩
    case round =>
     clear H'
     try clear c1
     try clear p1
     try clear q1
     try clear hx1
     try clear p2
     try clear c8
     try clear c10
     try clear c10b0
     try clear c11
     try clear c11b0
     try clear c12
     try clear c12b0
     try clear c13
     try clear hcz14_0
     try clear hcz9_0
     try clear hfz14_0
     try clear hfz9_0
     try clear hx181_0
     try clear p181
     try clear p2
     try clear q181
     obtain ⟨x23_2,x181000_2,u181000,rfl,HA,HK2,HO_181000,BK176,BK180,HB⟩:=hrel
     cases gk with
     | zero=>exact absurd HA.out (by simp [spec_l2Vandermonde.l1])
     | succ k2 =>
      have H:=HA.out
      clear HA
      simp only [spec_l2Vandermonde.l1] at H
      by_cases c16:x23_2 < ((rd_L1 x181000_1 x14_1).length:Int)
      ·rw [if_pos c16] at H
       have c16b0:=decide_eq_true c16
       clear c16
       obtain ⟨c17,H⟩:=yi H
       have c17b0:=decide_eq_true c17
       clear c17
       obtain ⟨c18,H⟩:=yi H
       have c18b0:=decide_eq_true c18
       clear c18
       obtain ⟨t183,A19,H⟩:=yo H
       obtain ⟨c20,H⟩:=yi H
       have c20b0:=decide_eq_true c20
       clear c20
       obtain ⟨c21,H⟩:=yi H
       have c21b0:=decide_eq_true c21
       clear c21
       generalize hy184:((rd_L1 x181000_2 x14_1).set (x23_2:Int).toNat t183:List Int)=y184 at H
       have Ny184:=am hy184.symm
       clear hy184
       generalize hy186:(x181000_2.set (x14_1:Int).toNat y184:List (List Int))=y186 at H
       have Ny186:=am hy186.symm
       clear hy186
       have H':=am H
       clear H
       try go_wp2
       replace HO_181000:=am (Kd.S_drew HO_181000.out)
       replace BK176:=am (qd BK176.out)
       replace BK180:=am (qd BK180.out)
       replace HB:=am (pd HB.out)
       obtain ⟨Ao24,co24,eo24⟩:=Kd.S_slice HO_181000.out
       (first|subst eo24|(injection eo24 with f1_ f2_ f3_;have f4_:=f1_.symm;have f5_:=f3_.symm;clear f1_ f2_ f3_;subst f4_;subst f5_))
       have p182:0≤(x14_1:Int):=od d1
       have q182:x14_1 < (x181000_2.length:Int):=od d1
       obtain ⟨ad182,A182_0,c182_0,e182,hx182_0,hl182_0,hi182_0⟩:=at_L1 (Kd.S_reads' HO_181000.out).2.2 x14_1 p182 q182
       cases e182
       obtain ⟨ce182,hce182,hMe182,hcc182⟩:=Kd.S_get HO_181000.out [] x14_1 p182 (by first|exact q182|exact od d1|(have e_:=(Kd.S_reads' HO_181000.out).1;omega))
       obtain ⟨ve182_0,rfl,ge182_0⟩:=hMe182
       have hv182_0:=hcc182 0 _ rfl
       rw [Nat.add_zero,show ((Kd.slice 5 (Kd.int .u8))).sz=1 from rfl,Nat.mul_one] at hv182_0
       replace hv182_0:=Option.some.inj (hv182_0.symm.trans hx182_0)
       rw [hv182_0] at ge182_0
       have HL182_0:=am (show Kd.R (Kd.int .u8) 5 _ _ _ _ (rd_L1 x181000_2 x14_1) from ge182_0)
       clear hv182_0 ge182_0
       have HX182_0:=am hx182_0
       clear hcc182 hce182
       have HR182_0:=am hi182_0
       have HC182_0:=am hl182_0
       clear hi182_0 hl182_0
       replace p182:=eq_true p182
       replace q182:=eq_true q182
       refine rS (n:=12) (S:=fun w'=>w'.cell? ⟨gb180,0,none⟩=some (.slice (some ad182) x181000_2.length co24)∧w'.cell? (ad182.add (x14_1).toNat)=some (.slice A182_0 (rd_L1 x181000_2 x14_1).length c182_0)) (ds:=[11]) [(0,26),(2,28),(5,31),(6,32),(7,33),(8,34),(1,27),(3,29),(4,30),(9,0),(10,36),(11,0)] d12 rfl spec_l2Vandermonde.tab8 spec_l2Vandermonde.bits8 ⟨yk BK180 0,hx182_0⟩ (fun hHeld HT_ HW_=>?_)
       generalize wr.drew=w23 at HO_181000 BK176 BK180 HB HL182_0 HR182_0 HX182_0 hx182_0 hHeld ⊢
       refine rR ?_
       refine rO (N:=some 35) HT_ rfl rfl d12 d9 (fun K hK=>?_)
       refine goes_ Try.func138 d12 rfl #[.int .u8 ((x14_1) % 256), .int .i64 x23_2] d20 rfl rfl d18 ?_
       with_reducible refine (spec_l1Power.calls k2 ((x14_1) % 256) x23_2 t183 _ A19.out).mono ?_
       rintro e w' ⟨rfl,⟨nd,rfl⟩⟩
       refine ⟨_,rfl,?_⟩
       have p22:0≤(x23_2:Int):=od d1
       have q22:(x23_2:Int) < (((rd_L1 x181000_2 x14_1).length:Int):Int):=od d1
       obtain ⟨go22,co22,eo22,gb22,gl22,cl22,HG22⟩:=Kd.R_form HL182_0.out d13
       (first|cases eo22|(injection eo22 with ea_ en_ ec_;(first|subst ea_|(injection ea_ with ea_;subst ea_));subst ec_;clear en_))
       have GB22:=am gb22
       have GG22:=am HG22
       clear gb22 gl22 HG22
       obtain ⟨hx22_0,hf22_0⟩:=Kd.R_celln 0 HL182_0.out (x23_2:Int) p22 q22
       replace p22:=eq_true p22
       replace q22:=eq_true q22
       have hq25:(x14_1:Int) < (x181000_2.length:Int):=(by have h_:(x14_1:Int) < ((x181000_2.length:Int):Int):=od d1;first|exact h_|(have e_:=(Kd.S_reads' HO_181000.out).1;omega)|simpa only [List.length_set,List.length_set] using h_)
       obtain ⟨oki25,ce25,hcl25,hM25,hcc25,hok25,hbk25⟩:=Kd.S_borrow HO_181000.out [] (x14_1:Int) (od d1) hq25
       obtain ⟨ve25_0,rfl,ge25_0⟩:=hM25
       have hv25:=hcc25 0 _ rfl
       rw [Nat.add_zero,show ((Kd.slice 5 (Kd.int .u8))).sz=1 from rfl,Nat.mul_one] at hv25
       replace hv25:=Option.some.inj (hv25.symm.trans HX182_0.out)
       subst hv25
       clear hcc25 hcl25
       replace ge25_0:=(show Kd.R (Kd.int .u8) 5 _ _ _ _ (rd_L1 x181000_2 x14_1) from ge25_0)
       have HP25:=Kd.R_putg ge25_0 (x23_2:Int) t183
       rw [← Ny184.out] at HP25
       have HS25:=hbk25 HP25.2 (fun k_ e_=>by injection e_ with e_;subst e_;exact ge25_0.1 _ rfl) (x':=y184) (Kd.M_row HP25.1)
       rw [← Ny186.out] at HS25
       have HQ25:=am HS25
       clear HP25 HS25 hbk25 hok25
       refine hK.out _ _ ⟨yk BK180 0,hHeld.2⟩ (fun hHeld=>?_)
       clear hK K
       refine rN (a':=?_) ?_ ?_
       rotate_left
       ·show Act.put _ (some 35) _=_
        simp only [Act.put,q1,q2,q3,i64_w,i32_w]
        rfl
       refine rR ?_
       refine rL (N:=none) HT_ rfl rfl d12 d9 (fun K hK=>?_)
       refine skip_ (w1:=?_) d20 rfl ?_ ?_
       rotate_left
       ·go_simp
        rfl
       refine hK.out _ _ ?_
       clear hK K
       refine rD HT_ d12 ?_
       try go_wp2
       go_roundg k2
       case measure=>have:=HK1.out;have:=HK2.out;omega
       case rel=>exact ⟨(wrap64 (x23_2+1)),(y186),(.slice (some ad182) x181000_2.length co24),d3,H',⟨d52⟩,⟨yS HQ25⟩,⟨by refine sB ?_;refine blk_far ?_ (by have h_:=Kd.R_ne HL182_0.out BK176.out d9;intro e_;exact h_ (by rw [e_];rfl)) _;exact yB BK176⟩,⟨by refine sB ?_;refine blk_far ?_ (by have h_:=Kd.R_ne HL182_0.out BK180.out d9;intro e_;exact h_ (by rw [e_];rfl)) _;exact yB BK180⟩,⟨by repeat (first|(with_reducible first|exact HB.out|apply pa|apply pb|apply pd|refine pt ?_ GB22.out|refine pt ?_ GE176.out|refine pt ?_ GE180.out)|exact HB.out)⟩⟩
      rw [if_neg c16] at H
      have c16b0:=decide_eq_false c16
      clear c16
      have H':=am H
      clear H
      go_wp2
      go_roundg k2
      case measure=>have:=HK1.out;have:=HK2.out;omega
      case rel=>exact ⟨(wrap64 (x14_1+1)),(x181000_2),(u181000),d3,H',⟨d52⟩,⟨yS HO_181000⟩,⟨yB BK176⟩,⟨yB BK180⟩,⟨yW HB⟩⟩
   rw [if_neg c10] at H
   have c10b0:=decide_eq_false c10
   clear c10
   obtain rfl:=Option.some.inj H
   have hnb27:=NB180_176.out
   have hnc27:=NB176_180.out
   obtain ⟨hcz28_0,hfz28_0⟩:=yk1 BK180
   obtain ⟨Ao29,co29,eo29⟩:=Kd.S_slice HO_181000.out
   subst eo29
   obtain ⟨hcz30_0,hfz30_0⟩:=yk1 BK176
   go_wp2
   refine bodyPost_ret (results_cell_row rfl _ _ gb176 27 #[.slice Ao29 x181000_1.length co29] (0,0) _ rfl (by refine sB ?_;refine blk_put (cs:=#[.slice none 0 0]) ?_ 0 _ rfl;exact yB BK176) Try.underlying27 rfl d12) rfl ?_
   exact ⟨_,d2,by refine sS ?_;exact Kd.S_mono (Kd.S_far (p:=⟨gb176,0,none⟩) (Kd.S_types HO_181000.out BK176.out d9) (fun _ hk=>hk.2) (.slice Ao29 x181000_1.length co29)) (fun _ hk=>trivial),yW HB⟩

def spec_Vandermonde.f (k:Nat) (a0:Int) (a1:Int):Option ((List (List Int)) × Bool):=(spec_l1In.f a0 1 16).bind fun t188=>(if t188=true then ((spec_l1In.f a1 1 16).bind fun t189=>(if t189=true then ((spec_l2Vandermonde.f k a0 a1).bind fun t190=>(some (t190,true))) else (some (([]:List (List Int)),false)))) else (some (([]:List (List Int)),false)))
theorem spec_Vandermonde.mono:∀ a0 a1 k,LeO (spec_Vandermonde.f k a0 a1) (spec_Vandermonde.f (k+1) a0 a1):=by
 intro a0 a1 k
 unfold spec_Vandermonde.f
 exact mm
theorem spec_Vandermonde.calls (k:Nat) (a0:Int) (a1:Int) (r1:List (List Int)) (r2:Bool) (w:World) (h:spec_Vandermonde.f k a0 a1=some (r1,r2)) :
  Calls Try.prog 34 #[.int .i64 a0, .int .i64 a1] w fun e w'=>∃ v0_:Value,e = .returned (.tuple #[.agg #[v0_], .bool r2])∧Kd.S (Kd.slice 5 (Kd.int .u8)) 24 w' w.heap.size (fun _=>True) v0_ r1∧Below w.heap.size w w':=by
 have hu27:=Try.underlying27
 have HB:=am (Below.refl w.heap.size w)
 have H:=h
 unfold spec_Vandermonde.f at H
 clear h
 obtain ⟨t188,A3,H⟩:=yo H
 by_cases c4:t188=true
 ·subst c4
  replace H:=yt H
  obtain ⟨t189,A5,H⟩:=yo H
  by_cases c6:t189=true
  ·subst c6
   replace H:=yt H
   obtain ⟨t190,A7,H⟩:=yo H
   simp only [Option.some.injEq,Prod.mk.injEq] at H
   obtain ⟨rfl,rfl⟩:=H
   go_enter Try.func34,Try.ntmps34
   go_wp2_with (first|((with_reducible refine gD 4 ?_);refine gB (cs:=#[.slice none 0 0]) 27 ?_;intro gb187 hg w8 hbox hb;have BK187:=am (hbox);have GW187:=ye HB hg;replace HB:=yH HB hb;have GE187:=GW187;clear hb hbox hg)|((with_reducible refine gC 84 ?_);refine gM (some 7) Try.func84 (args:=#[.int .i64 a0, .int .i64 1, .int .i64 16]) (spec_l1In.calls a0 1 16 true _ A3.out) ?_;rintro e w' ⟨rfl,⟨nd,rfl⟩⟩;refine ⟨_,rfl,?_⟩;(try (rw [drewN_self w8];generalize hq_:World.drewN w8 _=w8;have n0_:Aside0 (w8.heap[gb187]? = some (.cells #[.slice none 0 0] 27 (0,0))):=⟨d105⟩;have n1_:Aside0 (Below w.heap.size w w8):=⟨d19⟩;clear BK187 HB hq_;have BK187:=n0_;have HB:=n1_;clear n0_ n1_)))|(go_at_call 84;(with_reducible refine (spec_l1In.calls a1 1 16 true _ A5.out).mono ?_);rintro e w' ⟨rfl,⟨nd,rfl⟩⟩;(try (rw [drewN_self w8];generalize hq_:World.drewN w8 _=w8;have n0_:Aside0 (w8.heap[gb187]? = some (.cells #[.slice none 0 0] 27 (0,0))):=⟨d105⟩;have n1_:Aside0 (Below w.heap.size w w8):=⟨d19⟩;clear BK187 HB hq_;have BK187:=n0_;have HB:=n1_;clear n0_ n1_)))|((with_reducible refine gC 89 ?_);refine gM (some 17) Try.func89 (args:=#[.int .i64 a0, .int .i64 a1]) (spec_l2Vandermonde.calls k a0 a1 t190 _ A7.out) ?_;rintro e w9 ⟨v191,rfl,ho0,hb⟩;refine ⟨_,rfl,?_⟩;have HO192:=am (Kd.S_lower ho0 (pz (yW HB)));replace BK187:=yb BK187 hb;replace HB:=yH HB hb;clear hb ho0;obtain ⟨Ao10,co10,eo10⟩:=Kd.S_slice HO192.out;subst eo10;obtain ⟨hcz11_0,hfz11_0⟩:=yk1 BK187))
   refine bodyPost_ret (results_ct rfl _ _ gb187 27 #[.slice Ao10 t190.length co10] (0,0) _ rfl d99 Try.underlying27 rfl d12) rfl ?_
   exact ⟨_,d2,by refine sS ?_;exact Kd.S_mono (Kd.S_far (p:=⟨gb187,0,none⟩) (Kd.S_types HO192.out BK187.out d9) (fun _ hk=>hk.2) (.slice Ao10 t190.length co10)) (fun _ hk=>trivial),yW HB⟩
  replace c6:=Bool.eq_false_iff.mpr c6
  subst c6
  replace H:=yn H
  simp only [Option.some.injEq,Prod.mk.injEq] at H
  obtain ⟨rfl,rfl⟩:=H
  go_enter Try.func34,Try.ntmps34
  go_wp2_with (first|((with_reducible refine gD 4 ?_);refine gB (cs:=#[.slice none 0 0]) 27 ?_;intro gb187 hg w12 hbox hb;have BK187:=am (hbox);have GW187:=ye HB hg;replace HB:=yH HB hb;have GE187:=GW187;clear hb hbox hg)|((with_reducible refine gC 84 ?_);refine gM (some 7) Try.func84 (args:=#[.int .i64 a0, .int .i64 1, .int .i64 16]) (spec_l1In.calls a0 1 16 true _ A3.out) ?_;rintro e w' ⟨rfl,⟨nd,rfl⟩⟩;refine ⟨_,rfl,?_⟩;(try (rw [drewN_self w12];generalize hq_:World.drewN w12 _=w12;have n0_:Aside0 (w12.heap[gb187]? = some (.cells #[.slice none 0 0] 27 (0,0))):=⟨d105⟩;have n1_:Aside0 (Below w.heap.size w w12):=⟨d19⟩;clear BK187 HB hq_;have BK187:=n0_;have HB:=n1_;clear n0_ n1_)))|(go_at_call 84;(with_reducible refine (spec_l1In.calls a1 1 16 false _ A5.out).mono ?_);rintro e w' ⟨rfl,⟨nd,rfl⟩⟩;(try (rw [drewN_self w12];generalize hq_:World.drewN w12 _=w12;have n0_:Aside0 (w12.heap[gb187]? = some (.cells #[.slice none 0 0] 27 (0,0))):=⟨d105⟩;have n1_:Aside0 (Below w.heap.size w w12):=⟨d19⟩;clear BK187 HB hq_;have BK187:=n0_;have HB:=n1_;clear n0_ n1_));obtain ⟨hcz13_0,hfz13_0⟩:=yk1 BK187))
  refine bodyPost_ret (results_ct rfl _ _ gb187 27 #[.slice none 0 0] (0,0) _ rfl d99 Try.underlying27 rfl d12) rfl ?_
  exact ⟨_,d2,d11,yW HB⟩
 replace c4:=Bool.eq_false_iff.mpr c4
 subst c4
 replace H:=yn H
 simp only [Option.some.injEq,Prod.mk.injEq] at H
 obtain ⟨rfl,rfl⟩:=H
 go_enter Try.func34,Try.ntmps34
 go_wp2_with (first|((with_reducible refine gD 4 ?_);refine gB (cs:=#[.slice none 0 0]) 27 ?_;intro gb187 hg w14 hbox hb;have BK187:=am (hbox);have GW187:=ye HB hg;replace HB:=yH HB hb;have GE187:=GW187;clear hb hbox hg)|((with_reducible refine gC 84 ?_);refine gM (some 7) Try.func84 (args:=#[.int .i64 a0, .int .i64 1, .int .i64 16]) (spec_l1In.calls a0 1 16 false _ A3.out) ?_;rintro e w' ⟨rfl,⟨nd,rfl⟩⟩;refine ⟨_,rfl,?_⟩;(try (rw [drewN_self w14];generalize hq_:World.drewN w14 _=w14;have n0_:Aside0 (w14.heap[gb187]? = some (.cells #[.slice none 0 0] 27 (0,0))):=⟨d105⟩;have n1_:Aside0 (Below w.heap.size w w14):=⟨d19⟩;clear BK187 HB hq_;have BK187:=n0_;have HB:=n1_;clear n0_ n1_));obtain ⟨hcz15_0,hfz15_0⟩:=yk1 BK187))
 refine bodyPost_ret (results_ct rfl _ _ gb187 27 #[.slice none 0 0] (0,0) _ rfl d99 Try.underlying27 rfl d12) rfl ?_
 exact ⟨_,d2,d11,yW HB⟩

def laws_sameBytes.f (l0:List Int) (l1:List Int):Option (Bool):=some ((strOfNums l0).toList == (strOfNums l1).toList)
theorem laws_sameBytes.calls (A0:Option Addr) (c0:Nat) (l0:List Int) (A1:Option Addr) (c1:Nat) (l1:List Int) (r:Bool) (w:World) (hr0:Kd.C (Kd.int .u8) w A0 l0.length l0) (hc0:l0.length≤c0) (hr1:Kd.C (Kd.int .u8) w A1 l1.length l1) (hc1:l1.length≤c1) (h:laws_sameBytes.f l0 l1=some r) :
  Calls Try.prog 49 #[.slice A0 l0.length c0, .slice A1 l1.length c1] w fun e w'=>e = .returned (.bool r)∧Drawn0 w w':=by
 have HR0:=am hr0
 have HC0:=am hc0
 clear hr0 hc0
 have HR1:=am hr1
 have HC1:=am hc1
 clear hr1 hc1
 have H:=h
 unfold laws_sameBytes.f at H
 clear h
 obtain rfl:=Option.some.inj H
 have hcv3:=Kd.C_string (P:=Try.prog) (A:=A0) (c:=c0) Try.underlying24 Try.underlying5 Try.underlying9 HR0.out
 have hcv4:=Kd.C_string (P:=Try.prog) (A:=A1) (c:=c1) Try.underlying24 Try.underlying5 Try.underlying9 HR1.out
 go_enter Try.func49,Try.ntmps49
 go_wp2
 go_ret
 exact ⟨d3,d10⟩

def laws_sameMatrices.l0:Nat→Int→Int→List (List Int)→List (List Int)→Option (Bool)
 | 0,_,_,_,_=>none
 | k+1,x15,x16,x194000,x195000=>if x16 < x15 then (if 0≤x16 then (if x16 < (x194000.length:Int) then (if x16 < (x195000.length:Int) then ((laws_sameBytes.f (rd_L1 x194000 x16) (rd_L1 x195000 x16)).bind fun t197=>(if t197=true then (laws_sameMatrices.l0 k x15 (wrap64 (x16+1)) x194000 x195000) else (some false))) else (none)) else (none)) else (none)) else (some true)
def laws_sameMatrices.f (k:Nat) (l0_0:List (List Int)) (l1_0:List (List Int)):Option (Bool):=if (l0_0.length:Int)=(l1_0.length:Int) then (laws_sameMatrices.l0 k (l0_0.length:Int) 0 l0_0 l1_0) else (some false)
theorem laws_sameMatrices.mono_l:∀ k,(∀ y0 y1 y2 y3,LeO (laws_sameMatrices.l0 k y0 y1 y2 y3) (laws_sameMatrices.l0 (k+1) y0 y1 y2 y3))
 | 0=>fun _ _ _ _ r h=>by simp [laws_sameMatrices.l0] at h
 | k+1=>by
  have ih0:=laws_sameMatrices.mono_l k
  intro y0 y1 y2 y3
  unfold laws_sameMatrices.l0
  exact mm
theorem laws_sameMatrices.mono:∀ a0 a1 k,LeO (laws_sameMatrices.f k a0 a1) (laws_sameMatrices.f (k+1) a0 a1):=by
 intro a0 a1 k
 have ih0:=laws_sameMatrices.mono_l k
 unfold laws_sameMatrices.f
 exact mm
theorem laws_sameMatrices.calls (k:Nat) (A0_0:Option Addr) (c0_0:Nat) (l0_0:List (List Int)) (A1_0:Option Addr) (c1_0:Nat) (l1_0:List (List Int)) (r:Bool) (w:World) (hr0_0:Kd.C (Kd.slice 5 (Kd.int .u8)) w A0_0 l0_0.length l0_0) (hc0_0:l0_0.length≤c0_0) (hr1_0:Kd.C (Kd.slice 5 (Kd.int .u8)) w A1_0 l1_0.length l1_0) (hc1_0:l1_0.length≤c1_0) (h:laws_sameMatrices.f k l0_0 l1_0=some r) :
  Calls Try.prog 35 #[.agg #[.slice A0_0 l0_0.length c0_0], .agg #[.slice A1_0 l1_0.length c1_0]] w fun e w'=>e = .returned (.bool r)∧Below w.heap.size w w':=by
 have hu27:=Try.underlying27
 have HR0_0:=am hr0_0
 have HC0_0:=am hc0_0
 clear hr0_0 hc0_0
 have HR1_0:=am hr1_0
 have HC1_0:=am hc1_0
 clear hr1_0 hc1_0
 have HB:=am (Below.refl w.heap.size w)
 have H:=h
 unfold laws_sameMatrices.f at H
 clear h
 by_cases c3:(l0_0.length:Int)=(l1_0.length:Int)
 ·rw [if_pos c3] at H
  have c3b0:((l0_0.length:Int) == (l1_0.length:Int))=true:=beq_iff_eq.mpr c3
  have c3b1:((l0_0.length:Int) != (l1_0.length:Int))=false:=bne_eq_false_iff_eq.mpr c3
  have c3b2:(l0_0.length == l1_0.length)=true:=by first|simpa using c3|(simp at c3 ⊢;omega)
  clear c3
  have H':=am H
  clear H
  go_enter Try.func35,Try.ntmps35
  go_wp2_with (first|((with_reducible refine gD 2 ?_);refine gB (cs:=#[.slice A0_0 l0_0.length c0_0]) 27 ?_;intro gb193 hg w4 hbox hb;have BK193:=am (hbox);have GW193:=ye HB hg;replace HB:=yH HB hb;have GE193:=GW193;clear hb hbox hg)|((with_reducible refine gD 3 ?_);refine gB (cs:=#[.slice A1_0 l1_0.length c1_0]) 27 ?_;intro gb194 hg w5 hbox hb;have BK194:=am (hbox);have GW194:=ye HB hg;replace HB:=yH HB hb;have NB193_194:=yl BK193 hg;have NB194_193:=yg BK193 hg;replace BK193:=yb BK193 hb;have GE194:=GW194;clear hb hbox hg;have hnb6:=NB193_194.out;have hnc6:=NB194_193.out;obtain ⟨hcz7_0,hfz7_0⟩:=yk1 BK193;obtain ⟨hcz8_0,hfz8_0⟩:=yk1 BK194))
  repeat (go_quiet (first|((with_reducible refine gate_dst (N:=2) rfl ?_);refine box_event ?hg (N:=2) ?hd (cs:=#[.slice A0_0 l0_0.length c0_0]) (t:=27) ?hr ?_;(case hd=>rfl);(case hg=>rfl);(case hr=>first|(go_simp;done)|(go_simp;rfl));intro gb193 hg w4 hbox hb;have n0_:=yH HB hb;have n1_:=am (hbox);have n2_:=ye HB hg;have n3_:=ye HB hg;clear HB;have HB:=n0_;have BK193:=n1_;have GW193:=n2_;have GE193:=n3_;clear n0_ n1_ n2_ n3_;clear hb hbox hg)|((with_reducible refine gate_dst (N:=3) rfl ?_);refine box_event ?hg (N:=3) ?hd (cs:=#[.slice A1_0 l1_0.length c1_0]) (t:=27) ?hr ?_;(case hd=>rfl);(case hg=>rfl);(case hr=>first|(go_simp;done)|(go_simp;rfl));intro gb194 hg w5 hbox hb;have n0_:=yb BK193 hb;have n1_:=yH HB hb;have n2_:=am (hbox);have n3_:=ye HB hg;have n4_:=ye HB hg;have n5_:=yl BK193 hg;have n6_:=yg BK193 hg;clear BK193;clear HB;have BK193:=n0_;have HB:=n1_;have BK194:=n2_;have GW194:=n3_;have GE194:=n4_;have NB193_194:=n5_;have NB194_193:=n6_;clear n0_ n1_ n2_ n3_ n4_ n5_ n6_;clear hb hbox hg;have hnb6:=NB193_194.out;have hnc6:=NB194_193.out;have hcz7_0:=yk BK193 0;have hfz7_0:=blk_frozen BK193.out 0;have hcz8_0:=yk BK194 0;have hfz8_0:=blk_frozen BK194.out 0));try go_wp2_with (first|((with_reducible refine gate_dst (N:=2) rfl ?_);refine box_event ?hg (N:=2) ?hd (cs:=#[.slice A0_0 l0_0.length c0_0]) (t:=27) ?hr ?_;(case hd=>rfl);(case hg=>rfl);(case hr=>first|(go_simp;done)|(go_simp;rfl));intro gb193 hg w4 hbox hb;have n0_:=yH HB hb;have n1_:=am (hbox);have n2_:=ye HB hg;have n3_:=ye HB hg;clear HB;have HB:=n0_;have BK193:=n1_;have GW193:=n2_;have GE193:=n3_;clear n0_ n1_ n2_ n3_;clear hb hbox hg)|((with_reducible refine gate_dst (N:=3) rfl ?_);refine box_event ?hg (N:=3) ?hd (cs:=#[.slice A1_0 l1_0.length c1_0]) (t:=27) ?hr ?_;(case hd=>rfl);(case hg=>rfl);(case hr=>first|(go_simp;done)|(go_simp;rfl));intro gb194 hg w5 hbox hb;have n0_:=yb BK193 hb;have n1_:=yH HB hb;have n2_:=am (hbox);have n3_:=ye HB hg;have n4_:=ye HB hg;have n5_:=yl BK193 hg;have n6_:=yg BK193 hg;clear BK193;clear HB;have BK193:=n0_;have HB:=n1_;have BK194:=n2_;have GW194:=n3_;have GE194:=n4_;have NB193_194:=n5_;have NB194_193:=n6_;clear n0_ n1_ n2_ n3_ n4_ n5_ n6_;clear hb hbox hg;have hnb6:=NB193_194.out;have hnc6:=NB194_193.out;have hcz7_0:=yk BK193 0;have hfz7_0:=blk_frozen BK193.out 0;have hcz8_0:=yk BK194 0;have hfz8_0:=blk_frozen BK194.out 0)))
  go_loopg [16] k (fun kq v16 w'=>∃ (x16_1:Int),v16 = .int .i64 x16_1∧Aside0 (laws_sameMatrices.l0 kq (l0_0.length:Int) x16_1 l0_0 l1_0=some r)∧Aside0 (kq≤k)∧Aside0 (w'.heap[gb193]? = some (.cells #[(.slice A0_0 l0_0.length c0_0)] 27 (0,0)))∧Aside0 (w'.heap[gb194]? = some (.cells #[(.slice A1_0 l1_0.length c1_0)] 27 (0,0)))∧Aside0 (Below w.heap.size w w'))
  case atStart=>exact ⟨(0),d3,H',⟨Nat.le_refl _⟩,⟨yB BK193⟩,⟨yB BK194⟩,⟨yW HB⟩⟩
  case round =>
   clear H'
   try clear c1
   try clear p2
   try clear c3
   try clear c3b0
   try clear c3b1
   try clear c3b2
   try clear c6
   try clear hcz7_0
   try clear hcz8_0
   try clear hfz7_0
   try clear hfz8_0
   obtain ⟨x16_1,rfl,HA,HK1,BK193,BK194,HB⟩:=hrel
   cases gk with
   | zero=>exact absurd HA.out (by simp [laws_sameMatrices.l0])
   | succ k1 =>
    have H:=HA.out
    clear HA
    simp only [laws_sameMatrices.l0] at H
    by_cases c9:x16_1 < (l0_0.length:Int)
    ·rw [if_pos c9] at H
     have c9b0:=decide_eq_true c9
     clear c9
     obtain ⟨c10,H⟩:=yi H
     have c10b0:=decide_eq_true c10
     clear c10
     obtain ⟨c11,H⟩:=yi H
     have c11b0:=decide_eq_true c11
     clear c11
     obtain ⟨c12,H⟩:=yi H
     have c12b0:=decide_eq_true c12
     clear c12
     obtain ⟨t197,A13,H⟩:=yo H
     by_cases c14:t197=true
     ·subst c14
      replace H:=yt H
      have H':=am H
      clear H
      have hnb15:=NB193_194.out
      have hnc15:=NB194_193.out
      obtain ⟨hcz16_0,hfz16_0⟩:=yk1 BK193
      have p195:0≤(x16_1:Int):=od d1
      have q195:x16_1 < (l0_0.length:Int):=od d1
      obtain ⟨ad195,A195_0,c195_0,e195,hx195_0,hl195_0,hi195_0⟩:=at_L1 HR0_0.out x16_1 p195 q195
      cases e195
      replace hx195_0:=(HB.out.cell (World.block_lt_of_cell? w _ hx195_0)).trans hx195_0
      have HR195_0:=am hi195_0
      have HC195_0:=am hl195_0
      clear hi195_0 hl195_0
      replace p195:=eq_true p195
      replace q195:=eq_true q195
      obtain ⟨hcz17_0,hfz17_0⟩:=yk1 BK194
      have p196:0≤(x16_1:Int):=od d1
      have q196:x16_1 < (l1_0.length:Int):=od d1
      obtain ⟨ad196,A196_0,c196_0,e196,hx196_0,hl196_0,hi196_0⟩:=at_L1 HR1_0.out x16_1 p196 q196
      cases e196
      replace hx196_0:=(HB.out.cell (World.block_lt_of_cell? w _ hx196_0)).trans hx196_0
      have HR196_0:=am hi196_0
      have HC196_0:=am hl196_0
      clear hi196_0 hl196_0
      replace p196:=eq_true p196
      replace q196:=eq_true q196
      go_wp2_with (first|(go_at_call 49;(with_reducible refine (laws_sameBytes.calls _ _ (rd_L1 l0_0 x16_1) _ _ (rd_L1 l1_0 x16_1) true _ (yc (Kd.C_below HR195_0.out HB.out)) HC195_0.out (yc (Kd.C_below HR196_0.out HB.out)) HC196_0.out A13.out).mono ?_);rintro e w' ⟨rfl,⟨nd,rfl⟩⟩;(try first|exact ⟨rfl,_,World.drewN_drewN _ _ _⟩|exact ⟨rfl,_,Eq.trans (World.drewN_drewN _ _ _) (congrArg (World.drewN _) (Nat.add_assoc _ _ _))⟩)))
      repeat (go_quiet (first|(go_at_call 49;(with_reducible refine (laws_sameBytes.calls _ _ (rd_L1 l0_0 x16_1) _ _ (rd_L1 l1_0 x16_1) true _ (yc (Kd.C_below HR195_0.out HB.out)) HC195_0.out (yc (Kd.C_below HR196_0.out HB.out)) HC196_0.out A13.out).mono ?_);rintro e w' ⟨rfl,⟨nd,rfl⟩⟩;(try first|exact ⟨rfl,_,World.drewN_drewN _ _ _⟩|exact ⟨rfl,_,Eq.trans (World.drewN_drewN _ _ _) (congrArg (World.drewN _) (Nat.add_assoc _ _ _))⟩)));try go_wp2_with (first|(go_at_call 49;(with_reducible refine (laws_sameBytes.calls _ _ (rd_L1 l0_0 x16_1) _ _ (rd_L1 l1_0 x16_1) true _ (yc (Kd.C_below HR195_0.out HB.out)) HC195_0.out (yc (Kd.C_below HR196_0.out HB.out)) HC196_0.out A13.out).mono ?_);rintro e w' ⟨rfl,⟨nd,rfl⟩⟩;(try first|exact ⟨rfl,_,World.drewN_drewN _ _ _⟩|exact ⟨rfl,_,Eq.trans (World.drewN_drewN _ _ _) (congrArg (World.drewN _) (Nat.add_assoc _ _ _))⟩))))
      go_roundg k1
      case measure=>have:=HK1.out;omega
      case rel=>exact ⟨(wrap64 (x16_1+1)),d3,H',⟨d22⟩,⟨yB BK193⟩,⟨yB BK194⟩,⟨yW HB⟩⟩
     replace c14:=Bool.eq_false_iff.mpr c14
     subst c14
     replace H:=yn H
     obtain rfl:=Option.some.inj H
     have hnb18:=NB193_194.out
     have hnc18:=NB194_193.out
     obtain ⟨hcz19_0,hfz19_0⟩:=yk1 BK193
     have p195:0≤(x16_1:Int):=od d1
     have q195:x16_1 < (l0_0.length:Int):=od d1
     obtain ⟨ad195,A195_0,c195_0,e195,hx195_0,hl195_0,hi195_0⟩:=at_L1 HR0_0.out x16_1 p195 q195
     cases e195
     replace hx195_0:=(HB.out.cell (World.block_lt_of_cell? w _ hx195_0)).trans hx195_0
     have HR195_0:=am hi195_0
     have HC195_0:=am hl195_0
     clear hi195_0 hl195_0
     replace p195:=eq_true p195
     replace q195:=eq_true q195
     obtain ⟨hcz20_0,hfz20_0⟩:=yk1 BK194
     have p196:0≤(x16_1:Int):=od d1
     have q196:x16_1 < (l1_0.length:Int):=od d1
     obtain ⟨ad196,A196_0,c196_0,e196,hx196_0,hl196_0,hi196_0⟩:=at_L1 HR1_0.out x16_1 p196 q196
     cases e196
     replace hx196_0:=(HB.out.cell (World.block_lt_of_cell? w _ hx196_0)).trans hx196_0
     have HR196_0:=am hi196_0
     have HC196_0:=am hl196_0
     clear hi196_0 hl196_0
     replace p196:=eq_true p196
     replace q196:=eq_true q196
     go_wp2_with (first|(go_at_call 49;(with_reducible refine (laws_sameBytes.calls _ _ (rd_L1 l0_0 x16_1) _ _ (rd_L1 l1_0 x16_1) false _ (yc (Kd.C_below HR195_0.out HB.out)) HC195_0.out (yc (Kd.C_below HR196_0.out HB.out)) HC196_0.out A13.out).mono ?_);rintro e w' ⟨rfl,⟨nd,rfl⟩⟩;(try first|exact ⟨rfl,_,World.drewN_drewN _ _ _⟩|exact ⟨rfl,_,Eq.trans (World.drewN_drewN _ _ _) (congrArg (World.drewN _) (Nat.add_assoc _ _ _))⟩)))
     repeat (go_quiet (first|(go_at_call 49;(with_reducible refine (laws_sameBytes.calls _ _ (rd_L1 l0_0 x16_1) _ _ (rd_L1 l1_0 x16_1) false _ (yc (Kd.C_below HR195_0.out HB.out)) HC195_0.out (yc (Kd.C_below HR196_0.out HB.out)) HC196_0.out A13.out).mono ?_);rintro e w' ⟨rfl,⟨nd,rfl⟩⟩;(try first|exact ⟨rfl,_,World.drewN_drewN _ _ _⟩|exact ⟨rfl,_,Eq.trans (World.drewN_drewN _ _ _) (congrArg (World.drewN _) (Nat.add_assoc _ _ _))⟩)));try go_wp2_with (first|(go_at_call 49;(with_reducible refine (laws_sameBytes.calls _ _ (rd_L1 l0_0 x16_1) _ _ (rd_L1 l1_0 x16_1) false _ (yc (Kd.C_below HR195_0.out HB.out)) HC195_0.out (yc (Kd.C_below HR196_0.out HB.out)) HC196_0.out A13.out).mono ?_);rintro e w' ⟨rfl,⟨nd,rfl⟩⟩;(try first|exact ⟨rfl,_,World.drewN_drewN _ _ _⟩|exact ⟨rfl,_,Eq.trans (World.drewN_drewN _ _ _) (congrArg (World.drewN _) (Nat.add_assoc _ _ _))⟩))))
     go_ret
     exact ⟨d2,yW HB⟩
    rw [if_neg c9] at H
    have c9b0:=decide_eq_false c9
    clear c9
    obtain rfl:=Option.some.inj H
    go_wp2
    repeat (go_quiet (fail);try go_wp2)
    go_ret
    exact ⟨d2,yW HB⟩
 rw [if_neg c3] at H
 have c3b0:((l0_0.length:Int) == (l1_0.length:Int))=false:=beq_eq_false_iff_ne.mpr c3
 have c3b1:((l0_0.length:Int) != (l1_0.length:Int))=true:=bne_iff_ne.mpr c3
 have c3b2:(l0_0.length == l1_0.length)=false:=by first|simpa using c3|(simp at c3 ⊢;omega)
 obtain rfl:=Option.some.inj H
 go_enter Try.func35,Try.ntmps35
 go_wp2_with (first|((with_reducible refine gD 2 ?_);refine gB (cs:=#[.slice A0_0 l0_0.length c0_0]) 27 ?_;intro gb193 hg w21 hbox hb;have BK193:=am (hbox);have GW193:=ye HB hg;replace HB:=yH HB hb;have GE193:=GW193;clear hb hbox hg)|((with_reducible refine gD 3 ?_);refine gB (cs:=#[.slice A1_0 l1_0.length c1_0]) 27 ?_;intro gb194 hg w22 hbox hb;have BK194:=am (hbox);have GW194:=ye HB hg;replace HB:=yH HB hb;have NB193_194:=yl BK193 hg;have NB194_193:=yg BK193 hg;replace BK193:=yb BK193 hb;have GE194:=GW194;clear hb hbox hg;have hnb23:=NB193_194.out;have hnc23:=NB194_193.out;obtain ⟨hcz24_0,hfz24_0⟩:=yk1 BK193;obtain ⟨hcz25_0,hfz25_0⟩:=yk1 BK194))
 repeat (go_quiet (first|((with_reducible refine gate_dst (N:=2) rfl ?_);refine box_event ?hg (N:=2) ?hd (cs:=#[.slice A0_0 l0_0.length c0_0]) (t:=27) ?hr ?_;(case hd=>rfl);(case hg=>rfl);(case hr=>first|(go_simp;done)|(go_simp;rfl));intro gb193 hg w21 hbox hb;have n0_:=yH HB hb;have n1_:=am (hbox);have n2_:=ye HB hg;have n3_:=ye HB hg;clear HB;have HB:=n0_;have BK193:=n1_;have GW193:=n2_;have GE193:=n3_;clear n0_ n1_ n2_ n3_;clear hb hbox hg)|((with_reducible refine gate_dst (N:=3) rfl ?_);refine box_event ?hg (N:=3) ?hd (cs:=#[.slice A1_0 l1_0.length c1_0]) (t:=27) ?hr ?_;(case hd=>rfl);(case hg=>rfl);(case hr=>first|(go_simp;done)|(go_simp;rfl));intro gb194 hg w22 hbox hb;have n0_:=yb BK193 hb;have n1_:=yH HB hb;have n2_:=am (hbox);have n3_:=ye HB hg;have n4_:=ye HB hg;have n5_:=yl BK193 hg;have n6_:=yg BK193 hg;clear BK193;clear HB;have BK193:=n0_;have HB:=n1_;have BK194:=n2_;have GW194:=n3_;have GE194:=n4_;have NB193_194:=n5_;have NB194_193:=n6_;clear n0_ n1_ n2_ n3_ n4_ n5_ n6_;clear hb hbox hg;have hnb23:=NB193_194.out;have hnc23:=NB194_193.out;have hcz24_0:=yk BK193 0;have hfz24_0:=blk_frozen BK193.out 0;have hcz25_0:=yk BK194 0;have hfz25_0:=blk_frozen BK194.out 0));try go_wp2_with (first|((with_reducible refine gate_dst (N:=2) rfl ?_);refine box_event ?hg (N:=2) ?hd (cs:=#[.slice A0_0 l0_0.length c0_0]) (t:=27) ?hr ?_;(case hd=>rfl);(case hg=>rfl);(case hr=>first|(go_simp;done)|(go_simp;rfl));intro gb193 hg w21 hbox hb;have n0_:=yH HB hb;have n1_:=am (hbox);have n2_:=ye HB hg;have n3_:=ye HB hg;clear HB;have HB:=n0_;have BK193:=n1_;have GW193:=n2_;have GE193:=n3_;clear n0_ n1_ n2_ n3_;clear hb hbox hg)|((with_reducible refine gate_dst (N:=3) rfl ?_);refine box_event ?hg (N:=3) ?hd (cs:=#[.slice A1_0 l1_0.length c1_0]) (t:=27) ?hr ?_;(case hd=>rfl);(case hg=>rfl);(case hr=>first|(go_simp;done)|(go_simp;rfl));intro gb194 hg w22 hbox hb;have n0_:=yb BK193 hb;have n1_:=yH HB hb;have n2_:=am (hbox);have n3_:=ye HB hg;have n4_:=ye HB hg;have n5_:=yl BK193 hg;have n6_:=yg BK193 hg;clear BK193;clear HB;have BK193:=n0_;have HB:=n1_;have BK194:=n2_;have GW194:=n3_;have GE194:=n4_;have NB193_194:=n5_;have NB194_193:=n6_;clear n0_ n1_ n2_ n3_ n4_ n5_ n6_;clear hb hbox hg;have hnb23:=NB193_194.out;have hnc23:=NB194_193.out;have hcz24_0:=yk BK193 0;have hfz24_0:=blk_frozen BK193.out 0;have hcz25_0:=yk BK194 0;have hfz25_0:=blk_frozen BK194.out 0)))
 go_ret
 exact ⟨d2,yW HB⟩

def laws_numberOf.l0:Nat→Int→List Int→Int→Int→Option (Int)
 | 0,_,_,_,_=>none
 | k+1,x3,x6,x7,x8=>if x8 < x7 then (if 0≤x8 then (if x8 < (x6.length:Int) then (laws_numberOf.l0 k (Int.tmod (wrap64 ((wrap64 (31*x3))+(wrap64 (rd x6 x8)))) 1000003) x6 x7 (wrap64 (x8+1))) else (none)) else (none)) else (some x3)
def laws_numberOf.f (k:Nat) (l0:List Int):Option (Int):=laws_numberOf.l0 k 0 l0 (l0.length:Int) 0
theorem laws_numberOf.mono_l:∀ k,(∀ y0 y1 y2 y3,LeO (laws_numberOf.l0 k y0 y1 y2 y3) (laws_numberOf.l0 (k+1) y0 y1 y2 y3))
 | 0=>fun _ _ _ _ r h=>by simp [laws_numberOf.l0] at h
 | k+1=>by
  have ih0:=laws_numberOf.mono_l k
  intro y0 y1 y2 y3
  unfold laws_numberOf.l0
  exact mm
theorem laws_numberOf.mono:∀ a0 k,LeO (laws_numberOf.f k a0) (laws_numberOf.f (k+1) a0):=by
 intro a0 k
 have ih0:=laws_numberOf.mono_l k
 unfold laws_numberOf.f
 exact mm
theorem laws_numberOf.calls (k:Nat) (A0:Option Addr) (c0:Nat) (l0:List Int) (r:Int) (w:World) (hr0:Kd.C (Kd.int .u8) w A0 l0.length l0) (hc0:l0.length≤c0) (h:laws_numberOf.f k l0=some r) :
  Calls Try.prog 36 #[.slice A0 l0.length c0] w fun e w'=>e = .returned (.int .i64 r)∧Drawn0 w w':=by
 have HR0:=am hr0
 have HC0:=am hc0
 clear hr0 hc0
 have H:=h
 unfold laws_numberOf.f at H
 clear h
 have H':=am H
 clear H
 go_enter Try.func36,Try.ntmps36
 go_wp2
 go_loopg [3,8] k (fun kq v3 v8 w'=>∃ (x3_1:Int) (x8_1:Int),v3 = .int .i64 x3_1∧v8 = .int .i64 x8_1∧Aside0 (laws_numberOf.l0 kq x3_1 l0 (l0.length:Int) x8_1=some r)∧Aside0 (kq≤k)∧Drawn0 w w')
 case atStart=>exact ⟨(0),(0),d3,d3,H',⟨Nat.le_refl _⟩,d10⟩
 case round =>
  clear H'
  obtain ⟨x3_1,x8_1,rfl,rfl,HA,HK1,⟨m1,rfl⟩⟩:=hrel
  cases gk with
  | zero=>exact absurd HA.out (by simp [laws_numberOf.l0])
  | succ k1 =>
   have H:=HA.out
   clear HA
   simp only [laws_numberOf.l0] at H
   by_cases c2:x8_1 < (l0.length:Int)
   ·rw [if_pos c2] at H
    have c2b0:=decide_eq_true c2
    clear c2
    obtain ⟨c3,H⟩:=yi H
    have c3b0:=decide_eq_true c3
    clear c3
    obtain ⟨c4,H⟩:=yi H
    have c4b0:=decide_eq_true c4
    clear c4
    have H':=am H
    clear H
    have p198:0≤(x8_1:Int):=od d1
    have q198:x8_1 < (l0.length:Int):=od d1
    obtain ⟨ad198,e198,hx198_0⟩:=Kd.at_int HR0.out x8_1 p198 q198
    cases e198
    replace p198:=eq_true p198
    replace q198:=eq_true q198
    go_wp2
    go_roundg k1
    case measure=>have:=HK1.out;omega
    case rel=>exact ⟨(Int.tmod (wrap64 ((wrap64 (31*x3_1))+(wrap64 (rd l0 x8_1)))) 1000003),(wrap64 (x8_1+1)),d3,d3,H',⟨d22⟩,d10⟩
   rw [if_neg c2] at H
   have c2b0:=decide_eq_false c2
   clear c2
   obtain rfl:=Option.some.inj H
   go_wp2
   go_ret
   exact ⟨d3,d10⟩
section
def laws_someOf.l0:Nat→Int→Int→List Int→List Int→Int→Option (List Int)
 | 0,_,_,_,_,_=>none
 | k+1,x0,x1,x2,x7,x8=>if x8 < x0 then (if x8 < (x2.length:Int) then (if 0≤x8 then (if (wrap64 (x0 - x8))≤(wrap64 (x1 - (x7.length:Int))) then (if x7.length < 17592186044416 then (laws_someOf.l0 k x0 x1 x2 (x7 ++ [x8]) (wrap64 (x8+1))) else (none)) else (if (Int.tmod (wrap64 (rd x2 x8)) 2)=0 then (if x7.length < 17592186044416 then (laws_someOf.l0 k x0 x1 x2 (x7 ++ [x8]) (wrap64 (x8+1))) else (none)) else (laws_someOf.l0 k x0 x1 x2 x7 (wrap64 (x8+1))))) else (none)) else (if (wrap64 (x0 - x8))≤(wrap64 (x1 - (x7.length:Int))) then (if x7.length < 17592186044416 then (laws_someOf.l0 k x0 x1 x2 (x7 ++ [x8]) (wrap64 (x8+1))) else (none)) else (if ((0:Int) % 2)=0 then (if x7.length < 17592186044416 then (laws_someOf.l0 k x0 x1 x2 (x7 ++ [x8]) (wrap64 (x8+1))) else (none)) else (laws_someOf.l0 k x0 x1 x2 x7 (wrap64 (x8+1)))))) else (some x7)
def laws_someOf.f (k:Nat) (a0:Int) (a1:Int) (l2:List Int):Option (List Int):=laws_someOf.l0 k a0 a1 l2 ([]:List Int) 0
theorem laws_someOf.mono_l:∀ k,(∀ y0 y1 y2 y3 y4,LeO (laws_someOf.l0 k y0 y1 y2 y3 y4) (laws_someOf.l0 (k+1) y0 y1 y2 y3 y4))
 | 0=>fun _ _ _ _ _ r h=>by simp [laws_someOf.l0] at h
 | k+1=>by
  have ih0:=laws_someOf.mono_l k
  intro y0 y1 y2 y3 y4
  unfold laws_someOf.l0
  exact mm
theorem laws_someOf.mono:∀ a0 a1 a2 k,LeO (laws_someOf.f k a0 a1 a2) (laws_someOf.f (k+1) a0 a1 a2):=by
 intro a0 a1 a2 k
 have ih0:=laws_someOf.mono_l k
 unfold laws_someOf.f
 exact mm
theorem laws_someOf.calls (k:Nat) (a0:Int) (a1:Int) (A2:Option Addr) (c2:Nat) (l2:List Int) (r:List Int) (w:World) (hr2:Kd.C (Kd.int .u8) w A2 l2.length l2) (hc2:l2.length≤c2) (h:laws_someOf.f k a0 a1 l2=some r) :
  Calls Try.prog 37 #[.int .i64 a0, .int .i64 a1, .slice A2 l2.length c2] w fun e w'=>∃ v0_:Value,e = .returned (v0_)∧Kd.R (Kd.int .i64) 3 w' w.heap.size (fun _=>True) v0_ r∧Below w.heap.size w w':=by
 have HR2:=am hr2
 have HC2:=am hc2
 clear hr2 hc2
 have HB:=am (Below.refl w.heap.size w)
 have H:=h
 unfold laws_someOf.f at H
 clear h
 have H':=am H
 clear H
 go_enter Try.func37,Try.ntmps37
 go_wp2
 go_loopg [7,8] k (fun kq v7 v8 w'=>∃ (x7_1:List Int) (x8_1:Int),v8 = .int .i64 x8_1∧Aside0 (laws_someOf.l0 kq a0 a1 l2 x7_1 x8_1=some r)∧Aside0 (kq≤k)∧Aside0 (Kd.R (Kd.int .i64) 3 w' w.heap.size (fun _=>True) v7 x7_1)∧Aside0 (Below w.heap.size w w'))
 case atStart=>exact ⟨(([]:List Int)),(0),d3,H',⟨Nat.le_refl _⟩,⟨d29⟩,⟨yW HB⟩⟩
 case round =>
  clear H'
  try clear c2
  try clear p2
  try clear c3
  obtain ⟨x7_1,x8_1,rfl,HA,HK1,HO_7,HB⟩:=hrel
  cases gk with
  | zero=>exact absurd HA.out (by simp [laws_someOf.l0])
  | succ k1 =>
   have H:=HA.out
   clear HA
   simp only [laws_someOf.l0] at H
   by_cases c4:x8_1 < a0
   ·rw [if_pos c4] at H
    have c4b0:=decide_eq_true c4
    clear c4
    by_cases c5:x8_1 < (l2.length:Int)
    ·rw [if_pos c5] at H
     have c5b0:=decide_eq_true c5
     clear c5
     obtain ⟨c6,H⟩:=yi H
     have c6b0:=decide_eq_true c6
     clear c6
     by_cases c7:(wrap64 (a0 - x8_1))≤(wrap64 (a1 - (x7_1.length:Int)))
     ·rw [if_pos c7] at H
      have c7b0:=decide_eq_true c7
      clear c7
      obtain ⟨c8,H⟩:=yi H
      have LMc8:=am c8
      clear c8
      generalize hy200:(x7_1 ++ [x8_1]:List Int)=y200 at H
      have Ny200:=am hy200.symm
      clear hy200
      have H':=am H
      clear H
      have p199:0≤(x8_1:Int):=od d1
      have q199:x8_1 < (l2.length:Int):=od d1
      obtain ⟨ad199,e199,hx199_0⟩:=Kd.at_int HR2.out x8_1 p199 q199
      cases e199
      replace hx199_0:=(HB.out.cell (World.block_lt_of_cell? w _ hx199_0)).trans hx199_0
      replace p199:=eq_true p199
      replace q199:=eq_true q199
      obtain ⟨Ao9,co9,eo9⟩:=Kd.R_slice HO_7.out
      subst eo9
      go_wp2_with (first|((with_reducible refine gate_builtin (b:=.append) (xs:=#[.tmp 37, .tmp 39]) rfl ?_);at_builtin;refine Kd.R_append (Kd.int .i64) (w0:=w) w.heap.size rfl (.tmp 37) (.tmp 39) 62 3 (.int .i64 0) 8 rfl Try.underlying62 info3 rfl d9 d13 (.slice Ao9 x7_1.length co9) x7_1 x8_1 [.int .i64 x8_1] (fun _=>True) (fun _=>False) rfl rfl d104 (fun _ hk=>hk.elim) d25 (by exact (yR HO_7)) d55 d40 (by have:=LMc8.out;omega) ?_;intro v201 w10 ho hb hg hat;rw [← Ny200.out] at ho;have n0_:=am (hb);have n1_:=am (ho);clear HB HO_7;have HB:=n0_;have HO202:=n1_;clear n0_ n1_ ho hb hg hat))
      go_roundg k1
      case measure=>have:=HK1.out;omega
      case rel=>exact ⟨(y200),(wrap64 (x8_1+1)),d3,H',⟨d22⟩,⟨yR HO202⟩,⟨yW HB⟩⟩
     rw [if_neg c7] at H
     have c7b0:=decide_eq_false c7
     clear c7
     by_cases c11:(Int.tmod (wrap64 (rd l2 x8_1)) 2)=0
     ·rw [if_pos c11] at H
      have c11b0:((Int.tmod (wrap64 (rd l2 x8_1)) 2) == 0)=true:=beq_iff_eq.mpr c11
      have c11b1:((Int.tmod (wrap64 (rd l2 x8_1)) 2) != 0)=false:=bne_eq_false_iff_eq.mpr c11
      clear c11
      obtain ⟨c12,H⟩:=yi H
      have LMc12:=am c12
      clear c12
      generalize hy203:(x7_1 ++ [x8_1]:List Int)=y203 at H
      have Ny203:=am hy203.symm
      clear hy203
      have H':=am H
      clear H
      have p199:0≤(x8_1:Int):=od d1
      have q199:x8_1 < (l2.length:Int):=od d1
      obtain ⟨ad199,e199,hx199_0⟩:=Kd.at_int HR2.out x8_1 p199 q199
      cases e199
      replace hx199_0:=(HB.out.cell (World.block_lt_of_cell? w _ hx199_0)).trans hx199_0
      replace p199:=eq_true p199
      replace q199:=eq_true q199
      obtain ⟨Ao13,co13,eo13⟩:=Kd.R_slice HO_7.out
      subst eo13
      go_wp2_with (first|((with_reducible refine gate_builtin (b:=.append) (xs:=#[.tmp 37, .tmp 39]) rfl ?_);at_builtin;refine Kd.R_append (Kd.int .i64) (w0:=w) w.heap.size rfl (.tmp 37) (.tmp 39) 62 3 (.int .i64 0) 8 rfl Try.underlying62 info3 rfl d9 d13 (.slice Ao13 x7_1.length co13) x7_1 x8_1 [.int .i64 x8_1] (fun _=>True) (fun _=>False) rfl rfl d104 (fun _ hk=>hk.elim) d25 (by exact (yR HO_7)) d55 d40 (by have:=LMc12.out;omega) ?_;intro v204 w14 ho hb hg hat;rw [← Ny203.out] at ho;have n0_:=am (hb);have n1_:=am (ho);clear HB HO_7;have HB:=n0_;have HO205:=n1_;clear n0_ n1_ ho hb hg hat))
      go_roundg k1
      case measure=>have:=HK1.out;omega
      case rel=>exact ⟨(y203),(wrap64 (x8_1+1)),d3,H',⟨d22⟩,⟨yR HO205⟩,⟨yW HB⟩⟩
     rw [if_neg c11] at H
     have c11b0:((Int.tmod (wrap64 (rd l2 x8_1)) 2) == 0)=false:=beq_eq_false_iff_ne.mpr c11
     have c11b1:((Int.tmod (wrap64 (rd l2 x8_1)) 2) != 0)=true:=bne_iff_ne.mpr c11
     have H':=am H
     clear H
     have p199:0≤(x8_1:Int):=od d1
     have q199:x8_1 < (l2.length:Int):=od d1
     obtain ⟨ad199,e199,hx199_0⟩:=Kd.at_int HR2.out x8_1 p199 q199
     cases e199
     replace hx199_0:=(HB.out.cell (World.block_lt_of_cell? w _ hx199_0)).trans hx199_0
     replace p199:=eq_true p199
     replace q199:=eq_true q199
     obtain ⟨Ao15,co15,eo15⟩:=Kd.R_slice HO_7.out
     subst eo15
     go_wp2
     go_roundg k1
     case measure=>have:=HK1.out;omega
     case rel=>exact ⟨(x7_1),(wrap64 (x8_1+1)),d3,H',⟨d22⟩,⟨yR HO_7⟩,⟨yW HB⟩⟩
    rw [if_neg c5] at H
    have c5b0:=decide_eq_false c5
    clear c5
    by_cases c16:(wrap64 (a0 - x8_1))≤(wrap64 (a1 - (x7_1.length:Int)))
    ·rw [if_pos c16] at H
     have c16b0:=decide_eq_true c16
     clear c16
     obtain ⟨c17,H⟩:=yi H
     have LMc17:=am c17
     clear c17
     generalize hy206:(x7_1 ++ [x8_1]:List Int)=y206 at H
     have Ny206:=am hy206.symm
     clear hy206
     have H':=am H
     clear H
     obtain ⟨Ao18,co18,eo18⟩:=Kd.R_slice HO_7.out
     subst eo18
     go_wp2_with (first|((with_reducible refine gate_builtin (b:=.append) (xs:=#[.tmp 37, .tmp 39]) rfl ?_);at_builtin;refine Kd.R_append (Kd.int .i64) (w0:=w) w.heap.size rfl (.tmp 37) (.tmp 39) 62 3 (.int .i64 0) 8 rfl Try.underlying62 info3 rfl d9 d13 (.slice Ao18 x7_1.length co18) x7_1 x8_1 [.int .i64 x8_1] (fun _=>True) (fun _=>False) rfl rfl d104 (fun _ hk=>hk.elim) d25 (by exact (yR HO_7)) d55 d40 (by have:=LMc17.out;omega) ?_;intro v207 w19 ho hb hg hat;rw [← Ny206.out] at ho;have n0_:=am (hb);have n1_:=am (ho);clear HB HO_7;have HB:=n0_;have HO208:=n1_;clear n0_ n1_ ho hb hg hat))
     go_roundg k1
     case measure=>have:=HK1.out;omega
     case rel=>exact ⟨(y206),(wrap64 (x8_1+1)),d3,H',⟨d22⟩,⟨yR HO208⟩,⟨yW HB⟩⟩
    rw [if_neg c16] at H
    have c16b0:=decide_eq_false c16
    clear c16
    by_cases c20:((0:Int) % 2)=0
    ·rw [if_pos c20] at H
     have c20b0:(((0:Int) % 2) == 0)=true:=beq_iff_eq.mpr c20
     have c20b1:(((0:Int) % 2) != 0)=false:=bne_eq_false_iff_eq.mpr c20
     clear c20
     obtain ⟨c21,H⟩:=yi H
     have LMc21:=am c21
     clear c21
     generalize hy209:(x7_1 ++ [x8_1]:List Int)=y209 at H
     have Ny209:=am hy209.symm
     clear hy209
     have H':=am H
     clear H
     obtain ⟨Ao22,co22,eo22⟩:=Kd.R_slice HO_7.out
     subst eo22
     go_wp2_with (first|((with_reducible refine gate_builtin (b:=.append) (xs:=#[.tmp 37, .tmp 39]) rfl ?_);at_builtin;refine Kd.R_append (Kd.int .i64) (w0:=w) w.heap.size rfl (.tmp 37) (.tmp 39) 62 3 (.int .i64 0) 8 rfl Try.underlying62 info3 rfl d9 d13 (.slice Ao22 x7_1.length co22) x7_1 x8_1 [.int .i64 x8_1] (fun _=>True) (fun _=>False) rfl rfl d104 (fun _ hk=>hk.elim) d25 (by exact (yR HO_7)) d55 d40 (by have:=LMc21.out;omega) ?_;intro v210 w23 ho hb hg hat;rw [← Ny209.out] at ho;have n0_:=am (hb);have n1_:=am (ho);clear HB HO_7;have HB:=n0_;have HO211:=n1_;clear n0_ n1_ ho hb hg hat))
     go_roundg k1
     case measure=>have:=HK1.out;omega
     case rel=>exact ⟨(y209),(wrap64 (x8_1+1)),d3,H',⟨d22⟩,⟨yR HO211⟩,⟨yW HB⟩⟩
    rw [if_neg c20] at H
    exact absurd d9 c20
   rw [if_neg c4] at H
   have c4b0:=decide_eq_false c4
   clear c4
   obtain rfl:=Option.some.inj H
   go_wp2
   go_ret
   exact ⟨_,d2,yR HO_7,yW HB⟩



section
open Go.Proofs.Yteflgifmdojahaa.Gf Go.Proofs.Yteflgifmdojahaa.Kit
theorem gm_at {w:World} {A:Option Addr} {n:Nat} {xs:List (List Int)} (h:Kd.C (Kd.slice 5 (Kd.int .u8)) w A n xs) (i:Nat) (h1:i < n):∃ ad A0 c0,A=some ad∧w.cell? (ad.add i)=some (.slice A0 (xs.getD i []).length c0):=by
 obtain ⟨ad,c,e,_,hK,hc0⟩:=Kd.C_get h ([]:List Int) (i:Int) d13 d13
 have hc:∀ j u,c[j]? = some u→w.cell? (ad.add ((i:Int).toNat*1+j))=some u:=hc0
 obtain ⟨A0,c0,rfl,l0,g0⟩:=hK
 exact ⟨ad,A0,c0,e,by have hq:=hc 0 _ rfl;rwa [Nat.mul_one,Nat.add_zero,Int.toNat_natCast] at hq⟩
theorem gm_drawn {a b c:World} (h:Drawn0 a b) (k:Drawn0 b c):Drawn0 a c:=by
 obtain ⟨q,rfl⟩:=k.out
 exact Drawn0.step h q
/-- The test of one row: does its length differ from the first row's? -/
theorem gm_test (gb:Nat) (ad:Addr) (n c:Nat) (hn:0 < n) (A0:Option Addr) (k0 c0:Nat) (A1:Option Addr) (k1 c1:Nat) (W:World)
  (hbox:W.cell? ⟨gb,0,none⟩=some (.slice (some ad) n c)) (h0:W.cell? (ad.add 0)=some (.slice A0 k0 c0)) :
  Calls Try.prog 140 #[.slice A1 k1 c1, .pointer (some ⟨gb,0,none⟩)] W fun e w'=>e = .returned (.bool (k1 != k0))∧Drawn0 W w':=by
 rw [Addr.add_zero'] at h0
 have hn':(0 < n)=True:=eq_true hn
 go_enter Try.func140,Try.ntmps140
 go_wp2
 go_ret
 refine ⟨?_,Drawn0.refl _⟩
 by_cases e:k1=k0
 ·subst e;simp
 have e2:¬ ((k1:Int)=(k0:Int)):=by omega
 simp only [bne]
 rw [show ((k1:Int) == (k0:Int))=false by simpa using e2,show (k1 == k0)=false by simpa using e]
 rfl
/-- The first place below n at which p holds, -1 if there is none. -/
def IdxOf (p:Nat→Bool) (n:Nat) (r:Int):Prop:=(r = -1∧∀ i,i < n→p i=false)∨∃ i:Nat,i < n∧r=(i:Int)∧p i=true∧∀ j,j < i→p j=false
set_option maxHeartbeats 4000000 in
theorem rows_IndexFunc (g:Nat) (eg:∀ args w,(callFunc g args).run Try.prog w = .ok (.enter g args) w) (fv:Value) (p:Nat→Bool) (ad:Addr) (n c:Nat) (v:Nat→Value) (w:World) (hbig:n≤9223372036854775806)
  (hc:∀ i,i < n→w.cell? (ad.add i)=some (v i))
  (hp:∀ i,i < n→∀ W,Drawn0 w W→Calls Try.prog g #[v i,fv] W fun e w'=>e = .returned (.bool (p i))∧Drawn0 W w') :
  Calls Try.prog 159 #[.slice (some ad) n c, .func (.func g) #[] #[fv]] w fun e w'=>(∃ r,e = .returned (.int .i64 r)∧IdxOf p n r)∧Drawn0 w w':=by
 have HP:=am hp
 have HC:=am hc
 clear hp hc
 go_enter Try.func159,Try.ntmps159
 go_wp2
 go_loopg [5,8] n (fun gg _ s8 wr=>∃ kk:Nat,kk≤n∧n - kk≤gg∧s8 = .int .i64 kk∧Aside0 (Drawn0 w wr)∧Aside0 (∀ j,j < kk→p j=false))
 case atStart=>exact ⟨0,Nat.zero_le _,d13,rfl,⟨Drawn0.refl _⟩,⟨fun j hj=>absurd hj (Nat.not_lt_zero _)⟩⟩
 case round =>
  obtain ⟨kk,hkk,hg,rfl,HD,HA⟩:=hrel
  by_cases hlt:kk < n
  ·have hltz:(kk:Int) < (n:Int):=by omega
   have hcell:wr.cell? (ad.add kk)=some (v kk):=by
    obtain ⟨q,rfl⟩:=HD.out.out
    exact HC.out kk hlt
   have hcall:=HP.out kk hlt
   cases hq:p kk with
   | true =>
    rw [hq] at hcall
    have HQ:=am hq
    clear hq
    have HX:=am hcall
    clear hcall
    go_wp2_with (go_at_fn g;refine (HX.out _ ?dr).mono ?_;(case dr=>exact HD.out);rintro e w' ⟨rfl,hd⟩)
    go_ret
    exact ⟨⟨_,rfl, .inr ⟨kk,hlt,rfl,HQ.out,HA.out⟩⟩,gm_drawn HD.out hd⟩
   | false =>
    rw [hq] at hcall
    have HQ:=am hq
    clear hq
    have HX:=am hcall
    clear hcall
    go_wp2_with (go_at_fn g;refine (HX.out _ ?dr).mono ?_;(case dr=>exact HD.out);rintro e w' ⟨rfl,hd⟩)
    go_roundg (n - (kk+1))
    case measure=>omega
    case rel=>exact ⟨kk+1,d13,d13,by go_num,⟨gm_drawn HD.out hd⟩,⟨fun j hj=>by by_cases e:j=kk;exact e ▸ HQ.out;exact HA.out j d13⟩⟩
  have hltz:¬ (kk:Int) < (n:Int):=by omega
  have:kk=n:=by omega
  subst this
  go_wp2
  go_ret
  exact ⟨⟨_,rfl, .inl ⟨rfl,HA.out⟩⟩,HD.out⟩
theorem idxOf_nonneg {p:Nat→Bool} {n:Nat} {r:Int} (h:IdxOf p n r):decide (r ≥ 0)=(List.range n).any p:=by
 rcases h with ⟨rfl,h⟩ | ⟨i,hi,rfl,hp,_⟩
 ·have:(List.range n).any p=false:=by
   rw [List.any_eq_false]
   intro x hx
   rw [h x (by simpa using hx)]
   simp
  rw [this];rfl
 have:(List.range n).any p=true:=List.any_eq_true.2 ⟨i,by simpa using hi,hp⟩
 rw [this];simp
set_option maxHeartbeats 4000000 in
theorem rows_ContainsFunc (g:Nat) (eg:∀ args w,(callFunc g args).run Try.prog w = .ok (.enter g args) w) (fv:Value) (p:Nat→Bool) (ad:Addr) (n c:Nat) (v:Nat→Value) (w:World) (hbig:n≤9223372036854775806)
  (hc:∀ i,i < n→w.cell? (ad.add i)=some (v i))
  (hp:∀ i,i < n→∀ W,Drawn0 w W→Calls Try.prog g #[v i,fv] W fun e w'=>e = .returned (.bool (p i))∧Drawn0 W w') :
  Calls Try.prog 139 #[.slice (some ad) n c, .func (.func g) #[] #[fv]] w fun e w'=>e = .returned (.bool ((List.range n).any p))∧Drawn0 w w':=by
 have HX:=am (rows_IndexFunc g eg fv p ad n c v w hbig hc hp)
 clear hp hc
 go_enter Try.func139,Try.ntmps139
 go_wp2_with (go_at_call 159;refine HX.out.mono ?_;rintro e w' ⟨⟨r,rfl,hr⟩,hd⟩)
 go_ret
 refine ⟨?_,hd⟩
 rw [← idxOf_nonneg hr]
 first|rfl|(simp;done)
theorem gm_within (a b c:Int):impl_within.f a b c=some (decide (b≤a∧a≤c)):=by
 unfold impl_within.f
 by_cases h:a ≥ b
 ·rw [if_pos h];simp [h]
 rw [if_neg h];simp;omega
def impl_GoodMatrix.f (l0_0:List (List Int)):Option (Bool):=some (goodM l0_0)
set_option maxHeartbeats 4000000 in
theorem impl_GoodMatrix.calls (A0_0:Option Addr) (c0_0:Nat) (l0_0:List (List Int)) (r:Bool) (w:World) (hr0_0:Kd.C (Kd.slice 5 (Kd.int .u8)) w A0_0 l0_0.length l0_0) (hc0_0:l0_0.length≤c0_0) (h:impl_GoodMatrix.f l0_0=some r) :
  Calls Try.prog 90 #[.agg #[.slice A0_0 l0_0.length c0_0]] w fun e w'=>e = .returned (.bool r)∧Below w.heap.size w w':=by
 obtain rfl:=Option.some.inj h
 clear h
 have hu:=Try.underlying27
 go_enter Try.func90,Try.ntmps90
 go_wp2_with fail
 obtain ⟨W,hW⟩:∃ W:World,W=w.alloc (.cells #[.slice A0_0 l0_0.length c0_0] 27 (0,0)):=⟨_,rfl⟩
 have hb:Below w.heap.size w W:=by rw [hW];exact pa (Below.refl _ _) _
 have hc1:W.cell? ⟨w.heap.size,0,none⟩=some (.slice A0_0 l0_0.length c0_0):=by rw [hW];go_simp
 rw [← hW]
 clear hW
 have hw1:impl_within.f (l0_0.length:Int) 1 16=some (decide (1≤(l0_0.length:Int)∧(l0_0.length:Int)≤16)):=gm_within _ _ _
 by_cases h1:1≤l0_0.length∧l0_0.length≤16
 ·rw [show decide (1≤(l0_0.length:Int)∧(l0_0.length:Int)≤16)=true from decide_eq_true d13] at hw1
  obtain ⟨ad,A0,c0,rfl,hcell⟩:=gm_at hr0_0 0 d13
  have hrows:∀ i,i < l0_0.length→∃ A1 c1,W.cell? (ad.add i)=some (.slice A1 (l0_0.getD i []).length c1):=fun i hi=>by
   obtain ⟨ad2,A1,c1,e,h2⟩:=gm_at hr0_0 i hi
   injection e with e
   subst e
   exact ⟨A1,c1,(hb.cell (World.block_lt_of_cell? w _ h2)).trans h2⟩
  have hcell2:W.cell? (ad.add 0)=some (.slice A0 (l0_0.getD 0 []).length c0):=(hb.cell (World.block_lt_of_cell? w _ hcell)).trans hcell
  rw [Addr.add_zero'] at hcell2
  have hlt:(0 < l0_0.length)=True:=eq_true d13
  have hw2:impl_within.f ((l0_0.getD 0 []).length:Int) 1 16=some (decide (1≤((l0_0.getD 0 []).length:Int)∧((l0_0.getD 0 []).length:Int)≤16)):=gm_within _ _ _
  obtain ⟨n0,hn0⟩:∃ n0,n0=(l0_0.getD 0 []).length:=⟨_,rfl⟩
  rw [← hn0] at hw2 hcell2
  by_cases h2:1≤n0∧n0≤16
  ·rw [show decide (1≤(n0:Int)∧(n0:Int)≤16)=true from decide_eq_true d13] at hw2
   have hv:∃ v:Nat→Value,∀ i,i < l0_0.length→∃ A1 c1,v i = .slice A1 (l0_0.getD i []).length c1∧W.cell? (ad.add i)=some (v i):=by
    refine ⟨fun i=>(W.cell? (ad.add i)).getD undef,fun i hi=>?_⟩
    obtain ⟨A1,c1,e⟩:=hrows i hi
    exact ⟨A1,c1,by show (W.cell? (ad.add i)).getD undef=_;rw [e];rfl,by show _=some ((W.cell? (ad.add i)).getD undef);rw [e];rfl⟩
   obtain ⟨v,hv⟩:=hv
   have HV:=am hv
   have HW1:=am hw1
   have HW2:=am hw2
   have HB:=am hb
   have HN:=am hn0
   have HL:=am h1
   have H2:=am h2
   clear hv hw1 hw2 hb hrows hr0_0 hcell hn0 h1 h2
   have h0l:0 < l0_0.length:=by have:=HL.out;omega
   go_wp2_with (first|(go_at_call 104;first|(with_reducible refine (impl_within.calls (l0_0.length:Int) 1 16 true _ HW1.out).mono ?_;rintro e w' ⟨rfl,⟨q,rfl⟩⟩)|(with_reducible refine (impl_within.calls (n0:Int) 1 16 true _ HW2.out).mono ?_;rintro e w' ⟨rfl,⟨q2,rfl⟩⟩))|fail)
   have hcf:=rows_ContainsFunc 140 (enters_of Try.func140 rfl rfl) (.pointer (some ⟨w.heap.size,0,none⟩)) (fun i=>(l0_0.getD i []).length != n0) ad l0_0.length c0_0 v (W.drewN (q+q2)) (by have:=HL.out;omega) (fun i hi=>by obtain ⟨A1,c1,_,e⟩:=HV.out i hi;exact e)
    (fun i hi W1 hd=>by
     obtain ⟨A1,c1,e,_⟩:=HV.out i hi
     rw [e]
     obtain ⟨q3,rfl⟩:=hd.out
     refine gm_test w.heap.size ad l0_0.length c0_0 h0l A0 n0 c0 A1 _ c1 _ hc1 ?_
     rw [Addr.add_zero'];exact hcell2)
   refine hcf.mono ?_
   clear hcf
   rintro e w' ⟨rfl,⟨q3,rfl⟩⟩
   go_wp2
   go_ret
   refine ⟨?_,pb HB.out _⟩
   have e:goodM l0_0 = !((List.range l0_0.length).any fun i=>(l0_0.getD i []).length != n0):=by
    unfold goodM
    rw [← HN.out,decide_eq_true (show 1≤l0_0.length∧l0_0.length≤16∧1≤n0∧n0≤16 from ⟨HL.out.1,HL.out.2,H2.out⟩),Bool.true_and]
   rw [e]
   rfl
  rw [show decide (1≤(n0:Int)∧(n0:Int)≤16)=false from decide_eq_false d13] at hw2
  have HW1:=am hw1
  have HW2:=am hw2
  have HB:=am hb
  have HN:=am hn0
  have H2:=am h2
  have h0l:0 < l0_0.length:=by omega
  clear hw1 hw2 hb hrows hr0_0 hcell hn0 h1 h2
  go_wp2_with (first|(go_at_call 104;first|(with_reducible refine (impl_within.calls (l0_0.length:Int) 1 16 true _ HW1.out).mono ?_;rintro e w' ⟨rfl,⟨q,rfl⟩⟩)|(with_reducible refine (impl_within.calls (n0:Int) 1 16 false _ HW2.out).mono ?_;rintro e w' ⟨rfl,⟨q2,rfl⟩⟩))|fail)
  go_ret
  refine ⟨?_,pb HB.out _⟩
  have e:goodM l0_0=false:=by
   unfold goodM
   rw [← HN.out,decide_eq_false (fun z=>H2.out z.2.2),Bool.false_and]
  rw [e]
  rfl
 rw [show decide (1≤(l0_0.length:Int)∧(l0_0.length:Int)≤16)=false from decide_eq_false d13] at hw1
 have HW1:=am hw1
 have HB:=am hb
 have H1:=am h1
 clear hw1 hb h1 hr0_0
 go_wp2_with (first|(go_at_call 104;(with_reducible refine (impl_within.calls (l0_0.length:Int) 1 16 false _ HW1.out).mono ?_;rintro e w' ⟨rfl,⟨q,rfl⟩⟩))|fail)
 go_ret
 refine ⟨?_,pb HB.out _⟩
 have e:goodM l0_0=false:=by
  unfold goodM
  rw [decide_eq_false (fun z=>H1.out ⟨z.1,z.2.1⟩),Bool.false_and]
 rw [e]
 rfl
end

def impl_isIncreasing.l0:Nat→List Int→Int→List Int→Int→Int→Option (Bool)
 | 0,_,_,_,_,_=>none
 | k+1,x0,x1,x7,x8,x9=>if x9 < x8 then (if 0≤x9 then (if x9 < (x7.length:Int) then ((impl_within.f (rd x7 x9) 0 (wrap64 (x1 - 1))).bind fun t213=>(if t213=true then (if x9 > 0 then (if 0≤(wrap64 (x9 - 1)) then (if (wrap64 (x9 - 1)) < (x0.length:Int) then (if (rd x7 x9)≤(rd x0 (wrap64 (x9 - 1))) then (some false) else (impl_isIncreasing.l0 k x0 x1 x7 x8 (wrap64 (x9+1)))) else (none)) else (none)) else (impl_isIncreasing.l0 k x0 x1 x7 x8 (wrap64 (x9+1)))) else (some false))) else (none)) else (none)) else (some true)
def impl_isIncreasing.f (k:Nat) (l0:List Int) (a1:Int):Option (Bool):=impl_isIncreasing.l0 k l0 a1 l0 (l0.length:Int) 0
theorem impl_isIncreasing.mono_l:∀ k,(∀ y0 y1 y2 y3 y4,LeO (impl_isIncreasing.l0 k y0 y1 y2 y3 y4) (impl_isIncreasing.l0 (k+1) y0 y1 y2 y3 y4))
 | 0=>fun _ _ _ _ _ r h=>by simp [impl_isIncreasing.l0] at h
 | k+1=>by
  have ih0:=impl_isIncreasing.mono_l k
  intro y0 y1 y2 y3 y4
  unfold impl_isIncreasing.l0
  exact mm
theorem impl_isIncreasing.mono:∀ a0 a1 k,LeO (impl_isIncreasing.f k a0 a1) (impl_isIncreasing.f (k+1) a0 a1):=by
 intro a0 a1 k
 have ih0:=impl_isIncreasing.mono_l k
 unfold impl_isIncreasing.f
 exact mm
theorem impl_isIncreasing.calls (k:Nat) (A0:Option Addr) (c0:Nat) (l0:List Int) (a1:Int) (r:Bool) (w:World) (hr0:Kd.C (Kd.int .i64) w A0 l0.length l0) (hc0:l0.length≤c0) (h:impl_isIncreasing.f k l0 a1=some r) :
  Calls Try.prog 91 #[.slice A0 l0.length c0, .int .i64 a1] w fun e w'=>e = .returned (.bool r)∧Drawn0 w w':=by
 have HR0:=am hr0
 have HC0:=am hc0
 clear hr0 hc0
 have H:=h
 unfold impl_isIncreasing.f at H
 clear h
 have H':=am H
 clear H
 go_enter Try.func91,Try.ntmps91
 go_wp2
 go_loopg [9] k (fun kq v9 w'=>∃ (x9_1:Int),v9 = .int .i64 x9_1∧Aside0 (impl_isIncreasing.l0 kq l0 a1 l0 (l0.length:Int) x9_1=some r)∧Aside0 (kq≤k)∧Drawn0 w w')
 case atStart=>exact ⟨(0),d3,H',⟨Nat.le_refl _⟩,d10⟩
 case round =>
  clear H'
  try clear p2
  obtain ⟨x9_1,rfl,HA,HK1,⟨m1,rfl⟩⟩:=hrel
  cases gk with
  | zero=>exact absurd HA.out (by simp [impl_isIncreasing.l0])
  | succ k1 =>
   have H:=HA.out
   clear HA
   simp only [impl_isIncreasing.l0] at H
   by_cases c3:x9_1 < (l0.length:Int)
   ·rw [if_pos c3] at H
    have c3b0:=decide_eq_true c3
    clear c3
    obtain ⟨c4,H⟩:=yi H
    have c4b0:=decide_eq_true c4
    clear c4
    obtain ⟨c5,H⟩:=yi H
    have c5b0:=decide_eq_true c5
    clear c5
    obtain ⟨t213,A6,H⟩:=yo H
    by_cases c7:t213=true
    ·subst c7
     replace H:=yt H
     by_cases c8:x9_1 > 0
     ·rw [if_pos c8] at H
      have c8b0:decide (0 < x9_1)=true:=decide_eq_true c8
      clear c8
      generalize hji9:(wrap64 (x9_1 - 1))=ji9 at H
      (try rw [hji9] at A6)
      have hji9w:(IntKind.i64.wrap (x9_1 - 1))=ji9:=(i64_w _).trans hji9
      obtain ⟨c10,H⟩:=yi H
      have c10b0:=decide_eq_true c10
      clear c10
      obtain ⟨c11,H⟩:=yi H
      have c11b0:=decide_eq_true c11
      clear c11
      by_cases c12:(rd l0 x9_1)≤(rd l0 (ji9))
      ·rw [if_pos c12] at H
       have c12b0:=decide_eq_true c12
       clear c12
       obtain rfl:=Option.some.inj H
       have p212:0≤(x9_1:Int):=od d1
       have q212:x9_1 < (l0.length:Int):=od d1
       obtain ⟨ad212,e212,hx212_0⟩:=Kd.at_int HR0.out x9_1 p212 q212
       cases e212
       replace p212:=eq_true p212
       replace q212:=eq_true q212
       go_wp2_with (first|((with_reducible refine gC 104 ?_);refine gM (some 17) Try.func104 (args:=#[.int .i64 (rd l0 x9_1), .int .i64 0, .int .i64 (wrap64 (a1 - 1))]) (impl_within.calls (rd l0 x9_1) 0 (wrap64 (a1 - 1)) true _ A6.out) ?_;rintro e w' ⟨rfl,⟨nd,rfl⟩⟩;refine ⟨_,rfl,?_⟩;have p214:0≤((ji9):Int):=od d1;have q214:(ji9) < (l0.length:Int):=od d1;obtain ⟨ad214,e214,hx214_0⟩:=Kd.at_int HR0.out (ji9) p214 q214;obtain rfl:ad212=ad214:=(by injection e214);replace p214:=eq_true p214;replace q214:=eq_true q214))
       go_ret
       exact ⟨by first|rfl|(simp;done)|(simp only [← hji9] <;> (first|rfl|simp))|(simp [*];done),d10⟩
      rw [if_neg c12] at H
      have c12b0:=decide_eq_false c12
      clear c12
      have H':=am H
      clear H
      have p212:0≤(x9_1:Int):=od d1
      have q212:x9_1 < (l0.length:Int):=od d1
      obtain ⟨ad212,e212,hx212_0⟩:=Kd.at_int HR0.out x9_1 p212 q212
      cases e212
      replace p212:=eq_true p212
      replace q212:=eq_true q212
      go_wp2_with (first|((with_reducible refine gC 104 ?_);refine gM (some 17) Try.func104 (args:=#[.int .i64 (rd l0 x9_1), .int .i64 0, .int .i64 (wrap64 (a1 - 1))]) (impl_within.calls (rd l0 x9_1) 0 (wrap64 (a1 - 1)) true _ A6.out) ?_;rintro e w' ⟨rfl,⟨nd,rfl⟩⟩;refine ⟨_,rfl,?_⟩;have p214:0≤((ji9):Int):=od d1;have q214:(ji9) < (l0.length:Int):=od d1;obtain ⟨ad214,e214,hx214_0⟩:=Kd.at_int HR0.out (ji9) p214 q214;obtain rfl:ad212=ad214:=(by injection e214);replace p214:=eq_true p214;replace q214:=eq_true q214))
      go_roundg k1
      case measure=>have:=HK1.out;omega
      case rel=>exact ⟨(wrap64 (x9_1+1)),d3,H',⟨d22⟩,d10⟩
     rw [if_neg c8] at H
     have c8b0:decide (0 < x9_1)=false:=decide_eq_false c8
     clear c8
     have H':=am H
     clear H
     have p212:0≤(x9_1:Int):=od d1
     have q212:x9_1 < (l0.length:Int):=od d1
     obtain ⟨ad212,e212,hx212_0⟩:=Kd.at_int HR0.out x9_1 p212 q212
     cases e212
     replace p212:=eq_true p212
     replace q212:=eq_true q212
     go_wp2_with (first|((with_reducible refine gC 104 ?_);refine gM (some 17) Try.func104 (args:=#[.int .i64 (rd l0 x9_1), .int .i64 0, .int .i64 (wrap64 (a1 - 1))]) (impl_within.calls (rd l0 x9_1) 0 (wrap64 (a1 - 1)) true _ A6.out) ?_;rintro e w' ⟨rfl,⟨nd,rfl⟩⟩;refine ⟨_,rfl,?_⟩))
     go_roundg k1
     case measure=>have:=HK1.out;omega
     case rel=>exact ⟨(wrap64 (x9_1+1)),d3,H',⟨d22⟩,d10⟩
    replace c7:=Bool.eq_false_iff.mpr c7
    subst c7
    replace H:=yn H
    obtain rfl:=Option.some.inj H
    have p212:0≤(x9_1:Int):=od d1
    have q212:x9_1 < (l0.length:Int):=od d1
    obtain ⟨ad212,e212,hx212_0⟩:=Kd.at_int HR0.out x9_1 p212 q212
    cases e212
    replace p212:=eq_true p212
    replace q212:=eq_true q212
    go_wp2_with (first|((with_reducible refine gC 104 ?_);refine gM (some 17) Try.func104 (args:=#[.int .i64 (rd l0 x9_1), .int .i64 0, .int .i64 (wrap64 (a1 - 1))]) (impl_within.calls (rd l0 x9_1) 0 (wrap64 (a1 - 1)) false _ A6.out) ?_;rintro e w' ⟨rfl,⟨nd,rfl⟩⟩;refine ⟨_,rfl,?_⟩))
    go_ret
    exact ⟨d3,d10⟩
   rw [if_neg c3] at H
   have c3b0:=decide_eq_false c3
   clear c3
   obtain rfl:=Option.some.inj H
   go_wp2
   go_ret
   exact ⟨d3,d10⟩
end
mutual
def impl_PartOf.j0:Nat→List Int→List Int→Bool→List (List Int)→Option ((List (List Int)) × Bool)
 | 0,_,_,_,_=>none
 | k+1,x1,x2,x44,x216000=>if x44=true then (some (([]:List (List Int)),false)) else (impl_PartOf.l0 k x2 x1 (x1.length:Int) 0 x216000 ([]:List (List Int)))
def impl_PartOf.l0:Nat→List Int→List Int→Int→Int→List (List Int)→List (List Int)→Option ((List (List Int)) × Bool)
 | 0,_,_,_,_,_,_=>none
 | k+1,x2,x47,x48,x49,x216000,x222000=>if x49 < x48 then (if 0≤x49 then (if x49 < (x47.length:Int) then (impl_PartOf.l1 k x2 (rd x47 x49) (([]:List Int)) x47 x48 x49 x2 (x2.length:Int) 0 x216000 x222000) else (none)) else (none)) else (some (x222000,true))
def impl_PartOf.l1:Nat→List Int→Int→List Int→List Int→Int→Int→List Int→Int→Int→List (List Int)→List (List Int)→Option ((List (List Int)) × Bool)
 | 0,_,_,_,_,_,_,_,_,_,_,_=>none
 | k+1,x2,x10,x11,x47,x48,x49,x54,x55,x56,x216000,x222000=>if x56 < x55 then (if 0≤x56 then (if x56 < (x54.length:Int) then (if 0≤x10 then (if x10 < (x216000.length:Int) then (if 0≤(rd x54 x56) then (if (rd x54 x56) < ((rd_L1 x216000 x10).length:Int) then (if x11.length < 140737488355328 then (impl_PartOf.l1 k x2 x10 (x11 ++ [rd (rd_L1 x216000 x10) (rd x54 x56)]) x47 x48 x49 x54 x55 (wrap64 (x56+1)) x216000 x222000) else (none)) else (none)) else (none)) else (none)) else (none)) else (none)) else (none)) else (if x222000.length < 5864062014805 then (impl_PartOf.l0 k x2 x47 x48 (wrap64 (x49+1)) x216000 (x222000 ++ [x11])) else (none))
end
def impl_PartOf.f (k:Nat) (l0_0:List (List Int)) (l1:List Int) (l2:List Int):Option ((List (List Int)) × Bool):=(impl_GoodMatrix.f l0_0).bind fun t217=>(if t217=true then (if (l1.length:Int)=0 then (impl_PartOf.j0 k l1 l2 true l0_0) else (if (l2.length:Int)=0 then (impl_PartOf.j0 k l1 l2 true l0_0) else ((impl_isIncreasing.f k l1 (l0_0.length:Int)).bind fun t218=>(if t218=true then (if 0 < (l0_0.length:Int) then ((impl_isIncreasing.f k l2 ((rd_L1 l0_0 0).length:Int)).bind fun t220=>(impl_PartOf.j0 k l1 l2 (!t220) l0_0)) else (none)) else (impl_PartOf.j0 k l1 l2 true l0_0))))) else (impl_PartOf.j0 k l1 l2 true l0_0))
theorem impl_PartOf.mono_l:∀ k,(∀ y0 y1 y2 y3,LeO (impl_PartOf.j0 k y0 y1 y2 y3) (impl_PartOf.j0 (k+1) y0 y1 y2 y3))∧(∀ y0 y1 y2 y3 y4 y5,LeO (impl_PartOf.l0 k y0 y1 y2 y3 y4 y5) (impl_PartOf.l0 (k+1) y0 y1 y2 y3 y4 y5))∧(∀ y0 y1 y2 y3 y4 y5 y6 y7 y8 y9 y10,LeO (impl_PartOf.l1 k y0 y1 y2 y3 y4 y5 y6 y7 y8 y9 y10) (impl_PartOf.l1 (k+1) y0 y1 y2 y3 y4 y5 y6 y7 y8 y9 y10))
 | 0=>⟨fun _ _ _ _ r h=>by simp [impl_PartOf.j0] at h,fun _ _ _ _ _ _ r h=>by simp [impl_PartOf.l0] at h,fun _ _ _ _ _ _ _ _ _ _ _ r h=>by simp [impl_PartOf.l1] at h⟩
 | k+1=>by
  obtain ⟨ih0,ih1,ih2⟩:=impl_PartOf.mono_l k
  refine ⟨?_,?_,?_⟩
  ·intro y0 y1 y2 y3
   unfold impl_PartOf.j0
   exact mm
  ·intro y0 y1 y2 y3 y4 y5
   unfold impl_PartOf.l0
   exact mm
  intro y0 y1 y2 y3 y4 y5 y6 y7 y8 y9 y10
  unfold impl_PartOf.l1
  exact mm
theorem impl_PartOf.mono:∀ a0 a1 a2 k,LeO (impl_PartOf.f k a0 a1 a2) (impl_PartOf.f (k+1) a0 a1 a2):=by
 intro a0 a1 a2 k
 obtain ⟨ih0,ih1,ih2⟩:=impl_PartOf.mono_l k
 unfold impl_PartOf.f
 exact mm
theorem impl_PartOf.calls (k:Nat) (A0_0:Option Addr) (c0_0:Nat) (l0_0:List (List Int)) (A1:Option Addr) (c1:Nat) (l1:List Int) (A2:Option Addr) (c2:Nat) (l2:List Int) (r1:List (List Int)) (r2:Bool) (w:World) (hr0_0:Kd.C (Kd.slice 5 (Kd.int .u8)) w A0_0 l0_0.length l0_0) (hc0_0:l0_0.length≤c0_0) (hr1:Kd.C (Kd.int .i64) w A1 l1.length l1) (hc1:l1.length≤c1) (hr2:Kd.C (Kd.int .i64) w A2 l2.length l2) (hc2:l2.length≤c2) (h:impl_PartOf.f k l0_0 l1 l2=some (r1,r2)) :
  Calls Try.prog 38 #[.agg #[.slice A0_0 l0_0.length c0_0], .slice A1 l1.length c1, .slice A2 l2.length c2] w fun e w'=>∃ v0_:Value,e = .returned (.tuple #[.agg #[v0_], .bool r2])∧Kd.S (Kd.slice 5 (Kd.int .u8)) 24 w' w.heap.size (fun _=>True) v0_ r1∧Below w.heap.size w w':=by
 have hu27:=Try.underlying27
 have HR0_0:=am hr0_0
 have HC0_0:=am hc0_0
 clear hr0_0 hc0_0
 have HR1:=am hr1
 have HC1:=am hc1
 clear hr1 hc1
 have HR2:=am hr2
 have HC2:=am hc2
 clear hr2 hc2
 have HB:=am (Below.refl w.heap.size w)
 have H:=h
 unfold impl_PartOf.f at H
 clear h
 have HC4:=am H
 clear H
 go_enter Try.func38,Try.ntmps38
 go_upto_region 1 with (first|((with_reducible refine gD 3 ?_);(try (refine gate_guard d20 ?_;dsimp only));refine gB (cs:=#[.slice A0_0 l0_0.length c0_0]) 27 ?_;intro gb215 hg w5 hbox hb;have BK215:=am (hbox);have GW215:=ye HB hg;replace HB:=yH HB hb;have GE215:=GW215;clear hb hbox hg)|((with_reducible refine gD 6 ?_);(try (refine gate_guard d20 ?_;dsimp only));refine gB (cs:=#[.slice none 0 0]) 27 ?_;intro gb216 hg w6 hbox hb;have BK216:=am (hbox);have GW216:=ye HB hg;replace HB:=yH HB hb;have NB215_216:=yl BK215 hg;have NB216_215:=yg BK215 hg;replace BK215:=yb BK215 hb;have GE216:=GW216;clear hb hbox hg))
 (try simp only [Act.put,q1,q2,q3])
 go_cut [44] (fun v44 wc=>∃ (kq:Nat) (x44_3:Bool),v44 = .bool x44_3∧Aside0 (impl_PartOf.j0 kq l1 l2 x44_3 l0_0=some (r1,r2))∧Aside0 (kq≤k)∧Aside0 (wc.heap[gb215]? = some (.cells #[(.slice A0_0 l0_0.length c0_0)] 27 (0,0)))∧Aside0 (wc.heap[gb216]? = some (.cells #[(.slice none 0 0)] 27 (0,0)))∧Aside0 (Below w.heap.size w wc))
 case first =>
  have H:=HC4.out
  clear HC4
  obtain ⟨t217,A7,H⟩:=yo H
  by_cases c8:t217=true
  ·subst c8
   replace H:=yt H
   by_cases c9:(l1.length:Int)=0
   ·rw [if_pos c9] at H
    have c9b0:((l1.length:Int) == 0)=true:=beq_iff_eq.mpr c9
    have c9b1:((l1.length:Int) != 0)=false:=bne_eq_false_iff_eq.mpr c9
    clear c9
    (first|rw [c9b0]|(simp only [i64_w,i32_w];rw [c9b0])|skip)
    have H':=am H
    clear H
    have hnb10:=NB215_216.out
    have hnc10:=NB216_215.out
    obtain ⟨hcz11_0,hfz11_0⟩:=yk1 BK215
    go_wp2_with (first|((with_reducible refine gC 90 ?_);refine gM (some 15) Try.func90 (args:=#[.agg #[.slice A0_0 l0_0.length c0_0]]) (impl_GoodMatrix.calls _ _ l0_0 true _ (yc (Kd.C_below HR0_0.out HB.out)) HC0_0.out A7.out) ?_;rintro e w12 ⟨rfl,hb⟩;refine ⟨_,rfl,?_⟩;replace BK215:=yb BK215 hb;replace BK216:=yb BK216 hb;replace HB:=yH HB hb;clear hb))
    go_meet
    case rel=>exact ⟨_,(true),d3,H',⟨d39⟩,⟨yB BK215⟩,⟨yB BK216⟩,⟨yW HB⟩⟩
   rw [if_neg c9] at H
   have c9b0:((l1.length:Int) == 0)=false:=beq_eq_false_iff_ne.mpr c9
   have c9b1:((l1.length:Int) != 0)=true:=bne_iff_ne.mpr c9
   have c9b2:¬ (l1=[]):=fun h_=>c9 (by rw [h_];rfl)
   (first|rw [c9b0]|(simp only [i64_w,i32_w];rw [c9b0])|skip)
   by_cases c13:(l2.length:Int)=0
   ·rw [if_pos c13] at H
    have c13b0:((l2.length:Int) == 0)=true:=beq_iff_eq.mpr c13
    have c13b1:((l2.length:Int) != 0)=false:=bne_eq_false_iff_eq.mpr c13
    clear c13
    have H':=am H
    clear H
    have hnb14:=NB215_216.out
    have hnc14:=NB216_215.out
    obtain ⟨hcz15_0,hfz15_0⟩:=yk1 BK215
    go_wp2_with (first|((with_reducible refine gC 90 ?_);refine gM (some 15) Try.func90 (args:=#[.agg #[.slice A0_0 l0_0.length c0_0]]) (impl_GoodMatrix.calls _ _ l0_0 true _ (yc (Kd.C_below HR0_0.out HB.out)) HC0_0.out A7.out) ?_;rintro e w16 ⟨rfl,hb⟩;refine ⟨_,rfl,?_⟩;replace BK215:=yb BK215 hb;replace BK216:=yb BK216 hb;replace HB:=yH HB hb;clear hb))
    go_meet
    case rel=>exact ⟨_,(true),d3,H',⟨d39⟩,⟨yB BK215⟩,⟨yB BK216⟩,⟨yW HB⟩⟩
   rw [if_neg c13] at H
   have c13b0:((l2.length:Int) == 0)=false:=beq_eq_false_iff_ne.mpr c13
   have c13b1:((l2.length:Int) != 0)=true:=bne_iff_ne.mpr c13
   have c13b2:¬ (l2=[]):=fun h_=>c13 (by rw [h_];rfl)
   obtain ⟨t218,A17,H⟩:=yo H
   by_cases c18:t218=true
   ·subst c18
    replace H:=yt H
    obtain ⟨c19,H⟩:=yi H
    have c19b0:=decide_eq_true c19
    have c19b1:decide (0 < l0_0.length)=true:=decide_eq_true d13
    clear c19
    obtain ⟨t220,A20,H⟩:=yo H
    have H':=am H
    clear H
    have hnb21:=NB215_216.out
    have hnc21:=NB216_215.out
    obtain ⟨hcz22_0,hfz22_0⟩:=yk1 BK215
    go_wp2_with (first|((with_reducible refine gC 90 ?_);refine gM (some 15) Try.func90 (args:=#[.agg #[.slice A0_0 l0_0.length c0_0]]) (impl_GoodMatrix.calls _ _ l0_0 true _ (yc (Kd.C_below HR0_0.out HB.out)) HC0_0.out A7.out) ?_;rintro e w23 ⟨rfl,hb⟩;refine ⟨_,rfl,?_⟩;replace BK215:=yb BK215 hb;replace BK216:=yb BK216 hb;replace HB:=yH HB hb;clear hb;obtain ⟨hcz24_0,hfz24_0⟩:=yk1 BK215)|(go_at_call 91;(with_reducible refine (impl_isIncreasing.calls k _ _ l1 (l0_0.length:Int) true _ (yc (Kd.C_below HR1.out HB.out)) HC1.out A17.out).mono ?_);rintro e w' ⟨rfl,⟨nd,rfl⟩⟩;have p219:0≤(0:Int):=d13;have q219:0 < (l0_0.length:Int):=od d1;obtain ⟨ad219,A219_0,c219_0,e219,hx219_0,hl219_0,hi219_0⟩:=at_L1 HR0_0.out 0 p219 q219;cases e219;have qi219:(0 < l0_0.length)=True:=eq_true d13;(try rw [show ((0:Int)).toNat=0 from rfl] at hx219_0);(try rw [Addr.add_zero'] at hx219_0);replace hx219_0:=(HB.out.cell (World.block_lt_of_cell? w _ hx219_0)).trans hx219_0;have HR219_0:=am hi219_0;have HC219_0:=am hl219_0;clear hi219_0 hl219_0;replace p219:=eq_true p219;replace q219:=eq_true q219)|(go_at_call 91;(with_reducible refine (impl_isIncreasing.calls k _ _ l2 ((rd_L1 l0_0 0).length:Int) t220 _ (yc (Kd.C_below HR2.out (yW HB))) HC2.out A20.out).mono ?_);rintro e w' ⟨rfl,⟨nd,rfl⟩⟩))
    go_meet
    case rel=>exact ⟨_,(!t220),d3,H',⟨d39⟩,⟨yB BK215⟩,⟨yB BK216⟩,⟨yW HB⟩⟩
   replace c18:=Bool.eq_false_iff.mpr c18
   subst c18
   replace H:=yn H
   have H':=am H
   clear H
   have hnb25:=NB215_216.out
   have hnc25:=NB216_215.out
   obtain ⟨hcz26_0,hfz26_0⟩:=yk1 BK215
   go_wp2_with (first|((with_reducible refine gC 90 ?_);refine gM (some 15) Try.func90 (args:=#[.agg #[.slice A0_0 l0_0.length c0_0]]) (impl_GoodMatrix.calls _ _ l0_0 true _ (yc (Kd.C_below HR0_0.out HB.out)) HC0_0.out A7.out) ?_;rintro e w27 ⟨rfl,hb⟩;refine ⟨_,rfl,?_⟩;replace BK215:=yb BK215 hb;replace BK216:=yb BK216 hb;replace HB:=yH HB hb;clear hb;obtain ⟨hcz28_0,hfz28_0⟩:=yk1 BK215)|(go_at_call 91;(with_reducible refine (impl_isIncreasing.calls k _ _ l1 (l0_0.length:Int) false _ (yc (Kd.C_below HR1.out HB.out)) HC1.out A17.out).mono ?_);rintro e w' ⟨rfl,⟨nd,rfl⟩⟩))
   go_meet
   case rel=>exact ⟨_,(true),d3,H',⟨d39⟩,⟨yB BK215⟩,⟨yB BK216⟩,⟨yW HB⟩⟩
  replace c8:=Bool.eq_false_iff.mpr c8
  subst c8
  replace H:=yn H
  have H':=am H
  clear H
  have hnb29:=NB215_216.out
  have hnc29:=NB216_215.out
  obtain ⟨hcz30_0,hfz30_0⟩:=yk1 BK215
  go_wp2_with (first|((with_reducible refine gC 90 ?_);refine gM (some 15) Try.func90 (args:=#[.agg #[.slice A0_0 l0_0.length c0_0]]) (impl_GoodMatrix.calls _ _ l0_0 false _ (yc (Kd.C_below HR0_0.out HB.out)) HC0_0.out A7.out) ?_;rintro e w31 ⟨rfl,hb⟩;refine ⟨_,rfl,?_⟩;replace BK215:=yb BK215 hb;replace BK216:=yb BK216 hb;replace HB:=yH HB hb;clear hb))
  go_meet
  case rel=>exact ⟨_,(true),d3,H',⟨d39⟩,⟨yB BK215⟩,⟨yB BK216⟩,⟨yW HB⟩⟩
 case rest =>
  clear HC4
  try clear c1
  try clear c2
  try clear p2
  try clear q2
  try clear hx2
  try clear qi2
  try clear c3
  try clear c8
  try clear c9
  try clear c9b0
  try clear c9b1
  try clear c9b2
  try clear c10
  try clear c13
  try clear c13b0
  try clear c13b1
  try clear c13b2
  try clear c14
  try clear c18
  try clear c19
  try clear c19b0
  try clear c19b1
  try clear c21
  try clear p21
  try clear q21
  try clear hx21
  try clear qi21
  try clear c25
  try clear c29
  try clear hcz11_0
  try clear hcz15_0
  try clear hcz22_0
  try clear hcz24_0
  try clear hcz26_0
  try clear hcz28_0
  try clear hcz30_0
  try clear hfz11_0
  try clear hfz15_0
  try clear hfz22_0
  try clear hfz24_0
  try clear hfz26_0
  try clear hfz28_0
  try clear hfz30_0
  try clear hx219_0
  try clear p219
  try clear q219
  obtain ⟨kq,x44_3,rfl,HA,HJ3,BK215,BK216,HB⟩:=hcut
  cases kq with
  | zero=>exact absurd HA.out (by simp [impl_PartOf.j0])
  | succ kj3 =>
   have H:=HA.out
   clear HA
   simp only [impl_PartOf.j0] at H
   by_cases c32:x44_3=true
   ·subst c32
    replace H:=yt H
    simp only [Option.some.injEq,Prod.mk.injEq] at H
    obtain ⟨rfl,rfl⟩:=H
    have hnb33:=NB216_215.out
    have hnc33:=NB215_216.out
    obtain ⟨hcz34_0,hfz34_0⟩:=yk1 BK216
    go_wp2
    refine bodyPost_ret (results_ct rfl _ _ gb216 27 #[.slice none 0 0] (0,0) _ rfl (by refine sB ?_;refine blk_put (cs:=#[.slice none 0 0]) ?_ 0 _ rfl;exact yB BK216) Try.underlying27 rfl d12) rfl ?_
    exact ⟨_,d2,d11,yW HB⟩
   replace c32:=Bool.eq_false_iff.mpr c32
   subst c32
   replace H:=yn H
   have H':=am H
   clear H
   go_wp2_with (first|((with_reducible refine gD 8 ?_);(try (refine gate_guard d20 ?_;dsimp only));refine gB (cs:=#[.slice none 0 0]) 27 ?_;intro gb221 hg w35 hbox hb;have BK221:=am (hbox);have GW221:=ye HB hg;replace HB:=yH HB hb;have NB215_221:=yl BK215 hg;have NB221_215:=yg BK215 hg;replace BK215:=yb BK215 hb;have NB216_221:=yl BK216 hg;have NB221_216:=yg BK216 hg;replace BK216:=yb BK216 hb;have GE221:=GW221;clear hb hbox hg;have hnb36:=NB221_215.out;have hnc36:=NB215_221.out;have hnb37:=NB221_216.out;have hnc37:=NB216_221.out;obtain ⟨hcz38_0,hfz38_0⟩:=yk1 BK221))
   go_loopg [49] kj3 (fun kq v49 w'=>∃ (x49_2:Int) (x222000_2:List (List Int)) (u222000:Value),v49 = .int .i64 x49_2∧Aside0 (impl_PartOf.l0 kq l2 l1 (l1.length:Int) x49_2 l0_0 x222000_2=some (r1,r2))∧Aside0 (kq≤kj3)∧Aside0 (Kd.S (Kd.slice 5 (Kd.int .u8)) 24 w' w.heap.size (fun _=>True) u222000 x222000_2)∧Aside0 (w'.heap[gb215]? = some (.cells #[(.slice A0_0 l0_0.length c0_0)] 27 (0,0)))∧Aside0 (w'.heap[gb216]? = some (.cells #[(.slice none 0 0)] 27 (0,0)))∧Aside0 (w'.heap[gb221]? = some (.cells #[u222000] 27 (0,0)))∧Aside0 (Below w.heap.size w w'))
   case atStart=>exact ⟨(0),(([]:List (List Int))),(.slice none 0 0),d3,H',⟨Nat.le_refl _⟩,⟨d11⟩,⟨yF BK215⟩,⟨yF BK216⟩,⟨by refine sB ?_;refine blk_put (cs:=#[.slice none 0 0]) ?_ 0 _ rfl;exact yB BK221⟩,⟨yW HB⟩⟩
   case round =>
    clear H'
    try clear c1
    try clear c2
    try clear p2
    try clear q2
    try clear hx2
    try clear qi2
    try clear c3
    try clear c8
    try clear c9
    try clear c9b0
    try clear c9b1
    try clear c9b2
    try clear c10
    try clear c13
    try clear c13b0
    try clear c13b1
    try clear c13b2
    try clear c14
    try clear c18
    try clear c19
    try clear c19b0
    try clear c19b1
    try clear c21
    try clear p21
    try clear q21
    try clear hx21
    try clear qi21
    try clear c25
    try clear c29
    try clear c32
    try clear c33
    try clear c36
    try clear c37
    try clear c38
    try clear hcz11_0
    try clear hcz15_0
    try clear hcz22_0
    try clear hcz24_0
    try clear hcz26_0
    try clear hcz28_0
    try clear hcz30_0
    try clear hcz34_0
    try clear hcz38_0
    try clear hfz11_0
    try clear hfz15_0
    try clear hfz22_0
    try clear hfz24_0
    try clear hfz26_0
    try clear hfz28_0
    try clear hfz30_0
    try clear hfz34_0
    try clear hfz38_0
    try clear hx219_0
    try clear p2
    try clear p21
    try clear p219
    try clear q2
    try clear q21
    try clear q219
    obtain ⟨x49_2,x222000_2,u222000,rfl,HA,HK2,HO_222000,BK215,BK216,BK221,HB⟩:=hrel
    cases gk with
    | zero=>exact absurd HA.out (by simp [impl_PartOf.l0])
    | succ k2 =>
     have H:=HA.out
     clear HA
     simp only [impl_PartOf.l0] at H
     by_cases c39:x49_2 < (l1.length:Int)
     ·rw [if_pos c39] at H
      have c39b0:=decide_eq_true c39
      clear c39
      obtain ⟨c40,H⟩:=yi H
      have c40b0:=decide_eq_true c40
      clear c40
      obtain ⟨c41,H⟩:=yi H
      have c41b0:=decide_eq_true c41
      clear c41
      generalize hy223:(([]:List Int):List Int)=y223 at H
      have Ny223:=am hy223.symm
      clear hy223
      have H':=am H
      clear H
      have p222:0≤(x49_2:Int):=od d1
      have q222:x49_2 < (l1.length:Int):=od d1
      obtain ⟨ad222,e222,hx222_0⟩:=Kd.at_int HR1.out x49_2 p222 q222
      cases e222
      replace hx222_0:=(HB.out.cell (World.block_lt_of_cell? w _ hx222_0)).trans hx222_0
      replace p222:=eq_true p222
      replace q222:=eq_true q222
      go_wp2_with (first|((with_reducible refine gD 53 ?_);(try (refine gate_guard d20 ?_;dsimp only));refine Kd.R_lit (Kd.int .u8) _ 5 d20 (N:=53) d20 (xs:=([]:List Int)) (inner:=[]) (ok:=fun _=>True) (okp:=fun _=>True) d28 d54 (fun _ hk=>hk) trivial (Below.refl _ _) (Nat.le_refl _) d41 ?_;intro v224 w42 ho43 hb hg_ hnew_;clear hg_ hnew_;(first|rw [← Ny223.out] at ho43|(simp only [Int.reduceToNat] at ho43;rw [← Ny223.out] at ho43));replace HO_222000:=eS HO_222000 (Kd.R_base ho43) hb;have HO225:=am (Kd.R_lower ho43 (pz (yW HB)));replace BK215:=yb BK215 hb;replace BK216:=yb BK216 hb;replace BK221:=yb BK221 hb;replace HB:=yH HB hb;clear hb ho43))
      go_loopg [11,56] k2 (fun kq v11 v56 w'=>∃ (x11_3:List Int) (x56_3:Int),v56 = .int .i64 x56_3∧Aside0 (impl_PartOf.l1 kq l2 (rd l1 x49_2) x11_3 l1 (l1.length:Int) x49_2 l2 (l2.length:Int) x56_3 l0_0 x222000_2=some (r1,r2))∧Aside0 (kq≤k2)∧Aside0 (Kd.R (Kd.int .u8) 5 w' w.heap.size (fun _=>True) v11 x11_3)∧Aside0 (Kd.S (Kd.slice 5 (Kd.int .u8)) 24 w' w.heap.size (fun k_=>some k_ ≠ (v11:Value).ownBlock) u222000 x222000_2)∧Aside0 (w'.heap[gb215]? = some (.cells #[(.slice A0_0 l0_0.length c0_0)] 27 (0,0)))∧Aside0 (w'.heap[gb216]? = some (.cells #[(.slice none 0 0)] 27 (0,0)))∧Aside0 (w'.heap[gb221]? = some (.cells #[u222000] 27 (0,0)))∧Aside0 (Below w.heap.size w w'))
      case atStart=>exact ⟨(y223),(0),d3,H',⟨Nat.le_refl _⟩,⟨yR HO225⟩,⟨by refine sS ?_;exact Kd.S_mono HO_222000.out (fun _ hk=>hk.2)⟩,⟨yB BK215⟩,⟨yB BK216⟩,⟨yB BK221⟩,⟨yW HB⟩⟩
      case round =>
       clear H'
       try clear c1
       try clear c2
       try clear p2
       try clear q2
       try clear hx2
       try clear qi2
       try clear c3
       try clear c4
       try clear c8
       try clear c9
       try clear c9b0
       try clear c9b1
       try clear c9b2
       try clear c10
       try clear c13
       try clear c13b0
       try clear c13b1
       try clear c13b2
       try clear c14
       try clear c18
       try clear c19
       try clear c19b0
       try clear c19b1
       try clear c21
       try clear p21
       try clear q21
       try clear hx21
       try clear qi21
       try clear p22
       try clear q22
       try clear hx22
       try clear c25
       try clear c29
       try clear c32
       try clear c33
       try clear c36
       try clear c37
       try clear c38
       try clear c39
       try clear c39b0
       try clear c40
       try clear c40b0
       try clear c41
       try clear c41b0
       try clear hcz11_0
       try clear hcz15_0
       try clear hcz22_0
       try clear hcz24_0
       try clear hcz26_0
       try clear hcz28_0
       try clear hcz30_0
       try clear hcz34_0
       try clear hcz38_0
       try clear hfz11_0
       try clear hfz15_0
       try clear hfz22_0
       try clear hfz24_0
       try clear hfz26_0
       try clear hfz28_0
       try clear hfz30_0
       try clear hfz34_0
       try clear hfz38_0
       try clear hx219_0
       try clear hx222_0
       try clear p2
       try clear p21
       try clear p219
       try clear p222
       try clear q2
       try clear q21
       try clear q219
       try clear q222
       obtain ⟨x11_3,x56_3,rfl,HA,HK3,HO_11,HO_222000,BK215,BK216,BK221,HB⟩:=hrel
       cases gk with
       | zero=>exact absurd HA.out (by simp [impl_PartOf.l1])
       | succ k3 =>
        have H:=HA.out
        clear HA
        simp only [impl_PartOf.l1] at H
        by_cases c44:x56_3 < (l2.length:Int)
        ·rw [if_pos c44] at H
         have c44b0:=decide_eq_true c44
         clear c44
         obtain ⟨c45,H⟩:=yi H
         have c45b0:=decide_eq_true c45
         clear c45
         obtain ⟨c46,H⟩:=yi H
         have c46b0:=decide_eq_true c46
         clear c46
         obtain ⟨c47,H⟩:=yi H
         have c47b0:=decide_eq_true c47
         clear c47
         obtain ⟨c48,H⟩:=yi H
         have c48b0:=decide_eq_true c48
         clear c48
         obtain ⟨c49,H⟩:=yi H
         have c49b0:=decide_eq_true c49
         clear c49
         obtain ⟨c50,H⟩:=yi H
         have c50b0:=decide_eq_true c50
         clear c50
         obtain ⟨c51,H⟩:=yi H
         have LMc51:=am c51
         clear c51
         generalize hy229:(x11_3 ++ [rd (rd_L1 l0_0 (rd l1 x49_2)) (rd l2 x56_3)]:List Int)=y229 at H
         have Ny229:=am hy229.symm
         clear hy229
         have H':=am H
         clear H
         have p226:0≤(x56_3:Int):=od d1
         have q226:x56_3 < (l2.length:Int):=od d1
         obtain ⟨ad226,e226,hx226_0⟩:=Kd.at_int HR2.out x56_3 p226 q226
         cases e226
         replace hx226_0:=(HB.out.cell (World.block_lt_of_cell? w _ hx226_0)).trans hx226_0
         replace p226:=eq_true p226
         replace q226:=eq_true q226
         have hnb52:=NB215_216.out
         have hnc52:=NB216_215.out
         have hnb53:=NB215_221.out
         have hnc53:=NB221_215.out
         obtain ⟨hcz54_0,hfz54_0⟩:=yk1 BK215
         have p227:0≤((rd l1 x49_2):Int):=od d1
         have q227:(rd l1 x49_2) < (l0_0.length:Int):=od d1
         obtain ⟨ad227,A227_0,c227_0,e227,hx227_0,hl227_0,hi227_0⟩:=at_L1 HR0_0.out (rd l1 x49_2) p227 q227
         cases e227
         replace hx227_0:=(HB.out.cell (World.block_lt_of_cell? w _ hx227_0)).trans hx227_0
         have HR227_0:=am hi227_0
         have HC227_0:=am hl227_0
         clear hi227_0 hl227_0
         replace p227:=eq_true p227
         replace q227:=eq_true q227
         have p228:0≤((rd l2 x56_3):Int):=od d1
         have q228:(rd l2 x56_3) < ((rd_L1 l0_0 (rd l1 x49_2)).length:Int):=od d1
         obtain ⟨ad228,e228,hx228_0⟩:=Kd.at_int HR227_0.out (rd l2 x56_3) p228 q228
         cases e228
         replace hx228_0:=(HB.out.cell (World.block_lt_of_cell? w _ hx228_0)).trans hx228_0
         replace p228:=eq_true p228
         replace q228:=eq_true q228
         go_wp2_with (first|((with_reducible refine gate_builtin (b:=.append) (xs:=#[.tmp 60, .tmp 69]) rfl ?_);(try (refine gate_guard d20 ?_;dsimp only));at_builtin;refine Kd.R_append (Kd.int .u8) (w0:=w) w.heap.size rfl (.tmp 60) (.tmp 69) 24 5 (.int .u8 0) 1 rfl Try.underlying24 info5 rfl d9 d13 u11 x11_3 (rd (rd_L1 l0_0 (rd l1 x49_2)) (rd l2 x56_3)) [.int .u8 (rd (rd_L1 l0_0 (rd l1 x49_2)) (rd l2 x56_3))] (fun _=>True) (fun _=>False) rfl rfl d104 (fun _ hk=>hk.elim) d25 (by exact (yR HO_11)) d55 d40 (by have:=LMc51.out;omega) ?_;intro v230 w55 ho hb hg hat;rw [← Ny229.out] at ho;have n0_:=am (Kd.S_after (ok:=(fun _=>True)) (by refine sS ?_;exact Kd.S_mono HO_222000.out (fun _ hk=>⟨trivial,hk⟩)) hg hat);have n1_:=am (blk_grown (g:=gb215) (o:=.cells #[.slice (some ad227) l0_0.length c0_0] 27 (0,0)) (yB BK215) hg (Kd.R_ne HO_11.out BK215.out d9));have n2_:=am (blk_grown (g:=gb216) (o:=.cells #[.slice none 0 0] 27 (0,0)) (yB BK216) hg (Kd.R_ne HO_11.out BK216.out d9));have n3_:=am (blk_grown (g:=gb221) (o:=.cells #[u222000] 27 (0,0)) (yB BK221) hg (Kd.R_ne HO_11.out BK221.out d9));have n4_:=am (hb);have n5_:=am (ho);clear HO_222000 BK215 BK216 BK221 HB HO_11;have HO_222000:=n0_;have BK215:=n1_;have BK216:=n2_;have BK221:=n3_;have HB:=n4_;have HO231:=n5_;clear n0_ n1_ n2_ n3_ n4_ n5_ ho hb hg hat))
         go_roundg k3
         case measure=>have:=HJ3.out;have:=HK2.out;have:=HK3.out;omega
         case rel=>exact ⟨(y229),(wrap64 (x56_3+1)),d3,H',⟨by have:=HJ3.out;have:=HK2.out;have:=HK3.out;omega⟩,⟨yR HO231⟩,⟨by refine sS ?_;exact Kd.S_mono HO_222000.out (fun _ hk=>hk.2)⟩,⟨yB BK215⟩,⟨yB BK216⟩,⟨yB BK221⟩,⟨yW HB⟩⟩
        rw [if_neg c44] at H
        have c44b0:=decide_eq_false c44
        clear c44
        obtain ⟨c56,H⟩:=yi H
        have LMc56:=am c56
        clear c56
        generalize hy232:(x222000_2 ++ [x11_3]:List (List Int))=y232 at H
        have Ny232:=am hy232.symm
        clear hy232
        have H':=am H
        clear H
        have hnb57:=NB221_215.out
        have hnc57:=NB215_221.out
        have hnb58:=NB221_216.out
        have hnc58:=NB216_221.out
        obtain ⟨hcz59_0,hfz59_0⟩:=yk1 BK221
        obtain ⟨Ao61,co61,eo61⟩:=Kd.R_slice HO_11.out
        subst eo61
        go_wp2_with (first|((with_reducible refine gate_builtin (b:=.append) (xs:=#[.tmp 73, .tmp 75]) rfl ?_);(try (refine gate_guard d20 ?_;dsimp only));at_builtin;refine Kd.S_append (Kd.slice 5 (Kd.int .u8)) (w0:=w) w.heap.size rfl (.tmp 73) (.tmp 75) 25 24 (.slice none 0 0) 24 rfl Try.underlying25 info24 rfl d9 d13 u222000 x222000_2 x11_3 [.slice Ao61 x11_3.length co61] (fun _=>True) (fun k_=>some k_=(.slice Ao61 x11_3.length co61:Value).ownBlock) rfl rfl (by exact Kd.M_row (Kd.R_mono (Kd.R_tight rfl (Kd.R_mono (ok':=fun k_=>((fun _=>True)) k_∧some k_ ≠ (u222000:Value).ownBlock) (Kd.R_apart' (HO_11.out) (Kd.S_typed HO_222000.out) d9) (fun k_ hk=>⟨trivial,hk.2⟩))) (fun _ h_=>h_))) (fun k_ hk_=>((Kd.R_mono (ok':=fun k_=>((fun _=>True)) k_∧some k_ ≠ (u222000:Value).ownBlock) (Kd.R_apart' (HO_11.out) (Kd.S_typed HO_222000.out) d9) (fun k_ hk=>⟨trivial,hk.2⟩))).1 k_ hk_.symm) d25 (by exact (by refine sS ?_;exact Kd.S_mono HO_222000.out (fun k_ hk=>⟨trivial,fun e_=>hk e_⟩))) d55 d40 (by have:=LMc56.out;omega) ?_;intro v233 w60 ho hb hg hat;rw [← Ny232.out] at ho;have n0_:=am (blk_grown (g:=gb215) (o:=.cells #[.slice A0_0 l0_0.length c0_0] 27 (0,0)) (yB BK215) hg (Kd.S_ne HO_222000.out BK215.out d9));have n1_:=am (blk_grown (g:=gb216) (o:=.cells #[.slice none 0 0] 27 (0,0)) (yB BK216) hg (Kd.S_ne HO_222000.out BK216.out d9));have n2_:=am (blk_grown (g:=gb221) (o:=.cells #[u222000] 27 (0,0)) (yB BK221) hg (Kd.S_ne HO_222000.out BK221.out d9));have n3_:=am (hb);have n4_:=am (ho);clear BK215 BK216 BK221 HB HO_222000 HO_11;have BK215:=n0_;have BK216:=n1_;have BK221:=n2_;have HB:=n3_;have HO234:=n4_;clear n0_ n1_ n2_ n3_ n4_ ho hb hg hat;obtain ⟨Ao62,co62,eo62⟩:=Kd.S_slice HO234.out;subst eo62;obtain ⟨hcz63_0,hfz63_0⟩:=yk1 BK221))
        go_roundg k3
        case measure=>have:=HJ3.out;have:=HK2.out;have:=HK3.out;omega
        case rel=>exact ⟨(wrap64 (x49_2+1)),(y232),(.slice Ao62 y232.length co62),d3,H',⟨by have:=HJ3.out;have:=HK2.out;have:=HK3.out;omega⟩,⟨by refine sS ?_;exact Kd.S_mono (Kd.S_far (p:=⟨gb221,0,none⟩) (Kd.S_types HO234.out BK221.out d9) (fun _ hk=>hk.2) (.slice Ao62 y232.length co62)) (fun _ hk=>trivial)⟩,⟨yF BK215⟩,⟨yF BK216⟩,⟨by refine sB ?_;refine blk_put (cs:=#[u222000]) ?_ 0 _ rfl;exact yB BK221⟩,⟨yW HB⟩⟩
     rw [if_neg c39] at H
     have c39b0:=decide_eq_false c39
     clear c39
     simp only [Option.some.injEq,Prod.mk.injEq] at H
     obtain ⟨rfl,rfl⟩:=H
     have hnb64:=NB221_215.out
     have hnc64:=NB215_221.out
     have hnb65:=NB221_216.out
     have hnc65:=NB216_221.out
     obtain ⟨hcz66_0,hfz66_0⟩:=yk1 BK221
     obtain ⟨Ao67,co67,eo67⟩:=Kd.S_slice HO_222000.out
     subst eo67
     have hnb68:=NB216_215.out
     have hnc68:=NB215_216.out
     obtain ⟨hcz69_0,hfz69_0⟩:=yk1 BK216
     go_wp2
     refine bodyPost_ret (results_ct rfl _ _ gb216 27 #[.slice Ao67 x222000_2.length co67] (0,0) _ rfl (by refine sB ?_;refine blk_put (cs:=#[.slice none 0 0]) ?_ 0 _ rfl;exact yB BK216) Try.underlying27 rfl d12) rfl ?_
     exact ⟨_,d2,by refine sS ?_;exact Kd.S_mono (Kd.S_far (p:=⟨gb216,0,none⟩) (Kd.S_types HO_222000.out BK216.out d9) (fun _ hk=>hk.2) (.slice Ao67 x222000_2.length co67)) (fun _ hk=>trivial),yW HB⟩

def slices_Clone_byte_byte.f (l0:List Int):Option (List Int):=(some (([]:List Int):List Int)).bind fun y181=>(if y181.length+l0.length < 140737488355328 then (some (y181 ++ l0)) else (none))
theorem slices_Clone_byte_byte.calls (A0:Option Addr) (c0:Nat) (l0:List Int) (r:List Int) (w:World) (hr0:Kd.C (Kd.int .u8) w A0 l0.length l0) (hc0:l0.length≤c0) (h:slices_Clone_byte_byte.f l0=some r) :
  Calls Try.prog 142 #[.slice A0 l0.length c0] w fun e w'=>∃ v0_:Value,e = .returned (v0_)∧Kd.R (Kd.int .u8) 5 w' w.heap.size (fun _=>True) v0_ r∧Below w.heap.size w w':=by
 have HR0:=am hr0
 have HC0:=am hc0
 clear hr0 hc0
 have HB:=am (Below.refl w.heap.size w)
 have H:=h
 unfold slices_Clone_byte_byte.f at H
 clear h
 obtain ⟨y181,hy181,H⟩:=ys H
 have Ny181:=am hy181
 clear hy181
 by_cases c2:y181.length+l0.length < 140737488355328
 ·rw [if_pos c2] at H
  have LMc2:=am c2
  clear c2
  generalize hy184:(y181 ++ l0:List Int)=y184 at H
  have Ny184:=am hy184.symm
  clear hy184
  obtain rfl:=Option.some.inj H
  have keq:=fun (W:World) (a:Option Addr) (n c:Nat)=>Lib.run_eql_slice_nil (P:=Try.prog) W 24 5 a n c 0 0 Try.underlying24
  cases A0 with
  | none =>
   have e0:l0=[]:=by
    have hc:=HR0.out
    by_cases hp:0 < l0.length
    ·obtain ⟨ad,h1,_⟩:=hc.2.2 hp
     cases h1
    exact List.eq_nil_of_length_eq_zero d13
   have ey:y184=[]:=by rw [Ny184.out,Ny181.out,e0];rfl
   subst ey
   go_enter Try.func142,Try.ntmps142
   go_wp2
   go_ret
   exact ⟨_,rfl,Kd.R_nil _ _ _ _ _,HB.out⟩
  | some ad0 =>
  go_enter Try.func142,Try.ntmps142
  go_wp2_with (first|((with_reducible refine gD 5 ?_);refine Kd.R_lit (Kd.int .u8) _ 5 d20 (N:=5) d20 (xs:=([]:List Int)) (inner:=[]) (ok:=fun _=>True) (okp:=fun _=>True) d28 d54 (fun _ hk=>hk) trivial (Below.refl _ _) (Nat.le_refl _) d41 ?_;intro v182 w3 ho4 hb hg_ hnew_;clear hg_ hnew_;(first|rw [← Ny181.out] at ho4|(simp only [Int.reduceToNat] at ho4;rw [← Ny181.out] at ho4));have HO183:=am (Kd.R_lower ho4 (pz (yW HB)));replace HB:=yH HB hb;clear hb ho4)|((with_reducible refine gate_builtin (b:=.append) (xs:=#[.tmp 5, .tmp 6]) rfl ?_);at_builtin;refine Kd.R_append_rows (Kd.int .u8) (w0:=w) w.heap.size rfl (.tmp 5) (.tmp 6) 24 5 (.int .u8 0) 1 rfl Try.underlying24 info5 rfl d9 d13 v182 y181 l0 _ _ _ (fun _=>True) (fun _=>False) rfl rfl (by exact (yR HO183)) (by repeat (first|exact (Kd.C_below HR0.out HB.out)|(with_reducible refine Kd.C_alloc ?_ _)|(with_reducible refine Kd.C_drewN ?_ _)|(with_reducible refine Kd.C_drew ?_))) (fun _ _ h=>h) (fun _ h=>h.elim) d25 d55 d40 (by have:=LMc2.out;omega) ?_;intro v185 w5 ho hb hg hat;rw [← Ny184.out] at ho;have n0_:=am (hb);have n1_:=am (ho);clear HB HO183;have HB:=n0_;have HO186:=n1_;clear n0_ n1_ ho hb hg hat))
  go_ret
  exact ⟨_,d2,yR HO186,yW HB⟩
 rw [if_neg c2] at H
 exact absurd H d41

def impl_added.l0:Nat→List Int→List Int→List Int→Int→Int→Option (List Int)
 | 0,_,_,_,_,_=>none
 | k+1,x1,x5,x9,x10,x11=>if x11 < x10 then (if 0≤x11 then (if x11 < (x9.length:Int) then (if x11 < (x1.length:Int) then (if x5.length < 140737488355328 then (impl_added.l0 k x1 (x5 ++ [Go.bits .xor .u8 (rd x9 x11) (rd x1 x11)]) x9 x10 (wrap64 (x11+1))) else (none)) else (none)) else (none)) else (none)) else (some x5)
def impl_added.f (k:Nat) (l0:List Int) (l1:List Int):Option (List Int):=impl_added.l0 k l1 (([]:List Int)) l0 (l0.length:Int) 0
theorem impl_added.mono_l:∀ k,(∀ y0 y1 y2 y3 y4,LeO (impl_added.l0 k y0 y1 y2 y3 y4) (impl_added.l0 (k+1) y0 y1 y2 y3 y4))
 | 0=>fun _ _ _ _ _ r h=>by simp [impl_added.l0] at h
 | k+1=>by
  have ih0:=impl_added.mono_l k
  intro y0 y1 y2 y3 y4
  unfold impl_added.l0
  exact mm
theorem impl_added.mono:∀ a0 a1 k,LeO (impl_added.f k a0 a1) (impl_added.f (k+1) a0 a1):=by
 intro a0 a1 k
 have ih0:=impl_added.mono_l k
 unfold impl_added.f
 exact mm
theorem impl_added.calls (k:Nat) (A0:Option Addr) (c0:Nat) (l0:List Int) (A1:Option Addr) (c1:Nat) (l1:List Int) (r:List Int) (w:World) (hr0:Kd.C (Kd.int .u8) w A0 l0.length l0) (hc0:l0.length≤c0) (hr1:Kd.C (Kd.int .u8) w A1 l1.length l1) (hc1:l1.length≤c1) (h:impl_added.f k l0 l1=some r) :
  Calls Try.prog 118 #[.slice A0 l0.length c0, .slice A1 l1.length c1] w fun e w'=>∃ v0_:Value,e = .returned (v0_)∧Kd.R (Kd.int .u8) 5 w' w.heap.size (fun _=>True) v0_ r∧Below w.heap.size w w':=by
 have HR0:=am hr0
 have HC0:=am hc0
 clear hr0 hc0
 have HR1:=am hr1
 have HC1:=am hc1
 clear hr1 hc1
 have HB:=am (Below.refl w.heap.size w)
 have H:=h
 unfold impl_added.f at H
 clear h
 generalize hy235:(([]:List Int):List Int)=y235 at H
 have Ny235:=am hy235.symm
 clear hy235
 have H':=am H
 clear H
 go_enter Try.func118,Try.ntmps118
 go_wp2_with (first|((with_reducible refine gD 8 ?_);refine Kd.R_lit (Kd.int .u8) _ 5 d20 (N:=8) d20 (xs:=([]:List Int)) (inner:=[]) (ok:=fun _=>True) (okp:=fun _=>True) d28 d54 (fun _ hk=>hk) trivial (Below.refl _ _) (Nat.le_refl _) d41 ?_;intro v236 w3 ho4 hb hg_ hnew_;clear hg_ hnew_;(first|rw [← Ny235.out] at ho4|(simp only [Int.reduceToNat] at ho4;rw [← Ny235.out] at ho4));have HO237:=am (Kd.R_lower ho4 (pz (yW HB)));replace HB:=yH HB hb;clear hb ho4))
 go_loopg [5,11] k (fun kq v5 v11 w'=>∃ (x5_1:List Int) (x11_1:Int),v11 = .int .i64 x11_1∧Aside0 (impl_added.l0 kq l1 x5_1 l0 (l0.length:Int) x11_1=some r)∧Aside0 (kq≤k)∧Aside0 (Kd.R (Kd.int .u8) 5 w' w.heap.size (fun _=>True) v5 x5_1)∧Aside0 (Below w.heap.size w w'))
 case atStart=>exact ⟨(y235),(0),d3,H',⟨Nat.le_refl _⟩,⟨yR HO237⟩,⟨yW HB⟩⟩
 case round =>
  clear H'
  try clear c1
  try clear p2
  obtain ⟨x5_1,x11_1,rfl,HA,HK1,HO_5,HB⟩:=hrel
  cases gk with
  | zero=>exact absurd HA.out (by simp [impl_added.l0])
  | succ k1 =>
   have H:=HA.out
   clear HA
   simp only [impl_added.l0] at H
   by_cases c5:x11_1 < (l0.length:Int)
   ·rw [if_pos c5] at H
    have c5b0:=decide_eq_true c5
    clear c5
    obtain ⟨c6,H⟩:=yi H
    have c6b0:=decide_eq_true c6
    clear c6
    obtain ⟨c7,H⟩:=yi H
    have c7b0:=decide_eq_true c7
    clear c7
    obtain ⟨c8,H⟩:=yi H
    have c8b0:=decide_eq_true c8
    clear c8
    obtain ⟨c9,H⟩:=yi H
    have LMc9:=am c9
    clear c9
    generalize hy240:(x5_1 ++ [Go.bits .xor .u8 (rd l0 x11_1) (rd l1 x11_1)]:List Int)=y240 at H
    have Ny240:=am hy240.symm
    clear hy240
    have H':=am H
    clear H
    have p238:0≤(x11_1:Int):=od d1
    have q238:x11_1 < (l0.length:Int):=od d1
    obtain ⟨ad238,e238,hx238_0⟩:=Kd.at_int HR0.out x11_1 p238 q238
    cases e238
    replace hx238_0:=(HB.out.cell (World.block_lt_of_cell? w _ hx238_0)).trans hx238_0
    replace p238:=eq_true p238
    replace q238:=eq_true q238
    have p239:0≤(x11_1:Int):=od d1
    have q239:x11_1 < (l1.length:Int):=od d1
    obtain ⟨ad239,e239,hx239_0⟩:=Kd.at_int HR1.out x11_1 p239 q239
    cases e239
    replace hx239_0:=(HB.out.cell (World.block_lt_of_cell? w _ hx239_0)).trans hx239_0
    replace p239:=eq_true p239
    replace q239:=eq_true q239
    go_wp2_with (first|((with_reducible refine gate_builtin (b:=.append) (xs:=#[.tmp 16, .tmp 23]) rfl ?_);at_builtin;refine Kd.R_append (Kd.int .u8) (w0:=w) w.heap.size rfl (.tmp 16) (.tmp 23) 24 5 (.int .u8 0) 1 rfl Try.underlying24 info5 rfl d9 d13 u5 x5_1 (Go.bits .xor .u8 (rd l0 x11_1) (rd l1 x11_1)) [.int .u8 (Go.bits .xor .u8 (rd l0 x11_1) (rd l1 x11_1))] (fun _=>True) (fun _=>False) rfl rfl d104 (fun _ hk=>hk.elim) d25 (by exact (yR HO_5)) d55 d40 (by have:=LMc9.out;omega) ?_;intro v241 w10 ho hb hg hat;rw [← Ny240.out] at ho;have n0_:=am (hb);have n1_:=am (ho);clear HB HO_5;have HB:=n0_;have HO242:=n1_;clear n0_ n1_ ho hb hg hat))
    go_roundg k1
    case measure=>have:=HK1.out;omega
    case rel=>exact ⟨(y240),(wrap64 (x11_1+1)),d3,H',⟨d22⟩,⟨yR HO242⟩,⟨yW HB⟩⟩
   rw [if_neg c5] at H
   have c5b0:=decide_eq_false c5
   clear c5
   obtain rfl:=Option.some.inj H
   go_wp2
   go_ret
   exact ⟨_,d2,yR HO_5,yW HB⟩
def impl_scaled.l0:Nat→Int→List Int→List Int→Int→Int→Option (List Int)
 | 0,_,_,_,_,_=>none
 | k+1,x0,x5,x9,x10,x11=>if x11 < x10 then (if 0≤x11 then (if x11 < (x9.length:Int) then ((impl_Times.f k x0 (rd x9 x11)).bind fun t247=>(if x5.length < 140737488355328 then (impl_scaled.l0 k x0 (x5 ++ [t247]) x9 x10 (wrap64 (x11+1))) else (none))) else (none)) else (none)) else (some x5)
def impl_scaled.f (k:Nat) (a0:Int) (l1:List Int):Option (List Int):=impl_scaled.l0 k a0 (([]:List Int)) l1 (l1.length:Int) 0
theorem impl_scaled.mono_l:∀ k,(∀ y0 y1 y2 y3 y4,LeO (impl_scaled.l0 k y0 y1 y2 y3 y4) (impl_scaled.l0 (k+1) y0 y1 y2 y3 y4))
 | 0=>fun _ _ _ _ _ r h=>by simp [impl_scaled.l0] at h
 | k+1=>by
  have ih0:=impl_scaled.mono_l k
  intro y0 y1 y2 y3 y4
  unfold impl_scaled.l0
  exact mm
theorem impl_scaled.mono:∀ a0 a1 k,LeO (impl_scaled.f k a0 a1) (impl_scaled.f (k+1) a0 a1):=by
 intro a0 a1 k
 have ih0:=impl_scaled.mono_l k
 unfold impl_scaled.f
 exact mm
theorem impl_scaled.calls (k:Nat) (a0:Int) (A1:Option Addr) (c1:Nat) (l1:List Int) (r:List Int) (w:World) (hr1:Kd.C (Kd.int .u8) w A1 l1.length l1) (hc1:l1.length≤c1) (h:impl_scaled.f k a0 l1=some r) :
  Calls Try.prog 119 #[.int .u8 a0, .slice A1 l1.length c1] w fun e w'=>∃ v0_:Value,e = .returned (v0_)∧Kd.R (Kd.int .u8) 5 w' w.heap.size (fun _=>True) v0_ r∧Below w.heap.size w w':=by
 have HR1:=am hr1
 have HC1:=am hc1
 clear hr1 hc1
 have HB:=am (Below.refl w.heap.size w)
 have H:=h
 unfold impl_scaled.f at H
 clear h
 generalize hy243:(([]:List Int):List Int)=y243 at H
 have Ny243:=am hy243.symm
 clear hy243
 have H':=am H
 clear H
 go_enter Try.func119,Try.ntmps119
 go_wp2_with (first|((with_reducible refine gD 8 ?_);refine Kd.R_lit (Kd.int .u8) _ 5 d20 (N:=8) d20 (xs:=([]:List Int)) (inner:=[]) (ok:=fun _=>True) (okp:=fun _=>True) d28 d54 (fun _ hk=>hk) trivial (Below.refl _ _) (Nat.le_refl _) d41 ?_;intro v244 w3 ho4 hb hg_ hnew_;clear hg_ hnew_;(first|rw [← Ny243.out] at ho4|(simp only [Int.reduceToNat] at ho4;rw [← Ny243.out] at ho4));have HO245:=am (Kd.R_lower ho4 (pz (yW HB)));replace HB:=yH HB hb;clear hb ho4))
 go_loopg [5,11] k (fun kq v5 v11 w'=>∃ (x5_1:List Int) (x11_1:Int),v11 = .int .i64 x11_1∧Aside0 (impl_scaled.l0 kq a0 x5_1 l1 (l1.length:Int) x11_1=some r)∧Aside0 (kq≤k)∧Aside0 (Kd.R (Kd.int .u8) 5 w' w.heap.size (fun _=>True) v5 x5_1)∧Aside0 (Below w.heap.size w w'))
 case atStart=>exact ⟨(y243),(0),d3,H',⟨Nat.le_refl _⟩,⟨yR HO245⟩,⟨yW HB⟩⟩
 case round =>
  clear H'
  try clear c1
  try clear p2
  obtain ⟨x5_1,x11_1,rfl,HA,HK1,HO_5,HB⟩:=hrel
  cases gk with
  | zero=>exact absurd HA.out (by simp [impl_scaled.l0])
  | succ k1 =>
   have H:=HA.out
   clear HA
   simp only [impl_scaled.l0] at H
   by_cases c5:x11_1 < (l1.length:Int)
   ·rw [if_pos c5] at H
    have c5b0:=decide_eq_true c5
    clear c5
    obtain ⟨c6,H⟩:=yi H
    have c6b0:=decide_eq_true c6
    clear c6
    obtain ⟨c7,H⟩:=yi H
    have c7b0:=decide_eq_true c7
    clear c7
    obtain ⟨t247,A8,H⟩:=yo H
    obtain ⟨c9,H⟩:=yi H
    have LMc9:=am c9
    clear c9
    generalize hy248:(x5_1 ++ [t247]:List Int)=y248 at H
    have Ny248:=am hy248.symm
    clear hy248
    have H':=am H
    clear H
    have p246:0≤(x11_1:Int):=od d1
    have q246:x11_1 < (l1.length:Int):=od d1
    obtain ⟨ad246,e246,hx246_0⟩:=Kd.at_int HR1.out x11_1 p246 q246
    cases e246
    replace hx246_0:=(HB.out.cell (World.block_lt_of_cell? w _ hx246_0)).trans hx246_0
    replace p246:=eq_true p246
    replace q246:=eq_true q246
    go_wp2_with (first|((with_reducible refine gC 51 ?_);refine gM (some 18) Try.func51 (args:=#[.int .u8 a0, .int .u8 (rd l1 x11_1)]) (impl_Times.calls k1 a0 (rd l1 x11_1) t247 _ A8.out) ?_;rintro e w' ⟨rfl,⟨nd,rfl⟩⟩;refine ⟨_,rfl,?_⟩)|((with_reducible refine gate_builtin (b:=.append) (xs:=#[.tmp 15, .tmp 19]) rfl ?_);at_builtin;refine Kd.R_append (Kd.int .u8) (w0:=w) w.heap.size rfl (.tmp 15) (.tmp 19) 24 5 (.int .u8 0) 1 rfl Try.underlying24 info5 rfl d9 d13 u5 x5_1 t247 [.int .u8 t247] (fun _=>True) (fun _=>False) rfl rfl d104 (fun _ hk=>hk.elim) d25 (by exact (yR HO_5)) d55 d40 (by have:=LMc9.out;omega) ?_;intro v249 w10 ho hb hg hat;rw [← Ny248.out] at ho;have n0_:=am (hb);have n1_:=am (ho);clear HB HO_5;have HB:=n0_;have HO250:=n1_;clear n0_ n1_ ho hb hg hat))
    go_roundg k1
    case measure=>have:=HK1.out;omega
    case rel=>exact ⟨(y248),(wrap64 (x11_1+1)),d3,H',⟨d22⟩,⟨yR HO250⟩,⟨yW HB⟩⟩
   rw [if_neg c5] at H
   have c5b0:=decide_eq_false c5
   clear c5
   obtain rfl:=Option.some.inj H
   go_wp2
   go_ret
   exact ⟨_,d2,yR HO_5,yW HB⟩

def impl_Inverse.f (k:Nat) (a0:Int):Option (Int):=(impl_power.f k a0 254).bind fun t251=>(some t251)
theorem impl_Inverse.mono:∀ a0 k,LeO (impl_Inverse.f k a0) (impl_Inverse.f (k+1) a0):=by
 intro a0 k
 unfold impl_Inverse.f
 exact mm
theorem impl_Inverse.calls (k:Nat) (a0:Int) (r:Int) (w:World) (h:impl_Inverse.f k a0=some r) :
  Calls Try.prog 136 #[.int .u8 a0] w fun e w'=>e = .returned (.int .u8 r)∧Drawn0 w w':=by
 have H:=h
 unfold impl_Inverse.f at H
 clear h
 obtain ⟨t251,A2,H⟩:=yo H
 obtain rfl:=Option.some.inj H
 go_enter Try.func136,Try.ntmps136
 go_wp2_with (first|((with_reducible refine gC 88 ?_);refine gM (some 4) Try.func88 (args:=#[.int .u8 a0, .int .i64 254]) (impl_power.calls k a0 254 t251 _ A2.out) ?_;rintro e w' ⟨rfl,⟨nd,rfl⟩⟩;refine ⟨_,rfl,?_⟩))
 go_ret
 exact ⟨d3,d10⟩
end Go.Proofs.Yteflgifmdojahaa.PFnCauchy
-- SQUEEZED
