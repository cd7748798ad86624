-- Laid by a program of this session.
import Derived.Test.YtajikfnpcobnpaaVMendStripeB
import Derived.Test.YtajikfnpcobnpaaPFnExactMendStripex0
import Derived.Test.YtajikfnpcobnpaaPFnExactMendStripex2
import Derived.Test.YtajikfnpcobnpaaPFnExactMendStripex3
import Derived.Test.YtajikfnpcobnpaaPFnExactMendStripex4
import Derived.Test.YtajikfnpcobnpaaPFnExactMendStripex5
import Derived.Test.YtajikfnpcobnpaaPFnExactMendStripex9
import Derived.Test.YtajikfnpcobnpaaPFnExactMendStripex10
namespace Go.Proofs.Ytajikfnpcobnpaa.PFnExactMendStripe
open Go.RowKit Go.Proofs.YtajikfnpcobnpaaW.PrintWords Go.Proofs.YtajikfnpcobnpaaW.PrintLast Go.Proofs.YtajikfnpcobnpaaW.PrintMore Go.Proofs.Ytajikfnpcobnpaa.KitS
attribute [local go_sem] max2_int min2_int max_two min_two max_three min_three max_four min_four   -- for this text's walks alone
set_option linter.unusedVariables false
set_option maxHeartbeats 8000000
set_option maxRecDepth 100000
set_option linter.unusedSimpArgs false

mutual
def spec_MendStripe.j0:Nat→List Int→Bool→List ByteArray→List ByteArray→Option (List ByteArray × List ByteArray × Bool)
 | 0,_,_,_,_=>none
 | k+1,x1,x34,x226000,x226001=>if x34=true then (some (([]:List ByteArray),([]:List ByteArray),false)) else ((spec_l6Own.f x226000 x226001).bind fun bt229=>(if (x1.length:Int)=0 then (some (bt229.1,bt229.2,true)) else (spec_MendStripe.l0 k x1 x1 (x1.length:Int) 0 bt229.1 bt229.2)))
def spec_MendStripe.l0:Nat→List Int→List Int→Int→Int→List ByteArray→List ByteArray→Option (List ByteArray × List ByteArray × Bool)
 | 0,_,_,_,_,_,_=>none
 | k+1,x1,x42,x43,x44,x226000,x226001=>if x44 < x43 then (if 0≤x44 then (if x44 < (x42.length:Int) then (if 0≤(rd x42 x44) then (if (rd x42 x44) < (x226000.length:Int) then (if 0≤((rdOf ByteArray.empty x226000 (rd x42 x44)).size:Int) then (if (((rdOf ByteArray.empty x226000 (rd x42 x44)).size:Int):Int).toNat≤281474976710656 then (spec_MendStripe.l0 k x1 x42 x43 (wrap64 (x44+1)) (x226000.set ((rd x42 x44):Int).toNat (strOfNums (List.replicate (((rdOf ByteArray.empty x226000 (rd x42 x44)).size:Int):Int).toNat 0))) x226001) else (none)) else (none)) else (none)) else (none)) else (none)) else (none)) else ((spec_l6Matrix.f k (x226000.length:Int) (x226001.length:Int)).bind fun t241=>((spec_l3Rows.f k t241 x226000).bind fun t245=>(if 0≤(x1.length:Int) then (if (x1.length:Int)≤(t245.length:Int) then ((some (t245.take ((x1.length:Int):Int).toNat:List ByteArray)).bind fun y248=>(spec_MendStripe.l1 k x1 ([]:List ByteArray) y248 (y248.length:Int) 0 x226000 x226001 t241)) else (none)) else (none))))
def spec_MendStripe.l1:Nat→List Int→List ByteArray→List ByteArray→Int→Int→List ByteArray→List ByteArray→List (List Int)→Option (List ByteArray × List ByteArray × Bool)
 | 0,_,_,_,_,_,_,_,_=>none
 | k+1,x1,x9,x74,x75,x76,x226000,x226001,x245000=>if x76 < x75 then (if 0≤x76 then (if x76 < (x74.length:Int) then (if x76 < (x226001.length:Int) then ((spec_l6Plus.f k (rdOf ByteArray.empty x74 x76) 1 (rdOf ByteArray.empty x226001 x76)).bind fun t255=>(if x9.length < 8796093022208 then (spec_MendStripe.l1 k x1 (x9 ++ [t255]) x74 x75 (wrap64 (x76+1)) x226000 x226001 x245000) else (none))) else (none)) else (none)) else (none)) else ((spec_l3All.f k (x1.length:Int)).bind fun t259=>((spec_l2Part.f k x245000 t259 x1).bind fun t262=>((spec_l2Inverse.f t262).bind fun bt265=>(if bt265.2=true then ((spec_l3Rows.f k bt265.1 x9).bind fun t270=>(spec_MendStripe.l2 k x1 t270 (t270.length:Int) 0 x226000 x226001)) else (some (([]:List ByteArray),([]:List ByteArray),false))))))
def spec_MendStripe.l2:Nat→List Int→List ByteArray→Int→Int→List ByteArray→List ByteArray→Option (List ByteArray × List ByteArray × Bool)
 | 0,_,_,_,_,_,_=>none
 | k+1,x1,x107,x108,x109,x226000,x226001=>if x109 < x108 then (if 0≤x109 then (if x109 < (x107.length:Int) then (if x109 < (x1.length:Int) then (if 0≤(rd x1 x109) then (if (rd x1 x109) < (x226000.length:Int) then (spec_MendStripe.l2 k x1 x107 x108 (wrap64 (x109+1)) (x226000.set ((rd x1 x109):Int).toNat (rdOf ByteArray.empty x107 x109)) x226001) else (none)) else (none)) else (none)) else (none)) else (none)) else (some (x226000,x226001,true))
end
def spec_MendStripe.f (k:Nat) (l0_0:List ByteArray) (l0_1:List ByteArray) (l1:List Int):Option (List ByteArray × List ByteArray × Bool):=(spec_GoodStripe.f k l0_0 l0_1).bind fun t227=>(if t227=true then ((spec_l1Some.f k l1 (l0_0.length:Int)).bind fun t228=>(if t228=true then (spec_MendStripe.j0 k l1 (decide ((l1.length:Int) > (l0_1.length:Int))) l0_0 l0_1) else (spec_MendStripe.j0 k l1 true l0_0 l0_1))) else (spec_MendStripe.j0 k l1 true l0_0 l0_1))
theorem spec_MendStripe.mono_l:∀ k,(∀ y0 y1 y2 y3,LeO (spec_MendStripe.j0 k y0 y1 y2 y3) (spec_MendStripe.j0 (k+1) y0 y1 y2 y3))∧(∀ y0 y1 y2 y3 y4 y5,LeO (spec_MendStripe.l0 k y0 y1 y2 y3 y4 y5) (spec_MendStripe.l0 (k+1) y0 y1 y2 y3 y4 y5))∧(∀ y0 y1 y2 y3 y4 y5 y6 y7,LeO (spec_MendStripe.l1 k y0 y1 y2 y3 y4 y5 y6 y7) (spec_MendStripe.l1 (k+1) y0 y1 y2 y3 y4 y5 y6 y7))∧(∀ y0 y1 y2 y3 y4 y5,LeO (spec_MendStripe.l2 k y0 y1 y2 y3 y4 y5) (spec_MendStripe.l2 (k+1) y0 y1 y2 y3 y4 y5))
 | 0=>⟨fun _ _ _ _ r h=>by simp [spec_MendStripe.j0] at h,fun _ _ _ _ _ _ r h=>by simp [spec_MendStripe.l0] at h,fun _ _ _ _ _ _ _ _ r h=>by simp [spec_MendStripe.l1] at h,fun _ _ _ _ _ _ r h=>by simp [spec_MendStripe.l2] at h⟩
 | k+1=>by
  obtain ⟨ih0,ih1,ih2,ih3⟩:=spec_MendStripe.mono_l k
  refine ⟨?_,?_,?_,?_⟩
  ·intro y0 y1 y2 y3
   unfold spec_MendStripe.j0
   exact mm
  ·intro y0 y1 y2 y3 y4 y5
   unfold spec_MendStripe.l0
   exact mm
  ·intro y0 y1 y2 y3 y4 y5 y6 y7
   unfold spec_MendStripe.l1
   exact mm
  intro y0 y1 y2 y3 y4 y5
  unfold spec_MendStripe.l2
  exact mm
theorem spec_MendStripe.mono:∀ a0 a1 a2 k,LeO (spec_MendStripe.f k a0 a1 a2) (spec_MendStripe.f (k+1) a0 a1 a2):=by
 intro a0 a1 a2 k
 obtain ⟨ih0,ih1,ih2,ih3⟩:=spec_MendStripe.mono_l k
 unfold spec_MendStripe.f
 exact mm
def spec_MendStripe.T18:Bool × List (List Nat × List Nat):=(true,[([],[]),([],[]),([1],[1]),([2],[2]),([],[]),([0,3,4,3],[0,3,4]),([5,5],[5]),([6],[6]),([7],[7]),([7],[7]),([],[]),([10,8,6,0,1,2,3,4,5,6,7,8,10],[8,10]),([9,11,0,1,2,3,4,5,6,7,8,9,10,11],[9])])
def spec_MendStripe.B18:List Nat:=[0,0,2,6,0,31,63,127,255,255,0,1535,4095]
theorem spec_MendStripe.tab18:rtab .any (opsOf Try.f16 18)=spec_MendStripe.T18:=by kernel_rfl
theorem spec_MendStripe.bits18:waitsOk spec_MendStripe.T18.2 spec_MendStripe.B18=true:=by kernel_rfl
def spec_MendStripe.T24:Bool × List (List Nat × List Nat):=(true,[([],[]),([0],[0]),([],[]),([],[]),([2,3],[2,3]),([4],[4]),([],[]),([1,5,0,1,2,3,4,5,6],[1,5]),([7,6,0,1,2,3,4,5,6],[6,7])])
def spec_MendStripe.B24:List Nat:=[0,1,0,0,12,28,0,127,255]
theorem spec_MendStripe.tab24:rtab .any (opsOf Try.f16 24)=spec_MendStripe.T24:=by kernel_rfl
theorem spec_MendStripe.bits24:waitsOk spec_MendStripe.T24.2 spec_MendStripe.B24=true:=by kernel_rfl
theorem spec_MendStripe.calls (k:Nat) (A0_0:Option Addr) (c0_0:Nat) (l0_0:List ByteArray) (A0_1:Option Addr) (c0_1:Nat) (l0_1:List ByteArray) (A1:Option Addr) (c1:Nat) (l1:List Int) (r1:List ByteArray) (r2:List ByteArray) (r3:Bool) (w:World) (hr0_0:Kd.C Kd.string w A0_0 l0_0.length l0_0) (hc0_0:l0_0.length≤c0_0) (hr0_1:Kd.C Kd.string w A0_1 l0_1.length l0_1) (hc0_1:l0_1.length≤c0_1) (hr1:Kd.C (Kd.int .i64) w A1 l1.length l1) (hc1:l1.length≤c1) (h:spec_MendStripe.f k l0_0 l0_1 l1=some (r1,r2,r3)) :
  Calls Try.prog 16 #[.agg #[.slice A0_0 l0_0.length c0_0, .slice A0_1 l0_1.length c0_1], .slice A1 l1.length c1] w fun e w'=>∃ v0_ v1_:Value,e = .returned (.tuple #[.agg #[v0_,v1_], .bool r3])∧Kd.R Kd.string 9 w' w.heap.size (fun k_=>some k_ ≠ (v1_:Value).ownBlock) v0_ r1∧Kd.R Kd.string 9 w' w.heap.size (fun k_=>some k_ ≠ (v0_:Value).ownBlock) v1_ r2∧Below w.heap.size w w':=by
 have hu27:=Try.underlying27
 have hu43:=Try.underlying43
 have HR0_0:=am hr0_0
 have HC0_0:=am hc0_0
 clear hr0_0 hc0_0
 have HR0_1:=am hr0_1
 have HC0_1:=am hc0_1
 clear hr0_1 hc0_1
 have HR1:=am hr1
 have HC1:=am hc1
 clear hr1 hc1
 have HB:=am (Below.refl w.heap.size w)
 have H:=h
 unfold spec_MendStripe.f at H
 clear h
 have HC3:=am H
 clear H
 go_enter Try.func16,Try.ntmps16
 go_upto_region 1 with (first|(refine gD 2 ?_;(try (refine gate_guard D10 ?_;dsimp only));refine gB (cs:=#[.slice A0_0 l0_0.length c0_0, .slice A0_1 l0_1.length c0_1]) 27 ?_;intro gb225 hg w4 hbox hb;have BK225:=am (hbox);have GW225:=ye HB hg;replace HB:=yH HB hb;have GE225:=GW225;clear hb hbox hg)|(refine gD 4 ?_;(try (refine gate_guard D10 ?_;dsimp only));refine gB (cs:=#[.slice none 0 0, .slice none 0 0]) 27 ?_;intro gb226 hg w5 hbox hb;have BK226:=am (hbox);have GW226:=ye HB hg;replace HB:=yH HB hb;have NB225_226:=yl BK225 hg;have NB226_225:=yg BK225 hg;replace BK225:=yb BK225 hb;have GE226:=GW226;clear hb hbox hg))
 (try simp only [Act.put,q1,q2,q3])
 go_cut [34] (fun v34 wc=>∃ (kq:Nat) (x34_2:Bool),v34 = .bool x34_2∧Aside0 (spec_MendStripe.j0 kq l1 x34_2 l0_0 l0_1=some (r1,r2,r3))∧Aside0 (kq≤k)∧Aside0 (wc.heap[gb225]? = some (.cells #[(.slice A0_0 l0_0.length c0_0),(.slice A0_1 l0_1.length c0_1)] 27 (0,0)))∧Aside0 (wc.heap[gb226]? = some (.cells #[(.slice none 0 0),(.slice none 0 0)] 27 (0,0)))∧Aside0 (Below w.heap.size w wc))
 case first =>
  have H:=HC3.out
  clear HC3
  obtain ⟨t227,A6,H⟩:=yo H
  by_cases c7:t227=true
  ·subst c7
   replace H:=yt H
   obtain ⟨t228,A8,H⟩:=yo H
   by_cases c9:t228=true
   ·subst c9
    replace H:=yt H
    have H':=am H
    clear H
    have hnb10:=NB225_226.out
    have hnc10:=NB226_225.out
    obtain ⟨hcz11_0,hcz11_1,hfz11_0,hfz11_1⟩:=yk2 BK225
    go_wp2_with (first|(refine gC 85 ?_;refine gM (some 17) Try.func85 (args:=#[.agg #[.slice A0_0 l0_0.length c0_0, .slice A0_1 l0_1.length c0_1]]) (spec_GoodStripe.calls k _ _ l0_0 _ _ l0_1 true _ (yc (Kd.C_below HR0_0.out HB.out)) HC0_0.out (yc (Kd.C_below HR0_1.out HB.out)) HC0_1.out A6.out) ?_;rintro e w12 ⟨rfl,hb⟩;refine ⟨_,rfl,?_⟩;replace BK225:=yb BK225 hb;replace BK226:=yb BK226 hb;replace HB:=yH HB hb;clear hb;obtain ⟨hcz13_0,hcz13_1,hfz13_0,hfz13_1⟩:=yk2 BK225)|(go_at_call 86;(with_reducible refine (spec_l1Some.calls k _ _ l1 (l0_0.length:Int) true _ (yc (Kd.C_below HR1.out HB.out)) HC1.out A8.out).mono ?_);rintro e w' ⟨rfl,⟨nd,rfl⟩⟩))
    go_meet
    case rel=>exact ⟨_,(decide ((l1.length:Int) > (l0_1.length:Int))),D1,H',⟨D62⟩,⟨yB BK225⟩,⟨yB BK226⟩,⟨yW HB⟩⟩
   replace c9:=Bool.eq_false_iff.mpr c9
   subst c9
   replace H:=yn H
   have H':=am H
   clear H
   have hnb14:=NB225_226.out
   have hnc14:=NB226_225.out
   obtain ⟨hcz15_0,hcz15_1,hfz15_0,hfz15_1⟩:=yk2 BK225
   go_wp2_with (first|(refine gC 85 ?_;refine gM (some 17) Try.func85 (args:=#[.agg #[.slice A0_0 l0_0.length c0_0, .slice A0_1 l0_1.length c0_1]]) (spec_GoodStripe.calls k _ _ l0_0 _ _ l0_1 true _ (yc (Kd.C_below HR0_0.out HB.out)) HC0_0.out (yc (Kd.C_below HR0_1.out HB.out)) HC0_1.out A6.out) ?_;rintro e w16 ⟨rfl,hb⟩;refine ⟨_,rfl,?_⟩;replace BK225:=yb BK225 hb;replace BK226:=yb BK226 hb;replace HB:=yH HB hb;clear hb;obtain ⟨hcz17_0,hcz17_1,hfz17_0,hfz17_1⟩:=yk2 BK225)|(go_at_call 86;(with_reducible refine (spec_l1Some.calls k _ _ l1 (l0_0.length:Int) false _ (yc (Kd.C_below HR1.out HB.out)) HC1.out A8.out).mono ?_);rintro e w' ⟨rfl,⟨nd,rfl⟩⟩))
   go_meet
   case rel=>exact ⟨_,(true),D1,H',⟨D62⟩,⟨yB BK225⟩,⟨yB BK226⟩,⟨yW HB⟩⟩
  replace c7:=Bool.eq_false_iff.mpr c7
  subst c7
  replace H:=yn H
  have H':=am H
  clear H
  have hnb18:=NB225_226.out
  have hnc18:=NB226_225.out
  obtain ⟨hcz19_0,hcz19_1,hfz19_0,hfz19_1⟩:=yk2 BK225
  go_wp2_with (first|(refine gC 85 ?_;refine gM (some 17) Try.func85 (args:=#[.agg #[.slice A0_0 l0_0.length c0_0, .slice A0_1 l0_1.length c0_1]]) (spec_GoodStripe.calls k _ _ l0_0 _ _ l0_1 false _ (yc (Kd.C_below HR0_0.out HB.out)) HC0_0.out (yc (Kd.C_below HR0_1.out HB.out)) HC0_1.out A6.out) ?_;rintro e w20 ⟨rfl,hb⟩;refine ⟨_,rfl,?_⟩;replace BK225:=yb BK225 hb;replace BK226:=yb BK226 hb;replace HB:=yH HB hb;clear hb))
  go_meet
  case rel=>exact ⟨_,(true),D1,H',⟨D62⟩,⟨yB BK225⟩,⟨yB BK226⟩,⟨yW HB⟩⟩
 case rest =>
  clear HC3
  try clear c1
  try clear p2
  try clear c7
  try clear c8
  try clear c9
  try clear c10
  try clear c14
  try clear c16
  try clear c18
  try clear hcz11_0
  try clear hcz11_1
  try clear hcz13_0
  try clear hcz13_1
  try clear hcz15_0
  try clear hcz15_1
  try clear hcz17_0
  try clear hcz17_1
  try clear hcz19_0
  try clear hcz19_1
  try clear hfz11_0
  try clear hfz11_1
  try clear hfz13_0
  try clear hfz13_1
  try clear hfz15_0
  try clear hfz15_1
  try clear hfz17_0
  try clear hfz17_1
  try clear hfz19_0
  try clear hfz19_1
  obtain ⟨kq,x34_2,rfl,HA,HJ2,BK225,BK226,HB⟩:=hcut
  cases kq with
  | zero=>exact absurd HA.out (by simp [spec_MendStripe.j0])
  | succ kj2 =>
   have H:=HA.out
   clear HA
   simp only [spec_MendStripe.j0] at H
   by_cases c21:x34_2=true
   ·subst c21
    replace H:=yt H
    simp only [Option.some.injEq,Prod.mk.injEq] at H
    obtain ⟨rfl,rfl,rfl⟩:=H
    have hnb22:=NB226_225.out
    have hnc22:=NB225_226.out
    obtain ⟨hcz23_0,hcz23_1,hfz23_0,hfz23_1⟩:=yk2 BK226
    go_wp2
    refine bodyPost_ret (results_ct rfl _ _ gb226 27 #[.slice none 0 0, .slice none 0 0] (0,0) _ rfl (by refine sB ?_;refine blk_put (cs:=#[.slice none 0 0, .slice none 0 0]) ?_ 1 _ rfl;refine sB ?_;refine blk_put (cs:=#[.slice none 0 0, .slice none 0 0]) ?_ 0 _ rfl;exact yB BK226) Try.underlying27 rfl D2) rfl ?_
    exact ⟨_,_,D3,D9,D9,yW HB⟩
   replace c21:=Bool.eq_false_iff.mpr c21
   subst c21
   replace H:=yn H
   obtain ⟨⟨t229,t232⟩,A24,H⟩:=yo H
   try dsimp only at H
   by_cases c25:(l1.length:Int)=0
   ·rw [if_pos c25] at H
    have c25b0:((l1.length:Int) == 0)=true:=beq_iff_eq.mpr c25
    have c25b1:((l1.length:Int) != 0)=false:=bne_eq_false_iff_eq.mpr c25
    clear c25
    simp only [Option.some.injEq,Prod.mk.injEq] at H
    obtain ⟨rfl,rfl,rfl⟩:=H
    have hnb26:=NB225_226.out
    have hnc26:=NB226_225.out
    obtain ⟨hcz27_0,hcz27_1,hfz27_0,hfz27_1⟩:=yk2 BK225
    go_wp2_with (first|(refine gC 87 ?_;refine gM (some 37) Try.func87 (args:=#[.agg #[.slice A0_0 l0_0.length c0_0, .slice A0_1 l0_1.length c0_1]]) (spec_l6Own.calls _ _ l0_0 _ _ l0_1 t229 t232 _ (yc (Kd.C_below HR0_0.out HB.out)) HC0_0.out (yc (Kd.C_below HR0_1.out HB.out)) HC0_1.out A24.out) ?_;rintro e w28 ⟨v230,v233,rfl,ho0,ho1,hb⟩;refine ⟨_,rfl,?_⟩;have HO231:=am (Kd.R_lower ho0 (pz (yW HB)));have HO234:=am (Kd.R_lower ho1 (pz (yW HB)));replace BK225:=yb BK225 hb;replace BK226:=yb BK226 hb;replace HB:=yH HB hb;clear hb ho0 ho1;obtain ⟨Ao29,co29,eo29⟩:=Kd.R_slice HO231.out;subst eo29;obtain ⟨hcz30_0,hcz30_1,hfz30_0,hfz30_1⟩:=yk2 BK225;obtain ⟨Ao31,co31,eo31⟩:=Kd.R_slice HO234.out;subst eo31;obtain ⟨hcz32_0,hcz32_1,hfz32_0,hfz32_1⟩:=yk2 BK226))
    refine bodyPost_ret (results_ct rfl _ _ gb226 27 #[.slice Ao29 t229.length co29, .slice Ao31 t232.length co31] (0,0) _ rfl (by refine sB ?_;refine blk_put (cs:=#[.slice Ao29 t229.length co29, .slice none 0 0]) ?_ 1 _ rfl;refine sB ?_;refine blk_put (cs:=#[.slice none 0 0, .slice none 0 0]) ?_ 0 _ rfl;exact yF BK226) Try.underlying27 rfl D2) rfl ?_
    exact ⟨_,_,D3,by refine sR ?_;exact Kd.R_mono (Kd.R_far (p:=⟨gb226,1,none⟩) (Kd.R_far (p:=⟨gb226,0,none⟩) (Kd.R_far (p:=⟨gb225,1,none⟩) (Kd.R_far (p:=⟨gb225,0,none⟩) (Kd.R_types (Kd.R_types HO231.out BK225.out D6) BK226.out D6) (fun _ hk=>hk.1.2) (.slice Ao29 t229.length co29)) (fun _ hk=>hk.1.2) (.slice Ao31 t232.length co31)) (fun _ hk=>hk.2) (.slice Ao29 t229.length co29)) (fun _ hk=>hk.2) (.slice Ao31 t232.length co31)) (fun _ hk=>hk.1.1),by refine sR ?_;exact Kd.R_mono (Kd.R_far (p:=⟨gb226,1,none⟩) (Kd.R_far (p:=⟨gb226,0,none⟩) (Kd.R_far (p:=⟨gb225,1,none⟩) (Kd.R_far (p:=⟨gb225,0,none⟩) (Kd.R_types (Kd.R_types HO234.out BK225.out D6) BK226.out D6) (fun _ hk=>hk.1.2) (.slice Ao29 t229.length co29)) (fun _ hk=>hk.1.2) (.slice Ao31 t232.length co31)) (fun _ hk=>hk.2) (.slice Ao29 t229.length co29)) (fun _ hk=>hk.2) (.slice Ao31 t232.length co31)) (fun _ hk=>hk.1.1),yW HB⟩
   rw [if_neg c25] at H
   have c25b0:((l1.length:Int) == 0)=false:=beq_eq_false_iff_ne.mpr c25
   have c25b1:((l1.length:Int) != 0)=true:=bne_iff_ne.mpr c25
   have c25b2:¬ (l1=[]):=fun h_=>c25 (by rw [h_];rfl)
   have H':=am H
   clear H
   have hnb33:=NB225_226.out
   have hnc33:=NB226_225.out
   obtain ⟨hcz34_0,hcz34_1,hfz34_0,hfz34_1⟩:=yk2 BK225
   go_wp2_with (first|(refine gC 87 ?_;refine gM (some 37) Try.func87 (args:=#[.agg #[.slice A0_0 l0_0.length c0_0, .slice A0_1 l0_1.length c0_1]]) (spec_l6Own.calls _ _ l0_0 _ _ l0_1 t229 t232 _ (yc (Kd.C_below HR0_0.out HB.out)) HC0_0.out (yc (Kd.C_below HR0_1.out HB.out)) HC0_1.out A24.out) ?_;rintro e w35 ⟨v230,v233,rfl,ho0,ho1,hb⟩;refine ⟨_,rfl,?_⟩;have HO231:=am (Kd.R_lower ho0 (pz (yW HB)));have HO234:=am (Kd.R_lower ho1 (pz (yW HB)));replace BK225:=yb BK225 hb;replace BK226:=yb BK226 hb;replace HB:=yH HB hb;clear hb ho0 ho1;obtain ⟨Ao36,co36,eo36⟩:=Kd.R_slice HO231.out;subst eo36;obtain ⟨hcz37_0,hcz37_1,hfz37_0,hfz37_1⟩:=yk2 BK225;obtain ⟨Ao38,co38,eo38⟩:=Kd.R_slice HO234.out;subst eo38))
   go_loopg [44] kj2 (fun kq v44 w'=>∃ (x44_2:Int) (x226000_2:List ByteArray) (x226001_2:List ByteArray) (u226000:Value) (u226001:Value),v44 = .int .i64 x44_2∧Aside0 (spec_MendStripe.l0 kq l1 l1 (l1.length:Int) x44_2 x226000_2 x226001_2=some (r1,r2,r3))∧Aside0 (kq≤kj2)∧Aside0 (Kd.R Kd.string 9 w' w.heap.size (fun k_=>some k_ ≠ (u226001:Value).ownBlock) u226000 x226000_2)∧Aside0 (Kd.R Kd.string 9 w' w.heap.size (fun k_=>some k_ ≠ (u226000:Value).ownBlock) u226001 x226001_2)∧Aside0 (w'.heap[gb225]? = some (.cells #[u226000,u226001] 27 (0,0)))∧Aside0 (w'.heap[gb226]? = some (.cells #[(.slice none 0 0),(.slice none 0 0)] 27 (0,0)))∧Aside0 (Below w.heap.size w w'))
   case atStart=>exact ⟨(0),(t229),(t232),(.slice Ao36 t229.length co36),(.slice Ao38 t232.length co38),D1,H',⟨Nat.le_refl _⟩,⟨by refine sR ?_;exact Kd.R_mono (Kd.R_far (p:=⟨gb225,1,none⟩) (Kd.R_far (p:=⟨gb225,0,none⟩) (Kd.R_types HO231.out BK225.out D6) (fun _ hk=>hk.2) (.slice Ao36 t229.length co36)) (fun _ hk=>hk.2) (.slice Ao38 t232.length co38)) (fun _ hk=>hk.1)⟩,⟨by refine sR ?_;exact Kd.R_mono (Kd.R_far (p:=⟨gb225,1,none⟩) (Kd.R_far (p:=⟨gb225,0,none⟩) (Kd.R_types HO234.out BK225.out D6) (fun _ hk=>hk.2) (.slice Ao36 t229.length co36)) (fun _ hk=>hk.2) (.slice Ao38 t232.length co38)) (fun _ hk=>hk.1)⟩,⟨by refine sB ?_;refine blk_put (cs:=#[.slice Ao36 t229.length co36, .slice A0_1 l0_1.length c0_1]) ?_ 1 _ rfl;refine sB ?_;refine blk_put (cs:=#[.slice A0_0 l0_0.length c0_0, .slice A0_1 l0_1.length c0_1]) ?_ 0 _ rfl;exact yB BK225⟩,⟨yF BK226⟩,⟨yW HB⟩⟩
   case round =>
    clear H'
    try clear c1
    try clear c2
    try clear p2
    try clear c3
    try clear c7
    try clear c8
    try clear c9
    try clear c10
    try clear c14
    try clear c16
    try clear c18
    try clear c21
    try clear c22
    try clear c25
    try clear c25b0
    try clear c25b1
    try clear c25b2
    try clear c26
    try clear c33
    try clear hcz11_0
    try clear hcz11_1
    try clear hcz13_0
    try clear hcz13_1
    try clear hcz15_0
    try clear hcz15_1
    try clear hcz17_0
    try clear hcz17_1
    try clear hcz19_0
    try clear hcz19_1
    try clear hcz23_0
    try clear hcz23_1
    try clear hcz27_0
    try clear hcz27_1
    try clear hcz30_0
    try clear hcz30_1
    try clear hcz32_0
    try clear hcz32_1
    try clear hcz34_0
    try clear hcz34_1
    try clear hcz37_0
    try clear hcz37_1
    try clear hfz11_0
    try clear hfz11_1
    try clear hfz13_0
    try clear hfz13_1
    try clear hfz15_0
    try clear hfz15_1
    try clear hfz17_0
    try clear hfz17_1
    try clear hfz19_0
    try clear hfz19_1
    try clear hfz23_0
    try clear hfz23_1
    try clear hfz27_0
    try clear hfz27_1
    try clear hfz30_0
    try clear hfz30_1
    try clear hfz32_0
    try clear hfz32_1
    try clear hfz34_0
    try clear hfz34_1
    try clear hfz37_0
    try clear hfz37_1
    try clear p2
    try clear HO_226000
    try clear HO_226001
    try clear BK225
    try clear BK226
    try clear HB
    obtain ⟨x44_2,x226000_2,x226001_2,u226000,u226001,rfl,HA,HK2,HO_226000,HO_226001,BK225,BK226,HB⟩:=hrel
    cases gk with
    | zero=>exact absurd HA.out (by simp [spec_MendStripe.l0])
    | succ k2 =>
     have H:=HA.out
     clear HA
     simp only [spec_MendStripe.l0] at H
     by_cases c39:x44_2 < (l1.length:Int)
     ·rw [if_pos c39] at H
      have c39b0:=decide_eq_true c39
      clear c39
      by_cases c40:0≤x44_2
      ·rw [if_pos c40] at H
       have c40b0:=decide_eq_true c40
       clear c40
       by_cases c41:x44_2 < (l1.length:Int)
       ·rw [if_pos c41] at H
        have c41b0:=decide_eq_true c41
        clear c41
        by_cases c42:0≤(rd l1 x44_2)
        ·rw [if_pos c42] at H
         have c42b0:=decide_eq_true c42
         clear c42
         by_cases c43:(rd l1 x44_2) < (x226000_2.length:Int)
         ·rw [if_pos c43] at H
          have c43b0:=decide_eq_true c43
          clear c43
          by_cases c44:0≤((rdOf ByteArray.empty x226000_2 (rd l1 x44_2)).size:Int)
          ·rw [if_pos c44] at H
           have c44b0:=eq_true c44
           have c44b1:decide (0≤((rdOf ByteArray.empty x226000_2 (rd l1 x44_2)).size:Int))=true:=decide_eq_true c44
           clear c44
           by_cases c45:(((rdOf ByteArray.empty x226000_2 (rd l1 x44_2)).size:Int):Int).toNat≤281474976710656
           ·rw [if_pos c45] at H
            have c45b0:=eq_true c45
            have c45b1:decide ((((rdOf ByteArray.empty x226000_2 (rd l1 x44_2)).size:Int):Int).toNat≤281474976710656)=true:=decide_eq_true c45
            clear c45
            generalize hy237:(List.replicate (((rdOf ByteArray.empty x226000_2 (rd l1 x44_2)).size:Int):Int).toNat 0:List Int)=y237 at H
            have Ny237:=am hy237.symm
            clear hy237
            generalize hy240:(x226000_2.set ((rd l1 x44_2):Int).toNat (strOfNums y237):List ByteArray)=y240 at H
            have Ny240:=am hy240.symm
            clear hy240
            have H':=am H
            clear H
            have p235:0≤(x44_2:Int):=od D0
            have q235:x44_2 < (l1.length:Int):=od D0
            obtain ⟨ad235,e235,hx235_0⟩:=Kd.at_int HR1.out x44_2 p235 q235
            cases e235
            replace hx235_0:=(HB.out.cell (World.block_lt_of_cell? w _ hx235_0)).trans hx235_0
            replace p235:=eq_true p235
            replace q235:=eq_true q235
            have hnb47:=NB225_226.out
            have hnc47:=NB226_225.out
            obtain ⟨hcz48_0,hcz48_1,hfz48_0,hfz48_1⟩:=yk2 BK225
            obtain ⟨Ao49,co49,eo49⟩:=Kd.R_slice HO_226000.out
            subst eo49
            have p236:0≤((rd l1 x44_2):Int):=od D0
            have q236:(rd l1 x44_2) < (x226000_2.length:Int):=od D0
            obtain ⟨ad236,e236,hx236_0⟩:=Kd.at_string (Kd.R_reads' HO_226000.out).2.2 (rd l1 x44_2) p236 q236
            cases e236
            replace p236:=eq_true p236
            replace q236:=eq_true q236
            go_wp2_with (fail)
            have n0_:=am (Kd.R_drew HO_226000.out)
            have n1_:=am (Kd.R_drew HO_226001.out)
            have n2_:=am (qd BK225.out)
            have n3_:=am (qd BK226.out)
            have n4_:=am (pd HB.out)
            clear HO_226000;clear HO_226001;clear BK225;clear BK226;clear HB;have HO_226000:=n0_;have HO_226001:=n1_;have BK225:=n2_;have BK226:=n3_;have HB:=n4_;clear n0_ n1_ n2_ n3_ n4_
            refine KitR.rS (n:=13) (B:=[0,0,0,0,0,0,0,0,0,0,0,0,4095]) (S:=fun w'=>w'.cell? ⟨gb225,0,none⟩=some (.slice (some ad236) x226000_2.length co49)∧w'.cell? (ad236.add ((rd l1 x44_2):Int).toNat)=some (.string (rdOf ByteArray.empty x226000_2 (rd l1 x44_2)))) (ds:=[12]) [(0,48),(1,49),(2,50),(3,51),(4,52),(5,53),(6,54),(7,55),(8,56),(9,57),(10,58),(11,59),(12,0)] D2 rfl rfl D2 ⟨hcz48_0,hx236_0⟩ (fun hHeld HT_ HW_=>?_)
            clear hcz48_0 hx236_0
            generalize wr.drew=wd_ at HO_226000 HO_226001 BK225 BK226 HB hHeld ⊢
            refine KitR.rR ?_
            refine KitR.rO (N:=some 57) HT_ rfl rfl D2 D6 (fun K hK=>?_)
            refine Kd.R_make_step (Kd.int .u8) _ 5 D10 (N:=57) rfl 57 _ _ rfl ((rdOf ByteArray.empty x226000_2 (rd l1 x44_2)).size:Int) rfl rfl Try.underlying57 (.int .u8 0) 1 info5 rfl D6 D8 0 (ok:=fun _=>True) (okp:=fun _=>True) rfl (fun _ hk=>hk) trivial (od D0) (Nat.le_trans (Nat.mul_le_mul_right _ (od D0:((rdOf ByteArray.empty x226000_2 (rd l1 x44_2)).size:Int).toNat≤281474976710656)) D8) (Below.refl _ _) (Nat.le_refl _) ?_
            intro v238 w50 ho51 hb hg_ hnew_
            have hHx_:=hHeld
            clear hg_ hnew_
            (first|rw [← Ny237.out] at ho51|(simp only [Int.reduceToNat] at ho51;rw [← Ny237.out] at ho51))
            replace HO_226000:=bR HO_226000 hb
            replace HO_226001:=bR HO_226001 hb
            have HO239:=am (Kd.R_lower ho51 (pz (yW HB)))
            replace BK225:=yb BK225 hb
            replace BK226:=yb BK226 hb
            replace HB:=yH HB hb
            refine hK.out _ _ ⟨pw_cell_below hb hHx_.1,pw_cell_below hb hHx_.2⟩ (fun hHeld=>?_)
            clear hK K hHx_
            clear hb ho51
            refine KitR.rN (a':=?_) ?_ ?_
            rotate_left
            ·simp only [Act.put,q1,q2,q3,i64_w,i32_w]
             rfl
            have hcv52:=own_string (P:=Try.prog) Try.underlying57 Try.underlying5 Try.underlying9 (Kd.own_of_R HO239.out)
            refine KitR.rO (N:=some 58) HT_ rfl rfl D2 D6 (fun K hK=>?_)
            refine value_ (v:=.string (strOfNums y237)) (w1:=w50) D10 rfl ?run ?_
            case run=>first|(go_simp;done)|(go_simp;rfl)
            refine hK.out _ _ hHeld (fun hHeld=>?_)
            clear hK K
            refine KitR.rN (a':=?_) ?_ ?_
            rotate_left
            ·simp only [Act.put,q1,q2,q3,i64_w,i32_w]
             rfl
            have hx236_0:=hHeld.2
            have p46:0≤((rd l1 x44_2):Int):=od D0
            have q46:((rd l1 x44_2):Int) < ((x226000_2.length:Int):Int):=od D0
            obtain ⟨go46,co46,eo46,gb46,gl46,cl46,HG46⟩:=Kd.R_form HO_226000.out D8
            (first|cases eo46|(injection eo46 with ea_ en_ ec_;(first|subst ea_|(injection ea_ with ea_;subst ea_));subst ec_;clear en_))
            have GB46:=am gb46
            have GG46:=am HG46
            clear gb46 gl46 HG46
            (first|simp only [add_plain] at hx236_0|skip)
            obtain ⟨hx46_0,hf46_0⟩:=Kd.R_celln (⟨#[]⟩:ByteArray) HO_226000.out ((rd l1 x44_2):Int) p46 q46
            replace p46:=eq_true p46
            replace q46:=eq_true q46
            obtain ⟨hy53_,hz53_⟩:=Kd.R_celln (⟨#[]⟩:ByteArray) HO_226000.out ((rd l1 x44_2):Int) (od D0) (od D0)
            have HP53:=Kd.R_putg HO_226000.out ((rd l1 x44_2):Int) (strOfNums y237)
            refine KitR.rR ?_
            refine KitR.rL (N:=none) HT_ rfl rfl D2 D6 (fun K hK=>?_)
            refine skip_ (w1:=?_) D10 rfl ?_ ?_
            rotate_left
            ·go_simp
             rfl
            refine hK.out _ _ ?_
            clear hK K
            refine KitR.rD HT_ D2 ?_
            clear hHeld
            obtain ⟨w54,hw⟩:∃ W_:World,W_=(w50.setCell ⟨go46,((rd l1 x44_2):Int).toNat,none⟩ (.string (strOfNums y237))):=⟨_,rfl⟩
            rw [← hw]
            have hg:w50.grownBy w54 (some go46):=(by rw [hw];exact HP53.2)
            have hp_:Kd.R Kd.string 9 w54 w.heap.size (fun k_=>some k_ ≠ (u226001:Value).ownBlock) (.slice (some ⟨go46,0,none⟩) x226000_2.length co49) y240:=(by rw [hw,Ny240.out];exact HP53.1)
            clear HP53
            replace HO_226001:=am (Kd.R_after (v:=(.slice (some ⟨go46,0,none⟩) x226000_2.length co49)) (v1:=(.slice (some ⟨go46,0,none⟩) x226000_2.length co49)) (ok:=(fun _=>True)) (by refine sR ?_;exact Kd.R_mono HO_226001.out (fun _ hk=>⟨trivial,hk⟩)) hg (.inl rfl))
            replace BK225:=am (blk_grown (g:=gb225) (o:=.cells #[.slice (some ⟨go46,0,none⟩) x226000_2.length co49,u226001] 27 (0,0)) (yB BK225) hg (Kd.R_ne HO_226000.out BK225.out D6))
            replace BK226:=am (blk_grown (g:=gb226) (o:=.cells #[.slice none 0 0, .slice none 0 0] 27 (0,0)) (yB BK226) hg (Kd.R_ne HO_226000.out BK226.out D6))
            replace HO239:=am (Kd.R_over' (v:=(.slice (some ⟨go46,0,none⟩) x226000_2.length co49)) (yR HO239) (Kd.R_typed HO_226000.out) D6 hg)
            replace HO_226000:=am (hp_)
            replace HB:=am ((by rw [hw];exact pt (HB.out) GB46.out:Below w.heap.size w w54))
            clear hg hw hp_
            go_wp2
            go_roundg k2
            case measure=>have:=HJ2.out;have:=HK2.out;omega
            case rel=>exact ⟨(wrap64 (x44_2+1)),(y240),(x226001_2),(.slice (some ⟨go46,0,none⟩) x226000_2.length co49),(u226001),D1,H',⟨by have:=HJ2.out;have:=HK2.out;omega⟩,⟨yR HO_226000⟩,⟨by refine sR ?_;exact Kd.R_mono HO_226001.out (fun _ hk=>hk.2)⟩,⟨yB BK225⟩,⟨yB BK226⟩,⟨yW HB⟩⟩
           rw [if_neg c45] at H
           exact absurd H D38
          rw [if_neg c44] at H
          exact absurd H D38
         rw [if_neg c43] at H
         exact absurd H D38
        rw [if_neg c42] at H
        exact absurd H D38
       rw [if_neg c41] at H
       exact absurd H D38
      rw [if_neg c40] at H
      exact absurd H D38
     rw [if_neg c39] at H
     have c39b0:=decide_eq_false c39
     clear c39
     obtain ⟨t241,A55,H⟩:=yo H
     obtain ⟨t245,A56,H⟩:=yo H
     by_cases c57:0≤(l1.length:Int)
     ·rw [if_pos c57] at H
      have c57b0:=eq_true c57
      have c57b1:decide (0≤(l1.length:Int))=true:=decide_eq_true c57
      clear c57
      by_cases c58:(l1.length:Int)≤(t245.length:Int)
      ·rw [if_pos c58] at H
       have c58b0:=eq_true c58
       have c58b1:decide ((l1.length:Int)≤(t245.length:Int))=true:=decide_eq_true c58
       clear c58
       obtain ⟨y248,hy248,H⟩:=ys H
       have Ny248:=am hy248
       clear hy248
       have H':=am H
       clear H
       have hnb59:=NB225_226.out
       have hnc59:=NB226_225.out
       obtain ⟨hcz60_0,hcz60_1,hfz60_0,hfz60_1⟩:=yk2 BK225
       obtain ⟨Ao61,co61,eo61⟩:=Kd.R_slice HO_226000.out
       subst eo61
       obtain ⟨Ao62,co62,eo62⟩:=Kd.R_slice HO_226001.out
       subst eo62
       go_wp2_with (first|(refine gC 88 ?_;refine gM (some 67) Try.func88 (args:=#[.int .i64 (x226000_2.length:Int), .int .i64 (x226001_2.length:Int)]) (spec_l6Matrix.calls k2 (x226000_2.length:Int) (x226001_2.length:Int) t241 _ A55.out) ?_;rintro e w63 ⟨v242,rfl,ho0,hb⟩;refine ⟨_,rfl,?_⟩;have HO243:=am (Kd.N_lower (Kd.N_mono (ok':=fun k_=>some k_ ≠ (.slice Ao61 x226000_2.length co61:Value).ownBlock∧some k_ ≠ (.slice Ao62 x226001_2.length co62:Value).ownBlock∧k_ ≠ gb225∧k_ ≠ gb226) (Kd.S_N (Kd.S_bound ho0)) (fun k_ hk_=>⟨(Kd.fresh' (Kd.R_lt (yR HO_226000)) k_ hk_.2.1),(Kd.fresh' (Kd.R_lt (yR HO_226001)) k_ hk_.2.1),(yz BK225 k_ hk_.2.1),(yz BK226 k_ hk_.2.1)⟩)) (pz (yW HB)));replace HO_226000:=bR HO_226000 hb;replace HO_226001:=bR HO_226001 hb;replace BK225:=yb BK225 hb;replace BK226:=yb BK226 hb;replace HB:=yH HB hb;clear hb ho0)|(refine gD 8 ?_;(try (refine gate_guard D10 ?_;dsimp only));refine gB (cs:=#[.slice none 0 0]) 43 ?_;intro gb244 hg w64 hbox hb;replace HO_226000:=bR HO_226000 hb;replace HO_226001:=bR HO_226001 hb;replace HO243:=oN HO243 hg hb;have BK244:=am (hbox);have GW244:=ye HB hg;replace HB:=yH HB hb;have NB225_244:=yl BK225 hg;have NB244_225:=yg BK225 hg;replace BK225:=yb BK225 hb;have NB226_244:=yl BK226 hg;have NB244_226:=yg BK226 hg;replace BK226:=yb BK226 hb;have GE244:=GW244;clear hb hbox hg;obtain ⟨Ao65,co65,eo65⟩:=Kd.N_slice HO243.out;subst eo65;have hnb66:=NB244_225.out;have hnc66:=NB225_244.out;have hnb67:=NB244_226.out;have hnc67:=NB226_244.out;obtain ⟨hcz68_0,hfz68_0⟩:=yk1 BK244;obtain ⟨hcz69_0,hcz69_1,hfz69_0,hfz69_1⟩:=yk2 BK225)|(refine gC 89 ?_;refine gM (some 71) Try.func89 (args:=#[.agg #[.slice Ao65 t241.length co65], .slice Ao61 x226000_2.length co61]) (spec_l3Rows.calls k2 _ _ t241 _ _ x226000_2 t245 _ ?side1 ?side2 ?side3 ?side4 A56.out) ?_;(case side1=>refine (Kd.N_reads' (e:=57) (base:=w.heap.size) (ok:=fun k_=>((some k_ ≠ (.slice Ao61 x226000_2.length co61:Value).ownBlock∧(some k_ ≠ (.slice Ao62 x226001_2.length co62:Value).ownBlock∧(k_ ≠ gb225∧k_ ≠ gb226)))∧k_ ≠ gb244)) (n:=t241.length) (c:=co65) ?_).2.2;exact D52);(case side2=>exact (Kd.N_reads' HO243.out).2.1);(case side3=>refine (Kd.R_reads' (e:=9) (base:=w.heap.size) (ok:=fun k_=>some k_ ≠ (.slice Ao62 x226001_2.length co62:Value).ownBlock) (n:=x226000_2.length) (c:=co61) ?_).2.2;exact D22);(case side4=>exact (Kd.R_reads' HO_226000.out).2.1);rintro e w70 ⟨v246,rfl,ho0,hb⟩;refine ⟨_,rfl,?_⟩;replace HO243:=am (Kd.N_elder' D52 (Kd.R_base ho0) hb);have HO247:=am (Kd.R_lower (Kd.R_new' (Kd.R_new' ho0 (Kd.R_lt D22)) (Kd.R_lt D57)) (pz (yW HB)));replace HO_226000:=am (Kd.R_elder' D22 (Kd.R_base ho0) hb);replace HO_226001:=am (Kd.R_elder' D57 (Kd.R_base ho0) hb);replace BK225:=am (qb (g:=gb225) (o:=.cells #[.slice Ao61 x226000_2.length co61, .slice Ao62 x226001_2.length co62] 27 (0,0)) (yF BK225) hb);replace BK226:=am (qb (g:=gb226) (o:=.cells #[.slice none 0 0, .slice none 0 0] 27 (0,0)) (yF BK226) hb);replace BK244:=am (qb (g:=gb244) (o:=.cells #[.slice Ao65 t241.length co65] 43 (0,0)) (by refine sB ?_;refine blk_put (cs:=#[.slice none 0 0]) ?_ 0 _ rfl;exact yB BK244) hb);replace HB:=yH HB hb;clear hb ho0;obtain ⟨Ao72,co72,eo72⟩:=Kd.R_slice HO247.out;subst eo72;have q71:((l1.length:Int):Int)≤((t245.length:Int):Int):=od D0;obtain ⟨i071,hi071,_,hsz71,_⟩:=info_parts info9;have hroom71:t245.length≤co72:=(Kd.R_reads' HO247.out).2.1;have hC71:Kd.F Kd.string _ _ Ao72 t245.length t245:=(Kd.V_at (base:=w.heap.size) (Kd.R_V (Kd.R_types (Kd.R_types (Kd.R_types (Kd.R_apart' (HO247.out) (Kd.N_typed HO243.out) D6) BK225.out D6) BK226.out D6) BK244.out D6))).2.2;have hcut71:=cut_to (P:=Try.prog) 22 9 .i64 Try.underlying22 hi071 Ao72 t245.length co72 (l1.length:Int) (od D0) q71 hroom71;have hr71:=Kd.F_take (m:=((l1.length:Int):Int).toNat) hC71 D8;have hy71:y248.length=((l1.length:Int):Int).toNat:=(by rw [Ny248.out,List.length_take];omega);rw [← Ny248.out] at hr71;rw [← hy71] at hcut71;have HO252:=am (show Kd.V Kd.string 9 _ w.heap.size _ (.slice Ao72 y248.length co72) y248 from Kd.V_mk D8 hr71);have HC252:=am (show y248.length≤co72 from by omega);clear hr71 hC71 hroom71 hi071 hsz71;have KY71:=am hy71;clear hy71;replace q71:=eq_true q71))
       go_loopg [9,76] k2 (fun kq v9 v76 w'=>∃ (x9_3:List ByteArray) (x76_3:Int),v76 = .int .i64 x76_3∧Aside0 (spec_MendStripe.l1 kq l1 x9_3 y248 (y248.length:Int) x76_3 x226000_2 x226001_2 t241=some (r1,r2,r3))∧Aside0 (kq≤k2)∧Aside0 (Kd.R Kd.string 9 w' w.heap.size (fun k_=>some k_ ≠ ((.slice Ao61 x226000_2.length co61):Value).ownBlock∧some k_ ≠ ((.slice Ao62 x226001_2.length co62):Value).ownBlock) v9 x9_3)∧Aside0 (Kd.V Kd.string 9 w' w.heap.size (fun k_=>some k_ ≠ (v9:Value).ownBlock∧some k_ ≠ ((.slice Ao61 x226000_2.length co61):Value).ownBlock∧some k_ ≠ ((.slice Ao62 x226001_2.length co62):Value).ownBlock∧some k_ ≠ ((.slice Ao65 t241.length co65):Value).ownBlock∧k_ ≠ gb225∧k_ ≠ gb226∧k_ ≠ gb244) (.slice Ao72 y248.length co72) y248)∧Aside0 (Kd.R Kd.string 9 w' w.heap.size (fun k_=>some k_ ≠ (v9:Value).ownBlock∧some k_ ≠ ((.slice Ao62 x226001_2.length co62):Value).ownBlock) (.slice Ao61 x226000_2.length co61) x226000_2)∧Aside0 (Kd.R Kd.string 9 w' w.heap.size (fun k_=>some k_ ≠ (v9:Value).ownBlock∧some k_ ≠ ((.slice Ao61 x226000_2.length co61):Value).ownBlock) (.slice Ao62 x226001_2.length co62) x226001_2)∧Aside0 (Kd.N (Kd.slice 5 (Kd.int .u8)) 57 w' w.heap.size (fun k_=>some k_ ≠ (v9:Value).ownBlock∧some k_ ≠ ((.slice Ao61 x226000_2.length co61):Value).ownBlock∧some k_ ≠ ((.slice Ao62 x226001_2.length co62):Value).ownBlock∧k_ ≠ gb225∧k_ ≠ gb226∧k_ ≠ gb244) (.slice Ao65 t241.length co65) t241)∧Aside0 (w'.heap[gb225]? = some (.cells #[(.slice Ao61 x226000_2.length co61),(.slice Ao62 x226001_2.length co62)] 27 (0,0)))∧Aside0 (w'.heap[gb226]? = some (.cells #[(.slice none 0 0),(.slice none 0 0)] 27 (0,0)))∧Aside0 (w'.heap[gb244]? = some (.cells #[(.slice Ao65 t241.length co65)] 43 (0,0)))∧Aside0 (Below w.heap.size w w'))
       case atStart=>exact ⟨(([]:List ByteArray)),(0),D1,H',⟨Nat.le_refl _⟩,⟨D9⟩,⟨by refine sV ?_;exact Kd.V_mono HO252.out (fun _ hk=>⟨D46,⟨hk.1.1.1.1.1.2,⟨hk.1.1.1.1.2,⟨hk.1.1.1.2,⟨hk.1.1.2,⟨hk.1.2,hk.2⟩⟩⟩⟩⟩⟩)⟩,⟨by refine sR ?_;exact Kd.R_mono HO_226000.out (fun _ hk=>⟨D46,hk.1⟩)⟩,⟨by refine sR ?_;exact Kd.R_mono HO_226001.out (fun _ hk=>⟨D46,hk.1⟩)⟩,⟨by refine sN ?_;exact Kd.N_mono HO243.out (fun _ hk=>⟨D46,⟨hk.1.1.1,⟨hk.1.1.2.1,⟨hk.1.1.2.2.1,⟨hk.1.1.2.2.2,hk.1.2⟩⟩⟩⟩⟩)⟩,⟨yB BK225⟩,⟨yB BK226⟩,⟨yB BK244⟩,⟨yW HB⟩⟩
       case round =>
        clear H'
        try clear c1
        try clear c2
        try clear p2
        try clear q2
        try clear hx2
        try clear c3
        try clear c4
        try clear p4
        try clear q4
        try clear hx4
        try clear hf4
        try clear c5
        try clear hcv5
        try clear c6
        try clear p6
        try clear c7
        try clear q7
        try clear c8
        try clear c9
        try clear c10
        try clear c14
        try clear c16
        try clear c18
        try clear c21
        try clear c22
        try clear p23
        try clear q23
        try clear hx23
        try clear c25
        try clear c25b0
        try clear c25b1
        try clear c25b2
        try clear c26
        try clear c33
        try clear c39
        try clear c39b0
        try clear c40
        try clear c40b0
        try clear c41
        try clear c41b0
        try clear c42
        try clear c42b0
        try clear c43
        try clear c43b0
        try clear c44
        try clear c44b0
        try clear c44b1
        try clear c45
        try clear c45b0
        try clear c45b1
        try clear p46
        try clear q46
        try clear hx46
        try clear hf46
        try clear c47
        try clear hcv52
        try clear c57
        try clear c57b0
        try clear c57b1
        try clear c58
        try clear c58b0
        try clear c58b1
        try clear c59
        try clear p64
        try clear c66
        try clear c67
        try clear q71
        try clear hcz11_0
        try clear hcz11_1
        try clear hcz13_0
        try clear hcz13_1
        try clear hcz15_0
        try clear hcz15_1
        try clear hcz17_0
        try clear hcz17_1
        try clear hcz19_0
        try clear hcz19_1
        try clear hcz23_0
        try clear hcz23_1
        try clear hcz27_0
        try clear hcz27_1
        try clear hcz30_0
        try clear hcz30_1
        try clear hcz32_0
        try clear hcz32_1
        try clear hcz34_0
        try clear hcz34_1
        try clear hcz37_0
        try clear hcz37_1
        try clear hcz48_0
        try clear hcz48_1
        try clear hcz60_0
        try clear hcz60_1
        try clear hcz68_0
        try clear hcz69_0
        try clear hcz69_1
        try clear hfz11_0
        try clear hfz11_1
        try clear hfz13_0
        try clear hfz13_1
        try clear hfz15_0
        try clear hfz15_1
        try clear hfz17_0
        try clear hfz17_1
        try clear hfz19_0
        try clear hfz19_1
        try clear hfz23_0
        try clear hfz23_1
        try clear hfz27_0
        try clear hfz27_1
        try clear hfz30_0
        try clear hfz30_1
        try clear hfz32_0
        try clear hfz32_1
        try clear hfz34_0
        try clear hfz34_1
        try clear hfz37_0
        try clear hfz37_1
        try clear hfz48_0
        try clear hfz48_1
        try clear hfz60_0
        try clear hfz60_1
        try clear hfz68_0
        try clear hfz69_0
        try clear hfz69_1
        try clear hx235_0
        try clear hx236_0
        try clear hx46_0
        try clear p2
        try clear p235
        try clear p236
        try clear p46
        try clear q235
        try clear q236
        try clear q46
        try clear q71
        try clear HO_9
        try clear HO_74
        try clear HO_226000
        try clear HO_226001
        try clear HO_245000
        try clear BK225
        try clear BK226
        try clear BK244
        try clear HB
        obtain ⟨x9_3,x76_3,rfl,HA,HK3,HO_9,HO_74,HO_226000,HO_226001,HO_245000,BK225,BK226,BK244,HB⟩:=hrel
        cases gk with
        | zero=>exact absurd HA.out (by simp [spec_MendStripe.l1])
        | succ k3 =>
         have H:=HA.out
         clear HA
         simp only [spec_MendStripe.l1] at H
         by_cases c73:x76_3 < (y248.length:Int)
         ·rw [if_pos c73] at H
          have c73b0:=decide_eq_true c73
          clear c73
          by_cases c74:0≤x76_3
          ·rw [if_pos c74] at H
           have c74b0:=decide_eq_true c74
           clear c74
           by_cases c75:x76_3 < (y248.length:Int)
           ·rw [if_pos c75] at H
            have c75b0:=decide_eq_true c75
            clear c75
            by_cases c76:x76_3 < (x226001_2.length:Int)
            ·rw [if_pos c76] at H
             have c76b0:=decide_eq_true c76
             clear c76
             obtain ⟨t255,A77,H⟩:=yo H
             by_cases c78:x9_3.length < 8796093022208
             ·rw [if_pos c78] at H
              have LMc78:=am c78
              clear c78
              generalize hy256:(x9_3 ++ [t255]:List ByteArray)=y256 at H
              have Ny256:=am hy256.symm
              clear hy256
              have H':=am H
              clear H
              have p253:0≤(x76_3:Int):=od D0
              have q253:x76_3 < (y248.length:Int):=od D0
              obtain ⟨ad253,e253,hx253_0⟩:=Kd.at_string (Kd.V_reads' HO_74.out).2.2 x76_3 p253 q253
              cases e253
              replace p253:=eq_true p253
              replace q253:=eq_true q253
              have hnb79:=NB225_226.out
              have hnc79:=NB226_225.out
              have hnb80:=NB225_244.out
              have hnc80:=NB244_225.out
              obtain ⟨hcz81_0,hcz81_1,hfz81_0,hfz81_1⟩:=yk2 BK225
              have p254:0≤(x76_3:Int):=od D0
              have q254:x76_3 < (x226001_2.length:Int):=od D0
              obtain ⟨ad254,e254,hx254_0⟩:=Kd.at_string (Kd.R_reads' HO_226001.out).2.2 x76_3 p254 q254
              cases e254
              replace p254:=eq_true p254
              replace q254:=eq_true q254
              go_wp2_with (first|(refine gC 90 ?_;refine gM (some 88) Try.func90 (args:=#[.string (rdOf ByteArray.empty y248 x76_3), .int .u8 1, .string (rdOf ByteArray.empty x226001_2 x76_3)]) (spec_l6Plus.calls k3 (rdOf ByteArray.empty y248 x76_3) 1 (rdOf ByteArray.empty x226001_2 x76_3) t255 _ A77.out) ?_;rintro e w82 ⟨rfl,hb⟩;refine ⟨_,rfl,?_⟩;replace HO_9:=bR HO_9 hb;replace HO_74:=bV HO_74 hb;replace HO_226000:=bR HO_226000 hb;replace HO_226001:=bR HO_226001 hb;replace HO_245000:=bN HO_245000 hb;replace BK225:=yb BK225 hb;replace BK226:=yb BK226 hb;replace BK244:=yb BK244 hb;replace HB:=yH HB hb;clear hb)|((with_reducible refine gate_builtin (b:=.append) (xs:=#[.tmp 81, .tmp 89]) rfl ?_);(try (refine gate_guard D10 ?_;dsimp only));at_builtin;refine Kd.R_append Kd.string (w0:=w) w.heap.size rfl (.tmp 81) (.tmp 89) 22 9 (.string ⟨#[]⟩) 16 rfl Try.underlying22 info9 rfl D6 D8 u9 x9_3 t255 [.string t255] (fun k_=>some k_ ≠ (.slice Ao61 x226000_2.length co61:Value).ownBlock∧some k_ ≠ (.slice (some ad254) x226001_2.length co62:Value).ownBlock) (fun _=>False) rfl rfl D65 (fun _ hk=>hk.elim) (by exact (fun k_ hk=>⟨Kd.fresh' (Kd.R_lt (yR HO_226000)) k_ hk,Kd.fresh' (Kd.R_lt (yR HO_226001)) k_ hk⟩)) (by exact (yR HO_9)) D50 D25 (by have:=LMc78.out;omega) ?_;intro v257 w83 ho hb hg hat;rw [← Ny256.out] at ho;have n0_:=am (Kd.V_afterv (ok:=(fun k_=>some k_ ≠ (.slice Ao61 x226000_2.length co61:Value).ownBlock∧some k_ ≠ (.slice (some ad254) x226001_2.length co62:Value).ownBlock∧some k_ ≠ (.slice Ao65 t241.length co65:Value).ownBlock∧k_ ≠ gb225∧k_ ≠ gb226∧k_ ≠ gb244)) (by refine sV ?_;exact Kd.V_mono HO_74.out (fun _ hk=>⟨⟨hk.2.1,⟨hk.2.2.1,⟨hk.2.2.2.1,⟨hk.2.2.2.2.1,⟨hk.2.2.2.2.2.1,hk.2.2.2.2.2.2⟩⟩⟩⟩⟩,hk.1⟩)) hg hat);have n1_:=am (Kd.R_after (ok:=(fun k_=>some k_ ≠ (.slice (some ad254) x226001_2.length co62:Value).ownBlock)) D16 hg hat);have n2_:=am (Kd.R_after (ok:=(fun k_=>some k_ ≠ (.slice Ao61 x226000_2.length co61:Value).ownBlock)) D15 hg hat);have n3_:=am (Kd.N_afterv (ok:=(fun k_=>some k_ ≠ (.slice Ao61 x226000_2.length co61:Value).ownBlock∧some k_ ≠ (.slice (some ad254) x226001_2.length co62:Value).ownBlock∧k_ ≠ gb225∧k_ ≠ gb226∧k_ ≠ gb244)) (by refine sN ?_;exact Kd.N_mono HO_245000.out (fun _ hk=>⟨⟨hk.2.1,⟨hk.2.2.1,⟨hk.2.2.2.1,⟨hk.2.2.2.2.1,hk.2.2.2.2.2⟩⟩⟩⟩,hk.1⟩)) hg hat);have n4_:=am (blk_grown (g:=gb225) (o:=.cells #[.slice Ao61 x226000_2.length co61, .slice (some ad254) x226001_2.length co62] 27 (0,0)) (yB BK225) hg (Kd.R_ne HO_9.out BK225.out D6));have n5_:=am (blk_grown (g:=gb226) (o:=.cells #[.slice none 0 0, .slice none 0 0] 27 (0,0)) (yB BK226) hg (Kd.R_ne HO_9.out BK226.out D6));have n6_:=am (blk_grown (g:=gb244) (o:=.cells #[.slice Ao65 t241.length co65] 43 (0,0)) (yB BK244) hg (Kd.R_ne HO_9.out BK244.out D6));have n7_:=am (hb);have n8_:=am (ho);clear HO_74 HO_226000 HO_226001 HO_245000 BK225 BK226 BK244 HB HO_9;have HO_74:=n0_;have HO_226000:=n1_;have HO_226001:=n2_;have HO_245000:=n3_;have BK225:=n4_;have BK226:=n5_;have BK244:=n6_;have HB:=n7_;have HO258:=n8_;clear n0_ n1_ n2_ n3_ n4_ n5_ n6_ n7_ n8_ ho hb hg hat))
              go_roundg k3
              case measure=>have:=HJ2.out;have:=HK2.out;have:=HK3.out;omega
              case rel=>exact ⟨(y256),(wrap64 (x76_3+1)),D1,H',⟨by have:=HJ2.out;have:=HK2.out;have:=HK3.out;omega⟩,⟨yR HO258⟩,⟨by refine sV ?_;exact Kd.V_mono HO_74.out (fun _ hk=>⟨hk.2,⟨hk.1.1,⟨hk.1.2.1,⟨hk.1.2.2.1,⟨hk.1.2.2.2.1,⟨hk.1.2.2.2.2.1,hk.1.2.2.2.2.2⟩⟩⟩⟩⟩⟩)⟩,⟨D16⟩,⟨D15⟩,⟨by refine sN ?_;exact Kd.N_mono HO_245000.out (fun _ hk=>⟨hk.2,⟨hk.1.1,⟨hk.1.2.1,⟨hk.1.2.2.1,⟨hk.1.2.2.2.1,hk.1.2.2.2.2⟩⟩⟩⟩⟩)⟩,⟨yB BK225⟩,⟨yB BK226⟩,⟨yB BK244⟩,⟨yW HB⟩⟩
             rw [if_neg c78] at H
             exact absurd H D38
            rw [if_neg c76] at H
            exact absurd H D38
           rw [if_neg c75] at H
           exact absurd H D38
          rw [if_neg c74] at H
          exact absurd H D38
         rw [if_neg c73] at H
         have c73b0:=decide_eq_false c73
         clear c73
         obtain ⟨t259,A84,H⟩:=yo H
         obtain ⟨t262,A85,H⟩:=yo H
         obtain ⟨⟨t265,t268⟩,A86,H⟩:=yo H
         try dsimp only at H
         by_cases c87:t268=true
         ·subst c87
          replace H:=yt H
          obtain ⟨t270,A88,H⟩:=yo H
          have H':=am H
          clear H
          try go_wp2
          replace HO_9:=am (Kd.R_drew HO_9.out)
          replace HO_74:=am (Kd.V_drew HO_74.out)
          replace HO_226000:=am (Kd.R_drew HO_226000.out)
          replace HO_226001:=am (Kd.R_drew HO_226001.out)
          replace HO_245000:=am (Kd.N_drew HO_245000.out)
          replace BK225:=am (qd BK225.out)
          replace BK226:=am (qd BK226.out)
          replace BK244:=am (qd BK244.out)
          replace HB:=am (pd HB.out)
          refine start_ (n:=13) (S:=fun w'=>w'.cell? ⟨gb244,0,none⟩=some (.slice Ao65 t241.length co65)) (ds:=[]) #[Z,Z,Z,Z,Z,Z,Z,Z,Z,Z,Z,Z,Z] D2 rfl rfl ((blk_cell BK244.out 0).trans rfl) (fun hHeld=>?_);refine with_tabW spec_MendStripe.tab18 spec_MendStripe.bits18 (fun HT_ HW_=>?_)
          generalize wr.drew=w89 at HO_9 HO_74 HO_226000 HO_226001 HO_245000 BK225 BK226 BK244 HB hHeld ⊢
          refine pure_ (i:=1) (N:=some 94) (v:=?_) (a':=?_) #[Z,Y,Z,Z,Z,Z,Z,Z,Z,Z,Z,Z,Z] rfl rfl (any_of HT_.out D2) hh (Or.inl ⟨D10,?_⟩) ?_ ?_
          rotate_left
          ·intro w'
           go_simp
           with_reducible rfl
          rotate_left
          ·simp only [Act.put,q1,q2,q3,i64_w,i32_w]
           rfl
          refine pure_ (i:=2) (N:=some 95) (v:=?_) (a':=?_) #[Z,Y,Y,Z,Z,Z,Z,Z,Z,Z,Z,Z,Z] rfl rfl (any_of HT_.out D2) hh (Or.inl ⟨D10,?_⟩) ?_ ?_
          rotate_left
          ·intro w'
           go_simp
           with_reducible rfl
          rotate_left
          ·simp only [Act.put,q1,q2,q3,i64_w,i32_w]
           rfl
          refine pure_ (i:=4) (N:=some 97) (v:=?_) (a':=?_) #[Z,Y,Y,Z,Y,Z,Z,Z,Z,Z,Z,Z,Z] rfl rfl (any_of HT_.out D2) hh (Or.inl ⟨D10,?_⟩) ?_ ?_
          rotate_left
          ·intro w'
           go_simp
           with_reducible rfl
          rotate_left
          ·simp only [Act.put,q1,q2,q3,i64_w,i32_w]
           rfl
          refine take_ (i:=0) (N:=some 93) (v:=?_) (a':=?_) #[Y,Y,Y,Z,Y,Z,Z,Z,Z,Z,Z,Z,Z] rfl rfl (take_ofW HT_.out HW_.out D2) hh (Or.inl ⟨D10,?_⟩) hHeld ?_ ?_
          rotate_left
          ·intro w' s0
           go_simp
           with_reducible rfl
          rotate_left
          ·simp only [Act.put,q1,q2,q3,i64_w,i32_w]
           rfl
          refine join_ (σ:=Value × Value × Value × Nat) 2 #[Y,Y,Y,Y,Y,Y,Y,Y,Y,Y,Y,Z,Z] (fun s_=>[(96,s_.1),(98, .agg #[s_.2.1]),(99, .tuple #[.agg #[s_.2.2.1], .bool true]),(12, .pointer (some ⟨s_.2.2.2,0,none⟩)),(92, .tuple #[.agg #[s_.2.2.1], .bool true]),(100, .agg #[s_.2.2.1]),(101, .bool true)]) (fun s_ w'=>(w'.cell? ⟨gb244,0,none⟩=some (.slice Ao65 t241.length co65))∧(Kd.R (Kd.int .i64) 3 w' w.heap.size (fun _=>True) s_.1 t259)∧(Kd.N (Kd.slice 5 (Kd.int .u8)) 57 w' w.heap.size (fun k_=>some k_ ≠ (s_.1:Value).ownBlock∧some k_ ≠ (s_.2.2.1:Value).ownBlock∧some k_ ≠ (.slice Ao61 x226000_2.length co61:Value).ownBlock∧some k_ ≠ (.slice Ao62 x226001_2.length co62:Value).ownBlock∧some k_ ≠ (.slice Ao65 t241.length co65:Value).ownBlock∧some k_ ≠ (u9:Value).ownBlock∧k_ ≠ gb225∧k_ ≠ gb226∧k_ ≠ gb244∧k_ ≠ s_.2.2.2) s_.2.1 t262)∧(Kd.N (Kd.slice 5 (Kd.int .u8)) 57 w' w.heap.size (fun k_=>some k_ ≠ (s_.1:Value).ownBlock∧some k_ ≠ (s_.2.1:Value).ownBlock∧some k_ ≠ (.slice Ao61 x226000_2.length co61:Value).ownBlock∧some k_ ≠ (.slice Ao62 x226001_2.length co62:Value).ownBlock∧some k_ ≠ (.slice Ao65 t241.length co65:Value).ownBlock∧some k_ ≠ (u9:Value).ownBlock∧k_ ≠ gb225∧k_ ≠ gb226∧k_ ≠ gb244∧k_ ≠ s_.2.2.2) s_.2.2.1 t265)∧(Kd.R Kd.string 9 w' w.heap.size (fun k_=>some k_ ≠ (.slice Ao62 x226001_2.length co62:Value).ownBlock∧some k_ ≠ (u9:Value).ownBlock) (.slice Ao61 x226000_2.length co61) x226000_2)∧(Kd.R Kd.string 9 w' w.heap.size (fun k_=>some k_ ≠ (.slice Ao61 x226000_2.length co61:Value).ownBlock∧some k_ ≠ (u9:Value).ownBlock) (.slice Ao62 x226001_2.length co62) x226001_2)∧(Kd.N (Kd.slice 5 (Kd.int .u8)) 57 w' w.heap.size (fun k_=>some k_ ≠ (s_.1:Value).ownBlock∧some k_ ≠ (s_.2.1:Value).ownBlock∧some k_ ≠ (s_.2.2.1:Value).ownBlock∧some k_ ≠ (.slice Ao61 x226000_2.length co61:Value).ownBlock∧some k_ ≠ (.slice Ao62 x226001_2.length co62:Value).ownBlock∧some k_ ≠ (u9:Value).ownBlock∧k_ ≠ gb225∧k_ ≠ gb226∧k_ ≠ gb244∧k_ ≠ s_.2.2.2) (.slice Ao65 t241.length co65) t241)∧(Kd.V Kd.string 9 w' w.heap.size (fun k_=>some k_ ≠ (s_.1:Value).ownBlock∧some k_ ≠ (s_.2.1:Value).ownBlock∧some k_ ≠ (s_.2.2.1:Value).ownBlock∧some k_ ≠ (.slice Ao61 x226000_2.length co61:Value).ownBlock∧some k_ ≠ (.slice Ao62 x226001_2.length co62:Value).ownBlock∧some k_ ≠ (.slice Ao65 t241.length co65:Value).ownBlock∧some k_ ≠ (u9:Value).ownBlock∧k_ ≠ gb225∧k_ ≠ gb226∧k_ ≠ gb244∧k_ ≠ s_.2.2.2) (.slice Ao72 y248.length co72) y248)∧(Kd.R Kd.string 9 w' w.heap.size (fun k_=>some k_ ≠ (.slice Ao61 x226000_2.length co61:Value).ownBlock∧some k_ ≠ (.slice Ao62 x226001_2.length co62:Value).ownBlock) u9 x9_3)∧(w'.heap[gb225]? = some (.cells #[.slice Ao61 x226000_2.length co61, .slice Ao62 x226001_2.length co62] 27 (0,0)))∧(w'.heap[gb226]? = some (.cells #[.slice none 0 0, .slice none 0 0] 27 (0,0)))∧(w'.heap[gb244]? = some (.cells #[.slice Ao65 t241.length co65] 43 (0,0)))∧(w'.heap[s_.2.2.2]? = some (.cells #[.slice none 0 0] 43 (0,0)))∧(w.heap.size≤s_.2.2.2)∧(w.heap.size≤s_.2.2.2)∧(gb225 ≠ s_.2.2.2)∧(s_.2.2.2 ≠ gb225)∧(gb226 ≠ s_.2.2.2)∧(s_.2.2.2 ≠ gb226)∧(gb244 ≠ s_.2.2.2)∧(s_.2.2.2 ≠ gb244)∧(Below w.heap.size w w')) ?_ ?_
          rotate_left
          ·intro hCont
           refine two_ (i:=3) (j:=10) (Ni:=some 96) (Nj:=some 12) #[Y,Y,Y,Y,Y,Z,Z,Z,Z,Z,Z,Z,Z] #[Y,Y,Y,Z,Y,Z,Z,Z,Z,Z,Y,Z,Z] rfl rfl rfl rfl (two_of HT_.out D2) D6 D6 (fun K hK=>?_) (fun K hK=>?_)
           ·skip
            refine goes_ Try.func93 D2 rfl #[.int .i64 (l1.length:Int)] D10 rfl rfl D4 ?_
            with_reducible refine (spec_l3All.calls k3 (l1.length:Int) t259 _ A84.out).mono ?_
            rintro e w90 ⟨v260,rfl,ho0,hb⟩
            refine ⟨_,rfl,?_⟩
            replace HO_9:=bR HO_9 hb
            replace HO_74:=eV HO_74 (Kd.R_base ho0) hb
            replace HO_226000:=bR HO_226000 hb
            replace HO_226001:=bR HO_226001 hb
            replace HO_245000:=eN HO_245000 (Kd.R_base ho0) hb
            have HO261:=am (Kd.R_lower ho0 (pz (yW HB)))
            replace BK225:=yb BK225 hb
            replace BK226:=yb BK226 hb
            replace BK244:=yb BK244 hb
            replace HB:=yH HB hb
            (try clear hb)
            (try clear hb2)
            (try clear hk)
            (try clear hi)
            (try clear ho0)
            obtain ⟨Ao91,co91,eo91⟩:=Kd.R_slice HO261.out
            (first|subst eo91|(injection eo91 with f1_ f2_ f3_;have f4_:=f1_.symm;have f5_:=f3_.symm;clear f1_ f2_ f3_;subst f4_;subst f5_))
            refine hK.out _ _ ((blk_cell BK244.out 0).trans rfl) (fun hHeld=>?_)
            clear hK K
            refine norm_ (a':=?_) ?_ ?_
            rotate_left
            ·show Act.put _ (some 96) _=_
             simp only [Act.put,q1,q2,q3,i64_w,i32_w]
             rfl
            refine two_ (i:=5) (j:=10) (Ni:=some 98) (Nj:=some 12) #[Y,Y,Y,Y,Y,Y,Z,Z,Z,Z,Z,Z,Z] #[Y,Y,Y,Y,Y,Z,Z,Z,Z,Z,Y,Z,Z] rfl rfl rfl rfl (two_of HT_.out D2) D6 D6 (fun K hK=>?_) (fun K hK=>?_)
            ·skip
             refine goes_ Try.func92 D2 rfl #[.agg #[.slice Ao65 t241.length co65], .slice Ao91 t259.length co91, .slice A1 l1.length c1] D10 rfl rfl D4 ?_
             with_reducible refine (spec_l2Part.calls k3 _ _ t241 _ _ t259 _ _ l1 t262 _ ?side1 ?side2 ?side3 ?side4 ?side5 ?side6 A85.out).mono ?_
             (case side1=>repeat (first|exact (Kd.N_reads' HO_245000.out).2.2|(with_reducible refine Kd.C_alloc ?_ _)|(with_reducible refine Kd.C_drewN ?_ _)|(with_reducible refine Kd.C_drew ?_)))
             (case side2=>exact (Kd.N_reads' HO_245000.out).2.1)
             (case side3=>repeat (first|exact (Kd.R_reads' HO261.out).2.2|(with_reducible refine Kd.C_alloc ?_ _)|(with_reducible refine Kd.C_drewN ?_ _)|(with_reducible refine Kd.C_drew ?_)))
             (case side4=>exact (Kd.R_reads' HO261.out).2.1)
             (case side5=>repeat (first|exact (Kd.C_below HR1.out HB.out)|(with_reducible refine Kd.C_alloc ?_ _)|(with_reducible refine Kd.C_drewN ?_ _)|(with_reducible refine Kd.C_drew ?_)))
             (case side6=>exact HC1.out)
             rintro e w92 ⟨v263,rfl,ho0,hb⟩
             refine ⟨_,rfl,?_⟩
             replace HO_74:=eV HO_74 D7 hb
             have HO264:=am (Kd.N_lower (Kd.N_mono (ok':=fun k_=>some k_ ≠ (u9:Value).ownBlock∧some k_ ≠ (.slice Ao61 x226000_2.length co61:Value).ownBlock∧some k_ ≠ (.slice Ao62 x226001_2.length co62:Value).ownBlock∧some k_ ≠ (.slice Ao65 t241.length co65:Value).ownBlock∧some k_ ≠ (.slice Ao91 t259.length co91:Value).ownBlock∧k_ ≠ gb225∧k_ ≠ gb226∧k_ ≠ gb244) (Kd.S_N (Kd.S_bound ho0)) (fun k_ hk_=>⟨(Kd.fresh' (Kd.R_lt (yR HO_9)) k_ hk_.2.1),(Kd.fresh' (Kd.R_lt (yR HO_226000)) k_ hk_.2.1),(Kd.fresh' (Kd.R_lt (yR HO_226001)) k_ hk_.2.1),(Kd.fresh' (Kd.N_lt (yN HO_245000)) k_ hk_.2.1),(Kd.fresh' (Kd.R_lt (yR HO261)) k_ hk_.2.1),(yz BK225 k_ hk_.2.1),(yz BK226 k_ hk_.2.1),(yz BK244 k_ hk_.2.1)⟩)) (pz (yW HB)))
             replace HO_9:=bR HO_9 hb
             replace HO_226000:=bR HO_226000 hb
             replace HO_226001:=bR HO_226001 hb
             replace HO_245000:=eN HO_245000 D7 hb
             replace HO261:=bR HO261 hb
             replace BK225:=yb BK225 hb
             replace BK226:=yb BK226 hb
             replace BK244:=yb BK244 hb
             replace HB:=yH HB hb
             (try clear hb)
             (try clear hb2)
             (try clear hk)
             (try clear hi)
             (try clear ho0)
             obtain ⟨Ao93,co93,eo93⟩:=Kd.N_slice HO264.out
             (first|subst eo93|(injection eo93 with f1_ f2_ f3_;have f4_:=f1_.symm;have f5_:=f3_.symm;clear f1_ f2_ f3_;subst f4_;subst f5_))
             refine hK.out _ _ ((blk_cell BK244.out 0).trans rfl) (fun hHeld=>?_)
             clear hK K
             refine norm_ (a':=?_) ?_ ?_
             rotate_left
             ·show Act.put _ (some 98) _=_
              simp only [Act.put,q1,q2,q3,i64_w,i32_w]
              rfl
             refine two_ (i:=6) (j:=10) (Ni:=some 99) (Nj:=some 12) #[Y,Y,Y,Y,Y,Y,Y,Z,Z,Z,Z,Z,Z] #[Y,Y,Y,Y,Y,Y,Z,Z,Z,Z,Y,Z,Z] rfl rfl rfl rfl (two_of HT_.out D2) D6 D6 (fun K hK=>?_) (fun K hK=>?_)
             ·skip
              refine goes_ Try.func91 D2 rfl #[.agg #[.slice Ao93 t262.length co93]] D10 rfl rfl D4 ?_
              with_reducible refine (spec_l2Inverse.calls _ _ t262 t265 true _ ?side1 ?side2 A86.out).mono ?_
              (case side1=>repeat (first|exact (Kd.N_reads' HO264.out).2.2|(with_reducible refine Kd.C_alloc ?_ _)|(with_reducible refine Kd.C_drewN ?_ _)|(with_reducible refine Kd.C_drew ?_)))
              (case side2=>exact (Kd.N_reads' HO264.out).2.1)
              rintro e w94 ⟨v266,rfl,ho0,hb⟩
              refine ⟨_,rfl,?_⟩
              replace HO_74:=eV HO_74 D7 hb
              have HO267:=am (Kd.N_lower (Kd.N_mono (ok':=fun k_=>some k_ ≠ (u9:Value).ownBlock∧some k_ ≠ (.slice Ao61 x226000_2.length co61:Value).ownBlock∧some k_ ≠ (.slice Ao62 x226001_2.length co62:Value).ownBlock∧some k_ ≠ (.slice Ao65 t241.length co65:Value).ownBlock∧some k_ ≠ (.slice Ao91 t259.length co91:Value).ownBlock∧some k_ ≠ (.slice Ao93 t262.length co93:Value).ownBlock∧k_ ≠ gb225∧k_ ≠ gb226∧k_ ≠ gb244) ho0 (fun k_ hk_=>⟨(Kd.fresh' (Kd.R_lt (yR HO_9)) k_ hk_),(Kd.fresh' (Kd.R_lt (yR HO_226000)) k_ hk_),(Kd.fresh' (Kd.R_lt (yR HO_226001)) k_ hk_),(Kd.fresh' (Kd.N_lt (yN HO_245000)) k_ hk_),(Kd.fresh' (Kd.R_lt (yR HO261)) k_ hk_),(Kd.fresh' (Kd.N_lt (yN HO264)) k_ hk_),(yz BK225 k_ hk_),(yz BK226 k_ hk_),(yz BK244 k_ hk_)⟩)) (pz (yW HB)))
              replace HO_9:=bR HO_9 hb
              replace HO_226000:=bR HO_226000 hb
              replace HO_226001:=bR HO_226001 hb
              replace HO_245000:=eN HO_245000 D7 hb
              replace HO261:=bR HO261 hb
              replace HO264:=eN HO264 D7 hb
              replace BK225:=yb BK225 hb
              replace BK226:=yb BK226 hb
              replace BK244:=yb BK244 hb
              replace HB:=yH HB hb
              (try clear hb)
              (try clear hb2)
              (try clear hk)
              (try clear hi)
              (try clear ho0)
              refine hK.out _ _ ((blk_cell BK244.out 0).trans rfl) (fun hHeld=>?_)
              clear hK K
              refine norm_ (a':=?_) ?_ ?_
              rotate_left
              ·show Act.put _ (some 99) _=_
               simp only [Act.put,q1,q2,q3,i64_w,i32_w]
               rfl
              refine pure_ (i:=7) (N:=some 92) (v:=?_) (a':=?_) #[Y,Y,Y,Y,Y,Y,Y,Y,Z,Z,Z,Z,Z] rfl rfl (any_of HT_.out D2) hh (Or.inl ⟨D10,?_⟩) ?_ ?_
              rotate_left
              ·intro w'
               go_simp
               with_reducible rfl
              rotate_left
              ·simp only [Act.put,q1,q2,q3,i64_w,i32_w]
               rfl
              refine pure_ (i:=8) (N:=some 100) (v:=?_) (a':=?_) #[Y,Y,Y,Y,Y,Y,Y,Y,Y,Z,Z,Z,Z] rfl rfl (any_of HT_.out D2) hh (Or.inl ⟨D10,?_⟩) ?_ ?_
              rotate_left
              ·intro w'
               go_simp
               with_reducible rfl
              rotate_left
              ·simp only [Act.put,q1,q2,q3,i64_w,i32_w]
               rfl
              refine pure_ (i:=9) (N:=some 101) (v:=?_) (a':=?_) #[Y,Y,Y,Y,Y,Y,Y,Y,Y,Y,Z,Z,Z] rfl rfl (any_of HT_.out D2) hh (Or.inl ⟨D10,?_⟩) ?_ ?_
              rotate_left
              ·intro w'
               go_simp
               with_reducible rfl
              rotate_left
              ·simp only [Act.put,q1,q2,q3,i64_w,i32_w]
               rfl
              refine one_ (i:=10) (N:=some 12) #[Y,Y,Y,Y,Y,Y,Y,Y,Y,Y,Y,Z,Z] rfl rfl (one_of HT_.out D2) D6 (fun K hK=>?_)
              refine box_step ?hg (N:=12) ?hd (cs:=#[.slice none 0 0]) (t:=43) ?hr ?_;(case hd=>rfl);(case hg=>rfl);(case hr=>first|(go_simp;done)|(go_simp;rfl))
              intro gb269 hg w95 hbox hb
              replace HO_9:=bR HO_9 hb
              replace HO_74:=am (Kd.V_below (Kd.V_elderB (yV HO_74) gb269 (Nat.le_of_eq hg.symm)) hb)
              replace HO_226000:=bR HO_226000 hb
              replace HO_226001:=bR HO_226001 hb
              replace HO_245000:=oN HO_245000 hg hb
              replace HO261:=bR HO261 hb
              replace HO264:=oN HO264 hg hb
              replace HO267:=oN HO267 hg hb
              have BK269:=am (hbox)
              have GW269:=ye HB hg
              replace HB:=yH HB hb
              have NB225_269:=yl BK225 hg
              have NB269_225:=yg BK225 hg
              replace BK225:=yb BK225 hb
              have NB226_269:=yl BK226 hg
              have NB269_226:=yg BK226 hg
              replace BK226:=yb BK226 hb
              have NB244_269:=yl BK244 hg
              have NB269_244:=yg BK244 hg
              replace BK244:=yb BK244 hb
              have GE269:=GW269
              clear hb hbox hg
              refine hK.out _ _ ((blk_cell BK244.out 0).trans rfl) (fun hHeld=>?_)
              clear hK K
              refine norm_ (a':=?_) ?_ ?_
              rotate_left
              ·show Act.put _ (some 12) _=_
               simp only [Act.put,q1,q2,q3,i64_w,i32_w]
               rfl
              exact norm_ D18 (hCont (.slice Ao91 t259.length co91, .slice Ao93 t262.length co93,v266,gb269) _ ⟨hHeld,(yR HO261),D49,D47,D16,D15,D44,D33,(yR HO_9),(yB BK225),(yB BK226),(yB BK244),(yB BK269),GW269.out,GE269.out,NB225_269.out,NB269_225.out,NB226_269.out,NB269_226.out,NB244_269.out,NB269_244.out,(yW HB)⟩)
             skip
             refine box_step ?hg (N:=12) ?hd (cs:=#[.slice none 0 0]) (t:=43) ?hr ?_;(case hd=>rfl);(case hg=>rfl);(case hr=>first|(go_simp;done)|(go_simp;rfl))
             intro gb269 hg w93 hbox hb
             replace HO_9:=bR HO_9 hb
             replace HO_74:=am (Kd.V_below (Kd.V_elderB (yV HO_74) gb269 (Nat.le_of_eq hg.symm)) hb)
             replace HO_226000:=bR HO_226000 hb
             replace HO_226001:=bR HO_226001 hb
             replace HO_245000:=oN HO_245000 hg hb
             replace HO261:=bR HO261 hb
             replace HO264:=oN HO264 hg hb
             have BK269:=am (hbox)
             have GW269:=ye HB hg
             replace HB:=yH HB hb
             have NB225_269:=yl BK225 hg
             have NB269_225:=yg BK225 hg
             replace BK225:=yb BK225 hb
             have NB226_269:=yl BK226 hg
             have NB269_226:=yg BK226 hg
             replace BK226:=yb BK226 hb
             have NB244_269:=yl BK244 hg
             have NB269_244:=yg BK244 hg
             replace BK244:=yb BK244 hb
             have GE269:=GW269
             clear hb hbox hg
             obtain ⟨Ao94,co94,eo94⟩:=Kd.N_slice HO264.out
             (first|subst eo94|(injection eo94 with f1_ f2_ f3_;have f4_:=f1_.symm;have f5_:=f3_.symm;clear f1_ f2_ f3_;subst f4_;subst f5_))
             refine hK.out _ _ ((blk_cell BK244.out 0).trans rfl) (fun hHeld=>?_)
             clear hK K
             refine norm_ (a':=?_) ?_ ?_
             rotate_left
             ·show Act.put _ (some 12) _=_
              simp only [Act.put,q1,q2,q3,i64_w,i32_w]
              rfl
             refine one_ (i:=6) (N:=some 99) #[Y,Y,Y,Y,Y,Y,Y,Z,Z,Z,Y,Z,Z] rfl rfl (one_of HT_.out D2) D6 (fun K hK=>?_)
             refine goes_ Try.func91 D2 rfl #[.agg #[.slice Ao94 t262.length co94]] D10 rfl rfl D4 ?_
             with_reducible refine (spec_l2Inverse.calls _ _ t262 t265 true _ ?side1 ?side2 A86.out).mono ?_
             (case side1=>repeat (first|exact (Kd.N_reads' HO264.out).2.2|(with_reducible refine Kd.C_alloc ?_ _)|(with_reducible refine Kd.C_drewN ?_ _)|(with_reducible refine Kd.C_drew ?_)))
             (case side2=>exact (Kd.N_reads' HO264.out).2.1)
             rintro e w95 ⟨v266,rfl,ho0,hb⟩
             refine ⟨_,rfl,?_⟩
             replace HO_74:=eV HO_74 D7 hb
             have HO267:=am (Kd.N_lower (Kd.N_mono (ok':=fun k_=>some k_ ≠ (u9:Value).ownBlock∧some k_ ≠ (.slice Ao61 x226000_2.length co61:Value).ownBlock∧some k_ ≠ (.slice Ao62 x226001_2.length co62:Value).ownBlock∧some k_ ≠ (.slice Ao65 t241.length co65:Value).ownBlock∧some k_ ≠ (.slice Ao91 t259.length co91:Value).ownBlock∧some k_ ≠ (.slice Ao94 t262.length co94:Value).ownBlock∧k_ ≠ gb225∧k_ ≠ gb226∧k_ ≠ gb244∧k_ ≠ gb269) ho0 (fun k_ hk_=>⟨(Kd.fresh' (Kd.R_lt (yR HO_9)) k_ hk_),(Kd.fresh' (Kd.R_lt (yR HO_226000)) k_ hk_),(Kd.fresh' (Kd.R_lt (yR HO_226001)) k_ hk_),(Kd.fresh' (Kd.N_lt (yN HO_245000)) k_ hk_),(Kd.fresh' (Kd.R_lt (yR HO261)) k_ hk_),(Kd.fresh' (Kd.N_lt (yN HO264)) k_ hk_),(yz BK225 k_ hk_),(yz BK226 k_ hk_),(yz BK244 k_ hk_),(yz BK269 k_ hk_)⟩)) (pz (yW HB)))
             replace HO_9:=bR HO_9 hb
             replace HO_226000:=bR HO_226000 hb
             replace HO_226001:=bR HO_226001 hb
             replace HO_245000:=eN HO_245000 D7 hb
             replace HO261:=bR HO261 hb
             replace HO264:=eN HO264 D7 hb
             replace BK225:=yb BK225 hb
             replace BK226:=yb BK226 hb
             replace BK244:=yb BK244 hb
             replace BK269:=yb BK269 hb
             replace HB:=yH HB hb
             (try clear hb)
             (try clear hb2)
             (try clear hk)
             (try clear hi)
             (try clear ho0)
             refine hK.out _ _ ((blk_cell BK244.out 0).trans rfl) (fun hHeld=>?_)
             clear hK K
             refine norm_ (a':=?_) ?_ ?_
             rotate_left
             ·show Act.put _ (some 99) _=_
              simp only [Act.put,q1,q2,q3,i64_w,i32_w]
              rfl
             refine pure_ (i:=7) (N:=some 92) (v:=?_) (a':=?_) #[Y,Y,Y,Y,Y,Y,Y,Y,Z,Z,Y,Z,Z] rfl rfl (any_of HT_.out D2) hh (Or.inl ⟨D10,?_⟩) ?_ ?_
             rotate_left
             ·intro w'
              go_simp
              with_reducible rfl
             rotate_left
             ·simp only [Act.put,q1,q2,q3,i64_w,i32_w]
              rfl
             refine pure_ (i:=8) (N:=some 100) (v:=?_) (a':=?_) #[Y,Y,Y,Y,Y,Y,Y,Y,Y,Z,Y,Z,Z] rfl rfl (any_of HT_.out D2) hh (Or.inl ⟨D10,?_⟩) ?_ ?_
             rotate_left
             ·intro w'
              go_simp
              with_reducible rfl
             rotate_left
             ·simp only [Act.put,q1,q2,q3,i64_w,i32_w]
              rfl
             refine pure_ (i:=9) (N:=some 101) (v:=?_) (a':=?_) #[Y,Y,Y,Y,Y,Y,Y,Y,Y,Y,Y,Z,Z] rfl rfl (any_of HT_.out D2) hh (Or.inl ⟨D10,?_⟩) ?_ ?_
             rotate_left
             ·intro w'
              go_simp
              with_reducible rfl
             rotate_left
             ·simp only [Act.put,q1,q2,q3,i64_w,i32_w]
              rfl
             exact norm_ D18 (hCont (.slice Ao91 t259.length co91, .slice Ao94 t262.length co94,v266,gb269) _ ⟨hHeld,(yR HO261),D48,D11,D16,D15,D43,D32,(yR HO_9),(yB BK225),(yB BK226),(yB BK244),(yB BK269),GW269.out,GE269.out,NB225_269.out,NB269_225.out,NB226_269.out,NB269_226.out,NB244_269.out,NB269_244.out,(yW HB)⟩)
            skip
            refine box_step ?hg (N:=12) ?hd (cs:=#[.slice none 0 0]) (t:=43) ?hr ?_;(case hd=>rfl);(case hg=>rfl);(case hr=>first|(go_simp;done)|(go_simp;rfl))
            intro gb269 hg w91 hbox hb
            replace HO_9:=bR HO_9 hb
            replace HO_74:=am (Kd.V_below (Kd.V_elderB (yV HO_74) gb269 (Nat.le_of_eq hg.symm)) hb)
            replace HO_226000:=bR HO_226000 hb
            replace HO_226001:=bR HO_226001 hb
            replace HO_245000:=oN HO_245000 hg hb
            replace HO261:=bR HO261 hb
            have BK269:=am (hbox)
            have GW269:=ye HB hg
            replace HB:=yH HB hb
            have NB225_269:=yl BK225 hg
            have NB269_225:=yg BK225 hg
            replace BK225:=yb BK225 hb
            have NB226_269:=yl BK226 hg
            have NB269_226:=yg BK226 hg
            replace BK226:=yb BK226 hb
            have NB244_269:=yl BK244 hg
            have NB269_244:=yg BK244 hg
            replace BK244:=yb BK244 hb
            have GE269:=GW269
            clear hb hbox hg
            obtain ⟨Ao92,co92,eo92⟩:=Kd.R_slice HO261.out
            (first|subst eo92|(injection eo92 with f1_ f2_ f3_;have f4_:=f1_.symm;have f5_:=f3_.symm;clear f1_ f2_ f3_;subst f4_;subst f5_))
            refine hK.out _ _ ((blk_cell BK244.out 0).trans rfl) (fun hHeld=>?_)
            clear hK K
            refine norm_ (a':=?_) ?_ ?_
            rotate_left
            ·show Act.put _ (some 12) _=_
             simp only [Act.put,q1,q2,q3,i64_w,i32_w]
             rfl
            refine one_ (i:=5) (N:=some 98) #[Y,Y,Y,Y,Y,Y,Z,Z,Z,Z,Y,Z,Z] rfl rfl (one_of HT_.out D2) D6 (fun K hK=>?_)
            refine goes_ Try.func92 D2 rfl #[.agg #[.slice Ao65 t241.length co65], .slice Ao92 t259.length co92, .slice A1 l1.length c1] D10 rfl rfl D4 ?_
            with_reducible refine (spec_l2Part.calls k3 _ _ t241 _ _ t259 _ _ l1 t262 _ ?side1 ?side2 ?side3 ?side4 ?side5 ?side6 A85.out).mono ?_
            (case side1=>repeat (first|exact (Kd.N_reads' HO_245000.out).2.2|(with_reducible refine Kd.C_alloc ?_ _)|(with_reducible refine Kd.C_drewN ?_ _)|(with_reducible refine Kd.C_drew ?_)))
            (case side2=>exact (Kd.N_reads' HO_245000.out).2.1)
            (case side3=>repeat (first|exact (Kd.R_reads' HO261.out).2.2|(with_reducible refine Kd.C_alloc ?_ _)|(with_reducible refine Kd.C_drewN ?_ _)|(with_reducible refine Kd.C_drew ?_)))
            (case side4=>exact (Kd.R_reads' HO261.out).2.1)
            (case side5=>repeat (first|exact (Kd.C_below HR1.out HB.out)|(with_reducible refine Kd.C_alloc ?_ _)|(with_reducible refine Kd.C_drewN ?_ _)|(with_reducible refine Kd.C_drew ?_)))
            (case side6=>exact HC1.out)
            rintro e w93 ⟨v263,rfl,ho0,hb⟩
            refine ⟨_,rfl,?_⟩
            replace HO_74:=eV HO_74 D7 hb
            have HO264:=am (Kd.N_lower (Kd.N_mono (ok':=fun k_=>some k_ ≠ (u9:Value).ownBlock∧some k_ ≠ (.slice Ao61 x226000_2.length co61:Value).ownBlock∧some k_ ≠ (.slice Ao62 x226001_2.length co62:Value).ownBlock∧some k_ ≠ (.slice Ao65 t241.length co65:Value).ownBlock∧some k_ ≠ (.slice Ao92 t259.length co92:Value).ownBlock∧k_ ≠ gb225∧k_ ≠ gb226∧k_ ≠ gb244∧k_ ≠ gb269) (Kd.S_N (Kd.S_bound ho0)) (fun k_ hk_=>⟨(Kd.fresh' (Kd.R_lt (yR HO_9)) k_ hk_.2.1),(Kd.fresh' (Kd.R_lt (yR HO_226000)) k_ hk_.2.1),(Kd.fresh' (Kd.R_lt (yR HO_226001)) k_ hk_.2.1),(Kd.fresh' (Kd.N_lt (yN HO_245000)) k_ hk_.2.1),(Kd.fresh' (Kd.R_lt (yR HO261)) k_ hk_.2.1),(yz BK225 k_ hk_.2.1),(yz BK226 k_ hk_.2.1),(yz BK244 k_ hk_.2.1),(yz BK269 k_ hk_.2.1)⟩)) (pz (yW HB)))
            replace HO_9:=bR HO_9 hb
            replace HO_226000:=bR HO_226000 hb
            replace HO_226001:=bR HO_226001 hb
            replace HO_245000:=eN HO_245000 D7 hb
            replace HO261:=bR HO261 hb
            replace BK225:=yb BK225 hb
            replace BK226:=yb BK226 hb
            replace BK244:=yb BK244 hb
            replace BK269:=yb BK269 hb
            replace HB:=yH HB hb
            (try clear hb)
            (try clear hb2)
            (try clear hk)
            (try clear hi)
            (try clear ho0)
            obtain ⟨Ao94,co94,eo94⟩:=Kd.N_slice HO264.out
            (first|subst eo94|(injection eo94 with f1_ f2_ f3_;have f4_:=f1_.symm;have f5_:=f3_.symm;clear f1_ f2_ f3_;subst f4_;subst f5_))
            refine hK.out _ _ ((blk_cell BK244.out 0).trans rfl) (fun hHeld=>?_)
            clear hK K
            refine norm_ (a':=?_) ?_ ?_
            rotate_left
            ·show Act.put _ (some 98) _=_
             simp only [Act.put,q1,q2,q3,i64_w,i32_w]
             rfl
            refine one_ (i:=6) (N:=some 99) #[Y,Y,Y,Y,Y,Y,Y,Z,Z,Z,Y,Z,Z] rfl rfl (one_of HT_.out D2) D6 (fun K hK=>?_)
            refine goes_ Try.func91 D2 rfl #[.agg #[.slice Ao94 t262.length co94]] D10 rfl rfl D4 ?_
            with_reducible refine (spec_l2Inverse.calls _ _ t262 t265 true _ ?side1 ?side2 A86.out).mono ?_
            (case side1=>repeat (first|exact (Kd.N_reads' HO264.out).2.2|(with_reducible refine Kd.C_alloc ?_ _)|(with_reducible refine Kd.C_drewN ?_ _)|(with_reducible refine Kd.C_drew ?_)))
            (case side2=>exact (Kd.N_reads' HO264.out).2.1)
            rintro e w95 ⟨v266,rfl,ho0,hb⟩
            refine ⟨_,rfl,?_⟩
            replace HO_74:=eV HO_74 D7 hb
            have HO267:=am (Kd.N_lower (Kd.N_mono (ok':=fun k_=>some k_ ≠ (u9:Value).ownBlock∧some k_ ≠ (.slice Ao61 x226000_2.length co61:Value).ownBlock∧some k_ ≠ (.slice Ao62 x226001_2.length co62:Value).ownBlock∧some k_ ≠ (.slice Ao65 t241.length co65:Value).ownBlock∧some k_ ≠ (.slice Ao92 t259.length co92:Value).ownBlock∧some k_ ≠ (.slice Ao94 t262.length co94:Value).ownBlock∧k_ ≠ gb225∧k_ ≠ gb226∧k_ ≠ gb244∧k_ ≠ gb269) ho0 (fun k_ hk_=>⟨(Kd.fresh' (Kd.R_lt (yR HO_9)) k_ hk_),(Kd.fresh' (Kd.R_lt (yR HO_226000)) k_ hk_),(Kd.fresh' (Kd.R_lt (yR HO_226001)) k_ hk_),(Kd.fresh' (Kd.N_lt (yN HO_245000)) k_ hk_),(Kd.fresh' (Kd.R_lt (yR HO261)) k_ hk_),(Kd.fresh' (Kd.N_lt (yN HO264)) k_ hk_),(yz BK225 k_ hk_),(yz BK226 k_ hk_),(yz BK244 k_ hk_),(yz BK269 k_ hk_)⟩)) (pz (yW HB)))
            replace HO_9:=bR HO_9 hb
            replace HO_226000:=bR HO_226000 hb
            replace HO_226001:=bR HO_226001 hb
            replace HO_245000:=eN HO_245000 D7 hb
            replace HO261:=bR HO261 hb
            replace HO264:=eN HO264 D7 hb
            replace BK225:=yb BK225 hb
            replace BK226:=yb BK226 hb
            replace BK244:=yb BK244 hb
            replace BK269:=yb BK269 hb
            replace HB:=yH HB hb
            (try clear hb)
            (try clear hb2)
            (try clear hk)
            (try clear hi)
            (try clear ho0)
            refine hK.out _ _ ((blk_cell BK244.out 0).trans rfl) (fun hHeld=>?_)
            clear hK K
            refine norm_ (a':=?_) ?_ ?_
            rotate_left
            ·show Act.put _ (some 99) _=_
             simp only [Act.put,q1,q2,q3,i64_w,i32_w]
             rfl
            refine pure_ (i:=7) (N:=some 92) (v:=?_) (a':=?_) #[Y,Y,Y,Y,Y,Y,Y,Y,Z,Z,Y,Z,Z] rfl rfl (any_of HT_.out D2) hh (Or.inl ⟨D10,?_⟩) ?_ ?_
            rotate_left
            ·intro w'
             go_simp
             with_reducible rfl
            rotate_left
            ·simp only [Act.put,q1,q2,q3,i64_w,i32_w]
             rfl
            refine pure_ (i:=8) (N:=some 100) (v:=?_) (a':=?_) #[Y,Y,Y,Y,Y,Y,Y,Y,Y,Z,Y,Z,Z] rfl rfl (any_of HT_.out D2) hh (Or.inl ⟨D10,?_⟩) ?_ ?_
            rotate_left
            ·intro w'
             go_simp
             with_reducible rfl
            rotate_left
            ·simp only [Act.put,q1,q2,q3,i64_w,i32_w]
             rfl
            refine pure_ (i:=9) (N:=some 101) (v:=?_) (a':=?_) #[Y,Y,Y,Y,Y,Y,Y,Y,Y,Y,Y,Z,Z] rfl rfl (any_of HT_.out D2) hh (Or.inl ⟨D10,?_⟩) ?_ ?_
            rotate_left
            ·intro w'
             go_simp
             with_reducible rfl
            rotate_left
            ·simp only [Act.put,q1,q2,q3,i64_w,i32_w]
             rfl
            exact norm_ D18 (hCont (.slice Ao92 t259.length co92, .slice Ao94 t262.length co94,v266,gb269) _ ⟨hHeld,(yR HO261),D14,D11,D16,D15,D42,D31,(yR HO_9),(yB BK225),(yB BK226),(yB BK244),(yB BK269),GW269.out,GE269.out,NB225_269.out,NB269_225.out,NB226_269.out,NB269_226.out,NB244_269.out,NB269_244.out,(yW HB)⟩)
           skip
           refine box_step ?hg (N:=12) ?hd (cs:=#[.slice none 0 0]) (t:=43) ?hr ?_;(case hd=>rfl);(case hg=>rfl);(case hr=>first|(go_simp;done)|(go_simp;rfl))
           intro gb269 hg w90 hbox hb
           replace HO_9:=bR HO_9 hb
           replace HO_74:=am (Kd.V_below (Kd.V_elderB (yV HO_74) gb269 (Nat.le_of_eq hg.symm)) hb)
           replace HO_226000:=bR HO_226000 hb
           replace HO_226001:=bR HO_226001 hb
           replace HO_245000:=oN HO_245000 hg hb
           have BK269:=am (hbox)
           have GW269:=ye HB hg
           replace HB:=yH HB hb
           have NB225_269:=yl BK225 hg
           have NB269_225:=yg BK225 hg
           replace BK225:=yb BK225 hb
           have NB226_269:=yl BK226 hg
           have NB269_226:=yg BK226 hg
           replace BK226:=yb BK226 hb
           have NB244_269:=yl BK244 hg
           have NB269_244:=yg BK244 hg
           replace BK244:=yb BK244 hb
           have GE269:=GW269
           clear hb hbox hg
           refine hK.out _ _ ((blk_cell BK244.out 0).trans rfl) (fun hHeld=>?_)
           clear hK K
           refine norm_ (a':=?_) ?_ ?_
           rotate_left
           ·show Act.put _ (some 12) _=_
            simp only [Act.put,q1,q2,q3,i64_w,i32_w]
            rfl
           refine one_ (i:=3) (N:=some 96) #[Y,Y,Y,Y,Y,Z,Z,Z,Z,Z,Y,Z,Z] rfl rfl (one_of HT_.out D2) D6 (fun K hK=>?_)
           refine goes_ Try.func93 D2 rfl #[.int .i64 (l1.length:Int)] D10 rfl rfl D4 ?_
           with_reducible refine (spec_l3All.calls k3 (l1.length:Int) t259 _ A84.out).mono ?_
           rintro e w91 ⟨v260,rfl,ho0,hb⟩
           refine ⟨_,rfl,?_⟩
           replace HO_9:=bR HO_9 hb
           replace HO_74:=eV HO_74 (Kd.R_base ho0) hb
           replace HO_226000:=bR HO_226000 hb
           replace HO_226001:=bR HO_226001 hb
           replace HO_245000:=eN HO_245000 (Kd.R_base ho0) hb
           have HO261:=am (Kd.R_lower ho0 (pz (yW HB)))
           replace BK225:=yb BK225 hb
           replace BK226:=yb BK226 hb
           replace BK244:=yb BK244 hb
           replace BK269:=yb BK269 hb
           replace HB:=yH HB hb
           (try clear hb)
           (try clear hb2)
           (try clear hk)
           (try clear hi)
           (try clear ho0)
           obtain ⟨Ao92,co92,eo92⟩:=Kd.R_slice HO261.out
           (first|subst eo92|(injection eo92 with f1_ f2_ f3_;have f4_:=f1_.symm;have f5_:=f3_.symm;clear f1_ f2_ f3_;subst f4_;subst f5_))
           refine hK.out _ _ ((blk_cell BK244.out 0).trans rfl) (fun hHeld=>?_)
           clear hK K
           refine norm_ (a':=?_) ?_ ?_
           rotate_left
           ·show Act.put _ (some 96) _=_
            simp only [Act.put,q1,q2,q3,i64_w,i32_w]
            rfl
           refine one_ (i:=5) (N:=some 98) #[Y,Y,Y,Y,Y,Y,Z,Z,Z,Z,Y,Z,Z] rfl rfl (one_of HT_.out D2) D6 (fun K hK=>?_)
           refine goes_ Try.func92 D2 rfl #[.agg #[.slice Ao65 t241.length co65], .slice Ao92 t259.length co92, .slice A1 l1.length c1] D10 rfl rfl D4 ?_
           with_reducible refine (spec_l2Part.calls k3 _ _ t241 _ _ t259 _ _ l1 t262 _ ?side1 ?side2 ?side3 ?side4 ?side5 ?side6 A85.out).mono ?_
           (case side1=>repeat (first|exact (Kd.N_reads' HO_245000.out).2.2|(with_reducible refine Kd.C_alloc ?_ _)|(with_reducible refine Kd.C_drewN ?_ _)|(with_reducible refine Kd.C_drew ?_)))
           (case side2=>exact (Kd.N_reads' HO_245000.out).2.1)
           (case side3=>repeat (first|exact (Kd.R_reads' HO261.out).2.2|(with_reducible refine Kd.C_alloc ?_ _)|(with_reducible refine Kd.C_drewN ?_ _)|(with_reducible refine Kd.C_drew ?_)))
           (case side4=>exact (Kd.R_reads' HO261.out).2.1)
           (case side5=>repeat (first|exact (Kd.C_below HR1.out HB.out)|(with_reducible refine Kd.C_alloc ?_ _)|(with_reducible refine Kd.C_drewN ?_ _)|(with_reducible refine Kd.C_drew ?_)))
           (case side6=>exact HC1.out)
           rintro e w93 ⟨v263,rfl,ho0,hb⟩
           refine ⟨_,rfl,?_⟩
           replace HO_74:=eV HO_74 D7 hb
           have HO264:=am (Kd.N_lower (Kd.N_mono (ok':=fun k_=>some k_ ≠ (u9:Value).ownBlock∧some k_ ≠ (.slice Ao61 x226000_2.length co61:Value).ownBlock∧some k_ ≠ (.slice Ao62 x226001_2.length co62:Value).ownBlock∧some k_ ≠ (.slice Ao65 t241.length co65:Value).ownBlock∧some k_ ≠ (.slice Ao92 t259.length co92:Value).ownBlock∧k_ ≠ gb225∧k_ ≠ gb226∧k_ ≠ gb244∧k_ ≠ gb269) (Kd.S_N (Kd.S_bound ho0)) (fun k_ hk_=>⟨(Kd.fresh' (Kd.R_lt (yR HO_9)) k_ hk_.2.1),(Kd.fresh' (Kd.R_lt (yR HO_226000)) k_ hk_.2.1),(Kd.fresh' (Kd.R_lt (yR HO_226001)) k_ hk_.2.1),(Kd.fresh' (Kd.N_lt (yN HO_245000)) k_ hk_.2.1),(Kd.fresh' (Kd.R_lt (yR HO261)) k_ hk_.2.1),(yz BK225 k_ hk_.2.1),(yz BK226 k_ hk_.2.1),(yz BK244 k_ hk_.2.1),(yz BK269 k_ hk_.2.1)⟩)) (pz (yW HB)))
           replace HO_9:=bR HO_9 hb
           replace HO_226000:=bR HO_226000 hb
           replace HO_226001:=bR HO_226001 hb
           replace HO_245000:=eN HO_245000 D7 hb
           replace HO261:=bR HO261 hb
           replace BK225:=yb BK225 hb
           replace BK226:=yb BK226 hb
           replace BK244:=yb BK244 hb
           replace BK269:=yb BK269 hb
           replace HB:=yH HB hb
           (try clear hb)
           (try clear hb2)
           (try clear hk)
           (try clear hi)
           (try clear ho0)
           obtain ⟨Ao94,co94,eo94⟩:=Kd.N_slice HO264.out
           (first|subst eo94|(injection eo94 with f1_ f2_ f3_;have f4_:=f1_.symm;have f5_:=f3_.symm;clear f1_ f2_ f3_;subst f4_;subst f5_))
           refine hK.out _ _ ((blk_cell BK244.out 0).trans rfl) (fun hHeld=>?_)
           clear hK K
           refine norm_ (a':=?_) ?_ ?_
           rotate_left
           ·show Act.put _ (some 98) _=_
            simp only [Act.put,q1,q2,q3,i64_w,i32_w]
            rfl
           refine one_ (i:=6) (N:=some 99) #[Y,Y,Y,Y,Y,Y,Y,Z,Z,Z,Y,Z,Z] rfl rfl (one_of HT_.out D2) D6 (fun K hK=>?_)
           refine goes_ Try.func91 D2 rfl #[.agg #[.slice Ao94 t262.length co94]] D10 rfl rfl D4 ?_
           with_reducible refine (spec_l2Inverse.calls _ _ t262 t265 true _ ?side1 ?side2 A86.out).mono ?_
           (case side1=>repeat (first|exact (Kd.N_reads' HO264.out).2.2|(with_reducible refine Kd.C_alloc ?_ _)|(with_reducible refine Kd.C_drewN ?_ _)|(with_reducible refine Kd.C_drew ?_)))
           (case side2=>exact (Kd.N_reads' HO264.out).2.1)
           rintro e w95 ⟨v266,rfl,ho0,hb⟩
           refine ⟨_,rfl,?_⟩
           replace HO_74:=eV HO_74 D7 hb
           have HO267:=am (Kd.N_lower (Kd.N_mono (ok':=fun k_=>some k_ ≠ (u9:Value).ownBlock∧some k_ ≠ (.slice Ao61 x226000_2.length co61:Value).ownBlock∧some k_ ≠ (.slice Ao62 x226001_2.length co62:Value).ownBlock∧some k_ ≠ (.slice Ao65 t241.length co65:Value).ownBlock∧some k_ ≠ (.slice Ao92 t259.length co92:Value).ownBlock∧some k_ ≠ (.slice Ao94 t262.length co94:Value).ownBlock∧k_ ≠ gb225∧k_ ≠ gb226∧k_ ≠ gb244∧k_ ≠ gb269) ho0 (fun k_ hk_=>⟨(Kd.fresh' (Kd.R_lt (yR HO_9)) k_ hk_),(Kd.fresh' (Kd.R_lt (yR HO_226000)) k_ hk_),(Kd.fresh' (Kd.R_lt (yR HO_226001)) k_ hk_),(Kd.fresh' (Kd.N_lt (yN HO_245000)) k_ hk_),(Kd.fresh' (Kd.R_lt (yR HO261)) k_ hk_),(Kd.fresh' (Kd.N_lt (yN HO264)) k_ hk_),(yz BK225 k_ hk_),(yz BK226 k_ hk_),(yz BK244 k_ hk_),(yz BK269 k_ hk_)⟩)) (pz (yW HB)))
           replace HO_9:=bR HO_9 hb
           replace HO_226000:=bR HO_226000 hb
           replace HO_226001:=bR HO_226001 hb
           replace HO_245000:=eN HO_245000 D7 hb
           replace HO261:=bR HO261 hb
           replace HO264:=eN HO264 D7 hb
           replace BK225:=yb BK225 hb
           replace BK226:=yb BK226 hb
           replace BK244:=yb BK244 hb
           replace BK269:=yb BK269 hb
           replace HB:=yH HB hb
           (try clear hb)
           (try clear hb2)
           (try clear hk)
           (try clear hi)
           (try clear ho0)
           refine hK.out _ _ ((blk_cell BK244.out 0).trans rfl) (fun hHeld=>?_)
           clear hK K
           refine norm_ (a':=?_) ?_ ?_
           rotate_left
           ·show Act.put _ (some 99) _=_
            simp only [Act.put,q1,q2,q3,i64_w,i32_w]
            rfl
           refine pure_ (i:=7) (N:=some 92) (v:=?_) (a':=?_) #[Y,Y,Y,Y,Y,Y,Y,Y,Z,Z,Y,Z,Z] rfl rfl (any_of HT_.out D2) hh (Or.inl ⟨D10,?_⟩) ?_ ?_
           rotate_left
           ·intro w'
            go_simp
            with_reducible rfl
           rotate_left
           ·simp only [Act.put,q1,q2,q3,i64_w,i32_w]
            rfl
           refine pure_ (i:=8) (N:=some 100) (v:=?_) (a':=?_) #[Y,Y,Y,Y,Y,Y,Y,Y,Y,Z,Y,Z,Z] rfl rfl (any_of HT_.out D2) hh (Or.inl ⟨D10,?_⟩) ?_ ?_
           rotate_left
           ·intro w'
            go_simp
            with_reducible rfl
           rotate_left
           ·simp only [Act.put,q1,q2,q3,i64_w,i32_w]
            rfl
           refine pure_ (i:=9) (N:=some 101) (v:=?_) (a':=?_) #[Y,Y,Y,Y,Y,Y,Y,Y,Y,Y,Y,Z,Z] rfl rfl (any_of HT_.out D2) hh (Or.inl ⟨D10,?_⟩) ?_ ?_
           rotate_left
           ·intro w'
            go_simp
            with_reducible rfl
           rotate_left
           ·simp only [Act.put,q1,q2,q3,i64_w,i32_w]
            rfl
           exact norm_ D18 (hCont (.slice Ao92 t259.length co92, .slice Ao94 t262.length co94,v266,gb269) _ ⟨hHeld,(yR HO261),D14,D11,D16,D15,D41,D30,(yR HO_9),(yB BK225),(yB BK226),(yB BK244),(yB BK269),GW269.out,GE269.out,NB225_269.out,NB269_225.out,NB226_269.out,NB269_226.out,NB244_269.out,NB269_244.out,(yW HB)⟩)
          rintro ⟨v260,v263,v266,gb269⟩ w96 ⟨hS_,h0_,h1_,h2_,h3_,h4_,h5_,h6_,h7_,h8_,h9_,h10_,h11_,h12_,h13_,h14_,h15_,h16_,h17_,h18_,h19_,h20_⟩
          have n0_:Aside0 (Kd.R (Kd.int .i64) 3 w96 w.heap.size (fun _=>True) v260 t259):=⟨h0_⟩
          have n1_:Aside0 (Kd.N (Kd.slice 5 (Kd.int .u8)) 57 w96 w.heap.size (fun k_=>some k_ ≠ (v260:Value).ownBlock∧some k_ ≠ (v266:Value).ownBlock∧some k_ ≠ (.slice Ao61 x226000_2.length co61:Value).ownBlock∧some k_ ≠ (.slice Ao62 x226001_2.length co62:Value).ownBlock∧some k_ ≠ (.slice Ao65 t241.length co65:Value).ownBlock∧some k_ ≠ (u9:Value).ownBlock∧k_ ≠ gb225∧k_ ≠ gb226∧k_ ≠ gb244∧k_ ≠ gb269) v263 t262):=⟨h1_⟩
          have n2_:Aside0 (Kd.N (Kd.slice 5 (Kd.int .u8)) 57 w96 w.heap.size (fun k_=>some k_ ≠ (v260:Value).ownBlock∧some k_ ≠ (v263:Value).ownBlock∧some k_ ≠ (.slice Ao61 x226000_2.length co61:Value).ownBlock∧some k_ ≠ (.slice Ao62 x226001_2.length co62:Value).ownBlock∧some k_ ≠ (.slice Ao65 t241.length co65:Value).ownBlock∧some k_ ≠ (u9:Value).ownBlock∧k_ ≠ gb225∧k_ ≠ gb226∧k_ ≠ gb244∧k_ ≠ gb269) v266 t265):=⟨h2_⟩
          have n3_:Aside0 (Kd.R Kd.string 9 w96 w.heap.size (fun k_=>some k_ ≠ (.slice Ao62 x226001_2.length co62:Value).ownBlock∧some k_ ≠ (u9:Value).ownBlock) (.slice Ao61 x226000_2.length co61) x226000_2):=⟨h3_⟩
          have n4_:Aside0 (Kd.R Kd.string 9 w96 w.heap.size (fun k_=>some k_ ≠ (.slice Ao61 x226000_2.length co61:Value).ownBlock∧some k_ ≠ (u9:Value).ownBlock) (.slice Ao62 x226001_2.length co62) x226001_2):=⟨h4_⟩
          have n5_:Aside0 (Kd.N (Kd.slice 5 (Kd.int .u8)) 57 w96 w.heap.size (fun k_=>some k_ ≠ (v260:Value).ownBlock∧some k_ ≠ (v263:Value).ownBlock∧some k_ ≠ (v266:Value).ownBlock∧some k_ ≠ (.slice Ao61 x226000_2.length co61:Value).ownBlock∧some k_ ≠ (.slice Ao62 x226001_2.length co62:Value).ownBlock∧some k_ ≠ (u9:Value).ownBlock∧k_ ≠ gb225∧k_ ≠ gb226∧k_ ≠ gb244∧k_ ≠ gb269) (.slice Ao65 t241.length co65) t241):=⟨h5_⟩
          have n6_:Aside0 (Kd.V Kd.string 9 w96 w.heap.size (fun k_=>some k_ ≠ (v260:Value).ownBlock∧some k_ ≠ (v263:Value).ownBlock∧some k_ ≠ (v266:Value).ownBlock∧some k_ ≠ (.slice Ao61 x226000_2.length co61:Value).ownBlock∧some k_ ≠ (.slice Ao62 x226001_2.length co62:Value).ownBlock∧some k_ ≠ (.slice Ao65 t241.length co65:Value).ownBlock∧some k_ ≠ (u9:Value).ownBlock∧k_ ≠ gb225∧k_ ≠ gb226∧k_ ≠ gb244∧k_ ≠ gb269) (.slice Ao72 y248.length co72) y248):=⟨h6_⟩
          have n7_:Aside0 (Kd.R Kd.string 9 w96 w.heap.size (fun k_=>some k_ ≠ (.slice Ao61 x226000_2.length co61:Value).ownBlock∧some k_ ≠ (.slice Ao62 x226001_2.length co62:Value).ownBlock) u9 x9_3):=⟨h7_⟩
          have n8_:Aside0 (w96.heap[gb225]? = some (.cells #[.slice Ao61 x226000_2.length co61, .slice Ao62 x226001_2.length co62] 27 (0,0))):=⟨h8_⟩
          have n9_:Aside0 (w96.heap[gb226]? = some (.cells #[.slice none 0 0, .slice none 0 0] 27 (0,0))):=⟨h9_⟩
          have n10_:Aside0 (w96.heap[gb244]? = some (.cells #[.slice Ao65 t241.length co65] 43 (0,0))):=⟨h10_⟩
          have n11_:Aside0 (w96.heap[gb269]? = some (.cells #[.slice none 0 0] 43 (0,0))):=⟨h11_⟩
          have n12_:Aside0 (w.heap.size≤gb269):=⟨h12_⟩
          have n13_:Aside0 (w.heap.size≤gb269):=⟨h13_⟩
          have n14_:Aside0 (gb225 ≠ gb269):=⟨h14_⟩
          have n15_:Aside0 (gb269 ≠ gb225):=⟨h15_⟩
          have n16_:Aside0 (gb226 ≠ gb269):=⟨h16_⟩
          have n17_:Aside0 (gb269 ≠ gb226):=⟨h17_⟩
          have n18_:Aside0 (gb244 ≠ gb269):=⟨h18_⟩
          have n19_:Aside0 (gb269 ≠ gb244):=⟨h19_⟩
          have n20_:Aside0 (Below w.heap.size w w96):=⟨h20_⟩
          clear HO_9
          clear HO_74
          clear HO_226000
          clear HO_226001
          clear HO_245000
          clear BK225
          clear BK226
          clear BK244
          clear HB
          clear h0_ h1_ h2_ h3_ h4_ h5_ h6_ h7_ h8_ h9_ h10_ h11_ h12_ h13_ h14_ h15_ h16_ h17_ h18_ h19_ h20_
          have HO261:=n0_
          have HO264:=n1_
          have HO267:=n2_
          have HO_226000:=n3_
          have HO_226001:=n4_
          have HO_245000:=n5_
          have HO_74:=n6_
          have HO_9:=n7_
          have BK225:=n8_
          have BK226:=n9_
          have BK244:=n10_
          have BK269:=n11_
          have GW269:=n12_
          have GE269:=n13_
          have NB225_269:=n14_
          have NB269_225:=n15_
          have NB226_269:=n16_
          have NB269_226:=n17_
          have NB244_269:=n18_
          have NB269_244:=n19_
          have HB:=n20_
          clear n0_ n1_ n2_ n3_ n4_ n5_ n6_ n7_ n8_ n9_ n10_ n11_ n12_ n13_ n14_ n15_ n16_ n17_ n18_ n19_ n20_
          have hHeld:w96.cell? ⟨gb244,0,none⟩=some (.slice Ao65 t241.length co65):=hS_
          obtain ⟨Ao97,co97,eo97⟩:=Kd.N_slice HO267.out
          (first|subst eo97|(injection eo97 with f1_ f2_ f3_;have f4_:=f1_.symm;have f5_:=f3_.symm;clear f1_ f2_ f3_;subst f4_;subst f5_))
          refine norm_ (a':=?_) ?_ ?_
          rotate_left
          ·simp only [putAll,Act.put,q1,q2,q3]
           rfl
          refine one_ (i:=11) (N:=none) #[Y,Y,Y,Y,Y,Y,Y,Y,Y,Y,Y,Y,Z] rfl rfl (one_of HT_.out D2) D6 (fun K hK=>?_)
          have hs98:w96.cell? ⟨gb269,0,none⟩=some (.slice none 0 0):=(blk_cell BK269.out 0).trans rfl
          have hfs98:=blk_frozen BK269.out 0
          have hns98_0:=NB225_269.out
          have hns98_1:=NB226_269.out
          have hns98_2:=NB244_269.out
          have hms98_0:=NB269_225.out
          have hms98_1:=NB269_226.out
          have hms98_2:=NB269_244.out
          refine skip_ (w1:=?_) D10 rfl ?_ ?_
          rotate_left
          ·go_simp
           rfl
          refine hK.out _ _ (((cell_far (p:=⟨gb269,_,none⟩) NB244_269.out _).trans (hHeld))) (fun hHeld=>?_)
          clear hK K
          refine pure_ (i:=12) (N:=some 13) (v:=?_) (a':=?_) #[Y,Y,Y,Y,Y,Y,Y,Y,Y,Y,Y,Y,Y] rfl rfl (any_of HT_.out D2) hh (Or.inl ⟨D10,?_⟩) ?_ ?_
          rotate_left
          ·intro w'
           go_simp
           with_reducible rfl
          rotate_left
          ·simp only [Act.put,q1,q2,q3,i64_w,i32_w]
           rfl
          refine done_ (done_of HT_.out D2) ?_
          have hnb99:=NB269_225.out
          have hnc99:=NB225_269.out
          have hnb100:=NB269_226.out
          have hnc100:=NB226_269.out
          have hnb101:=NB269_244.out
          have hnc101:=NB244_269.out
          obtain ⟨hcz102_0,hfz102_0⟩:=yk1 BK269
          obtain ⟨Ao103,co103,eo103⟩:=Kd.R_slice HO_9.out
          subst eo103
          try go_wp2_with (first|(refine gC 89 ?_;refine gM (some 107) Try.func89 (args:=#[.agg #[.slice Ao97 t265.length co97], .slice Ao103 x9_3.length co103]) (spec_l3Rows.calls k3 _ _ t265 _ _ x9_3 t270 _ ?side1 ?side2 ?side3 ?side4 A88.out) ?_;(case side1=>refine (Kd.N_reads' (e:=57) (base:=w.heap.size) (ok:=fun k_=>(some k_ ≠ (v260:Value).ownBlock∧(some k_ ≠ (v263:Value).ownBlock∧(some k_ ≠ (.slice Ao61 x226000_2.length co61:Value).ownBlock∧(some k_ ≠ (.slice Ao62 x226001_2.length co62:Value).ownBlock∧(some k_ ≠ (.slice Ao65 t241.length co65:Value).ownBlock∧(some k_ ≠ (.slice Ao103 x9_3.length co103:Value).ownBlock∧(k_ ≠ gb225∧(k_ ≠ gb226∧(k_ ≠ gb244∧k_ ≠ gb269)))))))))) (n:=t265.length) (c:=co97) ?_).2.2;exact D51);(case side2=>exact (Kd.N_reads' HO267.out).2.1);(case side3=>refine (Kd.R_reads' (e:=9) (base:=w.heap.size) (ok:=fun k_=>(some k_ ≠ (.slice Ao61 x226000_2.length co61:Value).ownBlock∧some k_ ≠ (.slice Ao62 x226001_2.length co62:Value).ownBlock)) (n:=x9_3.length) (c:=co103) ?_).2.2;exact D24);(case side4=>exact (Kd.R_reads' HO_9.out).2.1);rintro e w104 ⟨v271,rfl,ho0,hb⟩;refine ⟨_,rfl,?_⟩;replace HO_74:=am (Kd.V_elder' (by refine sV ?_;exact (Kd.V_mono (Kd.V_far (p:=⟨gb269,0,none⟩) (Kd.V_mono HO_74.out (fun k_ hk=>(⟨hk,hk.2.2.2.2.2.2.2.2.2.2⟩:_∧k_ ≠ gb269))) (fun _ hk=>hk.2) (.slice Ao97 t265.length co97)) (fun _ h_=>h_.1))) (Kd.R_base ho0) hb);replace HO_245000:=am (Kd.N_elder' (by refine sN ?_;exact (Kd.N_mono (Kd.N_far (p:=⟨gb269,0,none⟩) (Kd.N_mono HO_245000.out (fun k_ hk=>(⟨hk,hk.2.2.2.2.2.2.2.2.2⟩:_∧k_ ≠ gb269))) (fun _ hk=>hk.2) (.slice Ao97 t265.length co97)) (fun _ h_=>h_.1))) (Kd.R_base ho0) hb);replace HO261:=am (Kd.R_below (by refine sR ?_;exact (Kd.R_mono (Kd.R_far (p:=⟨gb269,0,none⟩) (Kd.R_types HO261.out BK269.out D6) (fun _ hk=>hk.2) (.slice Ao97 t265.length co97)) (fun _ h_=>h_.1))) hb);replace HO264:=am (Kd.N_elder' (by refine sN ?_;exact (Kd.N_mono (Kd.N_far (p:=⟨gb269,0,none⟩) (Kd.N_mono HO264.out (fun k_ hk=>(⟨hk,hk.2.2.2.2.2.2.2.2.2⟩:_∧k_ ≠ gb269))) (fun _ hk=>hk.2) (.slice Ao97 t265.length co97)) (fun _ h_=>h_.1))) (Kd.R_base ho0) hb);replace HO267:=am (Kd.N_elder' D51 (Kd.R_base ho0) hb);have HO272:=am (Kd.R_lower (Kd.R_new' (Kd.R_new' (Kd.R_new' ho0 (Kd.R_lt D24)) (Kd.R_lt D56)) (Kd.R_lt D55)) (pz (yW HB)));replace HO_9:=am (Kd.R_elder' D24 (Kd.R_base ho0) hb);replace HO_226000:=am (Kd.R_elder' D56 (Kd.R_base ho0) hb);replace HO_226001:=am (Kd.R_elder' D55 (Kd.R_base ho0) hb);replace BK225:=am (qb (g:=gb225) (o:=.cells #[.slice Ao61 x226000_2.length co61, .slice Ao62 x226001_2.length co62] 27 (0,0)) (yF BK225) hb);replace BK226:=am (qb (g:=gb226) (o:=.cells #[.slice none 0 0, .slice none 0 0] 27 (0,0)) (yF BK226) hb);replace BK244:=am (qb (g:=gb244) (o:=.cells #[.slice Ao65 t241.length co65] 43 (0,0)) (yF BK244) hb);replace BK269:=am (qb (g:=gb269) (o:=.cells #[.slice Ao97 t265.length co97] 43 (0,0)) (by refine sB ?_;refine blk_put (cs:=#[.slice none 0 0]) ?_ 0 _ rfl;exact yB BK269) hb);replace HB:=yH HB hb;clear hb ho0;obtain ⟨Ao105,co105,eo105⟩:=Kd.R_slice HO272.out;subst eo105))
          go_loopg [109] k3 (fun kq v109 w'=>∃ (x107_4:List ByteArray) (x109_4:Int) (x226000_4:List ByteArray) (x226001_4:List ByteArray) (u226000:Value) (u226001:Value),v109 = .int .i64 x109_4∧Aside0 (spec_MendStripe.l2 kq l1 x107_4 (t270.length:Int) x109_4 x226000_4 x226001_4=some (r1,r2,r3))∧Aside0 (kq≤k3)∧Aside0 (Kd.R Kd.string 9 w' w.heap.size (fun k_=>some k_ ≠ (u226000:Value).ownBlock∧some k_ ≠ (u226001:Value).ownBlock) (.slice Ao105 t270.length co105) x107_4)∧Aside0 (Kd.R Kd.string 9 w' w.heap.size (fun k_=>some k_ ≠ ((.slice Ao105 t270.length co105):Value).ownBlock∧some k_ ≠ (u226001:Value).ownBlock) u226000 x226000_4)∧Aside0 (Kd.R Kd.string 9 w' w.heap.size (fun k_=>some k_ ≠ ((.slice Ao105 t270.length co105):Value).ownBlock∧some k_ ≠ (u226000:Value).ownBlock) u226001 x226001_4)∧Aside0 (Kd.N (Kd.slice 5 (Kd.int .u8)) 57 w' w.heap.size (fun k_=>some k_ ≠ ((.slice Ao105 t270.length co105):Value).ownBlock∧some k_ ≠ (u226000:Value).ownBlock∧some k_ ≠ (u226001:Value).ownBlock∧some k_ ≠ ((.slice Ao97 t265.length co97):Value).ownBlock∧k_ ≠ gb225∧k_ ≠ gb226∧k_ ≠ gb244∧k_ ≠ gb269) (.slice Ao65 t241.length co65) t241)∧Aside0 (Kd.N (Kd.slice 5 (Kd.int .u8)) 57 w' w.heap.size (fun k_=>some k_ ≠ ((.slice Ao105 t270.length co105):Value).ownBlock∧some k_ ≠ (u226000:Value).ownBlock∧some k_ ≠ (u226001:Value).ownBlock∧some k_ ≠ ((.slice Ao65 t241.length co65):Value).ownBlock∧k_ ≠ gb225∧k_ ≠ gb226∧k_ ≠ gb244∧k_ ≠ gb269) (.slice Ao97 t265.length co97) t265)∧Aside0 (w'.heap[gb225]? = some (.cells #[u226000,u226001] 27 (0,0)))∧Aside0 (w'.heap[gb226]? = some (.cells #[(.slice none 0 0),(.slice none 0 0)] 27 (0,0)))∧Aside0 (w'.heap[gb244]? = some (.cells #[(.slice Ao65 t241.length co65)] 43 (0,0)))∧Aside0 (w'.heap[gb269]? = some (.cells #[(.slice Ao97 t265.length co97)] 43 (0,0)))∧Aside0 (Below w.heap.size w w'))
          case atStart=>exact ⟨(t270),(0),(x226000_2),(x226001_2),(.slice Ao61 x226000_2.length co61),(.slice Ao62 x226001_2.length co62),D1,H',⟨Nat.le_refl _⟩,⟨by refine sR ?_;exact Kd.R_mono HO272.out (fun _ hk=>⟨hk.1.2,hk.2⟩)⟩,⟨by refine sR ?_;exact Kd.R_mono HO_226000.out (fun _ hk=>⟨hk.2,hk.1.1⟩)⟩,⟨by refine sR ?_;exact Kd.R_mono HO_226001.out (fun _ hk=>⟨hk.2,hk.1.1⟩)⟩,⟨by refine sN ?_;exact Kd.N_mono HO_245000.out (fun _ hk=>⟨hk.2,⟨hk.1.2.2.2.1,⟨hk.1.2.2.2.2.1,⟨hk.1.2.2.1,⟨hk.1.2.2.2.2.2.2.1,⟨hk.1.2.2.2.2.2.2.2.1,⟨hk.1.2.2.2.2.2.2.2.2.1,hk.1.2.2.2.2.2.2.2.2.2⟩⟩⟩⟩⟩⟩⟩)⟩,⟨by refine sN ?_;exact Kd.N_mono HO267.out (fun _ hk=>⟨hk.2,⟨hk.1.2.2.1,⟨hk.1.2.2.2.1,⟨hk.1.2.2.2.2.1,⟨hk.1.2.2.2.2.2.2.1,⟨hk.1.2.2.2.2.2.2.2.1,⟨hk.1.2.2.2.2.2.2.2.2.1,hk.1.2.2.2.2.2.2.2.2.2⟩⟩⟩⟩⟩⟩⟩)⟩,⟨yB BK225⟩,⟨yB BK226⟩,⟨yB BK244⟩,⟨yB BK269⟩,⟨yW HB⟩⟩
          case round =>
           clear H'
           try clear c1
           try clear p2
           try clear c8
           try clear c9
           try clear c10
           try clear c89
           try clear c91
           try clear c92
           try clear c93
           try clear c99
           try clear c100
           try clear c101
           try clear hcz102_0
           try clear hfz102_0
           try clear HO_107
           try clear HO_226000
           try clear HO_226001
           try clear HO_245000
           try clear HO_270000
           try clear BK225
           try clear BK226
           try clear BK244
           try clear BK269
           try clear HB
           obtain ⟨x107_4,x109_4,x226000_4,x226001_4,u226000,u226001,rfl,HA,HK4,HO_107,HO_226000,HO_226001,HO_245000,HO_270000,BK225,BK226,BK244,BK269,HB⟩:=hrel
           have hl107_4:=(Kd.R_reads' HO_107.out).1
           rw [hl107_4] at HO_107
           (try simp only [hl107_4])
           (try simp only [hl107_4] at BK225)
           (try simp only [hl107_4] at BK226)
           (try simp only [hl107_4] at BK244)
           (try simp only [hl107_4] at BK269)
           (try simp only [hl107_4] at HO_226000)
           (try simp only [hl107_4] at HO_226001)
           (try simp only [hl107_4] at HO_245000)
           (try simp only [hl107_4] at HO_270000)
           cases gk with
           | zero=>exact absurd HA.out (by simp [spec_MendStripe.l2])
           | succ k4 =>
            have H:=HA.out
            clear HA
            simp only [spec_MendStripe.l2] at H
            by_cases c106:x109_4 < (t270.length:Int)
            ·rw [if_pos c106] at H
             have c106b0:=decide_eq_true c106
             clear c106
             by_cases c107:0≤x109_4
             ·rw [if_pos c107] at H
              have c107b0:=decide_eq_true c107
              clear c107
              by_cases c108:x109_4 < (x107_4.length:Int)
              ·rw [if_pos c108] at H
               have c108b0:=decide_eq_true c108
               clear c108
               by_cases c109:x109_4 < (l1.length:Int)
               ·rw [if_pos c109] at H
                have c109b0:=decide_eq_true c109
                clear c109
                by_cases c110:0≤(rd l1 x109_4)
                ·rw [if_pos c110] at H
                 have c110b0:=decide_eq_true c110
                 clear c110
                 by_cases c111:(rd l1 x109_4) < (x226000_4.length:Int)
                 ·rw [if_pos c111] at H
                  have c111b0:=decide_eq_true c111
                  clear c111
                  generalize hy275:(x226000_4.set ((rd l1 x109_4):Int).toNat (rdOf ByteArray.empty x107_4 x109_4):List ByteArray)=y275 at H
                  have Ny275:=am hy275.symm
                  clear hy275
                  have H':=am H
                  clear H
                  have p273:0≤(x109_4:Int):=od D0
                  have q273:x109_4 < (x107_4.length:Int):=od D0
                  obtain ⟨ad273,e273,hx273_0⟩:=Kd.at_string (Kd.R_reads' HO_107.out).2.2 x109_4 p273 q273
                  cases e273
                  replace p273:=eq_true p273
                  replace q273:=eq_true q273
                  try go_wp2
                  replace HO_107:=am (Kd.R_drew HO_107.out)
                  replace HO_226000:=am (Kd.R_drew HO_226000.out)
                  replace HO_226001:=am (Kd.R_drew HO_226001.out)
                  replace HO_245000:=am (Kd.N_drew HO_245000.out)
                  replace HO_270000:=am (Kd.N_drew HO_270000.out)
                  replace BK225:=am (qd BK225.out)
                  replace BK226:=am (qd BK226.out)
                  replace BK244:=am (qd BK244.out)
                  replace BK269:=am (qd BK269.out)
                  replace HB:=am (pd HB.out)
                  have p274:0≤(x109_4:Int):=od D0
                  have q274:x109_4 < (l1.length:Int):=od D0
                  obtain ⟨ad274,e274,hx274_0⟩:=Kd.at_int HR1.out x109_4 p274 q274
                  have hw274_0:=hx274_0
                  cases e274
                  replace hx274_0:=(HB.out.cell (World.block_lt_of_cell? w _ hx274_0)).trans hx274_0
                  replace p274:=eq_true p274
                  replace q274:=eq_true q274
                  have p112:0≤((rd l1 x109_4):Int):=od D0
                  have q112:((rd l1 x109_4):Int) < ((x226000_4.length:Int):Int):=od D0
                  obtain ⟨go112,co112,eo112,gb112,gl112,cl112,HG112⟩:=Kd.R_form HO_226000.out D8
                  (first|cases eo112|(injection eo112 with ea_ en_ ec_;(first|subst ea_|(injection ea_ with ea_;subst ea_));subst ec_;clear en_))
                  have GB112:=am gb112
                  have GG112:=am HG112
                  clear gb112 gl112 HG112
                  obtain ⟨hx112_0,hf112_0⟩:=Kd.R_celln (⟨#[]⟩:ByteArray) HO_226000.out ((rd l1 x109_4):Int) p112 q112
                  replace p112:=eq_true p112
                  replace q112:=eq_true q112
                  have HP114:=Kd.R_putn HO_226000.out ((rd l1 x109_4):Int) (rdOf ByteArray.empty x107_4 x109_4)
                  rw [← Ny275.out] at HP114
                  have HQ114:=am HP114
                  clear HP114
                  refine rS (n:=9) (S:=fun w'=>w'.cell? ⟨gb225,0,none⟩=some (.slice (some ⟨go112,0,none⟩) x226000_4.length co112)∧w'.cell? ⟨gb225,1,none⟩=some (u226001)∧w'.cell? (ad274.add (x109_4).toNat)=some (.int .i64 (rd l1 x109_4))) (ds:=[8]) [(0,114),(2,116),(3,117),(4,118),(6,120),(1,115),(5,119),(7,121),(8,0)] D2 rfl spec_MendStripe.tab24 spec_MendStripe.bits24 ⟨(blk_cell BK225.out 0).trans rfl,(blk_cell BK225.out 1).trans rfl,((HB.out.cell (World.block_lt_of_cell? w _ hw274_0)).trans hw274_0)⟩ (fun hHeld HT_ HW_=>?_)
                  generalize wr.drew=w113 at HO_107 HO_226000 HO_226001 HO_245000 HO_270000 BK225 BK226 BK244 BK269 HB GG112 HQ114 hf112_0 hx112_0 hx274_0 hHeld ⊢
                  refine rR ?_
                  refine rL (N:=none) HT_ rfl rfl D2 D6 (fun K hK=>?_)
                  refine skip_ (w1:=?_) D10 rfl ?_ ?_
                  rotate_left
                  ·go_simp
                   rfl
                  refine hK.out _ _ ?_
                  clear hK K
                  refine rD HT_ D2 ?_
                  try go_wp2
                  (try simp only [← hl107_4])
                  go_roundg k4
                  case measure=>have:=HJ2.out;have:=HK2.out;have:=HK3.out;have:=HK4.out;omega
                  case rel=>exact ⟨(x107_4),(wrap64 (x109_4+1)),(y275),(x226001_4),(.slice (some ⟨go112,0,none⟩) x226000_4.length co112),(u226001),D1,H',⟨D53⟩,⟨by (try simp only [hl107_4]);refine sR ?_;exact Kd.R_mono (Kd.R_far (p:=⟨go112,((rd l1 x109_4):Int).toNat,none⟩) (Kd.R_mono HO_107.out (fun k_ hk=>(⟨hk,fun e_=>hk.1 D45⟩:_∧k_ ≠ go112))) (fun _ hk=>hk.2) (.string (rdOf ByteArray.empty x107_4 x109_4))) (fun _ hk=>⟨hk.1.1,hk.1.2⟩)⟩,⟨by (try simp only [hl107_4]);refine sR ?_;exact HQ114.out⟩,⟨by (try simp only [hl107_4]);refine sR ?_;exact Kd.R_mono (Kd.R_far (p:=⟨go112,((rd l1 x109_4):Int).toNat,none⟩) (Kd.R_mono HO_226001.out (fun k_ hk=>(⟨hk,fun e_=>hk.2 D45⟩:_∧k_ ≠ go112))) (fun _ hk=>hk.2) (.string (rdOf ByteArray.empty x107_4 x109_4))) (fun _ hk=>⟨hk.1.1,hk.1.2⟩)⟩,⟨by (try simp only [hl107_4]);refine sN ?_;exact Kd.N_mono (Kd.N_far (p:=⟨go112,((rd l1 x109_4):Int).toNat,none⟩) (Kd.N_mono HO_245000.out (fun k_ hk=>(⟨hk,fun e_=>hk.2.1 D45⟩:_∧k_ ≠ go112))) (fun _ hk=>hk.2) (.string (rdOf ByteArray.empty x107_4 x109_4))) (fun _ hk=>⟨hk.1.1,⟨hk.1.2.1,⟨hk.1.2.2.1,⟨hk.1.2.2.2.1,⟨hk.1.2.2.2.2.1,⟨hk.1.2.2.2.2.2.1,⟨hk.1.2.2.2.2.2.2.1,hk.1.2.2.2.2.2.2.2⟩⟩⟩⟩⟩⟩⟩)⟩,⟨by (try simp only [hl107_4]);refine sN ?_;exact Kd.N_mono (Kd.N_far (p:=⟨go112,((rd l1 x109_4):Int).toNat,none⟩) (Kd.N_mono HO_270000.out (fun k_ hk=>(⟨hk,fun e_=>hk.2.1 D45⟩:_∧k_ ≠ go112))) (fun _ hk=>hk.2) (.string (rdOf ByteArray.empty x107_4 x109_4))) (fun _ hk=>⟨hk.1.1,⟨hk.1.2.1,⟨hk.1.2.2.1,⟨hk.1.2.2.2.1,⟨hk.1.2.2.2.2.1,⟨hk.1.2.2.2.2.2.1,⟨hk.1.2.2.2.2.2.2.1,hk.1.2.2.2.2.2.2.2⟩⟩⟩⟩⟩⟩⟩)⟩,⟨by (try simp only [hl107_4]);refine sB ?_;refine blk_far ?_ (by have h_:=Kd.R_ne HO_226000.out BK225.out D6;intro e_;exact h_ D45) _;exact yB BK225⟩,⟨by (try simp only [hl107_4]);refine sB ?_;refine blk_far ?_ (by have h_:=Kd.R_ne HO_226000.out BK226.out D6;intro e_;exact h_ D45) _;exact yB BK226⟩,⟨by (try simp only [hl107_4]);refine sB ?_;refine blk_far ?_ (by have h_:=Kd.R_ne HO_226000.out BK244.out D6;intro e_;exact h_ D45) _;exact yB BK244⟩,⟨by (try simp only [hl107_4]);refine sB ?_;refine blk_far ?_ (by have h_:=Kd.R_ne HO_226000.out BK269.out D6;intro e_;exact h_ D45) _;exact yB BK269⟩,⟨by repeat (first|(with_reducible first|exact HB.out|apply pa|apply pb|apply pd|refine pt ?_ GB112.out|refine pt ?_ GE225.out|refine pt ?_ GE226.out|refine pt ?_ GE244.out|refine pt ?_ GE269.out)|exact HB.out)⟩⟩
                 rw [if_neg c111] at H
                 exact absurd H D38
                rw [if_neg c110] at H
                exact absurd H D38
               rw [if_neg c109] at H
               exact absurd H D38
              rw [if_neg c108] at H
              exact absurd H D38
             rw [if_neg c107] at H
             exact absurd H D38
            rw [if_neg c106] at H
            have c106b0:=decide_eq_false c106
            (try simp only [hl107_4] at c106b0)
            clear c106
            simp only [Option.some.injEq,Prod.mk.injEq] at H
            obtain ⟨rfl,rfl,rfl⟩:=H
            have hnb115:=NB225_226.out
            have hnc115:=NB226_225.out
            have hnb116:=NB225_244.out
            have hnc116:=NB244_225.out
            have hnb117:=NB225_269.out
            have hnc117:=NB269_225.out
            obtain ⟨hcz118_0,hcz118_1,hfz118_0,hfz118_1⟩:=yk2 BK225
            obtain ⟨Ao119,co119,eo119⟩:=Kd.R_slice HO_226000.out
            subst eo119
            have hnb120:=NB226_244.out
            have hnc120:=NB244_226.out
            have hnb121:=NB226_269.out
            have hnc121:=NB269_226.out
            obtain ⟨hcz122_0,hcz122_1,hfz122_0,hfz122_1⟩:=yk2 BK226
            obtain ⟨Ao123,co123,eo123⟩:=Kd.R_slice HO_226001.out
            subst eo123
            go_wp2
            refine bodyPost_ret (results_ct rfl _ _ gb226 27 #[.slice Ao119 x226000_4.length co119, .slice Ao123 x226001_4.length co123] (0,0) _ rfl (by refine sB ?_;refine blk_put (cs:=#[.slice Ao119 x226000_4.length co119, .slice none 0 0]) ?_ 1 _ rfl;refine sB ?_;refine blk_put (cs:=#[.slice none 0 0, .slice none 0 0]) ?_ 0 _ rfl;exact yB BK226) Try.underlying27 rfl D2) rfl ?_
            exact ⟨_,_,D3,by refine sR ?_;exact Kd.R_mono (Kd.R_far (p:=⟨gb226,1,none⟩) (Kd.R_far (p:=⟨gb226,0,none⟩) (Kd.R_types HO_226000.out BK226.out D6) (fun _ hk=>hk.2) (.slice Ao119 x226000_4.length co119)) (fun _ hk=>hk.2) (.slice Ao123 x226001_4.length co123)) (fun _ hk=>hk.1.2),by refine sR ?_;exact Kd.R_mono (Kd.R_far (p:=⟨gb226,1,none⟩) (Kd.R_far (p:=⟨gb226,0,none⟩) (Kd.R_types HO_226001.out BK226.out D6) (fun _ hk=>hk.2) (.slice Ao119 x226000_4.length co119)) (fun _ hk=>hk.2) (.slice Ao123 x226001_4.length co123)) (fun _ hk=>hk.1.2),yW HB⟩
         replace c87:=Bool.eq_false_iff.mpr c87
         subst c87
         replace H:=yn H
         simp only [Option.some.injEq,Prod.mk.injEq] at H
         obtain ⟨rfl,rfl,rfl⟩:=H
         try go_wp2
         replace HO_9:=am (Kd.R_drew HO_9.out)
         replace HO_74:=am (Kd.V_drew HO_74.out)
         replace HO_226000:=am (Kd.R_drew HO_226000.out)
         replace HO_226001:=am (Kd.R_drew HO_226001.out)
         replace HO_245000:=am (Kd.N_drew HO_245000.out)
         replace BK225:=am (qd BK225.out)
         replace BK226:=am (qd BK226.out)
         replace BK244:=am (qd BK244.out)
         replace HB:=am (pd HB.out)
         refine start_ (n:=13) (S:=fun w'=>w'.cell? ⟨gb244,0,none⟩=some (.slice Ao65 t241.length co65)) (ds:=[]) #[Z,Z,Z,Z,Z,Z,Z,Z,Z,Z,Z,Z,Z] D2 rfl rfl ((blk_cell BK244.out 0).trans rfl) (fun hHeld=>?_);refine with_tabW spec_MendStripe.tab18 spec_MendStripe.bits18 (fun HT_ HW_=>?_)
         generalize wr.drew=w124 at HO_9 HO_74 HO_226000 HO_226001 HO_245000 BK225 BK226 BK244 HB hHeld ⊢
         refine pure_ (i:=1) (N:=some 94) (v:=?_) (a':=?_) #[Z,Y,Z,Z,Z,Z,Z,Z,Z,Z,Z,Z,Z] rfl rfl (any_of HT_.out D2) hh (Or.inl ⟨D10,?_⟩) ?_ ?_
         rotate_left
         ·intro w'
          go_simp
          with_reducible rfl
         rotate_left
         ·simp only [Act.put,q1,q2,q3,i64_w,i32_w]
          rfl
         refine pure_ (i:=2) (N:=some 95) (v:=?_) (a':=?_) #[Z,Y,Y,Z,Z,Z,Z,Z,Z,Z,Z,Z,Z] rfl rfl (any_of HT_.out D2) hh (Or.inl ⟨D10,?_⟩) ?_ ?_
         rotate_left
         ·intro w'
          go_simp
          with_reducible rfl
         rotate_left
         ·simp only [Act.put,q1,q2,q3,i64_w,i32_w]
          rfl
         refine pure_ (i:=4) (N:=some 97) (v:=?_) (a':=?_) #[Z,Y,Y,Z,Y,Z,Z,Z,Z,Z,Z,Z,Z] rfl rfl (any_of HT_.out D2) hh (Or.inl ⟨D10,?_⟩) ?_ ?_
         rotate_left
         ·intro w'
          go_simp
          with_reducible rfl
         rotate_left
         ·simp only [Act.put,q1,q2,q3,i64_w,i32_w]
          rfl
         refine take_ (i:=0) (N:=some 93) (v:=?_) (a':=?_) #[Y,Y,Y,Z,Y,Z,Z,Z,Z,Z,Z,Z,Z] rfl rfl (take_ofW HT_.out HW_.out D2) hh (Or.inl ⟨D10,?_⟩) hHeld ?_ ?_
         rotate_left
         ·intro w' s0
          go_simp
          with_reducible rfl
         rotate_left
         ·simp only [Act.put,q1,q2,q3,i64_w,i32_w]
          rfl
         refine join_ (σ:=Value × Value × Value × Nat) 2 #[Y,Y,Y,Y,Y,Y,Y,Y,Y,Y,Y,Z,Z] (fun s_=>[(96,s_.1),(98, .agg #[s_.2.1]),(99, .tuple #[.agg #[s_.2.2.1], .bool false]),(12, .pointer (some ⟨s_.2.2.2,0,none⟩)),(92, .tuple #[.agg #[s_.2.2.1], .bool false]),(100, .agg #[s_.2.2.1]),(101, .bool false)]) (fun s_ w'=>(w'.cell? ⟨gb244,0,none⟩=some (.slice Ao65 t241.length co65))∧(Kd.R (Kd.int .i64) 3 w' w.heap.size (fun _=>True) s_.1 t259)∧(Kd.N (Kd.slice 5 (Kd.int .u8)) 57 w' w.heap.size (fun k_=>some k_ ≠ (s_.1:Value).ownBlock∧some k_ ≠ (s_.2.2.1:Value).ownBlock∧some k_ ≠ (.slice Ao61 x226000_2.length co61:Value).ownBlock∧some k_ ≠ (.slice Ao62 x226001_2.length co62:Value).ownBlock∧some k_ ≠ (.slice Ao65 t241.length co65:Value).ownBlock∧some k_ ≠ (u9:Value).ownBlock∧k_ ≠ gb225∧k_ ≠ gb226∧k_ ≠ gb244∧k_ ≠ s_.2.2.2) s_.2.1 t262)∧(Kd.N (Kd.slice 5 (Kd.int .u8)) 57 w' w.heap.size (fun k_=>some k_ ≠ (s_.1:Value).ownBlock∧some k_ ≠ (s_.2.1:Value).ownBlock∧some k_ ≠ (.slice Ao61 x226000_2.length co61:Value).ownBlock∧some k_ ≠ (.slice Ao62 x226001_2.length co62:Value).ownBlock∧some k_ ≠ (.slice Ao65 t241.length co65:Value).ownBlock∧some k_ ≠ (u9:Value).ownBlock∧k_ ≠ gb225∧k_ ≠ gb226∧k_ ≠ gb244∧k_ ≠ s_.2.2.2) s_.2.2.1 t265)∧(Kd.R Kd.string 9 w' w.heap.size (fun k_=>some k_ ≠ (.slice Ao62 x226001_2.length co62:Value).ownBlock∧some k_ ≠ (u9:Value).ownBlock) (.slice Ao61 x226000_2.length co61) x226000_2)∧(Kd.R Kd.string 9 w' w.heap.size (fun k_=>some k_ ≠ (.slice Ao61 x226000_2.length co61:Value).ownBlock∧some k_ ≠ (u9:Value).ownBlock) (.slice Ao62 x226001_2.length co62) x226001_2)∧(Kd.N (Kd.slice 5 (Kd.int .u8)) 57 w' w.heap.size (fun k_=>some k_ ≠ (s_.1:Value).ownBlock∧some k_ ≠ (s_.2.1:Value).ownBlock∧some k_ ≠ (s_.2.2.1:Value).ownBlock∧some k_ ≠ (.slice Ao61 x226000_2.length co61:Value).ownBlock∧some k_ ≠ (.slice Ao62 x226001_2.length co62:Value).ownBlock∧some k_ ≠ (u9:Value).ownBlock∧k_ ≠ gb225∧k_ ≠ gb226∧k_ ≠ gb244∧k_ ≠ s_.2.2.2) (.slice Ao65 t241.length co65) t241)∧(Kd.V Kd.string 9 w' w.heap.size (fun k_=>some k_ ≠ (s_.1:Value).ownBlock∧some k_ ≠ (s_.2.1:Value).ownBlock∧some k_ ≠ (s_.2.2.1:Value).ownBlock∧some k_ ≠ (.slice Ao61 x226000_2.length co61:Value).ownBlock∧some k_ ≠ (.slice Ao62 x226001_2.length co62:Value).ownBlock∧some k_ ≠ (.slice Ao65 t241.length co65:Value).ownBlock∧some k_ ≠ (u9:Value).ownBlock∧k_ ≠ gb225∧k_ ≠ gb226∧k_ ≠ gb244∧k_ ≠ s_.2.2.2) (.slice Ao72 y248.length co72) y248)∧(Kd.R Kd.string 9 w' w.heap.size (fun k_=>some k_ ≠ (.slice Ao61 x226000_2.length co61:Value).ownBlock∧some k_ ≠ (.slice Ao62 x226001_2.length co62:Value).ownBlock) u9 x9_3)∧(w'.heap[gb225]? = some (.cells #[.slice Ao61 x226000_2.length co61, .slice Ao62 x226001_2.length co62] 27 (0,0)))∧(w'.heap[gb226]? = some (.cells #[.slice none 0 0, .slice none 0 0] 27 (0,0)))∧(w'.heap[gb244]? = some (.cells #[.slice Ao65 t241.length co65] 43 (0,0)))∧(w'.heap[s_.2.2.2]? = some (.cells #[.slice none 0 0] 43 (0,0)))∧(w.heap.size≤s_.2.2.2)∧(w.heap.size≤s_.2.2.2)∧(gb225 ≠ s_.2.2.2)∧(s_.2.2.2 ≠ gb225)∧(gb226 ≠ s_.2.2.2)∧(s_.2.2.2 ≠ gb226)∧(gb244 ≠ s_.2.2.2)∧(s_.2.2.2 ≠ gb244)∧(Below w.heap.size w w')) ?_ ?_
         rotate_left
         ·intro hCont
          refine two_ (i:=3) (j:=10) (Ni:=some 96) (Nj:=some 12) #[Y,Y,Y,Y,Y,Z,Z,Z,Z,Z,Z,Z,Z] #[Y,Y,Y,Z,Y,Z,Z,Z,Z,Z,Y,Z,Z] rfl rfl rfl rfl (two_of HT_.out D2) D6 D6 (fun K hK=>?_) (fun K hK=>?_)
          ·skip
           refine goes_ Try.func93 D2 rfl #[.int .i64 (l1.length:Int)] D10 rfl rfl D4 ?_
           with_reducible refine (spec_l3All.calls k3 (l1.length:Int) t259 _ A84.out).mono ?_
           rintro e w125 ⟨v260,rfl,ho0,hb⟩
           refine ⟨_,rfl,?_⟩
           replace HO_9:=bR HO_9 hb
           replace HO_74:=eV HO_74 (Kd.R_base ho0) hb
           replace HO_226000:=bR HO_226000 hb
           replace HO_226001:=bR HO_226001 hb
           replace HO_245000:=eN HO_245000 (Kd.R_base ho0) hb
           have HO261:=am (Kd.R_lower ho0 (pz (yW HB)))
           replace BK225:=yb BK225 hb
           replace BK226:=yb BK226 hb
           replace BK244:=yb BK244 hb
           replace HB:=yH HB hb
           (try clear hb)
           (try clear hb2)
           (try clear hk)
           (try clear hi)
           (try clear ho0)
           obtain ⟨Ao126,co126,eo126⟩:=Kd.R_slice HO261.out
           (first|subst eo126|(injection eo126 with f1_ f2_ f3_;have f4_:=f1_.symm;have f5_:=f3_.symm;clear f1_ f2_ f3_;subst f4_;subst f5_))
           refine hK.out _ _ ((blk_cell BK244.out 0).trans rfl) (fun hHeld=>?_)
           clear hK K
           refine norm_ (a':=?_) ?_ ?_
           rotate_left
           ·show Act.put _ (some 96) _=_
            simp only [Act.put,q1,q2,q3,i64_w,i32_w]
            rfl
           refine two_ (i:=5) (j:=10) (Ni:=some 98) (Nj:=some 12) #[Y,Y,Y,Y,Y,Y,Z,Z,Z,Z,Z,Z,Z] #[Y,Y,Y,Y,Y,Z,Z,Z,Z,Z,Y,Z,Z] rfl rfl rfl rfl (two_of HT_.out D2) D6 D6 (fun K hK=>?_) (fun K hK=>?_)
           ·skip
            refine goes_ Try.func92 D2 rfl #[.agg #[.slice Ao65 t241.length co65], .slice Ao126 t259.length co126, .slice A1 l1.length c1] D10 rfl rfl D4 ?_
            with_reducible refine (spec_l2Part.calls k3 _ _ t241 _ _ t259 _ _ l1 t262 _ ?side1 ?side2 ?side3 ?side4 ?side5 ?side6 A85.out).mono ?_
            (case side1=>repeat (first|exact (Kd.N_reads' HO_245000.out).2.2|(with_reducible refine Kd.C_alloc ?_ _)|(with_reducible refine Kd.C_drewN ?_ _)|(with_reducible refine Kd.C_drew ?_)))
            (case side2=>exact (Kd.N_reads' HO_245000.out).2.1)
            (case side3=>repeat (first|exact (Kd.R_reads' HO261.out).2.2|(with_reducible refine Kd.C_alloc ?_ _)|(with_reducible refine Kd.C_drewN ?_ _)|(with_reducible refine Kd.C_drew ?_)))
            (case side4=>exact (Kd.R_reads' HO261.out).2.1)
            (case side5=>repeat (first|exact (Kd.C_below HR1.out HB.out)|(with_reducible refine Kd.C_alloc ?_ _)|(with_reducible refine Kd.C_drewN ?_ _)|(with_reducible refine Kd.C_drew ?_)))
            (case side6=>exact HC1.out)
            rintro e w127 ⟨v263,rfl,ho0,hb⟩
            refine ⟨_,rfl,?_⟩
            replace HO_74:=eV HO_74 D7 hb
            have HO264:=am (Kd.N_lower (Kd.N_mono (ok':=fun k_=>some k_ ≠ (u9:Value).ownBlock∧some k_ ≠ (.slice Ao61 x226000_2.length co61:Value).ownBlock∧some k_ ≠ (.slice Ao62 x226001_2.length co62:Value).ownBlock∧some k_ ≠ (.slice Ao65 t241.length co65:Value).ownBlock∧some k_ ≠ (.slice Ao126 t259.length co126:Value).ownBlock∧k_ ≠ gb225∧k_ ≠ gb226∧k_ ≠ gb244) (Kd.S_N (Kd.S_bound ho0)) (fun k_ hk_=>⟨(Kd.fresh' (Kd.R_lt (yR HO_9)) k_ hk_.2.1),(Kd.fresh' (Kd.R_lt (yR HO_226000)) k_ hk_.2.1),(Kd.fresh' (Kd.R_lt (yR HO_226001)) k_ hk_.2.1),(Kd.fresh' (Kd.N_lt (yN HO_245000)) k_ hk_.2.1),(Kd.fresh' (Kd.R_lt (yR HO261)) k_ hk_.2.1),(yz BK225 k_ hk_.2.1),(yz BK226 k_ hk_.2.1),(yz BK244 k_ hk_.2.1)⟩)) (pz (yW HB)))
            replace HO_9:=bR HO_9 hb
            replace HO_226000:=bR HO_226000 hb
            replace HO_226001:=bR HO_226001 hb
            replace HO_245000:=eN HO_245000 D7 hb
            replace HO261:=bR HO261 hb
            replace BK225:=yb BK225 hb
            replace BK226:=yb BK226 hb
            replace BK244:=yb BK244 hb
            replace HB:=yH HB hb
            (try clear hb)
            (try clear hb2)
            (try clear hk)
            (try clear hi)
            (try clear ho0)
            obtain ⟨Ao128,co128,eo128⟩:=Kd.N_slice HO264.out
            (first|subst eo128|(injection eo128 with f1_ f2_ f3_;have f4_:=f1_.symm;have f5_:=f3_.symm;clear f1_ f2_ f3_;subst f4_;subst f5_))
            refine hK.out _ _ ((blk_cell BK244.out 0).trans rfl) (fun hHeld=>?_)
            clear hK K
            refine norm_ (a':=?_) ?_ ?_
            rotate_left
            ·show Act.put _ (some 98) _=_
             simp only [Act.put,q1,q2,q3,i64_w,i32_w]
             rfl
            refine two_ (i:=6) (j:=10) (Ni:=some 99) (Nj:=some 12) #[Y,Y,Y,Y,Y,Y,Y,Z,Z,Z,Z,Z,Z] #[Y,Y,Y,Y,Y,Y,Z,Z,Z,Z,Y,Z,Z] rfl rfl rfl rfl (two_of HT_.out D2) D6 D6 (fun K hK=>?_) (fun K hK=>?_)
            ·skip
             refine goes_ Try.func91 D2 rfl #[.agg #[.slice Ao128 t262.length co128]] D10 rfl rfl D4 ?_
             with_reducible refine (spec_l2Inverse.calls _ _ t262 t265 false _ ?side1 ?side2 A86.out).mono ?_
             (case side1=>repeat (first|exact (Kd.N_reads' HO264.out).2.2|(with_reducible refine Kd.C_alloc ?_ _)|(with_reducible refine Kd.C_drewN ?_ _)|(with_reducible refine Kd.C_drew ?_)))
             (case side2=>exact (Kd.N_reads' HO264.out).2.1)
             rintro e w129 ⟨v266,rfl,ho0,hb⟩
             refine ⟨_,rfl,?_⟩
             replace HO_74:=eV HO_74 D7 hb
             have HO267:=am (Kd.N_lower (Kd.N_mono (ok':=fun k_=>some k_ ≠ (u9:Value).ownBlock∧some k_ ≠ (.slice Ao61 x226000_2.length co61:Value).ownBlock∧some k_ ≠ (.slice Ao62 x226001_2.length co62:Value).ownBlock∧some k_ ≠ (.slice Ao65 t241.length co65:Value).ownBlock∧some k_ ≠ (.slice Ao126 t259.length co126:Value).ownBlock∧some k_ ≠ (.slice Ao128 t262.length co128:Value).ownBlock∧k_ ≠ gb225∧k_ ≠ gb226∧k_ ≠ gb244) ho0 (fun k_ hk_=>⟨(Kd.fresh' (Kd.R_lt (yR HO_9)) k_ hk_),(Kd.fresh' (Kd.R_lt (yR HO_226000)) k_ hk_),(Kd.fresh' (Kd.R_lt (yR HO_226001)) k_ hk_),(Kd.fresh' (Kd.N_lt (yN HO_245000)) k_ hk_),(Kd.fresh' (Kd.R_lt (yR HO261)) k_ hk_),(Kd.fresh' (Kd.N_lt (yN HO264)) k_ hk_),(yz BK225 k_ hk_),(yz BK226 k_ hk_),(yz BK244 k_ hk_)⟩)) (pz (yW HB)))
             replace HO_9:=bR HO_9 hb
             replace HO_226000:=bR HO_226000 hb
             replace HO_226001:=bR HO_226001 hb
             replace HO_245000:=eN HO_245000 D7 hb
             replace HO261:=bR HO261 hb
             replace HO264:=eN HO264 D7 hb
             replace BK225:=yb BK225 hb
             replace BK226:=yb BK226 hb
             replace BK244:=yb BK244 hb
             replace HB:=yH HB hb
             (try clear hb)
             (try clear hb2)
             (try clear hk)
             (try clear hi)
             (try clear ho0)
             refine hK.out _ _ ((blk_cell BK244.out 0).trans rfl) (fun hHeld=>?_)
             clear hK K
             refine norm_ (a':=?_) ?_ ?_
             rotate_left
             ·show Act.put _ (some 99) _=_
              simp only [Act.put,q1,q2,q3,i64_w,i32_w]
              rfl
             refine pure_ (i:=7) (N:=some 92) (v:=?_) (a':=?_) #[Y,Y,Y,Y,Y,Y,Y,Y,Z,Z,Z,Z,Z] rfl rfl (any_of HT_.out D2) hh (Or.inl ⟨D10,?_⟩) ?_ ?_
             rotate_left
             ·intro w'
              go_simp
              with_reducible rfl
             rotate_left
             ·simp only [Act.put,q1,q2,q3,i64_w,i32_w]
              rfl
             refine pure_ (i:=8) (N:=some 100) (v:=?_) (a':=?_) #[Y,Y,Y,Y,Y,Y,Y,Y,Y,Z,Z,Z,Z] rfl rfl (any_of HT_.out D2) hh (Or.inl ⟨D10,?_⟩) ?_ ?_
             rotate_left
             ·intro w'
              go_simp
              with_reducible rfl
             rotate_left
             ·simp only [Act.put,q1,q2,q3,i64_w,i32_w]
              rfl
             refine pure_ (i:=9) (N:=some 101) (v:=?_) (a':=?_) #[Y,Y,Y,Y,Y,Y,Y,Y,Y,Y,Z,Z,Z] rfl rfl (any_of HT_.out D2) hh (Or.inl ⟨D10,?_⟩) ?_ ?_
             rotate_left
             ·intro w'
              go_simp
              with_reducible rfl
             rotate_left
             ·simp only [Act.put,q1,q2,q3,i64_w,i32_w]
              rfl
             refine one_ (i:=10) (N:=some 12) #[Y,Y,Y,Y,Y,Y,Y,Y,Y,Y,Y,Z,Z] rfl rfl (one_of HT_.out D2) D6 (fun K hK=>?_)
             refine box_step ?hg (N:=12) ?hd (cs:=#[.slice none 0 0]) (t:=43) ?hr ?_;(case hd=>rfl);(case hg=>rfl);(case hr=>first|(go_simp;done)|(go_simp;rfl))
             intro gb269 hg w130 hbox hb
             replace HO_9:=bR HO_9 hb
             replace HO_74:=am (Kd.V_below (Kd.V_elderB (yV HO_74) gb269 (Nat.le_of_eq hg.symm)) hb)
             replace HO_226000:=bR HO_226000 hb
             replace HO_226001:=bR HO_226001 hb
             replace HO_245000:=oN HO_245000 hg hb
             replace HO261:=bR HO261 hb
             replace HO264:=oN HO264 hg hb
             replace HO267:=oN HO267 hg hb
             have BK269:=am (hbox)
             have GW269:=ye HB hg
             replace HB:=yH HB hb
             have NB225_269:=yl BK225 hg
             have NB269_225:=yg BK225 hg
             replace BK225:=yb BK225 hb
             have NB226_269:=yl BK226 hg
             have NB269_226:=yg BK226 hg
             replace BK226:=yb BK226 hb
             have NB244_269:=yl BK244 hg
             have NB269_244:=yg BK244 hg
             replace BK244:=yb BK244 hb
             have GE269:=GW269
             clear hb hbox hg
             refine hK.out _ _ ((blk_cell BK244.out 0).trans rfl) (fun hHeld=>?_)
             clear hK K
             refine norm_ (a':=?_) ?_ ?_
             rotate_left
             ·show Act.put _ (some 12) _=_
              simp only [Act.put,q1,q2,q3,i64_w,i32_w]
              rfl
             exact norm_ D18 (hCont (.slice Ao126 t259.length co126, .slice Ao128 t262.length co128,v266,gb269) _ ⟨hHeld,(yR HO261),D49,D47,D16,D15,D44,D33,(yR HO_9),(yB BK225),(yB BK226),(yB BK244),(yB BK269),GW269.out,GE269.out,NB225_269.out,NB269_225.out,NB226_269.out,NB269_226.out,NB244_269.out,NB269_244.out,(yW HB)⟩)
            skip
            refine box_step ?hg (N:=12) ?hd (cs:=#[.slice none 0 0]) (t:=43) ?hr ?_;(case hd=>rfl);(case hg=>rfl);(case hr=>first|(go_simp;done)|(go_simp;rfl))
            intro gb269 hg w128 hbox hb
            replace HO_9:=bR HO_9 hb
            replace HO_74:=am (Kd.V_below (Kd.V_elderB (yV HO_74) gb269 (Nat.le_of_eq hg.symm)) hb)
            replace HO_226000:=bR HO_226000 hb
            replace HO_226001:=bR HO_226001 hb
            replace HO_245000:=oN HO_245000 hg hb
            replace HO261:=bR HO261 hb
            replace HO264:=oN HO264 hg hb
            have BK269:=am (hbox)
            have GW269:=ye HB hg
            replace HB:=yH HB hb
            have NB225_269:=yl BK225 hg
            have NB269_225:=yg BK225 hg
            replace BK225:=yb BK225 hb
            have NB226_269:=yl BK226 hg
            have NB269_226:=yg BK226 hg
            replace BK226:=yb BK226 hb
            have NB244_269:=yl BK244 hg
            have NB269_244:=yg BK244 hg
            replace BK244:=yb BK244 hb
            have GE269:=GW269
            clear hb hbox hg
            obtain ⟨Ao129,co129,eo129⟩:=Kd.N_slice HO264.out
            (first|subst eo129|(injection eo129 with f1_ f2_ f3_;have f4_:=f1_.symm;have f5_:=f3_.symm;clear f1_ f2_ f3_;subst f4_;subst f5_))
            refine hK.out _ _ ((blk_cell BK244.out 0).trans rfl) (fun hHeld=>?_)
            clear hK K
            refine norm_ (a':=?_) ?_ ?_
            rotate_left
            ·show Act.put _ (some 12) _=_
             simp only [Act.put,q1,q2,q3,i64_w,i32_w]
             rfl
            refine one_ (i:=6) (N:=some 99) #[Y,Y,Y,Y,Y,Y,Y,Z,Z,Z,Y,Z,Z] rfl rfl (one_of HT_.out D2) D6 (fun K hK=>?_)
            refine goes_ Try.func91 D2 rfl #[.agg #[.slice Ao129 t262.length co129]] D10 rfl rfl D4 ?_
            with_reducible refine (spec_l2Inverse.calls _ _ t262 t265 false _ ?side1 ?side2 A86.out).mono ?_
            (case side1=>repeat (first|exact (Kd.N_reads' HO264.out).2.2|(with_reducible refine Kd.C_alloc ?_ _)|(with_reducible refine Kd.C_drewN ?_ _)|(with_reducible refine Kd.C_drew ?_)))
            (case side2=>exact (Kd.N_reads' HO264.out).2.1)
            rintro e w130 ⟨v266,rfl,ho0,hb⟩
            refine ⟨_,rfl,?_⟩
            replace HO_74:=eV HO_74 D7 hb
            have HO267:=am (Kd.N_lower (Kd.N_mono (ok':=fun k_=>some k_ ≠ (u9:Value).ownBlock∧some k_ ≠ (.slice Ao61 x226000_2.length co61:Value).ownBlock∧some k_ ≠ (.slice Ao62 x226001_2.length co62:Value).ownBlock∧some k_ ≠ (.slice Ao65 t241.length co65:Value).ownBlock∧some k_ ≠ (.slice Ao126 t259.length co126:Value).ownBlock∧some k_ ≠ (.slice Ao129 t262.length co129:Value).ownBlock∧k_ ≠ gb225∧k_ ≠ gb226∧k_ ≠ gb244∧k_ ≠ gb269) ho0 (fun k_ hk_=>⟨(Kd.fresh' (Kd.R_lt (yR HO_9)) k_ hk_),(Kd.fresh' (Kd.R_lt (yR HO_226000)) k_ hk_),(Kd.fresh' (Kd.R_lt (yR HO_226001)) k_ hk_),(Kd.fresh' (Kd.N_lt (yN HO_245000)) k_ hk_),(Kd.fresh' (Kd.R_lt (yR HO261)) k_ hk_),(Kd.fresh' (Kd.N_lt (yN HO264)) k_ hk_),(yz BK225 k_ hk_),(yz BK226 k_ hk_),(yz BK244 k_ hk_),(yz BK269 k_ hk_)⟩)) (pz (yW HB)))
            replace HO_9:=bR HO_9 hb
            replace HO_226000:=bR HO_226000 hb
            replace HO_226001:=bR HO_226001 hb
            replace HO_245000:=eN HO_245000 D7 hb
            replace HO261:=bR HO261 hb
            replace HO264:=eN HO264 D7 hb
            replace BK225:=yb BK225 hb
            replace BK226:=yb BK226 hb
            replace BK244:=yb BK244 hb
            replace BK269:=yb BK269 hb
            replace HB:=yH HB hb
            (try clear hb)
            (try clear hb2)
            (try clear hk)
            (try clear hi)
            (try clear ho0)
            refine hK.out _ _ ((blk_cell BK244.out 0).trans rfl) (fun hHeld=>?_)
            clear hK K
            refine norm_ (a':=?_) ?_ ?_
            rotate_left
            ·show Act.put _ (some 99) _=_
             simp only [Act.put,q1,q2,q3,i64_w,i32_w]
             rfl
            refine pure_ (i:=7) (N:=some 92) (v:=?_) (a':=?_) #[Y,Y,Y,Y,Y,Y,Y,Y,Z,Z,Y,Z,Z] rfl rfl (any_of HT_.out D2) hh (Or.inl ⟨D10,?_⟩) ?_ ?_
            rotate_left
            ·intro w'
             go_simp
             with_reducible rfl
            rotate_left
            ·simp only [Act.put,q1,q2,q3,i64_w,i32_w]
             rfl
            refine pure_ (i:=8) (N:=some 100) (v:=?_) (a':=?_) #[Y,Y,Y,Y,Y,Y,Y,Y,Y,Z,Y,Z,Z] rfl rfl (any_of HT_.out D2) hh (Or.inl ⟨D10,?_⟩) ?_ ?_
            rotate_left
            ·intro w'
             go_simp
             with_reducible rfl
            rotate_left
            ·simp only [Act.put,q1,q2,q3,i64_w,i32_w]
             rfl
            refine pure_ (i:=9) (N:=some 101) (v:=?_) (a':=?_) #[Y,Y,Y,Y,Y,Y,Y,Y,Y,Y,Y,Z,Z] rfl rfl (any_of HT_.out D2) hh (Or.inl ⟨D10,?_⟩) ?_ ?_
            rotate_left
            ·intro w'
             go_simp
             with_reducible rfl
            rotate_left
            ·simp only [Act.put,q1,q2,q3,i64_w,i32_w]
             rfl
            exact norm_ D18 (hCont (.slice Ao126 t259.length co126, .slice Ao129 t262.length co129,v266,gb269) _ ⟨hHeld,(yR HO261),D48,D11,D16,D15,D43,D32,(yR HO_9),(yB BK225),(yB BK226),(yB BK244),(yB BK269),GW269.out,GE269.out,NB225_269.out,NB269_225.out,NB226_269.out,NB269_226.out,NB244_269.out,NB269_244.out,(yW HB)⟩)
           skip
           refine box_step ?hg (N:=12) ?hd (cs:=#[.slice none 0 0]) (t:=43) ?hr ?_;(case hd=>rfl);(case hg=>rfl);(case hr=>first|(go_simp;done)|(go_simp;rfl))
           intro gb269 hg w126 hbox hb
           replace HO_9:=bR HO_9 hb
           replace HO_74:=am (Kd.V_below (Kd.V_elderB (yV HO_74) gb269 (Nat.le_of_eq hg.symm)) hb)
           replace HO_226000:=bR HO_226000 hb
           replace HO_226001:=bR HO_226001 hb
           replace HO_245000:=oN HO_245000 hg hb
           replace HO261:=bR HO261 hb
           have BK269:=am (hbox)
           have GW269:=ye HB hg
           replace HB:=yH HB hb
           have NB225_269:=yl BK225 hg
           have NB269_225:=yg BK225 hg
           replace BK225:=yb BK225 hb
           have NB226_269:=yl BK226 hg
           have NB269_226:=yg BK226 hg
           replace BK226:=yb BK226 hb
           have NB244_269:=yl BK244 hg
           have NB269_244:=yg BK244 hg
           replace BK244:=yb BK244 hb
           have GE269:=GW269
           clear hb hbox hg
           obtain ⟨Ao127,co127,eo127⟩:=Kd.R_slice HO261.out
           (first|subst eo127|(injection eo127 with f1_ f2_ f3_;have f4_:=f1_.symm;have f5_:=f3_.symm;clear f1_ f2_ f3_;subst f4_;subst f5_))
           refine hK.out _ _ ((blk_cell BK244.out 0).trans rfl) (fun hHeld=>?_)
           clear hK K
           refine norm_ (a':=?_) ?_ ?_
           rotate_left
           ·show Act.put _ (some 12) _=_
            simp only [Act.put,q1,q2,q3,i64_w,i32_w]
            rfl
           refine one_ (i:=5) (N:=some 98) #[Y,Y,Y,Y,Y,Y,Z,Z,Z,Z,Y,Z,Z] rfl rfl (one_of HT_.out D2) D6 (fun K hK=>?_)
           refine goes_ Try.func92 D2 rfl #[.agg #[.slice Ao65 t241.length co65], .slice Ao127 t259.length co127, .slice A1 l1.length c1] D10 rfl rfl D4 ?_
           with_reducible refine (spec_l2Part.calls k3 _ _ t241 _ _ t259 _ _ l1 t262 _ ?side1 ?side2 ?side3 ?side4 ?side5 ?side6 A85.out).mono ?_
           (case side1=>repeat (first|exact (Kd.N_reads' HO_245000.out).2.2|(with_reducible refine Kd.C_alloc ?_ _)|(with_reducible refine Kd.C_drewN ?_ _)|(with_reducible refine Kd.C_drew ?_)))
           (case side2=>exact (Kd.N_reads' HO_245000.out).2.1)
           (case side3=>repeat (first|exact (Kd.R_reads' HO261.out).2.2|(with_reducible refine Kd.C_alloc ?_ _)|(with_reducible refine Kd.C_drewN ?_ _)|(with_reducible refine Kd.C_drew ?_)))
           (case side4=>exact (Kd.R_reads' HO261.out).2.1)
           (case side5=>repeat (first|exact (Kd.C_below HR1.out HB.out)|(with_reducible refine Kd.C_alloc ?_ _)|(with_reducible refine Kd.C_drewN ?_ _)|(with_reducible refine Kd.C_drew ?_)))
           (case side6=>exact HC1.out)
           rintro e w128 ⟨v263,rfl,ho0,hb⟩
           refine ⟨_,rfl,?_⟩
           replace HO_74:=eV HO_74 D7 hb
           have HO264:=am (Kd.N_lower (Kd.N_mono (ok':=fun k_=>some k_ ≠ (u9:Value).ownBlock∧some k_ ≠ (.slice Ao61 x226000_2.length co61:Value).ownBlock∧some k_ ≠ (.slice Ao62 x226001_2.length co62:Value).ownBlock∧some k_ ≠ (.slice Ao65 t241.length co65:Value).ownBlock∧some k_ ≠ (.slice Ao127 t259.length co127:Value).ownBlock∧k_ ≠ gb225∧k_ ≠ gb226∧k_ ≠ gb244∧k_ ≠ gb269) (Kd.S_N (Kd.S_bound ho0)) (fun k_ hk_=>⟨(Kd.fresh' (Kd.R_lt (yR HO_9)) k_ hk_.2.1),(Kd.fresh' (Kd.R_lt (yR HO_226000)) k_ hk_.2.1),(Kd.fresh' (Kd.R_lt (yR HO_226001)) k_ hk_.2.1),(Kd.fresh' (Kd.N_lt (yN HO_245000)) k_ hk_.2.1),(Kd.fresh' (Kd.R_lt (yR HO261)) k_ hk_.2.1),(yz BK225 k_ hk_.2.1),(yz BK226 k_ hk_.2.1),(yz BK244 k_ hk_.2.1),(yz BK269 k_ hk_.2.1)⟩)) (pz (yW HB)))
           replace HO_9:=bR HO_9 hb
           replace HO_226000:=bR HO_226000 hb
           replace HO_226001:=bR HO_226001 hb
           replace HO_245000:=eN HO_245000 D7 hb
           replace HO261:=bR HO261 hb
           replace BK225:=yb BK225 hb
           replace BK226:=yb BK226 hb
           replace BK244:=yb BK244 hb
           replace BK269:=yb BK269 hb
           replace HB:=yH HB hb
           (try clear hb)
           (try clear hb2)
           (try clear hk)
           (try clear hi)
           (try clear ho0)
           obtain ⟨Ao129,co129,eo129⟩:=Kd.N_slice HO264.out
           (first|subst eo129|(injection eo129 with f1_ f2_ f3_;have f4_:=f1_.symm;have f5_:=f3_.symm;clear f1_ f2_ f3_;subst f4_;subst f5_))
           refine hK.out _ _ ((blk_cell BK244.out 0).trans rfl) (fun hHeld=>?_)
           clear hK K
           refine norm_ (a':=?_) ?_ ?_
           rotate_left
           ·show Act.put _ (some 98) _=_
            simp only [Act.put,q1,q2,q3,i64_w,i32_w]
            rfl
           refine one_ (i:=6) (N:=some 99) #[Y,Y,Y,Y,Y,Y,Y,Z,Z,Z,Y,Z,Z] rfl rfl (one_of HT_.out D2) D6 (fun K hK=>?_)
           refine goes_ Try.func91 D2 rfl #[.agg #[.slice Ao129 t262.length co129]] D10 rfl rfl D4 ?_
           with_reducible refine (spec_l2Inverse.calls _ _ t262 t265 false _ ?side1 ?side2 A86.out).mono ?_
           (case side1=>repeat (first|exact (Kd.N_reads' HO264.out).2.2|(with_reducible refine Kd.C_alloc ?_ _)|(with_reducible refine Kd.C_drewN ?_ _)|(with_reducible refine Kd.C_drew ?_)))
           (case side2=>exact (Kd.N_reads' HO264.out).2.1)
           rintro e w130 ⟨v266,rfl,ho0,hb⟩
           refine ⟨_,rfl,?_⟩
           replace HO_74:=eV HO_74 D7 hb
           have HO267:=am (Kd.N_lower (Kd.N_mono (ok':=fun k_=>some k_ ≠ (u9:Value).ownBlock∧some k_ ≠ (.slice Ao61 x226000_2.length co61:Value).ownBlock∧some k_ ≠ (.slice Ao62 x226001_2.length co62:Value).ownBlock∧some k_ ≠ (.slice Ao65 t241.length co65:Value).ownBlock∧some k_ ≠ (.slice Ao127 t259.length co127:Value).ownBlock∧some k_ ≠ (.slice Ao129 t262.length co129:Value).ownBlock∧k_ ≠ gb225∧k_ ≠ gb226∧k_ ≠ gb244∧k_ ≠ gb269) ho0 (fun k_ hk_=>⟨(Kd.fresh' (Kd.R_lt (yR HO_9)) k_ hk_),(Kd.fresh' (Kd.R_lt (yR HO_226000)) k_ hk_),(Kd.fresh' (Kd.R_lt (yR HO_226001)) k_ hk_),(Kd.fresh' (Kd.N_lt (yN HO_245000)) k_ hk_),(Kd.fresh' (Kd.R_lt (yR HO261)) k_ hk_),(Kd.fresh' (Kd.N_lt (yN HO264)) k_ hk_),(yz BK225 k_ hk_),(yz BK226 k_ hk_),(yz BK244 k_ hk_),(yz BK269 k_ hk_)⟩)) (pz (yW HB)))
           replace HO_9:=bR HO_9 hb
           replace HO_226000:=bR HO_226000 hb
           replace HO_226001:=bR HO_226001 hb
           replace HO_245000:=eN HO_245000 D7 hb
           replace HO261:=bR HO261 hb
           replace HO264:=eN HO264 D7 hb
           replace BK225:=yb BK225 hb
           replace BK226:=yb BK226 hb
           replace BK244:=yb BK244 hb
           replace BK269:=yb BK269 hb
           replace HB:=yH HB hb
           (try clear hb)
           (try clear hb2)
           (try clear hk)
           (try clear hi)
           (try clear ho0)
           refine hK.out _ _ ((blk_cell BK244.out 0).trans rfl) (fun hHeld=>?_)
           clear hK K
           refine norm_ (a':=?_) ?_ ?_
           rotate_left
           ·show Act.put _ (some 99) _=_
            simp only [Act.put,q1,q2,q3,i64_w,i32_w]
            rfl
           refine pure_ (i:=7) (N:=some 92) (v:=?_) (a':=?_) #[Y,Y,Y,Y,Y,Y,Y,Y,Z,Z,Y,Z,Z] rfl rfl (any_of HT_.out D2) hh (Or.inl ⟨D10,?_⟩) ?_ ?_
           rotate_left
           ·intro w'
            go_simp
            with_reducible rfl
           rotate_left
           ·simp only [Act.put,q1,q2,q3,i64_w,i32_w]
            rfl
           refine pure_ (i:=8) (N:=some 100) (v:=?_) (a':=?_) #[Y,Y,Y,Y,Y,Y,Y,Y,Y,Z,Y,Z,Z] rfl rfl (any_of HT_.out D2) hh (Or.inl ⟨D10,?_⟩) ?_ ?_
           rotate_left
           ·intro w'
            go_simp
            with_reducible rfl
           rotate_left
           ·simp only [Act.put,q1,q2,q3,i64_w,i32_w]
            rfl
           refine pure_ (i:=9) (N:=some 101) (v:=?_) (a':=?_) #[Y,Y,Y,Y,Y,Y,Y,Y,Y,Y,Y,Z,Z] rfl rfl (any_of HT_.out D2) hh (Or.inl ⟨D10,?_⟩) ?_ ?_
           rotate_left
           ·intro w'
            go_simp
            with_reducible rfl
           rotate_left
           ·simp only [Act.put,q1,q2,q3,i64_w,i32_w]
            rfl
           exact norm_ D18 (hCont (.slice Ao127 t259.length co127, .slice Ao129 t262.length co129,v266,gb269) _ ⟨hHeld,(yR HO261),D14,D11,D16,D15,D42,D31,(yR HO_9),(yB BK225),(yB BK226),(yB BK244),(yB BK269),GW269.out,GE269.out,NB225_269.out,NB269_225.out,NB226_269.out,NB269_226.out,NB244_269.out,NB269_244.out,(yW HB)⟩)
          skip
          refine box_step ?hg (N:=12) ?hd (cs:=#[.slice none 0 0]) (t:=43) ?hr ?_;(case hd=>rfl);(case hg=>rfl);(case hr=>first|(go_simp;done)|(go_simp;rfl))
          intro gb269 hg w125 hbox hb
          replace HO_9:=bR HO_9 hb
          replace HO_74:=am (Kd.V_below (Kd.V_elderB (yV HO_74) gb269 (Nat.le_of_eq hg.symm)) hb)
          replace HO_226000:=bR HO_226000 hb
          replace HO_226001:=bR HO_226001 hb
          replace HO_245000:=oN HO_245000 hg hb
          have BK269:=am (hbox)
          have GW269:=ye HB hg
          replace HB:=yH HB hb
          have NB225_269:=yl BK225 hg
          have NB269_225:=yg BK225 hg
          replace BK225:=yb BK225 hb
          have NB226_269:=yl BK226 hg
          have NB269_226:=yg BK226 hg
          replace BK226:=yb BK226 hb
          have NB244_269:=yl BK244 hg
          have NB269_244:=yg BK244 hg
          replace BK244:=yb BK244 hb
          have GE269:=GW269
          clear hb hbox hg
          refine hK.out _ _ ((blk_cell BK244.out 0).trans rfl) (fun hHeld=>?_)
          clear hK K
          refine norm_ (a':=?_) ?_ ?_
          rotate_left
          ·show Act.put _ (some 12) _=_
           simp only [Act.put,q1,q2,q3,i64_w,i32_w]
           rfl
          refine one_ (i:=3) (N:=some 96) #[Y,Y,Y,Y,Y,Z,Z,Z,Z,Z,Y,Z,Z] rfl rfl (one_of HT_.out D2) D6 (fun K hK=>?_)
          refine goes_ Try.func93 D2 rfl #[.int .i64 (l1.length:Int)] D10 rfl rfl D4 ?_
          with_reducible refine (spec_l3All.calls k3 (l1.length:Int) t259 _ A84.out).mono ?_
          rintro e w126 ⟨v260,rfl,ho0,hb⟩
          refine ⟨_,rfl,?_⟩
          replace HO_9:=bR HO_9 hb
          replace HO_74:=eV HO_74 (Kd.R_base ho0) hb
          replace HO_226000:=bR HO_226000 hb
          replace HO_226001:=bR HO_226001 hb
          replace HO_245000:=eN HO_245000 (Kd.R_base ho0) hb
          have HO261:=am (Kd.R_lower ho0 (pz (yW HB)))
          replace BK225:=yb BK225 hb
          replace BK226:=yb BK226 hb
          replace BK244:=yb BK244 hb
          replace BK269:=yb BK269 hb
          replace HB:=yH HB hb
          (try clear hb)
          (try clear hb2)
          (try clear hk)
          (try clear hi)
          (try clear ho0)
          obtain ⟨Ao127,co127,eo127⟩:=Kd.R_slice HO261.out
          (first|subst eo127|(injection eo127 with f1_ f2_ f3_;have f4_:=f1_.symm;have f5_:=f3_.symm;clear f1_ f2_ f3_;subst f4_;subst f5_))
          refine hK.out _ _ ((blk_cell BK244.out 0).trans rfl) (fun hHeld=>?_)
          clear hK K
          refine norm_ (a':=?_) ?_ ?_
          rotate_left
          ·show Act.put _ (some 96) _=_
           simp only [Act.put,q1,q2,q3,i64_w,i32_w]
           rfl
          refine one_ (i:=5) (N:=some 98) #[Y,Y,Y,Y,Y,Y,Z,Z,Z,Z,Y,Z,Z] rfl rfl (one_of HT_.out D2) D6 (fun K hK=>?_)
          refine goes_ Try.func92 D2 rfl #[.agg #[.slice Ao65 t241.length co65], .slice Ao127 t259.length co127, .slice A1 l1.length c1] D10 rfl rfl D4 ?_
          with_reducible refine (spec_l2Part.calls k3 _ _ t241 _ _ t259 _ _ l1 t262 _ ?side1 ?side2 ?side3 ?side4 ?side5 ?side6 A85.out).mono ?_
          (case side1=>repeat (first|exact (Kd.N_reads' HO_245000.out).2.2|(with_reducible refine Kd.C_alloc ?_ _)|(with_reducible refine Kd.C_drewN ?_ _)|(with_reducible refine Kd.C_drew ?_)))
          (case side2=>exact (Kd.N_reads' HO_245000.out).2.1)
          (case side3=>repeat (first|exact (Kd.R_reads' HO261.out).2.2|(with_reducible refine Kd.C_alloc ?_ _)|(with_reducible refine Kd.C_drewN ?_ _)|(with_reducible refine Kd.C_drew ?_)))
          (case side4=>exact (Kd.R_reads' HO261.out).2.1)
          (case side5=>repeat (first|exact (Kd.C_below HR1.out HB.out)|(with_reducible refine Kd.C_alloc ?_ _)|(with_reducible refine Kd.C_drewN ?_ _)|(with_reducible refine Kd.C_drew ?_)))
          (case side6=>exact HC1.out)
          rintro e w128 ⟨v263,rfl,ho0,hb⟩
          refine ⟨_,rfl,?_⟩
          replace HO_74:=eV HO_74 D7 hb
          have HO264:=am (Kd.N_lower (Kd.N_mono (ok':=fun k_=>some k_ ≠ (u9:Value).ownBlock∧some k_ ≠ (.slice Ao61 x226000_2.length co61:Value).ownBlock∧some k_ ≠ (.slice Ao62 x226001_2.length co62:Value).ownBlock∧some k_ ≠ (.slice Ao65 t241.length co65:Value).ownBlock∧some k_ ≠ (.slice Ao127 t259.length co127:Value).ownBlock∧k_ ≠ gb225∧k_ ≠ gb226∧k_ ≠ gb244∧k_ ≠ gb269) (Kd.S_N (Kd.S_bound ho0)) (fun k_ hk_=>⟨(Kd.fresh' (Kd.R_lt (yR HO_9)) k_ hk_.2.1),(Kd.fresh' (Kd.R_lt (yR HO_226000)) k_ hk_.2.1),(Kd.fresh' (Kd.R_lt (yR HO_226001)) k_ hk_.2.1),(Kd.fresh' (Kd.N_lt (yN HO_245000)) k_ hk_.2.1),(Kd.fresh' (Kd.R_lt (yR HO261)) k_ hk_.2.1),(yz BK225 k_ hk_.2.1),(yz BK226 k_ hk_.2.1),(yz BK244 k_ hk_.2.1),(yz BK269 k_ hk_.2.1)⟩)) (pz (yW HB)))
          replace HO_9:=bR HO_9 hb
          replace HO_226000:=bR HO_226000 hb
          replace HO_226001:=bR HO_226001 hb
          replace HO_245000:=eN HO_245000 D7 hb
          replace HO261:=bR HO261 hb
          replace BK225:=yb BK225 hb
          replace BK226:=yb BK226 hb
          replace BK244:=yb BK244 hb
          replace BK269:=yb BK269 hb
          replace HB:=yH HB hb
          (try clear hb)
          (try clear hb2)
          (try clear hk)
          (try clear hi)
          (try clear ho0)
          obtain ⟨Ao129,co129,eo129⟩:=Kd.N_slice HO264.out
          (first|subst eo129|(injection eo129 with f1_ f2_ f3_;have f4_:=f1_.symm;have f5_:=f3_.symm;clear f1_ f2_ f3_;subst f4_;subst f5_))
          refine hK.out _ _ ((blk_cell BK244.out 0).trans rfl) (fun hHeld=>?_)
          clear hK K
          refine norm_ (a':=?_) ?_ ?_
          rotate_left
          ·show Act.put _ (some 98) _=_
           simp only [Act.put,q1,q2,q3,i64_w,i32_w]
           rfl
          refine one_ (i:=6) (N:=some 99) #[Y,Y,Y,Y,Y,Y,Y,Z,Z,Z,Y,Z,Z] rfl rfl (one_of HT_.out D2) D6 (fun K hK=>?_)
          refine goes_ Try.func91 D2 rfl #[.agg #[.slice Ao129 t262.length co129]] D10 rfl rfl D4 ?_
          with_reducible refine (spec_l2Inverse.calls _ _ t262 t265 false _ ?side1 ?side2 A86.out).mono ?_
          (case side1=>repeat (first|exact (Kd.N_reads' HO264.out).2.2|(with_reducible refine Kd.C_alloc ?_ _)|(with_reducible refine Kd.C_drewN ?_ _)|(with_reducible refine Kd.C_drew ?_)))
          (case side2=>exact (Kd.N_reads' HO264.out).2.1)
          rintro e w130 ⟨v266,rfl,ho0,hb⟩
          refine ⟨_,rfl,?_⟩
          replace HO_74:=eV HO_74 D7 hb
          have HO267:=am (Kd.N_lower (Kd.N_mono (ok':=fun k_=>some k_ ≠ (u9:Value).ownBlock∧some k_ ≠ (.slice Ao61 x226000_2.length co61:Value).ownBlock∧some k_ ≠ (.slice Ao62 x226001_2.length co62:Value).ownBlock∧some k_ ≠ (.slice Ao65 t241.length co65:Value).ownBlock∧some k_ ≠ (.slice Ao127 t259.length co127:Value).ownBlock∧some k_ ≠ (.slice Ao129 t262.length co129:Value).ownBlock∧k_ ≠ gb225∧k_ ≠ gb226∧k_ ≠ gb244∧k_ ≠ gb269) ho0 (fun k_ hk_=>⟨(Kd.fresh' (Kd.R_lt (yR HO_9)) k_ hk_),(Kd.fresh' (Kd.R_lt (yR HO_226000)) k_ hk_),(Kd.fresh' (Kd.R_lt (yR HO_226001)) k_ hk_),(Kd.fresh' (Kd.N_lt (yN HO_245000)) k_ hk_),(Kd.fresh' (Kd.R_lt (yR HO261)) k_ hk_),(Kd.fresh' (Kd.N_lt (yN HO264)) k_ hk_),(yz BK225 k_ hk_),(yz BK226 k_ hk_),(yz BK244 k_ hk_),(yz BK269 k_ hk_)⟩)) (pz (yW HB)))
          replace HO_9:=bR HO_9 hb
          replace HO_226000:=bR HO_226000 hb
          replace HO_226001:=bR HO_226001 hb
          replace HO_245000:=eN HO_245000 D7 hb
          replace HO261:=bR HO261 hb
          replace HO264:=eN HO264 D7 hb
          replace BK225:=yb BK225 hb
          replace BK226:=yb BK226 hb
          replace BK244:=yb BK244 hb
          replace BK269:=yb BK269 hb
          replace HB:=yH HB hb
          (try clear hb)
          (try clear hb2)
          (try clear hk)
          (try clear hi)
          (try clear ho0)
          refine hK.out _ _ ((blk_cell BK244.out 0).trans rfl) (fun hHeld=>?_)
          clear hK K
          refine norm_ (a':=?_) ?_ ?_
          rotate_left
          ·show Act.put _ (some 99) _=_
           simp only [Act.put,q1,q2,q3,i64_w,i32_w]
           rfl
          refine pure_ (i:=7) (N:=some 92) (v:=?_) (a':=?_) #[Y,Y,Y,Y,Y,Y,Y,Y,Z,Z,Y,Z,Z] rfl rfl (any_of HT_.out D2) hh (Or.inl ⟨D10,?_⟩) ?_ ?_
          rotate_left
          ·intro w'
           go_simp
           with_reducible rfl
          rotate_left
          ·simp only [Act.put,q1,q2,q3,i64_w,i32_w]
           rfl
          refine pure_ (i:=8) (N:=some 100) (v:=?_) (a':=?_) #[Y,Y,Y,Y,Y,Y,Y,Y,Y,Z,Y,Z,Z] rfl rfl (any_of HT_.out D2) hh (Or.inl ⟨D10,?_⟩) ?_ ?_
          rotate_left
          ·intro w'
           go_simp
           with_reducible rfl
          rotate_left
          ·simp only [Act.put,q1,q2,q3,i64_w,i32_w]
           rfl
          refine pure_ (i:=9) (N:=some 101) (v:=?_) (a':=?_) #[Y,Y,Y,Y,Y,Y,Y,Y,Y,Y,Y,Z,Z] rfl rfl (any_of HT_.out D2) hh (Or.inl ⟨D10,?_⟩) ?_ ?_
          rotate_left
          ·intro w'
           go_simp
           with_reducible rfl
          rotate_left
          ·simp only [Act.put,q1,q2,q3,i64_w,i32_w]
           rfl
          exact norm_ D18 (hCont (.slice Ao127 t259.length co127, .slice Ao129 t262.length co129,v266,gb269) _ ⟨hHeld,(yR HO261),D14,D11,D16,D15,D41,D30,(yR HO_9),(yB BK225),(yB BK226),(yB BK244),(yB BK269),GW269.out,GE269.out,NB225_269.out,NB269_225.out,NB226_269.out,NB269_226.out,NB244_269.out,NB269_244.out,(yW HB)⟩)
         rintro ⟨v260,v263,v266,gb269⟩ w131 ⟨hS_,h0_,h1_,h2_,h3_,h4_,h5_,h6_,h7_,h8_,h9_,h10_,h11_,h12_,h13_,h14_,h15_,h16_,h17_,h18_,h19_,h20_⟩
         have n0_:Aside0 (Kd.R (Kd.int .i64) 3 w131 w.heap.size (fun _=>True) v260 t259):=⟨h0_⟩
         have n1_:Aside0 (Kd.N (Kd.slice 5 (Kd.int .u8)) 57 w131 w.heap.size (fun k_=>some k_ ≠ (v260:Value).ownBlock∧some k_ ≠ (v266:Value).ownBlock∧some k_ ≠ (.slice Ao61 x226000_2.length co61:Value).ownBlock∧some k_ ≠ (.slice Ao62 x226001_2.length co62:Value).ownBlock∧some k_ ≠ (.slice Ao65 t241.length co65:Value).ownBlock∧some k_ ≠ (u9:Value).ownBlock∧k_ ≠ gb225∧k_ ≠ gb226∧k_ ≠ gb244∧k_ ≠ gb269) v263 t262):=⟨h1_⟩
         have n2_:Aside0 (Kd.N (Kd.slice 5 (Kd.int .u8)) 57 w131 w.heap.size (fun k_=>some k_ ≠ (v260:Value).ownBlock∧some k_ ≠ (v263:Value).ownBlock∧some k_ ≠ (.slice Ao61 x226000_2.length co61:Value).ownBlock∧some k_ ≠ (.slice Ao62 x226001_2.length co62:Value).ownBlock∧some k_ ≠ (.slice Ao65 t241.length co65:Value).ownBlock∧some k_ ≠ (u9:Value).ownBlock∧k_ ≠ gb225∧k_ ≠ gb226∧k_ ≠ gb244∧k_ ≠ gb269) v266 t265):=⟨h2_⟩
         have n3_:Aside0 (Kd.R Kd.string 9 w131 w.heap.size (fun k_=>some k_ ≠ (.slice Ao62 x226001_2.length co62:Value).ownBlock∧some k_ ≠ (u9:Value).ownBlock) (.slice Ao61 x226000_2.length co61) x226000_2):=⟨h3_⟩
         have n4_:Aside0 (Kd.R Kd.string 9 w131 w.heap.size (fun k_=>some k_ ≠ (.slice Ao61 x226000_2.length co61:Value).ownBlock∧some k_ ≠ (u9:Value).ownBlock) (.slice Ao62 x226001_2.length co62) x226001_2):=⟨h4_⟩
         have n5_:Aside0 (Kd.N (Kd.slice 5 (Kd.int .u8)) 57 w131 w.heap.size (fun k_=>some k_ ≠ (v260:Value).ownBlock∧some k_ ≠ (v263:Value).ownBlock∧some k_ ≠ (v266:Value).ownBlock∧some k_ ≠ (.slice Ao61 x226000_2.length co61:Value).ownBlock∧some k_ ≠ (.slice Ao62 x226001_2.length co62:Value).ownBlock∧some k_ ≠ (u9:Value).ownBlock∧k_ ≠ gb225∧k_ ≠ gb226∧k_ ≠ gb244∧k_ ≠ gb269) (.slice Ao65 t241.length co65) t241):=⟨h5_⟩
         have n6_:Aside0 (Kd.V Kd.string 9 w131 w.heap.size (fun k_=>some k_ ≠ (v260:Value).ownBlock∧some k_ ≠ (v263:Value).ownBlock∧some k_ ≠ (v266:Value).ownBlock∧some k_ ≠ (.slice Ao61 x226000_2.length co61:Value).ownBlock∧some k_ ≠ (.slice Ao62 x226001_2.length co62:Value).ownBlock∧some k_ ≠ (.slice Ao65 t241.length co65:Value).ownBlock∧some k_ ≠ (u9:Value).ownBlock∧k_ ≠ gb225∧k_ ≠ gb226∧k_ ≠ gb244∧k_ ≠ gb269) (.slice Ao72 y248.length co72) y248):=⟨h6_⟩
         have n7_:Aside0 (Kd.R Kd.string 9 w131 w.heap.size (fun k_=>some k_ ≠ (.slice Ao61 x226000_2.length co61:Value).ownBlock∧some k_ ≠ (.slice Ao62 x226001_2.length co62:Value).ownBlock) u9 x9_3):=⟨h7_⟩
         have n8_:Aside0 (w131.heap[gb225]? = some (.cells #[.slice Ao61 x226000_2.length co61, .slice Ao62 x226001_2.length co62] 27 (0,0))):=⟨h8_⟩
         have n9_:Aside0 (w131.heap[gb226]? = some (.cells #[.slice none 0 0, .slice none 0 0] 27 (0,0))):=⟨h9_⟩
         have n10_:Aside0 (w131.heap[gb244]? = some (.cells #[.slice Ao65 t241.length co65] 43 (0,0))):=⟨h10_⟩
         have n11_:Aside0 (w131.heap[gb269]? = some (.cells #[.slice none 0 0] 43 (0,0))):=⟨h11_⟩
         have n12_:Aside0 (w.heap.size≤gb269):=⟨h12_⟩
         have n13_:Aside0 (w.heap.size≤gb269):=⟨h13_⟩
         have n14_:Aside0 (gb225 ≠ gb269):=⟨h14_⟩
         have n15_:Aside0 (gb269 ≠ gb225):=⟨h15_⟩
         have n16_:Aside0 (gb226 ≠ gb269):=⟨h16_⟩
         have n17_:Aside0 (gb269 ≠ gb226):=⟨h17_⟩
         have n18_:Aside0 (gb244 ≠ gb269):=⟨h18_⟩
         have n19_:Aside0 (gb269 ≠ gb244):=⟨h19_⟩
         have n20_:Aside0 (Below w.heap.size w w131):=⟨h20_⟩
         clear HO_9
         clear HO_74
         clear HO_226000
         clear HO_226001
         clear HO_245000
         clear BK225
         clear BK226
         clear BK244
         clear HB
         clear h0_ h1_ h2_ h3_ h4_ h5_ h6_ h7_ h8_ h9_ h10_ h11_ h12_ h13_ h14_ h15_ h16_ h17_ h18_ h19_ h20_
         have HO261:=n0_
         have HO264:=n1_
         have HO267:=n2_
         have HO_226000:=n3_
         have HO_226001:=n4_
         have HO_245000:=n5_
         have HO_74:=n6_
         have HO_9:=n7_
         have BK225:=n8_
         have BK226:=n9_
         have BK244:=n10_
         have BK269:=n11_
         have GW269:=n12_
         have GE269:=n13_
         have NB225_269:=n14_
         have NB269_225:=n15_
         have NB226_269:=n16_
         have NB269_226:=n17_
         have NB244_269:=n18_
         have NB269_244:=n19_
         have HB:=n20_
         clear n0_ n1_ n2_ n3_ n4_ n5_ n6_ n7_ n8_ n9_ n10_ n11_ n12_ n13_ n14_ n15_ n16_ n17_ n18_ n19_ n20_
         have hHeld:w131.cell? ⟨gb244,0,none⟩=some (.slice Ao65 t241.length co65):=hS_
         obtain ⟨Ao132,co132,eo132⟩:=Kd.N_slice HO267.out
         (first|subst eo132|(injection eo132 with f1_ f2_ f3_;have f4_:=f1_.symm;have f5_:=f3_.symm;clear f1_ f2_ f3_;subst f4_;subst f5_))
         refine norm_ (a':=?_) ?_ ?_
         rotate_left
         ·simp only [putAll,Act.put,q1,q2,q3]
          rfl
         refine one_ (i:=11) (N:=none) #[Y,Y,Y,Y,Y,Y,Y,Y,Y,Y,Y,Y,Z] rfl rfl (one_of HT_.out D2) D6 (fun K hK=>?_)
         have hs133:w131.cell? ⟨gb269,0,none⟩=some (.slice none 0 0):=(blk_cell BK269.out 0).trans rfl
         have hfs133:=blk_frozen BK269.out 0
         have hns133_0:=NB225_269.out
         have hns133_1:=NB226_269.out
         have hns133_2:=NB244_269.out
         have hms133_0:=NB269_225.out
         have hms133_1:=NB269_226.out
         have hms133_2:=NB269_244.out
         refine skip_ (w1:=?_) D10 rfl ?_ ?_
         rotate_left
         ·go_simp
          rfl
         refine hK.out _ _ (((cell_far (p:=⟨gb269,_,none⟩) NB244_269.out _).trans (hHeld))) (fun hHeld=>?_)
         clear hK K
         refine pure_ (i:=12) (N:=some 13) (v:=?_) (a':=?_) #[Y,Y,Y,Y,Y,Y,Y,Y,Y,Y,Y,Y,Y] rfl rfl (any_of HT_.out D2) hh (Or.inl ⟨D10,?_⟩) ?_ ?_
         rotate_left
         ·intro w'
          go_simp
          with_reducible rfl
         rotate_left
         ·simp only [Act.put,q1,q2,q3,i64_w,i32_w]
          rfl
         refine done_ (done_of HT_.out D2) ?_
         have hnb134:=NB226_225.out
         have hnc134:=NB225_226.out
         have hnb135:=NB226_244.out
         have hnc135:=NB244_226.out
         have hnb136:=NB226_269.out
         have hnc136:=NB269_226.out
         obtain ⟨hcz137_0,hcz137_1,hfz137_0,hfz137_1⟩:=yk2 BK226
         try go_wp2
         refine bodyPost_ret (results_ct rfl _ _ gb226 27 #[.slice none 0 0, .slice none 0 0] (0,0) _ rfl (by refine sB ?_;refine blk_put (cs:=#[.slice none 0 0, .slice none 0 0]) ?_ 1 _ rfl;refine sB ?_;refine blk_put (cs:=#[.slice none 0 0, .slice none 0 0]) ?_ 0 _ rfl;exact yF BK226) Try.underlying27 rfl D2) rfl ?_
         exact ⟨_,_,D3,D9,D9,yW HB⟩
      rw [if_neg c58] at H
      exact absurd H D38
     rw [if_neg c57] at H
     exact absurd H D38

end Go.Proofs.Ytajikfnpcobnpaa.PFnExactMendStripe
-- SHRUNK
-- SQUEEZED
-- SQUEEZED2
-- SQUEEZED3
-- SQUEEZED4
-- SQUEEZED5
-- SQUEEZED6
