import Derived.Test.YtajikfnpcobnpaaVFnMatricesB
import Derived.Test.YtajikfnpcobnpaaPFnMatricesx0
import Derived.Test.YtajikfnpcobnpaaPFnMatricesx1
import Derived.Test.YtajikfnpcobnpaaPFnMatricesx2
namespace Go.Proofs.Ytajikfnpcobnpaa.PFnMatrices
open Go.RowKit Go.Proofs.YtajikfnpcobnpaaW.PrintWords Go.Proofs.YtajikfnpcobnpaaW.PrintLast Go.Proofs.YtajikfnpcobnpaaW.PrintMore Go.Proofs.Ytajikfnpcobnpaa.KitS
attribute [local go_sem] max2_int min2_int max_two min_two max_three min_three max_four min_four
set_option linter.unusedVariables false
set_option maxHeartbeats 8000000
set_option maxRecDepth 100000
set_option linter.unusedSimpArgs false
def impl_InverseOf.f (l0_0:List (List Int)):Option ((List (List Int)) × Bool):=(impl_GoodMatrix.f l0_0).bind fun t197=>(if t197=true then (if 0 < (l0_0.length:Int) then (if (l0_0.length:Int)=((rd_L1 l0_0 0).length:Int) then ((impl_inverseOf.f l0_0).bind fun bt199=>(some (bt199.1,bt199.2))) else (some (([]:List (List Int)),false))) else (none)) else (some (([]:List (List Int)),false)))
def impl_InverseOf.T1:Bool × List (List Nat × List Nat):=(true,[([],[]),([0],[0]),([1],[1]),([2,1],[2]),([3],[3]),([4,3],[3,4]),([5,3],[3,5]),([3],[3]),([7,3],[3,7]),([8,3],[3,8]),([9,3],[3,9]),([10,3],[3,10]),([6,11,3],[3,6,11]),([3,12],[3,12])])
def impl_InverseOf.B1:List Nat:=[0,1,3,7,15,31,63,15,143,399,911,1935,4095,8191]
theorem impl_InverseOf.tab1:rtab .any (opsOf Try.f34 1)=impl_InverseOf.T1:=by kernel_rfl
theorem impl_InverseOf.bits1:waitsOk impl_InverseOf.T1.2 impl_InverseOf.B1=true:=by kernel_rfl
theorem impl_InverseOf.calls (A0_0:Option Addr) (c0_0:Nat) (l0_0:List (List Int)) (r1:List (List Int)) (r2:Bool) (w:World) (hr0_0:Kd.C (Kd.slice 5 (Kd.int .u8)) w A0_0 l0_0.length l0_0) (hc0_0:l0_0.length≤c0_0) (h:impl_InverseOf.f l0_0=some (r1,r2)) :
  Calls Try.prog 34 #[.agg #[.slice A0_0 l0_0.length c0_0]] w fun e w'=>∃ v0_:Value,e = .returned (.tuple #[.agg #[v0_], .bool r2])∧Kd.S (Kd.slice 5 (Kd.int .u8)) 57 w' w.heap.size (fun _=>True) v0_ r1∧Below w.heap.size w w':=by
 have hu43:=Try.underlying43
 have HR0_0:=am hr0_0
 have HC0_0:=am hc0_0
 clear hr0_0 hc0_0
 have HB:=am (Below.refl w.heap.size w)
 have H:=h
 unfold impl_InverseOf.f at H
 clear h
 obtain ⟨t197,A2,H⟩:=yo H
 by_cases c3:t197=true
 ·subst c3
  replace H:=yt H
  obtain ⟨c4,H⟩:=yi H
  have c4b0:=decide_eq_true c4
  have c4b1:decide (0 < l0_0.length)=true:=decide_eq_true D23
  clear c4
  by_cases c5:(l0_0.length:Int)=((rd_L1 l0_0 0).length:Int)
  ·rw [if_pos c5] at H
   have c5b0:((l0_0.length:Int) == ((rd_L1 l0_0 0).length:Int))=true:=beq_iff_eq.mpr c5
   have c5b1:((l0_0.length:Int) != ((rd_L1 l0_0 0).length:Int))=false:=bne_eq_false_iff_eq.mpr c5
   have c5b2:(l0_0.length == (rd_L1 l0_0 0).length)=true:=by first|simpa using c5|(simp at c5 ⊢;omega)
   clear c5
   obtain ⟨⟨t199,t200⟩,A6,H⟩:=yo H
   try dsimp only at H
   simp only [Option.some.injEq,Prod.mk.injEq] at H
   obtain ⟨rfl,rfl⟩:=H
   go_enter Try.func34,Try.ntmps34
   try go_wp2_with (first|((with_reducible refine gD 1 ?_);(try (refine gate_guard D35 ?_;dsimp only));refine gB (cs:=#[.slice A0_0 l0_0.length c0_0]) 43 ?_;intro gb195 hg w7 hbox hb;have BK195:=am (hbox);have GW195:=ye HB hg;replace HB:=yH HB hb;have GE195:=GW195;clear hb hbox hg)|((with_reducible refine gD 2 ?_);(try (refine gate_guard D35 ?_;dsimp only));refine gB (cs:=#[.slice none 0 0]) 43 ?_;intro gb196 hg w8 hbox hb;have BK196:=am (hbox);have GW196:=ye HB hg;replace HB:=yH HB hb;have NB195_196:=yl BK195 hg;have NB196_195:=yg BK195 hg;replace BK195:=yb BK195 hb;have GE196:=GW196;clear hb hbox hg))
   replace BK195:=am (qd BK195.out)
   replace BK196:=am (qd BK196.out)
   replace HB:=am (pd HB.out)
   have p198:0≤(0:Int):=D23
   have q198:0 < (l0_0.length:Int):=od D1
   obtain ⟨ad198,A198_0,c198_0,e198,hx198_0,hl198_0,hi198_0⟩:=at_L1 HR0_0.out 0 p198 q198
   have hw198_0:=hx198_0
   (try rw [show ((0:Int)).toNat=0 from rfl] at hw198_0)
   (try rw [show 0*1=0 from rfl] at hw198_0)
   (try rw [Addr.add_zero'] at hw198_0)
   cases e198
   have qi198:(0 < l0_0.length)=True:=eq_true D23
   (try rw [show ((0:Int)).toNat=0 from rfl] at hx198_0)
   (try rw [Addr.add_zero'] at hx198_0)
   replace hx198_0:=(HB.out.cell (World.block_lt_of_cell? w _ hx198_0)).trans hx198_0
   have HR198_0:=am hi198_0
   have HC198_0:=am hl198_0
   clear hi198_0 hl198_0
   replace p198:=eq_true p198
   replace q198:=eq_true q198
   refine rS (n:=14) (S:=fun w'=>w'.cell? ⟨gb195,0,none⟩=some (.slice (some ad198) l0_0.length c0_0)∧w'.cell? ad198=some (.slice A198_0 (rd_L1 l0_0 0).length c198_0)) (ds:=[]) [(0,6),(1,0),(2,8),(3,9),(4,10),(7,13),(5,11),(6,12),(8,14),(9,15),(10,16),(11,17),(12,18),(13,19)] D3 rfl impl_InverseOf.tab1 impl_InverseOf.bits1 ⟨yk BK195 0,((HB.out.cell (World.block_lt_of_cell? w _ hw198_0)).trans hw198_0)⟩ (fun hHeld HT_ HW_=>?_)
   generalize w8.drew=w9 at BK195 BK196 HB HR198_0 hx198_0 hHeld ⊢
   refine rR ?_
   refine rO (N:=some 7) HT_ rfl rfl D3 D24 (fun K hK=>?_)
   refine goes_ Try.func77 D3 rfl #[.agg #[.slice (some ad198) l0_0.length c0_0]] D35 rfl rfl D27 ?_
   with_reducible refine (impl_GoodMatrix.calls _ _ l0_0 true _ (yc (Kd.C_below HR0_0.out HB.out)) HC0_0.out A2.out).mono ?_
   rintro e w10 ⟨rfl,hb⟩
   refine ⟨_,rfl,?_⟩
   replace BK195:=yb BK195 hb
   replace BK196:=yb BK196 hb
   replace HB:=yH HB hb
   (try clear hb)
   (try clear hb2)
   (try clear hk)
   (try clear hi)
   refine hK.out _ _ ⟨yk BK195 0,((HB.out.cell (World.block_lt_of_cell? w _ hw198_0)).trans hw198_0)⟩ (fun hHeld=>?_)
   clear hK K
   refine rN (nA 7) ?_
   refine rR ?_
   refine rD HT_ D3 ?_
   have hnb11:=NB195_196.out
   have hnc11:=NB196_195.out
   obtain ⟨hcz12_0,hfz12_0⟩:=yk1 BK195
   try go_wp2_with (first|((with_reducible refine gC 101 ?_);refine gM (some 24) Try.func101 (args:=#[.slice (some ad198) l0_0.length c0_0]) (impl_inverseOf.calls _ _ l0_0 t199 t200 _ (yc (Kd.C_below HR0_0.out HB.out)) HC0_0.out A6.out) ?_;rintro e w13 ⟨v201,rfl,ho0,hb⟩;refine ⟨_,rfl,?_⟩;have HO202:=am (Kd.S_lower ho0 (pz (yW HB)));replace BK195:=yb BK195 hb;replace BK196:=yb BK196 hb;replace HB:=yH HB hb;clear hb ho0;obtain ⟨Ao14,co14,eo14⟩:=Kd.S_slice HO202.out;subst eo14;obtain ⟨hcz15_0,hfz15_0⟩:=yk1 BK196))
   refine bodyPost_ret (results_ct rfl _ _ gb196 43 #[.slice Ao14 t199.length co14] (0,0) _ rfl D136 Try.underlying43 rfl D3) rfl ?_
   exact ⟨_,D0,by refine sS ?_;exact Kd.S_mono (Kd.S_far (p:=⟨gb196,0,none⟩) (Kd.S_types HO202.out BK196.out D24) (fun _ hk=>hk.2) (.slice Ao14 t199.length co14)) (fun _ hk=>trivial),yW HB⟩
  rw [if_neg c5] at H
  have c5b0:((l0_0.length:Int) == ((rd_L1 l0_0 0).length:Int))=false:=beq_eq_false_iff_ne.mpr c5
  have c5b1:((l0_0.length:Int) != ((rd_L1 l0_0 0).length:Int))=true:=bne_iff_ne.mpr c5
  have c5b2:(l0_0.length == (rd_L1 l0_0 0).length)=false:=by first|simpa using c5|(simp at c5 ⊢;omega)
  simp only [Option.some.injEq,Prod.mk.injEq] at H
  obtain ⟨rfl,rfl⟩:=H
  go_enter Try.func34,Try.ntmps34
  try go_wp2_with (first|((with_reducible refine gD 1 ?_);(try (refine gate_guard D35 ?_;dsimp only));refine gB (cs:=#[.slice A0_0 l0_0.length c0_0]) 43 ?_;intro gb195 hg w16 hbox hb;have BK195:=am (hbox);have GW195:=ye HB hg;replace HB:=yH HB hb;have GE195:=GW195;clear hb hbox hg)|((with_reducible refine gD 2 ?_);(try (refine gate_guard D35 ?_;dsimp only));refine gB (cs:=#[.slice none 0 0]) 43 ?_;intro gb196 hg w17 hbox hb;have BK196:=am (hbox);have GW196:=ye HB hg;replace HB:=yH HB hb;have NB195_196:=yl BK195 hg;have NB196_195:=yg BK195 hg;replace BK195:=yb BK195 hb;have GE196:=GW196;clear hb hbox hg))
  replace BK195:=am (qd BK195.out)
  replace BK196:=am (qd BK196.out)
  replace HB:=am (pd HB.out)
  have p198:0≤(0:Int):=D23
  have q198:0 < (l0_0.length:Int):=od D1
  obtain ⟨ad198,A198_0,c198_0,e198,hx198_0,hl198_0,hi198_0⟩:=at_L1 HR0_0.out 0 p198 q198
  have hw198_0:=hx198_0
  (try rw [show ((0:Int)).toNat=0 from rfl] at hw198_0)
  (try rw [show 0*1=0 from rfl] at hw198_0)
  (try rw [Addr.add_zero'] at hw198_0)
  cases e198
  have qi198:(0 < l0_0.length)=True:=eq_true D23
  (try rw [show ((0:Int)).toNat=0 from rfl] at hx198_0)
  (try rw [Addr.add_zero'] at hx198_0)
  replace hx198_0:=(HB.out.cell (World.block_lt_of_cell? w _ hx198_0)).trans hx198_0
  have HR198_0:=am hi198_0
  have HC198_0:=am hl198_0
  clear hi198_0 hl198_0
  replace p198:=eq_true p198
  replace q198:=eq_true q198
  refine rS (n:=14) (S:=fun w'=>w'.cell? ⟨gb195,0,none⟩=some (.slice (some ad198) l0_0.length c0_0)∧w'.cell? ad198=some (.slice A198_0 (rd_L1 l0_0 0).length c198_0)) (ds:=[]) [(0,6),(1,0),(2,8),(3,9),(4,10),(7,13),(5,11),(6,12),(8,14),(9,15),(10,16),(11,17),(12,18),(13,19)] D3 rfl impl_InverseOf.tab1 impl_InverseOf.bits1 ⟨yk BK195 0,((HB.out.cell (World.block_lt_of_cell? w _ hw198_0)).trans hw198_0)⟩ (fun hHeld HT_ HW_=>?_)
  generalize w17.drew=w18 at BK195 BK196 HB HR198_0 hx198_0 hHeld ⊢
  refine rR ?_
  refine rO (N:=some 7) HT_ rfl rfl D3 D24 (fun K hK=>?_)
  refine goes_ Try.func77 D3 rfl #[.agg #[.slice (some ad198) l0_0.length c0_0]] D35 rfl rfl D27 ?_
  with_reducible refine (impl_GoodMatrix.calls _ _ l0_0 true _ (yc (Kd.C_below HR0_0.out HB.out)) HC0_0.out A2.out).mono ?_
  rintro e w19 ⟨rfl,hb⟩
  refine ⟨_,rfl,?_⟩
  replace BK195:=yb BK195 hb
  replace BK196:=yb BK196 hb
  replace HB:=yH HB hb
  (try clear hb)
  (try clear hb2)
  (try clear hk)
  (try clear hi)
  refine hK.out _ _ ⟨yk BK195 0,((HB.out.cell (World.block_lt_of_cell? w _ hw198_0)).trans hw198_0)⟩ (fun hHeld=>?_)
  clear hK K
  refine rN (nA 7) ?_
  refine rR ?_
  refine rD HT_ D3 ?_
  have hnb20:=NB196_195.out
  have hnc20:=NB195_196.out
  obtain ⟨hcz21_0,hfz21_0⟩:=yk1 BK196
  try go_wp2
  refine bodyPost_ret (results_ct rfl _ _ gb196 43 #[.slice none 0 0] (0,0) _ rfl D136 Try.underlying43 rfl D3) rfl ?_
  exact ⟨_,D0,D25,yW HB⟩
 replace c3:=Bool.eq_false_iff.mpr c3
 subst c3
 replace H:=yn H
 simp only [Option.some.injEq,Prod.mk.injEq] at H
 obtain ⟨rfl,rfl⟩:=H
 go_enter Try.func34,Try.ntmps34
 try go_wp2_with (first|((with_reducible refine gD 1 ?_);(try (refine gate_guard D35 ?_;dsimp only));refine gB (cs:=#[.slice A0_0 l0_0.length c0_0]) 43 ?_;intro gb195 hg w22 hbox hb;have BK195:=am (hbox);have GW195:=ye HB hg;replace HB:=yH HB hb;have GE195:=GW195;clear hb hbox hg)|((with_reducible refine gD 2 ?_);(try (refine gate_guard D35 ?_;dsimp only));refine gB (cs:=#[.slice none 0 0]) 43 ?_;intro gb196 hg w23 hbox hb;have BK196:=am (hbox);have GW196:=ye HB hg;replace HB:=yH HB hb;have NB195_196:=yl BK195 hg;have NB196_195:=yg BK195 hg;replace BK195:=yb BK195 hb;have GE196:=GW196;clear hb hbox hg))
 replace BK195:=am (qd BK195.out)
 replace BK196:=am (qd BK196.out)
 replace HB:=am (pd HB.out)
 refine rS (n:=14) (S:=fun w'=>w'.cell? ⟨gb195,0,none⟩=some (.slice A0_0 l0_0.length c0_0)) (ds:=[]) [(0,6),(1,0),(2,8),(3,9),(4,10),(5,11),(6,12),(7,13),(8,14),(9,15),(10,16),(11,17),(12,18),(13,19)] D3 rfl impl_InverseOf.tab1 impl_InverseOf.bits1 (yk BK195 0) (fun hHeld HT_ HW_=>?_)
 generalize w23.drew=w24 at BK195 BK196 HB hHeld ⊢
 refine rR ?_
 refine rO (N:=some 7) HT_ rfl rfl D3 D24 (fun K hK=>?_)
 refine goes_ Try.func77 D3 rfl #[.agg #[.slice A0_0 l0_0.length c0_0]] D35 rfl rfl D27 ?_
 with_reducible refine (impl_GoodMatrix.calls _ _ l0_0 false _ (yc (Kd.C_below HR0_0.out HB.out)) HC0_0.out A2.out).mono ?_
 rintro e w25 ⟨rfl,hb⟩
 refine ⟨_,rfl,?_⟩
 replace BK195:=yb BK195 hb
 replace BK196:=yb BK196 hb
 replace HB:=yH HB hb
 (try clear hb)
 (try clear hb2)
 (try clear hk)
 (try clear hi)
 refine hK.out _ _ (yk BK195 0) (fun hHeld=>?_)
 clear hK K
 refine rN (nA 7) ?_
 refine rR ?_
 refine rD HT_ D3 ?_
 have hnb26:=NB196_195.out
 have hnc26:=NB195_196.out
 obtain ⟨hcz27_0,hfz27_0⟩:=yk1 BK196
 try go_wp2
 refine bodyPost_ret (results_ct rfl _ _ gb196 43 #[.slice none 0 0] (0,0) _ rfl D136 Try.underlying43 rfl D3) rfl ?_
 exact ⟨_,D0,D25,yW HB⟩

def impl_dot.l0:Nat→List Int→Int→List Int→Int→Int→Option (Int)
 | 0,_,_,_,_,_=>none
 | k+1,x1,x5,x8,x9,x10=>if x10 < x9 then (if 0≤x10 then (if x10 < (x8.length:Int) then (if x10 < (x1.length:Int) then ((impl_Times.f k (rd x8 x10) (rd x1 x10)).bind fun t205=>(impl_dot.l0 k x1 (Go.bits .xor .u8 x5 t205) x8 x9 (wrap64 (x10+1)))) else (none)) else (none)) else (none)) else (some x5)
def impl_dot.f (k:Nat) (l0:List Int) (l1:List Int):Option (Int):=impl_dot.l0 k l1 0 l0 (l0.length:Int) 0
theorem impl_dot.mono_l:∀ k,(∀ y0 y1 y2 y3 y4,LeO (impl_dot.l0 k y0 y1 y2 y3 y4) (impl_dot.l0 (k+1) y0 y1 y2 y3 y4))
 | 0=>fun _ _ _ _ _ r h=>by simp [impl_dot.l0] at h
 | k+1=>by
  have ih0:=impl_dot.mono_l k
  intro y0 y1 y2 y3 y4
  unfold impl_dot.l0
  exact mm
theorem impl_dot.mono:∀ a0 a1 k,LeO (impl_dot.f k a0 a1) (impl_dot.f (k+1) a0 a1):=by
 intro a0 a1 k
 have ih0:=impl_dot.mono_l k
 unfold impl_dot.f
 exact mm
theorem impl_dot.calls (k:Nat) (A0:Option Addr) (c0:Nat) (l0:List Int) (A1:Option Addr) (c1:Nat) (l1:List Int) (r:Int) (w:World) (hr0:Kd.C (Kd.int .u8) w A0 l0.length l0) (hc0:l0.length≤c0) (hr1:Kd.C (Kd.int .u8) w A1 l1.length l1) (hc1:l1.length≤c1) (h:impl_dot.f k l0 l1=some r) :
  Calls Try.prog 169 #[.slice A0 l0.length c0, .slice A1 l1.length c1] w fun e w'=>e = .returned (.int .u8 r)∧Drawn0 w w':=by
 have HR0:=am hr0
 have HC0:=am hc0
 clear hr0 hc0
 have HR1:=am hr1
 have HC1:=am hc1
 clear hr1 hc1
 have H:=h
 unfold impl_dot.f at H
 clear h
 have H':=am H
 clear H
 go_enter Try.func169,Try.ntmps169
 go_wp2
 go_loopg [5,10] k (fun kq v5 v10 w'=>∃ (x5_1:Int) (x10_1:Int),v5 = .int .u8 x5_1∧v10 = .int .i64 x10_1∧Aside0 (impl_dot.l0 kq l1 x5_1 l0 (l0.length:Int) x10_1=some r)∧Aside0 (kq≤k)∧Drawn0 w w')
 case atStart=>exact ⟨(0),(0),D2,D2,H',⟨Nat.le_refl _⟩,D34⟩
 case round =>
  clear H'
  try clear c1
  try clear p2
  obtain ⟨x5_1,x10_1,rfl,rfl,HA,HK1,⟨m1,rfl⟩⟩:=hrel
  cases gk with
  | zero=>exact absurd HA.out (by simp [impl_dot.l0])
  | succ k1 =>
   have H:=HA.out
   clear HA
   simp only [impl_dot.l0] at H
   by_cases c3:x10_1 < (l0.length:Int)
   ·rw [if_pos c3] at H
    have c3b0:=decide_eq_true c3
    clear c3
    obtain ⟨c4,H⟩:=yi H
    have c4b0:=decide_eq_true c4
    clear c4
    obtain ⟨c5,H⟩:=yi H
    have c5b0:=decide_eq_true c5
    clear c5
    obtain ⟨c6,H⟩:=yi H
    have c6b0:=decide_eq_true c6
    clear c6
    obtain ⟨t205,A7,H⟩:=yo H
    have H':=am H
    clear H
    have p203:0≤(x10_1:Int):=od D1
    have q203:x10_1 < (l0.length:Int):=od D1
    obtain ⟨ad203,e203,hx203_0⟩:=Kd.at_int HR0.out x10_1 p203 q203
    cases e203
    replace p203:=eq_true p203
    replace q203:=eq_true q203
    have p204:0≤(x10_1:Int):=od D1
    have q204:x10_1 < (l1.length:Int):=od D1
    obtain ⟨ad204,e204,hx204_0⟩:=Kd.at_int HR1.out x10_1 p204 q204
    cases e204
    replace p204:=eq_true p204
    replace q204:=eq_true q204
    go_wp2_with (first|((with_reducible refine gC 192 ?_);refine gM (some 21) Try.func192 (args:=#[.int .u8 (rd l0 x10_1), .int .u8 (rd l1 x10_1)]) (impl_Times.calls k1 (rd l0 x10_1) (rd l1 x10_1) t205 _ A7.out) ?_;rintro e w' ⟨rfl,⟨nd,rfl⟩⟩;refine ⟨_,rfl,?_⟩))
    go_roundg k1
    case measure=>have:=HK1.out;omega
    case rel=>exact ⟨(Go.bits .xor .u8 x5_1 t205),(wrap64 (x10_1+1)),D2,D2,H',⟨D50⟩,D34⟩
   rw [if_neg c3] at H
   have c3b0:=decide_eq_false c3
   clear c3
   obtain rfl:=Option.some.inj H
   go_wp2
   go_ret
   exact ⟨D2,D34⟩

def impl_solve.l0:Nat→List Int→List Int→List (List Int)→Int→Int→Option (List Int × Bool)
 | 0,_,_,_,_,_=>none
 | k+1,x1,x8,x19,x20,x21=>if x21 < x20 then (if 0≤x21 then (if x21 < (x19.length:Int) then ((impl_dot.f k (rd_L1 x19 x21) x1).bind fun t214=>(if x8.length < 140737488355328 then (impl_solve.l0 k x1 (x8 ++ [t214]) x19 x20 (wrap64 (x21+1))) else (none))) else (none)) else (none)) else (some (x8,true))
def impl_solve.f (k:Nat) (l0:List (List Int)) (l1:List Int):Option (List Int × Bool):=(impl_inverseOf.f l0).bind fun bt206=>(if bt206.2=true then (impl_solve.l0 k l1 (([]:List Int)) bt206.1 (bt206.1.length:Int) 0) else (some (([]:List Int),false)))
theorem impl_solve.mono_l:∀ k,(∀ y0 y1 y2 y3 y4,LeO (impl_solve.l0 k y0 y1 y2 y3 y4) (impl_solve.l0 (k+1) y0 y1 y2 y3 y4))
 | 0=>fun _ _ _ _ _ r h=>by simp [impl_solve.l0] at h
 | k+1=>by
  have ih0:=impl_solve.mono_l k
  intro y0 y1 y2 y3 y4
  unfold impl_solve.l0
  exact mm
theorem impl_solve.mono:∀ a0 a1 k,LeO (impl_solve.f k a0 a1) (impl_solve.f (k+1) a0 a1):=by
 intro a0 a1 k
 have ih0:=impl_solve.mono_l k
 unfold impl_solve.f
 exact mm
theorem impl_solve.calls (k:Nat) (A0:Option Addr) (c0:Nat) (l0:List (List Int)) (A1:Option Addr) (c1:Nat) (l1:List Int) (r1:List Int) (r2:Bool) (w:World) (hr0:Kd.C (Kd.slice 5 (Kd.int .u8)) w A0 l0.length l0) (hc0:l0.length≤c0) (hr1:Kd.C (Kd.int .u8) w A1 l1.length l1) (hc1:l1.length≤c1) (h:impl_solve.f k l0 l1=some (r1,r2)) :
  Calls Try.prog 119 #[.slice A0 l0.length c0, .slice A1 l1.length c1] w fun e w'=>∃ v0_:Value,e = .returned (.tuple #[v0_, .bool r2])∧Kd.R (Kd.int .u8) 5 w' w.heap.size (fun _=>True) v0_ r1∧Below w.heap.size w w':=by
 have HR0:=am hr0
 have HC0:=am hc0
 clear hr0 hc0
 have HR1:=am hr1
 have HC1:=am hc1
 clear hr1 hc1
 have HB:=am (Below.refl w.heap.size w)
 have H:=h
 unfold impl_solve.f at H
 clear h
 obtain ⟨⟨t206,t207⟩,A3,H⟩:=yo H
 try dsimp only at H
 by_cases c4:t207=true
 ·subst c4
  replace H:=yt H
  generalize hy210:(([]:List Int):List Int)=y210 at H
  have Ny210:=am hy210.symm
  clear hy210
  have H':=am H
  clear H
  go_enter Try.func119,Try.ntmps119
  go_wp2_with (first|((with_reducible refine gC 101 ?_);refine gM (some 13) Try.func101 (args:=#[.slice A0 l0.length c0]) (impl_inverseOf.calls _ _ l0 t206 true _ (yc HR0.out) HC0.out A3.out) ?_;rintro e w5 ⟨v208,rfl,ho0,hb⟩;refine ⟨_,rfl,?_⟩;have HO209:=am (Kd.S_lower ho0 (pz (yW HB)));replace HB:=yH HB hb;clear hb ho0)|((with_reducible refine gD 18 ?_);refine Kd.R_lit (Kd.int .u8) _ 5 D35 (N:=18) D35 (xs:=([]:List Int)) (inner:=[]) (ok:=fun _=>True) (okp:=fun _=>True) D45 D72 (fun _ hk=>hk) trivial (Below.refl _ _) (Nat.le_refl _) D52 ?_;intro v211 w6 ho7 hb hg_ hnew_;clear hg_ hnew_;(first|rw [← Ny210.out] at ho7|(simp only [Int.reduceToNat] at ho7;rw [← Ny210.out] at ho7));replace HO209:=eS HO209 (Kd.R_base ho7) hb;have HO212:=am (Kd.R_lower ho7 (pz (yW HB)));replace HB:=yH HB hb;clear hb ho7;obtain ⟨Ao8,co8,eo8⟩:=Kd.S_slice HO209.out;subst eo8))
  go_loopg [8,21] k (fun kq v8 v21 w'=>∃ (x8_1:List Int) (x21_1:Int),v21 = .int .i64 x21_1∧Aside0 (impl_solve.l0 kq l1 x8_1 t206 (t206.length:Int) x21_1=some (r1,r2))∧Aside0 (kq≤k)∧Aside0 (Kd.R (Kd.int .u8) 5 w' w.heap.size (fun _=>True) v8 x8_1)∧Aside0 (Kd.S (Kd.slice 5 (Kd.int .u8)) 57 w' w.heap.size (fun k_=>some k_ ≠ (v8:Value).ownBlock) (.slice Ao8 t206.length co8) t206)∧Aside0 (Below w.heap.size w w'))
  case atStart=>exact ⟨(y210),(0),D2,H',⟨Nat.le_refl _⟩,⟨yR HO212⟩,⟨by refine sS ?_;exact Kd.S_mono HO209.out (fun _ hk=>hk.2)⟩,⟨yW HB⟩⟩
  case round =>
   clear H'
   try clear c1
   try clear p2
   try clear c4
   obtain ⟨x8_1,x21_1,rfl,HA,HK1,HO_8,HO_19,HB⟩:=hrel
   cases gk with
   | zero=>exact absurd HA.out (by simp [impl_solve.l0])
   | succ k1 =>
    have H:=HA.out
    clear HA
    simp only [impl_solve.l0] at H
    by_cases c9:x21_1 < (t206.length:Int)
    ·rw [if_pos c9] at H
     have c9b0:=decide_eq_true c9
     clear c9
     obtain ⟨c10,H⟩:=yi H
     have c10b0:=decide_eq_true c10
     clear c10
     obtain ⟨c11,H⟩:=yi H
     have c11b0:=decide_eq_true c11
     clear c11
     obtain ⟨t214,A12,H⟩:=yo H
     obtain ⟨c13,H⟩:=yi H
     have LMc13:=am c13
     clear c13
     generalize hy215:(x8_1 ++ [t214]:List Int)=y215 at H
     have Ny215:=am hy215.symm
     clear hy215
     have H':=am H
     clear H
     have p213:0≤(x21_1:Int):=od D1
     have q213:x21_1 < (t206.length:Int):=od D1
     obtain ⟨ad213,A213_0,c213_0,e213,hx213_0,hl213_0,hi213_0⟩:=at_L1 (Kd.S_reads' HO_19.out).2.2 x21_1 p213 q213
     cases e213
     obtain ⟨ce213,hce213,hMe213,hcc213⟩:=Kd.S_get HO_19.out [] x21_1 p213 (by first|exact q213|exact od D1|(have e_:=(Kd.S_reads' HO_19.out).1;omega))
     obtain ⟨ve213_0,rfl,ge213_0⟩:=hMe213
     have hv213_0:=hcc213 0 _ rfl
     rw [Nat.add_zero,show ((Kd.slice 5 (Kd.int .u8))).sz=1 from rfl,Nat.mul_one] at hv213_0
     replace hv213_0:=Option.some.inj (hv213_0.symm.trans hx213_0)
     rw [hv213_0] at ge213_0
     have HL213_0:=am (show Kd.R (Kd.int .u8) 5 _ _ _ _ (rd_L1 t206 x21_1) from ge213_0)
     clear hv213_0 ge213_0
     clear hcc213 hce213
     have HR213_0:=am hi213_0
     have HC213_0:=am hl213_0
     clear hi213_0 hl213_0
     replace p213:=eq_true p213
     replace q213:=eq_true q213
     go_wp2_with (first|((with_reducible refine gC 169 ?_);refine gM (some 28) Try.func169 (args:=#[.slice A213_0 (rd_L1 t206 x21_1).length c213_0, .slice A1 l1.length c1]) (impl_dot.calls k1 _ _ (rd_L1 t206 x21_1) _ _ l1 t214 _ ?side1 ?side2 ?side3 ?side4 A12.out) ?_;(case side1=>repeat (first|exact (by repeat (first|(with_reducible exact HR213_0.out)|(with_reducible refine Kd.C_alloc ?_ _)|(with_reducible refine Kd.C_drewN ?_ _)|(with_reducible refine Kd.C_drew ?_)|exact HR213_0.out))|(with_reducible refine Kd.C_alloc ?_ _)|(with_reducible refine Kd.C_drewN ?_ _)|(with_reducible refine Kd.C_drew ?_)));(case side2=>exact HC213_0.out);(case side3=>repeat (first|exact (Kd.C_below HR1.out HB.out)|(with_reducible refine Kd.C_alloc ?_ _)|(with_reducible refine Kd.C_drewN ?_ _)|(with_reducible refine Kd.C_drew ?_)));(case side4=>exact HC1.out);rintro e w' ⟨rfl,⟨nd,rfl⟩⟩;refine ⟨_,rfl,?_⟩)|((with_reducible refine gate_builtin (b:=.append) (xs:=#[.tmp 25, .tmp 29]) rfl ?_);at_builtin;refine Kd.R_append (Kd.int .u8) (w0:=w) w.heap.size rfl (.tmp 25) (.tmp 29) 57 5 (.int .u8 0) 1 rfl Try.underlying57 info5 rfl D24 D23 u8 x8_1 t214 [.int .u8 t214] (fun _=>True) (fun _=>False) rfl rfl (by exact rfl) (fun _ hk=>hk.elim) D75 (by exact (yR HO_8)) D135 D87 (by have:=LMc13.out;omega) ?_;intro v216 w14 ho hb hg hat;rw [← Ny215.out] at ho;have n0_:=am (Kd.S_after (ok:=(fun _=>True)) (by refine sS ?_;exact Kd.S_mono HO_19.out (fun _ hk=>⟨trivial,hk⟩)) hg hat);have n1_:=am (Kd.R_after (ok:=(fun k_=>some k_ ≠ (.slice (some ad213) t206.length co8:Value).ownBlock)) (by refine sR ?_;exact Kd.R_mono HL213_0.out (fun _ hk=>⟨hk.2,hk.1⟩)) hg hat);have n2_:=am (hb);have n3_:=am (ho);clear HO_19 HL213_0 HB HO_8;have HO_19:=n0_;have HL213_0:=n1_;have HB:=n2_;have HO217:=n3_;clear n0_ n1_ n2_ n3_ ho hb hg hat))
     go_roundg k1
     case measure=>have:=HK1.out;omega
     case rel=>exact ⟨(y215),(wrap64 (x21_1+1)),D2,H',⟨D50⟩,⟨yR HO217⟩,⟨by refine sS ?_;exact Kd.S_mono HO_19.out (fun _ hk=>hk.2)⟩,⟨yW HB⟩⟩
    rw [if_neg c9] at H
    have c9b0:=decide_eq_false c9
    clear c9
    simp only [Option.some.injEq,Prod.mk.injEq] at H
    obtain ⟨rfl,rfl⟩:=H
    go_wp2
    go_ret2
    exact ⟨_,D0,yR HO_8,yW HB⟩
 replace c4:=Bool.eq_false_iff.mpr c4
 subst c4
 replace H:=yn H
 simp only [Option.some.injEq,Prod.mk.injEq] at H
 obtain ⟨rfl,rfl⟩:=H
 go_enter Try.func119,Try.ntmps119
 go_wp2_with (first|((with_reducible refine gC 101 ?_);refine gM (some 13) Try.func101 (args:=#[.slice A0 l0.length c0]) (impl_inverseOf.calls _ _ l0 t206 false _ (yc HR0.out) HC0.out A3.out) ?_;rintro e w15 ⟨v208,rfl,ho0,hb⟩;refine ⟨_,rfl,?_⟩;have HO209:=am (Kd.S_lower ho0 (pz (yW HB)));replace HB:=yH HB hb;clear hb ho0))
 go_ret2
 exact ⟨_,D0,D37,yW HB⟩
def impl_Solve.f (k:Nat) (l0_0:List (List Int)) (l1:List Int):Option (List Int × Bool):=(impl_GoodMatrix.f l0_0).bind fun t219=>(if t219=true then (if 0 < (l0_0.length:Int) then (if (l0_0.length:Int)=((rd_L1 l0_0 0).length:Int) then (if (l1.length:Int)=(l0_0.length:Int) then ((impl_solve.f k l0_0 l1).bind fun bt221=>(some (bt221.1,bt221.2))) else (some (([]:List Int),false))) else (some (([]:List Int),false))) else (none)) else (some (([]:List Int),false)))
theorem impl_Solve.mono:∀ a0 a1 k,LeO (impl_Solve.f k a0 a1) (impl_Solve.f (k+1) a0 a1):=by
 intro a0 a1 k
 unfold impl_Solve.f
 exact mm
def impl_Solve.T1:Bool × List (List Nat × List Nat):=(true,[([],[]),([0],[0]),([1],[1]),([2,1],[2]),([3],[3]),([4,3],[3,4]),([5,3],[3,5]),([3],[3]),([7,3],[3,7]),([8,3],[3,8]),([9,3],[3,9]),([10,3],[3,10]),([6,11,3],[3,6,11]),([3,12],[3,12]),([13,3],[13]),([14],[14]),([15,14],[14,15]),([14],[14]),([17,14],[14,17]),([18,14],[14,18]),([16,19,14],[14,16,19]),([14,20],[14,20])])
def impl_Solve.B1:List Nat:=[0,1,3,7,15,31,63,15,143,399,911,1935,4095,8191,16383,32767,65535,32767,163839,425983,1048575,2097151]
theorem impl_Solve.tab1:rtab .any (opsOf Try.f39 1)=impl_Solve.T1:=by kernel_rfl
theorem impl_Solve.bits1:waitsOk impl_Solve.T1.2 impl_Solve.B1=true:=by kernel_rfl
theorem impl_Solve.calls (k:Nat) (A0_0:Option Addr) (c0_0:Nat) (l0_0:List (List Int)) (A1:Option Addr) (c1:Nat) (l1:List Int) (r1:List Int) (r2:Bool) (w:World) (hr0_0:Kd.C (Kd.slice 5 (Kd.int .u8)) w A0_0 l0_0.length l0_0) (hc0_0:l0_0.length≤c0_0) (hr1:Kd.C (Kd.int .u8) w A1 l1.length l1) (hc1:l1.length≤c1) (h:impl_Solve.f k l0_0 l1=some (r1,r2)) :
  Calls Try.prog 39 #[.agg #[.slice A0_0 l0_0.length c0_0], .slice A1 l1.length c1] w fun e w'=>∃ v0_:Value,e = .returned (.tuple #[v0_, .bool r2])∧Kd.R (Kd.int .u8) 5 w' w.heap.size (fun _=>True) v0_ r1∧Below w.heap.size w w':=by
 have hu43:=Try.underlying43
 have HR0_0:=am hr0_0
 have HC0_0:=am hc0_0
 clear hr0_0 hc0_0
 have HR1:=am hr1
 have HC1:=am hc1
 clear hr1 hc1
 have HB:=am (Below.refl w.heap.size w)
 have H:=h
 unfold impl_Solve.f at H
 clear h
 obtain ⟨t219,A3,H⟩:=yo H
 by_cases c4:t219=true
 ·subst c4
  replace H:=yt H
  obtain ⟨c5,H⟩:=yi H
  have c5b0:=decide_eq_true c5
  have c5b1:decide (0 < l0_0.length)=true:=decide_eq_true D23
  clear c5
  by_cases c6:(l0_0.length:Int)=((rd_L1 l0_0 0).length:Int)
  ·rw [if_pos c6] at H
   have c6b0:((l0_0.length:Int) == ((rd_L1 l0_0 0).length:Int))=true:=beq_iff_eq.mpr c6
   have c6b1:((l0_0.length:Int) != ((rd_L1 l0_0 0).length:Int))=false:=bne_eq_false_iff_eq.mpr c6
   have c6b2:(l0_0.length == (rd_L1 l0_0 0).length)=true:=by first|simpa using c6|(simp at c6 ⊢;omega)
   clear c6
   by_cases c7:(l1.length:Int)=(l0_0.length:Int)
   ·rw [if_pos c7] at H
    have c7b0:((l1.length:Int) == (l0_0.length:Int))=true:=beq_iff_eq.mpr c7
    have c7b1:((l1.length:Int) != (l0_0.length:Int))=false:=bne_eq_false_iff_eq.mpr c7
    have c7b2:(l1.length == l0_0.length)=true:=by first|simpa using c7|(simp at c7 ⊢;omega)
    clear c7
    obtain ⟨⟨t221,t222⟩,A8,H⟩:=yo H
    try dsimp only at H
    simp only [Option.some.injEq,Prod.mk.injEq] at H
    obtain ⟨rfl,rfl⟩:=H
    go_enter Try.func39,Try.ntmps39
    try go_wp2_with (first|((with_reducible refine gD 2 ?_);(try (refine gate_guard D35 ?_;dsimp only));refine gB (cs:=#[.slice A0_0 l0_0.length c0_0]) 43 ?_;intro gb218 hg w9 hbox hb;have BK218:=am (hbox);have GW218:=ye HB hg;replace HB:=yH HB hb;have GE218:=GW218;clear hb hbox hg))
    replace BK218:=am (qd BK218.out)
    replace HB:=am (pd HB.out)
    have p220:0≤(0:Int):=D23
    have q220:0 < (l0_0.length:Int):=od D1
    obtain ⟨ad220,A220_0,c220_0,e220,hx220_0,hl220_0,hi220_0⟩:=at_L1 HR0_0.out 0 p220 q220
    have hw220_0:=hx220_0
    (try rw [show ((0:Int)).toNat=0 from rfl] at hw220_0)
    (try rw [show 0*1=0 from rfl] at hw220_0)
    (try rw [Addr.add_zero'] at hw220_0)
    cases e220
    have qi220:(0 < l0_0.length)=True:=eq_true D23
    (try rw [show ((0:Int)).toNat=0 from rfl] at hx220_0)
    (try rw [Addr.add_zero'] at hx220_0)
    replace hx220_0:=(HB.out.cell (World.block_lt_of_cell? w _ hx220_0)).trans hx220_0
    have HR220_0:=am hi220_0
    have HC220_0:=am hl220_0
    clear hi220_0 hl220_0
    replace p220:=eq_true p220
    replace q220:=eq_true q220
    refine rS (n:=22) (S:=fun w'=>w'.cell? ⟨gb218,0,none⟩=some (.slice (some ad220) l0_0.length c0_0)∧w'.cell? ad220=some (.slice A220_0 (rd_L1 l0_0 0).length c220_0)) (ds:=[]) [(0,6),(1,0),(2,8),(3,9),(4,10),(7,13),(5,11),(6,12),(8,14),(9,15),(10,16),(11,17),(12,18),(13,19),(14,20),(15,21),(16,22),(17,23),(18,24),(19,25),(20,26),(21,27)] D3 rfl impl_Solve.tab1 impl_Solve.bits1 ⟨yk BK218 0,((HB.out.cell (World.block_lt_of_cell? w _ hw220_0)).trans hw220_0)⟩ (fun hHeld HT_ HW_=>?_)
    generalize w9.drew=w10 at BK218 HB HR220_0 hx220_0 hHeld ⊢
    refine rR ?_
    refine rO (N:=some 7) HT_ rfl rfl D3 D24 (fun K hK=>?_)
    refine goes_ Try.func77 D3 rfl #[.agg #[.slice (some ad220) l0_0.length c0_0]] D35 rfl rfl D27 ?_
    with_reducible refine (impl_GoodMatrix.calls _ _ l0_0 true _ (yc (Kd.C_below HR0_0.out HB.out)) HC0_0.out A3.out).mono ?_
    rintro e w11 ⟨rfl,hb⟩
    refine ⟨_,rfl,?_⟩
    replace BK218:=yb BK218 hb
    replace HB:=yH HB hb
    (try clear hb)
    (try clear hb2)
    (try clear hk)
    (try clear hi)
    refine hK.out _ _ ⟨yk BK218 0,((HB.out.cell (World.block_lt_of_cell? w _ hw220_0)).trans hw220_0)⟩ (fun hHeld=>?_)
    clear hK K
    refine rN (nA 7) ?_
    refine rR ?_
    refine rD HT_ D3 ?_
    obtain ⟨hcz12_0,hfz12_0⟩:=yk1 BK218
    try go_wp2_with (first|((with_reducible refine gC 119 ?_);refine gM (some 31) Try.func119 (args:=#[.slice (some ad220) l0_0.length c0_0, .slice A1 l1.length c1]) (impl_solve.calls k _ _ l0_0 _ _ l1 t221 t222 _ (yc (Kd.C_below HR0_0.out HB.out)) HC0_0.out (yc (Kd.C_below HR1.out HB.out)) HC1.out A8.out) ?_;rintro e w13 ⟨v223,rfl,ho0,hb⟩;refine ⟨_,rfl,?_⟩;have HO224:=am (Kd.R_lower ho0 (pz (yW HB)));replace BK218:=yb BK218 hb;replace HB:=yH HB hb;clear hb ho0))
    go_ret2
    exact ⟨_,D0,yR HO224,yW HB⟩
   rw [if_neg c7] at H
   have c7b0:((l1.length:Int) == (l0_0.length:Int))=false:=beq_eq_false_iff_ne.mpr c7
   have c7b1:((l1.length:Int) != (l0_0.length:Int))=true:=bne_iff_ne.mpr c7
   have c7b2:(l1.length == l0_0.length)=false:=by first|simpa using c7|(simp at c7 ⊢;omega)
   simp only [Option.some.injEq,Prod.mk.injEq] at H
   obtain ⟨rfl,rfl⟩:=H
   go_enter Try.func39,Try.ntmps39
   try go_wp2_with (first|((with_reducible refine gD 2 ?_);(try (refine gate_guard D35 ?_;dsimp only));refine gB (cs:=#[.slice A0_0 l0_0.length c0_0]) 43 ?_;intro gb218 hg w14 hbox hb;have BK218:=am (hbox);have GW218:=ye HB hg;replace HB:=yH HB hb;have GE218:=GW218;clear hb hbox hg))
   replace BK218:=am (qd BK218.out)
   replace HB:=am (pd HB.out)
   have p220:0≤(0:Int):=D23
   have q220:0 < (l0_0.length:Int):=od D1
   obtain ⟨ad220,A220_0,c220_0,e220,hx220_0,hl220_0,hi220_0⟩:=at_L1 HR0_0.out 0 p220 q220
   have hw220_0:=hx220_0
   (try rw [show ((0:Int)).toNat=0 from rfl] at hw220_0)
   (try rw [show 0*1=0 from rfl] at hw220_0)
   (try rw [Addr.add_zero'] at hw220_0)
   cases e220
   have qi220:(0 < l0_0.length)=True:=eq_true D23
   (try rw [show ((0:Int)).toNat=0 from rfl] at hx220_0)
   (try rw [Addr.add_zero'] at hx220_0)
   replace hx220_0:=(HB.out.cell (World.block_lt_of_cell? w _ hx220_0)).trans hx220_0
   have HR220_0:=am hi220_0
   have HC220_0:=am hl220_0
   clear hi220_0 hl220_0
   replace p220:=eq_true p220
   replace q220:=eq_true q220
   refine rS (n:=22) (S:=fun w'=>w'.cell? ⟨gb218,0,none⟩=some (.slice (some ad220) l0_0.length c0_0)∧w'.cell? ad220=some (.slice A220_0 (rd_L1 l0_0 0).length c220_0)) (ds:=[]) [(0,6),(1,0),(2,8),(3,9),(4,10),(7,13),(5,11),(6,12),(8,14),(9,15),(10,16),(11,17),(12,18),(13,19),(14,20),(15,21),(16,22),(17,23),(18,24),(19,25),(20,26),(21,27)] D3 rfl impl_Solve.tab1 impl_Solve.bits1 ⟨yk BK218 0,((HB.out.cell (World.block_lt_of_cell? w _ hw220_0)).trans hw220_0)⟩ (fun hHeld HT_ HW_=>?_)
   generalize w14.drew=w15 at BK218 HB HR220_0 hx220_0 hHeld ⊢
   refine rR ?_
   refine rO (N:=some 7) HT_ rfl rfl D3 D24 (fun K hK=>?_)
   refine goes_ Try.func77 D3 rfl #[.agg #[.slice (some ad220) l0_0.length c0_0]] D35 rfl rfl D27 ?_
   with_reducible refine (impl_GoodMatrix.calls _ _ l0_0 true _ (yc (Kd.C_below HR0_0.out HB.out)) HC0_0.out A3.out).mono ?_
   rintro e w16 ⟨rfl,hb⟩
   refine ⟨_,rfl,?_⟩
   replace BK218:=yb BK218 hb
   replace HB:=yH HB hb
   (try clear hb)
   (try clear hb2)
   (try clear hk)
   (try clear hi)
   refine hK.out _ _ ⟨yk BK218 0,((HB.out.cell (World.block_lt_of_cell? w _ hw220_0)).trans hw220_0)⟩ (fun hHeld=>?_)
   clear hK K
   refine rN (nA 7) ?_
   refine rR ?_
   refine rD HT_ D3 ?_
   try go_wp2
   go_ret2
   exact ⟨_,D0,D37,yW HB⟩
  rw [if_neg c6] at H
  have c6b0:((l0_0.length:Int) == ((rd_L1 l0_0 0).length:Int))=false:=beq_eq_false_iff_ne.mpr c6
  have c6b1:((l0_0.length:Int) != ((rd_L1 l0_0 0).length:Int))=true:=bne_iff_ne.mpr c6
  have c6b2:(l0_0.length == (rd_L1 l0_0 0).length)=false:=by first|simpa using c6|(simp at c6 ⊢;omega)
  simp only [Option.some.injEq,Prod.mk.injEq] at H
  obtain ⟨rfl,rfl⟩:=H
  go_enter Try.func39,Try.ntmps39
  try go_wp2_with (first|((with_reducible refine gD 2 ?_);(try (refine gate_guard D35 ?_;dsimp only));refine gB (cs:=#[.slice A0_0 l0_0.length c0_0]) 43 ?_;intro gb218 hg w17 hbox hb;have BK218:=am (hbox);have GW218:=ye HB hg;replace HB:=yH HB hb;have GE218:=GW218;clear hb hbox hg))
  replace BK218:=am (qd BK218.out)
  replace HB:=am (pd HB.out)
  have p220:0≤(0:Int):=D23
  have q220:0 < (l0_0.length:Int):=od D1
  obtain ⟨ad220,A220_0,c220_0,e220,hx220_0,hl220_0,hi220_0⟩:=at_L1 HR0_0.out 0 p220 q220
  have hw220_0:=hx220_0
  (try rw [show ((0:Int)).toNat=0 from rfl] at hw220_0)
  (try rw [show 0*1=0 from rfl] at hw220_0)
  (try rw [Addr.add_zero'] at hw220_0)
  cases e220
  have qi220:(0 < l0_0.length)=True:=eq_true D23
  (try rw [show ((0:Int)).toNat=0 from rfl] at hx220_0)
  (try rw [Addr.add_zero'] at hx220_0)
  replace hx220_0:=(HB.out.cell (World.block_lt_of_cell? w _ hx220_0)).trans hx220_0
  have HR220_0:=am hi220_0
  have HC220_0:=am hl220_0
  clear hi220_0 hl220_0
  replace p220:=eq_true p220
  replace q220:=eq_true q220
  refine rS (n:=22) (S:=fun w'=>w'.cell? ⟨gb218,0,none⟩=some (.slice (some ad220) l0_0.length c0_0)∧w'.cell? ad220=some (.slice A220_0 (rd_L1 l0_0 0).length c220_0)) (ds:=[]) [(0,6),(1,0),(2,8),(3,9),(4,10),(7,13),(5,11),(6,12),(8,14),(9,15),(10,16),(11,17),(12,18),(13,19),(14,20),(15,21),(16,22),(17,23),(18,24),(19,25),(20,26),(21,27)] D3 rfl impl_Solve.tab1 impl_Solve.bits1 ⟨yk BK218 0,((HB.out.cell (World.block_lt_of_cell? w _ hw220_0)).trans hw220_0)⟩ (fun hHeld HT_ HW_=>?_)
  generalize w17.drew=w18 at BK218 HB HR220_0 hx220_0 hHeld ⊢
  refine rR ?_
  refine rO (N:=some 7) HT_ rfl rfl D3 D24 (fun K hK=>?_)
  refine goes_ Try.func77 D3 rfl #[.agg #[.slice (some ad220) l0_0.length c0_0]] D35 rfl rfl D27 ?_
  with_reducible refine (impl_GoodMatrix.calls _ _ l0_0 true _ (yc (Kd.C_below HR0_0.out HB.out)) HC0_0.out A3.out).mono ?_
  rintro e w19 ⟨rfl,hb⟩
  refine ⟨_,rfl,?_⟩
  replace BK218:=yb BK218 hb
  replace HB:=yH HB hb
  (try clear hb)
  (try clear hb2)
  (try clear hk)
  (try clear hi)
  refine hK.out _ _ ⟨yk BK218 0,((HB.out.cell (World.block_lt_of_cell? w _ hw220_0)).trans hw220_0)⟩ (fun hHeld=>?_)
  clear hK K
  refine rN (nA 7) ?_
  refine rR ?_
  refine rD HT_ D3 ?_
  try go_wp2
  go_ret2
  exact ⟨_,D0,D37,yW HB⟩
 replace c4:=Bool.eq_false_iff.mpr c4
 subst c4
 replace H:=yn H
 simp only [Option.some.injEq,Prod.mk.injEq] at H
 obtain ⟨rfl,rfl⟩:=H
 go_enter Try.func39,Try.ntmps39
 try go_wp2_with (first|((with_reducible refine gD 2 ?_);(try (refine gate_guard D35 ?_;dsimp only));refine gB (cs:=#[.slice A0_0 l0_0.length c0_0]) 43 ?_;intro gb218 hg w20 hbox hb;have BK218:=am (hbox);have GW218:=ye HB hg;replace HB:=yH HB hb;have GE218:=GW218;clear hb hbox hg))
 replace BK218:=am (qd BK218.out)
 replace HB:=am (pd HB.out)
 refine rS (n:=22) (S:=fun w'=>w'.cell? ⟨gb218,0,none⟩=some (.slice A0_0 l0_0.length c0_0)) (ds:=[]) [(0,6),(1,0),(2,8),(3,9),(4,10),(5,11),(6,12),(7,13),(8,14),(9,15),(10,16),(11,17),(12,18),(13,19),(14,20),(15,21),(16,22),(17,23),(18,24),(19,25),(20,26),(21,27)] D3 rfl impl_Solve.tab1 impl_Solve.bits1 (yk BK218 0) (fun hHeld HT_ HW_=>?_)
 generalize w20.drew=w21 at BK218 HB hHeld ⊢
 refine rR ?_
 refine rO (N:=some 7) HT_ rfl rfl D3 D24 (fun K hK=>?_)
 refine goes_ Try.func77 D3 rfl #[.agg #[.slice A0_0 l0_0.length c0_0]] D35 rfl rfl D27 ?_
 with_reducible refine (impl_GoodMatrix.calls _ _ l0_0 false _ (yc (Kd.C_below HR0_0.out HB.out)) HC0_0.out A3.out).mono ?_
 rintro e w22 ⟨rfl,hb⟩
 refine ⟨_,rfl,?_⟩
 replace BK218:=yb BK218 hb
 replace HB:=yH HB hb
 (try clear hb)
 (try clear hb2)
 (try clear hk)
 (try clear hi)
 refine hK.out _ _ (yk BK218 0) (fun hHeld=>?_)
 clear hK K
 refine rN (nA 7) ?_
 refine rR ?_
 refine rD HT_ D3 ?_
 try go_wp2
 go_ret2
 exact ⟨_,D0,D37,yW HB⟩
/-- A state of type 180 at block g of W; what its slices lead to came in by w0. -/
def IsS180 (w0 W:World) (g:Nat) (f0:List Int) (f1:Int) (f2:Int):Prop:=∃ A0 c0,W.heap[g]? = some (.cells #[.slice A0 f0.length c0, .int .i64 f1, .int .u64 f2] 180 (0,0))∧w0.heap.size≤g∧Kd.C (Kd.int .u8) w0 A0 f0.length f0
theorem IsS180.grown {w0 W:World} {g:Nat} {f0:List Int} {f1:Int} {f2:Int} {W1:World} {row:Option Nat} (h:IsS180 w0 W g f0 f1 f2) (hw:W.grownBy W1 row) (hne:some g ≠ row):IsS180 w0 W1 g f0 f1 f2:=by
 obtain ⟨A0,c0,hb,hg,hr0⟩:=h
 exact ⟨A0,c0,blk_grown hb hw hne,hg,hr0⟩
theorem IsS180.fresh {w0 W:World} {g:Nat} {f0:List Int} {f1:Int} {f2:Int} (h:IsS180 w0 W g f0 f1 f2):∀ k,W.heap.size≤k→k ≠ g:=by
 obtain ⟨A0,c0,hb,hg,hr0⟩:=h
 exact Kd.freshB hb
theorem IsS180.kept {w0 W:World} {g:Nat} {f0:List Int} {f1:Int} {f2:Int} {W1:World} {S:Nat→Prop} (h:IsS180 w0 W g f0 f1 f2) (hk:Kept W W1 S) (hne:¬ S g):IsS180 w0 W1 g f0 f1 f2:=by
 obtain ⟨A0,c0,hb,hg,hr0⟩:=h
 exact ⟨A0,c0,blk_kept hb hk hne,hg,hr0⟩
theorem IsS180.below {w0 W:World} {g:Nat} {f0:List Int} {f1:Int} {f2:Int} {W1:World} (h:IsS180 w0 W g f0 f1 f2) (hw:Below W.heap.size W W1):IsS180 w0 W1 g f0 f1 f2:=h.grown (grown_of_below hw none) D52
theorem IsS180.alloc {w0 W:World} {g:Nat} {f0:List Int} {f1:Int} {f2:Int} (h:IsS180 w0 W g f0 f1 f2) (o:Obj):IsS180 w0 (W.alloc o) g f0 f1 f2:=h.below (pa (Below.refl _ _) o)
theorem IsS180.drewN {w0 W:World} {g:Nat} {f0:List Int} {f1:Int} {f2:Int} (h:IsS180 w0 W g f0 f1 f2) (m:Nat):IsS180 w0 (W.drewN m) g f0 f1 f2:=h
theorem IsS180.drew {w0 W:World} {g:Nat} {f0:List Int} {f1:Int} {f2:Int} (h:IsS180 w0 W g f0 f1 f2):IsS180 w0 W.drew g f0 f1 f2:=h
theorem IsS180.at_ {w0 W:World} {g:Nat} {f0:List Int} {f1:Int} {f2:Int} {w':World} {m:Nat} (hq:W.drewN m=w') (h:IsS180 w0 W g f0 f1 f2):IsS180 w0 w' g f0 f1 f2:=by subst hq;exact IsS180.drewN h m
theorem IsS180.apart {w0 W:World} {g:Nat} {f0:List Int} {f1:Int} {f2:Int} {α:Type} {d:Kd α} {e:Nat} {base:Nat} {ok:Nat→Prop} {v:Value} {xs:List α} (h:IsS180 w0 W g f0 f1 f2) (ho:d.R e W base ok v xs) (ht:∀ q,q ∈ e :: d.E→q ≠ 180):d.R e W base (fun k=>ok k∧k ≠ g) v xs:=by
 obtain ⟨A0,c0,hb,hg,hr0⟩:=h
 exact Kd.R_types ho hb ht
theorem IsS180.own_ne {w0 W:World} {g:Nat} {f0:List Int} {f1:Int} {f2:Int} {α:Type} {d:Kd α} {e:Nat} {base:Nat} {ok:Nat→Prop} {v:Value} {xs:List α} (h:IsS180 w0 W g f0 f1 f2) (ho:d.R e W base ok v xs) (ht:e ≠ 180):some g ≠ v.ownBlock:=by
 obtain ⟨A0,c0,hb,hg,hr0⟩:=h
 exact Kd.R_ne ho hb ht
theorem IsS180.apartS {w0 W:World} {g:Nat} {f0:List Int} {f1:Int} {f2:Int} {α:Type} {d:Kd α} {e:Nat} {base:Nat} {ok:Nat→Prop} {v:Value} {xs:List α} (h:IsS180 w0 W g f0 f1 f2) (ho:d.S e W base ok v xs) (ht:∀ q,q ∈ e :: d.E→q ≠ 180):d.S e W base (fun k=>ok k∧k ≠ g) v xs:=by
 obtain ⟨A0,c0,hb,hg,hr0⟩:=h
 exact Kd.S_types ho hb ht
theorem IsS180.own_neS {w0 W:World} {g:Nat} {f0:List Int} {f1:Int} {f2:Int} {α:Type} {d:Kd α} {e:Nat} {base:Nat} {ok:Nat→Prop} {v:Value} {xs:List α} (h:IsS180 w0 W g f0 f1 f2) (ho:d.S e W base ok v xs) (ht:e ≠ 180):some g ≠ v.ownBlock:=by
 obtain ⟨A0,c0,hb,hg,hr0⟩:=h
 exact Kd.S_ne ho hb ht
theorem IsS180.lt {w0 W:World} {g:Nat} {f0:List Int} {f1:Int} {f2:Int} (h:IsS180 w0 W g f0 f1 f2):g < W.heap.size:=by
 obtain ⟨A0,c0,hb,hg,hr0⟩:=h
 exact blk_lt hb
theorem IsS180.ge {w0 W:World} {g:Nat} {f0:List Int} {f1:Int} {f2:Int} (h:IsS180 w0 W g f0 f1 f2):w0.heap.size≤g:=by
 obtain ⟨A0,c0,hb,hg,hr0⟩:=h
 exact hg
theorem IsS180.far {w0 W:World} {g:Nat} {f0:List Int} {f1:Int} {f2:Int} {p:Addr} (h:IsS180 w0 W g f0 f1 f2) (hne:g ≠ p.block) (u:Value):IsS180 w0 (W.setCell p u) g f0 f1 f2:=by
 obtain ⟨A0,c0,hb,hg,hr0⟩:=h
 exact ⟨A0,c0,blk_far hb hne u,hg,hr0⟩
theorem cellS180_0 {W:World} {g:Nat} {A0:Option Addr} {c0:Nat} {f0:List Int} {f1:Int} {f2:Int} (h:W.heap[g]? = some (.cells #[.slice A0 f0.length c0, .int .i64 f1, .int .u64 f2] 180 (0,0))):W.cell? ⟨g,0,none⟩=some (.slice A0 f0.length c0):=(blk_cell h 0).trans rfl
theorem cellS180_1 {W:World} {g:Nat} {A0:Option Addr} {c0:Nat} {f0:List Int} {f1:Int} {f2:Int} (h:W.heap[g]? = some (.cells #[.slice A0 f0.length c0, .int .i64 f1, .int .u64 f2] 180 (0,0))):W.cell? ⟨g,1,none⟩=some (.int .i64 f1):=(blk_cell h 1).trans rfl
theorem IsS180.set_1 {w0 W:World} {g:Nat} {f0:List Int} {f1:Int} {f2:Int} (h:IsS180 w0 W g f0 f1 f2) (x:Int):IsS180 w0 (W.setCell ⟨g,1,none⟩ (.int .i64 x)) g f0 x f2:=by
 obtain ⟨A0,c0,hb,hg,hr0⟩:=h
 exact ⟨A0,c0,by simpa using blk_set hb 1 (.int .i64 x),hg,hr0⟩
theorem cellS180_2 {W:World} {g:Nat} {A0:Option Addr} {c0:Nat} {f0:List Int} {f1:Int} {f2:Int} (h:W.heap[g]? = some (.cells #[.slice A0 f0.length c0, .int .i64 f1, .int .u64 f2] 180 (0,0))):W.cell? ⟨g,2,none⟩=some (.int .u64 f2):=(blk_cell h 2).trans rfl
theorem IsS180.set_2 {w0 W:World} {g:Nat} {f0:List Int} {f1:Int} {f2:Int} (h:IsS180 w0 W g f0 f1 f2) (x:Int):IsS180 w0 (W.setCell ⟨g,2,none⟩ (.int .u64 x)) g f0 f1 x:=by
 obtain ⟨A0,c0,hb,hg,hr0⟩:=h
 exact ⟨A0,c0,by simpa using blk_set hb 2 (.int .u64 x),hg,hr0⟩
def spec_l1Cur_next.f (s0_0:List Int) (s0_1:Int) (s0_2:Int):Option (Int × Int × Int):=if s0_1 < (s0_0.length:Int) then (if 0≤s0_1 then (if (wrap64 (s0_1+1))≤(s0_0.length:Int) then (some (wrap64 (rd s0_0 s0_1),wrap64 (s0_1+1),IntKind.u64.wrap ((IntKind.u64.wrap ((IntKind.u64.wrap (s0_2*6364136223846793005))+(IntKind.u64.wrap (wrap64 (rd s0_0 s0_1)))))+1442695040888963407))) else (some (wrap64 (Go.bits .and .u64 ((IntKind.u64.wrap ((IntKind.u64.wrap ((IntKind.u64.wrap (s0_2*6364136223846793005))+(IntKind.u64.wrap (wrap64 (rd s0_0 s0_1)))))+1442695040888963407)) / 1099511627776) 255),wrap64 (s0_1+1),IntKind.u64.wrap ((IntKind.u64.wrap ((IntKind.u64.wrap (s0_2*6364136223846793005))+(IntKind.u64.wrap (wrap64 (rd s0_0 s0_1)))))+1442695040888963407)))) else (none)) else (if (wrap64 (s0_1+1))≤(s0_0.length:Int) then (some (0,wrap64 (s0_1+1),IntKind.u64.wrap ((IntKind.u64.wrap (IntKind.u64.wrap (s0_2*6364136223846793005)))+1442695040888963407))) else (some (wrap64 (Go.bits .and .u64 ((IntKind.u64.wrap ((IntKind.u64.wrap (IntKind.u64.wrap (s0_2*6364136223846793005)))+1442695040888963407)) / 1099511627776) 255),wrap64 (s0_1+1),IntKind.u64.wrap ((IntKind.u64.wrap (IntKind.u64.wrap (s0_2*6364136223846793005)))+1442695040888963407))))
theorem spec_l1Cur_next.calls (g:Nat) (s0_0:List Int) (s0_1:Int) (s0_2:Int) (r1:Int) (r2:Int) (r3:Int) (w0 w:World) (hI:IsS180 w0 w g s0_0 s0_1 s0_2) (hB:Below w0.heap.size w0 w) (h:spec_l1Cur_next.f s0_0 s0_1 s0_2=some (r1,r2,r3)) :
  Calls Try.prog 209 #[.pointer (some ⟨g,0,none⟩)] w fun e w'=>e = .returned (.int .i64 r1)∧IsS180 w0 w' g s0_0 r2 r3∧Below w0.heap.size w0 w'∧KeepBut w w' g none:=by
 have HI0:=am hI
 have HK:=am (KeepBut.refl w g none)
 have HL:=am hB.size
 clear hI
 have HW0:=am hB.size
 have HB:=am hB
 clear hB
 have H:=h
 unfold spec_l1Cur_next.f at H
 clear h
 by_cases c2:s0_1 < (s0_0.length:Int)
 ·rw [if_pos c2] at H
  have c2b0:=decide_eq_true c2
  clear c2
  obtain ⟨c3,H⟩:=yi H
  have c3b0:=decide_eq_true c3
  clear c3
  by_cases c4:(wrap64 (s0_1+1))≤(s0_0.length:Int)
  ·rw [if_pos c4] at H
   have c4b0:=decide_eq_true c4
   clear c4
   simp only [Option.some.injEq,Prod.mk.injEq] at H
   obtain ⟨rfl,rfl,rfl⟩:=H
   obtain ⟨ASz5_0,cSz5_0,HGz5,hgz5,HSz5_0⟩:=HI0.out
   have hcz5_0:=cellS180_0 HGz5
   have hcz5_1:=cellS180_1 HGz5
   have hcz5_2:=cellS180_2 HGz5
   have hfz5_1:=blk_frozen HGz5 1
   have hfz5_2:=blk_frozen HGz5 2
   clear HGz5 hgz5
   have p225:0≤(s0_1:Int):=od D1
   have q225:s0_1 < (s0_0.length:Int):=od D1
   obtain ⟨ad225,e225,hx225_0⟩:=Kd.at_int HSz5_0 s0_1 p225 q225
   cases e225
   replace hx225_0:=pw_cell_below HB.out hx225_0
   replace p225:=eq_true p225
   replace q225:=eq_true q225
   go_enter Try.func209,Try.ntmps209
   go_wp2
   repeat (go_quiet (fail);try go_wp2)
   go_ret
   exact ⟨D0,D8,D10,D4⟩
  rw [if_neg c4] at H
  have c4b0:=decide_eq_false c4
  clear c4
  simp only [Option.some.injEq,Prod.mk.injEq] at H
  obtain ⟨rfl,rfl,rfl⟩:=H
  obtain ⟨ASz6_0,cSz6_0,HGz6,hgz6,HSz6_0⟩:=HI0.out
  have hcz6_0:=cellS180_0 HGz6
  have hcz6_1:=cellS180_1 HGz6
  have hcz6_2:=cellS180_2 HGz6
  have hfz6_1:=blk_frozen HGz6 1
  have hfz6_2:=blk_frozen HGz6 2
  clear HGz6 hgz6
  have p225:0≤(s0_1:Int):=od D1
  have q225:s0_1 < (s0_0.length:Int):=od D1
  obtain ⟨ad225,e225,hx225_0⟩:=Kd.at_int HSz6_0 s0_1 p225 q225
  cases e225
  replace hx225_0:=pw_cell_below HB.out hx225_0
  replace p225:=eq_true p225
  replace q225:=eq_true q225
  go_enter Try.func209,Try.ntmps209
  go_wp2
  repeat (go_quiet (fail);try go_wp2)
  go_ret
  exact ⟨D0,D8,D10,D4⟩
 rw [if_neg c2] at H
 have c2b0:=decide_eq_false c2
 clear c2
 by_cases c7:(wrap64 (s0_1+1))≤(s0_0.length:Int)
 ·rw [if_pos c7] at H
  have c7b0:=decide_eq_true c7
  clear c7
  simp only [Option.some.injEq,Prod.mk.injEq] at H
  obtain ⟨rfl,rfl,rfl⟩:=H
  obtain ⟨ASz8_0,cSz8_0,HGz8,hgz8,HSz8_0⟩:=HI0.out
  have hcz8_0:=cellS180_0 HGz8
  have hcz8_1:=cellS180_1 HGz8
  have hcz8_2:=cellS180_2 HGz8
  have hfz8_1:=blk_frozen HGz8 1
  have hfz8_2:=blk_frozen HGz8 2
  clear HGz8 hgz8
  go_enter Try.func209,Try.ntmps209
  go_wp2
  repeat (go_quiet (fail);try go_wp2)
  go_ret
  exact ⟨D0,D8,D10,D4⟩
 rw [if_neg c7] at H
 have c7b0:=decide_eq_false c7
 clear c7
 simp only [Option.some.injEq,Prod.mk.injEq] at H
 obtain ⟨rfl,rfl,rfl⟩:=H
 obtain ⟨ASz9_0,cSz9_0,HGz9,hgz9,HSz9_0⟩:=HI0.out
 have hcz9_0:=cellS180_0 HGz9
 have hcz9_1:=cellS180_1 HGz9
 have hcz9_2:=cellS180_2 HGz9
 have hfz9_1:=blk_frozen HGz9 1
 have hfz9_2:=blk_frozen HGz9 2
 clear HGz9 hgz9
 go_enter Try.func209,Try.ntmps209
 go_wp2
 repeat (go_quiet (fail);try go_wp2)
 go_ret
 exact ⟨D0,D8,D10,D4⟩

def spec_l1Cur_pick.f (s0_0:List Int) (s0_1:Int) (s0_2:Int) (a1:Int):Option (Int × Int × Int):=if a1≤1 then (some (0,s0_1,s0_2)) else ((spec_l1Cur_next.f s0_0 s0_1 s0_2).bind fun bt226=>(if a1 > 200 then ((spec_l1Cur_next.f s0_0 bt226.2.1 bt226.2.2).bind fun bt229=>(if a1=0 then (none) else (some (Int.tmod (wrap64 ((wrap64 (bt226.1*256))+bt229.1)) a1,bt229.2.1,bt229.2.2)))) else (if a1=0 then (none) else (some (Int.tmod bt226.1 a1,bt226.2.1,bt226.2.2)))))
theorem spec_l1Cur_pick.calls (g:Nat) (s0_0:List Int) (s0_1:Int) (s0_2:Int) (a1:Int) (r1:Int) (r2:Int) (r3:Int) (w0 w:World) (hI:IsS180 w0 w g s0_0 s0_1 s0_2) (hB:Below w0.heap.size w0 w) (h:spec_l1Cur_pick.f s0_0 s0_1 s0_2 a1=some (r1,r2,r3)) :
  Calls Try.prog 198 #[.pointer (some ⟨g,0,none⟩), .int .i64 a1] w fun e w'=>e = .returned (.int .i64 r1)∧IsS180 w0 w' g s0_0 r2 r3∧Below w0.heap.size w0 w'∧KeepBut w w' g none:=by
 have HI0:=am hI
 have HK:=am (KeepBut.refl w g none)
 have HL:=am hB.size
 clear hI
 have HW0:=am hB.size
 have HB:=am hB
 clear hB
 have H:=h
 unfold spec_l1Cur_pick.f at H
 clear h
 by_cases c3:a1≤1
 ·rw [if_pos c3] at H
  have c3b0:=decide_eq_true c3
  clear c3
  simp only [Option.some.injEq,Prod.mk.injEq] at H
  obtain ⟨rfl,rfl,rfl⟩:=H
  go_enter Try.func198,Try.ntmps198
  go_wp2
  go_ret
  exact ⟨D0,D8,D10,D4⟩
 rw [if_neg c3] at H
 have c3b0:=decide_eq_false c3
 clear c3
 obtain ⟨⟨t226,t227,t228⟩,A4,H⟩:=yo H
 try dsimp only at H
 by_cases c5:a1 > 200
 ·rw [if_pos c5] at H
  have c5b0:decide (200 < a1)=true:=decide_eq_true c5
  clear c5
  obtain ⟨⟨t229,t230,t231⟩,A6,H⟩:=yo H
  try dsimp only at H
  by_cases c7:a1=0
  ·rw [if_pos c7] at H
   exact absurd H D52
  rw [if_neg c7] at H
  have c7b0:(a1 == 0)=false:=beq_eq_false_iff_ne.mpr c7
  have c7b1:(a1 != 0)=true:=bne_iff_ne.mpr c7
  simp only [Option.some.injEq,Prod.mk.injEq] at H
  obtain ⟨rfl,rfl,rfl⟩:=H
  go_enter Try.func198,Try.ntmps198
  go_wp2_with (first|((with_reducible refine gC 209 ?_);refine gM (some 9) Try.func209 (args:=#[.pointer (some ⟨g,0,none⟩)]) (spec_l1Cur_next.calls g s0_0 s0_1 s0_2 t226 t227 t228 w0 _ ?side1 ?side2 A4.out) ?_;(case side1=>repeat (first|(with_reducible first|exact HI0.out|apply IsS180.alloc|apply IsS180.drewN|apply IsS180.drew|apply IsS180.set_1|apply IsS180.set_2)|exact HI0.out));(case side2=>repeat (first|(with_reducible first|exact HB.out|apply pa|apply pb|apply pd|refine pt ?_ (IsS180.ge HI0.out))|exact HB.out));rintro e w8 ⟨rfl,hi,hb,hk⟩;refine ⟨_,rfl,?_⟩;replace HK:=am (KeepBut.trans D4 hk (.inl rfl));replace HB:=am (hb);replace HI0:=am (hi);clear hb hk hi)|((with_reducible refine gC 209 ?_);refine gM (some 15) Try.func209 (args:=#[.pointer (some ⟨g,0,none⟩)]) (spec_l1Cur_next.calls g s0_0 t227 t228 t229 t230 t231 w0 _ ?side1 ?side2 A6.out) ?_;(case side1=>repeat (first|(with_reducible first|exact HI0.out|apply IsS180.alloc|apply IsS180.drewN|apply IsS180.drew|apply IsS180.set_1|apply IsS180.set_2)|exact HI0.out));(case side2=>repeat (first|(with_reducible first|exact HB.out|apply pa|apply pb|apply pd|refine pt ?_ (IsS180.ge HI0.out))|exact HB.out));rintro e w9 ⟨rfl,hi,hb,hk⟩;refine ⟨_,rfl,?_⟩;replace HK:=am (KeepBut.trans D4 hk (.inl rfl));replace HB:=am (hb);replace HI0:=am (hi);clear hb hk hi))
  go_ret
  exact ⟨D0,D8,D10,D4⟩
 rw [if_neg c5] at H
 have c5b0:decide (200 < a1)=false:=decide_eq_false c5
 clear c5
 by_cases c10:a1=0
 ·rw [if_pos c10] at H
  exact absurd H D52
 rw [if_neg c10] at H
 have c10b0:(a1 == 0)=false:=beq_eq_false_iff_ne.mpr c10
 have c10b1:(a1 != 0)=true:=bne_iff_ne.mpr c10
 simp only [Option.some.injEq,Prod.mk.injEq] at H
 obtain ⟨rfl,rfl,rfl⟩:=H
 go_enter Try.func198,Try.ntmps198
 go_wp2_with (first|((with_reducible refine gC 209 ?_);refine gM (some 9) Try.func209 (args:=#[.pointer (some ⟨g,0,none⟩)]) (spec_l1Cur_next.calls g s0_0 s0_1 s0_2 t226 t227 t228 w0 _ ?side1 ?side2 A4.out) ?_;(case side1=>repeat (first|(with_reducible first|exact HI0.out|apply IsS180.alloc|apply IsS180.drewN|apply IsS180.drew|apply IsS180.set_1|apply IsS180.set_2)|exact HI0.out));(case side2=>repeat (first|(with_reducible first|exact HB.out|apply pa|apply pb|apply pd|refine pt ?_ (IsS180.ge HI0.out))|exact HB.out));rintro e w11 ⟨rfl,hi,hb,hk⟩;refine ⟨_,rfl,?_⟩;replace HK:=am (KeepBut.trans D4 hk (.inl rfl));replace HB:=am (hb);replace HI0:=am (hi);clear hb hk hi))
 go_ret
 exact ⟨D0,D8,D10,D4⟩

def spec_l1Cur_one.f (s0_0:List Int) (s0_1:Int) (s0_2:Int) (a1:Int):Option (Bool × Int × Int):=(spec_l1Cur_pick.f s0_0 s0_1 s0_2 a1).bind fun bt232=>(some ((bt232.1 == 0),bt232.2.1,bt232.2.2))
theorem spec_l1Cur_one.calls (g:Nat) (s0_0:List Int) (s0_1:Int) (s0_2:Int) (a1:Int) (r1:Bool) (r2:Int) (r3:Int) (w0 w:World) (hI:IsS180 w0 w g s0_0 s0_1 s0_2) (hB:Below w0.heap.size w0 w) (h:spec_l1Cur_one.f s0_0 s0_1 s0_2 a1=some (r1,r2,r3)) :
  Calls Try.prog 160 #[.pointer (some ⟨g,0,none⟩), .int .i64 a1] w fun e w'=>e = .returned (.bool r1)∧IsS180 w0 w' g s0_0 r2 r3∧Below w0.heap.size w0 w'∧KeepBut w w' g none:=by
 have HI0:=am hI
 have HK:=am (KeepBut.refl w g none)
 have HL:=am hB.size
 clear hI
 have HW0:=am hB.size
 have HB:=am hB
 clear hB
 have H:=h
 unfold spec_l1Cur_one.f at H
 clear h
 obtain ⟨⟨t232,t233,t234⟩,A3,H⟩:=yo H
 try dsimp only at H
 simp only [Option.some.injEq,Prod.mk.injEq] at H
 obtain ⟨rfl,rfl,rfl⟩:=H
 go_enter Try.func160,Try.ntmps160
 go_wp2_with (first|((with_reducible refine gC 198 ?_);refine gM (some 7) Try.func198 (args:=#[.pointer (some ⟨g,0,none⟩), .int .i64 a1]) (spec_l1Cur_pick.calls g s0_0 s0_1 s0_2 a1 t232 t233 t234 w0 _ ?side1 ?side2 A3.out) ?_;(case side1=>repeat (first|(with_reducible first|exact HI0.out|apply IsS180.alloc|apply IsS180.drewN|apply IsS180.drew|apply IsS180.set_1|apply IsS180.set_2)|exact HI0.out));(case side2=>repeat (first|(with_reducible first|exact HB.out|apply pa|apply pb|apply pd|refine pt ?_ (IsS180.ge HI0.out))|exact HB.out));rintro e w4 ⟨rfl,hi,hb,hk⟩;refine ⟨_,rfl,?_⟩;replace HK:=am (KeepBut.trans D4 hk (.inl rfl));replace HB:=am (hb);replace HI0:=am (hi);clear hb hk hi))
 go_ret
 exact ⟨D0,D8,D10,D4⟩

def spec_l1Cur_among.f (s0_0:List Int) (s0_1:Int) (s0_2:Int) (l1:List Int):Option (Int × Int × Int):=(spec_l1Cur_pick.f s0_0 s0_1 s0_2 (l1.length:Int)).bind fun bt235=>(if 0≤bt235.1 then (if bt235.1 < (l1.length:Int) then (some (rd l1 bt235.1,bt235.2.1,bt235.2.2)) else (none)) else (none))
theorem spec_l1Cur_among.calls (g:Nat) (s0_0:List Int) (s0_1:Int) (s0_2:Int) (A1:Option Addr) (c1:Nat) (l1:List Int) (r1:Int) (r2:Int) (r3:Int) (w0 w:World) (hI:IsS180 w0 w g s0_0 s0_1 s0_2) (hB:Below w0.heap.size w0 w) (hr1:Kd.C (Kd.int .i64) w A1 l1.length l1) (hc1:l1.length≤c1) (hf1:∀ ad,A1=some ad→0 < l1.length→ad.block ≠ g) (h:spec_l1Cur_among.f s0_0 s0_1 s0_2 l1=some (r1,r2,r3)) :
  Calls Try.prog 197 #[.pointer (some ⟨g,0,none⟩), .slice A1 l1.length c1] w fun e w'=>e = .returned (.int .i64 r1)∧IsS180 w0 w' g s0_0 r2 r3∧Below w0.heap.size w0 w'∧KeepBut w w' g none:=by
 have HR1:=am hr1
 have HC1:=am hc1
 clear hr1 hc1
 have HI0:=am hI
 have HK:=am (KeepBut.refl w g none)
 have HL:=am hB.size
 clear hI
 have HW0:=am hB.size
 have HB:=am hB
 clear hB
 have H:=h
 unfold spec_l1Cur_among.f at H
 clear h
 obtain ⟨⟨t235,t236,t237⟩,A3,H⟩:=yo H
 try dsimp only at H
 by_cases c4:0≤t235
 ·rw [if_pos c4] at H
  have c4b0:=decide_eq_true c4
  clear c4
  obtain ⟨c5,H⟩:=yi H
  have c5b0:=decide_eq_true c5
  clear c5
  simp only [Option.some.injEq,Prod.mk.injEq] at H
  obtain ⟨rfl,rfl,rfl⟩:=H
  go_enter Try.func197,Try.ntmps197
  go_wp2_with (first|((with_reducible refine gC 198 ?_);refine gM (some 9) Try.func198 (args:=#[.pointer (some ⟨g,0,none⟩), .int .i64 (l1.length:Int)]) (spec_l1Cur_pick.calls g s0_0 s0_1 s0_2 (l1.length:Int) t235 t236 t237 w0 _ ?side1 ?side2 A3.out) ?_;(case side1=>repeat (first|(with_reducible first|exact HI0.out|apply IsS180.alloc|apply IsS180.drewN|apply IsS180.drew|apply IsS180.set_1|apply IsS180.set_2)|exact HI0.out));(case side2=>repeat (first|(with_reducible first|exact HB.out|apply pa|apply pb|apply pd|refine pt ?_ (IsS180.ge HI0.out))|exact HB.out));rintro e w6 ⟨rfl,hi,hb,hk⟩;refine ⟨_,rfl,?_⟩;replace HK:=am (KeepBut.trans D4 hk (.inl rfl));replace HB:=am (hb);replace HI0:=am (hi);clear hb hk hi;have p238:0≤(t235:Int):=od D1;have q238:t235 < (l1.length:Int):=od D1;obtain ⟨ad238,e238,hx238_0⟩:=Kd.at_int HR1.out t235 p238 q238;cases e238;replace hx238_0:=keep_cell HK.out hx238_0 (by first|(rw [add_block];exact hf1 _ rfl D23)|exact hf1 _ rfl D23|exact hf1 ad238 rfl D23);replace p238:=eq_true p238;replace q238:=eq_true q238))
  go_ret
  exact ⟨D0,D8,D10,D4⟩
 rw [if_neg c4] at H
 exact absurd H D52

def spec_l1Cur_side.f (s0_0:List Int) (s0_1:Int) (s0_2:Int):Option (Int × Int × Int):=(spec_l1Cur_one.f s0_0 s0_1 s0_2 30).bind fun bt239=>(if bt239.1=true then ((spec_l1Cur_among.f s0_0 bt239.2.1 bt239.2.2 (([0,16,17]:List Int))).bind fun bt245=>(some (bt245.1,bt245.2.1,bt245.2.2))) else ((spec_l1Cur_pick.f s0_0 bt239.2.1 bt239.2.2 4).bind fun bt248=>(some (wrap64 (1+bt248.1),bt248.2.1,bt248.2.2))))
theorem spec_l1Cur_side.calls (g:Nat) (s0_0:List Int) (s0_1:Int) (s0_2:Int) (r1:Int) (r2:Int) (r3:Int) (w0 w:World) (hI:IsS180 w0 w g s0_0 s0_1 s0_2) (hB:Below w0.heap.size w0 w) (h:spec_l1Cur_side.f s0_0 s0_1 s0_2=some (r1,r2,r3)) :
  Calls Try.prog 159 #[.pointer (some ⟨g,0,none⟩)] w fun e w'=>e = .returned (.int .i64 r1)∧IsS180 w0 w' g s0_0 r2 r3∧Below w0.heap.size w0 w'∧KeepBut w w' g none:=by
 have HI0:=am hI
 have HK:=am (KeepBut.refl w g none)
 have HL:=am hB.size
 clear hI
 have HW0:=am hB.size
 have HB:=am hB
 clear hB
 have H:=h
 unfold spec_l1Cur_side.f at H
 clear h
 obtain ⟨⟨t239,t240,t241⟩,A2,H⟩:=yo H
 try dsimp only at H
 by_cases c3:t239=true
 ·subst c3
  replace H:=yt H
  generalize hy242:(([0,16,17]:List Int):List Int)=y242 at H
  have Ny242:=am hy242.symm
  clear hy242
  obtain ⟨⟨t245,t246,t247⟩,A4,H⟩:=yo H
  try dsimp only at H
  simp only [Option.some.injEq,Prod.mk.injEq] at H
  obtain ⟨rfl,rfl,rfl⟩:=H
  go_enter Try.func159,Try.ntmps159
  go_wp2_with (first|((with_reducible refine gC 160 ?_);refine gM (some 4) Try.func160 (args:=#[.pointer (some ⟨g,0,none⟩), .int .i64 30]) (spec_l1Cur_one.calls g s0_0 s0_1 s0_2 30 true t240 t241 w0 _ ?side1 ?side2 A2.out) ?_;(case side1=>repeat (first|(with_reducible first|exact HI0.out|apply IsS180.alloc|apply IsS180.drewN|apply IsS180.drew|apply IsS180.set_1|apply IsS180.set_2)|exact HI0.out));(case side2=>repeat (first|(with_reducible first|exact HB.out|apply pa|apply pb|apply pd|refine pt ?_ (IsS180.ge HI0.out))|exact HB.out));rintro e w5 ⟨rfl,hi,hb,hk⟩;refine ⟨_,rfl,?_⟩;replace HK:=am (KeepBut.trans D4 hk (.inl rfl));replace HB:=am (hb);replace HI0:=am (hi);clear hb hk hi)|((with_reducible refine gD 6 ?_);refine Kd.R_lit (Kd.int .i64) _ 3 D35 (N:=6) D35 (xs:=([0,16,17]:List Int)) (inner:=[.int .i64 0, .int .i64 16, .int .i64 17]) (ok:=fun _=>True) (okp:=fun _=>True) D45 (by exact (Reps.one (show Kd.M (Kd.int .i64) _ _ _ 0 [.int .i64 0] from rfl) (Reps.one (show Kd.M (Kd.int .i64) _ _ _ 16 [.int .i64 16] from rfl) (Reps.one (show Kd.M (Kd.int .i64) _ _ _ 17 [.int .i64 17] from rfl) (Reps.none _ _))))) (fun _ hk=>hk) trivial (Below.refl _ _) (Nat.le_refl _) D52 ?_;intro v243 w6 ho7 hb hg_ hnew_;clear hg_ hnew_;(first|rw [← Ny242.out] at ho7|(simp only [Int.reduceToNat] at ho7;rw [← Ny242.out] at ho7));have HO244:=am (Kd.R_lower ho7 (keep_size (w:=w) (g:=g) (row:=none) D4));replace HK:=am (KeepBut.trans D4 (KeepBut.of_below hb g none) (.inl rfl));replace HB:=am (pu D10 hb);replace HI0:=am (IsS180.below D8 hb);clear hb ho7;obtain ⟨Ao8,co8,eo8⟩:=Kd.R_slice HO244.out;subst eo8)|((with_reducible refine gC 197 ?_);refine gM (some 7) Try.func197 (args:=#[.pointer (some ⟨g,0,none⟩), .slice Ao8 y242.length co8]) (spec_l1Cur_among.calls g s0_0 t240 t241 _ _ y242 t245 t246 t247 w0 _ ?side1 ?side2 ?side3 ?side4 ?side5 A4.out) ?_;(case side1=>repeat (first|(with_reducible first|exact HI0.out|apply IsS180.alloc|apply IsS180.drewN|apply IsS180.drew|apply IsS180.set_1|apply IsS180.set_2)|exact HI0.out));(case side2=>repeat (first|(with_reducible first|exact HB.out|apply pa|apply pb|apply pd|refine pt ?_ (IsS180.ge HI0.out))|exact HB.out));(case side3=>repeat (first|exact (Kd.R_reads' HO244.out).2.2|(with_reducible refine Kd.C_alloc ?_ _)|(with_reducible refine Kd.C_drewN ?_ _)|(with_reducible refine Kd.C_drew ?_)));(case side4=>exact (Kd.R_reads' HO244.out).2.1);(case side5=>exact far_slice (IsS180.own_ne HI0.out HO244.out D24));rintro e w9 ⟨rfl,hi,hb,hk⟩;refine ⟨_,rfl,?_⟩;replace HO244:=am (Kd.R_mono (Kd.R_keep (IsS180.apart (show IsS180 w0 _ g s0_0 t240 t241 from by repeat (first|(with_reducible first|exact HI0.out|apply IsS180.alloc|apply IsS180.drewN|apply IsS180.drew|apply IsS180.set_1|apply IsS180.set_2)|exact HI0.out)) (yR HO244) D24) hk (fun _ h=>h.2)) (fun _ h=>h.1));replace HK:=am (KeepBut.trans D4 hk (.inl rfl));replace HB:=am (hb);replace HI0:=am (hi);clear hb hk hi))
  go_ret
  exact ⟨D0,D8,D10,D4⟩
 replace c3:=Bool.eq_false_iff.mpr c3
 subst c3
 replace H:=yn H
 obtain ⟨⟨t248,t249,t250⟩,A10,H⟩:=yo H
 try dsimp only at H
 simp only [Option.some.injEq,Prod.mk.injEq] at H
 obtain ⟨rfl,rfl,rfl⟩:=H
 go_enter Try.func159,Try.ntmps159
 go_wp2_with (first|((with_reducible refine gC 160 ?_);refine gM (some 4) Try.func160 (args:=#[.pointer (some ⟨g,0,none⟩), .int .i64 30]) (spec_l1Cur_one.calls g s0_0 s0_1 s0_2 30 false t240 t241 w0 _ ?side1 ?side2 A2.out) ?_;(case side1=>repeat (first|(with_reducible first|exact HI0.out|apply IsS180.alloc|apply IsS180.drewN|apply IsS180.drew|apply IsS180.set_1|apply IsS180.set_2)|exact HI0.out));(case side2=>repeat (first|(with_reducible first|exact HB.out|apply pa|apply pb|apply pd|refine pt ?_ (IsS180.ge HI0.out))|exact HB.out));rintro e w11 ⟨rfl,hi,hb,hk⟩;refine ⟨_,rfl,?_⟩;replace HK:=am (KeepBut.trans D4 hk (.inl rfl));replace HB:=am (hb);replace HI0:=am (hi);clear hb hk hi)|((with_reducible refine gC 198 ?_);refine gM (some 9) Try.func198 (args:=#[.pointer (some ⟨g,0,none⟩), .int .i64 4]) (spec_l1Cur_pick.calls g s0_0 t240 t241 4 t248 t249 t250 w0 _ ?side1 ?side2 A10.out) ?_;(case side1=>repeat (first|(with_reducible first|exact HI0.out|apply IsS180.alloc|apply IsS180.drewN|apply IsS180.drew|apply IsS180.set_1|apply IsS180.set_2)|exact HI0.out));(case side2=>repeat (first|(with_reducible first|exact HB.out|apply pa|apply pb|apply pd|refine pt ?_ (IsS180.ge HI0.out))|exact HB.out));rintro e w12 ⟨rfl,hi,hb,hk⟩;refine ⟨_,rfl,?_⟩;replace HK:=am (KeepBut.trans D4 hk (.inl rfl));replace HB:=am (hb);replace HI0:=am (hi);clear hb hk hi))
 go_ret
 exact ⟨D0,D8,D10,D4⟩

def spec_l1Cur_byte.f (s0_0:List Int) (s0_1:Int) (s0_2:Int):Option (Int × Int × Int):=(spec_l1Cur_one.f s0_0 s0_1 s0_2 5).bind fun bt251=>(if bt251.1=true then ((spec_l1Cur_among.f s0_0 bt251.2.1 bt251.2.2 (([0,1,2,3,255,27]:List Int))).bind fun bt257=>(some ((bt257.1) % 256,bt257.2.1,bt257.2.2))) else ((spec_l1Cur_pick.f s0_0 bt251.2.1 bt251.2.2 256).bind fun bt260=>(some ((bt260.1) % 256,bt260.2.1,bt260.2.2))))
theorem spec_l1Cur_byte.calls (g:Nat) (s0_0:List Int) (s0_1:Int) (s0_2:Int) (r1:Int) (r2:Int) (r3:Int) (w0 w:World) (hI:IsS180 w0 w g s0_0 s0_1 s0_2) (hB:Below w0.heap.size w0 w) (h:spec_l1Cur_byte.f s0_0 s0_1 s0_2=some (r1,r2,r3)) :
  Calls Try.prog 199 #[.pointer (some ⟨g,0,none⟩)] w fun e w'=>e = .returned (.int .u8 r1)∧IsS180 w0 w' g s0_0 r2 r3∧Below w0.heap.size w0 w'∧KeepBut w w' g none:=by
 have HI0:=am hI
 have HK:=am (KeepBut.refl w g none)
 have HL:=am hB.size
 clear hI
 have HW0:=am hB.size
 have HB:=am hB
 clear hB
 have H:=h
 unfold spec_l1Cur_byte.f at H
 clear h
 obtain ⟨⟨t251,t252,t253⟩,A2,H⟩:=yo H
 try dsimp only at H
 by_cases c3:t251=true
 ·subst c3
  replace H:=yt H
  generalize hy254:(([0,1,2,3,255,27]:List Int):List Int)=y254 at H
  have Ny254:=am hy254.symm
  clear hy254
  obtain ⟨⟨t257,t258,t259⟩,A4,H⟩:=yo H
  try dsimp only at H
  simp only [Option.some.injEq,Prod.mk.injEq] at H
  obtain ⟨rfl,rfl,rfl⟩:=H
  go_enter Try.func199,Try.ntmps199
  go_wp2_with (first|((with_reducible refine gC 160 ?_);refine gM (some 4) Try.func160 (args:=#[.pointer (some ⟨g,0,none⟩), .int .i64 5]) (spec_l1Cur_one.calls g s0_0 s0_1 s0_2 5 true t252 t253 w0 _ ?side1 ?side2 A2.out) ?_;(case side1=>repeat (first|(with_reducible first|exact HI0.out|apply IsS180.alloc|apply IsS180.drewN|apply IsS180.drew|apply IsS180.set_1|apply IsS180.set_2)|exact HI0.out));(case side2=>repeat (first|(with_reducible first|exact HB.out|apply pa|apply pb|apply pd|refine pt ?_ (IsS180.ge HI0.out))|exact HB.out));rintro e w5 ⟨rfl,hi,hb,hk⟩;refine ⟨_,rfl,?_⟩;replace HK:=am (KeepBut.trans D4 hk (.inl rfl));replace HB:=am (hb);replace HI0:=am (hi);clear hb hk hi)|((with_reducible refine gD 6 ?_);refine Kd.R_lit (Kd.int .i64) _ 3 D35 (N:=6) D35 (xs:=([0,1,2,3,255,27]:List Int)) (inner:=[.int .i64 0, .int .i64 1, .int .i64 2, .int .i64 3, .int .i64 255, .int .i64 27]) (ok:=fun _=>True) (okp:=fun _=>True) D45 (by exact (Reps.one (show Kd.M (Kd.int .i64) _ _ _ 0 [.int .i64 0] from rfl) (Reps.one (show Kd.M (Kd.int .i64) _ _ _ 1 [.int .i64 1] from rfl) (Reps.one (show Kd.M (Kd.int .i64) _ _ _ 2 [.int .i64 2] from rfl) (Reps.one (show Kd.M (Kd.int .i64) _ _ _ 3 [.int .i64 3] from rfl) (Reps.one (show Kd.M (Kd.int .i64) _ _ _ 255 [.int .i64 255] from rfl) (Reps.one (show Kd.M (Kd.int .i64) _ _ _ 27 [.int .i64 27] from rfl) (Reps.none _ _)))))))) (fun _ hk=>hk) trivial (Below.refl _ _) (Nat.le_refl _) D52 ?_;intro v255 w6 ho7 hb hg_ hnew_;clear hg_ hnew_;(first|rw [← Ny254.out] at ho7|(simp only [Int.reduceToNat] at ho7;rw [← Ny254.out] at ho7));have HO256:=am (Kd.R_lower ho7 (keep_size (w:=w) (g:=g) (row:=none) D4));replace HK:=am (KeepBut.trans D4 (KeepBut.of_below hb g none) (.inl rfl));replace HB:=am (pu D10 hb);replace HI0:=am (IsS180.below D8 hb);clear hb ho7;obtain ⟨Ao8,co8,eo8⟩:=Kd.R_slice HO256.out;subst eo8)|((with_reducible refine gC 197 ?_);refine gM (some 7) Try.func197 (args:=#[.pointer (some ⟨g,0,none⟩), .slice Ao8 y254.length co8]) (spec_l1Cur_among.calls g s0_0 t252 t253 _ _ y254 t257 t258 t259 w0 _ ?side1 ?side2 ?side3 ?side4 ?side5 A4.out) ?_;(case side1=>repeat (first|(with_reducible first|exact HI0.out|apply IsS180.alloc|apply IsS180.drewN|apply IsS180.drew|apply IsS180.set_1|apply IsS180.set_2)|exact HI0.out));(case side2=>repeat (first|(with_reducible first|exact HB.out|apply pa|apply pb|apply pd|refine pt ?_ (IsS180.ge HI0.out))|exact HB.out));(case side3=>repeat (first|exact (Kd.R_reads' HO256.out).2.2|(with_reducible refine Kd.C_alloc ?_ _)|(with_reducible refine Kd.C_drewN ?_ _)|(with_reducible refine Kd.C_drew ?_)));(case side4=>exact (Kd.R_reads' HO256.out).2.1);(case side5=>exact far_slice (IsS180.own_ne HI0.out HO256.out D24));rintro e w9 ⟨rfl,hi,hb,hk⟩;refine ⟨_,rfl,?_⟩;replace HO256:=am (Kd.R_mono (Kd.R_keep (IsS180.apart (show IsS180 w0 _ g s0_0 t252 t253 from by repeat (first|(with_reducible first|exact HI0.out|apply IsS180.alloc|apply IsS180.drewN|apply IsS180.drew|apply IsS180.set_1|apply IsS180.set_2)|exact HI0.out)) (yR HO256) D24) hk (fun _ h=>h.2)) (fun _ h=>h.1));replace HK:=am (KeepBut.trans D4 hk (.inl rfl));replace HB:=am (hb);replace HI0:=am (hi);clear hb hk hi))
  go_ret
  exact ⟨D0,D8,D10,D4⟩
 replace c3:=Bool.eq_false_iff.mpr c3
 subst c3
 replace H:=yn H
 obtain ⟨⟨t260,t261,t262⟩,A10,H⟩:=yo H
 try dsimp only at H
 simp only [Option.some.injEq,Prod.mk.injEq] at H
 obtain ⟨rfl,rfl,rfl⟩:=H
 go_enter Try.func199,Try.ntmps199
 go_wp2_with (first|((with_reducible refine gC 160 ?_);refine gM (some 4) Try.func160 (args:=#[.pointer (some ⟨g,0,none⟩), .int .i64 5]) (spec_l1Cur_one.calls g s0_0 s0_1 s0_2 5 false t252 t253 w0 _ ?side1 ?side2 A2.out) ?_;(case side1=>repeat (first|(with_reducible first|exact HI0.out|apply IsS180.alloc|apply IsS180.drewN|apply IsS180.drew|apply IsS180.set_1|apply IsS180.set_2)|exact HI0.out));(case side2=>repeat (first|(with_reducible first|exact HB.out|apply pa|apply pb|apply pd|refine pt ?_ (IsS180.ge HI0.out))|exact HB.out));rintro e w11 ⟨rfl,hi,hb,hk⟩;refine ⟨_,rfl,?_⟩;replace HK:=am (KeepBut.trans D4 hk (.inl rfl));replace HB:=am (hb);replace HI0:=am (hi);clear hb hk hi)|((with_reducible refine gC 198 ?_);refine gM (some 10) Try.func198 (args:=#[.pointer (some ⟨g,0,none⟩), .int .i64 256]) (spec_l1Cur_pick.calls g s0_0 t252 t253 256 t260 t261 t262 w0 _ ?side1 ?side2 A10.out) ?_;(case side1=>repeat (first|(with_reducible first|exact HI0.out|apply IsS180.alloc|apply IsS180.drewN|apply IsS180.drew|apply IsS180.set_1|apply IsS180.set_2)|exact HI0.out));(case side2=>repeat (first|(with_reducible first|exact HB.out|apply pa|apply pb|apply pd|refine pt ?_ (IsS180.ge HI0.out))|exact HB.out));rintro e w12 ⟨rfl,hi,hb,hk⟩;refine ⟨_,rfl,?_⟩;replace HK:=am (KeepBut.trans D4 hk (.inl rfl));replace HB:=am (hb);replace HI0:=am (hi);clear hb hk hi))
 go_ret
 exact ⟨D0,D8,D10,D4⟩

def spec_l1Cur_vector.l0:Nat→Int→List Int→List Int→Int→Int→Option (List Int × Int × Int)
 | 0,_,_,_,_,_=>none
 | k+1,x1,x5,x1000,x1001,x1002=>if x1 > 0 then ((spec_l1Cur_byte.f x1000 x1001 x1002).bind fun bt263=>(if x5.length < 140737488355328 then (spec_l1Cur_vector.l0 k (wrap64 (x1 - 1)) (x5 ++ [bt263.1]) x1000 bt263.2.1 bt263.2.2) else (none))) else (some (x5,x1001,x1002))
def spec_l1Cur_vector.f (k:Nat) (s0_0:List Int) (s0_1:Int) (s0_2:Int) (a1:Int):Option (List Int × Int × Int):=spec_l1Cur_vector.l0 k a1 ([]:List Int) s0_0 s0_1 s0_2
theorem spec_l1Cur_vector.mono_l:∀ k,(∀ y0 y1 y2 y3 y4,LeO (spec_l1Cur_vector.l0 k y0 y1 y2 y3 y4) (spec_l1Cur_vector.l0 (k+1) y0 y1 y2 y3 y4))
 | 0=>fun _ _ _ _ _ r h=>by simp [spec_l1Cur_vector.l0] at h
 | k+1=>by
  have ih0:=spec_l1Cur_vector.mono_l k
  intro y0 y1 y2 y3 y4
  unfold spec_l1Cur_vector.l0
  exact mm
theorem spec_l1Cur_vector.mono:∀ a0 a1 a2 a3 k,LeO (spec_l1Cur_vector.f k a0 a1 a2 a3) (spec_l1Cur_vector.f (k+1) a0 a1 a2 a3):=by
 intro a0 a1 a2 a3 k
 have ih0:=spec_l1Cur_vector.mono_l k
 unfold spec_l1Cur_vector.f
 exact mm
theorem spec_l1Cur_vector.calls (k:Nat) (g:Nat) (s0_0:List Int) (s0_1:Int) (s0_2:Int) (a1:Int) (r1:List Int) (r2:Int) (r3:Int) (w0 w:World) (hI:IsS180 w0 w g s0_0 s0_1 s0_2) (hB:Below w0.heap.size w0 w) (h:spec_l1Cur_vector.f k s0_0 s0_1 s0_2 a1=some (r1,r2,r3)) :
  Calls Try.prog 162 #[.pointer (some ⟨g,0,none⟩), .int .i64 a1] w fun e w'=>∃ v0_:Value,e = .returned (v0_)∧Kd.R (Kd.int .u8) 5 w' w.heap.size (fun _=>True) v0_ r1∧IsS180 w0 w' g s0_0 r2 r3∧Below w0.heap.size w0 w'∧KeepBut w w' g none:=by
 have HI0:=am hI
 have HK:=am (KeepBut.refl w g none)
 have HL:=am hB.size
 clear hI
 have HW0:=am hB.size
 have HB:=am hB
 clear hB
 have H:=h
 unfold spec_l1Cur_vector.f at H
 clear h
 have H':=am H
 clear H
 go_enter Try.func162,Try.ntmps162
 go_wp2
 go_loopg [1,5] k (fun kq v1 v5 w'=>∃ (x1_1:Int) (x5_1:List Int) (x1001_1:Int) (x1002_1:Int),v1 = .int .i64 x1_1∧Aside0 (spec_l1Cur_vector.l0 kq x1_1 x5_1 s0_0 x1001_1 x1002_1=some (r1,r2,r3))∧Aside0 (kq≤k)∧Aside0 (Kd.R (Kd.int .u8) 5 w' w.heap.size (fun _=>True) v5 x5_1)∧Aside0 (IsS180 w0 w' g s0_0 x1001_1 x1002_1)∧Aside0 (KeepBut w w' g none)∧Aside0 (Below w0.heap.size w0 w'))
 case atStart=>exact ⟨(a1),(([]:List Int)),(s0_1),(s0_2),D2,H',⟨Nat.le_refl _⟩,⟨D37⟩,⟨D8⟩,⟨D4⟩,⟨D10⟩⟩
 case round =>
  clear H'
  try clear c1
  try clear p2
  obtain ⟨x1_1,x5_1,x1001_1,x1002_1,rfl,HA,HK1,HO_5,HI0,HK,HB⟩:=hrel
  cases gk with
  | zero=>exact absurd HA.out (by simp [spec_l1Cur_vector.l0])
  | succ k1 =>
   have H:=HA.out
   clear HA
   simp only [spec_l1Cur_vector.l0] at H
   by_cases c3:x1_1 > 0
   ·rw [if_pos c3] at H
    have c3b0:decide (0 < x1_1)=true:=decide_eq_true c3
    clear c3
    obtain ⟨⟨t263,t264,t265⟩,A4,H⟩:=yo H
    try dsimp only at H
    obtain ⟨c5,H⟩:=yi H
    have LMc5:=am c5
    clear c5
    generalize hy266:(x5_1 ++ [t263]:List Int)=y266 at H
    have Ny266:=am hy266.symm
    clear hy266
    have H':=am H
    clear H
    go_wp2_with (first|((with_reducible refine gC 199 ?_);refine gM (some 12) Try.func199 (args:=#[.pointer (some ⟨g,0,none⟩)]) (spec_l1Cur_byte.calls g s0_0 x1001_1 x1002_1 t263 t264 t265 w0 _ ?side1 ?side2 A4.out) ?_;(case side1=>repeat (first|(with_reducible first|exact HI0.out|apply IsS180.alloc|apply IsS180.drewN|apply IsS180.drew|apply IsS180.set_1|apply IsS180.set_2)|exact HI0.out));(case side2=>repeat (first|(with_reducible first|exact HB.out|apply pa|apply pb|apply pd|refine pt ?_ (IsS180.ge HI0.out))|exact HB.out));rintro e w6 ⟨rfl,hi,hb,hk⟩;refine ⟨_,rfl,?_⟩;replace HO_5:=am (Kd.R_mono (Kd.R_keep (IsS180.apart (show IsS180 w0 _ g s0_0 x1001_1 x1002_1 from by repeat (first|(with_reducible first|exact HI0.out|apply IsS180.alloc|apply IsS180.drewN|apply IsS180.drew|apply IsS180.set_1|apply IsS180.set_2)|exact HI0.out)) (yR HO_5) D24) hk (fun _ h=>h.2)) (fun _ h=>h.1));replace HK:=am (KeepBut.trans D4 hk (.inl rfl));replace HB:=am (hb);replace HI0:=am (hi);clear hb hk hi)|((with_reducible refine gate_builtin (b:=.append) (xs:=#[.tmp 10, .tmp 13]) rfl ?_);at_builtin;refine Kd.R_append (Kd.int .u8) w.heap.size rfl (.tmp 10) (.tmp 13) 57 5 (.int .u8 0) 1 rfl Try.underlying57 info5 rfl D24 D23 u5 x5_1 t263 [.int .u8 t263] (fun _=>True) (fun _=>False) rfl rfl (by exact rfl) (fun _ hk=>hk.elim) D75 (by exact (yR HO_5)) (Below.refl _ _) (by exact (keep_size (w:=w) (g:=g) (row:=none) D4)) (by have:=LMc5.out;omega) ?_;intro v267 w7 ho hb hg hat;rw [← Ny266.out] at ho;have n0_:=am (IsS180.grown D8 hg (IsS180.own_ne HI0.out HO_5.out D24));have n1_:=am (below_weaken D10 HL.out hb);have n2_:=am (KeepBut.trans D4 (KeepBut.of_grown hg g) (Kd.R_base2 HO_5.out));have n3_:=am (ho);clear HI0 HB HK HO_5;have HI0:=n0_;have HB:=n1_;have HK:=n2_;have HO268:=n3_;clear n0_ n1_ n2_ n3_ ho hb hg hat))
    go_roundg k1
    case measure=>have:=HK1.out;omega
    case rel=>exact ⟨(wrap64 (x1_1 - 1)),(y266),(t264),(t265),D2,H',⟨D50⟩,⟨yR HO268⟩,⟨D8⟩,⟨D4⟩,⟨D10⟩⟩
   rw [if_neg c3] at H
   have c3b0:decide (0 < x1_1)=false:=decide_eq_false c3
   clear c3
   simp only [Option.some.injEq,Prod.mk.injEq] at H
   obtain ⟨rfl,rfl,rfl⟩:=H
   go_wp2
   go_ret
   exact ⟨_,D0,yR HO_5,D8,D10,D4⟩
mutual
def spec_l1Cur_matrix.l0:Nat→Int→Int→List Int→Int→Int→List (List Int)→Option ((List (List Int)) × Int × Int)
 | 0,_,_,_,_,_,_=>none
 | k+1,x1,x2,x1000,x1001,x1002,x135000=>if x1 > 0 then ((spec_l1Cur_vector.f k x1000 x1001 x1002 x2).bind fun bt135=>(if x135000.length < 5864062014805 then (spec_l1Cur_matrix.l0 k (wrap64 (x1 - 1)) x2 x1000 bt135.2.1 bt135.2.2 (x135000 ++ [bt135.1])) else (none))) else (if (x135000.length:Int) > 1 then ((spec_l1Cur_one.f x1000 x1001 x1002 6).bind fun bt143=>(spec_l1Cur_matrix.j1 k bt143.1 x1000 bt143.2.1 bt143.2.2 x135000)) else (spec_l1Cur_matrix.j1 k false x1000 x1001 x1002 x135000))
def spec_l1Cur_matrix.j1:Nat→Bool→List Int→Int→Int→List (List Int)→Option ((List (List Int)) × Int × Int)
 | 0,_,_,_,_,_=>none
 | k+1,x28,x1000,x1001,x1002,x135000=>if x28=true then ((some (([]:List Int):List Int)).bind fun y146=>(if 1 < (x135000.length:Int) then (if y146.length+(rd_L1 x135000 1).length < 140737488355328 then (if 0 < (x135000.length:Int) then (spec_l1Cur_matrix.j2 k x1000 x1001 x1002 (x135000.set (0:Int).toNat (y146 ++ (rd_L1 x135000 1)))) else (none)) else (none)) else (none))) else (spec_l1Cur_matrix.j2 k x1000 x1001 x1002 x135000)
def spec_l1Cur_matrix.j2:Nat→List Int→Int→Int→List (List Int)→Option ((List (List Int)) × Int × Int)
 | 0,_,_,_,_=>none
 | k+1,x1000,x1001,x1002,x135000=>if (x135000.length:Int) > 0 then ((spec_l1Cur_one.f x1000 x1001 x1002 40).bind fun bt154=>(if bt154.1=true then (if 0 < (x135000.length:Int) then (if (rd_L1 x135000 0).length < 140737488355328 then (some ((x135000.set (0:Int).toNat ((rd_L1 x135000 0) ++ [1])),bt154.2.1,bt154.2.2)) else (none)) else (none)) else (some (x135000,bt154.2.1,bt154.2.2)))) else (some (x135000,x1001,x1002))
end
def spec_l1Cur_matrix.f (k:Nat) (s0_0:List Int) (s0_1:Int) (s0_2:Int) (a1:Int) (a2:Int):Option ((List (List Int)) × Int × Int):=spec_l1Cur_matrix.l0 k a1 a2 s0_0 s0_1 s0_2 ([]:List (List Int))
theorem spec_l1Cur_matrix.mono_l:∀ k,(∀ y0 y1 y2 y3 y4 y5,LeO (spec_l1Cur_matrix.l0 k y0 y1 y2 y3 y4 y5) (spec_l1Cur_matrix.l0 (k+1) y0 y1 y2 y3 y4 y5))∧(∀ y0 y1 y2 y3 y4,LeO (spec_l1Cur_matrix.j1 k y0 y1 y2 y3 y4) (spec_l1Cur_matrix.j1 (k+1) y0 y1 y2 y3 y4))∧(∀ y0 y1 y2 y3,LeO (spec_l1Cur_matrix.j2 k y0 y1 y2 y3) (spec_l1Cur_matrix.j2 (k+1) y0 y1 y2 y3))
 | 0=>⟨fun _ _ _ _ _ _ r h=>by simp [spec_l1Cur_matrix.l0] at h,fun _ _ _ _ _ r h=>by simp [spec_l1Cur_matrix.j1] at h,fun _ _ _ _ r h=>by simp [spec_l1Cur_matrix.j2] at h⟩
 | k+1=>by
  obtain ⟨ih0,ih1,ih2⟩:=spec_l1Cur_matrix.mono_l k
  refine ⟨?_,?_,?_⟩
  ·intro y0 y1 y2 y3 y4 y5
   unfold spec_l1Cur_matrix.l0
   exact mm
  ·intro y0 y1 y2 y3 y4
   unfold spec_l1Cur_matrix.j1
   exact mm
  intro y0 y1 y2 y3
  unfold spec_l1Cur_matrix.j2
  exact mm
theorem spec_l1Cur_matrix.mono:∀ a0 a1 a2 a3 a4 k,LeO (spec_l1Cur_matrix.f k a0 a1 a2 a3 a4) (spec_l1Cur_matrix.f (k+1) a0 a1 a2 a3 a4):=by
 intro a0 a1 a2 a3 a4 k
 obtain ⟨ih0,ih1,ih2⟩:=spec_l1Cur_matrix.mono_l k
 unfold spec_l1Cur_matrix.f
 exact mm
def spec_l1Cur_matrix.T4:Bool × List (List Nat × List Nat):=(true,[([],[]),([0],[0]),([],[]),([],[]),([2,3],[2,3]),([4],[4]),([1,5,4],[1,5]),([0,1,2,3,4,5,6],[]),([7,6,6,0,1,2,3,4,5,6],[6,7])])
def spec_l1Cur_matrix.B4:List Nat:=[0,1,0,0,12,28,63,127,255]
theorem spec_l1Cur_matrix.tab4:rtab .any (opsOf Try.f161 4)=spec_l1Cur_matrix.T4:=by kernel_rfl
theorem spec_l1Cur_matrix.bits4:waitsOk spec_l1Cur_matrix.T4.2 spec_l1Cur_matrix.B4=true:=by kernel_rfl
def spec_l1Cur_matrix.T8:Bool × List (List Nat × List Nat):=(true,[([],[]),([0],[0]),([],[]),([2],[2]),([3],[3]),([4],[4]),([],[]),([5,6],[5,6]),([1,0,1,2,3,4,5,6,7],[1]),([8,7,7,0,1,2,3,4,5,6,7],[7,8])])
def spec_l1Cur_matrix.B8:List Nat:=[0,1,0,4,12,28,0,124,255,511]
theorem spec_l1Cur_matrix.tab8:rtab .any (opsOf Try.f161 8)=spec_l1Cur_matrix.T8:=by kernel_rfl
theorem spec_l1Cur_matrix.bits8:waitsOk spec_l1Cur_matrix.T8.2 spec_l1Cur_matrix.B8=true:=by kernel_rfl
theorem spec_l1Cur_matrix.calls (k:Nat) (g:Nat) (s0_0:List Int) (s0_1:Int) (s0_2:Int) (a1:Int) (a2:Int) (r1:List (List Int)) (r2:Int) (r3:Int) (w0 w:World) (hI:IsS180 w0 w g s0_0 s0_1 s0_2) (hB:Below w0.heap.size w0 w) (h:spec_l1Cur_matrix.f k s0_0 s0_1 s0_2 a1 a2=some (r1,r2,r3)) :
  Calls Try.prog 161 #[.pointer (some ⟨g,0,none⟩), .int .i64 a1, .int .i64 a2] w fun e w'=>∃ v0_:Value,e = .returned (.agg #[v0_])∧Kd.S (Kd.slice 5 (Kd.int .u8)) 57 w' w.heap.size (fun _=>True) v0_ r1∧IsS180 w0 w' g s0_0 r2 r3∧Below w0.heap.size w0 w'∧KeepBut w w' g none:=by
 have hu43:=Try.underlying43
 have HI0:=am hI
 have HK:=am (KeepBut.refl w g none)
 have HL:=am hB.size
 clear hI
 have HW0:=am hB.size
 have HB:=am hB
 clear hB
 have H:=h
 unfold spec_l1Cur_matrix.f at H
 clear h
 have H':=am H
 clear H
 go_enter Try.func161,Try.ntmps161
 go_wp2_with (first|((with_reducible refine gD 6 ?_);refine gB (cs:=#[.slice none 0 0]) 43 ?_;intro gb133 hg w4 hbox hb;replace HB:=am (pu D10 hb);have BK133:=am (hbox);have GW133:=am ((by rw [hg];exact (keep_size (w:=w) (g:=g) (row:=none) D4):w.heap.size≤gb133));have GE133:=am ((Nat.le_trans HW0.out (by rw [hg];exact (keep_size (w:=w) (g:=g) (row:=none) D4):w.heap.size≤gb133):w0.heap.size≤gb133));replace HK:=am (KeepBut.trans D4 (KeepBut.of_below hb g none) (.inl rfl));have NB0_133:=am ((by rw [hg];exact Nat.ne_of_lt (IsS180.lt (show IsS180 w0 _ g s0_0 s0_1 s0_2 from by repeat (first|(with_reducible first|exact HI0.out|apply IsS180.alloc|apply IsS180.drewN|apply IsS180.drew|apply IsS180.set_1|apply IsS180.set_2)|exact HI0.out))):g ≠ gb133));have NB133_0:=am ((by rw [hg];exact Nat.ne_of_gt (IsS180.lt (show IsS180 w0 _ g s0_0 s0_1 s0_2 from by repeat (first|(with_reducible first|exact HI0.out|apply IsS180.alloc|apply IsS180.drewN|apply IsS180.drew|apply IsS180.set_1|apply IsS180.set_2)|exact HI0.out))):gb133 ≠ g));replace HI0:=am (IsS180.below D8 hb);clear hb hbox hg)|((with_reducible refine gD 7 ?_);refine gB (cs:=#[.slice none 0 0]) 43 ?_;intro gb134 hg w5 hbox hb;replace HB:=am (pu (by repeat (first|(with_reducible first|exact HB.out|apply pa|apply pb|apply pd|refine pt ?_ (IsS180.ge HI0.out)|refine pt ?_ GE133.out)|exact HB.out)) hb);have BK134:=am (hbox);have GW134:=am ((by rw [hg];exact (keep_size (w:=w) (g:=g) (row:=none) D71):w.heap.size≤gb134));have GE134:=am ((Nat.le_trans HW0.out (by rw [hg];exact (keep_size (w:=w) (g:=g) (row:=none) D71):w.heap.size≤gb134):w0.heap.size≤gb134));replace HK:=am (KeepBut.trans D71 (KeepBut.of_below hb g none) (.inl rfl));have NB133_134:=yl BK133 hg;have NB134_133:=yg BK133 hg;replace BK133:=yb BK133 hb;have NB0_134:=am ((by rw [hg];exact Nat.ne_of_lt (IsS180.lt (show IsS180 w0 _ g s0_0 s0_1 s0_2 from by repeat (first|(with_reducible first|exact HI0.out|apply IsS180.alloc|apply IsS180.drewN|apply IsS180.drew|apply IsS180.set_1|apply IsS180.set_2|refine IsS180.far ?_ NB0_133.out _)|exact HI0.out))):g ≠ gb134));have NB134_0:=am ((by rw [hg];exact Nat.ne_of_gt (IsS180.lt (show IsS180 w0 _ g s0_0 s0_1 s0_2 from by repeat (first|(with_reducible first|exact HI0.out|apply IsS180.alloc|apply IsS180.drewN|apply IsS180.drew|apply IsS180.set_1|apply IsS180.set_2|refine IsS180.far ?_ NB0_133.out _)|exact HI0.out))):gb134 ≠ g));replace HI0:=am (IsS180.below (by repeat (first|(with_reducible first|exact HI0.out|apply IsS180.alloc|apply IsS180.drewN|apply IsS180.drew|apply IsS180.set_1|apply IsS180.set_2|refine IsS180.far ?_ NB0_133.out _)|exact HI0.out)) hb);clear hb hbox hg;have hnb6:=NB134_133.out;have hnc6:=NB133_134.out;have hnb7:=NB134_0.out;have hnc7:=NB0_134.out;obtain ⟨hcz8_0,hfz8_0⟩:=yk1 BK134))
 go_loopg [1] k (fun kq v1 w'=>∃ (x1_1:Int) (x1001_1:Int) (x1002_1:Int) (x135000_1:List (List Int)) (u135000:Value),v1 = .int .i64 x1_1∧Aside0 (spec_l1Cur_matrix.l0 kq x1_1 a2 s0_0 x1001_1 x1002_1 x135000_1=some (r1,r2,r3))∧Aside0 (kq≤k)∧Aside0 (Kd.S (Kd.slice 5 (Kd.int .u8)) 57 w' w.heap.size (fun _=>True) u135000 x135000_1)∧Aside0 (w'.heap[gb133]? = some (.cells #[(.slice none 0 0)] 43 (0,0)))∧Aside0 (w'.heap[gb134]? = some (.cells #[u135000] 43 (0,0)))∧Aside0 (IsS180 w0 w' g s0_0 x1001_1 x1002_1)∧Aside0 (KeepBut w w' g none)∧Aside0 (Below w0.heap.size w0 w'))
 case atStart=>exact ⟨(a1),(s0_1),(s0_2),(([]:List (List Int))),(.slice none 0 0),D2,H',⟨Nat.le_refl _⟩,⟨D25⟩,⟨yF BK133⟩,⟨by refine sB ?_;refine blk_put (cs:=#[.slice none 0 0]) ?_ 0 _ rfl;exact yB BK134⟩,⟨D7⟩,⟨D6⟩,⟨D22⟩⟩
 case round =>
  clear H'
  try clear p2
  try clear c6
  try clear c7
  try clear hcz8_0
  try clear hfz8_0
  obtain ⟨x1_1,x1001_1,x1002_1,x135000_1,u135000,rfl,HA,HK1,HO_135000,BK133,BK134,HI0,HK,HB⟩:=hrel
  cases gk with
  | zero=>exact absurd HA.out (by simp [spec_l1Cur_matrix.l0])
  | succ k1 =>
   have H:=HA.out
   clear HA
   simp only [spec_l1Cur_matrix.l0] at H
   by_cases c9:x1_1 > 0
   ·rw [if_pos c9] at H
    have c9b0:decide (0 < x1_1)=true:=decide_eq_true c9
    clear c9
    obtain ⟨⟨t135,t138,t139⟩,A10,H⟩:=yo H
    try dsimp only at H
    obtain ⟨c11,H⟩:=yi H
    have LMc11:=am c11
    clear c11
    generalize hy140:(x135000_1 ++ [t135]:List (List Int))=y140 at H
    have Ny140:=am hy140.symm
    clear hy140
    have H':=am H
    clear H
    try go_wp2
    replace HO_135000:=am (Kd.S_drew HO_135000.out)
    replace BK133:=am (qd BK133.out)
    replace BK134:=am (qd BK134.out)
    replace HI0:=am (IsS180.drew HI0.out)
    replace HK:=am (keep_drew HK.out)
    replace HB:=am (pd HB.out)
    refine rS (n:=9) (S:=fun w'=>w'.cell? ⟨gb134,0,none⟩=some (u135000)) (ds:=[8]) [(0,13),(2,15),(3,16),(1,14),(4,0),(5,0),(6,0),(7,20),(8,0)] D3 rfl spec_l1Cur_matrix.tab4 spec_l1Cur_matrix.bits4 (yk BK134 0) (fun hHeld HT_ HW_=>?_)
    generalize wr.drew=w12 at HO_135000 BK133 BK134 HI0 HK HB hHeld ⊢
    refine rR ?_
    refine rO (N:=some 17) HT_ rfl rfl D3 D24 (fun K hK=>?_)
    refine goes_ Try.func162 D3 rfl #[.pointer (some ⟨g,0,none⟩), .int .i64 a2] D35 rfl rfl D27 ?_
    with_reducible refine (spec_l1Cur_vector.calls k1 g s0_0 x1001_1 x1002_1 a2 t135 t138 t139 w0 _ ?side1 ?side2 A10.out).mono ?_
    (case side1=>repeat (first|(with_reducible first|exact HI0.out|apply IsS180.alloc|apply IsS180.drewN|apply IsS180.drew|apply IsS180.set_1|apply IsS180.set_2|refine IsS180.far ?_ NB0_133.out _|refine IsS180.far ?_ NB0_134.out _)|exact HI0.out))
    (case side2=>repeat (first|(with_reducible first|exact HB.out|apply pa|apply pb|apply pd|refine pt ?_ (IsS180.ge HI0.out)|refine pt ?_ GE133.out|refine pt ?_ GE134.out)|exact HB.out))
    rintro e w13 ⟨v136,rfl,ho0,hi,hb,hk⟩
    refine ⟨_,rfl,?_⟩
    replace HO_135000:=am (Kd.S_mono (Kd.S_told (Kd.S_oldK (IsS180.apartS (show IsS180 w0 _ g s0_0 x1001_1 x1002_1 from by repeat (first|(with_reducible first|exact HI0.out|apply IsS180.alloc|apply IsS180.drewN|apply IsS180.drew|apply IsS180.set_1|apply IsS180.set_2|refine IsS180.far ?_ NB0_133.out _|refine IsS180.far ?_ NB0_134.out _)|exact HI0.out)) (yS HO_135000) D24) hk) (Kd.R_base ho0)) (fun _ h_=>h_.1))
    replace BK133:=am (KeepBut.blk hk (g':=gb133) (o:=.cells #[.slice none 0 0] 43 (0,0)) (yB BK133) NB133_0.out D52)
    replace BK134:=am (KeepBut.blk hk (g':=gb134) (o:=.cells #[u135000] 43 (0,0)) (yB BK134) NB134_0.out D52)
    have HO137:=am (Kd.R_lower ho0 (keep_size (w:=w) (g:=g) (row:=none) D6))
    replace HK:=am (KeepBut.trans D6 hk (.inl rfl))
    replace HB:=am (hb)
    replace HI0:=am (hi)
    (try clear hb)
    (try clear hb2)
    (try clear hk)
    (try clear hi)
    (try clear ho0)
    obtain ⟨Ao15,co15,eo15⟩:=Kd.R_slice HO137.out
    (first|subst eo15|(injection eo15 with f1_ f2_ f3_;have f4_:=f1_.symm;have f5_:=f3_.symm;clear f1_ f2_ f3_;subst f4_;subst f5_))
    refine hK.out _ _ (yk BK134 0) (fun hHeld=>?_)
    clear hK K
    refine rN (nA 17) ?_
    refine rO (N:=some 18) HT_ rfl rfl D3 D24 (fun K hK=>?_)
    refine value_ (w1:=?_) (v:=?_) D35 rfl ?_ ?_
    rotate_left 2
    ·go_simp
     constructor
     ·rfl
     rfl
    refine hK.out _ _ ((blk_cell (qa BK134.out _) 0).trans rfl) (fun hHeld=>?_)
    clear hK K
    refine rN (nA 18) ?_
    refine rO (N:=some 19) HT_ rfl rfl D3 D24 (fun K hK=>?_)
    refine Kd.S_append_step (Kd.slice 5 (Kd.int .u8)) w.heap.size D35 (.tmp 14) (.tmp 18) 37 57 (.slice none 0 0) 24 rfl Try.underlying37 info57 rfl D24 D23 u135000 x135000_1 t135 [.slice Ao15 t135.length co15] (fun _=>True) (fun k_=>some k_=(.slice Ao15 t135.length co15:Value).ownBlock) rfl rfl ?aP (fun k_ hk_=>((Kd.R_mono (ok':=fun k_=>((fun _=>True)) k_∧some k_ ≠ (u135000:Value).ownBlock) (Kd.R_apart' (HO137.out) (Kd.S_typed HO_135000.out) D24) (fun k_ hk=>⟨trivial,hk.2⟩))).1 k_ hk_.symm) ?aF ?aO (Below.refl _ _) ?aS ?aL ?_
    (case aP=>exact Kd.M_row (Kd.R_mono (Kd.R_tight rfl (Kd.R_mono (ok':=fun k_=>((fun _=>True)) k_∧some k_ ≠ (u135000:Value).ownBlock) (Kd.R_apart' (HO137.out) (Kd.S_typed HO_135000.out) D24) (fun k_ hk=>⟨trivial,hk.2⟩))) (fun _ h_=>h_)))
    (case aF=>exact (fun _ _=>trivial))
    (case aO=>exact (by refine sS ?_;exact Kd.S_mono HO_135000.out (fun k_ hk=>⟨trivial,fun e_=>hk.2 e_⟩)))
    (case aS=>exact (keep_size (w:=w) (g:=g) (row:=none) D6))
    (case aL=>have:=LMc11.out;omega)
    intro v141 w14 ho hb hg hat
    rw [← Ny140.out] at ho
    have n0_:=am (blk_grown (g:=gb133) (o:=.cells #[.slice none 0 0] 43 (0,0)) (yB BK133) hg (Kd.S_ne HO_135000.out BK133.out D24))
    have n1_:=am (blk_grown (g:=gb134) (o:=.cells #[u135000] 43 (0,0)) (yB BK134) hg (Kd.S_ne HO_135000.out BK134.out D24))
    have n2_:=am (IsS180.grown D7 hg (IsS180.own_neS HI0.out HO_135000.out D24))
    have n3_:=am (below_weaken D22 HL.out hb)
    have n4_:=am (KeepBut.trans D6 (KeepBut.of_grown hg g) (Kd.S_base2 HO_135000.out))
    have n5_:=am (ho)
    clear BK133
    clear BK134
    clear HI0
    clear HB
    clear HK
    clear HO_135000
    clear HO137
    have BK133:=n0_
    have BK134:=n1_
    have HI0:=n2_
    have HB:=n3_
    have HK:=n4_
    have HO142:=n5_
    clear n0_ n1_ n2_ n3_ n4_ n5_
    clear ho hb hg hat
    obtain ⟨Ao16,co16,eo16⟩:=Kd.S_slice HO142.out
    (first|subst eo16|(injection eo16 with f1_ f2_ f3_;have f4_:=f1_.symm;have f5_:=f3_.symm;clear f1_ f2_ f3_;subst f4_;subst f5_))
    refine hK.out _ _ (yk BK134 0) (fun hHeld=>?_)
    clear hK K
    refine rN (nA 19) ?_
    refine rR ?_
    refine rL (N:=none) HT_ rfl rfl D3 D24 (fun K hK=>?_)
    have hs17:w14.cell? ⟨gb134,0,none⟩=some (u135000):=(blk_cell BK134.out 0).trans rfl
    have hfs17:=blk_frozen BK134.out 0
    have hns17_0:=NB133_134.out
    have hms17_0:=NB134_133.out
    refine skip_ (w1:=?_) D35 rfl ?_ ?_
    rotate_left
    ·go_simp
     rfl
    refine hK.out _ _ ?_
    clear hK K
    refine rD HT_ D3 ?_
    try go_wp2
    go_roundg k1
    case measure=>have:=HK1.out;omega
    case rel=>exact ⟨(wrap64 (x1_1 - 1)),(t138),(t139),(y140),(.slice Ao16 y140.length co16),D2,H',⟨D50⟩,⟨by refine sS ?_;exact Kd.S_mono (Kd.S_far (p:=⟨gb134,0,none⟩) (Kd.S_types HO142.out BK134.out D24) (fun _ hk=>hk.2) (.slice Ao16 y140.length co16)) (fun _ hk=>trivial)⟩,⟨yF BK133⟩,⟨by refine sB ?_;refine blk_put (cs:=#[u135000]) ?_ 0 _ rfl;exact yB BK134⟩,⟨D7⟩,⟨D6⟩,⟨D22⟩⟩
   rw [if_neg c9] at H
   have c9b0:decide (0 < x1_1)=false:=decide_eq_false c9
   clear c9
   have HC18:=am H
   clear H
   go_upto_region 5 with (fail)
   go_cut [28] (fun v28 wc=>∃ (kq:Nat) (x28_17:Bool) (x1001_17:Int) (x1002_17:Int),v28 = .bool x28_17∧Aside0 (spec_l1Cur_matrix.j1 kq x28_17 s0_0 x1001_17 x1002_17 x135000_1=some (r1,r2,r3))∧Aside0 (kq≤k1)∧Aside0 (Kd.S (Kd.slice 5 (Kd.int .u8)) 57 wc w.heap.size (fun _=>True) u135000 x135000_1)∧Aside0 (wc.heap[gb133]? = some (.cells #[(.slice none 0 0)] 43 (0,0)))∧Aside0 (wc.heap[gb134]? = some (.cells #[u135000] 43 (0,0)))∧Aside0 (IsS180 w0 wc g s0_0 x1001_17 x1002_17)∧Aside0 (KeepBut w wc g none)∧Aside0 (Below w0.heap.size w0 wc))
   case first =>
    have H:=HC18.out
    clear HC18
    by_cases c19:(x135000_1.length:Int) > 1
    ·rw [if_pos c19] at H
     have c19b0:decide (1 < (x135000_1.length:Int))=true:=decide_eq_true c19
     have c19b1:decide (1 < x135000_1.length)=true:=decide_eq_true D23
     clear c19
     (first|rw [c19b0]|(simp only [i64_w,i32_w];rw [c19b0])|skip)
     obtain ⟨⟨t143,t144,t145⟩,A20,H⟩:=yo H
     try dsimp only at H
     have H':=am H
     clear H
     have hnb21:=NB134_133.out
     have hnc21:=NB133_134.out
     have hnb22:=NB134_0.out
     have hnc22:=NB0_134.out
     obtain ⟨hcz23_0,hfz23_0⟩:=yk1 BK134
     obtain ⟨Ao24,co24,eo24⟩:=Kd.S_slice HO_135000.out
     subst eo24
     go_wp2_with (first|(go_at_call 160;(with_reducible refine (spec_l1Cur_one.calls g s0_0 x1001_1 x1002_1 6 t143 t144 t145 w0 _ D7 D22 A20.out).mono ?_);rintro e w25 ⟨rfl,hi,hb,hk⟩;replace HO_135000:=am (Kd.S_mono (Kd.S_keep (IsS180.apartS (show IsS180 w0 _ g s0_0 x1001_1 x1002_1 from by repeat (first|(with_reducible first|exact HI0.out|apply IsS180.alloc|apply IsS180.drewN|apply IsS180.drew|apply IsS180.set_1|apply IsS180.set_2|refine IsS180.far ?_ NB0_133.out _|refine IsS180.far ?_ NB0_134.out _)|exact HI0.out)) (yS HO_135000) D24) hk (fun _ h=>h.2)) (fun _ h=>h.1));replace BK133:=am (KeepBut.blk hk (g':=gb133) (o:=.cells #[.slice none 0 0] 43 (0,0)) (yB BK133) NB133_0.out D52);replace BK134:=am (KeepBut.blk hk (g':=gb134) (o:=.cells #[.slice Ao24 x135000_1.length co24] 43 (0,0)) (yB BK134) NB134_0.out D52);replace HK:=am (KeepBut.trans D6 hk (.inl rfl));replace HB:=am (hb);replace HI0:=am (hi);clear hb hk hi))
     go_meet
     case rel=>exact ⟨_,(t143),(t144),(t145),D2,H',⟨by have:=HK1.out;first|omega|exact Nat.le_refl _⟩,⟨yS HO_135000⟩,⟨yB BK133⟩,⟨yB BK134⟩,⟨D7⟩,⟨D6⟩,⟨D22⟩⟩
    rw [if_neg c19] at H
    have c19b0:decide (1 < (x135000_1.length:Int))=false:=decide_eq_false c19
    have c19b1:decide (1 < x135000_1.length)=false:=decide_eq_false D23
    clear c19
    (first|rw [c19b0]|(simp only [i64_w,i32_w];rw [c19b0])|skip)
    have H':=am H
    clear H
    have hnb26:=NB134_133.out
    have hnc26:=NB133_134.out
    have hnb27:=NB134_0.out
    have hnc27:=NB0_134.out
    obtain ⟨hcz28_0,hfz28_0⟩:=yk1 BK134
    obtain ⟨Ao29,co29,eo29⟩:=Kd.S_slice HO_135000.out
    subst eo29
    go_wp2
    go_meet
    case rel=>exact ⟨_,(false),(x1001_1),(x1002_1),D2,H',⟨by have:=HK1.out;first|omega|exact Nat.le_refl _⟩,⟨yS HO_135000⟩,⟨yB BK133⟩,⟨yB BK134⟩,⟨D7⟩,⟨D6⟩,⟨D22⟩⟩
   case rest =>
    clear HC18
    try clear c1
    try clear c2
    try clear p2
    try clear c6
    try clear p6
    try clear c7
    try clear c9
    try clear c9b0
    try clear c10
    try clear c11
    try clear c19
    try clear c19b0
    try clear c19b1
    try clear c21
    try clear c22
    try clear c26
    try clear c27
    try clear hcz23_0
    try clear hcz28_0
    try clear hcz8_0
    try clear hfz23_0
    try clear hfz28_0
    try clear hfz8_0
    try clear p2
    obtain ⟨kq,x28_17,x1001_17,x1002_17,rfl,HA,HJ17,HO_135000,BK133,BK134,HI0,HK,HB⟩:=hcut
    cases kq with
    | zero=>exact absurd HA.out (by simp [spec_l1Cur_matrix.j1])
    | succ kj17 =>
     have H:=HA.out
     clear HA
     simp only [spec_l1Cur_matrix.j1] at H
     have HC30:=am H
     clear H
     go_upto_if 28 with (fail)
     go_cut [] (fun wc=>∃ (kq:Nat) (x135000_29:List (List Int)) (u135000:Value),Aside0 (spec_l1Cur_matrix.j2 kq s0_0 x1001_17 x1002_17 x135000_29=some (r1,r2,r3))∧Aside0 (kq≤kj17)∧Aside0 (Kd.S (Kd.slice 5 (Kd.int .u8)) 57 wc w.heap.size (fun _=>True) u135000 x135000_29)∧Aside0 (wc.heap[gb133]? = some (.cells #[(.slice none 0 0)] 43 (0,0)))∧Aside0 (wc.heap[gb134]? = some (.cells #[u135000] 43 (0,0)))∧Aside0 (IsS180 w0 wc g s0_0 x1001_17 x1002_17)∧Aside0 (KeepBut w wc g none)∧Aside0 (Below w0.heap.size w0 wc))
     case first =>
      have H:=HC30.out
      clear HC30
      by_cases c31:x28_17=true
      ·subst c31
       replace H:=yt H
       obtain ⟨y146,hy146,H⟩:=ys H
       have Ny146:=am hy146
       clear hy146
       obtain ⟨c32,H⟩:=yi H
       have c32b0:=decide_eq_true c32
       have c32b1:decide (1 < x135000_1.length)=true:=decide_eq_true D23
       clear c32
       (first|rw [c32b0]|(simp only [i64_w,i32_w];rw [c32b0])|skip)
       obtain ⟨c33,H⟩:=yi H
       have LMc33:=am c33
       clear c33
       generalize hy150:(y146 ++ (rd_L1 x135000_1 1):List Int)=y150 at H
       have Ny150:=am hy150.symm
       clear hy150
       obtain ⟨c34,H⟩:=yi H
       have c34b0:=decide_eq_true c34
       have c34b1:decide (0 < x135000_1.length)=true:=decide_eq_true D23
       clear c34
       generalize hy153:(x135000_1.set (0:Int).toNat y150:List (List Int))=y153 at H
       have Ny153:=am hy153.symm
       clear hy153
       have H':=am H
       clear H
       have hnb36:=NB134_133.out
       have hnc36:=NB133_134.out
       have hnb37:=NB134_0.out
       have hnc37:=NB0_134.out
       obtain ⟨hcz38_0,hfz38_0⟩:=yk1 BK134
       go_wp2_with (fail)
       replace HO_135000:=am (Kd.S_drew HO_135000.out)
       replace BK133:=am (qd BK133.out)
       replace BK134:=am (qd BK134.out)
       replace HI0:=am (IsS180.drew HI0.out)
       replace HK:=am (keep_drew HK.out)
       replace HB:=am (pd HB.out)
       obtain ⟨Ao42,co42,eo42⟩:=Kd.S_slice HO_135000.out
       subst eo42
       have p149:0≤(1:Int):=D23
       have q149:1 < (x135000_1.length:Int):=od D1
       obtain ⟨ad149,A149_0,c149_0,e149,hx149_0,hl149_0,hi149_0⟩:=at_L1 (Kd.S_reads' HO_135000.out).2.2 1 p149 q149
       cases e149
       obtain ⟨ce149,hce149,hMe149,hcc149⟩:=Kd.S_get HO_135000.out [] 1 p149 (by first|exact q149|exact od D1|(have e_:=(Kd.S_reads' HO_135000.out).1;omega))
       obtain ⟨ve149_0,rfl,ge149_0⟩:=hMe149
       have hv149_0:=hcc149 0 _ rfl
       rw [Nat.add_zero,show ((Kd.slice 5 (Kd.int .u8))).sz=1 from rfl,Nat.mul_one] at hv149_0
       replace hv149_0:=Option.some.inj (hv149_0.symm.trans hx149_0)
       rw [hv149_0] at ge149_0
       have HL149_0:=am (show Kd.R (Kd.int .u8) 5 _ _ _ _ (rd_L1 x135000_1 1) from ge149_0)
       clear hv149_0 ge149_0
       have HX149_0:=am hx149_0
       clear hcc149 hce149
       have qi149:(1 < x135000_1.length)=True:=eq_true D23
       (try rw [show ((1:Int)).toNat=1 from rfl] at hx149_0)
       have HR149_0:=am hi149_0
       have HC149_0:=am hl149_0
       clear hi149_0 hl149_0
       replace p149:=eq_true p149
       replace q149:=eq_true q149
       have qz_:(0 < x135000_1.length)=True:=eq_true (by have h_:(1:Int) < (x135000_1.length:Int):=of_eq_true q149;omega)
       obtain ⟨go35,co35,eo35,gb35,gl35,cl35,HG35⟩:=Kd.S_form HO_135000.out (by have h_:=of_eq_true qz_;omega)
       (first|cases eo35|(injection eo35 with ea_ en_ ec_;(first|subst ea_|(injection ea_ with ea_;subst ea_));subst ec_;clear en_))
       have GB35:=am gb35
       have GG35:=am HG35
       clear gb35 gl35 HG35
       (first|simp only [add_plain] at hx149_0|skip)
       (try simp only [Nat.zero_add] at hx149_0)
       refine KitR.rS (n:=10) (B:=[0,0,0,0,0,0,0,0,0,511]) (S:=fun w'=>w'.cell? ⟨gb134,0,none⟩=some (.slice (some ⟨go35,0,none⟩) x135000_1.length co42)∧w'.cell? ⟨go35,1,none⟩=some (.slice A149_0 (rd_L1 x135000_1 1).length c149_0)) (ds:=[9]) [(0,29),(1,30),(3,32),(4,33),(5,34),(6,35),(2,0),(7,0),(8,37),(9,0)] D3 rfl rfl D3 ⟨yk BK134 0,hx149_0⟩ (fun hHeld HT_ HW_=>?_)
       generalize hwd_:wc.drew=wd_
       rw [hwd_] at hHeld
       rw [hwd_] at HO_135000
       rw [hwd_] at BK133
       rw [hwd_] at BK134
       rw [hwd_] at HI0
       rw [hwd_] at HK
       rw [hwd_] at HB
       rw [hwd_] at HL149_0
       rw [hwd_] at HR149_0
       refine KitR.rR ?_
       refine KitR.rO (N:=some 31) HT_ rfl rfl D3 D24 (fun K hK=>?_)
       refine Kd.R_lit_step (Kd.int .u8) _ 5 D35 (N:=31) rfl (xs:=([]:List Int)) (inner:=[]) (ok:=fun _=>True) (okp:=fun _=>True) ?hr ?hp (fun _ hk=>hk) trivial (Below.refl _ _) (Nat.le_refl _) D52 ?_
       (case hr=>first|(go_simp;done)|(go_simp;rfl))
       (case hp=>exact (Reps.none _ _))
       intro v147 w39 ho40 hb hg_ hnew_
       clear hg_ hnew_
       (first|rw [← Ny146.out] at ho40|(simp only [Int.reduceToNat] at ho40;rw [← Ny146.out] at ho40))
       replace HO_135000:=eS HO_135000 (Kd.R_base ho40) hb
       have HO148:=am (Kd.R_lower ho40 (keep_size (w:=w) (g:=g) (row:=none) D6))
       replace BK133:=yb BK133 hb
       replace BK134:=yb BK134 hb
       replace HK:=am (KeepBut.trans D6 (KeepBut.of_below hb g none) (.inl rfl))
       replace HB:=am (pu D22 hb)
       replace HI0:=am (IsS180.below D7 hb)
       have nl_:=eR HL149_0 (Kd.R_base ho40) hb
       clear HL149_0
       have HL149_0:=nl_
       clear nl_
       have nr_:=am (Kd.C_below HR149_0.out hb)
       clear HR149_0
       have HR149_0:=nr_
       clear nr_
       refine hK.out _ _ ⟨pw_cell_below hb hHeld.1,pw_cell_below hb hHeld.2⟩ (fun hHeld=>?_)
       clear hK K
       clear hb ho40
       refine KitR.rN (a':=?_) ?_ ?_
       rotate_left
       ·show Act.put _ (some 31) _=_
        simp only [Act.put,q1,q2,q3,i64_w,i32_w]
        rfl
       obtain ⟨_,hty_⟩:=Kd.S_typed HO_135000.out go35 rfl
       have hne_:=Kd.R_ne HO148.out hty_ D24
       clear hty_
       refine KitR.rO (N:=some 36) HT_ rfl rfl D3 D24 (fun K hK=>?_)
       refine Kd.R_append_rows_step (Kd.int .u8) w.heap.size D35 (.tmp 31) (.tmp 35) 57 5 (.int .u8 0) 1 rfl Try.underlying57 info5 rfl D24 D23 v147 y146 (rd_L1 x135000_1 1) _ _ _ (fun _=>True) (fun _=>False) rfl rfl ?aO ?aR (fun _ _ h=>h) (fun _ h=>h.elim) ?aF (Below.refl _ _) ?aS ?aL ?_
       (case aR=>repeat (first|exact (by repeat (first|(with_reducible exact HR149_0.out)|(with_reducible refine Kd.C_alloc ?_ _)|(with_reducible refine Kd.C_drewN ?_ _)|(with_reducible refine Kd.C_drew ?_)|exact HR149_0.out))|(with_reducible refine Kd.C_alloc ?_ _)|(with_reducible refine Kd.C_drewN ?_ _)|(with_reducible refine Kd.C_drew ?_)))
       (case aF=>exact (fun _ _=>trivial))
       (case aO=>exact (yR HO148))
       (case aS=>exact (keep_size (w:=w) (g:=g) (row:=none) D6))
       (case aL=>have:=LMc33.out;omega)
       intro v151 w43 ho hb hg hat
       have HS1_:=cell_grown hg hHeld.1 (Kd.R_ne HO148.out BK134.out D24)
       have HS2_:=cell_grown hg hHeld.2 hne_
       rw [← Ny150.out] at ho
       have n0_:=am (Kd.S_after (ok:=(fun _=>True)) (yS HO_135000) hg hat)
       have n1_:=am (blk_grown (g:=gb133) (o:=.cells #[.slice none 0 0] 43 (0,0)) (yB BK133) hg (Kd.R_ne HO148.out BK133.out D24))
       have n2_:=am (blk_grown (g:=gb134) (o:=.cells #[.slice (some ⟨go35,0,none⟩) x135000_1.length co42] 43 (0,0)) (yB BK134) hg (Kd.R_ne HO148.out BK134.out D24))
       have n3_:=am (IsS180.grown D7 hg (IsS180.own_ne HI0.out HO148.out D24))
       have n4_:=am (Kd.R_after (ok:=(fun k_=>some k_ ≠ (.slice (some ⟨go35,0,none⟩) x135000_1.length co42:Value).ownBlock)) (by refine sR ?_;exact Kd.R_mono HL149_0.out (fun _ hk=>⟨hk.1.2,hk.2⟩)) hg hat)
       have n5_:=am (below_weaken D22 HL.out hb)
       have n6_:=am (KeepBut.trans D6 (KeepBut.of_grown hg g) (Kd.R_base2 HO148.out))
       have n7_:=am (ho)
       clear HO_135000
       clear BK133
       clear BK134
       clear HI0
       clear HL149_0
       clear HB
       clear HK
       clear HO148
       have HO_135000:=n0_
       have BK133:=n1_
       have BK134:=n2_
       have HI0:=n3_
       have HL149_0:=n4_
       have HB:=n5_
       have HK:=n6_
       have HO152:=n7_
       clear n0_ n1_ n2_ n3_ n4_ n5_ n6_ n7_
       clear ho hb hg hat
       refine hK.out _ _ ⟨HS1_,HS2_⟩ (fun hHeld=>?_)
       clear hK K hne_ HS1_ HS2_
       refine KitR.rN (a':=?_) ?_ ?_
       rotate_left
       ·show Act.put _ (some 36) _=_
        simp only [Act.put,q1,q2,q3,i64_w,i32_w]
        rfl
       refine KitR.rR ?_
       obtain ⟨Az_,cz_,ez_⟩:=Kd.R_slice HO152.out
       subst ez_
       have p35:0≤(0:Int):=D23
       have q35:(0:Int) < ((x135000_1.length:Int):Int):=od D1
       obtain ⟨_,ce35,hcl35,hM35,hcc35,hfr35,_,_⟩:=Kd.S_elem HO_135000.out [] (0:Int) p35 q35
       obtain ⟨ve35_0,rfl,ge35_0⟩:=hM35
       have hx35_0:=hcc35 0 _ rfl
       have hf35_0:=hfr35 0
       (try simp only [show ((Kd.slice 5 (Kd.int .u8))).sz=1 from rfl,Nat.mul_one,Nat.add_zero] at hx35_0)
       (try simp only [show ((Kd.slice 5 (Kd.int .u8))).sz=1 from rfl,Nat.mul_one,Nat.add_zero] at hf35_0)
       clear hcl35 hcc35 hfr35
       (try clear hM35)
       (try rw [show ((0:Int)).toNat=0 from rfl] at hx35_0)
       (try simp only [Nat.reduceMul,Nat.zero_mul,Nat.zero_add,Nat.reduceAdd] at hx35_0)
       (try rw [show ((0:Int)).toNat=0 from rfl] at hf35_0)
       (try simp only [Nat.reduceMul,Nat.zero_mul,Nat.zero_add,Nat.reduceAdd] at hf35_0)
       replace p35:=eq_true p35
       replace q35:=eq_true q35
       have n_:=am (Kd.S_mono (ok':=(fun k_=>some k_ ≠ ((.slice Az_ y150.length cz_):Value).ownBlock)) HO_135000.out (fun k_ hk=>hk.2))
       clear HO_135000
       have HO_135000:=n_
       clear n_
       have HX44:=am (show Kd.S (Kd.slice 5 (Kd.int .u8)) 57 w43 w.heap.size (fun k_=>((fun _=>True)) k_∧¬ ((fun k_=>some k_=((.slice Az_ y150.length cz_):Value).ownBlock)) k_) (.slice (some ⟨go35,0,none⟩) x135000_1.length co42) x135000_1 from (by refine sS ?_;exact Kd.S_mono HO_135000.out (fun k_ hk=>⟨trivial,fun e_=>hk e_⟩)))
       obtain ⟨oki44,ce44,hcl44,hM44,hcc44,hfr44,hoki44,hH44⟩:=Kd.S_elem HX44.out [] (0:Int) D23 (by have h_:(0:Int) < ((x135000_1.length:Int):Int):=od D1;first|exact h_|(have e_:=(Kd.S_reads' HO_135000.out).1;omega)|simpa using h_)
       obtain ⟨ve44_0,rfl,ge44_0⟩:=hM44
       have HP44:=Kd.S_seg hH44 D23 (by have h_:(0:Int) < ((x135000_1.length:Int):Int):=od D1;first|exact h_|(have e_:=(Kd.S_reads' HO_135000.out).1;omega)|simpa using h_) (seg:=[(.slice Az_ y150.length cz_)]) (j:=0) (show 1≤1 from by decide) (x':=y150) (Kd.M_row (Kd.R_mono (Kd.R_tight rfl (Kd.R_mono (ok':=fun k_=>((fun _=>True)) k_∧k_ ≠ go35) (Kd.R_apart' (HO152.out) (Kd.S_typed HO_135000.out) D24) (fun k_ hk=>⟨trivial,fun e_=>(hk.2) (by rw [e_];rfl)⟩))) (fun _ h_=>Or.inr (h_)))) (fun _ hk=>hk) (fun k_ hk_=>((Kd.R_mono (ok':=fun k_=>((fun _=>True)) k_∧k_ ≠ go35) (Kd.R_apart' (HO152.out) (Kd.S_typed HO_135000.out) D24) (fun k_ hk=>⟨trivial,fun e_=>(hk.2) (by rw [e_];rfl)⟩))).1 k_ hk_.symm)
       have hx44_0:=hcc44 0 _ rfl
       (try simp only [show ((Kd.slice 5 (Kd.int .u8))).sz=1 from rfl,Nat.mul_one,Nat.add_zero] at hx44_0)
       (try rw [show ((0:Int)).toNat=0 from rfl] at hx44_0)
       (try simp only [Nat.reduceMul,Nat.zero_mul,Nat.zero_add,Nat.reduceAdd] at hx44_0)
       have hf44_0:=hfr44 0
       (try simp only [show ((Kd.slice 5 (Kd.int .u8))).sz=1 from rfl,Nat.mul_one,Nat.add_zero] at hf44_0)
       (try rw [show ((0:Int)).toNat=0 from rfl] at hf44_0)
       (try simp only [Nat.reduceMul,Nat.zero_mul,Nat.zero_add,Nat.reduceAdd] at hf44_0)
       clear hcl44 hcc44 hfr44 hoki44 hH44
       (try clear hM44)
       (try simp only [show ((Kd.slice 5 (Kd.int .u8))).sz=1 from rfl,Nat.mul_one,Nat.add_zero] at HP44)
       refine KitR.rL (N:=none) HT_ rfl rfl D3 D24 (fun K hK=>?_)
       refine skip_ (w1:=?_) D35 rfl ?_ ?_
       rotate_left
       ·go_simp
        rfl
       refine hK.out _ _ ?_
       clear hK K
       refine KitR.rD HT_ D3 ?_
       clear hHeld
       obtain ⟨w45,hw⟩:∃ W_:World,W_=(w43.setCell ⟨go35,0,none⟩ (.slice Az_ y150.length cz_)):=⟨_,rfl⟩
       rw [← hw]
       have hg:w43.grownBy w45 (some go35):=(by rw [hw];exact HP44.2)
       have hp_:Kd.S (Kd.slice 5 (Kd.int .u8)) 57 w45 w.heap.size (fun _=>True) (.slice (some ⟨go35,0,none⟩) x135000_1.length co42) y153:=(by rw [hw,Ny153.out];exact HP44.1)
       clear HP44
       have n0_:=am (hp_)
       have n1_:=am (blk_grown (g:=gb133) (o:=.cells #[.slice none 0 0] 43 (0,0)) (yB BK133) hg (Kd.S_ne HO_135000.out BK133.out D24))
       have n2_:=am (blk_grown (g:=gb134) (o:=.cells #[.slice (some ⟨go35,0,none⟩) x135000_1.length co42] 43 (0,0)) (yB BK134) hg (Kd.S_ne HO_135000.out BK134.out D24))
       have n3_:=am (IsS180.grown D7 hg (IsS180.own_neS HI0.out HO_135000.out D24))
       have n4_:=am (Kd.R_after (v:=(.slice (some ⟨go35,0,none⟩) x135000_1.length co42)) (v1:=(.slice (some ⟨go35,0,none⟩) x135000_1.length co42)) (ok:=(fun k_=>some k_ ≠ ((.slice Az_ y150.length cz_):Value).ownBlock)) (by refine sR ?_;exact Kd.R_mono HL149_0.out (fun _ hk=>⟨hk.2,hk.1⟩)) hg (.inl rfl))
       have n5_:=am ((by rw [hw];exact pt (HB.out) (Nat.le_trans HL.out GB35.out):Below w0.heap.size w0 w45))
       have n6_:=am (KeepBut.trans D6 (KeepBut.of_grown hg g) (Kd.S_base2 HO_135000.out))
       clear HO_135000
       clear BK133
       clear BK134
       clear HI0
       clear HL149_0
       clear HB
       clear HK
       clear HO152
       have HO_135000:=n0_
       have BK133:=n1_
       have BK134:=n2_
       have HI0:=n3_
       have HL149_0:=n4_
       have HB:=n5_
       have HK:=n6_
       clear n0_ n1_ n2_ n3_ n4_ n5_ n6_
       clear hg hw hp_
       try go_wp2
       go_meet
       case rel=>exact ⟨_,(y153),(.slice (some ⟨go35,0,none⟩) x135000_1.length co42),H',⟨by have:=HK1.out;have:=HJ17.out;first|omega|exact Nat.le_refl _⟩,⟨yS HO_135000⟩,⟨yB BK133⟩,⟨yB BK134⟩,⟨D7⟩,⟨D6⟩,⟨D22⟩⟩
      replace c31:=Bool.eq_false_iff.mpr c31
      subst c31
      replace H:=yn H
      have H':=am H
      clear H
      go_wp2
      go_meet
      case rel=>exact ⟨_,(x135000_1),(u135000),H',⟨by have:=HK1.out;have:=HJ17.out;first|omega|exact Nat.le_refl _⟩,⟨yS HO_135000⟩,⟨yB BK133⟩,⟨yB BK134⟩,⟨D7⟩,⟨D6⟩,⟨D22⟩⟩
     case rest =>
      clear HC30
      try clear c1
      try clear p1
      try clear q1
      try clear hx1
      try clear qi1
      try clear c2
      try clear p2
      try clear c3
      try clear p3
      try clear q3
      try clear hx3
      try clear qi3
      try clear hf3
      try clear c4
      try clear hx4
      try clear hf4
      try clear c6
      try clear p6
      try clear c7
      try clear c9
      try clear c9b0
      try clear c10
      try clear c11
      try clear c14
      try clear p14
      try clear q14
      try clear hx14
      try clear qi14
      try clear c19
      try clear c19b0
      try clear c19b1
      try clear c21
      try clear c22
      try clear c26
      try clear c27
      try clear c31
      try clear c32
      try clear c32b0
      try clear c32b1
      try clear c33
      try clear c34
      try clear c34b0
      try clear c34b1
      try clear c35
      try clear p35
      try clear q35
      try clear hx35
      try clear qi35
      try clear hf35
      try clear c36
      try clear c37
      try clear c44
      try clear hx44
      try clear hf44
      try clear hcz23_0
      try clear hcz28_0
      try clear hcz38_0
      try clear hcz41_0
      try clear hcz8_0
      try clear hfz23_0
      try clear hfz28_0
      try clear hfz38_0
      try clear hfz41_0
      try clear hfz8_0
      try clear hx149_0
      try clear hx35_0
      try clear hx44_0
      try clear p149
      try clear p2
      try clear p35
      try clear p6
      try clear q149
      try clear q35
      obtain ⟨kq,x135000_29,u135000,HA,HJ29,HO_135000,BK133,BK134,HI0,HK,HB⟩:=hcut
      cases kq with
      | zero=>exact absurd HA.out (by simp [spec_l1Cur_matrix.j2])
      | succ kj29 =>
       have H:=HA.out
       clear HA
       simp only [spec_l1Cur_matrix.j2] at H
       by_cases c46:(x135000_29.length:Int) > 0
       ·rw [if_pos c46] at H
        have c46b0:decide (0 < (x135000_29.length:Int))=true:=decide_eq_true c46
        have c46b1:decide (0 < x135000_29.length)=true:=decide_eq_true D23
        clear c46
        obtain ⟨⟨t154,t155,t156⟩,A47,H⟩:=yo H
        try dsimp only at H
        by_cases c48:t154=true
        ·subst c48
         replace H:=yt H
         obtain ⟨c49,H⟩:=yi H
         have c49b0:=decide_eq_true c49
         have c49b1:decide (0 < x135000_29.length)=true:=decide_eq_true D23
         clear c49
         obtain ⟨c50,H⟩:=yi H
         have LMc50:=am c50
         clear c50
         generalize hy158:((rd_L1 x135000_29 0) ++ [1]:List Int)=y158 at H
         have Ny158:=am hy158.symm
         clear hy158
         generalize hy161:(x135000_29.set (0:Int).toNat y158:List (List Int))=y161 at H
         have Ny161:=am hy161.symm
         clear hy161
         simp only [Option.some.injEq,Prod.mk.injEq] at H
         obtain ⟨rfl,rfl,rfl⟩:=H
         have hnb52:=NB134_133.out
         have hnc52:=NB133_134.out
         have hnb53:=NB134_0.out
         have hnc53:=NB0_134.out
         obtain ⟨hcz54_0,hfz54_0⟩:=yk1 BK134
         obtain ⟨Ao55,co55,eo55⟩:=Kd.S_slice HO_135000.out
         subst eo55
         try go_wp2_with (first|(go_at_call 160;(with_reducible refine (spec_l1Cur_one.calls g s0_0 x1001_17 x1002_17 40 true t155 t156 w0 _ D7 D22 A47.out).mono ?_);rintro e w56 ⟨rfl,hi,hb,hk⟩;replace HO_135000:=am (Kd.S_mono (Kd.S_keep (IsS180.apartS (show IsS180 w0 _ g s0_0 x1001_17 x1002_17 from by repeat (first|(with_reducible first|exact HI0.out|apply IsS180.alloc|apply IsS180.drewN|apply IsS180.drew|apply IsS180.set_1|apply IsS180.set_2|refine IsS180.far ?_ NB0_133.out _|refine IsS180.far ?_ NB0_134.out _)|exact HI0.out)) (yS HO_135000) D24) hk (fun _ h=>h.2)) (fun _ h=>h.1));replace BK133:=am (KeepBut.blk hk (g':=gb133) (o:=.cells #[.slice none 0 0] 43 (0,0)) (yB BK133) NB133_0.out D52);replace BK134:=am (KeepBut.blk hk (g':=gb134) (o:=.cells #[.slice Ao55 x135000_29.length co55] 43 (0,0)) (yB BK134) NB134_0.out D52);replace HK:=am (KeepBut.trans D6 hk (.inl rfl));replace HB:=am (hb);replace HI0:=am (hi);clear hb hk hi))
         replace HO_135000:=am (Kd.S_drew HO_135000.out)
         replace BK133:=am (qd BK133.out)
         replace BK134:=am (qd BK134.out)
         replace HI0:=am (IsS180.drew HI0.out)
         replace HK:=am (keep_drew HK.out)
         replace HB:=am (pd HB.out)
         have p157:0≤(0:Int):=D23
         have q157:0 < (x135000_29.length:Int):=od D1
         obtain ⟨ad157,A157_0,c157_0,e157,hx157_0,hl157_0,hi157_0⟩:=at_L1 (Kd.S_reads' HO_135000.out).2.2 0 p157 q157
         cases e157
         obtain ⟨ce157,hce157,hMe157,hcc157⟩:=Kd.S_get HO_135000.out [] 0 p157 (by first|exact q157|exact od D1|(have e_:=(Kd.S_reads' HO_135000.out).1;omega))
         obtain ⟨ve157_0,rfl,ge157_0⟩:=hMe157
         have hv157_0:=hcc157 0 _ rfl
         rw [Nat.add_zero,show ((Kd.slice 5 (Kd.int .u8))).sz=1 from rfl,Nat.mul_one] at hv157_0
         replace hv157_0:=Option.some.inj (hv157_0.symm.trans hx157_0)
         rw [hv157_0] at ge157_0
         have HL157_0:=am (show Kd.R (Kd.int .u8) 5 _ _ _ _ (rd_L1 x135000_29 0) from ge157_0)
         clear hv157_0 ge157_0
         have HX157_0:=am hx157_0
         clear hcc157 hce157
         have qi157:(0 < x135000_29.length)=True:=eq_true D23
         (try rw [show ((0:Int)).toNat=0 from rfl] at hx157_0)
         (try rw [Addr.add_zero'] at hx157_0)
         have HR157_0:=am hi157_0
         have HC157_0:=am hl157_0
         clear hi157_0 hl157_0
         replace p157:=eq_true p157
         replace q157:=eq_true q157
         obtain ⟨go58,co58,eo58,gb58,gl58,cl58,HG58⟩:=Kd.S_form HO_135000.out (by have h_:(0:Int) < ((x135000_29.length:Int):Int):=od D1;have h2_:0≤(0:Int):=D23;omega)
         (first|cases eo58|(injection eo58 with ea_ en_ ec_;(first|subst ea_|(injection ea_ with ea_;subst ea_));subst ec_;clear en_))
         have GB58:=am gb58
         have GG58:=am HG58
         clear gb58 gl58 HG58
         (first|simp only [add_plain] at hx157_0|skip)
         obtain ⟨oki58,ce58,hcl58,hM58,hcc58,_,_,hH58⟩:=Kd.S_elem HO_135000.out [] (0:Int) D23 (by have h_:(0:Int) < ((x135000_29.length:Int):Int):=od D1;first|exact h_|(have e_:=(Kd.S_reads' HO_135000.out).1;omega)|simpa using h_)
         obtain ⟨ve58_0,rfl,ge58_0⟩:=hM58
         have hv58:=hcc58 0 _ rfl
         have hX58:=HX157_0.out
         (try simp only [add_plain] at hX58)
         (try simp only [Nat.add_zero] at hv58)
         (try rw [show ((Kd.slice 5 (Kd.int .u8))).sz=1 from rfl,Nat.mul_one] at hv58)
         replace hv58:=Option.some.inj (hv58.symm.trans hX58)
         subst hv58
         clear hX58 hcc58 hcl58
         have UU58:=am (show Kd.R (Kd.int .u8) 5 _ w.heap.size oki58 (.slice A157_0 (rd_L1 x135000_29 0).length c157_0) (rd_L1 x135000_29 0) from ge58_0)
         have HH58:=am hH58
         have HN58:=am (Kd.S_reads' HO_135000.out).1
         clear hH58 ge58_0
         refine rS (n:=10) (S:=fun w'=>w'.cell? ⟨gb134,0,none⟩=some (.slice (some ⟨go58,0,none⟩) x135000_29.length co55)∧w'.cell? ⟨go58,0,none⟩=some (.slice A157_0 (rd_L1 x135000_29 0).length c157_0)) (ds:=[9]) [(0,46),(2,48),(1,47),(3,49),(4,50),(5,51),(6,0),(7,0),(8,54),(9,0)] D3 rfl spec_l1Cur_matrix.tab8 spec_l1Cur_matrix.bits8 ⟨yk BK134 0,hx157_0⟩ (fun hHeld HT_ HW_=>?_)
         generalize w56.drew=w57 at HO_135000 BK133 BK134 HI0 HK HB GG58 HH58 HL157_0 HR157_0 HX157_0 UU58 hx157_0 hHeld ⊢
         refine rR ?_
         refine rO (N:=some 52) HT_ rfl rfl D3 D24 (fun K hK=>?_)
         refine value_ (w1:=?_) (v:=?_) D35 rfl ?_ ?_
         rotate_left 2
         ·go_simp
          constructor
          ·rfl
          rfl
         refine hK.out _ _ ⟨(blk_cell (qa BK134.out _) 0).trans rfl,(World.cell?_alloc_lt _ _ _ (World.block_lt_of_cell? _ _ (hHeld.2))).trans (hHeld.2)⟩ (fun hHeld=>?_)
         clear hK K
         refine rN (nA 52) ?_
         refine rO (N:=some 53) HT_ rfl rfl D3 D24 (fun K hK=>?_)
         refine Kd.R_append_step (Kd.int .u8) w.heap.size D35 (.tmp 51) (.tmp 52) 57 5 (.int .u8 0) 1 rfl Try.underlying57 info5 rfl D24 D23 (.slice A157_0 (rd_L1 x135000_29 0).length c157_0) (rd_L1 x135000_29 0) 1 [.int .u8 1] (fun k_=>oki58 k_∨((fun _=>True)) k_∧w57.heap.size≤k_) (fun _=>False) rfl rfl ?aP (fun _ hk=>hk.elim) ?aF ?aO (Below.refl _ _) ?aS ?aL ?_
         (case aP=>exact rfl)
         (case aF=>exact (fun k_ hk=>.inr ⟨trivial,hk⟩))
         (case aO=>exact (by refine sR ?_;exact Kd.R_mono UU58.out (fun _ hk=>.inl hk)))
         (case aS=>exact (keep_size (w:=w) (g:=g) (row:=none) D6))
         (case aL=>have:=LMc50.out;omega)
         intro v159 w59 ho hb hg hat
         (first|have HS1_:=cell_grown hg (hHeld.2) D85|have HS1_:=cell_grown hg (cell_unalloc (hHeld.2) (by first|(rw [add_block];exact Kd.S_lt HO_135000.out _ rfl)|(show (Addr.add _ _).block < _;rw [add_block];exact Kd.S_lt HO_135000.out _ rfl)|exact Kd.S_lt HO_135000.out _ rfl)) D85)
         rw [← Ny158.out] at ho
         have n0_:=am (blk_grown (g:=gb133) (o:=.cells #[.slice none 0 0] 43 (0,0)) (yB BK133) hg (Kd.R_ne HL157_0.out BK133.out D24))
         have n1_:=am (blk_grown (g:=gb134) (o:=.cells #[.slice (some ⟨go58,0,none⟩) x135000_29.length co55] 43 (0,0)) (yB BK134) hg (Kd.R_ne HL157_0.out BK134.out D24))
         have n2_:=am (IsS180.grown D7 hg (IsS180.own_ne HI0.out HL157_0.out D24))
         have n3_:=am (below_weaken D22 HL.out hb)
         have n4_:=am (KeepBut.trans D6 (KeepBut.of_grown hg g) (Kd.R_base2 HL157_0.out))
         have n5_:=am (Kd.H_grown (Kd.H_widen (by repeat (first|exact HH58.out|refine Kd.H_alloc ?_ _|refine Kd.H_drewN ?_ _|refine Kd.H_drew ?_))) hg (fun k_ e_=>.inl (UU58.out.1 k_ e_)))
         have n6_:=am (ho)
         clear BK133
         clear BK134
         clear HI0
         clear HB
         clear HK
         clear HH58
         clear HO_135000
         clear UU58
         clear HL157_0
         have BK133:=n0_
         have BK134:=n1_
         have HI0:=n2_
         have HB:=n3_
         have HK:=n4_
         have HH58:=n5_
         have HO160:=n6_
         clear n0_ n1_ n2_ n3_ n4_ n5_ n6_
         clear ho hb hg hat
         have p51:0≤(0:Int):=D23
         have q51:(0:Int) < ((x135000_29.length:Int):Int):=od D1
         replace p51:=eq_true p51
         replace q51:=eq_true q51
         obtain ⟨Ao62,co62,eo62⟩:=Kd.R_slice HO160.out
         (first|subst eo62|(injection eo62 with f1_ f2_ f3_;have f4_:=f1_.symm;have f5_:=f3_.symm;clear f1_ f2_ f3_;subst f4_;subst f5_))
         obtain ⟨_,_,hraw60,_,_,hcc60,_⟩:=Kd.H_raw HH58.out D23 (by have h_:(0:Int) < ((x135000_29.length:Int):Int):=od D1;first|exact h_|(have e_:=(HN58.out);omega)|simpa using h_)
         obtain ⟨_,hfr60⟩:=Kd.H_at HH58.out D23 (by have h_:(0:Int) < ((x135000_29.length:Int):Int):=od D1;first|exact h_|(have e_:=(HN58.out);omega)|simpa using h_)
         have hx60_0:=hcc60 0 _ rfl
         have hf60_0:=hfr60 0
         (try simp only [Nat.add_zero] at hx60_0 hf60_0)
         (try rw [show ((Kd.slice 5 (Kd.int .u8))).sz=1 from rfl,Nat.mul_one] at hx60_0)
         (try rw [show ((Kd.slice 5 (Kd.int .u8))).sz=1 from rfl,Nat.mul_one] at hf60_0)
         (try rw [show ((0:Int)).toNat=0 from rfl] at hx60_0)
         (try simp only [Nat.reduceMul,Nat.zero_mul,Nat.zero_add,Nat.reduceAdd] at hx60_0)
         (try rw [show ((0:Int)).toNat=0 from rfl] at hf60_0)
         (try simp only [Nat.reduceMul,Nat.zero_mul,Nat.zero_add,Nat.reduceAdd] at hf60_0)
         have HP60:=Kd.S_seg0 HH58.out D23 (by have h_:(0:Int) < ((x135000_29.length:Int):Int):=od D1;first|exact h_|(have e_:=(HN58.out);omega)|simpa using h_) (seg:=[.slice Ao62 y158.length co62]) (j:=0) (show 1≤1 from by decide) (x':=y158) (Kd.M_row HO160.out) (fun _ hk=>hk)
         (try simp only [show ((Kd.slice 5 (Kd.int .u8))).sz=1 from rfl,Nat.mul_one,Nat.add_zero] at HP60)
         clear hcc60 hfr60
         have HN0_go58:=am (show g ≠ go58 from by have h_:=IsS180.own_ne HI0.out hraw60 D24;intro e_;exact h_ (by rw [e_];rfl))
         have HNB133_go58:=am (show gb133 ≠ go58 from by have h_:=Kd.R_ne hraw60 BK133.out D24;intro e_;exact h_ (by rw [e_];rfl))
         have HNB134_go58:=am (show gb134 ≠ go58 from by have h_:=Kd.R_ne hraw60 BK134.out D24;intro e_;exact h_ (by rw [e_];rfl))
         have HS60:=HP60.1
         rw [← Ny161.out] at HS60
         have HQ60:=am HS60
         obtain ⟨_,hgg60⟩:=Kd.R_typed hraw60 go58 rfl
         have GG60_:=am hgg60
         clear HP60 HS60 hgg60
         refine hK.out _ _ ⟨yk BK134 0,HS1_⟩ (fun hHeld=>?_)
         clear hK K
         refine rN (nA 53) ?_
         refine rR ?_
         refine rL (N:=none) HT_ rfl rfl D3 D24 (fun K hK=>?_)
         refine skip_ (w1:=?_) D35 rfl ?_ ?_
         rotate_left
         ·go_simp
          rfl
         refine hK.out _ _ ?_
         clear hK K
         refine rD HT_ D3 ?_
         generalize hw_:(w59.setCell ⟨go58,0,none⟩ (.slice Ao62 y158.length co62))=w63
         replace HO_135000:Aside0 (Kd.S (Kd.slice 5 (Kd.int .u8)) 57 w63 w.heap.size (fun _=>True) (.slice (some ⟨go58,0,none⟩) x135000_29.length co55) y161):=⟨by rw [← hw_];exact yS HQ60⟩
         replace BK133:Aside0 (w63.heap[gb133]? = some (.cells #[.slice none 0 0] 43 (0,0))):=⟨by rw [← hw_];refine sB ?_;refine blk_far ?_ HNB133_go58.out _;exact yB BK133⟩
         replace BK134:Aside0 (w63.heap[gb134]? = some (.cells #[.slice (some ⟨go58,0,none⟩) x135000_29.length co55] 43 (0,0))):=⟨by rw [← hw_];refine sB ?_;refine blk_far ?_ HNB134_go58.out _;exact yB BK134⟩
         replace HK:Aside0 (KeepBut w w63 g none):=⟨by rw [← hw_];repeat (first|(with_reducible first|exact HK.out|apply KeepBut.set_|apply keep_drewN|apply keep_drew|apply keep_alloc|refine keep_far ?_ GB58.out _|refine keep_far ?_ GW133.out _|refine keep_far ?_ GW134.out _)|exact HK.out)⟩
         replace HB:Aside0 (Below w0.heap.size w0 w63):=⟨by rw [← hw_];repeat (first|(with_reducible first|exact HB.out|apply pa|apply pb|apply pd|refine pt ?_ (Nat.le_trans HL.out GB58.out)|refine pt ?_ (IsS180.ge HI0.out)|refine pt ?_ GE133.out|refine pt ?_ GE134.out)|exact HB.out)⟩
         replace HI0:Aside0 (IsS180 w0 w63 g s0_0 t155 t156):=⟨by rw [← hw_];repeat (first|(with_reducible first|exact HI0.out|apply IsS180.alloc|apply IsS180.drewN|apply IsS180.drew|apply IsS180.set_1|apply IsS180.set_2|refine IsS180.far ?_ HN0_go58.out _|refine IsS180.far ?_ NB0_133.out _|refine IsS180.far ?_ NB0_134.out _)|exact HI0.out)⟩
         clear hw_
         obtain ⟨hcz64_0,hfz64_0⟩:=yk1 BK134
         have hnb65:=NB133_0.out
         have hnc65:=NB0_133.out
         obtain ⟨hcz66_0,hfz66_0⟩:=yk1 BK133
         try go_wp2
         refine bodyPost_ret (results_cell_row rfl _ _ gb133 43 #[.slice (some ⟨go58,0,none⟩) x135000_29.length co55] (0,0) _ rfl D137 Try.underlying43 rfl D3) rfl ?_
         exact ⟨_,D0,by refine sS ?_;exact Kd.S_mono (Kd.S_far (p:=⟨gb133,0,none⟩) (Kd.S_types HO_135000.out BK133.out D24) (fun _ hk=>hk.2) (.slice (some ⟨go58,0,none⟩) x135000_29.length co55)) (fun _ hk=>trivial),D7,D22,D6⟩
        replace c48:=Bool.eq_false_iff.mpr c48
        subst c48
        replace H:=yn H
        simp only [Option.some.injEq,Prod.mk.injEq] at H
        obtain ⟨rfl,rfl,rfl⟩:=H
        have hnb67:=NB134_133.out
        have hnc67:=NB133_134.out
        have hnb68:=NB134_0.out
        have hnc68:=NB0_134.out
        obtain ⟨hcz69_0,hfz69_0⟩:=yk1 BK134
        obtain ⟨Ao70,co70,eo70⟩:=Kd.S_slice HO_135000.out
        subst eo70
        go_wp2_with (first|(go_at_call 160;(with_reducible refine (spec_l1Cur_one.calls g s0_0 x1001_17 x1002_17 40 false t155 t156 w0 _ D7 D22 A47.out).mono ?_);rintro e w71 ⟨rfl,hi,hb,hk⟩;replace HO_135000:=am (Kd.S_mono (Kd.S_keep (IsS180.apartS (show IsS180 w0 _ g s0_0 x1001_17 x1002_17 from by repeat (first|(with_reducible first|exact HI0.out|apply IsS180.alloc|apply IsS180.drewN|apply IsS180.drew|apply IsS180.set_1|apply IsS180.set_2|refine IsS180.far ?_ NB0_133.out _|refine IsS180.far ?_ NB0_134.out _)|exact HI0.out)) (yS HO_135000) D24) hk (fun _ h=>h.2)) (fun _ h=>h.1));replace BK133:=am (KeepBut.blk hk (g':=gb133) (o:=.cells #[.slice none 0 0] 43 (0,0)) (yB BK133) NB133_0.out D52);replace BK134:=am (KeepBut.blk hk (g':=gb134) (o:=.cells #[.slice Ao70 x135000_29.length co70] 43 (0,0)) (yB BK134) NB134_0.out D52);replace HK:=am (KeepBut.trans D6 hk (.inl rfl));replace HB:=am (hb);replace HI0:=am (hi);clear hb hk hi;obtain ⟨hcz72_0,hfz72_0⟩:=yk1 BK134;have hnb73:=NB133_0.out;have hnc73:=NB0_133.out;obtain ⟨hcz74_0,hfz74_0⟩:=yk1 BK133))
        refine bodyPost_ret (results_cell_row rfl _ _ gb133 43 #[.slice Ao70 x135000_29.length co70] (0,0) _ rfl D137 Try.underlying43 rfl D3) rfl ?_
        exact ⟨_,D0,by refine sS ?_;exact Kd.S_mono (Kd.S_far (p:=⟨gb133,0,none⟩) (Kd.S_types HO_135000.out BK133.out D24) (fun _ hk=>hk.2) (.slice Ao70 x135000_29.length co70)) (fun _ hk=>trivial),D7,D22,D6⟩
       rw [if_neg c46] at H
       have c46b0:decide (0 < (x135000_29.length:Int))=false:=decide_eq_false c46
       have c46b1:decide (0 < x135000_29.length)=false:=decide_eq_false D23
       clear c46
       simp only [Option.some.injEq,Prod.mk.injEq] at H
       obtain ⟨rfl,rfl,rfl⟩:=H
       have hnb75:=NB134_133.out
       have hnc75:=NB133_134.out
       have hnb76:=NB134_0.out
       have hnc76:=NB0_134.out
       obtain ⟨hcz77_0,hfz77_0⟩:=yk1 BK134
       obtain ⟨Ao78,co78,eo78⟩:=Kd.S_slice HO_135000.out
       subst eo78
       have hnb79:=NB133_0.out
       have hnc79:=NB0_133.out
       obtain ⟨hcz80_0,hfz80_0⟩:=yk1 BK133
       go_wp2
       refine bodyPost_ret (results_cell_row rfl _ _ gb133 43 #[.slice Ao78 x135000_29.length co78] (0,0) _ rfl D137 Try.underlying43 rfl D3) rfl ?_
       exact ⟨_,D0,by refine sS ?_;exact Kd.S_mono (Kd.S_far (p:=⟨gb133,0,none⟩) (Kd.S_types HO_135000.out BK133.out D24) (fun _ hk=>hk.2) (.slice Ao78 x135000_29.length co78)) (fun _ hk=>trivial),D7,D22,D6⟩
end Go.Proofs.Ytajikfnpcobnpaa.PFnMatrices
-- SQUEEZED
