import Derived.Test.YteflgifmdojahaaVFnRegeneratedB
import Derived.Test.YteflgifmdojahaaPFnRegeneratedx0
namespace Go.Proofs.Yteflgifmdojahaa.PFnRegenerated
open Go.RowKit Go.Proofs.YteflgifmdojahaaW.PrintWords Go.Proofs.YteflgifmdojahaaW.PrintLast Go.Proofs.YteflgifmdojahaaW.PrintMore Go.Proofs.Yteflgifmdojahaa.KitS
attribute [local go_sem] max2_int min2_int max_two min_two max_three min_three max_four min_four
set_option linter.unusedVariables false
set_option maxHeartbeats 8000000
set_option maxRecDepth 100000
set_option linter.unusedSimpArgs false
def spec_l1Add.l0:Nat→List Int→List Int→List Int→Int→Int→Option (List Int)
 | 0,_,_,_,_,_=>none
 | k+1,x0,x1,x5,x8,x9=>if x9 < x8 then (if 0≤x9 then (if x9 < (x0.length:Int) then (if x9 < (x1.length:Int) then (if x5.length < 140737488355328 then (spec_l1Add.l0 k x0 x1 (x5 ++ [Go.bits .xor .u8 (rd x0 x9) (rd x1 x9)]) x8 (wrap64 (x9+1))) else (none)) else (none)) else (none)) else (none)) else (some x5)
def spec_l1Add.f (k:Nat) (l0:List Int) (l1:List Int):Option (List Int):=spec_l1Add.l0 k l0 l1 ([]:List Int) (l0.length:Int) 0
theorem spec_l1Add.mono_l:∀ k,(∀ y0 y1 y2 y3 y4,LeO (spec_l1Add.l0 k y0 y1 y2 y3 y4) (spec_l1Add.l0 (k+1) y0 y1 y2 y3 y4))
 | 0=>fun _ _ _ _ _ r h=>by simp [spec_l1Add.l0] at h
 | k+1=>by
  have ih0:=spec_l1Add.mono_l k
  intro y0 y1 y2 y3 y4
  unfold spec_l1Add.l0
  exact mm
theorem spec_l1Add.mono:∀ a0 a1 k,LeO (spec_l1Add.f k a0 a1) (spec_l1Add.f (k+1) a0 a1):=by
 intro a0 a1 k
 have ih0:=spec_l1Add.mono_l k
 unfold spec_l1Add.f
 exact mm
def spec_l1Add.T5:Bool × List (List Nat × List Nat):=(true,[([],[]),([],[]),([],[]),([1,2],[1,2]),([3],[3]),([],[]),([],[]),([5,6],[5,6]),([7],[7]),([4,8],[4,8]),([9],[9]),([0,10],[0,10]),([11,11,0,1,2,3,4,5,6,7,8,9,10,11],[0,11])])
def spec_l1Add.B5:List Nat:=[0,0,0,6,14,0,0,96,224,510,1022,2047,4095]
theorem spec_l1Add.tab5:rtab .any (opsOf Try.f73 5)=spec_l1Add.T5:=by kernel_rfl
theorem spec_l1Add.bits5:waitsOk spec_l1Add.T5.2 spec_l1Add.B5=true:=by kernel_rfl
theorem spec_l1Add.calls (k:Nat) (A0:Option Addr) (c0:Nat) (l0:List Int) (A1:Option Addr) (c1:Nat) (l1:List Int) (r:List Int) (w:World) (hr0:Kd.C (Kd.int .u8) w A0 l0.length l0) (hc0:l0.length≤c0) (hr1:Kd.C (Kd.int .u8) w A1 l1.length l1) (hc1:l1.length≤c1) (h:spec_l1Add.f k l0 l1=some r) :
  Calls Try.prog 73 #[.slice A0 l0.length c0, .slice A1 l1.length c1] w fun e w'=>∃ v0_:Value,e = .returned (v0_)∧Kd.R (Kd.int .u8) 5 w' w.heap.size (fun _=>True) v0_ r∧Below w.heap.size w w':=by
 have HR0:=am hr0
 have HC0:=am hc0
 clear hr0 hc0
 have HR1:=am hr1
 have HC1:=am hc1
 clear hr1 hc1
 have HB:=am (Below.refl w.heap.size w)
 have H:=h
 unfold spec_l1Add.f at H
 clear h
 have H':=am H
 clear H
 go_enter Try.func73,Try.ntmps73
 go_wp2
 go_loopg [5,9] k (fun kq v5 v9 w'=>∃ (x5_1:List Int) (x9_1:Int),v9 = .int .i64 x9_1∧Aside0 (spec_l1Add.l0 kq l0 l1 x5_1 (l0.length:Int) x9_1=some r)∧Aside0 (kq≤k)∧Aside0 (Kd.R (Kd.int .u8) 5 w' w.heap.size (fun _=>True) v5 x5_1)∧Aside0 (Below w.heap.size w w'))
 case atStart=>exact ⟨(([]:List Int)),(0),D1,H',⟨Nat.le_refl _⟩,⟨D10⟩,⟨yW HB⟩⟩
 case round =>
  clear H'
  try clear c1
  try clear p2
  obtain ⟨x5_1,x9_1,rfl,HA,HK1,HO_5,HB⟩:=hrel
  cases gk with
  | zero=>exact absurd HA.out (by simp [spec_l1Add.l0])
  | succ k1 =>
   have H:=HA.out
   clear HA
   simp only [spec_l1Add.l0] at H
   by_cases c3:x9_1 < (l0.length:Int)
   ·rw [if_pos c3] at H
    have c3b0:=decide_eq_true c3
    clear c3
    obtain ⟨c4,H⟩:=yi H
    have c4b0:=decide_eq_true c4
    clear c4
    obtain ⟨c5,H⟩:=yi H
    have c5b0:=decide_eq_true c5
    clear c5
    obtain ⟨c6,H⟩:=yi H
    have c6b0:=decide_eq_true c6
    clear c6
    obtain ⟨c7,H⟩:=yi H
    have LMc7:=am c7
    clear c7
    generalize hy464:(x5_1 ++ [Go.bits .xor .u8 (rd l0 x9_1) (rd l1 x9_1)]:List Int)=y464 at H
    have Ny464:=am hy464.symm
    clear hy464
    have H':=am H
    clear H
    try go_wp2
    replace HO_5:=am (Kd.R_drew HO_5.out)
    replace HB:=am (pd HB.out)
    have p462:0≤(x9_1:Int):=od D0
    have q462:x9_1 < (l0.length:Int):=od D0
    obtain ⟨ad462,e462,hx462_0⟩:=Kd.at_int HR0.out x9_1 p462 q462
    have hw462_0:=hx462_0
    cases e462
    replace hx462_0:=(HB.out.cell (World.block_lt_of_cell? w _ hx462_0)).trans hx462_0
    replace p462:=eq_true p462
    replace q462:=eq_true q462
    have p463:0≤(x9_1:Int):=od D0
    have q463:x9_1 < (l1.length:Int):=od D0
    obtain ⟨ad463,e463,hx463_0⟩:=Kd.at_int HR1.out x9_1 p463 q463
    have hw463_0:=hx463_0
    cases e463
    replace hx463_0:=(HB.out.cell (World.block_lt_of_cell? w _ hx463_0)).trans hx463_0
    replace p463:=eq_true p463
    replace q463:=eq_true q463
    refine rS (n:=13) (S:=fun w'=>w'.cell? (ad462.add (x9_1).toNat)=some (.int .u8 (rd l0 x9_1))∧w'.cell? (ad463.add (x9_1).toNat)=some (.int .u8 (rd l1 x9_1))) (ds:=[]) [(0,12),(1,13),(2,14),(3,15),(5,17),(6,18),(7,19),(4,16),(8,20),(9,21),(10,0),(11,0),(12,5)] D2 rfl spec_l1Add.tab5 spec_l1Add.bits5 ⟨((HB.out.cell (World.block_lt_of_cell? w _ hw462_0)).trans hw462_0),((HB.out.cell (World.block_lt_of_cell? w _ hw463_0)).trans hw463_0)⟩ (fun hHeld HT_ HW_=>?_)
    generalize wr.drew=w8 at HO_5 HB hx462_0 hx463_0 hHeld ⊢
    refine rR ?_
    refine rO (N:=some 22) HT_ rfl rfl D2 D5 (fun K hK=>?_)
    refine value_ (w1:=?_) (v:=?_) D16 rfl ?_ ?_
    rotate_left 2
    ·go_simp
     constructor
     ·rfl
     rfl
    refine hK.out _ _ ⟨(World.cell?_alloc_lt _ _ _ (World.block_lt_of_cell? _ _ (((HB.out.cell (World.block_lt_of_cell? w _ hw462_0)).trans hw462_0)))).trans (((HB.out.cell (World.block_lt_of_cell? w _ hw462_0)).trans hw462_0)),(World.cell?_alloc_lt _ _ _ (World.block_lt_of_cell? _ _ (((HB.out.cell (World.block_lt_of_cell? w _ hw463_0)).trans hw463_0)))).trans (((HB.out.cell (World.block_lt_of_cell? w _ hw463_0)).trans hw463_0))⟩ (fun hHeld=>?_)
    clear hK K
    refine rN (nA 22) ?_
    refine rO (N:=some 23) HT_ rfl rfl D2 D5 (fun K hK=>?_)
    refine Kd.R_append_step (Kd.int .u8) (w0:=w) w.heap.size D16 (.tmp 12) (.tmp 22) 24 5 (.int .u8 0) 1 rfl Try.underlying24 info5 rfl D5 D13 u5 x5_1 (Go.bits .xor .u8 (rd l0 x9_1) (rd l1 x9_1)) [.int .u8 (Go.bits .xor .u8 (rd l0 x9_1) (rd l1 x9_1))] (fun _=>True) (fun _=>False) rfl rfl ?aP (fun _ hk=>hk.elim) ?aF ?aO ?aB ?aS ?aL ?_
    (case aP=>exact rfl)
    (case aB=>exact (yW HB))
    (case aF=>exact (fun _ _=>trivial))
    (case aO=>exact (yR HO_5))
    (case aS=>exact (pz (yW HB)))
    (case aL=>have:=LMc7.out;omega)
    intro v465 w9 ho hb hg hat
    rw [← Ny464.out] at ho
    have n0_:=am (hb)
    have n1_:=am (ho)
    clear HB
    clear HO_5
    have HB:=n0_
    have HO466:=n1_
    clear n0_ n1_
    clear ho hb hg hat
    refine hK.out _ _ ⟨((HB.out.cell (World.block_lt_of_cell? w _ hw462_0)).trans hw462_0),((HB.out.cell (World.block_lt_of_cell? w _ hw463_0)).trans hw463_0)⟩ (fun hHeld=>?_)
    clear hK K
    refine rN (nA 23) ?_
    refine rR ?_
    refine rD HT_ D2 ?_
    try go_wp2
    go_roundg k1
    case measure=>have:=HK1.out;omega
    case rel=>exact ⟨(y464),(wrap64 (x9_1+1)),D1,H',⟨D38⟩,⟨yR HO466⟩,⟨yW HB⟩⟩
   rw [if_neg c3] at H
   have c3b0:=decide_eq_false c3
   clear c3
   obtain rfl:=Option.some.inj H
   go_wp2
   go_ret
   exact ⟨_,D3,yR HO_5,yW HB⟩

def spec_l1Inverse.f (k:Nat) (a0:Int):Option (Int):=if a0=0 then (some 0) else ((spec_l1Power.f k a0 254).bind fun t467=>(some t467))
theorem spec_l1Inverse.mono:∀ a0 k,LeO (spec_l1Inverse.f k a0) (spec_l1Inverse.f (k+1) a0):=by
 intro a0 k
 unfold spec_l1Inverse.f
 exact mm
theorem spec_l1Inverse.calls (k:Nat) (a0:Int) (r:Int) (w:World) (h:spec_l1Inverse.f k a0=some r) :
  Calls Try.prog 137 #[.int .u8 a0] w fun e w'=>e = .returned (.int .u8 r)∧Drawn0 w w':=by
 have H:=h
 unfold spec_l1Inverse.f at H
 clear h
 by_cases c2:a0=0
 ·rw [if_pos c2] at H
  have c2b0:(a0 == 0)=true:=beq_iff_eq.mpr c2
  have c2b1:(a0 != 0)=false:=bne_eq_false_iff_eq.mpr c2
  clear c2
  obtain rfl:=Option.some.inj H
  go_enter Try.func137,Try.ntmps137
  go_wp2
  go_ret
  exact ⟨D1,D15⟩
 rw [if_neg c2] at H
 have c2b0:(a0 == 0)=false:=beq_eq_false_iff_ne.mpr c2
 have c2b1:(a0 != 0)=true:=bne_iff_ne.mpr c2
 obtain ⟨t467,A3,H⟩:=yo H
 obtain rfl:=Option.some.inj H
 go_enter Try.func137,Try.ntmps137
 go_wp2_with (first|((with_reducible refine gC 138 ?_);refine gM (some 6) Try.func138 (args:=#[.int .u8 a0, .int .i64 254]) (spec_l1Power.calls k a0 254 t467 _ A3.out) ?_;rintro e w' ⟨rfl,⟨nd,rfl⟩⟩;refine ⟨_,rfl,?_⟩))
 go_ret
 exact ⟨D1,D15⟩

def spec_l2Own.l0:Nat→List (List Int)→Int→Int→List (List Int)→Option ((List (List Int)))
 | 0,_,_,_,_=>none
 | k+1,x8,x9,x10,x471000=>if x10 < x9 then (if 0≤x10 then (if x10 < (x8.length:Int) then ((some (([]:List Int):List Int)).bind fun y472=>(if y472.length+(rd_L1 x8 x10).length < 140737488355328 then (if x471000.length < 5864062014805 then (spec_l2Own.l0 k x8 x9 (wrap64 (x10+1)) (x471000 ++ [(y472 ++ (rd_L1 x8 x10))])) else (none)) else (none))) else (none)) else (none)) else (some x471000)
def spec_l2Own.f (k:Nat) (l0_0:List (List Int)):Option ((List (List Int))):=spec_l2Own.l0 k l0_0 (l0_0.length:Int) 0 ([]:List (List Int))
theorem spec_l2Own.mono_l:∀ k,(∀ y0 y1 y2 y3,LeO (spec_l2Own.l0 k y0 y1 y2 y3) (spec_l2Own.l0 (k+1) y0 y1 y2 y3))
 | 0=>fun _ _ _ _ r h=>by simp [spec_l2Own.l0] at h
 | k+1=>by
  have ih0:=spec_l2Own.mono_l k
  intro y0 y1 y2 y3
  unfold spec_l2Own.l0
  exact mm
theorem spec_l2Own.mono:∀ a0 k,LeO (spec_l2Own.f k a0) (spec_l2Own.f (k+1) a0):=by
 intro a0 k
 have ih0:=spec_l2Own.mono_l k
 unfold spec_l2Own.f
 exact mm
def spec_l2Own.T5:Bool × List (List Nat × List Nat):=(true,[([],[]),([0],[0]),([],[]),([],[]),([2,3],[2,3]),([4],[4]),([1,5,4],[1,5]),([0,1,2,3,4,5,6],[]),([7,6,6,0,1,2,3,4,5,6],[6,7])])
def spec_l2Own.B5:List Nat:=[0,1,0,0,12,28,63,127,255]
theorem spec_l2Own.tab5:rtab .any (opsOf Try.f161 5)=spec_l2Own.T5:=by kernel_rfl
theorem spec_l2Own.bits5:waitsOk spec_l2Own.T5.2 spec_l2Own.B5=true:=by kernel_rfl
theorem spec_l2Own.calls (k:Nat) (A0_0:Option Addr) (c0_0:Nat) (l0_0:List (List Int)) (r:List (List Int)) (w:World) (hr0_0:Kd.C (Kd.slice 5 (Kd.int .u8)) w A0_0 l0_0.length l0_0) (hc0_0:l0_0.length≤c0_0) (h:spec_l2Own.f k l0_0=some r) :
  Calls Try.prog 161 #[.agg #[.slice A0_0 l0_0.length c0_0]] w fun e w'=>∃ v0_:Value,e = .returned (.agg #[v0_])∧Kd.S (Kd.slice 5 (Kd.int .u8)) 24 w' w.heap.size (fun _=>True) v0_ r∧Below w.heap.size w w':=by
 have hu27:=Try.underlying27
 have HR0_0:=am hr0_0
 have HC0_0:=am hc0_0
 clear hr0_0 hc0_0
 have HB:=am (Below.refl w.heap.size w)
 have H:=h
 unfold spec_l2Own.f at H
 clear h
 have H':=am H
 clear H
 go_enter Try.func161,Try.ntmps161
 go_wp2_with (first|((with_reducible refine gD 1 ?_);refine gB (cs:=#[.slice A0_0 l0_0.length c0_0]) 27 ?_;intro gb468 hg w2 hbox hb;have BK468:=am (hbox);have GW468:=ye HB hg;replace HB:=yH HB hb;have GE468:=GW468;clear hb hbox hg)|((with_reducible refine gD 2 ?_);refine gB (cs:=#[.slice none 0 0]) 27 ?_;intro gb469 hg w3 hbox hb;have BK469:=am (hbox);have GW469:=ye HB hg;replace HB:=yH HB hb;have NB468_469:=yl BK468 hg;have NB469_468:=yg BK468 hg;replace BK468:=yb BK468 hb;have GE469:=GW469;clear hb hbox hg)|((with_reducible refine gD 3 ?_);refine gB (cs:=#[.slice none 0 0]) 27 ?_;intro gb470 hg w4 hbox hb;have BK470:=am (hbox);have GW470:=ye HB hg;replace HB:=yH HB hb;have NB468_470:=yl BK468 hg;have NB470_468:=yg BK468 hg;replace BK468:=yb BK468 hb;have NB469_470:=yl BK469 hg;have NB470_469:=yg BK469 hg;replace BK469:=yb BK469 hb;have GE470:=GW470;clear hb hbox hg;have hnb5:=NB470_468.out;have hnc5:=NB468_470.out;have hnb6:=NB470_469.out;have hnc6:=NB469_470.out;obtain ⟨hcz7_0,hfz7_0⟩:=yk1 BK470;have hnb8:=NB468_469.out;have hnc8:=NB469_468.out;obtain ⟨hcz9_0,hfz9_0⟩:=yk1 BK468))
 go_loopg [10] k (fun kq v10 w'=>∃ (x10_1:Int) (x471000_1:List (List Int)) (u471000:Value),v10 = .int .i64 x10_1∧Aside0 (spec_l2Own.l0 kq l0_0 (l0_0.length:Int) x10_1 x471000_1=some r)∧Aside0 (kq≤k)∧Aside0 (Kd.S (Kd.slice 5 (Kd.int .u8)) 24 w' w.heap.size (fun _=>True) u471000 x471000_1)∧Aside0 (w'.heap[gb468]? = some (.cells #[(.slice A0_0 l0_0.length c0_0)] 27 (0,0)))∧Aside0 (w'.heap[gb469]? = some (.cells #[(.slice none 0 0)] 27 (0,0)))∧Aside0 (w'.heap[gb470]? = some (.cells #[u471000] 27 (0,0)))∧Aside0 (Below w.heap.size w w'))
 case atStart=>exact ⟨(0),(([]:List (List Int))),(.slice none 0 0),D1,H',⟨Nat.le_refl _⟩,⟨D34⟩,⟨yF BK468⟩,⟨yF BK469⟩,⟨by refine sB ?_;refine blk_put (cs:=#[.slice none 0 0]) ?_ 0 _ rfl;exact yB BK470⟩,⟨yW HB⟩⟩
 case round =>
  clear H'
  try clear c1
  try clear p2
  try clear c5
  try clear c6
  try clear c8
  try clear hcz7_0
  try clear hcz9_0
  try clear hfz7_0
  try clear hfz9_0
  obtain ⟨x10_1,x471000_1,u471000,rfl,HA,HK1,HO_471000,BK468,BK469,BK470,HB⟩:=hrel
  cases gk with
  | zero=>exact absurd HA.out (by simp [spec_l2Own.l0])
  | succ k1 =>
   have H:=HA.out
   clear HA
   simp only [spec_l2Own.l0] at H
   by_cases c10:x10_1 < (l0_0.length:Int)
   ·rw [if_pos c10] at H
    have c10b0:=decide_eq_true c10
    clear c10
    obtain ⟨c11,H⟩:=yi H
    have c11b0:=decide_eq_true c11
    clear c11
    obtain ⟨c12,H⟩:=yi H
    have c12b0:=decide_eq_true c12
    clear c12
    obtain ⟨y472,hy472,H⟩:=ys H
    have Ny472:=am hy472
    clear hy472
    obtain ⟨c13,H⟩:=yi H
    have LMc13:=am c13
    clear c13
    generalize hy475:(y472 ++ (rd_L1 l0_0 x10_1):List Int)=y475 at H
    have Ny475:=am hy475.symm
    clear hy475
    obtain ⟨c14,H⟩:=yi H
    have LMc14:=am c14
    clear c14
    generalize hy478:(x471000_1 ++ [y475]:List (List Int))=y478 at H
    have Ny478:=am hy478.symm
    clear hy478
    have H':=am H
    clear H
    have p471:0≤(x10_1:Int):=od D0
    have q471:x10_1 < (l0_0.length:Int):=od D0
    obtain ⟨ad471,A471_0,c471_0,e471,hx471_0,hl471_0,hi471_0⟩:=at_L1 HR0_0.out x10_1 p471 q471
    cases e471
    replace hx471_0:=(HB.out.cell (World.block_lt_of_cell? w _ hx471_0)).trans hx471_0
    have HR471_0:=am hi471_0
    have HC471_0:=am hl471_0
    clear hi471_0 hl471_0
    replace p471:=eq_true p471
    replace q471:=eq_true q471
    try go_wp2
    replace HO_471000:=am (Kd.S_drew HO_471000.out)
    replace BK468:=am (qd BK468.out)
    replace BK469:=am (qd BK469.out)
    replace BK470:=am (qd BK470.out)
    replace HB:=am (pd HB.out)
    refine rS (n:=9) (S:=fun w'=>w'.cell? ⟨gb470,0,none⟩=some (u471000)) (ds:=[8]) [(0,14),(3,17),(1,15),(2,0),(4,0),(5,0),(6,0),(7,21),(8,0)] D2 rfl spec_l2Own.tab5 spec_l2Own.bits5 (yk BK470 0) (fun hHeld HT_ HW_=>?_)
    generalize wr.drew=w15 at HO_471000 BK468 BK469 BK470 HB hHeld ⊢
    refine rR ?_
    refine rO (N:=some 16) HT_ rfl rfl D2 D5 (fun K hK=>?_)
    refine Kd.R_lit_step (Kd.int .u8) _ 5 ?hg (N:=16) ?hd (xs:=([]:List Int)) (inner:=[]) (ok:=fun _=>True) (okp:=fun _=>True) ?hr ?hp (fun _ hk=>hk) trivial (Below.refl _ _) (Nat.le_refl _) D44 ?_;(case hd=>rfl);(case hg=>rfl);(case hr=>first|(go_simp;done)|(go_simp;rfl));(case hp=>exact (Reps.none _ _))
    intro v473 w16 ho17 hb hg_ hnew_
    clear hg_ hnew_
    (first|rw [← Ny472.out] at ho17|(simp only [Int.reduceToNat] at ho17;rw [← Ny472.out] at ho17))
    replace HO_471000:=eS HO_471000 (Kd.R_base ho17) hb
    have HO474:=am (Kd.R_lower ho17 (pz (yW HB)))
    replace BK468:=yb BK468 hb
    replace BK469:=yb BK469 hb
    replace BK470:=yb BK470 hb
    replace HB:=yH HB hb
    clear hb ho17
    refine hK.out _ _ (yk BK470 0) (fun hHeld=>?_)
    clear hK K
    refine rN (nA 16) ?_
    refine rO (N:=some 18) HT_ rfl rfl D2 D5 (fun K hK=>?_)
    refine Kd.R_append_rows_step (Kd.int .u8) (w0:=w) w.heap.size D16 (.tmp 16) (.tmp 17) 24 5 (.int .u8 0) 1 rfl Try.underlying24 info5 rfl D5 D13 v473 y472 (rd_L1 l0_0 x10_1) _ _ _ (fun _=>True) (fun _=>False) rfl rfl ?aO ?aR (fun _ _ h=>h) (fun _ h=>h.elim) ?aF ?aB ?aS ?aL ?_
    (case aR=>repeat (first|exact (Kd.C_below HR471_0.out HB.out)|(with_reducible refine Kd.C_alloc ?_ _)|(with_reducible refine Kd.C_drewN ?_ _)|(with_reducible refine Kd.C_drew ?_)))
    (case aB=>exact (yW HB))
    (case aF=>exact (fun _ _=>trivial))
    (case aO=>exact (yR HO474))
    (case aS=>exact (pz (yW HB)))
    (case aL=>have:=LMc13.out;omega)
    intro v476 w18 ho hb hg hat
    rw [← Ny475.out] at ho
    have n0_:=am (Kd.S_after (ok:=(fun _=>True)) (yS HO_471000) hg hat)
    have n1_:=am (blk_grown (g:=gb468) (o:=.cells #[.slice (some ad471) l0_0.length c0_0] 27 (0,0)) (yB BK468) hg (Kd.R_ne HO474.out BK468.out D5))
    have n2_:=am (blk_grown (g:=gb469) (o:=.cells #[.slice none 0 0] 27 (0,0)) (yB BK469) hg (Kd.R_ne HO474.out BK469.out D5))
    have n3_:=am (blk_grown (g:=gb470) (o:=.cells #[u471000] 27 (0,0)) (yB BK470) hg (Kd.R_ne HO474.out BK470.out D5))
    have n4_:=am (hb)
    have n5_:=am (ho)
    clear HO_471000
    clear BK468
    clear BK469
    clear BK470
    clear HB
    clear HO474
    have HO_471000:=n0_
    have BK468:=n1_
    have BK469:=n2_
    have BK470:=n3_
    have HB:=n4_
    have HO477:=n5_
    clear n0_ n1_ n2_ n3_ n4_ n5_
    clear ho hb hg hat
    obtain ⟨Ao20,co20,eo20⟩:=Kd.R_slice HO477.out
    (first|subst eo20|(injection eo20 with f1_ f2_ f3_;have f4_:=f1_.symm;have f5_:=f3_.symm;clear f1_ f2_ f3_;subst f4_;subst f5_))
    refine hK.out _ _ (yk BK470 0) (fun hHeld=>?_)
    clear hK K
    refine rN (nA 18) ?_
    refine rO (N:=some 19) HT_ rfl rfl D2 D5 (fun K hK=>?_)
    refine value_ (w1:=?_) (v:=?_) D16 rfl ?_ ?_
    rotate_left 2
    ·go_simp
     constructor
     ·rfl
     rfl
    refine hK.out _ _ ((blk_cell (qa BK470.out _) 0).trans rfl) (fun hHeld=>?_)
    clear hK K
    refine rN (nA 19) ?_
    refine rO (N:=some 20) HT_ rfl rfl D2 D5 (fun K hK=>?_)
    refine Kd.S_append_step (Kd.slice 5 (Kd.int .u8)) (w0:=w) w.heap.size D16 (.tmp 15) (.tmp 19) 25 24 (.slice none 0 0) 24 rfl Try.underlying25 info24 rfl D5 D13 u471000 x471000_1 y475 [.slice Ao20 y475.length co20] (fun _=>True) (fun k_=>some k_=(.slice Ao20 y475.length co20:Value).ownBlock) rfl rfl ?aP (fun k_ hk_=>((Kd.R_mono (ok':=fun k_=>((fun _=>True)) k_∧some k_ ≠ (u471000:Value).ownBlock) (Kd.R_apart' (HO477.out) (Kd.S_typed HO_471000.out) D5) (fun k_ hk=>⟨trivial,hk.2⟩))).1 k_ hk_.symm) ?aF ?aO ?aB ?aS ?aL ?_
    (case aP=>exact Kd.M_row (Kd.R_mono (Kd.R_tight rfl (Kd.R_mono (ok':=fun k_=>((fun _=>True)) k_∧some k_ ≠ (u471000:Value).ownBlock) (Kd.R_apart' (HO477.out) (Kd.S_typed HO_471000.out) D5) (fun k_ hk=>⟨trivial,hk.2⟩))) (fun _ h_=>h_)))
    (case aB=>exact (yW HB))
    (case aF=>exact (fun _ _=>trivial))
    (case aO=>exact (by refine sS ?_;exact Kd.S_mono HO_471000.out (fun k_ hk=>⟨trivial,fun e_=>hk.2 e_⟩)))
    (case aS=>exact (pz (yW HB)))
    (case aL=>have:=LMc14.out;omega)
    intro v479 w19 ho hb hg hat
    rw [← Ny478.out] at ho
    have n0_:=am (blk_grown (g:=gb468) (o:=.cells #[.slice (some ad471) l0_0.length c0_0] 27 (0,0)) (yB BK468) hg (Kd.S_ne HO_471000.out BK468.out D5))
    have n1_:=am (blk_grown (g:=gb469) (o:=.cells #[.slice none 0 0] 27 (0,0)) (yB BK469) hg (Kd.S_ne HO_471000.out BK469.out D5))
    have n2_:=am (blk_grown (g:=gb470) (o:=.cells #[u471000] 27 (0,0)) (yB BK470) hg (Kd.S_ne HO_471000.out BK470.out D5))
    have n3_:=am (hb)
    have n4_:=am (ho)
    clear BK468
    clear BK469
    clear BK470
    clear HB
    clear HO_471000
    clear HO477
    have BK468:=n0_
    have BK469:=n1_
    have BK470:=n2_
    have HB:=n3_
    have HO480:=n4_
    clear n0_ n1_ n2_ n3_ n4_
    clear ho hb hg hat
    obtain ⟨Ao21,co21,eo21⟩:=Kd.S_slice HO480.out
    (first|subst eo21|(injection eo21 with f1_ f2_ f3_;have f4_:=f1_.symm;have f5_:=f3_.symm;clear f1_ f2_ f3_;subst f4_;subst f5_))
    refine hK.out _ _ (yk BK470 0) (fun hHeld=>?_)
    clear hK K
    refine rN (nA 20) ?_
    refine rR ?_
    refine rL (N:=none) HT_ rfl rfl D2 D5 (fun K hK=>?_)
    have hs22:w19.cell? ⟨gb470,0,none⟩=some (u471000):=(blk_cell BK470.out 0).trans rfl
    have hfs22:=blk_frozen BK470.out 0
    have hns22_0:=NB468_470.out
    have hns22_1:=NB469_470.out
    have hms22_0:=NB470_468.out
    have hms22_1:=NB470_469.out
    refine skip_ (w1:=?_) D16 rfl ?_ ?_
    rotate_left
    ·go_simp
     rfl
    refine hK.out _ _ ?_
    clear hK K
    refine rD HT_ D2 ?_
    try go_wp2
    go_roundg k1
    case measure=>have:=HK1.out;omega
    case rel=>exact ⟨(wrap64 (x10_1+1)),(y478),(.slice Ao21 y478.length co21),D1,H',⟨D38⟩,⟨by refine sS ?_;exact Kd.S_mono (Kd.S_far (p:=⟨gb470,0,none⟩) (Kd.S_types HO480.out BK470.out D5) (fun _ hk=>hk.2) (.slice Ao21 y478.length co21)) (fun _ hk=>trivial)⟩,⟨yF BK468⟩,⟨yF BK469⟩,⟨by refine sB ?_;refine blk_put (cs:=#[u471000]) ?_ 0 _ rfl;exact yB BK470⟩,⟨yW HB⟩⟩
   rw [if_neg c10] at H
   have c10b0:=decide_eq_false c10
   clear c10
   obtain rfl:=Option.some.inj H
   have hnb23:=NB470_468.out
   have hnc23:=NB468_470.out
   have hnb24:=NB470_469.out
   have hnc24:=NB469_470.out
   obtain ⟨hcz25_0,hfz25_0⟩:=yk1 BK470
   obtain ⟨Ao26,co26,eo26⟩:=Kd.S_slice HO_471000.out
   subst eo26
   have hnb27:=NB469_468.out
   have hnc27:=NB468_469.out
   obtain ⟨hcz28_0,hfz28_0⟩:=yk1 BK469
   go_wp2
   refine bodyPost_ret (results_cell_row rfl _ _ gb469 27 #[.slice Ao26 x471000_1.length co26] (0,0) _ rfl (by refine sB ?_;refine blk_put (cs:=#[.slice none 0 0]) ?_ 0 _ rfl;exact yB BK469) Try.underlying27 rfl D2) rfl ?_
   exact ⟨_,D3,by refine sS ?_;exact Kd.S_mono (Kd.S_far (p:=⟨gb469,0,none⟩) (Kd.S_types HO_471000.out BK469.out D5) (fun _ hk=>hk.2) (.slice Ao26 x471000_1.length co26)) (fun _ hk=>trivial),yW HB⟩
section
section
open Go.Proofs.Yteflgifmdojahaa.Gf Go.Proofs.Yteflgifmdojahaa.Kit Go.Proofs.Yteflgifmdojahaa.KitW Go.Proofs.Yteflgifmdojahaa.KitN
namespace SpecElim
theorem spec_l1Times.ev_l0:∀ (n o x y:Nat),y < 2 ^ n→n≤8→o < 256→x < 256 →
  Ev (fun k=>spec_l1Times.l0 k (o:Int) (x:Int) (y:Int)) ((T n o x y:Nat):Int)
 | 0,o,x,y,hy,_,ho,hx=>by
  refine Ev.step (fun k=>spec_l1Times.l0.eq_2 _ _ _ k) ?_
  have:y=0:=by simpa using hy
  subst this
  refine ev_neg D5 (ev_now ?_)
  simp only [T]
  omega
 | n+1,o,x,y,hy,hn,ho,hx=>by
  have hy8:y < 256:=Nat.lt_of_lt_of_le hy (Nat.pow_le_pow_right (n:=2) D5 hn)
  by_cases h0:y=0
  ·subst h0
   refine Ev.step (fun k=>spec_l1Times.l0.eq_2 _ _ _ k) ?_
   refine ev_neg D5 (ev_now ?_)
   rw [T_zero]
   omega
  refine Ev.step (fun k=>spec_l1Times.l0.eq_2 _ _ _ k) ?_
  refine ev_pos D13 ?_
  have e2:wrap64 ((x:Int)*2)=((2*x:Nat):Int):=by rw [wrap_id D13 D13];omega
  have e3:((y:Int) / 2)=((y / 2:Nat):Int):=by omega
  have e4:Go.bits .xor .i64 (o:Int) (x:Int)=((o ^^^ x:Nat):Int):=xor_i64 D13 D13
  have e5:Go.bits .xor .i64 ((2*x:Nat):Int) 283=((2*x ^^^ 283:Nat):Int):=xor_i64 (m:=2*x) (n:=283) D13 D13
  rw [and1_i64 D13,e2,e3,e4,e5]
  have hT:T (n+1) o x y=T n (if y % 2=1 then o ^^^ x else o) (xt x) (y / 2):=by rw [T]
  rw [hT]
  have hxt:=xt_lt hx
  have hox:=xor_lt ho hx
  have hh:y / 2 < 2 ^ n:=by rw [Nat.pow_succ] at hy;omega
  by_cases h1:y % 2=1
  ·rw [if_pos h1]
   refine ev_pos D13 ?_
   by_cases h2:2*x > 255
   ·refine ev_pos D13 ?_
    have:xt x=2*x ^^^ 283:=by unfold xt;rw [if_pos h2]
    rw [this] at hxt ⊢
    exact spec_l1Times.ev_l0 n _ _ _ hh D13 hox hxt
   refine ev_neg D13 ?_
   have:xt x=2*x:=by unfold xt;rw [if_neg h2]
   rw [this] at hxt ⊢
   exact spec_l1Times.ev_l0 n _ _ _ hh D13 hox hxt
  rw [if_neg h1]
  refine ev_neg D13 ?_
  by_cases h2:2*x > 255
  ·refine ev_pos D13 ?_
   have:xt x=2*x ^^^ 283:=by unfold xt;rw [if_pos h2]
   rw [this] at hxt ⊢
   exact spec_l1Times.ev_l0 n _ _ _ hh D13 ho hxt
  refine ev_neg D13 ?_
  have:xt x=2*x:=by unfold xt;rw [if_neg h2]
  rw [this] at hxt ⊢
  exact spec_l1Times.ev_l0 n _ _ _ hh D13 ho hxt
theorem spec_l1Times.ev {a b:Int} (ha:Byte a) (hb:Byte b):Ev (fun k=>spec_l1Times.f k a b) (mul a b):=by
 obtain ⟨m,hm,rfl⟩:=ha.nat
 obtain ⟨n,hn,rfl⟩:=hb.nat
 unfold spec_l1Times.f
 rw [wrap_id (i:=(m:Int)) D13 D13,wrap_id (i:=(n:Int)) D13 D13]
 have h:=spec_l1Times.ev_l0 8 0 m n hn (Nat.le_refl _) D5 hm
 exact ev_eq h (by unfold Gf.mul gm;simp)
theorem spec_l1Power.ev_l0 (a:Int) (ha:Byte a):∀ (n m:Nat),n < 4611686018427387904→Ev (fun k=>spec_l1Power.l0 k a (n:Int) (pow a m)) (pow a (m+n))
 | 0,m,_=>by
  refine Ev.step (fun k=>spec_l1Power.l0.eq_2 _ _ _ k) ?_
  exact ev_neg D13 (ev_now rfl)
 | n+1,m,hn=>by
  refine Ev.step (fun k=>spec_l1Power.l0.eq_2 _ _ _ k) ?_
  refine ev_pos D13 ?_
  refine ev_bind (spec_l1Times.ev (Byte.pow ha m) ha) ?_
  have e:wrap64 (((n+1:Nat):Int) - 1)=(n:Int):=by unfold wrap64;omega
  rw [e,← pow_succ]
  refine ev_eq (spec_l1Power.ev_l0 a ha n (m+1) D13) ?_
  rw [Nat.add_right_comm,Nat.add_assoc]
theorem spec_l1Power.ev {a:Int} (ha:Byte a) (n:Nat) (hn:n < 4611686018427387904):Ev (fun k=>spec_l1Power.f k a (n:Int)) (pow a n):=by
 unfold spec_l1Power.f
 have:=spec_l1Power.ev_l0 a ha n 0 hn
 rw [pow_zero,Nat.zero_add] at this
 exact this
theorem spec_l1Inverse.ev {a:Int} (ha:Byte a):Ev (fun k=>spec_l1Inverse.f k a) (inv a):=by
 unfold spec_l1Inverse.f
 by_cases h:a=0
 ·subst h
  exact ev_pos rfl (ev_now inv_zero.symm)
 exact ev_neg h (ev_bind (spec_l1Power.ev ha 254 D5) (ev_now (inv_pow a).symm))
theorem spec_l1Scale.ev_l0 (a:Int) (ha:Byte a) (v:List Int) (hv:Bytes v) (hs:v.length < 140737488355328):∀ (n i:Nat) (o:List Int),i+n=v.length→o=(scale a v).take i →
  Ev (fun k=>spec_l1Scale.l0 k a o v (v.length:Int) (i:Int)) (scale a v)
 | 0,i,o,hi,ho=>by
  refine Ev.step (fun k=>spec_l1Scale.l0.eq_2 _ _ _ _ _ k) ?_
  refine ev_neg D13 (ev_now ?_)
  subst ho
  rw [List.take_of_length_le (by rw [scale_length];omega)]
 | n+1,i,o,hi,ho=>by
  have hz:=scale_length a v
  have hlen:o.length=i:=by rw [ho,List.length_take,hz];omega
  refine Ev.step (fun k=>spec_l1Scale.l0.eq_2 _ _ _ _ _ k) ?_
  refine ev_pos D13 (ev_pos D13 (ev_pos D13 ?_))
  refine ev_bind (spec_l1Times.ev ha (bytes_rd hv D13)) ?_
  refine ev_pos D13 ?_
  rw [inc D13,rd_get D13]
  refine spec_l1Scale.ev_l0 a ha v hv hs n (i+1) _ D13 ?_
  rw [List.take_succ_eq_append_getElem D13,← ho]
  simp [scale]
theorem spec_l1Scale.ev {a:Int} (ha:Byte a) {v:List Int} (hv:Bytes v) (hs:v.length < 140737488355328):Ev (fun k=>spec_l1Scale.f k a v) (scale a v):=by
 unfold spec_l1Scale.f
 exact spec_l1Scale.ev_l0 a ha v hv hs v.length 0 [] D13 rfl
theorem spec_l1Add.ev_l0 (v w:List Int) (hv:Bytes v) (hw:Bytes w) (hl:v.length=w.length) (hs:v.length < 140737488355328):∀ (n i:Nat) (o:List Int),i+n=v.length→o=(addV v w).take i →
  Ev (fun k=>spec_l1Add.l0 k v w o (v.length:Int) (i:Int)) (addV v w)
 | 0,i,o,hi,ho=>by
  refine Ev.step (fun k=>spec_l1Add.l0.eq_2 _ _ _ _ _ k) ?_
  refine ev_neg D13 (ev_now ?_)
  subst ho
  rw [List.take_of_length_le (by rw [addV_length];omega)]
 | n+1,i,o,hi,ho=>by
  have hz:=addV_length v w
  have hlen:o.length=i:=by rw [ho,List.length_take,hz];omega
  refine Ev.step (fun k=>spec_l1Add.l0.eq_2 _ _ _ _ _ k) ?_
  refine ev_pos D13 (ev_pos D13 (ev_pos D13 (ev_pos D13 (ev_pos D13 ?_))))
  rw [inc D13,xor_u8 (bytes_rd hv D13) (bytes_rd hw D13),rd_get D13,rd_get D13]
  refine spec_l1Add.ev_l0 v w hv hw hl hs n (i+1) _ D13 ?_
  rw [List.take_succ_eq_append_getElem D13,← ho]
  simp [addV]
theorem spec_l1Add.ev {v w:List Int} (hv:Bytes v) (hw:Bytes w) (hl:v.length=w.length) (hs:v.length < 140737488355328):Ev (fun k=>spec_l1Add.f k v w) (addV v w):=by
 unfold spec_l1Add.f
 exact spec_l1Add.ev_l0 v w hv hw hl hs v.length 0 [] D13 rfl
theorem spec_l2Own.ev_l0 (l:List (List Int)) (hl:l.length≤1048576) (hr:∀ r ∈ l,r.length≤1048576):∀ (d i:Nat) (o:List (List Int)),i+d=l.length→o=l.take i→Ev (fun k=>spec_l2Own.l0 k l (l.length:Int) (i:Int) o) l
 | 0,i,o,hi,ho=>by
  refine Ev.step (fun k=>spec_l2Own.l0.eq_2 _ _ _ _ k) ?_
  refine ev_neg D13 (ev_now ?_)
  rw [ho,List.take_of_length_le D13]
 | d+1,i,o,hi,ho=>by
  have hol:o.length=i:=by rw [ho,List.length_take];omega
  have hrl:(l.getD i []).length≤1048576:=by
   rw [List.getD_eq_getElem?_getD,List.getElem?_eq_getElem (show i < l.length by omega)]
   exact hr _ (List.getElem_mem _)
  refine Ev.step (fun k=>spec_l2Own.l0.eq_2 _ _ _ _ k) ?_
  simp only [Option.bind_some]
  refine ev_pos D13 (ev_pos D13 (ev_pos D13 (ev_pos (show ([]:List Int).length+(l.getD i []).length < 140737488355328 by simp only [List.length_nil];omega) (ev_pos D13 ?_))))
  rw [inc D13]
  refine spec_l2Own.ev_l0 l hl hr d (i+1) _ D13 ?_
  rw [List.take_succ_eq_append_getElem (show i < l.length by omega),← ho,show l[i]' D13=l.getD i [] by rw [List.getD_eq_getElem?_getD,List.getElem?_eq_getElem (show i < l.length by omega)];rfl]
  rfl
theorem spec_l2Own.ev (l:List (List Int)) (hl:l.length≤1048576) (hr:∀ r ∈ l,r.length≤1048576):Ev (fun k=>spec_l2Own.f k l) l:=by
 unfold spec_l2Own.f
 exact spec_l2Own.ev_l0 l hl hr l.length 0 [] D13 rfl
end SpecElim
structure LR (w:World) (p4 p5 p7 p8 g1 c1 g2 c2 len m1 m2:Nat) (LA LB:List (List Int)) (wr:World):Prop where
 NA:Kd.N (Kd.slice 5 (Kd.int .u8)) 24 wr w.heap.size (fun b=>b ≠ g2∧b ≠ p4∧b ≠ p5∧w.heap.size≤b) (.slice (some ⟨g1,0,none⟩) len c1) LA
 NB:Kd.N (Kd.slice 5 (Kd.int .u8)) 24 wr w.heap.size (fun b=>b ≠ g1∧b ≠ p4∧b ≠ p5∧w.heap.size≤b) (.slice (some ⟨g2,0,none⟩) len c2) LB
 b4:wr.heap[p4]? = some (.cells #[.slice none 0 0] 27 (0,0))
 b5:wr.heap[p5]? = some (.cells #[.slice none 0 0] 27 (0,0))
 b7:wr.heap[p7]? = some (.cells #[.slice (some ⟨g1,0,none⟩) len c1] 27 (0,0))
 b8:wr.heap[p8]? = some (.cells #[.slice (some ⟨g2,0,none⟩) len c2] 27 (0,0))
 B:Below w.heap.size w wr
 lo:w.heap.size≤p4∧w.heap.size≤p5∧p4 ≠ p5
 allA:∀ r ∈ LA,okI m1 r
 allB:∀ r ∈ LB,okI m2 r
section
variable {w wr w1:World} {p4 p5 p7 p8 g1 c1 g2 c2 len m1 m2:Nat} {LA LB:List (List Int)}
theorem LR.below (h:LR w p4 p5 p7 p8 g1 c1 g2 c2 len m1 m2 LA LB wr) (hb:Below wr.heap.size wr w1):LR w p4 p5 p7 p8 g1 c1 g2 c2 len m1 m2 LA LB w1 :=
 ⟨Kd.N_below h.NA hb,Kd.N_below h.NB hb,qb h.b4 hb,qb h.b5 hb,qb h.b7 hb,qb h.b8 hb,pu h.B hb,h.lo,h.allA,h.allB⟩
theorem LR.ne (h:LR w p4 p5 p7 p8 g1 c1 g2 c2 len m1 m2 LA LB wr):g1 ≠ g2:=(h.NA.1 g1 D117).1
theorem LR.keyA (h:LR w p4 p5 p7 p8 g1 c1 g2 c2 len m1 m2 LA LB wr):wr.cell? ⟨p7,0,none⟩=some (.slice (some ⟨g1,0,none⟩) len c1):=(blk_cell h.b7 0).trans rfl
theorem LR.keyB (h:LR w p4 p5 p7 p8 g1 c1 g2 c2 len m1 m2 LA LB wr):wr.cell? ⟨p8,0,none⟩=some (.slice (some ⟨g2,0,none⟩) len c2):=(blk_cell h.b8 0).trans rfl
theorem LR.rowA (h:LR w p4 p5 p7 p8 g1 c1 g2 c2 len m1 m2 LA LB wr) (i:Nat) (hi:i < len) :
  ∃ r A c,LA.getD i []=r∧okI m1 r∧wr.cell? ⟨g1,i,none⟩=some (.slice A m1 c)∧m1≤c∧Kd.F (Kd.int .u8) wr (fun b=>b ≠ g1∧b ≠ g2∧b ≠ p4∧b ≠ p5∧w.heap.size≤b) A m1 r∧wr.frozen? ⟨g1,i,none⟩=false:=by
 obtain ⟨A,c,h1,h2,h3,h4⟩:=N_row h.NA i hi
 have hr:okI m1 (LA.getD i []):=RowK.at_all (O:=rowI) h.allA (by rw [← (N_len h.NA).1];exact hi)
 rw [hr.2] at h1 h2 h3
 exact ⟨_,A,c,rfl,hr,h1,h2,Kd.F_mono h3 (fun b hb=>⟨hb.2,hb.1⟩),h4⟩
theorem LR.rowB (h:LR w p4 p5 p7 p8 g1 c1 g2 c2 len m1 m2 LA LB wr) (i:Nat) (hi:i < len) :
  ∃ r A c,LB.getD i []=r∧okI m2 r∧wr.cell? ⟨g2,i,none⟩=some (.slice A m2 c)∧m2≤c∧Kd.F (Kd.int .u8) wr (fun b=>b ≠ g1∧b ≠ g2∧b ≠ p4∧b ≠ p5∧w.heap.size≤b) A m2 r∧wr.frozen? ⟨g2,i,none⟩=false:=by
 obtain ⟨A,c,h1,h2,h3,h4⟩:=N_row h.NB i hi
 have hr:okI m2 (LB.getD i []):=RowK.at_all (O:=rowI) h.allB (by rw [← (N_len h.NB).1];exact hi)
 rw [hr.2] at h1 h2 h3
 exact ⟨_,A,c,rfl,hr,h1,h2,Kd.F_mono h3 (fun b hb=>⟨hb.1.1,hb.2,hb.1.2⟩),h4⟩
theorem LR.putA (h:LR w p4 p5 p7 p8 g1 c1 g2 c2 len m1 m2 LA LB wr) (i:Nat) (hi:i < len) {A:Option Addr} {c:Nat} {x:List Int} (hx:okI m1 x) (hc:m1≤c) (hF:Kd.F (Kd.int .u8) wr (fun b=>b ≠ g1∧b ≠ g2∧b ≠ p4∧b ≠ p5∧w.heap.size≤b) A m1 x) :
  LR w p4 p5 p7 p8 g1 c1 g2 c2 len m1 m2 (LA.set i x) LB (wr.setCell ⟨g1,i,none⟩ (.slice A m1 c)):=by
 obtain ⟨h1,h2⟩:=N_put h.NA i hi (A:=A) (c:=c) (x:=x) (okp:=fun b=>b ≠ g1∧b ≠ g2∧b ≠ p4∧b ≠ p5∧w.heap.size≤b) (by rw [hx.2];exact hc) (by rw [hx.2];exact hF) (fun _ hk=>⟨hk.2,hk.1⟩)
 rw [hx.2] at h1 h2
 have n4:=Kd.N_ne h.NA h.b4 D5
 have n5:=Kd.N_ne h.NA h.b5 D5
 have n7:=Kd.N_ne h.NA h.b7 D5
 have n8:=Kd.N_ne h.NA h.b8 D5
 exact ⟨h1,Kd.N_grown h.NB h2 (fun k hk e=>hk.1 (by injection e)),blk_grown h.b4 h2 n4,blk_grown h.b5 h2 n5,blk_grown h.b7 h2 n7,blk_grown h.b8 h2 n8,pt h.B (Kd.N_base h.NA g1 D117),h.lo,el_set_all h.allA hx i,h.allB⟩
theorem LR.putB (h:LR w p4 p5 p7 p8 g1 c1 g2 c2 len m1 m2 LA LB wr) (i:Nat) (hi:i < len) {A:Option Addr} {c:Nat} {x:List Int} (hx:okI m2 x) (hc:m2≤c) (hF:Kd.F (Kd.int .u8) wr (fun b=>b ≠ g1∧b ≠ g2∧b ≠ p4∧b ≠ p5∧w.heap.size≤b) A m2 x) :
  LR w p4 p5 p7 p8 g1 c1 g2 c2 len m1 m2 LA (LB.set i x) (wr.setCell ⟨g2,i,none⟩ (.slice A m2 c)):=by
 obtain ⟨h1,h2⟩:=N_put h.NB i hi (A:=A) (c:=c) (x:=x) (okp:=fun b=>b ≠ g1∧b ≠ g2∧b ≠ p4∧b ≠ p5∧w.heap.size≤b) (by rw [hx.2];exact hc) (by rw [hx.2];exact hF) (fun _ hk=>⟨⟨hk.1,hk.2.2⟩,hk.2.1⟩)
 rw [hx.2] at h1 h2
 have n4:=Kd.N_ne h.NB h.b4 D5
 have n5:=Kd.N_ne h.NB h.b5 D5
 have n7:=Kd.N_ne h.NB h.b7 D5
 have n8:=Kd.N_ne h.NB h.b8 D5
 exact ⟨Kd.N_grown h.NA h2 (fun k hk e=>hk.1 (by injection e)),h1,blk_grown h.b4 h2 n4,blk_grown h.b5 h2 n5,blk_grown h.b7 h2 n7,blk_grown h.b8 h2 n8,pt h.B (Kd.N_base h.NB g2 D117),h.lo,h.allA,el_set_all h.allB hx i⟩
theorem LR.fresh (h:LR w p4 p5 p7 p8 g1 c1 g2 c2 len m1 m2 LA LB wr) {A:Option Addr} {n c:Nat} {x:List Int} (ho:Kd.R (Kd.int .u8) 5 w1 wr.heap.size (fun _=>True) (.slice A n c) x) :
  Kd.F (Kd.int .u8) w1 (fun b=>b ≠ g1∧b ≠ g2∧b ≠ p4∧b ≠ p5∧w.heap.size≤b) A n x:=by
 have h1:=Kd.N_lt h.NA g1 D117
 have h2:=Kd.N_lt h.NB g2 D117
 have h4:=blk_lt h.b4
 have h5:=blk_lt h.b5
 have hs:=h.B.size
 exact Kd.R_F (Kd.R_mono (Kd.R_bound ho) (fun b hk=>by have:=hk.2.1;omega))
end
set_option maxHeartbeats 16000000 in
theorem spec_l2Reduce.calls (A0:Option Addr) (c0:Nat) (l0:List (List Int)) (A1:Option Addr) (c1:Nat) (l1:List (List Int)) (m1 m2:Nat) (w:World) (hr0:Kd.C (Kd.slice 5 (Kd.int .u8)) w A0 l0.length l0) (hc0:l0.length≤c0) (hr1:Kd.C (Kd.slice 5 (Kd.int .u8)) w A1 l1.length l1) (hc1:l1.length≤c1)
  (h0:∀ r ∈ l0,okI m1 r) (h1:∀ r ∈ l1,okI m2 r) (hne:1≤l0.length) (hle:l0.length≤1000) (hll:l0.length=l1.length) (hm1:m1≤1000) (hm2:m2≤1000) :
  Calls Try.prog 148 #[.agg #[.slice A0 l0.length c0], .agg #[.slice A1 l1.length c1]] w fun e w'=>∃ (A0_:Option Addr) (n0_ c0_:Nat) (v1_:Value),e = .returned (.tuple #[.agg #[.slice A0_ n0_ c0_], .agg #[v1_], .int .i64 ((redP l0 l1 m1).2:Nat)]) ∧
   Kd.N (Kd.slice 5 (Kd.int .u8)) 24 w' w.heap.size (fun b=>w.heap.size≤b) v1_ ((redP l0 l1 m1).1.map Prod.snd)∧Below w.heap.size w w':=by
 obtain ⟨kA,hA⟩:=(SpecElim.spec_l2Own.ev l0 D13 (fun r hr=>by rw [(h0 r hr).2];omega)).rounds
 obtain ⟨kB,hB⟩:=(SpecElim.spec_l2Own.ev l1 D13 (fun r hr=>by rw [(h1 r hr).2];omega)).rounds
 obtain ⟨len,hlen⟩:∃ n,n=l0.length:=⟨_,rfl⟩
 have hlen1:len=l1.length:=by omega
 obtain ⟨L,hL⟩:∃ L,L=l0.zip l1:=⟨_,rfl⟩
 have HA:=am hA
 have HB1:=am hB
 have HLE:=am hlen
 have HLE1:=am hlen1
 have HL:=am hL
 have HLA:=am (show L.map Prod.fst=l0 by rw [hL];exact zip_fst hll)
 have HLB:=am (show L.map Prod.snd=l1 by rw [hL];exact zip_snd hll)
 have HOK:=am (show ∀ r ∈ L,okP m1 m2 r by rw [hL];exact zip_ok h0 h1)
 have HLL:=am (show L.length=len by rw [hL,List.length_zip,← hll,Nat.min_self,hlen])
 have HR0:=am hr0
 have HR1:=am hr1
 have HO0:=am h0
 have HO1:=am h1
 show Calls Try.prog 148 #[.agg #[.slice A0 l0.length c0], .agg #[.slice A1 l1.length c1]] w fun e w'=>∃ (A0_:Option Addr) (n0_ c0_:Nat) (v1_:Value),e = .returned (.tuple #[.agg #[.slice A0_ n0_ c0_], .agg #[v1_], .int .i64 ((rowP.red (l0.zip l1) m1).2:Nat)]) ∧
   Kd.N (Kd.slice 5 (Kd.int .u8)) 24 w' w.heap.size (fun b=>w.heap.size≤b) v1_ ((rowP.red (l0.zip l1) m1).1.map Prod.snd)∧Below w.heap.size w w'
 rw [← hL,← hlen,← hlen1]
 rw [← hlen] at hc0 hne hle
 rw [← hlen1] at hc1
 clear hA hB hlen hlen1 hL hr0 hr1 h0 h1 hll
 have hu:=Try.underlying27
 go_enter Try.func148,Try.ntmps148
 go_wp2_with fail
 obtain ⟨W0,hW0⟩:∃ W:World,W=((((w.alloc (.cells #[.slice A0 len c0] 27 (0,0))).alloc (.cells #[.slice A1 len c1] 27 (0,0))).alloc (.cells #[.slice none 0 0] 27 (0,0))).alloc (.cells #[.slice none 0 0] 27 (0,0))):=⟨_,rfl⟩
 have hB0:Below w.heap.size w W0:=by rw [hW0];exact pa (pa (pa (pa (Below.refl _ _) _) _) _) _
 have h3:W0.heap[w.heap.size+1]? = some (.cells #[.slice A1 len c1] 27 (0,0)):=by rw [hW0];exact qa (qa (by have z:=heap_alloc_new (w.alloc (.cells #[.slice A0 len c0] 27 (0,0))) (.cells #[.slice A1 len c1] 27 (0,0));simpa using z) _) _
 have h4:W0.heap[w.heap.size+1+1]? = some (.cells #[.slice none 0 0] 27 (0,0)):=by rw [hW0];exact qa (by have z:=heap_alloc_new ((w.alloc (.cells #[.slice A0 len c0] 27 (0,0))).alloc (.cells #[.slice A1 len c1] 27 (0,0))) (.cells #[.slice none 0 0] 27 (0,0));simpa using z) _
 have h5:W0.heap[w.heap.size+1+1+1]? = some (.cells #[.slice none 0 0] 27 (0,0)):=by rw [hW0];have z:=heap_alloc_new (((w.alloc (.cells #[.slice A0 len c0] 27 (0,0))).alloc (.cells #[.slice A1 len c1] 27 (0,0))).alloc (.cells #[.slice none 0 0] 27 (0,0))) (.cells #[.slice none 0 0] 27 (0,0));simpa using z
 rw [← hW0]
 clear hW0
 generalize hp5:w.heap.size+1+1+1=p5 at h5 ⊢
 generalize hp4:w.heap.size+1+1=p4 at h4 ⊢
 generalize hp3:w.heap.size+1=p3 at h3 ⊢
 have HP:=am (show w.heap.size≤p4∧w.heap.size≤p5∧p4 ≠ p5 by omega)
 have hA:=spec_l2Own.calls kA A0 c0 l0 l0 W0 (Kd.C_below HR0.out hB0) (by rw [← HLE.out];exact hc0) HA.out
 rw [← HLE.out] at hA
 refine hA.mono ?_
 clear hA hp3 hp4 hp5
 rintro e w1 ⟨va,rfl,hoA,hbA⟩
 obtain ⟨g1,cap1,ea,hg1,hg1l,_⟩:=Kd.S_form hoA (by rw [← HLE.out];exact hne)
 rw [← HLE.out] at ea
 subst ea
 have hB1:=pu hB0 hbA
 have hc3:∀ o,(w1.alloc o).cell? ⟨p3,0,none⟩=some (.slice A1 len c1):=fun o=>(blk_cell (qa (qb h3 hbA) o) 0).trans rfl
 go_wp2_with fail
 have hB2:Below w.heap.size w (w1.alloc (.cells #[.slice (some ⟨g1,0,none⟩) len cap1] 27 (0,0))):=pa hB1 _
 have h7:=heap_alloc_new w1 (.cells #[.slice (some ⟨g1,0,none⟩) len cap1] 27 (0,0))
 have hNA:=Kd.N_alloc (Kd.S_N (Kd.S_bound hoA)) (.cells #[.slice (some ⟨g1,0,none⟩) len cap1] 27 (0,0))
 have hz2:w1.heap.size≤(w1.alloc (.cells #[.slice (some ⟨g1,0,none⟩) len cap1] 27 (0,0))).heap.size:=(pa (Below.refl w1.heap.size w1) _).size
 have hz0:W0.heap.size≤w1.heap.size:=hbA.size
 have h42:=qa (qb h4 hbA) (.cells #[.slice (some ⟨g1,0,none⟩) len cap1] 27 (0,0))
 have h52:=qa (qb h5 hbA) (.cells #[.slice (some ⟨g1,0,none⟩) len cap1] 27 (0,0))
 have hl4:=blk_lt h4
 have hl5:=blk_lt h5
 have hR1:=Kd.C_below HR1.out hB2
 have hzw:=hB0.size
 clear hc3 h3 h4 h5 hbA hoA hB1 hB0
 generalize hp7:w1.heap.size=p7 at *
 generalize (w1.alloc (.cells #[.slice (some ⟨g1,0,none⟩) len cap1] 27 (0,0)))=w2 at *
 have hA:=spec_l2Own.calls kB A1 c1 l1 l1 w2 hR1 (by rw [← HLE1.out];exact hc1) HB1.out
 rw [← HLE1.out] at hA
 refine hA.mono ?_
 clear hA hR1
 rintro e w3 ⟨vb,rfl,hoB,hbB⟩
 obtain ⟨g2,cap2,eb,hg2,hg2l,_⟩:=Kd.S_form hoB (by rw [← HLE1.out];exact hne)
 rw [← HLE1.out] at eb
 subst eb
 have hLR:LR w p4 p5 p7 w3.heap.size g1 cap1 g2 cap2 len m1 m2 l0 l1 (w3.alloc (.cells #[.slice (some ⟨g2,0,none⟩) len cap2] 27 (0,0))):=by
  have hs2:=hbB.size
  have hs0:=hB2.size
  refine ⟨?_,?_,qa (qb h42 hbB) _,qa (qb h52 hbB) _,qa (qb h7 hbB) _,heap_alloc_new w3 _,pa (pu hB2 hbB) _,HP.out,HO0.out,HO1.out⟩
  ·exact Kd.N_lower (Kd.N_mono (Kd.N_alloc (Kd.N_below hNA hbB) _) (fun b hb=>by have:=hb.2.1;have:=hb.2.2.1;exact ⟨D13,D13,D13,D13⟩)) (by have:=HP.out;omega)
  exact Kd.N_lower (Kd.N_mono (Kd.N_alloc (Kd.S_N (Kd.S_bound hoB)) _) (fun b hb=>by have:=hb.2.1;exact ⟨D13,D13,D13,D13⟩)) hs0
 have HLR:=am hLR
 clear hLR hNA hoB hbB hB2 h7 h42 h52 hl4 hl5 hz2 hz0
 go_wp2_with fail
 generalize (w3.alloc (.cells #[.slice (some ⟨g2,0,none⟩) len cap2] 27 (0,0)))=W4 at HLR ⊢
 generalize w3.heap.size=p8 at HLR ⊢
 go_loopg [9,10] (m1+1) (fun fu v9 v10 wr=>∃ k:Nat,k≤m1∧m1 - k < fu∧v9 = .int .i64 ((rowP.red L k).2:Nat)∧v10 = .int .i64 k∧Aside0 (LR w p4 p5 p7 p8 g1 cap1 g2 cap2 len m1 m2 ((rowP.red L k).1.map Prod.fst) ((rowP.red L k).1.map Prod.snd) wr))
 case atStart=>exact ⟨0,Nat.zero_le _,D13,rfl,rfl,⟨by show LR w p4 p5 p7 p8 g1 cap1 g2 cap2 len m1 m2 (L.map Prod.fst) (L.map Prod.snd) W4;rw [HLA.out,HLB.out];exact HLR.out⟩⟩
 case round =>
  clear HLR
  obtain ⟨k,hk,hfu,rfl,rfl,HE⟩:=hrel
  obtain ⟨q,hq⟩:∃ q,q=rowP.red L k:=⟨_,rfl⟩
  rw [← hq] at HE ⊢
  have HQ:=am hq
  clear hq
  obtain ⟨L1,a⟩:=q
  have hlen1:L1.length=len:=by rw [show L1=(rowP.red L k).1 by rw [← HQ.out],RowK.red_length,HLL.out]
  have ha:a≤len:=by
   have h2:=(RowK.red_rank (O:=rowP) L k).2
   rw [← HQ.out,HLL.out] at h2
   exact h2
  replace HE:Aside0 (LR w p4 p5 p7 p8 g1 cap1 g2 cap2 len m1 m2 (L1.map Prod.fst) (L1.map Prod.snd) wr):=HE
  have hkA:=HE.out.keyA
  have hkB:=HE.out.keyB
  have h0l:0 < len:=by omega
  obtain ⟨_,A00,c00,_,_,hcell0,_,_,_⟩:=HE.out.rowA 0 h0l
  by_cases hkn:k < m1
  case neg =>
   have e:k=m1:=by omega
   subst e
   have hkz:¬ (k:Int) < (k:Int):=by omega
   have hdk:decide ((k:Int) < (k:Int))=false:=decide_eq_false hkz
   go_wp2_with fail
   replace HE:=am (HE.out.below (pd (Below.refl _ _)))
   have hkA:=HE.out.keyA
   have hkB:=HE.out.keyB
   have hk4:wr.drew.cell? ⟨p4,0,none⟩=some (.slice none 0 0):=(blk_cell HE.out.b4 0).trans rfl
   have hf4:=blk_frozen HE.out.b4 0
   have h47:p4 ≠ p7:=fun e=>by have z:=HE.out.b4;rw [e,HE.out.b7] at z;cases z
   have h48:p4 ≠ p8:=fun e=>by have z:=HE.out.b4;rw [e,HE.out.b8] at z;cases z
   have h45:=HE.out.lo.2.2
   refine start_ (n:=6) (S:=fun w'=>w'.cell? ⟨p7,0,none⟩=some (.slice (some ⟨g1,0,none⟩) len cap1)∧w'.cell? ⟨p8,0,none⟩=some (.slice (some ⟨g2,0,none⟩) len cap2)) (ds:=[4]) #[Z,Z,Z,Z,Z,Z] D2 rfl rfl ⟨hkA,hkB⟩ (fun hHeld=>?_)
   generalize wr.drew=wr at HE hHeld hk4 hf4 ⊢
   refine take_ (i:=0) (N:=some 166) (v:=?_) (a':=?_) #[Y,Z,Z,Z,Z,Z] rfl rfl D2 hh (Or.inl ⟨D16,?_⟩) hHeld ?_ ?_
   rotate_left
   ·rintro w' ⟨s0,s1⟩
    go_simp
    with_reducible rfl
   rotate_left
   ·simp only [Act.put,q1,q2,q3,i64_w,i32_w]
    rfl
   refine take_ (i:=1) (N:=some 167) (v:=?_) (a':=?_) #[Y,Y,Z,Z,Z,Z] rfl rfl D2 hh (Or.inl ⟨D16,?_⟩) hHeld ?_ ?_
   rotate_left
   ·rintro w' ⟨s0,s1⟩
    go_simp
    with_reducible rfl
   rotate_left
   ·simp only [Act.put,q1,q2,q3,i64_w,i32_w]
    rfl
   refine pure_ (i:=2) (N:=some 168) (v:=?_) (a':=?_) #[Y,Y,Y,Z,Z,Z] rfl rfl D2 hh (Or.inl ⟨D16,?_⟩) ?_ ?_
   rotate_left
   ·intro w'
    go_simp
    with_reducible rfl
   rotate_left
   ·simp only [Act.put,q1,q2,q3,i64_w,i32_w]
    rfl
   have hc7:=(World.cell?_setCell_far wr ⟨p4,0,none⟩ ⟨p7,0,none⟩ (.slice (some ⟨g1,0,none⟩) len cap1) h47).trans hHeld.1
   have hc8:=(World.cell?_setCell_far wr ⟨p4,0,none⟩ ⟨p8,0,none⟩ (.slice (some ⟨g1,0,none⟩) len cap1) h48).trans hHeld.2
   have hb4:=blk_put HE.out.b4 0 (.slice (some ⟨g1,0,none⟩) len cap1) rfl
   have hb5:=blk_far HE.out.b5 (p:=⟨p4,0,none⟩) (fun e=>h45 e.symm) (.slice (some ⟨g1,0,none⟩) len cap1)
   have hNB:=Kd.N_far HE.out.NB (p:=⟨p4,0,none⟩) (fun k hk=>hk.2.1) (.slice (some ⟨g1,0,none⟩) len cap1)
   have hBB:=pt (j:=0) (v:=.slice (some ⟨g1,0,none⟩) len cap1) HE.out.B HE.out.lo.1
   refine one_ (i:=3) (N:=none) #[Y,Y,Y,Y,Z,Z] rfl rfl D2 D5 (fun K hK=>?_)
   refine skip_ (w1:=?_) D16 rfl ?_ ?_
   rotate_left
   ·go_simp
    rfl
   refine hK.out _ _ ⟨hc7,hc8⟩ (fun hHeld=>?_)
   clear hK K hk4 hf4 hc7 hc8
   have hlo5:=HE.out.lo.2.1
   clear HE
   generalize wr.setCell ⟨p4,0,none⟩ (.slice (some ⟨g1,0,none⟩) len cap1)=wr at hb4 hb5 hNB hBB hHeld ⊢
   have hk5:wr.cell? ⟨p5,0,none⟩=some (.slice none 0 0):=(blk_cell hb5 0).trans rfl
   have hf5:=blk_frozen hb5 0
   refine last_ (i:=4) (N:=none) #[Y,Y,Y,Y,Y,Z] rfl rfl D2 D5 (fun K hK=>?_)
   refine skip_ (w1:=?_) D16 rfl ?_ ?_
   rotate_left
   ·go_simp
    rfl
   refine hK.out _ _ ?_
   clear hK K
   have hN2:=Kd.N_far hNB (p:=⟨p5,0,none⟩) (fun k hk=>hk.2.2.1) (.slice (some ⟨g2,0,none⟩) len cap2)
   have hB2:=pt (j:=0) (v:=.slice (some ⟨g2,0,none⟩) len cap2) hBB hlo5
   have h4:=blk_far hb4 (p:=⟨p5,0,none⟩) h45 (.slice (some ⟨g2,0,none⟩) len cap2)
   have h5:=blk_put hb5 0 (.slice (some ⟨g2,0,none⟩) len cap2) rfl
   clear hk5 hf5 hb4 hb5 hNB hBB hHeld
   generalize wr.setCell ⟨p5,0,none⟩ (.slice (some ⟨g2,0,none⟩) len cap2)=wr at hN2 hB2 h4 h5 ⊢
   have HNF:=am (Kd.N_mono hN2 (ok':=fun b=>w.heap.size≤b) (fun _ hk=>hk.2.2.2))
   have HBF:=am hB2
   clear hN2 hB2
   refine pure_ (i:=5) (N:=some 6) (v:=?_) (a':=?_) #[Y,Y,Y,Y,Y,Y] rfl rfl D2 hh (Or.inl ⟨D16,?_⟩) ?_ ?_
   rotate_left
   ·intro w'
    go_simp
    with_reducible rfl
   rotate_left
   ·simp only [Act.put,q1,q2,q3,i64_w,i32_w]
    rfl
   refine done_ D2 ?_
   go_wp2_with fail
   (try simp only [Exit.inBlock,Exit.then])
   refine bodyPost_ret (results_cct rfl _ _ p4 p5 27 27 #[.slice (some ⟨g1,0,none⟩) len cap1] #[.slice (some ⟨g2,0,none⟩) len cap2] (0,0) (0,0) _ _ rfl h4 hu rfl D2 rfl h5 hu rfl D2) rfl ?_
   rw [← HQ.out]
   exact ⟨_,_,_,_,rfl,HNF.out,HBF.out⟩
  have hkz:(k:Int) < (m1:Int):=by omega
  have hdk:decide ((k:Int) < (m1:Int))=true:=decide_eq_true hkz
  by_cases hal:a < len
  case neg =>
   have e:a=len:=by omega
   subst e
   have haz:¬ (a:Int) < (a:Int):=by omega
   have hda:decide ((a:Int) < (a:Int))=false:=decide_eq_false haz
   go_wp2_with fail
   replace HE:=am (HE.out.below (pd (Below.refl _ _)))
   have hkA:=HE.out.keyA
   have hkB:=HE.out.keyB
   have hk4:wr.drew.cell? ⟨p4,0,none⟩=some (.slice none 0 0):=(blk_cell HE.out.b4 0).trans rfl
   have hf4:=blk_frozen HE.out.b4 0
   have h47:p4 ≠ p7:=fun e=>by have z:=HE.out.b4;rw [e,HE.out.b7] at z;cases z
   have h48:p4 ≠ p8:=fun e=>by have z:=HE.out.b4;rw [e,HE.out.b8] at z;cases z
   have h45:=HE.out.lo.2.2
   refine start_ (n:=6) (S:=fun w'=>w'.cell? ⟨p7,0,none⟩=some (.slice (some ⟨g1,0,none⟩) a cap1)∧w'.cell? ⟨p8,0,none⟩=some (.slice (some ⟨g2,0,none⟩) a cap2)) (ds:=[4]) #[Z,Z,Z,Z,Z,Z] D2 rfl rfl ⟨hkA,hkB⟩ (fun hHeld=>?_)
   generalize wr.drew=wr at HE hHeld hk4 hf4 ⊢
   refine take_ (i:=0) (N:=some 166) (v:=?_) (a':=?_) #[Y,Z,Z,Z,Z,Z] rfl rfl D2 hh (Or.inl ⟨D16,?_⟩) hHeld ?_ ?_
   rotate_left
   ·rintro w' ⟨s0,s1⟩
    go_simp
    with_reducible rfl
   rotate_left
   ·simp only [Act.put,q1,q2,q3,i64_w,i32_w]
    rfl
   refine take_ (i:=1) (N:=some 167) (v:=?_) (a':=?_) #[Y,Y,Z,Z,Z,Z] rfl rfl D2 hh (Or.inl ⟨D16,?_⟩) hHeld ?_ ?_
   rotate_left
   ·rintro w' ⟨s0,s1⟩
    go_simp
    with_reducible rfl
   rotate_left
   ·simp only [Act.put,q1,q2,q3,i64_w,i32_w]
    rfl
   refine pure_ (i:=2) (N:=some 168) (v:=?_) (a':=?_) #[Y,Y,Y,Z,Z,Z] rfl rfl D2 hh (Or.inl ⟨D16,?_⟩) ?_ ?_
   rotate_left
   ·intro w'
    go_simp
    with_reducible rfl
   rotate_left
   ·simp only [Act.put,q1,q2,q3,i64_w,i32_w]
    rfl
   have hc7:=(World.cell?_setCell_far wr ⟨p4,0,none⟩ ⟨p7,0,none⟩ (.slice (some ⟨g1,0,none⟩) a cap1) h47).trans hHeld.1
   have hc8:=(World.cell?_setCell_far wr ⟨p4,0,none⟩ ⟨p8,0,none⟩ (.slice (some ⟨g1,0,none⟩) a cap1) h48).trans hHeld.2
   have hb4:=blk_put HE.out.b4 0 (.slice (some ⟨g1,0,none⟩) a cap1) rfl
   have hb5:=blk_far HE.out.b5 (p:=⟨p4,0,none⟩) (fun e=>h45 e.symm) (.slice (some ⟨g1,0,none⟩) a cap1)
   have hNB:=Kd.N_far HE.out.NB (p:=⟨p4,0,none⟩) (fun k hk=>hk.2.1) (.slice (some ⟨g1,0,none⟩) a cap1)
   have hBB:=pt (j:=0) (v:=.slice (some ⟨g1,0,none⟩) a cap1) HE.out.B HE.out.lo.1
   refine one_ (i:=3) (N:=none) #[Y,Y,Y,Y,Z,Z] rfl rfl D2 D5 (fun K hK=>?_)
   refine skip_ (w1:=?_) D16 rfl ?_ ?_
   rotate_left
   ·go_simp
    rfl
   refine hK.out _ _ ⟨hc7,hc8⟩ (fun hHeld=>?_)
   clear hK K hk4 hf4 hc7 hc8
   have hlo5:=HE.out.lo.2.1
   clear HE
   generalize wr.setCell ⟨p4,0,none⟩ (.slice (some ⟨g1,0,none⟩) a cap1)=wr at hb4 hb5 hNB hBB hHeld ⊢
   have hk5:wr.cell? ⟨p5,0,none⟩=some (.slice none 0 0):=(blk_cell hb5 0).trans rfl
   have hf5:=blk_frozen hb5 0
   refine last_ (i:=4) (N:=none) #[Y,Y,Y,Y,Y,Z] rfl rfl D2 D5 (fun K hK=>?_)
   refine skip_ (w1:=?_) D16 rfl ?_ ?_
   rotate_left
   ·go_simp
    rfl
   refine hK.out _ _ ?_
   clear hK K
   have hN2:=Kd.N_far hNB (p:=⟨p5,0,none⟩) (fun k hk=>hk.2.2.1) (.slice (some ⟨g2,0,none⟩) a cap2)
   have hB2:=pt (j:=0) (v:=.slice (some ⟨g2,0,none⟩) a cap2) hBB hlo5
   have h4:=blk_far hb4 (p:=⟨p5,0,none⟩) h45 (.slice (some ⟨g2,0,none⟩) a cap2)
   have h5:=blk_put hb5 0 (.slice (some ⟨g2,0,none⟩) a cap2) rfl
   clear hk5 hf5 hb4 hb5 hNB hBB hHeld
   generalize wr.setCell ⟨p5,0,none⟩ (.slice (some ⟨g2,0,none⟩) a cap2)=wr at hN2 hB2 h4 h5 ⊢
   have HNF:=am (Kd.N_mono hN2 (ok':=fun b=>w.heap.size≤b) (fun _ hk=>hk.2.2.2))
   have HBF:=am hB2
   clear hN2 hB2
   refine pure_ (i:=5) (N:=some 6) (v:=?_) (a':=?_) #[Y,Y,Y,Y,Y,Y] rfl rfl D2 hh (Or.inl ⟨D16,?_⟩) ?_ ?_
   rotate_left
   ·intro w'
    go_simp
    with_reducible rfl
   rotate_left
   ·simp only [Act.put,q1,q2,q3,i64_w,i32_w]
    rfl
   refine done_ D2 ?_
   go_wp2_with fail
   (try simp only [Exit.inBlock,Exit.then])
   refine bodyPost_ret (results_cct rfl _ _ p4 p5 27 27 #[.slice (some ⟨g1,0,none⟩) a cap1] #[.slice (some ⟨g2,0,none⟩) a cap2] (0,0) (0,0) _ _ rfl h4 hu rfl D2 rfl h5 hu rfl D2) rfl ?_
   have hf:(rowP.red L k).2=L.length:=by rw [← HQ.out,HLL.out]
   have e2:=RowK.red_full hf (m1 - k)
   rw [show k+(m1 - k)=m1 by omega] at e2
   rw [e2,← HQ.out]
   exact ⟨_,_,_,_,rfl,HNF.out,HBF.out⟩
  have haz:(a:Int) < (len:Int):=by omega
  have hda:decide ((a:Int) < (len:Int))=true:=decide_eq_true haz
  go_wp2_with fail
  go_loopg [11] (len+1) (fun fu v11 wr=>∃ p:Nat,a≤p∧p≤len∧len - p < fu∧v11 = .int .i64 p∧Aside0 (∀ i,a≤i→i < p→((L1.map Prod.fst).getD i []).getD k 0=0)∧Aside0 (LR w p4 p5 p7 p8 g1 cap1 g2 cap2 len m1 m2 (L1.map Prod.fst) (L1.map Prod.snd) wr))
  case atStart=>exact ⟨a,Nat.le_refl _,ha,D13,rfl,⟨fun i h1 h2=>by omega⟩,HE⟩
  case round =>
   clear HE hkA hkB hcell0
   obtain ⟨p,hap,hp,hfp,rfl,HZ,HE⟩:=hrel
   have hkA:=HE.out.keyA
   have hkB:=HE.out.keyB
   by_cases hpl:p < len
   case neg =>
    have e:p=len:=by omega
    subst e
    have hpz:¬ (p:Int) < (p:Int):=by omega
    have hdp:decide ((p:Int) < (p:Int))=false:=decide_eq_false hpz
    have HS:=am (rp_none HQ.out HLL.out hal hlen1 HZ.out)
    go_wp2_with fail
    go_roundg (m1 - k)
    case measure=>omega
    case rel=>exact ⟨k+1,D13,D13,by rw [HS.out],by go_num,⟨by rw [HS.out];exact HE.out⟩⟩
   have hpz:(p:Int) < (len:Int):=by omega
   have hdp:decide ((p:Int) < (len:Int))=true:=decide_eq_true hpz
   obtain ⟨r1,A1,c1,hr1,hok1,hcell1,hle1,hF1,hfr1⟩:=HE.out.rowA p hpl
   obtain ⟨ad1,rfl,hbyte⟩:=F_m hF1 hok1.2 k hkn
   obtain ⟨y,hy⟩:∃ y,y=r1.getD k 0:=⟨_,rfl⟩
   rw [← hy] at hbyte
   have HY:=am hy
   have HR1E:=am hr1
   clear hy
   by_cases hy0:y=0
   case pos =>
    have HZ2:=am (show ∀ i,a≤i→i < p+1→((L1.map Prod.fst).getD i []).getD k 0=0 from fun i h1 h2=>by
     by_cases e:i=p
     ·subst e;rw [hr1,← HY.out];exact hy0
     exact HZ.out i h1 D13)
    clear hr1 HR1E HY hF1
    subst hy0
    go_wp2_with fail
    go_roundg (len - p)
    case measure=>omega
    case rel=>exact ⟨p+1,D13,D13,D13,by go_num,HZ2,HE⟩
   have hb2:(y == 0)=false:=by simpa using hy0
   have hne:¬ (p:Int)=(len:Int):=by omega
   have hdne:((p:Int) == (len:Int))=false:=by simpa using hne
   have HS:=am (rp_some HQ.out HLL.out hal hlen1 hap hpl (by rw [hr1,← HY.out];exact hy0) HZ.out)
   obtain ⟨s1,B1,d1,hs1,hokb1,hcellb1,hleb1,hFb1,hfrb1⟩:=HE.out.rowB p hpl
   clear hr1
   have hyb:Byte y:=by rw [HY.out];exact bytes_getD hok1.1 k
   have hyi:=hyb.inv
   obtain ⟨kI,hI⟩:=(SpecElim.spec_l1Inverse.ev hyb).rounds
   obtain ⟨kHSA,hSA⟩:=(SpecElim.spec_l1Scale.ev hyi hok1.1 (by rw [hok1.2];omega)).rounds
   obtain ⟨kHSB,hSB⟩:=(SpecElim.spec_l1Scale.ev hyi hokb1.1 (by rw [hokb1.2];omega)).rounds
   have HI:=am hI
   have HSA:=am hSA
   have HSB:=am hSB
   have HS1:=am hs1
   have HF1:=am hF1
   have HFb1:=am hFb1
   have hkz2:(k:Int) < (m1:Int):=hkz
   clear hI hSA hSB hs1 hF1 hFb1
   go_wp2_with fail
   clear hcell1 hbyte hcellb1 hkA hkB
   replace HE:=am (HE.out.below (pd (Below.refl _ _)))
   have hk0:=HE.out.keyA
   obtain ⟨ra,A9,c9,hra,hok9,hcell9,hle9,hF9,_⟩:=HE.out.rowA a hal
   obtain ⟨_,_,_,_,_,hcellp,_,_,hfrp⟩:=HE.out.rowA p hpl
   refine start_ (n:=10) (S:=fun w'=>w'.cell? ⟨p7,0,none⟩=some (.slice (some ⟨g1,0,none⟩) len cap1)∧w'.cell? ⟨g1,a,none⟩=some (.slice A9 m1 c9)) (ds:=[9]) #[Z,Z,Z,Z,Z,Z,Z,Z,Z,Z] D2 rfl rfl ⟨hk0,hcell9⟩ (fun hHeld=>?_)
   replace HF1:=am (Kd.F_drew HF1.out)
   replace HFb1:=am (Kd.F_drew HFb1.out)
   generalize wr.drew=wr at HE HF1 HFb1 hHeld hF9 hcellp hfrp ⊢
   clear hk0 hcell9
   refine pure_ (i:=0) (N:=some 71) (v:=?_) (a':=?_) #[Y,Z,Z,Z,Z,Z,Z,Z,Z,Z] rfl rfl D2 hh (Or.inl ⟨D16,?_⟩) ?_ ?_
   rotate_left
   ·intro w'
    go_simp
    with_reducible rfl
   rotate_left
   ·simp only [Act.put,q1,q2,q3,i64_w,i32_w]
    rfl
   refine take_ (i:=1) (N:=some 72) (v:=?_) (a':=?_) #[Y,Y,Z,Z,Z,Z,Z,Z,Z,Z] rfl rfl D2 hh (Or.inl ⟨D16,?_⟩) hHeld ?_ ?_
   rotate_left
   ·rintro w' ⟨s0,s1⟩
    go_simp
    with_reducible rfl
   rotate_left
   ·simp only [Act.put,q1,q2,q3,i64_w,i32_w]
    rfl
   refine pure_ (i:=2) (N:=some 73) (v:=?_) (a':=?_) #[Y,Y,Y,Z,Z,Z,Z,Z,Z,Z] rfl rfl D2 hh (Or.inl ⟨D16,?_⟩) ?_ ?_
   rotate_left
   ·intro w'
    go_simp
    with_reducible rfl
   rotate_left
   ·simp only [Act.put,q1,q2,q3,i64_w,i32_w]
    rfl
   refine pure_ (i:=3) (N:=some 74) (v:=?_) (a':=?_) #[Y,Y,Y,Y,Z,Z,Z,Z,Z,Z] rfl rfl D2 hh (Or.inl ⟨D16,?_⟩) ?_ ?_
   rotate_left
   ·intro w'
    go_simp
    with_reducible rfl
   rotate_left
   ·simp only [Act.put,q1,q2,q3,i64_w,i32_w]
    rfl
   refine take_ (i:=4) (N:=some 75) (v:=?_) (a':=?_) #[Y,Y,Y,Y,Y,Z,Z,Z,Z,Z] rfl rfl D2 hh (Or.inl ⟨D16,?_⟩) hHeld ?_ ?_
   rotate_left
   ·rintro w' ⟨s0,s1⟩
    go_simp
    with_reducible rfl
   rotate_left
   ·simp only [Act.put,q1,q2,q3,i64_w,i32_w]
    rfl
   refine pure_ (i:=5) (N:=some 76) (v:=?_) (a':=?_) #[Y,Y,Y,Y,Y,Y,Z,Z,Z,Z] rfl rfl D2 hh (Or.inl ⟨D16,?_⟩) ?_ ?_
   rotate_left
   ·intro w'
    go_simp
    with_reducible rfl
   rotate_left
   ·simp only [Act.put,q1,q2,q3,i64_w,i32_w]
    rfl
   refine pure_ (i:=6) (N:=some 77) (v:=?_) (a':=?_) #[Y,Y,Y,Y,Y,Y,Y,Z,Z,Z] rfl rfl D2 hh (Or.inl ⟨D16,?_⟩) ?_ ?_
   rotate_left
   ·intro w'
    go_simp
    with_reducible rfl
   rotate_left
   ·simp only [Act.put,q1,q2,q3,i64_w,i32_w]
    rfl
   refine take_ (i:=7) (N:=some 78) (v:=?_) (a':=?_) #[Y,Y,Y,Y,Y,Y,Y,Y,Z,Z] rfl rfl D2 hh (Or.inl ⟨D16,?_⟩) hHeld ?_ ?_
   rotate_left
   ·rintro w' ⟨s0,s1⟩
    go_simp
    with_reducible rfl
   rotate_left
   ·simp only [Act.put,q1,q2,q3,i64_w,i32_w]
    rfl
   refine pure_ (i:=8) (N:=some 79) (v:=?_) (a':=?_) #[Y,Y,Y,Y,Y,Y,Y,Y,Y,Z] rfl rfl D2 hh (Or.inl ⟨D16,?_⟩) ?_ ?_
   rotate_left
   ·intro w'
    go_simp
    with_reducible rfl
   rotate_left
   ·simp only [Act.put,q1,q2,q3,i64_w,i32_w]
    rfl
   refine last_ (i:=9) (N:=none) #[Y,Y,Y,Y,Y,Y,Y,Y,Y,Y] rfl rfl D2 D5 (fun K hK=>?_)
   refine skip_ (w1:=?_) D16 rfl ?_ ?_
   rotate_left
   ·go_simp
    rfl
   refine hK.out _ _ ?_
   clear hK K
   refine done_ D2 ?_
   have hE1:=HE.out.putA p hpl hok9 hle9 hF9
   replace HF1:=am (Kd.F_far HF1.out (p:=⟨g1,p,none⟩) (fun k hk=>hk.1) (.slice A9 m1 c9))
   replace HFb1:=am (Kd.F_far HFb1.out (p:=⟨g1,p,none⟩) (fun k hk=>hk.1) (.slice A9 m1 c9))
   clear HE hHeld hF9 hcellp hfrp hok9 hle9
   generalize wr.setCell ⟨g1,p,none⟩ (.slice A9 m1 c9)=wr at hE1 HF1 HFb1 ⊢
   have HE:=am hE1
   clear hE1
   go_wp2_with fail
   replace HE:=am (HE.out.below (pd (Below.refl _ _)))
   have hk0:=HE.out.keyB
   obtain ⟨sa,A9,c9,hsa,hok9,hcell9,hle9,hF9,_⟩:=HE.out.rowB a hal
   obtain ⟨_,_,_,_,_,hcellp,_,_,hfrp⟩:=HE.out.rowB p hpl
   refine start_ (n:=10) (S:=fun w'=>w'.cell? ⟨p8,0,none⟩=some (.slice (some ⟨g2,0,none⟩) len cap2)∧w'.cell? ⟨g2,a,none⟩=some (.slice A9 m2 c9)) (ds:=[9]) #[Z,Z,Z,Z,Z,Z,Z,Z,Z,Z] D2 rfl rfl ⟨hk0,hcell9⟩ (fun hHeld=>?_)
   replace HF1:=am (Kd.F_drew HF1.out)
   replace HFb1:=am (Kd.F_drew HFb1.out)
   generalize wr.drew=wr at HE HF1 HFb1 hHeld hF9 hcellp hfrp ⊢
   clear hk0 hcell9
   refine pure_ (i:=0) (N:=some 80) (v:=?_) (a':=?_) #[Y,Z,Z,Z,Z,Z,Z,Z,Z,Z] rfl rfl D2 hh (Or.inl ⟨D16,?_⟩) ?_ ?_
   rotate_left
   ·intro w'
    go_simp
    with_reducible rfl
   rotate_left
   ·simp only [Act.put,q1,q2,q3,i64_w,i32_w]
    rfl
   refine take_ (i:=1) (N:=some 81) (v:=?_) (a':=?_) #[Y,Y,Z,Z,Z,Z,Z,Z,Z,Z] rfl rfl D2 hh (Or.inl ⟨D16,?_⟩) hHeld ?_ ?_
   rotate_left
   ·rintro w' ⟨s0,s1⟩
    go_simp
    with_reducible rfl
   rotate_left
   ·simp only [Act.put,q1,q2,q3,i64_w,i32_w]
    rfl
   refine pure_ (i:=2) (N:=some 82) (v:=?_) (a':=?_) #[Y,Y,Y,Z,Z,Z,Z,Z,Z,Z] rfl rfl D2 hh (Or.inl ⟨D16,?_⟩) ?_ ?_
   rotate_left
   ·intro w'
    go_simp
    with_reducible rfl
   rotate_left
   ·simp only [Act.put,q1,q2,q3,i64_w,i32_w]
    rfl
   refine pure_ (i:=3) (N:=some 83) (v:=?_) (a':=?_) #[Y,Y,Y,Y,Z,Z,Z,Z,Z,Z] rfl rfl D2 hh (Or.inl ⟨D16,?_⟩) ?_ ?_
   rotate_left
   ·intro w'
    go_simp
    with_reducible rfl
   rotate_left
   ·simp only [Act.put,q1,q2,q3,i64_w,i32_w]
    rfl
   refine take_ (i:=4) (N:=some 84) (v:=?_) (a':=?_) #[Y,Y,Y,Y,Y,Z,Z,Z,Z,Z] rfl rfl D2 hh (Or.inl ⟨D16,?_⟩) hHeld ?_ ?_
   rotate_left
   ·rintro w' ⟨s0,s1⟩
    go_simp
    with_reducible rfl
   rotate_left
   ·simp only [Act.put,q1,q2,q3,i64_w,i32_w]
    rfl
   refine pure_ (i:=5) (N:=some 85) (v:=?_) (a':=?_) #[Y,Y,Y,Y,Y,Y,Z,Z,Z,Z] rfl rfl D2 hh (Or.inl ⟨D16,?_⟩) ?_ ?_
   rotate_left
   ·intro w'
    go_simp
    with_reducible rfl
   rotate_left
   ·simp only [Act.put,q1,q2,q3,i64_w,i32_w]
    rfl
   refine pure_ (i:=6) (N:=some 86) (v:=?_) (a':=?_) #[Y,Y,Y,Y,Y,Y,Y,Z,Z,Z] rfl rfl D2 hh (Or.inl ⟨D16,?_⟩) ?_ ?_
   rotate_left
   ·intro w'
    go_simp
    with_reducible rfl
   rotate_left
   ·simp only [Act.put,q1,q2,q3,i64_w,i32_w]
    rfl
   refine take_ (i:=7) (N:=some 87) (v:=?_) (a':=?_) #[Y,Y,Y,Y,Y,Y,Y,Y,Z,Z] rfl rfl D2 hh (Or.inl ⟨D16,?_⟩) hHeld ?_ ?_
   rotate_left
   ·rintro w' ⟨s0,s1⟩
    go_simp
    with_reducible rfl
   rotate_left
   ·simp only [Act.put,q1,q2,q3,i64_w,i32_w]
    rfl
   refine pure_ (i:=8) (N:=some 88) (v:=?_) (a':=?_) #[Y,Y,Y,Y,Y,Y,Y,Y,Y,Z] rfl rfl D2 hh (Or.inl ⟨D16,?_⟩) ?_ ?_
   rotate_left
   ·intro w'
    go_simp
    with_reducible rfl
   rotate_left
   ·simp only [Act.put,q1,q2,q3,i64_w,i32_w]
    rfl
   refine last_ (i:=9) (N:=none) #[Y,Y,Y,Y,Y,Y,Y,Y,Y,Y] rfl rfl D2 D5 (fun K hK=>?_)
   refine skip_ (w1:=?_) D16 rfl ?_ ?_
   rotate_left
   ·go_simp
    rfl
   refine hK.out _ _ ?_
   clear hK K
   refine done_ D2 ?_
   have hE1:=HE.out.putB p hpl hok9 hle9 hF9
   replace HF1:=am (Kd.F_far HF1.out (p:=⟨g2,p,none⟩) (fun k hk=>hk.2.1) (.slice A9 m2 c9))
   replace HFb1:=am (Kd.F_far HFb1.out (p:=⟨g2,p,none⟩) (fun k hk=>hk.2.1) (.slice A9 m2 c9))
   clear HE hHeld hF9 hcellp hfrp hok9 hle9
   generalize wr.setCell ⟨g2,p,none⟩ (.slice A9 m2 c9)=wr at hE1 HF1 HFb1 ⊢
   have HE:=am hE1
   clear hE1
   obtain ⟨ad1',e1,hbyte⟩:=F_m HF1.out hok1.2 k hkn
   injection e1 with e1
   subst e1
   rw [← HY.out] at hbyte
   go_wp2_with fail
   refine (spec_l1Inverse.calls kI y (inv y) _ HI.out).mono ?_
   rintro e w4 ⟨rfl,⟨q4,rfl⟩⟩
   clear hbyte
   replace HE:=am (HE.out.below (w1:=wr.drewN q4) (pb (Below.refl _ _) q4))
   replace HF1:=am (Kd.F_drewN HF1.out q4)
   replace HFb1:=am (Kd.F_drewN HFb1.out q4)
   generalize wr.drewN q4=wr at HE HF1 HFb1 ⊢
   go_wp2_with fail
   replace HE:=am (HE.out.below (pd (Below.refl _ _)))
   have hk0:=HE.out.keyA
   refine start_ (n:=8) (S:=fun w'=>w'.cell? ⟨p7,0,none⟩=some (.slice (some ⟨g1,0,none⟩) len cap1)) (ds:=[7]) #[Z,Z,Z,Z,Z,Z,Z,Z] D2 rfl rfl hk0 (fun hHeld=>?_)
   replace HF1:=am (Kd.F_drew HF1.out)
   replace HFb1:=am (Kd.F_drew HFb1.out)
   generalize wr.drew=wr at HE HF1 HFb1 hHeld ⊢
   clear hk0
   refine pure_ (i:=0) (N:=some 94) (v:=?_) (a':=?_) #[Y,Z,Z,Z,Z,Z,Z,Z] rfl rfl D2 hh (Or.inl ⟨D16,?_⟩) ?_ ?_
   rotate_left
   ·intro w'
    go_simp
    with_reducible rfl
   rotate_left
   ·simp only [Act.put,q1,q2,q3,i64_w,i32_w]
    rfl
   refine take_ (i:=1) (N:=some 95) (v:=?_) (a':=?_) #[Y,Y,Z,Z,Z,Z,Z,Z] rfl rfl D2 hh (Or.inl ⟨D16,?_⟩) hHeld ?_ ?_
   rotate_left
   ·rintro w' s0
    go_simp
    with_reducible rfl
   rotate_left
   ·simp only [Act.put,q1,q2,q3,i64_w,i32_w]
    rfl
   refine pure_ (i:=2) (N:=some 96) (v:=?_) (a':=?_) #[Y,Y,Y,Z,Z,Z,Z,Z] rfl rfl D2 hh (Or.inl ⟨D16,?_⟩) ?_ ?_
   rotate_left
   ·intro w'
    go_simp
    with_reducible rfl
   rotate_left
   ·simp only [Act.put,q1,q2,q3,i64_w,i32_w]
    rfl
   refine pure_ (i:=3) (N:=some 97) (v:=?_) (a':=?_) #[Y,Y,Y,Y,Z,Z,Z,Z] rfl rfl D2 hh (Or.inl ⟨D16,?_⟩) ?_ ?_
   rotate_left
   ·intro w'
    go_simp
    with_reducible rfl
   rotate_left
   ·simp only [Act.put,q1,q2,q3,i64_w,i32_w]
    rfl
   refine pure_ (i:=4) (N:=some 98) (v:=?_) (a':=?_) #[Y,Y,Y,Y,Y,Z,Z,Z] rfl rfl D2 hh (Or.inl ⟨D16,?_⟩) ?_ ?_
   rotate_left
   ·intro w'
    go_simp
    with_reducible rfl
   rotate_left
   ·simp only [Act.put,q1,q2,q3,i64_w,i32_w]
    rfl
   refine one_ (i:=5) (N:=some 99) #[Y,Y,Y,Y,Y,Y,Z,Z] rfl rfl D2 D5 (fun K hK=>?_)
   refine goes_ Try.func122 D2 rfl #[Value.int .u8 (inv y),Value.slice (some ad1) m1 c1] D16 rfl rfl D37 ?_
   have hS:=spec_l1Scale.calls kHSA (inv y) (some ad1) c1 r1 (scale (inv y) r1) wr (F_C HF1.out hok1.2) (by rw [hok1.2];exact hle1) HSA.out
   rw [hok1.2] at hS
   refine hS.mono ?_
   clear hS
   rintro e w5 ⟨v5,rfl,ho5,hb5⟩
   refine ⟨_,rfl,?_⟩
   obtain ⟨A5,c5,e5⟩:=Kd.R_slice ho5
   rw [scale_length,hok1.2] at e5
   subst e5
   have hle5:m1≤c5:=(Kd.R_reads' ho5).2.1
   have HF5:=am (HE.out.fresh ho5)
   replace HE:=am (HE.out.below hb5)
   replace hHeld:=pw_cell_below hb5 hHeld
   replace HFb1:=am (Kd.F_below HFb1.out hb5)
   clear ho5 hb5 HF1
   refine hK.out _ _ hHeld (fun hHeld=>?_)
   clear hK K
   refine norm_ (nA 99) ?_
   refine pure_ (i:=6) (N:=some 100) (v:=?_) (a':=?_) #[Y,Y,Y,Y,Y,Y,Y,Z] rfl rfl D2 hh (Or.inl ⟨D16,?_⟩) ?_ ?_
   rotate_left
   ·intro w'
    go_simp
    with_reducible rfl
   rotate_left
   ·simp only [Act.put,q1,q2,q3,i64_w,i32_w]
    rfl
   obtain ⟨_,_,_,_,_,hcell3,_,_,hfr3⟩:=HE.out.rowA a hal
   refine last_ (i:=7) (N:=none) #[Y,Y,Y,Y,Y,Y,Y,Y] rfl rfl D2 D5 (fun K hK=>?_)
   refine skip_ (w1:=?_) D16 rfl ?_ ?_
   rotate_left
   ·go_simp
    rfl
   refine hK.out _ _ ?_
   clear hK K
   refine done_ D2 ?_
   have hokx:=el_scale hyi hok1
   have hE1:=HE.out.putA a hal hokx hle5 HF5.out
   replace HFb1:=am (Kd.F_far HFb1.out (p:=⟨g1,a,none⟩) (fun k hk=>hk.1) (.slice A5 m1 c5))
   clear HE HF5 hcell3 hfr3 hHeld hokx
   generalize w5.setCell ⟨g1,a,none⟩ (.slice A5 m1 c5)=wr at hE1 HFb1 ⊢
   have HE:=am hE1
   clear hE1 hle5
   go_wp2_with fail
   replace HE:=am (HE.out.below (pd (Below.refl _ _)))
   have hk0:=HE.out.keyB
   refine start_ (n:=8) (S:=fun w'=>w'.cell? ⟨p8,0,none⟩=some (.slice (some ⟨g2,0,none⟩) len cap2)) (ds:=[7]) #[Z,Z,Z,Z,Z,Z,Z,Z] D2 rfl rfl hk0 (fun hHeld=>?_)
   replace HFb1:=am (Kd.F_drew HFb1.out)
   generalize wr.drew=wr at HE HFb1 hHeld ⊢
   clear hk0
   refine pure_ (i:=0) (N:=some 101) (v:=?_) (a':=?_) #[Y,Z,Z,Z,Z,Z,Z,Z] rfl rfl D2 hh (Or.inl ⟨D16,?_⟩) ?_ ?_
   rotate_left
   ·intro w'
    go_simp
    with_reducible rfl
   rotate_left
   ·simp only [Act.put,q1,q2,q3,i64_w,i32_w]
    rfl
   refine take_ (i:=1) (N:=some 102) (v:=?_) (a':=?_) #[Y,Y,Z,Z,Z,Z,Z,Z] rfl rfl D2 hh (Or.inl ⟨D16,?_⟩) hHeld ?_ ?_
   rotate_left
   ·rintro w' s0
    go_simp
    with_reducible rfl
   rotate_left
   ·simp only [Act.put,q1,q2,q3,i64_w,i32_w]
    rfl
   refine pure_ (i:=2) (N:=some 103) (v:=?_) (a':=?_) #[Y,Y,Y,Z,Z,Z,Z,Z] rfl rfl D2 hh (Or.inl ⟨D16,?_⟩) ?_ ?_
   rotate_left
   ·intro w'
    go_simp
    with_reducible rfl
   rotate_left
   ·simp only [Act.put,q1,q2,q3,i64_w,i32_w]
    rfl
   refine pure_ (i:=3) (N:=some 104) (v:=?_) (a':=?_) #[Y,Y,Y,Y,Z,Z,Z,Z] rfl rfl D2 hh (Or.inl ⟨D16,?_⟩) ?_ ?_
   rotate_left
   ·intro w'
    go_simp
    with_reducible rfl
   rotate_left
   ·simp only [Act.put,q1,q2,q3,i64_w,i32_w]
    rfl
   refine pure_ (i:=4) (N:=some 105) (v:=?_) (a':=?_) #[Y,Y,Y,Y,Y,Z,Z,Z] rfl rfl D2 hh (Or.inl ⟨D16,?_⟩) ?_ ?_
   rotate_left
   ·intro w'
    go_simp
    with_reducible rfl
   rotate_left
   ·simp only [Act.put,q1,q2,q3,i64_w,i32_w]
    rfl
   refine one_ (i:=5) (N:=some 106) #[Y,Y,Y,Y,Y,Y,Z,Z] rfl rfl D2 D5 (fun K hK=>?_)
   refine goes_ Try.func122 D2 rfl #[Value.int .u8 (inv y),Value.slice B1 m2 d1] D16 rfl rfl D37 ?_
   have hS:=spec_l1Scale.calls kHSB (inv y) B1 d1 s1 (scale (inv y) s1) wr (F_C HFb1.out hokb1.2) (by rw [hokb1.2];exact hleb1) HSB.out
   rw [hokb1.2] at hS
   refine hS.mono ?_
   clear hS
   rintro e w5 ⟨v5,rfl,ho5,hb5⟩
   refine ⟨_,rfl,?_⟩
   obtain ⟨A5,c5,e5⟩:=Kd.R_slice ho5
   rw [scale_length,hokb1.2] at e5
   subst e5
   have hle5:m2≤c5:=(Kd.R_reads' ho5).2.1
   have HF5:=am (HE.out.fresh ho5)
   replace HE:=am (HE.out.below hb5)
   replace hHeld:=pw_cell_below hb5 hHeld
   clear ho5 hb5 HFb1
   refine hK.out _ _ hHeld (fun hHeld=>?_)
   clear hK K
   refine norm_ (nA 106) ?_
   refine pure_ (i:=6) (N:=some 107) (v:=?_) (a':=?_) #[Y,Y,Y,Y,Y,Y,Y,Z] rfl rfl D2 hh (Or.inl ⟨D16,?_⟩) ?_ ?_
   rotate_left
   ·intro w'
    go_simp
    with_reducible rfl
   rotate_left
   ·simp only [Act.put,q1,q2,q3,i64_w,i32_w]
    rfl
   obtain ⟨_,_,_,_,_,hcell3,_,_,hfr3⟩:=HE.out.rowB a hal
   refine last_ (i:=7) (N:=none) #[Y,Y,Y,Y,Y,Y,Y,Y] rfl rfl D2 D5 (fun K hK=>?_)
   refine skip_ (w1:=?_) D16 rfl ?_ ?_
   rotate_left
   ·go_simp
    rfl
   refine hK.out _ _ ?_
   clear hK K
   refine done_ D2 ?_
   have hokx:=el_scale hyi hokb1
   have hE1:=HE.out.putB a hal hokx hle5 HF5.out
   clear HE HF5 hcell3 hfr3 hHeld hokx
   generalize w5.setCell ⟨g2,a,none⟩ (.slice A5 m2 c5)=wr at hE1 ⊢
   have HE:=am hE1
   clear hE1 hle5
   have hE1:=HE.out
   rw [← hra,HY.out,← HR1E.out,← rp_lift_fst,← hsa,← HS1.out,← rp_lift_snd] at hE1
   obtain ⟨L3,hL3⟩:∃ L3,L3=rowP.lift L1 k a p:=⟨_,rfl⟩
   rw [← hL3] at hE1 HS
   clear HE hL3 hra hsa HY HR1E HS1 hok1 hokb1 HI HSA HSB hyb hyi hb2 hy0
   have HE:=am hE1
   clear hE1
   have hkA:=HE.out.keyA
   go_wp2_with fail
   go_loopg [111] (len+1) (fun fu v111 wr=>∃ i:Nat,i≤len∧len - i < fu∧v111 = .int .i64 i∧Aside0 (LR w p4 p5 p7 p8 g1 cap1 g2 cap2 len m1 m2 ((rowP.clr k a L3 i).map Prod.fst) ((rowP.clr k a L3 i).map Prod.snd) wr))
   case atStart=>exact ⟨0,Nat.zero_le _,D13,rfl,HE⟩
   case round =>
    clear HE hkA
    obtain ⟨i,hi,hfi,rfl,HE⟩:=hrel
    have hkA:=HE.out.keyA
    by_cases hil:i < len
    case neg =>
     have e:i=len:=by omega
     subst e
     have hrz:¬ (i:Int) < (i:Int):=by omega
     have hdr:decide ((i:Int) < (i:Int))=false:=decide_eq_false hrz
     go_wp2_with fail
     go_roundg (m1 - k)
     case measure=>omega
     case rel=>exact ⟨k+1,D13,D13,by rw [HS.out];go_num,by go_num,⟨by rw [HS.out];exact HE.out⟩⟩
    have hrz:(i:Int) < (len:Int):=by omega
    have hdr:decide ((i:Int) < (len:Int))=true:=decide_eq_true hrz
    obtain ⟨ri,Ai,ci,hri,hoki,hcelli,hlei,hFi,_⟩:=HE.out.rowA i hil
    obtain ⟨adi,rfl,hbyte⟩:=F_m hFi hoki.2 k hkn
    obtain ⟨z,hz⟩:∃ z,z=ri.getD k 0:=⟨_,rfl⟩
    rw [← hz] at hbyte
    have HZE:=am (hz.trans (by rw [← hri]))
    have hzb:Byte z:=by rw [hz];exact bytes_getD hoki.1 k
    clear hz hFi
    by_cases hia:i=a
    case pos =>
     have HT:=am (rp_clr_skip (L:=L3) (k:=k) (a:=a) (r:=i) (.inl hia))
     clear HZE hri
     subst hia
     go_wp2_with fail
     go_roundg (len - i)
     case measure=>omega
     case rel=>exact ⟨i+1,D13,D13,by go_num,⟨by rw [HT.out];exact HE.out⟩⟩
    have hiz:¬ (i:Int)=(a:Int):=by omega
    by_cases hz0:z=0
    case pos =>
     have HT:=am (rp_clr_skip (L:=L3) (k:=k) (a:=a) (r:=i) (.inr (HZE.out.symm.trans hz0)))
     clear HZE hri
     subst hz0
     go_wp2_with fail
     go_roundg (len - i)
     case measure=>omega
     case rel=>exact ⟨i+1,D13,D13,by go_num,⟨by rw [HT.out];exact HE.out⟩⟩
    have hb1:((i:Int) != (a:Int))=true:=bne_iff_ne.2 hiz
    have hb2:(z != 0)=true:=bne_iff_ne.2 hz0
    have HT:=am (rp_clr_do (L:=L3) hia HZE.out.symm hz0)
    clear HZE hri
    go_wp2_with fail
    clear hkA hcelli hbyte
    replace HE:=am (HE.out.below (pd (Below.refl _ _)))
    have hk0:=HE.out.keyA
    obtain ⟨x6,A6,c6,hx6,hok6,hcell6,hle6,hF6,_⟩:=HE.out.rowA i hil
    obtain ⟨x7,A7,c7,hx7,hok7,hcell7,hle7,hF7,_⟩:=HE.out.rowA a hal
    have hok8:=el_scale hzb hok7
    have hok9:=el_add hok6 hok8
    obtain ⟨kS,hS⟩:=(SpecElim.spec_l1Scale.ev hzb hok7.1 (by rw [hok7.2];omega)).rounds
    obtain ⟨kA,hA⟩:=(SpecElim.spec_l1Add.ev hok6.1 hok8.1 (by rw [hok6.2,hok8.2]) (by rw [hok6.2];omega)).rounds
    have HSc:=am hS
    have HAd:=am hA
    clear hS hA
    refine start_ (n:=18) (S:=fun w'=>w'.cell? ⟨p7,0,none⟩=some (.slice (some ⟨g1,0,none⟩) len cap1)∧w'.cell? ⟨g1,i,none⟩=some (.slice A6 m1 c6)∧w'.cell? ⟨g1,a,none⟩=some (.slice A7 m1 c7)) (ds:=[17]) #[Z,Z,Z,Z,Z,Z,Z,Z,Z,Z,Z,Z,Z,Z,Z,Z,Z,Z] D2 rfl rfl ⟨hk0,hcell6,hcell7⟩ (fun hHeld=>?_)
    generalize wr.drew=wr at HE hHeld hF6 hF7 ⊢
    have HF6:=am hF6
    have HF7:=am hF7
    clear hF6 hF7 hk0 hcell6 hcell7
    refine pure_ (i:=0) (N:=some 129) (v:=?_) (a':=?_) #[Y,Z,Z,Z,Z,Z,Z,Z,Z,Z,Z,Z,Z,Z,Z,Z,Z,Z] rfl rfl D2 hh (Or.inl ⟨D16,?_⟩) ?_ ?_
    rotate_left
    ·intro w'
     go_simp
     with_reducible rfl
    rotate_left
    ·simp only [Act.put,q1,q2,q3,i64_w,i32_w]
     rfl
    refine take_ (i:=1) (N:=some 130) (v:=?_) (a':=?_) #[Y,Y,Z,Z,Z,Z,Z,Z,Z,Z,Z,Z,Z,Z,Z,Z,Z,Z] rfl rfl D2 hh (Or.inl ⟨D16,?_⟩) hHeld ?_ ?_
    rotate_left
    ·rintro w' ⟨s0,s1,s2⟩
     go_simp
     with_reducible rfl
    rotate_left
    ·simp only [Act.put,q1,q2,q3,i64_w,i32_w]
     rfl
    refine pure_ (i:=2) (N:=some 131) (v:=?_) (a':=?_) #[Y,Y,Y,Z,Z,Z,Z,Z,Z,Z,Z,Z,Z,Z,Z,Z,Z,Z] rfl rfl D2 hh (Or.inl ⟨D16,?_⟩) ?_ ?_
    rotate_left
    ·intro w'
     go_simp
     with_reducible rfl
    rotate_left
    ·simp only [Act.put,q1,q2,q3,i64_w,i32_w]
     rfl
    refine pure_ (i:=3) (N:=some 132) (v:=?_) (a':=?_) #[Y,Y,Y,Y,Z,Z,Z,Z,Z,Z,Z,Z,Z,Z,Z,Z,Z,Z] rfl rfl D2 hh (Or.inl ⟨D16,?_⟩) ?_ ?_
    rotate_left
    ·intro w'
     go_simp
     with_reducible rfl
    rotate_left
    ·simp only [Act.put,q1,q2,q3,i64_w,i32_w]
     rfl
    refine take_ (i:=4) (N:=some 133) (v:=?_) (a':=?_) #[Y,Y,Y,Y,Y,Z,Z,Z,Z,Z,Z,Z,Z,Z,Z,Z,Z,Z] rfl rfl D2 hh (Or.inl ⟨D16,?_⟩) hHeld ?_ ?_
    rotate_left
    ·rintro w' ⟨s0,s1,s2⟩
     go_simp
     with_reducible rfl
    rotate_left
    ·simp only [Act.put,q1,q2,q3,i64_w,i32_w]
     rfl
    refine pure_ (i:=5) (N:=some 134) (v:=?_) (a':=?_) #[Y,Y,Y,Y,Y,Y,Z,Z,Z,Z,Z,Z,Z,Z,Z,Z,Z,Z] rfl rfl D2 hh (Or.inl ⟨D16,?_⟩) ?_ ?_
    rotate_left
    ·intro w'
     go_simp
     with_reducible rfl
    rotate_left
    ·simp only [Act.put,q1,q2,q3,i64_w,i32_w]
     rfl
    refine pure_ (i:=6) (N:=some 135) (v:=?_) (a':=?_) #[Y,Y,Y,Y,Y,Y,Y,Z,Z,Z,Z,Z,Z,Z,Z,Z,Z,Z] rfl rfl D2 hh (Or.inl ⟨D16,?_⟩) ?_ ?_
    rotate_left
    ·intro w'
     go_simp
     with_reducible rfl
    rotate_left
    ·simp only [Act.put,q1,q2,q3,i64_w,i32_w]
     rfl
    refine take_ (i:=7) (N:=some 136) (v:=?_) (a':=?_) #[Y,Y,Y,Y,Y,Y,Y,Y,Z,Z,Z,Z,Z,Z,Z,Z,Z,Z] rfl rfl D2 hh (Or.inl ⟨D16,?_⟩) hHeld ?_ ?_
    rotate_left
    ·rintro w' ⟨s0,s1,s2⟩
     go_simp
     with_reducible rfl
    rotate_left
    ·simp only [Act.put,q1,q2,q3,i64_w,i32_w]
     rfl
    refine pure_ (i:=8) (N:=some 137) (v:=?_) (a':=?_) #[Y,Y,Y,Y,Y,Y,Y,Y,Y,Z,Z,Z,Z,Z,Z,Z,Z,Z] rfl rfl D2 hh (Or.inl ⟨D16,?_⟩) ?_ ?_
    rotate_left
    ·intro w'
     go_simp
     with_reducible rfl
    rotate_left
    ·simp only [Act.put,q1,q2,q3,i64_w,i32_w]
     rfl
    refine pure_ (i:=9) (N:=some 138) (v:=?_) (a':=?_) #[Y,Y,Y,Y,Y,Y,Y,Y,Y,Y,Z,Z,Z,Z,Z,Z,Z,Z] rfl rfl D2 hh (Or.inl ⟨D16,?_⟩) ?_ ?_
    rotate_left
    ·intro w'
     go_simp
     with_reducible rfl
    rotate_left
    ·simp only [Act.put,q1,q2,q3,i64_w,i32_w]
     rfl
    refine take_ (i:=10) (N:=some 139) (v:=?_) (a':=?_) #[Y,Y,Y,Y,Y,Y,Y,Y,Y,Y,Y,Z,Z,Z,Z,Z,Z,Z] rfl rfl D2 hh (Or.inl ⟨D16,?_⟩) hHeld ?_ ?_
    rotate_left
    ·rintro w' ⟨s0,s1,s2⟩
     go_simp
     with_reducible rfl
    rotate_left
    ·simp only [Act.put,q1,q2,q3,i64_w,i32_w]
     rfl
    refine pure_ (i:=11) (N:=some 140) (v:=?_) (a':=?_) #[Y,Y,Y,Y,Y,Y,Y,Y,Y,Y,Y,Y,Z,Z,Z,Z,Z,Z] rfl rfl D2 hh (Or.inl ⟨D16,?_⟩) ?_ ?_
    rotate_left
    ·intro w'
     go_simp
     with_reducible rfl
    rotate_left
    ·simp only [Act.put,q1,q2,q3,i64_w,i32_w]
     rfl
    refine pure_ (i:=12) (N:=some 141) (v:=?_) (a':=?_) #[Y,Y,Y,Y,Y,Y,Y,Y,Y,Y,Y,Y,Y,Z,Z,Z,Z,Z] rfl rfl D2 hh (Or.inl ⟨D16,?_⟩) ?_ ?_
    rotate_left
    ·intro w'
     go_simp
     with_reducible rfl
    rotate_left
    ·simp only [Act.put,q1,q2,q3,i64_w,i32_w]
     rfl
    refine take_ (i:=13) (N:=some 142) (v:=?_) (a':=?_) #[Y,Y,Y,Y,Y,Y,Y,Y,Y,Y,Y,Y,Y,Y,Z,Z,Z,Z] rfl rfl D2 hh (Or.inl ⟨D16,?_⟩) hHeld ?_ ?_
    rotate_left
    ·rintro w' ⟨s0,s1,s2⟩
     go_simp
     with_reducible rfl
    rotate_left
    ·simp only [Act.put,q1,q2,q3,i64_w,i32_w]
     rfl
    refine one_ (i:=14) (N:=some 143) #[Y,Y,Y,Y,Y,Y,Y,Y,Y,Y,Y,Y,Y,Y,Y,Z,Z,Z] rfl rfl D2 D5 (fun K hK=>?_)
    refine goes_ Try.func122 D2 rfl #[Value.int .u8 z,Value.slice A7 m1 c7] D16 rfl rfl D37 ?_
    have hS:=spec_l1Scale.calls kS z A7 c7 x7 (scale z x7) wr (F_C HF7.out hok7.2) (by rw [hok7.2];exact hle7) HSc.out
    rw [hok7.2] at hS
    refine hS.mono ?_
    clear hS
    rintro e w5 ⟨v5,rfl,ho5,hb5⟩
    refine ⟨_,rfl,?_⟩
    obtain ⟨A8,c8,e8⟩:=Kd.R_slice ho5
    rw [scale_length,hok7.2] at e8
    subst e8
    have hle8:m1≤c8:=(Kd.R_reads' ho5).2.1
    have HF8:=am (HE.out.fresh ho5)
    replace HE:=am (HE.out.below hb5)
    replace HF6:=am (Kd.F_below HF6.out hb5)
    replace hHeld:=(show _∧_∧_ from ⟨pw_cell_below hb5 hHeld.1,pw_cell_below hb5 hHeld.2.1,pw_cell_below hb5 hHeld.2.2⟩)
    clear ho5 hb5 HF7
    refine hK.out _ _ ⟨hHeld.1,hHeld.2.1,hHeld.2.2⟩ (fun hHeld=>?_)
    clear hK K
    refine norm_ (nA 143) ?_
    refine one_ (i:=15) (N:=some 144) #[Y,Y,Y,Y,Y,Y,Y,Y,Y,Y,Y,Y,Y,Y,Y,Y,Z,Z] rfl rfl D2 D5 (fun K hK=>?_)
    refine goes_ Try.func73 D2 rfl #[Value.slice A6 m1 c6,Value.slice A8 m1 c8] D16 rfl rfl D37 ?_
    have hS:=spec_l1Add.calls kA A6 c6 x6 A8 c8 (scale z x7) (addV x6 (scale z x7)) w5 (F_C HF6.out hok6.2) (by rw [hok6.2];exact hle6) (F_C HF8.out hok8.2) (by rw [hok8.2];exact hle8) HAd.out
    rw [hok6.2,hok8.2] at hS
    refine hS.mono ?_
    clear hS
    rintro e w6 ⟨v6,rfl,ho6,hb6⟩
    refine ⟨_,rfl,?_⟩
    obtain ⟨A9,c9,e9⟩:=Kd.R_slice ho6
    rw [hok9.2] at e9
    subst e9
    have hle9:m1≤c9:=(Kd.R_reads' ho6).2.1
    have HF9:=am (HE.out.fresh ho6)
    replace HE:=am (HE.out.below hb6)
    replace hHeld:=(show _∧_∧_ from ⟨pw_cell_below hb6 hHeld.1,pw_cell_below hb6 hHeld.2.1,pw_cell_below hb6 hHeld.2.2⟩)
    clear ho6 hb6 HF6 HF8
    refine hK.out _ _ ⟨hHeld.1,hHeld.2.1,hHeld.2.2⟩ (fun hHeld=>?_)
    clear hK K
    refine norm_ (nA 144) ?_
    refine pure_ (i:=16) (N:=some 145) (v:=?_) (a':=?_) #[Y,Y,Y,Y,Y,Y,Y,Y,Y,Y,Y,Y,Y,Y,Y,Y,Y,Z] rfl rfl D2 hh (Or.inl ⟨D16,?_⟩) ?_ ?_
    rotate_left
    ·intro w'
     go_simp
     with_reducible rfl
    rotate_left
    ·simp only [Act.put,q1,q2,q3,i64_w,i32_w]
     rfl
    obtain ⟨_,_,_,_,_,hcell3,_,_,hfr3⟩:=HE.out.rowA i hil
    refine last_ (i:=17) (N:=none) #[Y,Y,Y,Y,Y,Y,Y,Y,Y,Y,Y,Y,Y,Y,Y,Y,Y,Y] rfl rfl D2 D5 (fun K hK=>?_)
    refine skip_ (w1:=?_) D16 rfl ?_ ?_
    rotate_left
    ·go_simp
     rfl
    refine hK.out _ _ ?_
    clear hK K
    refine done_ D2 ?_
    have hE1:=HE.out.putA i hil hok9 hle9 HF9.out
    rw [← hx6,← hx7] at hE1
    clear HE HF9 hcell3 hfr3 hHeld
    generalize w6.setCell ⟨g1,i,none⟩ (.slice A9 m1 c9)=wr at hE1 ⊢
    have HE:=am hE1
    clear hE1 hx6 hx7 hok6 hok7 hok8 hok9 hle6 hle7 hle8 hle9 HSc HAd
    go_wp2_with fail
    replace HE:=am (HE.out.below (pd (Below.refl _ _)))
    have hk0:=HE.out.keyB
    obtain ⟨x6,A6,c6,hx6,hok6,hcell6,hle6,hF6,_⟩:=HE.out.rowB i hil
    obtain ⟨x7,A7,c7,hx7,hok7,hcell7,hle7,hF7,_⟩:=HE.out.rowB a hal
    have hok8:=el_scale hzb hok7
    have hok9:=el_add hok6 hok8
    obtain ⟨kS,hS⟩:=(SpecElim.spec_l1Scale.ev hzb hok7.1 (by rw [hok7.2];omega)).rounds
    obtain ⟨kA,hA⟩:=(SpecElim.spec_l1Add.ev hok6.1 hok8.1 (by rw [hok6.2,hok8.2]) (by rw [hok6.2];omega)).rounds
    have HSc:=am hS
    have HAd:=am hA
    clear hS hA
    refine start_ (n:=18) (S:=fun w'=>w'.cell? ⟨p8,0,none⟩=some (.slice (some ⟨g2,0,none⟩) len cap2)∧w'.cell? ⟨g2,i,none⟩=some (.slice A6 m2 c6)∧w'.cell? ⟨g2,a,none⟩=some (.slice A7 m2 c7)) (ds:=[17]) #[Z,Z,Z,Z,Z,Z,Z,Z,Z,Z,Z,Z,Z,Z,Z,Z,Z,Z] D2 rfl rfl ⟨hk0,hcell6,hcell7⟩ (fun hHeld=>?_)
    generalize wr.drew=wr at HE hHeld hF6 hF7 ⊢
    have HF6:=am hF6
    have HF7:=am hF7
    clear hF6 hF7 hk0 hcell6 hcell7
    refine pure_ (i:=0) (N:=some 146) (v:=?_) (a':=?_) #[Y,Z,Z,Z,Z,Z,Z,Z,Z,Z,Z,Z,Z,Z,Z,Z,Z,Z] rfl rfl D2 hh (Or.inl ⟨D16,?_⟩) ?_ ?_
    rotate_left
    ·intro w'
     go_simp
     with_reducible rfl
    rotate_left
    ·simp only [Act.put,q1,q2,q3,i64_w,i32_w]
     rfl
    refine take_ (i:=1) (N:=some 147) (v:=?_) (a':=?_) #[Y,Y,Z,Z,Z,Z,Z,Z,Z,Z,Z,Z,Z,Z,Z,Z,Z,Z] rfl rfl D2 hh (Or.inl ⟨D16,?_⟩) hHeld ?_ ?_
    rotate_left
    ·rintro w' ⟨s0,s1,s2⟩
     go_simp
     with_reducible rfl
    rotate_left
    ·simp only [Act.put,q1,q2,q3,i64_w,i32_w]
     rfl
    refine pure_ (i:=2) (N:=some 148) (v:=?_) (a':=?_) #[Y,Y,Y,Z,Z,Z,Z,Z,Z,Z,Z,Z,Z,Z,Z,Z,Z,Z] rfl rfl D2 hh (Or.inl ⟨D16,?_⟩) ?_ ?_
    rotate_left
    ·intro w'
     go_simp
     with_reducible rfl
    rotate_left
    ·simp only [Act.put,q1,q2,q3,i64_w,i32_w]
     rfl
    refine pure_ (i:=3) (N:=some 149) (v:=?_) (a':=?_) #[Y,Y,Y,Y,Z,Z,Z,Z,Z,Z,Z,Z,Z,Z,Z,Z,Z,Z] rfl rfl D2 hh (Or.inl ⟨D16,?_⟩) ?_ ?_
    rotate_left
    ·intro w'
     go_simp
     with_reducible rfl
    rotate_left
    ·simp only [Act.put,q1,q2,q3,i64_w,i32_w]
     rfl
    refine take_ (i:=4) (N:=some 150) (v:=?_) (a':=?_) #[Y,Y,Y,Y,Y,Z,Z,Z,Z,Z,Z,Z,Z,Z,Z,Z,Z,Z] rfl rfl D2 hh (Or.inl ⟨D16,?_⟩) hHeld ?_ ?_
    rotate_left
    ·rintro w' ⟨s0,s1,s2⟩
     go_simp
     with_reducible rfl
    rotate_left
    ·simp only [Act.put,q1,q2,q3,i64_w,i32_w]
     rfl
    refine pure_ (i:=5) (N:=some 151) (v:=?_) (a':=?_) #[Y,Y,Y,Y,Y,Y,Z,Z,Z,Z,Z,Z,Z,Z,Z,Z,Z,Z] rfl rfl D2 hh (Or.inl ⟨D16,?_⟩) ?_ ?_
    rotate_left
    ·intro w'
     go_simp
     with_reducible rfl
    rotate_left
    ·simp only [Act.put,q1,q2,q3,i64_w,i32_w]
     rfl
    refine pure_ (i:=6) (N:=some 152) (v:=?_) (a':=?_) #[Y,Y,Y,Y,Y,Y,Y,Z,Z,Z,Z,Z,Z,Z,Z,Z,Z,Z] rfl rfl D2 hh (Or.inl ⟨D16,?_⟩) ?_ ?_
    rotate_left
    ·intro w'
     go_simp
     with_reducible rfl
    rotate_left
    ·simp only [Act.put,q1,q2,q3,i64_w,i32_w]
     rfl
    refine take_ (i:=7) (N:=some 153) (v:=?_) (a':=?_) #[Y,Y,Y,Y,Y,Y,Y,Y,Z,Z,Z,Z,Z,Z,Z,Z,Z,Z] rfl rfl D2 hh (Or.inl ⟨D16,?_⟩) hHeld ?_ ?_
    rotate_left
    ·rintro w' ⟨s0,s1,s2⟩
     go_simp
     with_reducible rfl
    rotate_left
    ·simp only [Act.put,q1,q2,q3,i64_w,i32_w]
     rfl
    refine pure_ (i:=8) (N:=some 154) (v:=?_) (a':=?_) #[Y,Y,Y,Y,Y,Y,Y,Y,Y,Z,Z,Z,Z,Z,Z,Z,Z,Z] rfl rfl D2 hh (Or.inl ⟨D16,?_⟩) ?_ ?_
    rotate_left
    ·intro w'
     go_simp
     with_reducible rfl
    rotate_left
    ·simp only [Act.put,q1,q2,q3,i64_w,i32_w]
     rfl
    refine pure_ (i:=9) (N:=some 155) (v:=?_) (a':=?_) #[Y,Y,Y,Y,Y,Y,Y,Y,Y,Y,Z,Z,Z,Z,Z,Z,Z,Z] rfl rfl D2 hh (Or.inl ⟨D16,?_⟩) ?_ ?_
    rotate_left
    ·intro w'
     go_simp
     with_reducible rfl
    rotate_left
    ·simp only [Act.put,q1,q2,q3,i64_w,i32_w]
     rfl
    refine take_ (i:=10) (N:=some 156) (v:=?_) (a':=?_) #[Y,Y,Y,Y,Y,Y,Y,Y,Y,Y,Y,Z,Z,Z,Z,Z,Z,Z] rfl rfl D2 hh (Or.inl ⟨D16,?_⟩) hHeld ?_ ?_
    rotate_left
    ·rintro w' ⟨s0,s1,s2⟩
     go_simp
     with_reducible rfl
    rotate_left
    ·simp only [Act.put,q1,q2,q3,i64_w,i32_w]
     rfl
    refine pure_ (i:=11) (N:=some 157) (v:=?_) (a':=?_) #[Y,Y,Y,Y,Y,Y,Y,Y,Y,Y,Y,Y,Z,Z,Z,Z,Z,Z] rfl rfl D2 hh (Or.inl ⟨D16,?_⟩) ?_ ?_
    rotate_left
    ·intro w'
     go_simp
     with_reducible rfl
    rotate_left
    ·simp only [Act.put,q1,q2,q3,i64_w,i32_w]
     rfl
    refine pure_ (i:=12) (N:=some 158) (v:=?_) (a':=?_) #[Y,Y,Y,Y,Y,Y,Y,Y,Y,Y,Y,Y,Y,Z,Z,Z,Z,Z] rfl rfl D2 hh (Or.inl ⟨D16,?_⟩) ?_ ?_
    rotate_left
    ·intro w'
     go_simp
     with_reducible rfl
    rotate_left
    ·simp only [Act.put,q1,q2,q3,i64_w,i32_w]
     rfl
    refine take_ (i:=13) (N:=some 159) (v:=?_) (a':=?_) #[Y,Y,Y,Y,Y,Y,Y,Y,Y,Y,Y,Y,Y,Y,Z,Z,Z,Z] rfl rfl D2 hh (Or.inl ⟨D16,?_⟩) hHeld ?_ ?_
    rotate_left
    ·rintro w' ⟨s0,s1,s2⟩
     go_simp
     with_reducible rfl
    rotate_left
    ·simp only [Act.put,q1,q2,q3,i64_w,i32_w]
     rfl
    refine one_ (i:=14) (N:=some 160) #[Y,Y,Y,Y,Y,Y,Y,Y,Y,Y,Y,Y,Y,Y,Y,Z,Z,Z] rfl rfl D2 D5 (fun K hK=>?_)
    refine goes_ Try.func122 D2 rfl #[Value.int .u8 z,Value.slice A7 m2 c7] D16 rfl rfl D37 ?_
    have hS:=spec_l1Scale.calls kS z A7 c7 x7 (scale z x7) wr (F_C HF7.out hok7.2) (by rw [hok7.2];exact hle7) HSc.out
    rw [hok7.2] at hS
    refine hS.mono ?_
    clear hS
    rintro e w5 ⟨v5,rfl,ho5,hb5⟩
    refine ⟨_,rfl,?_⟩
    obtain ⟨A8,c8,e8⟩:=Kd.R_slice ho5
    rw [scale_length,hok7.2] at e8
    subst e8
    have hle8:m2≤c8:=(Kd.R_reads' ho5).2.1
    have HF8:=am (HE.out.fresh ho5)
    replace HE:=am (HE.out.below hb5)
    replace HF6:=am (Kd.F_below HF6.out hb5)
    replace hHeld:=(show _∧_∧_ from ⟨pw_cell_below hb5 hHeld.1,pw_cell_below hb5 hHeld.2.1,pw_cell_below hb5 hHeld.2.2⟩)
    clear ho5 hb5 HF7
    refine hK.out _ _ ⟨hHeld.1,hHeld.2.1,hHeld.2.2⟩ (fun hHeld=>?_)
    clear hK K
    refine norm_ (nA 160) ?_
    refine one_ (i:=15) (N:=some 161) #[Y,Y,Y,Y,Y,Y,Y,Y,Y,Y,Y,Y,Y,Y,Y,Y,Z,Z] rfl rfl D2 D5 (fun K hK=>?_)
    refine goes_ Try.func73 D2 rfl #[Value.slice A6 m2 c6,Value.slice A8 m2 c8] D16 rfl rfl D37 ?_
    have hS:=spec_l1Add.calls kA A6 c6 x6 A8 c8 (scale z x7) (addV x6 (scale z x7)) w5 (F_C HF6.out hok6.2) (by rw [hok6.2];exact hle6) (F_C HF8.out hok8.2) (by rw [hok8.2];exact hle8) HAd.out
    rw [hok6.2,hok8.2] at hS
    refine hS.mono ?_
    clear hS
    rintro e w6 ⟨v6,rfl,ho6,hb6⟩
    refine ⟨_,rfl,?_⟩
    obtain ⟨A9,c9,e9⟩:=Kd.R_slice ho6
    rw [hok9.2] at e9
    subst e9
    have hle9:m2≤c9:=(Kd.R_reads' ho6).2.1
    have HF9:=am (HE.out.fresh ho6)
    replace HE:=am (HE.out.below hb6)
    replace hHeld:=(show _∧_∧_ from ⟨pw_cell_below hb6 hHeld.1,pw_cell_below hb6 hHeld.2.1,pw_cell_below hb6 hHeld.2.2⟩)
    clear ho6 hb6 HF6 HF8
    refine hK.out _ _ ⟨hHeld.1,hHeld.2.1,hHeld.2.2⟩ (fun hHeld=>?_)
    clear hK K
    refine norm_ (nA 161) ?_
    refine pure_ (i:=16) (N:=some 162) (v:=?_) (a':=?_) #[Y,Y,Y,Y,Y,Y,Y,Y,Y,Y,Y,Y,Y,Y,Y,Y,Y,Z] rfl rfl D2 hh (Or.inl ⟨D16,?_⟩) ?_ ?_
    rotate_left
    ·intro w'
     go_simp
     with_reducible rfl
    rotate_left
    ·simp only [Act.put,q1,q2,q3,i64_w,i32_w]
     rfl
    obtain ⟨_,_,_,_,_,hcell3,_,_,hfr3⟩:=HE.out.rowB i hil
    refine last_ (i:=17) (N:=none) #[Y,Y,Y,Y,Y,Y,Y,Y,Y,Y,Y,Y,Y,Y,Y,Y,Y,Y] rfl rfl D2 D5 (fun K hK=>?_)
    refine skip_ (w1:=?_) D16 rfl ?_ ?_
    rotate_left
    ·go_simp
     rfl
    refine hK.out _ _ ?_
    clear hK K
    refine done_ D2 ?_
    have hE1:=HE.out.putB i hil hok9 hle9 HF9.out
    rw [← hx6,← hx7] at hE1
    clear HE HF9 hcell3 hfr3 hHeld
    generalize w6.setCell ⟨g2,i,none⟩ (.slice A9 m2 c9)=wr at hE1 ⊢
    have HE:=am hE1
    clear hE1 hx6 hx7 hok6 hok7 hok8 hok9 hle6 hle7 hle8 hle9 HSc HAd
    go_wp2_with fail
    go_roundg (len - i)
    case measure=>omega
    case rel=>exact ⟨i+1,D13,D13,by go_num,⟨by rw [HT.out.1,HT.out.2];exact HE.out⟩⟩
end
end
def spec_l2Identity.l0:Nat→Int→Int→List (List Int)→Option ((List (List Int)))
 | 0,_,_,_=>none
 | k+1,x10,x11,x486000=>if x11 < x10 then (if 0≤x11 then (if x11 < (x486000.length:Int) then (if x11 < ((rd_L1 x486000 x11).length:Int) then (spec_l2Identity.l0 k x10 (wrap64 (x11+1)) (x486000.set (x11:Int).toNat ((rd_L1 x486000 x11).set (x11:Int).toNat 1))) else (none)) else (none)) else (none)) else (some x486000)
def spec_l2Identity.f (k:Nat) (a0:Int):Option ((List (List Int))):=(spec_l2Blank.f k a0 a0).bind fun t482=>(spec_l2Identity.l0 k (t482.length:Int) 0 t482)
theorem spec_l2Identity.mono_l:∀ k,(∀ y0 y1 y2,LeO (spec_l2Identity.l0 k y0 y1 y2) (spec_l2Identity.l0 (k+1) y0 y1 y2))
 | 0=>fun _ _ _ r h=>by simp [spec_l2Identity.l0] at h
 | k+1=>by
  have ih0:=spec_l2Identity.mono_l k
  intro y0 y1 y2
  unfold spec_l2Identity.l0
  exact mm
theorem spec_l2Identity.mono:∀ a0 k,LeO (spec_l2Identity.f k a0) (spec_l2Identity.f (k+1) a0):=by
 intro a0 k
 have ih0:=spec_l2Identity.mono_l k
 unfold spec_l2Identity.f
 exact mm
theorem spec_l2Identity.calls (k:Nat) (a0:Int) (r:List (List Int)) (w:World) (h:spec_l2Identity.f k a0=some r) :
  Calls Try.prog 149 #[.int .i64 a0] w fun e w'=>∃ v0_:Value,e = .returned (.agg #[v0_])∧Kd.S (Kd.slice 5 (Kd.int .u8)) 24 w' w.heap.size (fun _=>True) v0_ r∧Below w.heap.size w w':=by
 have hu27:=Try.underlying27
 have HB:=am (Below.refl w.heap.size w)
 have H:=h
 unfold spec_l2Identity.f at H
 clear h
 obtain ⟨t482,A2,H⟩:=yo H
 have H':=am H
 clear H
 go_enter Try.func149,Try.ntmps149
 go_wp2_with (first|((with_reducible refine gD 2 ?_);refine gB (cs:=#[.slice none 0 0]) 27 ?_;intro gb481 hg w3 hbox hb;have BK481:=am (hbox);have GW481:=ye HB hg;replace HB:=yH HB hb;have GE481:=GW481;clear hb hbox hg)|((with_reducible refine gC 124 ?_);refine gM (some 7) Try.func124 (args:=#[.int .i64 a0, .int .i64 a0]) (spec_l2Blank.calls k a0 a0 t482 _ A2.out) ?_;rintro e w4 ⟨v483,rfl,ho0,hb⟩;refine ⟨_,rfl,?_⟩;have HO484:=am (Kd.S_lower ho0 (pz (yW HB)));replace BK481:=yb BK481 hb;replace HB:=yH HB hb;clear hb ho0)|((with_reducible refine gD 3 ?_);refine gB (cs:=#[.slice none 0 0]) 27 ?_;intro gb485 hg w5 hbox hb;replace HO484:=bS HO484 hb;have BK485:=am (hbox);have GW485:=ye HB hg;replace HB:=yH HB hb;have NB481_485:=yl BK481 hg;have NB485_481:=yg BK481 hg;replace BK481:=yb BK481 hb;have GE485:=GW485;clear hb hbox hg;obtain ⟨Ao6,co6,eo6⟩:=Kd.S_slice HO484.out;subst eo6;have hnb7:=NB485_481.out;have hnc7:=NB481_485.out;obtain ⟨hcz8_0,hfz8_0⟩:=yk1 BK485))
 go_loopg [11] k (fun kq v11 w'=>∃ (x11_1:Int) (x486000_1:List (List Int)) (u486000:Value),v11 = .int .i64 x11_1∧Aside0 (spec_l2Identity.l0 kq (t482.length:Int) x11_1 x486000_1=some r)∧Aside0 (kq≤k)∧Aside0 (Kd.S (Kd.slice 5 (Kd.int .u8)) 24 w' w.heap.size (fun _=>True) u486000 x486000_1)∧Aside0 (w'.heap[gb481]? = some (.cells #[(.slice none 0 0)] 27 (0,0)))∧Aside0 (w'.heap[gb485]? = some (.cells #[u486000] 27 (0,0)))∧Aside0 (Below w.heap.size w w'))
 case atStart=>exact ⟨(0),(t482),(.slice Ao6 t482.length co6),D1,H',⟨Nat.le_refl _⟩,⟨by refine sS ?_;exact Kd.S_mono (Kd.S_far (p:=⟨gb485,0,none⟩) (Kd.S_types HO484.out BK485.out D5) (fun _ hk=>hk.2) (.slice Ao6 t482.length co6)) (fun _ hk=>trivial)⟩,⟨yF BK481⟩,⟨by refine sB ?_;refine blk_put (cs:=#[.slice none 0 0]) ?_ 0 _ rfl;exact yB BK485⟩,⟨yW HB⟩⟩
 case round =>
  clear H'
  try clear c1
  try clear p2
  try clear c7
  try clear hcz8_0
  try clear hfz8_0
  obtain ⟨x11_1,x486000_1,u486000,rfl,HA,HK1,HO_486000,BK481,BK485,HB⟩:=hrel
  cases gk with
  | zero=>exact absurd HA.out (by simp [spec_l2Identity.l0])
  | succ k1 =>
   have H:=HA.out
   clear HA
   simp only [spec_l2Identity.l0] at H
   by_cases c9:x11_1 < (t482.length:Int)
   ·rw [if_pos c9] at H
    have c9b0:=decide_eq_true c9
    clear c9
    obtain ⟨c10,H⟩:=yi H
    have c10b0:=decide_eq_true c10
    clear c10
    obtain ⟨c11,H⟩:=yi H
    have c11b0:=decide_eq_true c11
    clear c11
    obtain ⟨c12,H⟩:=yi H
    have c12b0:=decide_eq_true c12
    clear c12
    generalize hy487:((rd_L1 x486000_1 x11_1).set (x11_1:Int).toNat 1:List Int)=y487 at H
    have Ny487:=am hy487.symm
    clear hy487
    generalize hy489:(x486000_1.set (x11_1:Int).toNat y487:List (List Int))=y489 at H
    have Ny489:=am hy489.symm
    clear hy489
    have H':=am H
    clear H
    have hnb14:=NB485_481.out
    have hnc14:=NB481_485.out
    obtain ⟨hcz15_0,hfz15_0⟩:=yk1 BK485
    obtain ⟨Ao16,co16,eo16⟩:=Kd.S_slice HO_486000.out
    subst eo16
    have p486:0≤(x11_1:Int):=od D0
    have q486:x11_1 < (x486000_1.length:Int):=od D0
    obtain ⟨ad486,A486_0,c486_0,e486,hx486_0,hl486_0,hi486_0⟩:=at_L1 (Kd.S_reads' HO_486000.out).2.2 x11_1 p486 q486
    cases e486
    obtain ⟨ce486,hce486,hMe486,hcc486⟩:=Kd.S_get HO_486000.out [] x11_1 p486 (by first|exact q486|exact od D0|(have e_:=(Kd.S_reads' HO_486000.out).1;omega))
    obtain ⟨ve486_0,rfl,ge486_0⟩:=hMe486
    have hv486_0:=hcc486 0 _ rfl
    rw [Nat.add_zero,show ((Kd.slice 5 (Kd.int .u8))).sz=1 from rfl,Nat.mul_one] at hv486_0
    replace hv486_0:=Option.some.inj (hv486_0.symm.trans hx486_0)
    rw [hv486_0] at ge486_0
    have HL486_0:=am (show Kd.R (Kd.int .u8) 5 _ _ _ _ (rd_L1 x486000_1 x11_1) from ge486_0)
    clear hv486_0 ge486_0
    have HX486_0:=am hx486_0
    clear hcc486 hce486
    have HR486_0:=am hi486_0
    have HC486_0:=am hl486_0
    clear hi486_0 hl486_0
    replace p486:=eq_true p486
    replace q486:=eq_true q486
    have p13:0≤(x11_1:Int):=od D0
    have q13:(x11_1:Int) < (((rd_L1 x486000_1 x11_1).length:Int):Int):=od D0
    obtain ⟨go13,co13,eo13,gb13,gl13,cl13,HG13⟩:=Kd.R_form HL486_0.out D13
    (first|cases eo13|(injection eo13 with ea_ en_ ec_;(first|subst ea_|(injection ea_ with ea_;subst ea_));subst ec_;clear en_))
    have GB13:=am gb13
    have GG13:=am HG13
    clear gb13 gl13 HG13
    obtain ⟨hx13_0,hf13_0⟩:=Kd.R_celln 0 HL486_0.out (x11_1:Int) p13 q13
    replace p13:=eq_true p13
    replace q13:=eq_true q13
    have hq17:(x11_1:Int) < (x486000_1.length:Int):=(by have h_:(x11_1:Int) < ((x486000_1.length:Int):Int):=od D0;first|exact h_|(have e_:=(Kd.S_reads' HO_486000.out).1;omega)|simpa only [List.length_set,List.length_set] using h_)
    obtain ⟨oki17,ce17,hcl17,hM17,hcc17,hok17,hbk17⟩:=Kd.S_borrow HO_486000.out [] (x11_1:Int) (od D0) hq17
    obtain ⟨ve17_0,rfl,ge17_0⟩:=hM17
    have hv17:=hcc17 0 _ rfl
    rw [Nat.add_zero,show ((Kd.slice 5 (Kd.int .u8))).sz=1 from rfl,Nat.mul_one] at hv17
    replace hv17:=Option.some.inj (hv17.symm.trans HX486_0.out)
    subst hv17
    clear hcc17 hcl17
    replace ge17_0:=(show Kd.R (Kd.int .u8) 5 _ _ _ _ (rd_L1 x486000_1 x11_1) from ge17_0)
    have HP17:=Kd.R_putg ge17_0 (x11_1:Int) 1
    go_wp2_with (first|((with_reducible refine gate_store (t:=5) (p:=20) rfl ?_);refine store_event (t:=5) (p:=20) (v:=?vo_w18) (w1:=(wr.setCell ⟨go13,(x11_1:Int).toNat,none⟩ (.int .u8 1))) ?hg ?ho ?hn ?hr ?_;(case ho=>rfl);(case hg=>rfl);(case hn=>rfl);(case hr=>first|(go_simp;done)|(go_simp;rfl));intro w18 hw;have hg:wr.grownBy w18 (some go13):=(by rw [hw];exact HP17.2);have hz_:Kd.R (Kd.int .u8) 5 w18 w.heap.size oki17 (.slice (some ⟨go13,0,none⟩) (rd_L1 x486000_1 x11_1).length c486_0) y487:=(by rw [hw,Ny487.out];exact HP17.1);have hp_:Kd.S (Kd.slice 5 (Kd.int .u8)) 24 w18 w.heap.size (fun _=>True) (.slice (some ad486) x486000_1.length co16) y489:=(by rw [Ny489.out];exact hbk17 hg (fun k_ e_=>by injection e_ with e_;subst e_;exact ge17_0.1 _ rfl) (Kd.M_row hz_));have hm_:=Kd.R_mono hz_ hok17;clear HP17 hbk17;have n0_:=am (hp_);have n1_:=am (blk_grown (g:=gb481) (o:=.cells #[.slice none 0 0] 27 (0,0)) (yB BK481) hg (Kd.R_ne HL486_0.out BK481.out D5));have n2_:=am (blk_grown (g:=gb485) (o:=.cells #[.slice (some ad486) x486000_1.length co16] 27 (0,0)) (yB BK485) hg (Kd.R_ne HL486_0.out BK485.out D5));have n3_:=am ((by rw [hw];exact pt (HB.out) GB13.out:Below w.heap.size w w18));have n4_:=am (hm_);have n5_:=am ((Kd.R_reads' hm_).2.1);clear HO_486000 BK481 BK485 HB HL486_0;have HO_486000:=n0_;have BK481:=n1_;have BK485:=n2_;have HB:=n3_;have HL490:=n4_;have HC488:=n5_;clear n0_ n1_ n2_ n3_ n4_ n5_ hg hw hp_ hz_ hm_ hok17))
    go_roundg k1
    case measure=>have:=HK1.out;omega
    case rel=>exact ⟨(wrap64 (x11_1+1)),(y489),(.slice (some ad486) x486000_1.length co16),D1,H',⟨D38⟩,⟨yS HO_486000⟩,⟨yB BK481⟩,⟨yB BK485⟩,⟨yW HB⟩⟩
   rw [if_neg c9] at H
   have c9b0:=decide_eq_false c9
   clear c9
   obtain rfl:=Option.some.inj H
   have hnb19:=NB485_481.out
   have hnc19:=NB481_485.out
   obtain ⟨hcz20_0,hfz20_0⟩:=yk1 BK485
   obtain ⟨Ao21,co21,eo21⟩:=Kd.S_slice HO_486000.out
   subst eo21
   obtain ⟨hcz22_0,hfz22_0⟩:=yk1 BK481
   go_wp2
   refine bodyPost_ret (results_cell_row rfl _ _ gb481 27 #[.slice Ao21 x486000_1.length co21] (0,0) _ rfl (by refine sB ?_;refine blk_put (cs:=#[.slice none 0 0]) ?_ 0 _ rfl;exact yB BK481) Try.underlying27 rfl D2) rfl ?_
   exact ⟨_,D3,by refine sS ?_;exact Kd.S_mono (Kd.S_far (p:=⟨gb481,0,none⟩) (Kd.S_types HO_486000.out BK481.out D5) (fun _ hk=>hk.2) (.slice Ao21 x486000_1.length co21)) (fun _ hk=>trivial),yW HB⟩
end Go.Proofs.Yteflgifmdojahaa.PFnRegenerated
-- SQUEEZED
