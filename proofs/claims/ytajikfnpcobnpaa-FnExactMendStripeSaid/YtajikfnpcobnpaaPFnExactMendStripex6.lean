-- Laid by a program of this session.
import Derived.Test.YtajikfnpcobnpaaVMendStripeB
import Derived.Test.YtajikfnpcobnpaaPFnExactMendStripex0
import Derived.Test.YtajikfnpcobnpaaPFnExactMendStripex3
namespace Go.Proofs.Ytajikfnpcobnpaa.PFnExactMendStripe
open Go.RowKit Go.Proofs.YtajikfnpcobnpaaW.PrintWords Go.Proofs.YtajikfnpcobnpaaW.PrintLast Go.Proofs.YtajikfnpcobnpaaW.PrintMore Go.Proofs.Ytajikfnpcobnpaa.KitS
attribute [local go_sem] max2_int min2_int max_two min_two max_three min_three max_four min_four   -- for this text's walks alone
set_option linter.unusedVariables false
set_option maxHeartbeats 8000000
set_option maxRecDepth 100000
set_option linter.unusedSimpArgs false

def spec_l1Add.l0:Nat→List Int→List Int→List Int→Int→Int→Option (List Int)
 | 0,_,_,_,_,_=>none
 | k+1,x0,x1,x5,x8,x9=>if x9 < x8 then (if 0≤x9 then (if x9 < (x0.length:Int) then (if x9 < (x1.length:Int) then (if x5.length < 140737488355328 then (spec_l1Add.l0 k x0 x1 (x5 ++ [Go.bits .xor .u8 (rd x0 x9) (rd x1 x9)]) x8 (wrap64 (x9+1))) else (none)) else (none)) else (none)) else (none)) else (some x5)
def spec_l1Add.f (k:Nat) (l0:List Int) (l1:List Int):Option (List Int):=spec_l1Add.l0 k l0 l1 ([]:List Int) (l0.length:Int) 0
theorem spec_l1Add.mono_l:∀ k,(∀ y0 y1 y2 y3 y4,LeO (spec_l1Add.l0 k y0 y1 y2 y3 y4) (spec_l1Add.l0 (k+1) y0 y1 y2 y3 y4))
 | 0=>fun _ _ _ _ _ r h=>by simp [spec_l1Add.l0] at h
 | k+1=>by
  have ih0:=spec_l1Add.mono_l k
  intro y0 y1 y2 y3 y4
  unfold spec_l1Add.l0
  exact mm
theorem spec_l1Add.mono:∀ a0 a1 k,LeO (spec_l1Add.f k a0 a1) (spec_l1Add.f (k+1) a0 a1):=by
 intro a0 a1 k
 have ih0:=spec_l1Add.mono_l k
 unfold spec_l1Add.f
 exact mm
def spec_l1Add.T5:Bool × List (List Nat × List Nat):=(true,[([],[]),([],[]),([],[]),([1,2],[1,2]),([3],[3]),([],[]),([],[]),([5,6],[5,6]),([7],[7]),([4,8],[4,8]),([9],[9]),([0,10],[0,10]),([11,11,0,1,2,3,4,5,6,7,8,9,10,11],[0,11])])
def spec_l1Add.B5:List Nat:=[0,0,0,6,14,0,0,96,224,510,1022,2047,4095]
theorem spec_l1Add.tab5:rtab .any (opsOf Try.f123 5)=spec_l1Add.T5:=by kernel_rfl
theorem spec_l1Add.bits5:waitsOk spec_l1Add.T5.2 spec_l1Add.B5=true:=by kernel_rfl
theorem spec_l1Add.calls (k:Nat) (A0:Option Addr) (c0:Nat) (l0:List Int) (A1:Option Addr) (c1:Nat) (l1:List Int) (r:List Int) (w:World) (hr0:Kd.C (Kd.int .u8) w A0 l0.length l0) (hc0:l0.length≤c0) (hr1:Kd.C (Kd.int .u8) w A1 l1.length l1) (hc1:l1.length≤c1) (h:spec_l1Add.f k l0 l1=some r) :
  Calls Try.prog 123 #[.slice A0 l0.length c0, .slice A1 l1.length c1] w fun e w'=>∃ v0_:Value,e = .returned (v0_)∧Kd.R (Kd.int .u8) 5 w' w.heap.size (fun _=>True) v0_ r∧Below w.heap.size w w':=by
 have HR0:=am hr0
 have HC0:=am hc0
 clear hr0 hc0
 have HR1:=am hr1
 have HC1:=am hc1
 clear hr1 hc1
 have HB:=am (Below.refl w.heap.size w)
 have H:=h
 unfold spec_l1Add.f at H
 clear h
 have H':=am H
 clear H
 go_enter Try.func123,Try.ntmps123
 go_wp2
 go_loopg [5,9] k (fun kq v5 v9 w'=>∃ (x5_1:List Int) (x9_1:Int),v9 = .int .i64 x9_1∧Aside0 (spec_l1Add.l0 kq l0 l1 x5_1 (l0.length:Int) x9_1=some r)∧Aside0 (kq≤k)∧Aside0 (Kd.R (Kd.int .u8) 5 w' w.heap.size (fun _=>True) v5 x5_1)∧Aside0 (Below w.heap.size w w'))
 case atStart=>exact ⟨(([]:List Int)),(0),D1,H',⟨Nat.le_refl _⟩,⟨D9⟩,⟨yW HB⟩⟩
 case round =>
  clear H'
  try clear c1
  try clear p2
  obtain ⟨x5_1,x9_1,rfl,HA,HK1,HO_5,HB⟩:=hrel
  cases gk with
  | zero=>exact absurd HA.out (by simp [spec_l1Add.l0])
  | succ k1 =>
   have H:=HA.out
   clear HA
   simp only [spec_l1Add.l0] at H
   by_cases c3:x9_1 < (l0.length:Int)
   ·rw [if_pos c3] at H
    have c3b0:=decide_eq_true c3
    clear c3
    obtain ⟨c4,H⟩:=yi H
    have c4b0:=decide_eq_true c4
    clear c4
    obtain ⟨c5,H⟩:=yi H
    have c5b0:=decide_eq_true c5
    clear c5
    obtain ⟨c6,H⟩:=yi H
    have c6b0:=decide_eq_true c6
    clear c6
    obtain ⟨c7,H⟩:=yi H
    have LMc7:=am c7
    clear c7
    generalize hy177:(x5_1 ++ [Go.bits .xor .u8 (rd l0 x9_1) (rd l1 x9_1)]:List Int)=y177 at H
    have Ny177:=am hy177.symm
    clear hy177
    have H':=am H
    clear H
    try go_wp2
    replace HO_5:=am (Kd.R_drew HO_5.out)
    replace HB:=am (pd HB.out)
    have p175:0≤(x9_1:Int):=od D0
    have q175:x9_1 < (l0.length:Int):=od D0
    obtain ⟨ad175,e175,hx175_0⟩:=Kd.at_int HR0.out x9_1 p175 q175
    have hw175_0:=hx175_0
    cases e175
    replace hx175_0:=(HB.out.cell (World.block_lt_of_cell? w _ hx175_0)).trans hx175_0
    replace p175:=eq_true p175
    replace q175:=eq_true q175
    have p176:0≤(x9_1:Int):=od D0
    have q176:x9_1 < (l1.length:Int):=od D0
    obtain ⟨ad176,e176,hx176_0⟩:=Kd.at_int HR1.out x9_1 p176 q176
    have hw176_0:=hx176_0
    cases e176
    replace hx176_0:=(HB.out.cell (World.block_lt_of_cell? w _ hx176_0)).trans hx176_0
    replace p176:=eq_true p176
    replace q176:=eq_true q176
    refine rS (n:=13) (S:=fun w'=>w'.cell? (ad175.add (x9_1).toNat)=some (.int .u8 (rd l0 x9_1))∧w'.cell? (ad176.add (x9_1).toNat)=some (.int .u8 (rd l1 x9_1))) (ds:=[]) [(0,12),(1,13),(2,14),(3,15),(5,17),(6,18),(7,19),(4,16),(8,20),(9,21),(10,0),(11,0),(12,5)] D2 rfl spec_l1Add.tab5 spec_l1Add.bits5 ⟨((HB.out.cell (World.block_lt_of_cell? w _ hw175_0)).trans hw175_0),((HB.out.cell (World.block_lt_of_cell? w _ hw176_0)).trans hw176_0)⟩ (fun hHeld HT_ HW_=>?_)
    generalize wr.drew=w8 at HO_5 HB hx175_0 hx176_0 hHeld ⊢
    refine rR ?_
    refine rO (N:=some 22) HT_ rfl rfl D2 D6 (fun K hK=>?_)
    refine value_ (w1:=?_) (v:=?_) D10 rfl ?_ ?_
    rotate_left 2
    ·go_simp
     constructor
     ·rfl
     rfl
    refine hK.out _ _ ⟨(World.cell?_alloc_lt _ _ _ (World.block_lt_of_cell? _ _ (((HB.out.cell (World.block_lt_of_cell? w _ hw175_0)).trans hw175_0)))).trans (((HB.out.cell (World.block_lt_of_cell? w _ hw175_0)).trans hw175_0)),(World.cell?_alloc_lt _ _ _ (World.block_lt_of_cell? _ _ (((HB.out.cell (World.block_lt_of_cell? w _ hw176_0)).trans hw176_0)))).trans (((HB.out.cell (World.block_lt_of_cell? w _ hw176_0)).trans hw176_0))⟩ (fun hHeld=>?_)
    clear hK K
    refine rN (a':=?_) ?_ ?_
    rotate_left
    ·show Act.put _ (some 22) _=_
     simp only [Act.put,q1,q2,q3,i64_w,i32_w]
     rfl
    refine rO (N:=some 23) HT_ rfl rfl D2 D6 (fun K hK=>?_)
    refine Kd.R_append_step (Kd.int .u8) (w0:=w) w.heap.size D10 (.tmp 12) (.tmp 22) 57 5 (.int .u8 0) 1 rfl Try.underlying57 info5 rfl D6 D8 u5 x5_1 (Go.bits .xor .u8 (rd l0 x9_1) (rd l1 x9_1)) [.int .u8 (Go.bits .xor .u8 (rd l0 x9_1) (rd l1 x9_1))] (fun _=>True) (fun _=>False) rfl rfl ?aP (fun _ hk=>hk.elim) ?aF ?aO ?aB ?aS ?aL ?_
    (case aP=>exact rfl)
    (case aB=>exact (yW HB))
    (case aF=>exact (fun _ _=>trivial))
    (case aO=>exact (yR HO_5))
    (case aS=>exact (pz (yW HB)))
    (case aL=>have:=LMc7.out;omega)
    intro v178 w9 ho hb hg hat
    rw [← Ny177.out] at ho
    have n0_:=am (hb)
    have n1_:=am (ho)
    clear HB
    clear HO_5
    have HB:=n0_
    have HO179:=n1_
    clear n0_ n1_
    clear ho hb hg hat
    refine hK.out _ _ ⟨((HB.out.cell (World.block_lt_of_cell? w _ hw175_0)).trans hw175_0),((HB.out.cell (World.block_lt_of_cell? w _ hw176_0)).trans hw176_0)⟩ (fun hHeld=>?_)
    clear hK K
    refine rN (a':=?_) ?_ ?_
    rotate_left
    ·show Act.put _ (some 23) _=_
     simp only [Act.put,q1,q2,q3,i64_w,i32_w]
     rfl
    refine rR ?_
    refine rD HT_ D2 ?_
    try go_wp2
    go_roundg k1
    case measure=>have:=HK1.out;omega
    case rel=>exact ⟨(y177),(wrap64 (x9_1+1)),D1,H',⟨D17⟩,⟨yR HO179⟩,⟨yW HB⟩⟩
   rw [if_neg c3] at H
   have c3b0:=decide_eq_false c3
   clear c3
   obtain rfl:=Option.some.inj H
   go_wp2
   go_ret
   exact ⟨_,D3,yR HO_5,yW HB⟩

def spec_l1Scale.l0:Nat→Int→List Int→List Int→Int→Int→Option (List Int)
 | 0,_,_,_,_,_=>none
 | k+1,x0,x5,x8,x9,x10=>if x10 < x9 then (if 0≤x10 then (if x10 < (x8.length:Int) then ((spec_l1Times.f k x0 (rd x8 x10)).bind fun t181=>(if x5.length < 140737488355328 then (spec_l1Scale.l0 k x0 (x5 ++ [t181]) x8 x9 (wrap64 (x10+1))) else (none))) else (none)) else (none)) else (some x5)
def spec_l1Scale.f (k:Nat) (a0:Int) (l1:List Int):Option (List Int):=spec_l1Scale.l0 k a0 ([]:List Int) l1 (l1.length:Int) 0
theorem spec_l1Scale.mono_l:∀ k,(∀ y0 y1 y2 y3 y4,LeO (spec_l1Scale.l0 k y0 y1 y2 y3 y4) (spec_l1Scale.l0 (k+1) y0 y1 y2 y3 y4))
 | 0=>fun _ _ _ _ _ r h=>by simp [spec_l1Scale.l0] at h
 | k+1=>by
  have ih0:=spec_l1Scale.mono_l k
  intro y0 y1 y2 y3 y4
  unfold spec_l1Scale.l0
  exact mm
theorem spec_l1Scale.mono:∀ a0 a1 k,LeO (spec_l1Scale.f k a0 a1) (spec_l1Scale.f (k+1) a0 a1):=by
 intro a0 a1 k
 have ih0:=spec_l1Scale.mono_l k
 unfold spec_l1Scale.f
 exact mm
theorem spec_l1Scale.calls (k:Nat) (a0:Int) (A1:Option Addr) (c1:Nat) (l1:List Int) (r:List Int) (w:World) (hr1:Kd.C (Kd.int .u8) w A1 l1.length l1) (hc1:l1.length≤c1) (h:spec_l1Scale.f k a0 l1=some r) :
  Calls Try.prog 124 #[.int .u8 a0, .slice A1 l1.length c1] w fun e w'=>∃ v0_:Value,e = .returned (v0_)∧Kd.R (Kd.int .u8) 5 w' w.heap.size (fun _=>True) v0_ r∧Below w.heap.size w w':=by
 have HR1:=am hr1
 have HC1:=am hc1
 clear hr1 hc1
 have HB:=am (Below.refl w.heap.size w)
 have H:=h
 unfold spec_l1Scale.f at H
 clear h
 have H':=am H
 clear H
 go_enter Try.func124,Try.ntmps124
 go_wp2
 go_loopg [5,10] k (fun kq v5 v10 w'=>∃ (x5_1:List Int) (x10_1:Int),v10 = .int .i64 x10_1∧Aside0 (spec_l1Scale.l0 kq a0 x5_1 l1 (l1.length:Int) x10_1=some r)∧Aside0 (kq≤k)∧Aside0 (Kd.R (Kd.int .u8) 5 w' w.heap.size (fun _=>True) v5 x5_1)∧Aside0 (Below w.heap.size w w'))
 case atStart=>exact ⟨(([]:List Int)),(0),D1,H',⟨Nat.le_refl _⟩,⟨D9⟩,⟨yW HB⟩⟩
 case round =>
  clear H'
  try clear c1
  try clear p2
  obtain ⟨x5_1,x10_1,rfl,HA,HK1,HO_5,HB⟩:=hrel
  cases gk with
  | zero=>exact absurd HA.out (by simp [spec_l1Scale.l0])
  | succ k1 =>
   have H:=HA.out
   clear HA
   simp only [spec_l1Scale.l0] at H
   by_cases c3:x10_1 < (l1.length:Int)
   ·rw [if_pos c3] at H
    have c3b0:=decide_eq_true c3
    clear c3
    obtain ⟨c4,H⟩:=yi H
    have c4b0:=decide_eq_true c4
    clear c4
    obtain ⟨c5,H⟩:=yi H
    have c5b0:=decide_eq_true c5
    clear c5
    obtain ⟨t181,A6,H⟩:=yo H
    obtain ⟨c7,H⟩:=yi H
    have LMc7:=am c7
    clear c7
    generalize hy182:(x5_1 ++ [t181]:List Int)=y182 at H
    have Ny182:=am hy182.symm
    clear hy182
    have H':=am H
    clear H
    have p180:0≤(x10_1:Int):=od D0
    have q180:x10_1 < (l1.length:Int):=od D0
    obtain ⟨ad180,e180,hx180_0⟩:=Kd.at_int HR1.out x10_1 p180 q180
    cases e180
    replace hx180_0:=(HB.out.cell (World.block_lt_of_cell? w _ hx180_0)).trans hx180_0
    replace p180:=eq_true p180
    replace q180:=eq_true q180
    go_wp2_with (first|(refine gC 174 ?_;refine gM (some 17) Try.func174 (args:=#[.int .u8 a0, .int .u8 (rd l1 x10_1)]) (spec_l1Times.calls k1 a0 (rd l1 x10_1) t181 _ A6.out) ?_;rintro e w' ⟨rfl,⟨nd,rfl⟩⟩;refine ⟨_,rfl,?_⟩)|((with_reducible refine gate_builtin (b:=.append) (xs:=#[.tmp 14, .tmp 18]) rfl ?_);at_builtin;refine Kd.R_append (Kd.int .u8) (w0:=w) w.heap.size rfl (.tmp 14) (.tmp 18) 57 5 (.int .u8 0) 1 rfl Try.underlying57 info5 rfl D6 D8 u5 x5_1 t181 [.int .u8 t181] (fun _=>True) (fun _=>False) rfl rfl D65 (fun _ hk=>hk.elim) D20 (by exact (yR HO_5)) D50 D25 (by have:=LMc7.out;omega) ?_;intro v183 w8 ho hb hg hat;rw [← Ny182.out] at ho;have n0_:=am (hb);have n1_:=am (ho);clear HB HO_5;have HB:=n0_;have HO184:=n1_;clear n0_ n1_ ho hb hg hat))
    go_roundg k1
    case measure=>have:=HK1.out;omega
    case rel=>exact ⟨(y182),(wrap64 (x10_1+1)),D1,H',⟨D17⟩,⟨yR HO184⟩,⟨yW HB⟩⟩
   rw [if_neg c3] at H
   have c3b0:=decide_eq_false c3
   clear c3
   obtain rfl:=Option.some.inj H
   go_wp2
   go_ret
   exact ⟨_,D3,yR HO_5,yW HB⟩

def spec_l2Own.l0:Nat→List (List Int)→Int→Int→List (List Int)→Option ((List (List Int)))
 | 0,_,_,_,_=>none
 | k+1,x8,x9,x10,x188000=>if x10 < x9 then (if 0≤x10 then (if x10 < (x8.length:Int) then ((some (([]:List Int):List Int)).bind fun y189=>(if y189.length+(rd_L3 x8 x10).length < 140737488355328 then (if x188000.length < 5864062014805 then (spec_l2Own.l0 k x8 x9 (wrap64 (x10+1)) (x188000 ++ [(y189 ++ (rd_L3 x8 x10))])) else (none)) else (none))) else (none)) else (none)) else (some x188000)
def spec_l2Own.f (k:Nat) (l0_0:List (List Int)):Option ((List (List Int))):=spec_l2Own.l0 k l0_0 (l0_0.length:Int) 0 ([]:List (List Int))
theorem spec_l2Own.mono_l:∀ k,(∀ y0 y1 y2 y3,LeO (spec_l2Own.l0 k y0 y1 y2 y3) (spec_l2Own.l0 (k+1) y0 y1 y2 y3))
 | 0=>fun _ _ _ _ r h=>by simp [spec_l2Own.l0] at h
 | k+1=>by
  have ih0:=spec_l2Own.mono_l k
  intro y0 y1 y2 y3
  unfold spec_l2Own.l0
  exact mm
theorem spec_l2Own.mono:∀ a0 k,LeO (spec_l2Own.f k a0) (spec_l2Own.f (k+1) a0):=by
 intro a0 k
 have ih0:=spec_l2Own.mono_l k
 unfold spec_l2Own.f
 exact mm
def spec_l2Own.T5:Bool × List (List Nat × List Nat):=(true,[([],[]),([0],[0]),([],[]),([],[]),([2,3],[2,3]),([4],[4]),([1,5,4],[1,5]),([0,1,2,3,4,5,6],[]),([7,6,6,0,1,2,3,4,5,6],[6,7])])
def spec_l2Own.B5:List Nat:=[0,1,0,0,12,28,63,127,255]
theorem spec_l2Own.tab5:rtab .any (opsOf Try.f202 5)=spec_l2Own.T5:=by kernel_rfl
theorem spec_l2Own.bits5:waitsOk spec_l2Own.T5.2 spec_l2Own.B5=true:=by kernel_rfl
theorem spec_l2Own.calls (k:Nat) (A0_0:Option Addr) (c0_0:Nat) (l0_0:List (List Int)) (r:List (List Int)) (w:World) (hr0_0:Kd.C (Kd.slice 5 (Kd.int .u8)) w A0_0 l0_0.length l0_0) (hc0_0:l0_0.length≤c0_0) (h:spec_l2Own.f k l0_0=some r) :
  Calls Try.prog 202 #[.agg #[.slice A0_0 l0_0.length c0_0]] w fun e w'=>∃ v0_:Value,e = .returned (.agg #[v0_])∧Kd.S (Kd.slice 5 (Kd.int .u8)) 57 w' w.heap.size (fun _=>True) v0_ r∧Below w.heap.size w w':=by
 have hu43:=Try.underlying43
 have HR0_0:=am hr0_0
 have HC0_0:=am hc0_0
 clear hr0_0 hc0_0
 have HB:=am (Below.refl w.heap.size w)
 have H:=h
 unfold spec_l2Own.f at H
 clear h
 have H':=am H
 clear H
 go_enter Try.func202,Try.ntmps202
 go_wp2_with (first|(refine gD 1 ?_;refine gB (cs:=#[.slice A0_0 l0_0.length c0_0]) 43 ?_;intro gb185 hg w2 hbox hb;have BK185:=am (hbox);have GW185:=ye HB hg;replace HB:=yH HB hb;have GE185:=GW185;clear hb hbox hg)|(refine gD 2 ?_;refine gB (cs:=#[.slice none 0 0]) 43 ?_;intro gb186 hg w3 hbox hb;have BK186:=am (hbox);have GW186:=ye HB hg;replace HB:=yH HB hb;have NB185_186:=yl BK185 hg;have NB186_185:=yg BK185 hg;replace BK185:=yb BK185 hb;have GE186:=GW186;clear hb hbox hg)|(refine gD 3 ?_;refine gB (cs:=#[.slice none 0 0]) 43 ?_;intro gb187 hg w4 hbox hb;have BK187:=am (hbox);have GW187:=ye HB hg;replace HB:=yH HB hb;have NB185_187:=yl BK185 hg;have NB187_185:=yg BK185 hg;replace BK185:=yb BK185 hb;have NB186_187:=yl BK186 hg;have NB187_186:=yg BK186 hg;replace BK186:=yb BK186 hb;have GE187:=GW187;clear hb hbox hg;have hnb5:=NB187_185.out;have hnc5:=NB185_187.out;have hnb6:=NB187_186.out;have hnc6:=NB186_187.out;obtain ⟨hcz7_0,hfz7_0⟩:=yk1 BK187;have hnb8:=NB185_186.out;have hnc8:=NB186_185.out;obtain ⟨hcz9_0,hfz9_0⟩:=yk1 BK185))
 go_loopg [10] k (fun kq v10 w'=>∃ (x10_1:Int) (x188000_1:List (List Int)) (u188000:Value),v10 = .int .i64 x10_1∧Aside0 (spec_l2Own.l0 kq l0_0 (l0_0.length:Int) x10_1 x188000_1=some r)∧Aside0 (kq≤k)∧Aside0 (Kd.S (Kd.slice 5 (Kd.int .u8)) 57 w' w.heap.size (fun _=>True) u188000 x188000_1)∧Aside0 (w'.heap[gb185]? = some (.cells #[(.slice A0_0 l0_0.length c0_0)] 43 (0,0)))∧Aside0 (w'.heap[gb186]? = some (.cells #[(.slice none 0 0)] 43 (0,0)))∧Aside0 (w'.heap[gb187]? = some (.cells #[u188000] 43 (0,0)))∧Aside0 (Below w.heap.size w w'))
 case atStart=>exact ⟨(0),(([]:List (List Int))),(.slice none 0 0),D1,H',⟨Nat.le_refl _⟩,⟨D40⟩,⟨yF BK185⟩,⟨yF BK186⟩,⟨by refine sB ?_;refine blk_put (cs:=#[.slice none 0 0]) ?_ 0 _ rfl;exact yB BK187⟩,⟨yW HB⟩⟩
 case round =>
  clear H'
  try clear c2
  try clear p2
  try clear c5
  try clear c6
  try clear c8
  try clear hcz7_0
  try clear hcz9_0
  try clear hfz7_0
  try clear hfz9_0
  obtain ⟨x10_1,x188000_1,u188000,rfl,HA,HK1,HO_188000,BK185,BK186,BK187,HB⟩:=hrel
  cases gk with
  | zero=>exact absurd HA.out (by simp [spec_l2Own.l0])
  | succ k1 =>
   have H:=HA.out
   clear HA
   simp only [spec_l2Own.l0] at H
   by_cases c10:x10_1 < (l0_0.length:Int)
   ·rw [if_pos c10] at H
    have c10b0:=decide_eq_true c10
    clear c10
    obtain ⟨c11,H⟩:=yi H
    have c11b0:=decide_eq_true c11
    clear c11
    obtain ⟨c12,H⟩:=yi H
    have c12b0:=decide_eq_true c12
    clear c12
    obtain ⟨y189,hy189,H⟩:=ys H
    have Ny189:=am hy189
    clear hy189
    obtain ⟨c13,H⟩:=yi H
    have LMc13:=am c13
    clear c13
    generalize hy192:(y189 ++ (rd_L3 l0_0 x10_1):List Int)=y192 at H
    have Ny192:=am hy192.symm
    clear hy192
    obtain ⟨c14,H⟩:=yi H
    have LMc14:=am c14
    clear c14
    generalize hy195:(x188000_1 ++ [y192]:List (List Int))=y195 at H
    have Ny195:=am hy195.symm
    clear hy195
    have H':=am H
    clear H
    have p188:0≤(x10_1:Int):=od D0
    have q188:x10_1 < (l0_0.length:Int):=od D0
    obtain ⟨ad188,A188_0,c188_0,e188,hx188_0,hl188_0,hi188_0⟩:=at_L3 HR0_0.out x10_1 p188 q188
    cases e188
    replace hx188_0:=(HB.out.cell (World.block_lt_of_cell? w _ hx188_0)).trans hx188_0
    have HR188_0:=am hi188_0
    have HC188_0:=am hl188_0
    clear hi188_0 hl188_0
    replace p188:=eq_true p188
    replace q188:=eq_true q188
    try go_wp2
    replace HO_188000:=am (Kd.S_drew HO_188000.out)
    replace BK185:=am (qd BK185.out)
    replace BK186:=am (qd BK186.out)
    replace BK187:=am (qd BK187.out)
    replace HB:=am (pd HB.out)
    refine rS (n:=9) (S:=fun w'=>w'.cell? ⟨gb187,0,none⟩=some (u188000)) (ds:=[8]) [(0,14),(3,17),(1,15),(2,0),(4,0),(5,0),(6,0),(7,21),(8,0)] D2 rfl spec_l2Own.tab5 spec_l2Own.bits5 ((blk_cell BK187.out 0).trans rfl) (fun hHeld HT_ HW_=>?_)
    generalize wr.drew=w15 at HO_188000 BK185 BK186 BK187 HB hHeld ⊢
    refine rR ?_
    refine rO (N:=some 16) HT_ rfl rfl D2 D6 (fun K hK=>?_)
    refine Kd.R_lit_step (Kd.int .u8) _ 5 ?hg (N:=16) ?hd (xs:=([]:List Int)) (inner:=[]) (ok:=fun _=>True) (okp:=fun _=>True) ?hr ?hp (fun _ hk=>hk) trivial (Below.refl _ _) (Nat.le_refl _) D38 ?_;(case hd=>rfl);(case hg=>rfl);(case hr=>first|(go_simp;done)|(go_simp;rfl));(case hp=>exact (Reps.none _ _))
    intro v190 w16 ho17 hb hg_ hnew_
    clear hg_ hnew_
    (first|rw [← Ny189.out] at ho17|(simp only [Int.reduceToNat] at ho17;rw [← Ny189.out] at ho17))
    replace HO_188000:=eS HO_188000 (Kd.R_base ho17) hb
    have HO191:=am (Kd.R_lower ho17 (pz (yW HB)))
    replace BK185:=yb BK185 hb
    replace BK186:=yb BK186 hb
    replace BK187:=yb BK187 hb
    replace HB:=yH HB hb
    clear hb ho17
    refine hK.out _ _ ((blk_cell BK187.out 0).trans rfl) (fun hHeld=>?_)
    clear hK K
    refine rN (a':=?_) ?_ ?_
    rotate_left
    ·show Act.put _ (some 16) _=_
     simp only [Act.put,q1,q2,q3,i64_w,i32_w]
     rfl
    refine rO (N:=some 18) HT_ rfl rfl D2 D6 (fun K hK=>?_)
    refine Kd.R_append_rows_step (Kd.int .u8) (w0:=w) w.heap.size D10 (.tmp 16) (.tmp 17) 57 5 (.int .u8 0) 1 rfl Try.underlying57 info5 rfl D6 D8 v190 y189 (rd_L3 l0_0 x10_1) _ _ _ (fun _=>True) (fun _=>False) rfl rfl ?aO ?aR (fun _ _ h=>h) (fun _ h=>h.elim) ?aF ?aB ?aS ?aL ?_
    (case aR=>repeat (first|exact (Kd.C_below HR188_0.out HB.out)|(with_reducible refine Kd.C_alloc ?_ _)|(with_reducible refine Kd.C_drewN ?_ _)|(with_reducible refine Kd.C_drew ?_)))
    (case aB=>exact (yW HB))
    (case aF=>exact (fun _ _=>trivial))
    (case aO=>exact (yR HO191))
    (case aS=>exact (pz (yW HB)))
    (case aL=>have:=LMc13.out;omega)
    intro v193 w18 ho hb hg hat
    rw [← Ny192.out] at ho
    have n0_:=am (Kd.S_after (ok:=(fun _=>True)) (yS HO_188000) hg hat)
    have n1_:=am (blk_grown (g:=gb185) (o:=.cells #[.slice (some ad188) l0_0.length c0_0] 43 (0,0)) (yB BK185) hg (Kd.R_ne HO191.out BK185.out D6))
    have n2_:=am (blk_grown (g:=gb186) (o:=.cells #[.slice none 0 0] 43 (0,0)) (yB BK186) hg (Kd.R_ne HO191.out BK186.out D6))
    have n3_:=am (blk_grown (g:=gb187) (o:=.cells #[u188000] 43 (0,0)) (yB BK187) hg (Kd.R_ne HO191.out BK187.out D6))
    have n4_:=am (hb)
    have n5_:=am (ho)
    clear HO_188000
    clear BK185
    clear BK186
    clear BK187
    clear HB
    clear HO191
    have HO_188000:=n0_
    have BK185:=n1_
    have BK186:=n2_
    have BK187:=n3_
    have HB:=n4_
    have HO194:=n5_
    clear n0_ n1_ n2_ n3_ n4_ n5_
    clear ho hb hg hat
    obtain ⟨Ao20,co20,eo20⟩:=Kd.R_slice HO194.out
    (first|subst eo20|(injection eo20 with f1_ f2_ f3_;have f4_:=f1_.symm;have f5_:=f3_.symm;clear f1_ f2_ f3_;subst f4_;subst f5_))
    refine hK.out _ _ ((blk_cell BK187.out 0).trans rfl) (fun hHeld=>?_)
    clear hK K
    refine rN (a':=?_) ?_ ?_
    rotate_left
    ·show Act.put _ (some 18) _=_
     simp only [Act.put,q1,q2,q3,i64_w,i32_w]
     rfl
    refine rO (N:=some 19) HT_ rfl rfl D2 D6 (fun K hK=>?_)
    refine value_ (w1:=?_) (v:=?_) D10 rfl ?_ ?_
    rotate_left 2
    ·go_simp
     constructor
     ·rfl
     rfl
    refine hK.out _ _ ((blk_cell (qa BK187.out _) 0).trans rfl) (fun hHeld=>?_)
    clear hK K
    refine rN (a':=?_) ?_ ?_
    rotate_left
    ·show Act.put _ (some 19) _=_
     simp only [Act.put,q1,q2,q3,i64_w,i32_w]
     rfl
    refine rO (N:=some 20) HT_ rfl rfl D2 D6 (fun K hK=>?_)
    refine Kd.S_append_step (Kd.slice 5 (Kd.int .u8)) (w0:=w) w.heap.size D10 (.tmp 15) (.tmp 19) 37 57 (.slice none 0 0) 24 rfl Try.underlying37 info57 rfl D6 D8 u188000 x188000_1 y192 [.slice Ao20 y192.length co20] (fun _=>True) (fun k_=>some k_=(.slice Ao20 y192.length co20:Value).ownBlock) rfl rfl ?aP (fun k_ hk_=>((Kd.R_mono (ok':=fun k_=>((fun _=>True)) k_∧some k_ ≠ (u188000:Value).ownBlock) (Kd.R_apart' (HO194.out) (Kd.S_typed HO_188000.out) D6) (fun k_ hk=>⟨trivial,hk.2⟩))).1 k_ hk_.symm) ?aF ?aO ?aB ?aS ?aL ?_
    (case aP=>exact Kd.M_row (Kd.R_mono (Kd.R_tight rfl (Kd.R_mono (ok':=fun k_=>((fun _=>True)) k_∧some k_ ≠ (u188000:Value).ownBlock) (Kd.R_apart' (HO194.out) (Kd.S_typed HO_188000.out) D6) (fun k_ hk=>⟨trivial,hk.2⟩))) (fun _ h_=>h_)))
    (case aB=>exact (yW HB))
    (case aF=>exact (fun _ _=>trivial))
    (case aO=>exact (by refine sS ?_;exact Kd.S_mono HO_188000.out (fun k_ hk=>⟨trivial,fun e_=>hk.2 e_⟩)))
    (case aS=>exact (pz (yW HB)))
    (case aL=>have:=LMc14.out;omega)
    intro v196 w19 ho hb hg hat
    rw [← Ny195.out] at ho
    have n0_:=am (blk_grown (g:=gb185) (o:=.cells #[.slice (some ad188) l0_0.length c0_0] 43 (0,0)) (yB BK185) hg (Kd.S_ne HO_188000.out BK185.out D6))
    have n1_:=am (blk_grown (g:=gb186) (o:=.cells #[.slice none 0 0] 43 (0,0)) (yB BK186) hg (Kd.S_ne HO_188000.out BK186.out D6))
    have n2_:=am (blk_grown (g:=gb187) (o:=.cells #[u188000] 43 (0,0)) (yB BK187) hg (Kd.S_ne HO_188000.out BK187.out D6))
    have n3_:=am (hb)
    have n4_:=am (ho)
    clear BK185
    clear BK186
    clear BK187
    clear HB
    clear HO_188000
    clear HO194
    have BK185:=n0_
    have BK186:=n1_
    have BK187:=n2_
    have HB:=n3_
    have HO197:=n4_
    clear n0_ n1_ n2_ n3_ n4_
    clear ho hb hg hat
    obtain ⟨Ao21,co21,eo21⟩:=Kd.S_slice HO197.out
    (first|subst eo21|(injection eo21 with f1_ f2_ f3_;have f4_:=f1_.symm;have f5_:=f3_.symm;clear f1_ f2_ f3_;subst f4_;subst f5_))
    refine hK.out _ _ ((blk_cell BK187.out 0).trans rfl) (fun hHeld=>?_)
    clear hK K
    refine rN (a':=?_) ?_ ?_
    rotate_left
    ·show Act.put _ (some 20) _=_
     simp only [Act.put,q1,q2,q3,i64_w,i32_w]
     rfl
    refine rR ?_
    refine rL (N:=none) HT_ rfl rfl D2 D6 (fun K hK=>?_)
    have hs22:w19.cell? ⟨gb187,0,none⟩=some (u188000):=(blk_cell BK187.out 0).trans rfl
    have hfs22:=blk_frozen BK187.out 0
    have hns22_0:=NB185_187.out
    have hns22_1:=NB186_187.out
    have hms22_0:=NB187_185.out
    have hms22_1:=NB187_186.out
    refine skip_ (w1:=?_) D10 rfl ?_ ?_
    rotate_left
    ·go_simp
     rfl
    refine hK.out _ _ ?_
    clear hK K
    refine rD HT_ D2 ?_
    try go_wp2
    go_roundg k1
    case measure=>have:=HK1.out;omega
    case rel=>exact ⟨(wrap64 (x10_1+1)),(y195),(.slice Ao21 y195.length co21),D1,H',⟨D17⟩,⟨by refine sS ?_;exact Kd.S_mono (Kd.S_far (p:=⟨gb187,0,none⟩) (Kd.S_types HO197.out BK187.out D6) (fun _ hk=>hk.2) (.slice Ao21 y195.length co21)) (fun _ hk=>trivial)⟩,⟨yF BK185⟩,⟨yF BK186⟩,⟨by refine sB ?_;refine blk_put (cs:=#[u188000]) ?_ 0 _ rfl;exact yB BK187⟩,⟨yW HB⟩⟩
   rw [if_neg c10] at H
   have c10b0:=decide_eq_false c10
   clear c10
   obtain rfl:=Option.some.inj H
   have hnb23:=NB187_185.out
   have hnc23:=NB185_187.out
   have hnb24:=NB187_186.out
   have hnc24:=NB186_187.out
   obtain ⟨hcz25_0,hfz25_0⟩:=yk1 BK187
   obtain ⟨Ao26,co26,eo26⟩:=Kd.S_slice HO_188000.out
   subst eo26
   have hnb27:=NB186_185.out
   have hnc27:=NB185_186.out
   obtain ⟨hcz28_0,hfz28_0⟩:=yk1 BK186
   go_wp2
   refine bodyPost_ret (results_cell_row rfl _ _ gb186 43 #[.slice Ao26 x188000_1.length co26] (0,0) _ rfl (by refine sB ?_;refine blk_put (cs:=#[.slice none 0 0]) ?_ 0 _ rfl;exact yB BK186) Try.underlying43 rfl D2) rfl ?_
   exact ⟨_,D3,by refine sS ?_;exact Kd.S_mono (Kd.S_far (p:=⟨gb186,0,none⟩) (Kd.S_types HO_188000.out BK186.out D6) (fun _ hk=>hk.2) (.slice Ao26 x188000_1.length co26)) (fun _ hk=>trivial),yW HB⟩

def spec_l1Inverse.f (k:Nat) (a0:Int):Option (Int):=if a0=0 then (some 0) else ((spec_l1Power.f k a0 254).bind fun t198=>(some t198))
theorem spec_l1Inverse.mono:∀ a0 k,LeO (spec_l1Inverse.f k a0) (spec_l1Inverse.f (k+1) a0):=by
 intro a0 k
 unfold spec_l1Inverse.f
 exact mm
theorem spec_l1Inverse.calls (k:Nat) (a0:Int) (r:Int) (w:World) (h:spec_l1Inverse.f k a0=some r) :
  Calls Try.prog 203 #[.int .u8 a0] w fun e w'=>e = .returned (.int .u8 r)∧Drawn0 w w':=by
 have H:=h
 unfold spec_l1Inverse.f at H
 clear h
 by_cases c2:a0=0
 ·rw [if_pos c2] at H
  have c2b0:(a0 == 0)=true:=beq_iff_eq.mpr c2
  have c2b1:(a0 != 0)=false:=bne_eq_false_iff_eq.mpr c2
  clear c2
  obtain rfl:=Option.some.inj H
  go_enter Try.func203,Try.ntmps203
  go_wp2
  go_ret
  exact ⟨D1,D5⟩
 rw [if_neg c2] at H
 have c2b0:(a0 == 0)=false:=beq_eq_false_iff_ne.mpr c2
 have c2b1:(a0 != 0)=true:=bne_iff_ne.mpr c2
 obtain ⟨t198,A3,H⟩:=yo H
 obtain rfl:=Option.some.inj H
 go_enter Try.func203,Try.ntmps203
 go_wp2_with (first|(refine gC 173 ?_;refine gM (some 6) Try.func173 (args:=#[.int .u8 a0, .int .i64 254]) (spec_l1Power.calls k a0 254 t198 _ A3.out) ?_;rintro e w' ⟨rfl,⟨nd,rfl⟩⟩;refine ⟨_,rfl,?_⟩))
 go_ret
 exact ⟨D1,D5⟩

end Go.Proofs.Ytajikfnpcobnpaa.PFnExactMendStripe
-- SHRUNK
-- HALVED
-- SQUEEZED
-- SQUEEZED2
-- SQUEEZED3
-- SQUEEZED4
-- SQUEEZED5
-- SQUEEZED6
