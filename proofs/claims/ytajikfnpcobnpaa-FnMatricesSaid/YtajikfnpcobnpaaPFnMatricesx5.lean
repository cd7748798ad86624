import Derived.Test.YtajikfnpcobnpaaVFnMatricesB
import Derived.Test.YtajikfnpcobnpaaPFnMatricesx0
import Derived.Test.YtajikfnpcobnpaaPFnMatricesx2
namespace Go.Proofs.Ytajikfnpcobnpaa.PFnMatrices
open Go.RowKit Go.Proofs.YtajikfnpcobnpaaW.PrintWords Go.Proofs.YtajikfnpcobnpaaW.PrintLast Go.Proofs.YtajikfnpcobnpaaW.PrintMore Go.Proofs.Ytajikfnpcobnpaa.KitS
attribute [local go_sem] max2_int min2_int max_two min_two max_three min_three max_four min_four
set_option linter.unusedVariables false
set_option maxHeartbeats 8000000
set_option maxRecDepth 100000
set_option linter.unusedSimpArgs false
mutual
def spec_l2Product.l0:Nat→List (List Int)→Int→Int→List (List Int)→List (List Int)→Option ((List (List Int)))
 | 0,_,_,_,_,_=>none
 | k+1,x22,x23,x24,x333000,x339000=>if x24 < x23 then (if 0≤x24 then (if x24 < (x22.length:Int) then (spec_l2Product.l1 k x24 x22 x23 x24 (rd_L1 x22 x24) ((rd_L1 x22 x24).length:Int) 0 x333000 x339000) else (none)) else (none)) else (some x339000)
def spec_l2Product.l1:Nat→Int→List (List Int)→Int→Int→List Int→Int→Int→List (List Int)→List (List Int)→Option ((List (List Int)))
 | 0,_,_,_,_,_,_,_,_,_=>none
 | k+1,x6,x22,x23,x24,x29,x30,x31,x333000,x339000=>if x31 < x30 then (if 0≤x31 then (if x31 < (x29.length:Int) then (if x31 < (x333000.length:Int) then (spec_l2Product.l2 k x6 (rd x29 x31) x22 x23 x24 x29 x30 x31 (rd_L1 x333000 x31) ((rd_L1 x333000 x31).length:Int) 0 x333000 x339000) else (none)) else (none)) else (none)) else (spec_l2Product.l0 k x22 x23 (wrap64 (x24+1)) x333000 x339000)
def spec_l2Product.l2:Nat→Int→Int→List (List Int)→Int→Int→List Int→Int→Int→List Int→Int→Int→List (List Int)→List (List Int)→Option ((List (List Int)))
 | 0,_,_,_,_,_,_,_,_,_,_,_,_,_=>none
 | k+1,x6,x9,x22,x23,x24,x29,x30,x31,x40,x41,x42,x333000,x339000=>if x42 < x41 then (if 0≤x42 then (if x42 < (x40.length:Int) then (if 0≤x6 then (if x6 < (x339000.length:Int) then (if x42 < ((rd_L1 x339000 x6).length:Int) then ((spec_l1Times.f k x9 (rd x40 x42)).bind fun t345=>(spec_l2Product.l2 k x6 x9 x22 x23 x24 x29 x30 x31 x40 x41 (wrap64 (x42+1)) x333000 (x339000.set (x6:Int).toNat ((rd_L1 x339000 x6).set (x42:Int).toNat (Go.bits .xor .u8 (rd (rd_L1 x339000 x6) x42) t345))))) else (none)) else (none)) else (none)) else (none)) else (none)) else (spec_l2Product.l1 k x6 x22 x23 x24 x29 x30 (wrap64 (x31+1)) x333000 x339000)
end
def spec_l2Product.f (k:Nat) (l0_0:List (List Int)) (l1_0:List (List Int)):Option ((List (List Int))):=if 0 < (l1_0.length:Int) then ((spec_l2Blank.f k (l0_0.length:Int) ((rd_L1 l1_0 0).length:Int)).bind fun t335=>(spec_l2Product.l0 k l0_0 (l0_0.length:Int) 0 l1_0 t335)) else (none)
theorem spec_l2Product.mono_l:∀ k,(∀ y0 y1 y2 y3 y4,LeO (spec_l2Product.l0 k y0 y1 y2 y3 y4) (spec_l2Product.l0 (k+1) y0 y1 y2 y3 y4))∧(∀ y0 y1 y2 y3 y4 y5 y6 y7 y8,LeO (spec_l2Product.l1 k y0 y1 y2 y3 y4 y5 y6 y7 y8) (spec_l2Product.l1 (k+1) y0 y1 y2 y3 y4 y5 y6 y7 y8))∧(∀ y0 y1 y2 y3 y4 y5 y6 y7 y8 y9 y10 y11 y12,LeO (spec_l2Product.l2 k y0 y1 y2 y3 y4 y5 y6 y7 y8 y9 y10 y11 y12) (spec_l2Product.l2 (k+1) y0 y1 y2 y3 y4 y5 y6 y7 y8 y9 y10 y11 y12))
 | 0=>⟨fun _ _ _ _ _ r h=>by simp [spec_l2Product.l0] at h,fun _ _ _ _ _ _ _ _ _ r h=>by simp [spec_l2Product.l1] at h,fun _ _ _ _ _ _ _ _ _ _ _ _ _ r h=>by simp [spec_l2Product.l2] at h⟩
 | k+1=>by
  obtain ⟨ih0,ih1,ih2⟩:=spec_l2Product.mono_l k
  refine ⟨?_,?_,?_⟩
  ·intro y0 y1 y2 y3 y4
   unfold spec_l2Product.l0
   exact mm
  ·intro y0 y1 y2 y3 y4 y5 y6 y7 y8
   unfold spec_l2Product.l1
   exact mm
  intro y0 y1 y2 y3 y4 y5 y6 y7 y8 y9 y10 y11 y12
  unfold spec_l2Product.l2
  exact mm
theorem spec_l2Product.mono:∀ a0 a1 k,LeO (spec_l2Product.f k a0 a1) (spec_l2Product.f (k+1) a0 a1):=by
 intro a0 a1 k
 obtain ⟨ih0,ih1,ih2⟩:=spec_l2Product.mono_l k
 unfold spec_l2Product.f
 exact mm
def spec_l2Product.T1:Bool × List (List Nat × List Nat):=(true,[([],[]),([0],[0]),([1],[1]),([],[]),([3],[3]),([4],[4]),([5],[5]),([6],[6]),([2,7],[2,7]),([],[]),([9,8,8,0,1,2,3,4,5,6,7,8,9],[8,9])])
def spec_l2Product.B1:List Nat:=[0,1,3,0,8,24,56,120,255,0,1023]
theorem spec_l2Product.tab1:rtab .any (opsOf Try.f170 1)=spec_l2Product.T1:=by kernel_rfl
theorem spec_l2Product.bits1:waitsOk spec_l2Product.T1.2 spec_l2Product.B1=true:=by kernel_rfl
def spec_l2Product.T11:Bool × List (List Nat × List Nat):=(true,[([],[]),([0],[0]),([],[]),([1,2],[1,2]),([3],[3]),([],[]),([4,5],[4,5]),([6],[6]),([],[]),([],[]),([8,9],[8,9]),([7,10],[7,10]),([4,5,0,1,2,3,4,5,6,7,8,9,10,11],[4,5]),([12,11,10,0,1,2,3,4,5,6,7,8,9,10,11],[11,12])])
def spec_l2Product.B11:List Nat:=[0,1,0,7,15,0,63,127,0,0,768,2047,4095,8191]
theorem spec_l2Product.tab11:rtab .any (opsOf Try.f170 11)=spec_l2Product.T11:=by kernel_rfl
theorem spec_l2Product.bits11:waitsOk spec_l2Product.T11.2 spec_l2Product.B11=true:=by kernel_rfl
theorem spec_l2Product.calls (k:Nat) (A0_0:Option Addr) (c0_0:Nat) (l0_0:List (List Int)) (A1_0:Option Addr) (c1_0:Nat) (l1_0:List (List Int)) (r:List (List Int)) (w:World) (hr0_0:Kd.C (Kd.slice 5 (Kd.int .u8)) w A0_0 l0_0.length l0_0) (hc0_0:l0_0.length≤c0_0) (hr1_0:Kd.C (Kd.slice 5 (Kd.int .u8)) w A1_0 l1_0.length l1_0) (hc1_0:l1_0.length≤c1_0) (h:spec_l2Product.f k l0_0 l1_0=some r) :
  Calls Try.prog 170 #[.agg #[.slice A0_0 l0_0.length c0_0], .agg #[.slice A1_0 l1_0.length c1_0]] w fun e w'=>∃ v0_:Value,e = .returned (.agg #[v0_])∧Kd.S (Kd.slice 5 (Kd.int .u8)) 57 w' w.heap.size (fun _=>True) v0_ r∧Below w.heap.size w w':=by
 have hu43:=Try.underlying43
 have HR0_0:=am hr0_0
 have HC0_0:=am hc0_0
 clear hr0_0 hc0_0
 have HR1_0:=am hr1_0
 have HC1_0:=am hc1_0
 clear hr1_0 hc1_0
 have HB:=am (Below.refl w.heap.size w)
 have H:=h
 unfold spec_l2Product.f at H
 clear h
 by_cases c3:0 < (l1_0.length:Int)
 ·rw [if_pos c3] at H
  have c3b0:=decide_eq_true c3
  have c3b1:decide (0 < l1_0.length)=true:=decide_eq_true D23
  clear c3
  obtain ⟨t335,A4,H⟩:=yo H
  have H':=am H
  clear H
  go_enter Try.func170,Try.ntmps170
  try go_wp2_with (first|((with_reducible refine gD 2 ?_);refine gB (cs:=#[.slice A0_0 l0_0.length c0_0]) 43 ?_;intro gb331 hg w5 hbox hb;have BK331:=am (hbox);have GW331:=ye HB hg;replace HB:=yH HB hb;have GE331:=GW331;clear hb hbox hg)|((with_reducible refine gD 3 ?_);refine gB (cs:=#[.slice A1_0 l1_0.length c1_0]) 43 ?_;intro gb332 hg w6 hbox hb;have BK332:=am (hbox);have GW332:=ye HB hg;replace HB:=yH HB hb;have NB331_332:=yl BK331 hg;have NB332_331:=yg BK331 hg;replace BK331:=yb BK331 hb;have GE332:=GW332;clear hb hbox hg)|((with_reducible refine gD 4 ?_);refine gB (cs:=#[.slice none 0 0]) 43 ?_;intro gb333 hg w7 hbox hb;have BK333:=am (hbox);have GW333:=ye HB hg;replace HB:=yH HB hb;have NB331_333:=yl BK331 hg;have NB333_331:=yg BK331 hg;replace BK331:=yb BK331 hb;have NB332_333:=yl BK332 hg;have NB333_332:=yg BK332 hg;replace BK332:=yb BK332 hb;have GE333:=GW333;clear hb hbox hg))
  replace BK331:=am (qd BK331.out)
  replace BK332:=am (qd BK332.out)
  replace BK333:=am (qd BK333.out)
  replace HB:=am (pd HB.out)
  have p334:0≤(0:Int):=D23
  have q334:0 < (l1_0.length:Int):=od D1
  obtain ⟨ad334,A334_0,c334_0,e334,hx334_0,hl334_0,hi334_0⟩:=at_L1 HR1_0.out 0 p334 q334
  have hw334_0:=hx334_0
  (try rw [show ((0:Int)).toNat=0 from rfl] at hw334_0)
  (try rw [show 0*1=0 from rfl] at hw334_0)
  (try rw [Addr.add_zero'] at hw334_0)
  cases e334
  have qi334:(0 < l1_0.length)=True:=eq_true D23
  (try rw [show ((0:Int)).toNat=0 from rfl] at hx334_0)
  (try rw [Addr.add_zero'] at hx334_0)
  replace hx334_0:=(HB.out.cell (World.block_lt_of_cell? w _ hx334_0)).trans hx334_0
  have HR334_0:=am hi334_0
  have HC334_0:=am hl334_0
  clear hi334_0 hl334_0
  replace p334:=eq_true p334
  replace q334:=eq_true q334
  refine start_ (n:=11) (S:=fun w'=>w'.cell? ⟨gb331,0,none⟩=some (.slice A0_0 l0_0.length c0_0)∧w'.cell? ⟨gb332,0,none⟩=some (.slice (some ad334) l1_0.length c1_0)∧w'.cell? ad334=some (.slice A334_0 (rd_L1 l1_0 0).length c334_0)) (ds:=[]) #[Z,Z,Z,Z,Z,Z,Z,Z,Z,Z,Z] D3 rfl rfl ⟨yk BK331 0,yk BK332 0,((HB.out.cell (World.block_lt_of_cell? w _ hw334_0)).trans hw334_0)⟩ (fun hHeld=>?_);refine with_tabW spec_l2Product.tab1 spec_l2Product.bits1 (fun HT_ HW_=>?_)
  generalize w7.drew=w8 at BK331 BK332 BK333 HB HR334_0 hx334_0 hHeld ⊢
  refine pure_ (i:=0) (N:=some 12) (v:=?_) (a':=?_) #[Y,Z,Z,Z,Z,Z,Z,Z,Z,Z,Z] rfl rfl (any_of HT_.out D3) hh (Or.inl ⟨D35,?_⟩) ?_ ?_
  rotate_left
  ·intro w'
   go_simp
   with_reducible rfl
  rotate_left
  ·simp only [Act.put,q1,q2,q3,i64_w,i32_w]
   rfl
  refine pure_ (i:=3) (N:=some 15) (v:=?_) (a':=?_) #[Y,Z,Z,Y,Z,Z,Z,Z,Z,Z,Z] rfl rfl (any_of HT_.out D3) hh (Or.inl ⟨D35,?_⟩) ?_ ?_
  rotate_left
  ·intro w'
   go_simp
   with_reducible rfl
  rotate_left
  ·simp only [Act.put,q1,q2,q3,i64_w,i32_w]
   rfl
  refine take_ (i:=1) (N:=some 13) (v:=?_) (a':=?_) #[Y,Y,Z,Y,Z,Z,Z,Z,Z,Z,Z] rfl rfl (take_ofW HT_.out HW_.out D3) hh (Or.inl ⟨D35,?_⟩) hHeld ?_ ?_
  rotate_left
  ·rintro w' ⟨s0,s1,s2⟩
   go_simp
   with_reducible rfl
  rotate_left
  ·simp only [Act.put,q1,q2,q3,i64_w,i32_w]
   rfl
  refine pure_ (i:=2) (N:=some 14) (v:=?_) (a':=?_) #[Y,Y,Y,Y,Z,Z,Z,Z,Z,Z,Z] rfl rfl (any_of HT_.out D3) hh (Or.inl ⟨D35,?_⟩) ?_ ?_
  rotate_left
  ·intro w'
   go_simp
   with_reducible rfl
  rotate_left
  ·simp only [Act.put,q1,q2,q3,i64_w,i32_w]
   rfl
  refine take_ (i:=4) (N:=some 16) (v:=?_) (a':=?_) #[Y,Y,Y,Y,Y,Z,Z,Z,Z,Z,Z] rfl rfl (take_ofW HT_.out HW_.out D3) hh (Or.inl ⟨D35,?_⟩) hHeld ?_ ?_
  rotate_left
  ·rintro w' ⟨s0,s1,s2⟩
   go_simp
   with_reducible rfl
  rotate_left
  ·simp only [Act.put,q1,q2,q3,i64_w,i32_w]
   rfl
  refine pure_ (i:=5) (N:=some 17) (v:=?_) (a':=?_) #[Y,Y,Y,Y,Y,Y,Z,Z,Z,Z,Z] rfl rfl (any_of HT_.out D3) hh (Or.inl ⟨D35,?_⟩) ?_ ?_
  rotate_left
  ·intro w'
   go_simp
   with_reducible rfl
  rotate_left
  ·simp only [Act.put,q1,q2,q3,i64_w,i32_w]
   rfl
  refine take_ (i:=6) (N:=some 18) (v:=?_) (a':=?_) #[Y,Y,Y,Y,Y,Y,Y,Z,Z,Z,Z] rfl rfl (take_ofW HT_.out HW_.out D3) hh (Or.inl ⟨D35,?_⟩) hHeld ?_ ?_
  rotate_left
  ·rintro w' ⟨s0,s1,s2⟩
   go_simp
   with_reducible rfl
  rotate_left
  ·simp only [Act.put,q1,q2,q3,i64_w,i32_w]
   rfl
  refine pure_ (i:=7) (N:=some 19) (v:=?_) (a':=?_) #[Y,Y,Y,Y,Y,Y,Y,Y,Z,Z,Z] rfl rfl (any_of HT_.out D3) hh (Or.inl ⟨D35,?_⟩) ?_ ?_
  rotate_left
  ·intro w'
   go_simp
   with_reducible rfl
  rotate_left
  ·simp only [Act.put,q1,q2,q3,i64_w,i32_w]
   rfl
  refine join_ (σ:=Value × Nat) 1 #[Y,Y,Y,Y,Y,Y,Y,Y,Y,Y,Z] (fun s_=>[(20, .agg #[s_.1]),(5, .pointer (some ⟨s_.2,0,none⟩))]) (fun s_ w'=>(w'.cell? ⟨gb331,0,none⟩=some (.slice A0_0 l0_0.length c0_0)∧w'.cell? ⟨gb332,0,none⟩=some (.slice (some ad334) l1_0.length c1_0)∧w'.cell? ad334=some (.slice A334_0 (rd_L1 l1_0 0).length c334_0))∧(Kd.S (Kd.slice 5 (Kd.int .u8)) 57 w' w.heap.size (fun _=>True) s_.1 t335)∧(w'.heap[gb331]? = some (.cells #[.slice A0_0 l0_0.length c0_0] 43 (0,0)))∧(w'.heap[gb332]? = some (.cells #[.slice (some ad334) l1_0.length c1_0] 43 (0,0)))∧(w'.heap[gb333]? = some (.cells #[.slice none 0 0] 43 (0,0)))∧(w'.heap[s_.2]? = some (.cells #[.slice none 0 0] 43 (0,0)))∧(w.heap.size≤s_.2)∧(w.heap.size≤s_.2)∧(gb331 ≠ s_.2)∧(s_.2 ≠ gb331)∧(gb332 ≠ s_.2)∧(s_.2 ≠ gb332)∧(gb333 ≠ s_.2)∧(s_.2 ≠ gb333)∧(Below w.heap.size w w')) ?_ ?_
  rotate_left
  ·intro hCont
   refine two_ (i:=8) (j:=9) (Ni:=some 20) (Nj:=some 5) #[Y,Y,Y,Y,Y,Y,Y,Y,Y,Z,Z] #[Y,Y,Y,Y,Y,Y,Y,Y,Z,Y,Z] rfl rfl rfl rfl (two_of HT_.out D3) D24 D24 (fun K hK=>?_) (fun K hK=>?_)
   ·skip
    refine goes_ Try.func172 D3 rfl #[.int .i64 (l0_0.length:Int), .int .i64 ((rd_L1 l1_0 0).length:Int)] D35 rfl rfl D27 ?_
    with_reducible refine (spec_l2Blank.calls k (l0_0.length:Int) ((rd_L1 l1_0 0).length:Int) t335 _ A4.out).mono ?_
    rintro e w9 ⟨v336,rfl,ho0,hb⟩
    refine ⟨_,rfl,?_⟩
    have HO337:=am (Kd.S_lower ho0 (pz (yW HB)))
    replace BK331:=yb BK331 hb
    replace BK332:=yb BK332 hb
    replace BK333:=yb BK333 hb
    replace HB:=yH HB hb
    (try clear hb)
    (try clear hb2)
    (try clear hk)
    (try clear hi)
    (try clear ho0)
    refine hK.out _ _ ⟨yk BK331 0,yk BK332 0,((HB.out.cell (World.block_lt_of_cell? w _ hw334_0)).trans hw334_0)⟩ (fun hHeld=>?_)
    clear hK K
    refine norm_ (nA 20) ?_
    refine one_ (i:=9) (N:=some 5) #[Y,Y,Y,Y,Y,Y,Y,Y,Y,Y,Z] rfl rfl (one_of HT_.out D3) D24 (fun K hK=>?_)
    refine box_step ?hg (N:=5) ?hd (cs:=#[.slice none 0 0]) (t:=43) ?hr ?_;(case hd=>rfl);(case hg=>rfl);(case hr=>first|(go_simp;done)|(go_simp;rfl))
    intro gb338 hg w10 hbox hb
    replace HO337:=bS HO337 hb
    have BK338:=am (hbox)
    have GW338:=ye HB hg
    replace HB:=yH HB hb
    have NB331_338:=yl BK331 hg
    have NB338_331:=yg BK331 hg
    replace BK331:=yb BK331 hb
    have NB332_338:=yl BK332 hg
    have NB338_332:=yg BK332 hg
    replace BK332:=yb BK332 hb
    have NB333_338:=yl BK333 hg
    have NB338_333:=yg BK333 hg
    replace BK333:=yb BK333 hb
    have GE338:=GW338
    clear hb hbox hg
    refine hK.out _ _ ⟨yk BK331 0,yk BK332 0,((HB.out.cell (World.block_lt_of_cell? w _ hw334_0)).trans hw334_0)⟩ (fun hHeld=>?_)
    clear hK K
    refine norm_ (nA 5) ?_
    exact norm_ (by simp only [putAll,Act.put,q1,q2,q3]) (hCont (v336,gb338) _ ⟨hHeld,(yS HO337),(yB BK331),(yB BK332),(yB BK333),(yB BK338),GW338.out,GE338.out,NB331_338.out,NB338_331.out,NB332_338.out,NB338_332.out,NB333_338.out,NB338_333.out,(yW HB)⟩)
   skip
   refine box_step ?hg (N:=5) ?hd (cs:=#[.slice none 0 0]) (t:=43) ?hr ?_;(case hd=>rfl);(case hg=>rfl);(case hr=>first|(go_simp;done)|(go_simp;rfl))
   intro gb338 hg w9 hbox hb
   have BK338:=am (hbox)
   have GW338:=ye HB hg
   replace HB:=yH HB hb
   have NB331_338:=yl BK331 hg
   have NB338_331:=yg BK331 hg
   replace BK331:=yb BK331 hb
   have NB332_338:=yl BK332 hg
   have NB338_332:=yg BK332 hg
   replace BK332:=yb BK332 hb
   have NB333_338:=yl BK333 hg
   have NB338_333:=yg BK333 hg
   replace BK333:=yb BK333 hb
   have GE338:=GW338
   clear hb hbox hg
   refine hK.out _ _ ⟨yk BK331 0,yk BK332 0,((HB.out.cell (World.block_lt_of_cell? w _ hw334_0)).trans hw334_0)⟩ (fun hHeld=>?_)
   clear hK K
   refine norm_ (nA 5) ?_
   refine one_ (i:=8) (N:=some 20) #[Y,Y,Y,Y,Y,Y,Y,Y,Y,Y,Z] rfl rfl (one_of HT_.out D3) D24 (fun K hK=>?_)
   refine goes_ Try.func172 D3 rfl #[.int .i64 (l0_0.length:Int), .int .i64 ((rd_L1 l1_0 0).length:Int)] D35 rfl rfl D27 ?_
   with_reducible refine (spec_l2Blank.calls k (l0_0.length:Int) ((rd_L1 l1_0 0).length:Int) t335 _ A4.out).mono ?_
   rintro e w10 ⟨v336,rfl,ho0,hb⟩
   refine ⟨_,rfl,?_⟩
   have HO337:=am (Kd.S_lower ho0 (pz (yW HB)))
   replace BK331:=yb BK331 hb
   replace BK332:=yb BK332 hb
   replace BK333:=yb BK333 hb
   replace BK338:=yb BK338 hb
   replace HB:=yH HB hb
   (try clear hb)
   (try clear hb2)
   (try clear hk)
   (try clear hi)
   (try clear ho0)
   refine hK.out _ _ ⟨yk BK331 0,yk BK332 0,((HB.out.cell (World.block_lt_of_cell? w _ hw334_0)).trans hw334_0)⟩ (fun hHeld=>?_)
   clear hK K
   refine norm_ (nA 20) ?_
   exact norm_ (by simp only [putAll,Act.put,q1,q2,q3]) (hCont (v336,gb338) _ ⟨hHeld,(yS HO337),(yB BK331),(yB BK332),(yB BK333),(yB BK338),GW338.out,GE338.out,NB331_338.out,NB338_331.out,NB332_338.out,NB338_332.out,NB333_338.out,NB338_333.out,(yW HB)⟩)
  rintro ⟨v336,gb338⟩ w11 ⟨hS_,h0_,h1_,h2_,h3_,h4_,h5_,h6_,h7_,h8_,h9_,h10_,h11_,h12_,h13_⟩
  have n0_:Aside0 (Kd.S (Kd.slice 5 (Kd.int .u8)) 57 w11 w.heap.size (fun _=>True) v336 t335):=⟨h0_⟩
  have n1_:Aside0 (w11.heap[gb331]? = some (.cells #[.slice A0_0 l0_0.length c0_0] 43 (0,0))):=⟨h1_⟩
  have n2_:Aside0 (w11.heap[gb332]? = some (.cells #[.slice (some ad334) l1_0.length c1_0] 43 (0,0))):=⟨h2_⟩
  have n3_:Aside0 (w11.heap[gb333]? = some (.cells #[.slice none 0 0] 43 (0,0))):=⟨h3_⟩
  have n4_:Aside0 (w11.heap[gb338]? = some (.cells #[.slice none 0 0] 43 (0,0))):=⟨h4_⟩
  have n5_:Aside0 (w.heap.size≤gb338):=⟨h5_⟩
  have n6_:Aside0 (w.heap.size≤gb338):=⟨h6_⟩
  have n7_:Aside0 (gb331 ≠ gb338):=⟨h7_⟩
  have n8_:Aside0 (gb338 ≠ gb331):=⟨h8_⟩
  have n9_:Aside0 (gb332 ≠ gb338):=⟨h9_⟩
  have n10_:Aside0 (gb338 ≠ gb332):=⟨h10_⟩
  have n11_:Aside0 (gb333 ≠ gb338):=⟨h11_⟩
  have n12_:Aside0 (gb338 ≠ gb333):=⟨h12_⟩
  have n13_:Aside0 (Below w.heap.size w w11):=⟨h13_⟩
  clear BK331
  clear BK332
  clear BK333
  clear HB
  clear h0_ h1_ h2_ h3_ h4_ h5_ h6_ h7_ h8_ h9_ h10_ h11_ h12_ h13_
  have HO337:=n0_
  have BK331:=n1_
  have BK332:=n2_
  have BK333:=n3_
  have BK338:=n4_
  have GW338:=n5_
  have GE338:=n6_
  have NB331_338:=n7_
  have NB338_331:=n8_
  have NB332_338:=n9_
  have NB338_332:=n10_
  have NB333_338:=n11_
  have NB338_333:=n12_
  have HB:=n13_
  clear n0_ n1_ n2_ n3_ n4_ n5_ n6_ n7_ n8_ n9_ n10_ n11_ n12_ n13_
  have hHeld:w11.cell? ⟨gb331,0,none⟩=some (.slice A0_0 l0_0.length c0_0)∧w11.cell? ⟨gb332,0,none⟩=some (.slice (some ad334) l1_0.length c1_0)∧w11.cell? ad334=some (.slice A334_0 (rd_L1 l1_0 0).length c334_0):=hS_
  obtain ⟨Ao12,co12,eo12⟩:=Kd.S_slice HO337.out
  (first|subst eo12|(injection eo12 with f1_ f2_ f3_;have f4_:=f1_.symm;have f5_:=f3_.symm;clear f1_ f2_ f3_;subst f4_;subst f5_))
  refine norm_ (a':=?_) ?_ ?_
  rotate_left
  ·simp only [putAll,Act.put,q1,q2,q3]
   rfl
  refine one_ (i:=10) (N:=none) #[Y,Y,Y,Y,Y,Y,Y,Y,Y,Y,Y] rfl rfl (one_of HT_.out D3) D24 (fun K hK=>?_)
  have hs13:w11.cell? ⟨gb338,0,none⟩=some (.slice none 0 0):=(blk_cell BK338.out 0).trans rfl
  have hfs13:=blk_frozen BK338.out 0
  have hns13_0:=NB331_338.out
  have hns13_1:=NB332_338.out
  have hns13_2:=NB333_338.out
  have hms13_0:=NB338_331.out
  have hms13_1:=NB338_332.out
  have hms13_2:=NB338_333.out
  refine skip_ (w1:=?_) D35 rfl ?_ ?_
  rotate_left
  ·go_simp
   rfl
  refine hK.out _ _ ⟨((cell_far (p:=⟨gb338,_,none⟩) NB331_338.out _).trans (hHeld.1)),((cell_far (p:=⟨gb338,_,none⟩) NB332_338.out _).trans (hHeld.2.1)),((cell_far (p:=⟨gb338,_,none⟩) (by first|exact Nat.ne_of_lt (Nat.lt_of_lt_of_le (by have:=World.block_lt_of_cell? _ _ hw334_0;first|rwa [add_block] at this|exact this) GW338.out)|(rw [add_block];exact Nat.ne_of_lt (Nat.lt_of_lt_of_le (by have:=World.block_lt_of_cell? _ _ hw334_0;first|rwa [add_block] at this|exact this) GW338.out))|(show (Addr.add _ _).block ≠ _;rw [add_block];exact Nat.ne_of_lt (Nat.lt_of_lt_of_le (by have:=World.block_lt_of_cell? _ _ hw334_0;first|rwa [add_block] at this|exact this) GW338.out))|(dsimp only;exact Nat.ne_of_lt (Nat.lt_of_lt_of_le (by have:=World.block_lt_of_cell? _ _ hw334_0;first|rwa [add_block] at this|exact this) GW338.out))) _).trans (hHeld.2.2))⟩ (fun hHeld=>?_)
  clear hK K
  refine done_ (done_of HT_.out D3) ?_
  have hnb14:=NB331_332.out
  have hnc14:=NB332_331.out
  have hnb15:=NB331_333.out
  have hnc15:=NB333_331.out
  have hnb16:=NB331_338.out
  have hnc16:=NB338_331.out
  obtain ⟨hcz17_0,hfz17_0⟩:=yk1 BK331
  try go_wp2
  go_loopg [24] k (fun kq v24 w'=>∃ (x24_1:Int) (x339000_1:List (List Int)) (u339000:Value),v24 = .int .i64 x24_1∧Aside0 (spec_l2Product.l0 kq l0_0 (l0_0.length:Int) x24_1 l1_0 x339000_1=some r)∧Aside0 (kq≤k)∧Aside0 (Kd.S (Kd.slice 5 (Kd.int .u8)) 57 w' w.heap.size (fun _=>True) u339000 x339000_1)∧Aside0 (w'.heap[gb331]? = some (.cells #[(.slice A0_0 l0_0.length c0_0)] 43 (0,0)))∧Aside0 (w'.heap[gb332]? = some (.cells #[(.slice (some ad334) l1_0.length c1_0)] 43 (0,0)))∧Aside0 (w'.heap[gb333]? = some (.cells #[(.slice none 0 0)] 43 (0,0)))∧Aside0 (w'.heap[gb338]? = some (.cells #[u339000] 43 (0,0)))∧Aside0 (Below w.heap.size w w'))
  case atStart=>exact ⟨(0),(t335),(.slice Ao12 t335.length co12),D2,H',⟨Nat.le_refl _⟩,⟨by refine sS ?_;exact Kd.S_mono (Kd.S_far (p:=⟨gb338,0,none⟩) (Kd.S_types HO337.out BK338.out D24) (fun _ hk=>hk.2) (.slice Ao12 t335.length co12)) (fun _ hk=>trivial)⟩,⟨yF BK331⟩,⟨yF BK332⟩,⟨yF BK333⟩,⟨by refine sB ?_;refine blk_put (cs:=#[.slice none 0 0]) ?_ 0 _ rfl;exact yB BK338⟩,⟨yW HB⟩⟩
  case round =>
   clear H'
   try clear c1
   try clear p2
   try clear c3
   try clear c3b0
   try clear c3b1
   try clear p3
   try clear q3
   try clear hx3
   try clear qi3
   try clear c14
   try clear c15
   try clear c16
   try clear c17
   try clear hcz17_0
   try clear hfz17_0
   try clear hx334_0
   try clear p334
   try clear q334
   obtain ⟨x24_1,x339000_1,u339000,rfl,HA,HK1,HO_339000,BK331,BK332,BK333,BK338,HB⟩:=hrel
   cases gk with
   | zero=>exact absurd HA.out (by simp [spec_l2Product.l0])
   | succ k1 =>
    have H:=HA.out
    clear HA
    simp only [spec_l2Product.l0] at H
    by_cases c18:x24_1 < (l0_0.length:Int)
    ·rw [if_pos c18] at H
     have c18b0:=decide_eq_true c18
     clear c18
     obtain ⟨c19,H⟩:=yi H
     have c19b0:=decide_eq_true c19
     clear c19
     obtain ⟨c20,H⟩:=yi H
     have c20b0:=decide_eq_true c20
     clear c20
     have H':=am H
     clear H
     have p339:0≤(x24_1:Int):=od D1
     have q339:x24_1 < (l0_0.length:Int):=od D1
     obtain ⟨ad339,A339_0,c339_0,e339,hx339_0,hl339_0,hi339_0⟩:=at_L1 HR0_0.out x24_1 p339 q339
     cases e339
     replace hx339_0:=(HB.out.cell (World.block_lt_of_cell? w _ hx339_0)).trans hx339_0
     have HR339_0:=am hi339_0
     have HC339_0:=am hl339_0
     clear hi339_0 hl339_0
     replace p339:=eq_true p339
     replace q339:=eq_true q339
     go_wp2
     go_loopg [31] k1 (fun kq v31 w'=>∃ (x31_2:Int) (x339000_2:List (List Int)) (u339000:Value),v31 = .int .i64 x31_2∧Aside0 (spec_l2Product.l1 kq x24_1 l0_0 (l0_0.length:Int) x24_1 (rd_L1 l0_0 x24_1) ((rd_L1 l0_0 x24_1).length:Int) x31_2 l1_0 x339000_2=some r)∧Aside0 (kq≤k1)∧Aside0 (Kd.S (Kd.slice 5 (Kd.int .u8)) 57 w' w.heap.size (fun _=>True) u339000 x339000_2)∧Aside0 (w'.heap[gb331]? = some (.cells #[(.slice (some ad339) l0_0.length c0_0)] 43 (0,0)))∧Aside0 (w'.heap[gb332]? = some (.cells #[(.slice (some ad334) l1_0.length c1_0)] 43 (0,0)))∧Aside0 (w'.heap[gb333]? = some (.cells #[(.slice none 0 0)] 43 (0,0)))∧Aside0 (w'.heap[gb338]? = some (.cells #[u339000] 43 (0,0)))∧Aside0 (Below w.heap.size w w'))
     case atStart=>exact ⟨(0),(x339000_1),(u339000),D2,H',⟨Nat.le_refl _⟩,⟨yS HO_339000⟩,⟨yB BK331⟩,⟨yB BK332⟩,⟨yB BK333⟩,⟨yB BK338⟩,⟨yW HB⟩⟩
     case round =>
      clear H'
      try clear c1
      try clear c2
      try clear p2
      try clear c3
      try clear c3b0
      try clear c3b1
      try clear p3
      try clear q3
      try clear hx3
      try clear qi3
      try clear c14
      try clear c15
      try clear c16
      try clear c17
      try clear c18
      try clear c18b0
      try clear c19
      try clear c19b0
      try clear c20
      try clear c20b0
      try clear hcz17_0
      try clear hfz17_0
      try clear hx334_0
      try clear hx339_0
      try clear p2
      try clear p3
      try clear p334
      try clear p339
      try clear q3
      try clear q334
      try clear q339
      obtain ⟨x31_2,x339000_2,u339000,rfl,HA,HK2,HO_339000,BK331,BK332,BK333,BK338,HB⟩:=hrel
      cases gk with
      | zero=>exact absurd HA.out (by simp [spec_l2Product.l1])
      | succ k2 =>
       have H:=HA.out
       clear HA
       simp only [spec_l2Product.l1] at H
       by_cases c21:x31_2 < ((rd_L1 l0_0 x24_1).length:Int)
       ·rw [if_pos c21] at H
        have c21b0:=decide_eq_true c21
        clear c21
        obtain ⟨c22,H⟩:=yi H
        have c22b0:=decide_eq_true c22
        clear c22
        obtain ⟨c23,H⟩:=yi H
        have c23b0:=decide_eq_true c23
        clear c23
        obtain ⟨c24,H⟩:=yi H
        have c24b0:=decide_eq_true c24
        clear c24
        have H':=am H
        clear H
        have p340:0≤(x31_2:Int):=od D1
        have q340:x31_2 < ((rd_L1 l0_0 x24_1).length:Int):=od D1
        obtain ⟨ad340,e340,hx340_0⟩:=Kd.at_int HR339_0.out x31_2 p340 q340
        cases e340
        replace hx340_0:=(HB.out.cell (World.block_lt_of_cell? w _ hx340_0)).trans hx340_0
        replace p340:=eq_true p340
        replace q340:=eq_true q340
        have hnb25:=NB332_331.out
        have hnc25:=NB331_332.out
        have hnb26:=NB332_333.out
        have hnc26:=NB333_332.out
        have hnb27:=NB332_338.out
        have hnc27:=NB338_332.out
        obtain ⟨hcz28_0,hfz28_0⟩:=yk1 BK332
        have p341:0≤(x31_2:Int):=od D1
        have q341:x31_2 < (l1_0.length:Int):=od D1
        obtain ⟨ad341,A341_0,c341_0,e341,hx341_0,hl341_0,hi341_0⟩:=at_L1 HR1_0.out x31_2 p341 q341
        obtain rfl:ad334=ad341:=(by injection e341)
        replace hx341_0:=(HB.out.cell (World.block_lt_of_cell? w _ hx341_0)).trans hx341_0
        have HR341_0:=am hi341_0
        have HC341_0:=am hl341_0
        clear hi341_0 hl341_0
        replace p341:=eq_true p341
        replace q341:=eq_true q341
        go_wp2
        go_loopg [42] k2 (fun kq v42 w'=>∃ (x42_3:Int) (x339000_3:List (List Int)) (u339000:Value),v42 = .int .i64 x42_3∧Aside0 (spec_l2Product.l2 kq x24_1 (rd (rd_L1 l0_0 x24_1) x31_2) l0_0 (l0_0.length:Int) x24_1 (rd_L1 l0_0 x24_1) ((rd_L1 l0_0 x24_1).length:Int) x31_2 (rd_L1 l1_0 x31_2) ((rd_L1 l1_0 x31_2).length:Int) x42_3 l1_0 x339000_3=some r)∧Aside0 (kq≤k2)∧Aside0 (Kd.S (Kd.slice 5 (Kd.int .u8)) 57 w' w.heap.size (fun _=>True) u339000 x339000_3)∧Aside0 (w'.heap[gb331]? = some (.cells #[(.slice (some ad339) l0_0.length c0_0)] 43 (0,0)))∧Aside0 (w'.heap[gb332]? = some (.cells #[(.slice (some ad334) l1_0.length c1_0)] 43 (0,0)))∧Aside0 (w'.heap[gb333]? = some (.cells #[(.slice none 0 0)] 43 (0,0)))∧Aside0 (w'.heap[gb338]? = some (.cells #[u339000] 43 (0,0)))∧Aside0 (Below w.heap.size w w'))
        case atStart=>exact ⟨(0),(x339000_2),(u339000),D2,H',⟨Nat.le_refl _⟩,⟨yS HO_339000⟩,⟨yB BK331⟩,⟨yB BK332⟩,⟨yB BK333⟩,⟨yB BK338⟩,⟨yW HB⟩⟩
        case round =>
         clear H'
         try clear c1
         try clear c2
         try clear p2
         try clear c3
         try clear c3b0
         try clear c3b1
         try clear p3
         try clear q3
         try clear hx3
         try clear qi3
         try clear c14
         try clear c15
         try clear c16
         try clear c17
         try clear c18
         try clear c18b0
         try clear c19
         try clear c19b0
         try clear c20
         try clear c20b0
         try clear c21
         try clear c21b0
         try clear c22
         try clear c22b0
         try clear c23
         try clear c23b0
         try clear c24
         try clear c24b0
         try clear c25
         try clear c26
         try clear c27
         try clear hcz17_0
         try clear hcz28_0
         try clear hfz17_0
         try clear hfz28_0
         try clear hx334_0
         try clear hx339_0
         try clear hx340_0
         try clear hx341_0
         try clear p2
         try clear p3
         try clear p334
         try clear p339
         try clear p340
         try clear p341
         try clear q3
         try clear q334
         try clear q339
         try clear q340
         try clear q341
         obtain ⟨x42_3,x339000_3,u339000,rfl,HA,HK3,HO_339000,BK331,BK332,BK333,BK338,HB⟩:=hrel
         cases gk with
         | zero=>exact absurd HA.out (by simp [spec_l2Product.l2])
         | succ k3 =>
          have H:=HA.out
          clear HA
          simp only [spec_l2Product.l2] at H
          by_cases c29:x42_3 < ((rd_L1 l1_0 x31_2).length:Int)
          ·rw [if_pos c29] at H
           have c29b0:=decide_eq_true c29
           clear c29
           obtain ⟨c30,H⟩:=yi H
           have c30b0:=decide_eq_true c30
           clear c30
           obtain ⟨c31,H⟩:=yi H
           have c31b0:=decide_eq_true c31
           clear c31
           obtain ⟨c32,H⟩:=yi H
           have c32b0:=decide_eq_true c32
           clear c32
           obtain ⟨c33,H⟩:=yi H
           have c33b0:=decide_eq_true c33
           clear c33
           obtain ⟨c34,H⟩:=yi H
           have c34b0:=decide_eq_true c34
           clear c34
           obtain ⟨t345,A35,H⟩:=yo H
           generalize hy346:((rd_L1 x339000_3 x24_1).set (x42_3:Int).toNat (Go.bits .xor .u8 (rd (rd_L1 x339000_3 x24_1) x42_3) t345):List Int)=y346 at H
           have Ny346:=am hy346.symm
           clear hy346
           generalize hy348:(x339000_3.set (x24_1:Int).toNat y346:List (List Int))=y348 at H
           have Ny348:=am hy348.symm
           clear hy348
           have H':=am H
           clear H
           have p342:0≤(x42_3:Int):=od D1
           have q342:x42_3 < ((rd_L1 l1_0 x31_2).length:Int):=od D1
           obtain ⟨ad342,e342,hx342_0⟩:=Kd.at_int HR341_0.out x42_3 p342 q342
           cases e342
           replace hx342_0:=(HB.out.cell (World.block_lt_of_cell? w _ hx342_0)).trans hx342_0
           replace p342:=eq_true p342
           replace q342:=eq_true q342
           try go_wp2
           replace HO_339000:=am (Kd.S_drew HO_339000.out)
           replace BK331:=am (qd BK331.out)
           replace BK332:=am (qd BK332.out)
           replace BK333:=am (qd BK333.out)
           replace BK338:=am (qd BK338.out)
           replace HB:=am (pd HB.out)
           obtain ⟨Ao38,co38,eo38⟩:=Kd.S_slice HO_339000.out
           (first|subst eo38|(injection eo38 with f1_ f2_ f3_;have f4_:=f1_.symm;have f5_:=f3_.symm;clear f1_ f2_ f3_;subst f4_;subst f5_))
           have p343:0≤(x24_1:Int):=od D1
           have q343:x24_1 < (x339000_3.length:Int):=od D1
           obtain ⟨ad343,A343_0,c343_0,e343,hx343_0,hl343_0,hi343_0⟩:=at_L1 (Kd.S_reads' HO_339000.out).2.2 x24_1 p343 q343
           cases e343
           obtain ⟨ce343,hce343,hMe343,hcc343⟩:=Kd.S_get HO_339000.out [] x24_1 p343 (by first|exact q343|exact od D1|(have e_:=(Kd.S_reads' HO_339000.out).1;omega))
           obtain ⟨ve343_0,rfl,ge343_0⟩:=hMe343
           have hv343_0:=hcc343 0 _ rfl
           rw [Nat.add_zero,show ((Kd.slice 5 (Kd.int .u8))).sz=1 from rfl,Nat.mul_one] at hv343_0
           replace hv343_0:=Option.some.inj (hv343_0.symm.trans hx343_0)
           rw [hv343_0] at ge343_0
           have HL343_0:=am (show Kd.R (Kd.int .u8) 5 _ _ _ _ (rd_L1 x339000_3 x24_1) from ge343_0)
           clear hv343_0 ge343_0
           have HX343_0:=am hx343_0
           clear hcc343 hce343
           have HR343_0:=am hi343_0
           have HC343_0:=am hl343_0
           clear hi343_0 hl343_0
           replace p343:=eq_true p343
           replace q343:=eq_true q343
           have p344:0≤(x42_3:Int):=od D1
           have q344:x42_3 < ((rd_L1 x339000_3 x24_1).length:Int):=od D1
           obtain ⟨ad344,e344,hx344_0⟩:=Kd.at_int (by repeat (first|(with_reducible exact HR343_0.out)|(with_reducible refine Kd.C_alloc ?_ _)|(with_reducible refine Kd.C_drewN ?_ _)|(with_reducible refine Kd.C_drew ?_)|exact HR343_0.out)) x42_3 p344 q344
           cases e344
           replace p344:=eq_true p344
           replace q344:=eq_true q344
           refine rS (n:=14) (S:=fun w'=>w'.cell? ⟨gb338,0,none⟩=some (.slice (some ad343) x339000_3.length co38)∧w'.cell? (ad343.add (x24_1).toNat)=some (.slice (some ad344) (rd_L1 x339000_3 x24_1).length c343_0)∧w'.cell? (ad344.add (x42_3).toNat)=some (.int .u8 (rd (rd_L1 x339000_3 x24_1) x42_3))) (ds:=[13]) [(0,47),(2,49),(5,52),(8,55),(9,56),(1,48),(3,50),(4,51),(6,53),(7,54),(10,0),(11,58),(12,59),(13,0)] D3 rfl spec_l2Product.tab11 spec_l2Product.bits11 ⟨yk BK338 0,hx343_0,hx344_0⟩ (fun hHeld HT_ HW_=>?_)
           generalize wr.drew=w37 at HO_339000 BK331 BK332 BK333 BK338 HB HL343_0 HR343_0 HX343_0 hx343_0 hx344_0 hHeld ⊢
           refine rR ?_
           refine rO (N:=some 57) HT_ rfl rfl D3 D24 (fun K hK=>?_)
           refine goes_ Try.func174 D3 rfl #[.int .u8 (rd (rd_L1 l0_0 x24_1) x31_2), .int .u8 (rd (rd_L1 l1_0 x31_2) x42_3)] D35 rfl rfl D27 ?_
           with_reducible refine (spec_l1Times.calls k3 (rd (rd_L1 l0_0 x24_1) x31_2) (rd (rd_L1 l1_0 x31_2) x42_3) t345 _ A35.out).mono ?_
           rintro e w' ⟨rfl,⟨nd,rfl⟩⟩
           refine ⟨_,rfl,?_⟩
           have p36:0≤(x42_3:Int):=od D1
           have q36:(x42_3:Int) < (((rd_L1 x339000_3 x24_1).length:Int):Int):=od D1
           obtain ⟨go36,co36,eo36,gb36,gl36,cl36,HG36⟩:=Kd.R_form HL343_0.out D23
           (first|cases eo36|(injection eo36 with ea_ en_ ec_;(first|subst ea_|(injection ea_ with ea_;subst ea_));subst ec_;clear en_))
           have GB36:=am gb36
           have GG36:=am HG36
           clear gb36 gl36 HG36
           (first|simp only [add_plain] at hx344_0|skip)
           obtain ⟨hx36_0,hf36_0⟩:=Kd.R_celln 0 HL343_0.out (x42_3:Int) p36 q36
           replace p36:=eq_true p36
           replace q36:=eq_true q36
           have hq39:(x24_1:Int) < (x339000_3.length:Int):=(by have h_:(x24_1:Int) < ((x339000_3.length:Int):Int):=od D1;first|exact h_|(have e_:=(Kd.S_reads' HO_339000.out).1;omega)|simpa only [List.length_set,List.length_set] using h_)
           obtain ⟨oki39,ce39,hcl39,hM39,hcc39,hok39,hbk39⟩:=Kd.S_borrow HO_339000.out [] (x24_1:Int) (od D1) hq39
           obtain ⟨ve39_0,rfl,ge39_0⟩:=hM39
           have hv39:=hcc39 0 _ rfl
           rw [Nat.add_zero,show ((Kd.slice 5 (Kd.int .u8))).sz=1 from rfl,Nat.mul_one] at hv39
           replace hv39:=Option.some.inj (hv39.symm.trans HX343_0.out)
           subst hv39
           clear hcc39 hcl39
           replace ge39_0:=(show Kd.R (Kd.int .u8) 5 _ _ _ _ (rd_L1 x339000_3 x24_1) from ge39_0)
           have HP39:=Kd.R_putg ge39_0 (x42_3:Int) (Go.bits .xor .u8 (rd (rd_L1 x339000_3 x24_1) x42_3) t345)
           rw [← Ny346.out] at HP39
           have HS39:=hbk39 HP39.2 (fun k_ e_=>by injection e_ with e_;subst e_;exact ge39_0.1 _ rfl) (x':=y346) (Kd.M_row HP39.1)
           rw [← Ny348.out] at HS39
           have HQ39:=am HS39
           clear HP39 HS39 hbk39 hok39
           refine hK.out _ _ ⟨yk BK338 0,hHeld.2.1,hHeld.2.2⟩ (fun hHeld=>?_)
           clear hK K
           refine rN (nA 57) ?_
           refine rR ?_
           refine rL (N:=none) HT_ rfl rfl D3 D24 (fun K hK=>?_)
           refine skip_ (w1:=?_) D35 rfl ?_ ?_
           rotate_left
           ·go_simp
            rfl
           refine hK.out _ _ ?_
           clear hK K
           refine rD HT_ D3 ?_
           try go_wp2
           go_roundg k3
           case measure=>have:=HK1.out;have:=HK2.out;have:=HK3.out;omega
           case rel=>exact ⟨(wrap64 (x42_3+1)),(y348),(.slice (some ad343) x339000_3.length co38),D2,H',⟨by have:=HK1.out;have:=HK2.out;have:=HK3.out;omega⟩,⟨yS HQ39⟩,⟨by refine sB ?_;refine blk_far ?_ (by have h_:=Kd.R_ne HL343_0.out BK331.out D24;intro e_;exact h_ (by rw [e_];rfl)) _;exact yB BK331⟩,⟨by refine sB ?_;refine blk_far ?_ (by have h_:=Kd.R_ne HL343_0.out BK332.out D24;intro e_;exact h_ (by rw [e_];rfl)) _;exact yB BK332⟩,⟨by refine sB ?_;refine blk_far ?_ (by have h_:=Kd.R_ne HL343_0.out BK333.out D24;intro e_;exact h_ (by rw [e_];rfl)) _;exact yB BK333⟩,⟨by refine sB ?_;refine blk_far ?_ (by have h_:=Kd.R_ne HL343_0.out BK338.out D24;intro e_;exact h_ (by rw [e_];rfl)) _;exact yB BK338⟩,⟨by repeat (first|(with_reducible first|exact HB.out|apply pa|apply pb|apply pd|refine pt ?_ GB36.out|refine pt ?_ GE331.out|refine pt ?_ GE332.out|refine pt ?_ GE333.out|refine pt ?_ GE338.out)|exact HB.out)⟩⟩
          rw [if_neg c29] at H
          have c29b0:=decide_eq_false c29
          clear c29
          have H':=am H
          clear H
          go_wp2
          go_roundg k3
          case measure=>have:=HK1.out;have:=HK2.out;have:=HK3.out;omega
          case rel=>exact ⟨(wrap64 (x31_2+1)),(x339000_3),(u339000),D2,H',⟨by have:=HK1.out;have:=HK2.out;have:=HK3.out;omega⟩,⟨yS HO_339000⟩,⟨yB BK331⟩,⟨yB BK332⟩,⟨yB BK333⟩,⟨yB BK338⟩,⟨yW HB⟩⟩
       rw [if_neg c21] at H
       have c21b0:=decide_eq_false c21
       clear c21
       have H':=am H
       clear H
       go_wp2
       go_roundg k2
       case measure=>have:=HK1.out;have:=HK2.out;omega
       case rel=>exact ⟨(wrap64 (x24_1+1)),(x339000_2),(u339000),D2,H',⟨D143⟩,⟨yS HO_339000⟩,⟨yB BK331⟩,⟨yB BK332⟩,⟨yB BK333⟩,⟨yB BK338⟩,⟨yW HB⟩⟩
    rw [if_neg c18] at H
    have c18b0:=decide_eq_false c18
    clear c18
    obtain rfl:=Option.some.inj H
    have hnb41:=NB338_331.out
    have hnc41:=NB331_338.out
    have hnb42:=NB338_332.out
    have hnc42:=NB332_338.out
    have hnb43:=NB338_333.out
    have hnc43:=NB333_338.out
    obtain ⟨hcz44_0,hfz44_0⟩:=yk1 BK338
    obtain ⟨Ao45,co45,eo45⟩:=Kd.S_slice HO_339000.out
    subst eo45
    have hnb46:=NB333_331.out
    have hnc46:=NB331_333.out
    have hnb47:=NB333_332.out
    have hnc47:=NB332_333.out
    obtain ⟨hcz48_0,hfz48_0⟩:=yk1 BK333
    go_wp2
    refine bodyPost_ret (results_cell_row rfl _ _ gb333 43 #[.slice Ao45 x339000_1.length co45] (0,0) _ rfl (by refine sB ?_;refine blk_put (cs:=#[.slice none 0 0]) ?_ 0 _ rfl;exact yB BK333) Try.underlying43 rfl D3) rfl ?_
    exact ⟨_,D0,by refine sS ?_;exact Kd.S_mono (Kd.S_far (p:=⟨gb333,0,none⟩) (Kd.S_types HO_339000.out BK333.out D24) (fun _ hk=>hk.2) (.slice Ao45 x339000_1.length co45)) (fun _ hk=>trivial),yW HB⟩
 rw [if_neg c3] at H
 exact absurd H D52
def spec_Product.f (k:Nat) (l0_0:List (List Int)) (l1_0:List (List Int)):Option ((List (List Int)) × Bool):=(spec_GoodMatrix.f k l0_0).bind fun t352=>(if t352=true then ((spec_GoodMatrix.f k l1_0).bind fun t353=>(if t353=true then (if 0 < (l0_0.length:Int) then (if ((rd_L1 l0_0 0).length:Int)=(l1_0.length:Int) then ((spec_l2Product.f k l0_0 l1_0).bind fun t355=>(some (t355,true))) else (some (([]:List (List Int)),false))) else (none)) else (some (([]:List (List Int)),false)))) else (some (([]:List (List Int)),false)))
theorem spec_Product.mono:∀ a0 a1 k,LeO (spec_Product.f k a0 a1) (spec_Product.f (k+1) a0 a1):=by
 intro a0 a1 k
 unfold spec_Product.f
 exact mm
def spec_Product.T1:Bool × List (List Nat × List Nat):=(true,[([],[]),([0],[0]),([1],[1]),([2,1],[2]),([3],[3]),([4,3,3],[3,4]),([5,3],[3,5]),([3,6],[3,6]),([7,5],[7]),([8],[8]),([9,8],[8,9]),([10,8],[8,10]),([11,8],[8,11]),([12,8],[8,12]),([8],[8]),([14,8],[8,14]),([15,8],[8,15]),([13,16,8],[8,13,16]),([8,17],[8,17])])
def spec_Product.B1:List Nat:=[0,1,3,7,15,31,63,127,255,511,1023,2047,4095,8191,511,16895,49663,131071,262143]
theorem spec_Product.tab1:rtab .any (opsOf Try.f83 1)=spec_Product.T1:=by kernel_rfl
theorem spec_Product.bits1:waitsOk spec_Product.T1.2 spec_Product.B1=true:=by kernel_rfl
theorem spec_Product.calls (k:Nat) (A0_0:Option Addr) (c0_0:Nat) (l0_0:List (List Int)) (A1_0:Option Addr) (c1_0:Nat) (l1_0:List (List Int)) (r1:List (List Int)) (r2:Bool) (w:World) (hr0_0:Kd.C (Kd.slice 5 (Kd.int .u8)) w A0_0 l0_0.length l0_0) (hc0_0:l0_0.length≤c0_0) (hr1_0:Kd.C (Kd.slice 5 (Kd.int .u8)) w A1_0 l1_0.length l1_0) (hc1_0:l1_0.length≤c1_0) (h:spec_Product.f k l0_0 l1_0=some (r1,r2)) :
  Calls Try.prog 83 #[.agg #[.slice A0_0 l0_0.length c0_0], .agg #[.slice A1_0 l1_0.length c1_0]] w fun e w'=>∃ v0_:Value,e = .returned (.tuple #[.agg #[v0_], .bool r2])∧Kd.S (Kd.slice 5 (Kd.int .u8)) 57 w' w.heap.size (fun _=>True) v0_ r1∧Below w.heap.size w w':=by
 have hu43:=Try.underlying43
 have HR0_0:=am hr0_0
 have HC0_0:=am hc0_0
 clear hr0_0 hc0_0
 have HR1_0:=am hr1_0
 have HC1_0:=am hc1_0
 clear hr1_0 hc1_0
 have HB:=am (Below.refl w.heap.size w)
 have H:=h
 unfold spec_Product.f at H
 clear h
 obtain ⟨t352,A3,H⟩:=yo H
 by_cases c4:t352=true
 ·subst c4
  replace H:=yt H
  obtain ⟨t353,A5,H⟩:=yo H
  by_cases c6:t353=true
  ·subst c6
   replace H:=yt H
   obtain ⟨c7,H⟩:=yi H
   have c7b0:=decide_eq_true c7
   have c7b1:decide (0 < l0_0.length)=true:=decide_eq_true D23
   clear c7
   by_cases c8:((rd_L1 l0_0 0).length:Int)=(l1_0.length:Int)
   ·rw [if_pos c8] at H
    have c8b0:(((rd_L1 l0_0 0).length:Int) == (l1_0.length:Int))=true:=beq_iff_eq.mpr c8
    have c8b1:(((rd_L1 l0_0 0).length:Int) != (l1_0.length:Int))=false:=bne_eq_false_iff_eq.mpr c8
    have c8b2:((rd_L1 l0_0 0).length == l1_0.length)=true:=by first|simpa using c8|(simp at c8 ⊢;omega)
    clear c8
    obtain ⟨t355,A9,H⟩:=yo H
    simp only [Option.some.injEq,Prod.mk.injEq] at H
    obtain ⟨rfl,rfl⟩:=H
    go_enter Try.func83,Try.ntmps83
    try go_wp2_with (first|((with_reducible refine gD 2 ?_);(try (refine gate_guard D35 ?_;dsimp only));refine gB (cs:=#[.slice A0_0 l0_0.length c0_0]) 43 ?_;intro gb349 hg w10 hbox hb;have BK349:=am (hbox);have GW349:=ye HB hg;replace HB:=yH HB hb;have GE349:=GW349;clear hb hbox hg)|((with_reducible refine gD 3 ?_);(try (refine gate_guard D35 ?_;dsimp only));refine gB (cs:=#[.slice A1_0 l1_0.length c1_0]) 43 ?_;intro gb350 hg w11 hbox hb;have BK350:=am (hbox);have GW350:=ye HB hg;replace HB:=yH HB hb;have NB349_350:=yl BK349 hg;have NB350_349:=yg BK349 hg;replace BK349:=yb BK349 hb;have GE350:=GW350;clear hb hbox hg)|((with_reducible refine gD 4 ?_);(try (refine gate_guard D35 ?_;dsimp only));refine gB (cs:=#[.slice none 0 0]) 43 ?_;intro gb351 hg w12 hbox hb;have BK351:=am (hbox);have GW351:=ye HB hg;replace HB:=yH HB hb;have NB349_351:=yl BK349 hg;have NB351_349:=yg BK349 hg;replace BK349:=yb BK349 hb;have NB350_351:=yl BK350 hg;have NB351_350:=yg BK350 hg;replace BK350:=yb BK350 hb;have GE351:=GW351;clear hb hbox hg))
    replace BK349:=am (qd BK349.out)
    replace BK350:=am (qd BK350.out)
    replace BK351:=am (qd BK351.out)
    replace HB:=am (pd HB.out)
    have p354:0≤(0:Int):=D23
    have q354:0 < (l0_0.length:Int):=od D1
    obtain ⟨ad354,A354_0,c354_0,e354,hx354_0,hl354_0,hi354_0⟩:=at_L1 HR0_0.out 0 p354 q354
    have hw354_0:=hx354_0
    (try rw [show ((0:Int)).toNat=0 from rfl] at hw354_0)
    (try rw [show 0*1=0 from rfl] at hw354_0)
    (try rw [Addr.add_zero'] at hw354_0)
    cases e354
    have qi354:(0 < l0_0.length)=True:=eq_true D23
    (try rw [show ((0:Int)).toNat=0 from rfl] at hx354_0)
    (try rw [Addr.add_zero'] at hx354_0)
    replace hx354_0:=(HB.out.cell (World.block_lt_of_cell? w _ hx354_0)).trans hx354_0
    have HR354_0:=am hi354_0
    have HC354_0:=am hl354_0
    clear hi354_0 hl354_0
    replace p354:=eq_true p354
    replace q354:=eq_true q354
    refine rS (n:=19) (S:=fun w'=>w'.cell? ⟨gb349,0,none⟩=some (.slice (some ad354) l0_0.length c0_0)∧w'.cell? ⟨gb350,0,none⟩=some (.slice A1_0 l1_0.length c1_0)∧w'.cell? ad354=some (.slice A354_0 (rd_L1 l0_0 0).length c354_0)) (ds:=[]) [(0,6),(1,0),(2,8),(3,9),(4,10),(5,0),(6,12),(7,13),(8,14),(9,15),(14,20),(10,16),(11,17),(12,18),(13,19),(15,21),(16,22),(17,23),(18,24)] D3 rfl spec_Product.tab1 spec_Product.bits1 ⟨yk BK349 0,yk BK350 0,((HB.out.cell (World.block_lt_of_cell? w _ hw354_0)).trans hw354_0)⟩ (fun hHeld HT_ HW_=>?_)
    generalize w12.drew=w13 at BK349 BK350 BK351 HB HR354_0 hx354_0 hHeld ⊢
    refine rR ?_
    refine rO (N:=some 7) HT_ rfl rfl D3 D24 (fun K hK=>?_)
    refine goes_ Try.func103 D3 rfl #[.agg #[.slice (some ad354) l0_0.length c0_0]] D35 rfl rfl D27 ?_
    with_reducible refine (spec_GoodMatrix.calls k _ _ l0_0 true _ (yc (Kd.C_below HR0_0.out HB.out)) HC0_0.out A3.out).mono ?_
    rintro e w14 ⟨rfl,hb⟩
    refine ⟨_,rfl,?_⟩
    replace BK349:=yb BK349 hb
    replace BK350:=yb BK350 hb
    replace BK351:=yb BK351 hb
    replace HB:=yH HB hb
    (try clear hb)
    (try clear hb2)
    (try clear hk)
    (try clear hi)
    refine hK.out _ _ ⟨yk BK349 0,yk BK350 0,((HB.out.cell (World.block_lt_of_cell? w _ hw354_0)).trans hw354_0)⟩ (fun hHeld=>?_)
    clear hK K
    refine rN (nA 7) ?_
    refine rR ?_
    refine rO (N:=some 11) HT_ rfl rfl D3 D24 (fun K hK=>?_)
    refine goes_ Try.func103 D3 rfl #[.agg #[.slice A1_0 l1_0.length c1_0]] D35 rfl rfl D27 ?_
    with_reducible refine (spec_GoodMatrix.calls k _ _ l1_0 true _ (yc (Kd.C_below HR1_0.out HB.out)) HC1_0.out A5.out).mono ?_
    rintro e w15 ⟨rfl,hb⟩
    refine ⟨_,rfl,?_⟩
    replace BK349:=yb BK349 hb
    replace BK350:=yb BK350 hb
    replace BK351:=yb BK351 hb
    replace HB:=yH HB hb
    (try clear hb)
    (try clear hb2)
    (try clear hk)
    (try clear hi)
    refine hK.out _ _ ⟨yk BK349 0,yk BK350 0,((HB.out.cell (World.block_lt_of_cell? w _ hw354_0)).trans hw354_0)⟩ (fun hHeld=>?_)
    clear hK K
    refine rN (nA 11) ?_
    refine rR ?_
    refine rD HT_ D3 ?_
    have hnb16:=NB349_350.out
    have hnc16:=NB350_349.out
    have hnb17:=NB349_351.out
    have hnc17:=NB351_349.out
    obtain ⟨hcz18_0,hfz18_0⟩:=yk1 BK349
    have hnb19:=NB350_351.out
    have hnc19:=NB351_350.out
    obtain ⟨hcz20_0,hfz20_0⟩:=yk1 BK350
    try go_wp2_with (first|((with_reducible refine gC 170 ?_);refine gM (some 28) Try.func170 (args:=#[.agg #[.slice (some ad354) l0_0.length c0_0], .agg #[.slice A1_0 l1_0.length c1_0]]) (spec_l2Product.calls k _ _ l0_0 _ _ l1_0 t355 _ (yc (Kd.C_below HR0_0.out HB.out)) HC0_0.out (yc (Kd.C_below HR1_0.out HB.out)) HC1_0.out A9.out) ?_;rintro e w21 ⟨v356,rfl,ho0,hb⟩;refine ⟨_,rfl,?_⟩;have HO357:=am (Kd.S_lower ho0 (pz (yW HB)));replace BK349:=yb BK349 hb;replace BK350:=yb BK350 hb;replace BK351:=yb BK351 hb;replace HB:=yH HB hb;clear hb ho0;obtain ⟨Ao22,co22,eo22⟩:=Kd.S_slice HO357.out;subst eo22;obtain ⟨hcz23_0,hfz23_0⟩:=yk1 BK351))
    refine bodyPost_ret (results_ct rfl _ _ gb351 43 #[.slice Ao22 t355.length co22] (0,0) _ rfl D83 Try.underlying43 rfl D3) rfl ?_
    exact ⟨_,D0,by refine sS ?_;exact Kd.S_mono (Kd.S_far (p:=⟨gb351,0,none⟩) (Kd.S_types HO357.out BK351.out D24) (fun _ hk=>hk.2) (.slice Ao22 t355.length co22)) (fun _ hk=>trivial),yW HB⟩
   rw [if_neg c8] at H
   have c8b0:(((rd_L1 l0_0 0).length:Int) == (l1_0.length:Int))=false:=beq_eq_false_iff_ne.mpr c8
   have c8b1:(((rd_L1 l0_0 0).length:Int) != (l1_0.length:Int))=true:=bne_iff_ne.mpr c8
   have c8b2:((rd_L1 l0_0 0).length == l1_0.length)=false:=by first|simpa using c8|(simp at c8 ⊢;omega)
   simp only [Option.some.injEq,Prod.mk.injEq] at H
   obtain ⟨rfl,rfl⟩:=H
   go_enter Try.func83,Try.ntmps83
   try go_wp2_with (first|((with_reducible refine gD 2 ?_);(try (refine gate_guard D35 ?_;dsimp only));refine gB (cs:=#[.slice A0_0 l0_0.length c0_0]) 43 ?_;intro gb349 hg w24 hbox hb;have BK349:=am (hbox);have GW349:=ye HB hg;replace HB:=yH HB hb;have GE349:=GW349;clear hb hbox hg)|((with_reducible refine gD 3 ?_);(try (refine gate_guard D35 ?_;dsimp only));refine gB (cs:=#[.slice A1_0 l1_0.length c1_0]) 43 ?_;intro gb350 hg w25 hbox hb;have BK350:=am (hbox);have GW350:=ye HB hg;replace HB:=yH HB hb;have NB349_350:=yl BK349 hg;have NB350_349:=yg BK349 hg;replace BK349:=yb BK349 hb;have GE350:=GW350;clear hb hbox hg)|((with_reducible refine gD 4 ?_);(try (refine gate_guard D35 ?_;dsimp only));refine gB (cs:=#[.slice none 0 0]) 43 ?_;intro gb351 hg w26 hbox hb;have BK351:=am (hbox);have GW351:=ye HB hg;replace HB:=yH HB hb;have NB349_351:=yl BK349 hg;have NB351_349:=yg BK349 hg;replace BK349:=yb BK349 hb;have NB350_351:=yl BK350 hg;have NB351_350:=yg BK350 hg;replace BK350:=yb BK350 hb;have GE351:=GW351;clear hb hbox hg))
   replace BK349:=am (qd BK349.out)
   replace BK350:=am (qd BK350.out)
   replace BK351:=am (qd BK351.out)
   replace HB:=am (pd HB.out)
   have p354:0≤(0:Int):=D23
   have q354:0 < (l0_0.length:Int):=od D1
   obtain ⟨ad354,A354_0,c354_0,e354,hx354_0,hl354_0,hi354_0⟩:=at_L1 HR0_0.out 0 p354 q354
   have hw354_0:=hx354_0
   (try rw [show ((0:Int)).toNat=0 from rfl] at hw354_0)
   (try rw [show 0*1=0 from rfl] at hw354_0)
   (try rw [Addr.add_zero'] at hw354_0)
   cases e354
   have qi354:(0 < l0_0.length)=True:=eq_true D23
   (try rw [show ((0:Int)).toNat=0 from rfl] at hx354_0)
   (try rw [Addr.add_zero'] at hx354_0)
   replace hx354_0:=(HB.out.cell (World.block_lt_of_cell? w _ hx354_0)).trans hx354_0
   have HR354_0:=am hi354_0
   have HC354_0:=am hl354_0
   clear hi354_0 hl354_0
   replace p354:=eq_true p354
   replace q354:=eq_true q354
   refine rS (n:=19) (S:=fun w'=>w'.cell? ⟨gb349,0,none⟩=some (.slice (some ad354) l0_0.length c0_0)∧w'.cell? ⟨gb350,0,none⟩=some (.slice A1_0 l1_0.length c1_0)∧w'.cell? ad354=some (.slice A354_0 (rd_L1 l0_0 0).length c354_0)) (ds:=[]) [(0,6),(1,0),(2,8),(3,9),(4,10),(5,0),(6,12),(7,13),(8,14),(9,15),(14,20),(10,16),(11,17),(12,18),(13,19),(15,21),(16,22),(17,23),(18,24)] D3 rfl spec_Product.tab1 spec_Product.bits1 ⟨yk BK349 0,yk BK350 0,((HB.out.cell (World.block_lt_of_cell? w _ hw354_0)).trans hw354_0)⟩ (fun hHeld HT_ HW_=>?_)
   generalize w26.drew=w27 at BK349 BK350 BK351 HB HR354_0 hx354_0 hHeld ⊢
   refine rR ?_
   refine rO (N:=some 7) HT_ rfl rfl D3 D24 (fun K hK=>?_)
   refine goes_ Try.func103 D3 rfl #[.agg #[.slice (some ad354) l0_0.length c0_0]] D35 rfl rfl D27 ?_
   with_reducible refine (spec_GoodMatrix.calls k _ _ l0_0 true _ (yc (Kd.C_below HR0_0.out HB.out)) HC0_0.out A3.out).mono ?_
   rintro e w28 ⟨rfl,hb⟩
   refine ⟨_,rfl,?_⟩
   replace BK349:=yb BK349 hb
   replace BK350:=yb BK350 hb
   replace BK351:=yb BK351 hb
   replace HB:=yH HB hb
   (try clear hb)
   (try clear hb2)
   (try clear hk)
   (try clear hi)
   refine hK.out _ _ ⟨yk BK349 0,yk BK350 0,((HB.out.cell (World.block_lt_of_cell? w _ hw354_0)).trans hw354_0)⟩ (fun hHeld=>?_)
   clear hK K
   refine rN (nA 7) ?_
   refine rR ?_
   refine rO (N:=some 11) HT_ rfl rfl D3 D24 (fun K hK=>?_)
   refine goes_ Try.func103 D3 rfl #[.agg #[.slice A1_0 l1_0.length c1_0]] D35 rfl rfl D27 ?_
   with_reducible refine (spec_GoodMatrix.calls k _ _ l1_0 true _ (yc (Kd.C_below HR1_0.out HB.out)) HC1_0.out A5.out).mono ?_
   rintro e w29 ⟨rfl,hb⟩
   refine ⟨_,rfl,?_⟩
   replace BK349:=yb BK349 hb
   replace BK350:=yb BK350 hb
   replace BK351:=yb BK351 hb
   replace HB:=yH HB hb
   (try clear hb)
   (try clear hb2)
   (try clear hk)
   (try clear hi)
   refine hK.out _ _ ⟨yk BK349 0,yk BK350 0,((HB.out.cell (World.block_lt_of_cell? w _ hw354_0)).trans hw354_0)⟩ (fun hHeld=>?_)
   clear hK K
   refine rN (nA 11) ?_
   refine rR ?_
   refine rD HT_ D3 ?_
   have hnb30:=NB351_349.out
   have hnc30:=NB349_351.out
   have hnb31:=NB351_350.out
   have hnc31:=NB350_351.out
   obtain ⟨hcz32_0,hfz32_0⟩:=yk1 BK351
   try go_wp2
   refine bodyPost_ret (results_ct rfl _ _ gb351 43 #[.slice none 0 0] (0,0) _ rfl D83 Try.underlying43 rfl D3) rfl ?_
   exact ⟨_,D0,D25,yW HB⟩
  replace c6:=Bool.eq_false_iff.mpr c6
  subst c6
  replace H:=yn H
  simp only [Option.some.injEq,Prod.mk.injEq] at H
  obtain ⟨rfl,rfl⟩:=H
  go_enter Try.func83,Try.ntmps83
  try go_wp2_with (first|((with_reducible refine gD 2 ?_);(try (refine gate_guard D35 ?_;dsimp only));refine gB (cs:=#[.slice A0_0 l0_0.length c0_0]) 43 ?_;intro gb349 hg w33 hbox hb;have BK349:=am (hbox);have GW349:=ye HB hg;replace HB:=yH HB hb;have GE349:=GW349;clear hb hbox hg)|((with_reducible refine gD 3 ?_);(try (refine gate_guard D35 ?_;dsimp only));refine gB (cs:=#[.slice A1_0 l1_0.length c1_0]) 43 ?_;intro gb350 hg w34 hbox hb;have BK350:=am (hbox);have GW350:=ye HB hg;replace HB:=yH HB hb;have NB349_350:=yl BK349 hg;have NB350_349:=yg BK349 hg;replace BK349:=yb BK349 hb;have GE350:=GW350;clear hb hbox hg)|((with_reducible refine gD 4 ?_);(try (refine gate_guard D35 ?_;dsimp only));refine gB (cs:=#[.slice none 0 0]) 43 ?_;intro gb351 hg w35 hbox hb;have BK351:=am (hbox);have GW351:=ye HB hg;replace HB:=yH HB hb;have NB349_351:=yl BK349 hg;have NB351_349:=yg BK349 hg;replace BK349:=yb BK349 hb;have NB350_351:=yl BK350 hg;have NB351_350:=yg BK350 hg;replace BK350:=yb BK350 hb;have GE351:=GW351;clear hb hbox hg))
  replace BK349:=am (qd BK349.out)
  replace BK350:=am (qd BK350.out)
  replace BK351:=am (qd BK351.out)
  replace HB:=am (pd HB.out)
  refine rS (n:=19) (S:=fun w'=>w'.cell? ⟨gb349,0,none⟩=some (.slice A0_0 l0_0.length c0_0)∧w'.cell? ⟨gb350,0,none⟩=some (.slice A1_0 l1_0.length c1_0)) (ds:=[]) [(0,6),(1,0),(2,8),(3,9),(4,10),(5,0),(6,12),(7,13),(8,14),(9,15),(10,16),(11,17),(12,18),(13,19),(14,20),(15,21),(16,22),(17,23),(18,24)] D3 rfl spec_Product.tab1 spec_Product.bits1 ⟨yk BK349 0,yk BK350 0⟩ (fun hHeld HT_ HW_=>?_)
  generalize w35.drew=w36 at BK349 BK350 BK351 HB hHeld ⊢
  refine rR ?_
  refine rO (N:=some 7) HT_ rfl rfl D3 D24 (fun K hK=>?_)
  refine goes_ Try.func103 D3 rfl #[.agg #[.slice A0_0 l0_0.length c0_0]] D35 rfl rfl D27 ?_
  with_reducible refine (spec_GoodMatrix.calls k _ _ l0_0 true _ (yc (Kd.C_below HR0_0.out HB.out)) HC0_0.out A3.out).mono ?_
  rintro e w37 ⟨rfl,hb⟩
  refine ⟨_,rfl,?_⟩
  replace BK349:=yb BK349 hb
  replace BK350:=yb BK350 hb
  replace BK351:=yb BK351 hb
  replace HB:=yH HB hb
  (try clear hb)
  (try clear hb2)
  (try clear hk)
  (try clear hi)
  refine hK.out _ _ ⟨yk BK349 0,yk BK350 0⟩ (fun hHeld=>?_)
  clear hK K
  refine rN (nA 7) ?_
  refine rR ?_
  refine rO (N:=some 11) HT_ rfl rfl D3 D24 (fun K hK=>?_)
  refine goes_ Try.func103 D3 rfl #[.agg #[.slice A1_0 l1_0.length c1_0]] D35 rfl rfl D27 ?_
  with_reducible refine (spec_GoodMatrix.calls k _ _ l1_0 false _ (yc (Kd.C_below HR1_0.out HB.out)) HC1_0.out A5.out).mono ?_
  rintro e w38 ⟨rfl,hb⟩
  refine ⟨_,rfl,?_⟩
  replace BK349:=yb BK349 hb
  replace BK350:=yb BK350 hb
  replace BK351:=yb BK351 hb
  replace HB:=yH HB hb
  (try clear hb)
  (try clear hb2)
  (try clear hk)
  (try clear hi)
  refine hK.out _ _ ⟨yk BK349 0,yk BK350 0⟩ (fun hHeld=>?_)
  clear hK K
  refine rN (nA 11) ?_
  refine rR ?_
  refine rD HT_ D3 ?_
  have hnb39:=NB351_349.out
  have hnc39:=NB349_351.out
  have hnb40:=NB351_350.out
  have hnc40:=NB350_351.out
  obtain ⟨hcz41_0,hfz41_0⟩:=yk1 BK351
  try go_wp2
  refine bodyPost_ret (results_ct rfl _ _ gb351 43 #[.slice none 0 0] (0,0) _ rfl D83 Try.underlying43 rfl D3) rfl ?_
  exact ⟨_,D0,D25,yW HB⟩
 replace c4:=Bool.eq_false_iff.mpr c4
 subst c4
 replace H:=yn H
 simp only [Option.some.injEq,Prod.mk.injEq] at H
 obtain ⟨rfl,rfl⟩:=H
 go_enter Try.func83,Try.ntmps83
 try go_wp2_with (first|((with_reducible refine gD 2 ?_);(try (refine gate_guard D35 ?_;dsimp only));refine gB (cs:=#[.slice A0_0 l0_0.length c0_0]) 43 ?_;intro gb349 hg w42 hbox hb;have BK349:=am (hbox);have GW349:=ye HB hg;replace HB:=yH HB hb;have GE349:=GW349;clear hb hbox hg)|((with_reducible refine gD 3 ?_);(try (refine gate_guard D35 ?_;dsimp only));refine gB (cs:=#[.slice A1_0 l1_0.length c1_0]) 43 ?_;intro gb350 hg w43 hbox hb;have BK350:=am (hbox);have GW350:=ye HB hg;replace HB:=yH HB hb;have NB349_350:=yl BK349 hg;have NB350_349:=yg BK349 hg;replace BK349:=yb BK349 hb;have GE350:=GW350;clear hb hbox hg)|((with_reducible refine gD 4 ?_);(try (refine gate_guard D35 ?_;dsimp only));refine gB (cs:=#[.slice none 0 0]) 43 ?_;intro gb351 hg w44 hbox hb;have BK351:=am (hbox);have GW351:=ye HB hg;replace HB:=yH HB hb;have NB349_351:=yl BK349 hg;have NB351_349:=yg BK349 hg;replace BK349:=yb BK349 hb;have NB350_351:=yl BK350 hg;have NB351_350:=yg BK350 hg;replace BK350:=yb BK350 hb;have GE351:=GW351;clear hb hbox hg))
 replace BK349:=am (qd BK349.out)
 replace BK350:=am (qd BK350.out)
 replace BK351:=am (qd BK351.out)
 replace HB:=am (pd HB.out)
 refine rS (n:=19) (S:=fun w'=>w'.cell? ⟨gb349,0,none⟩=some (.slice A0_0 l0_0.length c0_0)) (ds:=[]) [(0,6),(1,0),(2,8),(3,9),(4,10),(5,11),(6,12),(7,13),(8,14),(9,15),(10,16),(11,17),(12,18),(13,19),(14,20),(15,21),(16,22),(17,23),(18,24)] D3 rfl spec_Product.tab1 spec_Product.bits1 (yk BK349 0) (fun hHeld HT_ HW_=>?_)
 generalize w44.drew=w45 at BK349 BK350 BK351 HB hHeld ⊢
 refine rR ?_
 refine rO (N:=some 7) HT_ rfl rfl D3 D24 (fun K hK=>?_)
 refine goes_ Try.func103 D3 rfl #[.agg #[.slice A0_0 l0_0.length c0_0]] D35 rfl rfl D27 ?_
 with_reducible refine (spec_GoodMatrix.calls k _ _ l0_0 false _ (yc (Kd.C_below HR0_0.out HB.out)) HC0_0.out A3.out).mono ?_
 rintro e w46 ⟨rfl,hb⟩
 refine ⟨_,rfl,?_⟩
 replace BK349:=yb BK349 hb
 replace BK350:=yb BK350 hb
 replace BK351:=yb BK351 hb
 replace HB:=yH HB hb
 (try clear hb)
 (try clear hb2)
 (try clear hk)
 (try clear hi)
 refine hK.out _ _ (yk BK349 0) (fun hHeld=>?_)
 clear hK K
 refine rN (nA 7) ?_
 refine rR ?_
 refine rD HT_ D3 ?_
 have hnb47:=NB351_349.out
 have hnc47:=NB349_351.out
 have hnb48:=NB351_350.out
 have hnc48:=NB350_351.out
 obtain ⟨hcz49_0,hfz49_0⟩:=yk1 BK351
 try go_wp2
 refine bodyPost_ret (results_ct rfl _ _ gb351 43 #[.slice none 0 0] (0,0) _ rfl D83 Try.underlying43 rfl D3) rfl ?_
 exact ⟨_,D0,D25,yW HB⟩
end Go.Proofs.Ytajikfnpcobnpaa.PFnMatrices
-- SQUEEZED
