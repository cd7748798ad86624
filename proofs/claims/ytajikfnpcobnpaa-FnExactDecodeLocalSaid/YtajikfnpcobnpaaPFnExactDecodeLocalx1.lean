import Derived.Test.YtajikfnpcobnpaaVDecodeLocalB
import Derived.Test.YtajikfnpcobnpaaPFnExactDecodeLocalx0
namespace Go.Proofs.Ytajikfnpcobnpaa.PFnExactDecodeLocal
open Go.RowKit Go.Proofs.YtajikfnpcobnpaaW.PrintWords Go.Proofs.YtajikfnpcobnpaaW.PrintLast Go.Proofs.YtajikfnpcobnpaaW.PrintMore Go.Proofs.Ytajikfnpcobnpaa.KitS
attribute [local go_sem] max2_int min2_int max_two min_two max_three min_three max_four min_four
set_option linter.unusedVariables false
set_option maxHeartbeats 8000000
set_option maxRecDepth 100000
set_option linter.unusedSimpArgs false
mutual
def spec_l3Rows.l0:Nat→List ByteArray→List ByteArray→List (List Int)→Int→Int→Option (List ByteArray)
 | 0,_,_,_,_,_=>none
 | k+1,x1,x5,x13,x14,x15=>if x15 < x14 then (if 0≤x15 then (if x15 < (x13.length:Int) then (if 0 < (x1.length:Int) then (if 0≤((rdOf ByteArray.empty x1 0).size:Int) then (if (((rdOf ByteArray.empty x1 0).size:Int):Int).toNat≤281474976710656 then (spec_l3Rows.l1 k x1 x5 (List.replicate (((rdOf ByteArray.empty x1 0).size:Int):Int).toNat 0) x13 x14 x15 (rd_L1 x13 x15) ((rd_L1 x13 x15).length:Int) 0) else (none)) else (none)) else (none)) else (none)) else (none)) else (some x5)
def spec_l3Rows.l1:Nat→List ByteArray→List ByteArray→List Int→List (List Int)→Int→Int→List Int→Int→Int→Option (List ByteArray)
 | 0,_,_,_,_,_,_,_,_,_=>none
 | k+1,x1,x5,x8,x13,x14,x15,x24,x25,x26=>if x26 < x25 then (if 0≤x26 then (if x26 < (x24.length:Int) then (spec_l3Rows.l2 k x1 x5 x8 x26 (rd x24 x26) x13 x14 x15 x24 x25 x26 (x8.length:Int) 0) else (none)) else (none)) else (if x5.length < 8796093022208 then (spec_l3Rows.l0 k x1 (x5 ++ [strOfNums x8]) x13 x14 (wrap64 (x15+1))) else (none))
def spec_l3Rows.l2:Nat→List ByteArray→List ByteArray→List Int→Int→Int→List (List Int)→Int→Int→List Int→Int→Int→Int→Int→Option (List ByteArray)
 | 0,_,_,_,_,_,_,_,_,_,_,_,_,_=>none
 | k+1,x1,x5,x8,x9,x10,x13,x14,x15,x24,x25,x26,x32,x33=>if x33 < x32 then (if 0≤x33 then (if x33 < (x8.length:Int) then (if 0≤x9 then (if x9 < (x1.length:Int) then (if x33 < ((rdOf ByteArray.empty x1 x9).size:Int) then ((spec_l1Times.f k x10 (bt (rdOf ByteArray.empty x1 x9) x33)).bind fun t160=>(spec_l3Rows.l2 k x1 x5 (x8.set (x33:Int).toNat (Go.bits .xor .u8 (rd x8 x33) t160)) x9 x10 x13 x14 x15 x24 x25 x26 x32 (wrap64 (x33+1)))) else (none)) else (none)) else (none)) else (none)) else (none)) else (spec_l3Rows.l1 k x1 x5 x8 x13 x14 x15 x24 x25 (wrap64 (x26+1)))
end
def spec_l3Rows.f (k:Nat) (l0_0:List (List Int)) (l1:List ByteArray):Option (List ByteArray):=spec_l3Rows.l0 k l1 ([]:List ByteArray) l0_0 (l0_0.length:Int) 0
theorem spec_l3Rows.mono_l:∀ k,(∀ y0 y1 y2 y3 y4,LeO (spec_l3Rows.l0 k y0 y1 y2 y3 y4) (spec_l3Rows.l0 (k+1) y0 y1 y2 y3 y4))∧(∀ y0 y1 y2 y3 y4 y5 y6 y7 y8,LeO (spec_l3Rows.l1 k y0 y1 y2 y3 y4 y5 y6 y7 y8) (spec_l3Rows.l1 (k+1) y0 y1 y2 y3 y4 y5 y6 y7 y8))∧(∀ y0 y1 y2 y3 y4 y5 y6 y7 y8 y9 y10 y11 y12,LeO (spec_l3Rows.l2 k y0 y1 y2 y3 y4 y5 y6 y7 y8 y9 y10 y11 y12) (spec_l3Rows.l2 (k+1) y0 y1 y2 y3 y4 y5 y6 y7 y8 y9 y10 y11 y12))
 | 0=>⟨fun _ _ _ _ _ r h=>by simp [spec_l3Rows.l0] at h,fun _ _ _ _ _ _ _ _ _ r h=>by simp [spec_l3Rows.l1] at h,fun _ _ _ _ _ _ _ _ _ _ _ _ _ r h=>by simp [spec_l3Rows.l2] at h⟩
 | k+1=>by
  obtain ⟨ih0,ih1,ih2⟩:=spec_l3Rows.mono_l k
  refine ⟨?_,?_,?_⟩
  ·intro y0 y1 y2 y3 y4
   unfold spec_l3Rows.l0
   exact mm
  ·intro y0 y1 y2 y3 y4 y5 y6 y7 y8
   unfold spec_l3Rows.l1
   exact mm
  intro y0 y1 y2 y3 y4 y5 y6 y7 y8 y9 y10 y11 y12
  unfold spec_l3Rows.l2
  exact mm
theorem spec_l3Rows.mono:∀ a0 a1 k,LeO (spec_l3Rows.f k a0 a1) (spec_l3Rows.f (k+1) a0 a1):=by
 intro a0 a1 k
 obtain ⟨ih0,ih1,ih2⟩:=spec_l3Rows.mono_l k
 unfold spec_l3Rows.f
 exact mm
def spec_l3Rows.T12:Bool × List (List Nat × List Nat):=(true,[([],[]),([],[]),([0,1],[0,1]),([2],[2]),([],[]),([],[]),([],[]),([5,6],[5,6]),([7],[7]),([],[]),([8,9],[8,9]),([4,10],[4,10]),([3,11],[3,11]),([0,1,0,1,2,3,4,5,6,7,8,9,10,11,12],[0,1]),([13,12,11,0,1,2,3,4,5,6,7,8,9,10,11,12],[12,13])])
def spec_l3Rows.B12:List Nat:=[0,0,3,7,0,0,0,96,224,0,992,2032,4095,8191,16383]
theorem spec_l3Rows.tab12:rtab .any (opsOf Try.f89 12)=spec_l3Rows.T12:=by kernel_rfl
theorem spec_l3Rows.bits12:waitsOk spec_l3Rows.T12.2 spec_l3Rows.B12=true:=by kernel_rfl
theorem spec_l3Rows.calls (k:Nat) (A0_0:Option Addr) (c0_0:Nat) (l0_0:List (List Int)) (A1:Option Addr) (c1:Nat) (l1:List ByteArray) (r:List ByteArray) (w:World) (hr0_0:Kd.C (Kd.slice 5 (Kd.int .u8)) w A0_0 l0_0.length l0_0) (hc0_0:l0_0.length≤c0_0) (hr1:Kd.C Kd.string w A1 l1.length l1) (hc1:l1.length≤c1) (h:spec_l3Rows.f k l0_0 l1=some r) :
  Calls Try.prog 89 #[.agg #[.slice A0_0 l0_0.length c0_0], .slice A1 l1.length c1] w fun e w'=>∃ v0_:Value,e = .returned (v0_)∧Kd.R Kd.string 9 w' w.heap.size (fun _=>True) v0_ r∧Below w.heap.size w w':=by
 have hu43:=Try.underlying43
 have HR0_0:=am hr0_0
 have HC0_0:=am hc0_0
 clear hr0_0 hc0_0
 have HR1:=am hr1
 have HC1:=am hc1
 clear hr1 hc1
 have HB:=am (Below.refl w.heap.size w)
 have H:=h
 unfold spec_l3Rows.f at H
 clear h
 have H':=am H
 clear H
 go_enter Try.func89,Try.ntmps89
 go_wp2_with (first|((with_reducible refine gD 2 ?_);refine gB (cs:=#[.slice A0_0 l0_0.length c0_0]) 43 ?_;intro gb148 hg w3 hbox hb;have BK148:=am (hbox);have GW148:=ye HB hg;replace HB:=yH HB hb;have GE148:=GW148;clear hb hbox hg;obtain ⟨hcz4_0,hfz4_0⟩:=yk1 BK148))
 go_loopg [5,15] k (fun kq v5 v15 w'=>∃ (x5_1:List ByteArray) (x15_1:Int),v15 = .int .i64 x15_1∧Aside0 (spec_l3Rows.l0 kq l1 x5_1 l0_0 (l0_0.length:Int) x15_1=some r)∧Aside0 (kq≤k)∧Aside0 (Kd.R Kd.string 9 w' w.heap.size (fun _=>True) v5 x5_1)∧Aside0 (w'.heap[gb148]? = some (.cells #[(.slice A0_0 l0_0.length c0_0)] 43 (0,0)))∧Aside0 (Below w.heap.size w w'))
 case atStart=>exact ⟨(([]:List ByteArray)),(0),D2,H',⟨Nat.le_refl _⟩,⟨D10⟩,⟨yB BK148⟩,⟨yW HB⟩⟩
 case round =>
  clear H'
  try clear c1
  try clear p2
  try clear hcz4_0
  try clear hfz4_0
  obtain ⟨x5_1,x15_1,rfl,HA,HK1,HO_5,BK148,HB⟩:=hrel
  cases gk with
  | zero=>exact absurd HA.out (by simp [spec_l3Rows.l0])
  | succ k1 =>
   have H:=HA.out
   clear HA
   simp only [spec_l3Rows.l0] at H
   by_cases c5:x15_1 < (l0_0.length:Int)
   ·rw [if_pos c5] at H
    have c5b0:=decide_eq_true c5
    clear c5
    obtain ⟨c6,H⟩:=yi H
    have c6b0:=decide_eq_true c6
    clear c6
    obtain ⟨c7,H⟩:=yi H
    have c7b0:=decide_eq_true c7
    clear c7
    obtain ⟨c8,H⟩:=yi H
    have c8b0:=decide_eq_true c8
    have c8b1:decide (0 < l1.length)=true:=decide_eq_true D5
    clear c8
    obtain ⟨c9,H⟩:=yi H
    have c9b0:=eq_true c9
    have c9b1:decide (0≤((rdOf ByteArray.empty l1 0).size:Int))=true:=decide_eq_true c9
    clear c9
    obtain ⟨c10,H⟩:=yi H
    have c10b0:=eq_true c10
    have c10b1:decide ((((rdOf ByteArray.empty l1 0).size:Int):Int).toNat≤281474976710656)=true:=decide_eq_true c10
    clear c10
    generalize hy151:(List.replicate (((rdOf ByteArray.empty l1 0).size:Int):Int).toNat 0:List Int)=y151 at H
    have Ny151:=am hy151.symm
    clear hy151
    have H':=am H
    clear H
    have p149:0≤(x15_1:Int):=od D0
    have q149:x15_1 < (l0_0.length:Int):=od D0
    obtain ⟨ad149,A149_0,c149_0,e149,hx149_0,hl149_0,hi149_0⟩:=at_L1 HR0_0.out x15_1 p149 q149
    cases e149
    replace hx149_0:=(HB.out.cell (World.block_lt_of_cell? w _ hx149_0)).trans hx149_0
    have HR149_0:=am hi149_0
    have HC149_0:=am hl149_0
    clear hi149_0 hl149_0
    replace p149:=eq_true p149
    replace q149:=eq_true q149
    have p150:0≤(0:Int):=D5
    have q150:0 < (l1.length:Int):=od D0
    obtain ⟨ad150,e150,hx150_0⟩:=Kd.at_string HR1.out 0 p150 q150
    cases e150
    have qi150:(0 < l1.length)=True:=eq_true D5
    (try rw [show ((0:Int)).toNat=0 from rfl] at hx150_0)
    (try rw [Addr.add_zero'] at hx150_0)
    replace hx150_0:=(HB.out.cell (World.block_lt_of_cell? w _ hx150_0)).trans hx150_0
    replace p150:=eq_true p150
    replace q150:=eq_true q150
    go_wp2_with (first|((with_reducible refine gD 23 ?_);refine Kd.R_make (Kd.int .u8) _ 5 rfl (N:=23) rfl 57 _ _ rfl ((rdOf ByteArray.empty l1 0).size:Int) rfl rfl Try.underlying57 (.int .u8 0) 1 info5 rfl D4 D5 0 (ok:=fun _=>True) (okp:=fun _=>True) rfl (fun _ hk=>hk) trivial (od D0) (Nat.le_trans (Nat.mul_le_mul_right _ (od D0:((rdOf ByteArray.empty l1 0).size:Int).toNat≤281474976710656)) D5) (Below.refl _ _) (Nat.le_refl _) ?_;intro v152 w11 ho12 hb hg_ hnew_;clear hg_ hnew_;(first|rw [← Ny151.out] at ho12|(simp only [Int.reduceToNat] at ho12;rw [← Ny151.out] at ho12));replace HO_5:=bR HO_5 hb;have HO153:=am (Kd.R_lower ho12 (pz (yW HB)));replace BK148:=yb BK148 hb;replace HB:=yH HB hb;clear hb ho12))
    go_loopg [26] k1 (fun kq v26 w'=>∃ (x8_2:List Int) (x26_2:Int),v26 = .int .i64 x26_2∧Aside0 (spec_l3Rows.l1 kq l1 x5_1 x8_2 l0_0 (l0_0.length:Int) x15_1 (rd_L1 l0_0 x15_1) ((rd_L1 l0_0 x15_1).length:Int) x26_2=some r)∧Aside0 (kq≤k1)∧Aside0 (Kd.R Kd.string 9 w' w.heap.size (fun _=>True) u5 x5_1)∧Aside0 (Kd.R (Kd.int .u8) 5 w' w.heap.size (fun _=>True) v152 x8_2)∧Aside0 (w'.heap[gb148]? = some (.cells #[(.slice (some ad149) l0_0.length c0_0)] 43 (0,0)))∧Aside0 (Below w.heap.size w w'))
    case atStart=>exact ⟨(y151),(0),D2,H',⟨Nat.le_refl _⟩,⟨yR HO_5⟩,⟨yR HO153⟩,⟨yB BK148⟩,⟨yW HB⟩⟩
    case round =>
     clear H'
     try clear c1
     try clear p1
     try clear q1
     try clear hx1
     try clear qi1
     try clear p2
     try clear c5
     try clear c5b0
     try clear c6
     try clear c6b0
     try clear c7
     try clear c7b0
     try clear c8
     try clear c8b0
     try clear c8b1
     try clear c9
     try clear c9b0
     try clear c9b1
     try clear c10
     try clear c10b0
     try clear c10b1
     try clear hcz4_0
     try clear hfz4_0
     try clear hx149_0
     try clear hx150_0
     try clear p149
     try clear p150
     try clear p2
     try clear q149
     try clear q150
     obtain ⟨x8_2,x26_2,rfl,HA,HK2,HO_5,HO_8,BK148,HB⟩:=hrel
     cases gk with
     | zero=>exact absurd HA.out (by simp [spec_l3Rows.l1])
     | succ k2 =>
      have H:=HA.out
      clear HA
      simp only [spec_l3Rows.l1] at H
      by_cases c13:x26_2 < ((rd_L1 l0_0 x15_1).length:Int)
      ·rw [if_pos c13] at H
       have c13b0:=decide_eq_true c13
       clear c13
       obtain ⟨c14,H⟩:=yi H
       have c14b0:=decide_eq_true c14
       clear c14
       obtain ⟨c15,H⟩:=yi H
       have c15b0:=decide_eq_true c15
       clear c15
       have H':=am H
       clear H
       have p157:0≤(x26_2:Int):=od D0
       have q157:x26_2 < ((rd_L1 l0_0 x15_1).length:Int):=od D0
       obtain ⟨ad157,e157,hx157_0⟩:=Kd.at_int HR149_0.out x26_2 p157 q157
       cases e157
       replace hx157_0:=(HB.out.cell (World.block_lt_of_cell? w _ hx157_0)).trans hx157_0
       replace p157:=eq_true p157
       replace q157:=eq_true q157
       obtain ⟨Ao16,co16,eo16⟩:=Kd.R_slice HO_8.out
       subst eo16
       go_wp2
       go_loopg [33] k2 (fun kq v33 w'=>∃ (x8_3:List Int) (x33_3:Int),v33 = .int .i64 x33_3∧Aside0 (spec_l3Rows.l2 kq l1 x5_1 x8_3 x26_2 (rd (rd_L1 l0_0 x15_1) x26_2) l0_0 (l0_0.length:Int) x15_1 (rd_L1 l0_0 x15_1) ((rd_L1 l0_0 x15_1).length:Int) x26_2 (x8_2.length:Int) x33_3=some r)∧Aside0 (kq≤k2)∧Aside0 (Kd.R Kd.string 9 w' w.heap.size (fun _=>True) u5 x5_1)∧Aside0 (Kd.R (Kd.int .u8) 5 w' w.heap.size (fun _=>True) (.slice Ao16 x8_2.length co16) x8_3)∧Aside0 (w'.heap[gb148]? = some (.cells #[(.slice (some ad149) l0_0.length c0_0)] 43 (0,0)))∧Aside0 (Below w.heap.size w w'))
       case atStart=>exact ⟨(x8_2),(0),D2,H',⟨Nat.le_refl _⟩,⟨yR HO_5⟩,⟨yR HO_8⟩,⟨yB BK148⟩,⟨yW HB⟩⟩
       case round =>
        clear H'
        try clear c1
        try clear p1
        try clear q1
        try clear hx1
        try clear qi1
        try clear p2
        try clear c5
        try clear c5b0
        try clear c6
        try clear c6b0
        try clear c7
        try clear c7b0
        try clear c8
        try clear c8b0
        try clear c8b1
        try clear c9
        try clear c9b0
        try clear c9b1
        try clear c10
        try clear c10b0
        try clear c10b1
        try clear c13
        try clear c13b0
        try clear c14
        try clear c14b0
        try clear p14
        try clear q14
        try clear hx14
        try clear c15
        try clear c15b0
        try clear p15
        try clear q15
        try clear hx15
        try clear qi15
        try clear hcz4_0
        try clear hfz4_0
        try clear hx149_0
        try clear hx150_0
        try clear hx157_0
        try clear p1
        try clear p149
        try clear p150
        try clear p157
        try clear p2
        try clear q1
        try clear q149
        try clear q150
        try clear q157
        obtain ⟨x8_3,x33_3,rfl,HA,HK3,HO_5,HO_8,BK148,HB⟩:=hrel
        have hl8_3:=(Kd.R_reads' HO_8.out).1
        rw [hl8_3] at HO_8
        (try simp only [hl8_3])
        (try simp only [hl8_3] at BK148)
        (try simp only [hl8_3] at HO_5)
        cases gk with
        | zero=>exact absurd HA.out (by simp [spec_l3Rows.l2])
        | succ k3 =>
         have H:=HA.out
         clear HA
         simp only [spec_l3Rows.l2] at H
         by_cases c17:x33_3 < (x8_2.length:Int)
         ·rw [if_pos c17] at H
          have c17b0:=decide_eq_true c17
          clear c17
          obtain ⟨c18,H⟩:=yi H
          have c18b0:=decide_eq_true c18
          clear c18
          obtain ⟨c19,H⟩:=yi H
          have c19b0:=decide_eq_true c19
          clear c19
          obtain ⟨c20,H⟩:=yi H
          have c20b0:=decide_eq_true c20
          clear c20
          obtain ⟨c21,H⟩:=yi H
          have c21b0:=decide_eq_true c21
          clear c21
          obtain ⟨c22,H⟩:=yi H
          have c22b0:=decide_eq_true c22
          clear c22
          obtain ⟨t160,A24,H⟩:=yo H
          generalize hy161:(x8_3.set (x33_3:Int).toNat (Go.bits .xor .u8 (rd x8_3 x33_3) t160):List Int)=y161 at H
          have Ny161:=am hy161.symm
          clear hy161
          have H':=am H
          clear H
          try go_wp2
          replace HO_5:=am (Kd.R_drew HO_5.out)
          replace HO_8:=am (Kd.R_drew HO_8.out)
          replace BK148:=am (qd BK148.out)
          replace HB:=am (pd HB.out)
          have p158:0≤(x33_3:Int):=od D0
          have q158:x33_3 < (x8_3.length:Int):=od D0
          obtain ⟨ad158,e158,hx158_0⟩:=Kd.at_int (Kd.R_reads' HO_8.out).2.2 x33_3 p158 q158
          cases e158
          replace p158:=eq_true p158
          replace q158:=eq_true q158
          have p159:0≤(x26_2:Int):=od D0
          have q159:x26_2 < (l1.length:Int):=od D0
          obtain ⟨ad159,e159,hx159_0⟩:=Kd.at_string HR1.out x26_2 p159 q159
          have hw159_0:=hx159_0
          obtain rfl:ad150=ad159:=(by injection e159)
          replace hx159_0:=(HB.out.cell (World.block_lt_of_cell? w _ hx159_0)).trans hx159_0
          replace p159:=eq_true p159
          replace q159:=eq_true q159
          have p23:0≤(x33_3:Int):=od D0
          have q23:x33_3 < ((rdOf ByteArray.empty l1 x26_2).size:Int):=od D0
          have hx23:=bt_at (rdOf ByteArray.empty l1 x26_2) x33_3
          replace p23:=eq_true p23
          replace q23:=eq_true q23
          refine rS (n:=15) (S:=fun w'=>w'.cell? (ad158.add (x33_3).toNat)=some (.int .u8 (rd x8_3 x33_3))∧w'.cell? (ad150.add (x26_2).toNat)=some (.string (rdOf ByteArray.empty l1 x26_2))) (ds:=[14]) [(0,36),(1,37),(2,38),(4,40),(5,41),(6,42),(7,43),(9,45),(3,39),(8,44),(10,46),(11,0),(12,48),(13,49),(14,0)] D3 rfl spec_l3Rows.tab12 spec_l3Rows.bits12 ⟨hx158_0,((HB.out.cell (World.block_lt_of_cell? w _ hw159_0)).trans hw159_0)⟩ (fun hHeld HT_ HW_=>?_)
          generalize wr.drew=w26 at HO_5 HO_8 BK148 HB hx158_0 hx159_0 hHeld ⊢
          refine rR ?_
          refine rO (N:=some 47) HT_ rfl rfl D3 D4 (fun K hK=>?_)
          refine goes_ Try.func174 D3 rfl #[.int .u8 (rd (rd_L1 l0_0 x15_1) x26_2), .int .u8 (bt (rdOf ByteArray.empty l1 x26_2) x33_3)] D11 rfl rfl D8 ?_
          with_reducible refine (spec_l1Times.calls k3 (rd (rd_L1 l0_0 x15_1) x26_2) (bt (rdOf ByteArray.empty l1 x26_2) x33_3) t160 _ A24.out).mono ?_
          rintro e w' ⟨rfl,⟨nd,rfl⟩⟩
          refine ⟨_,rfl,?_⟩
          have p25:0≤(x33_3:Int):=od D0
          have q25:(x33_3:Int) < ((x8_3.length:Int):Int):=od D0
          obtain ⟨go25,co25,eo25,gb25,gl25,cl25,HG25⟩:=Kd.R_form HO_8.out D5
          (first|cases eo25|(injection eo25 with ea_ en_ ec_;(first|subst ea_|(injection ea_ with ea_;subst ea_));subst ec_;clear en_))
          have GB25:=am gb25
          have GG25:=am HG25
          clear gb25 gl25 HG25
          (first|simp only [add_plain] at hx158_0|skip)
          obtain ⟨hx25_0,hf25_0⟩:=Kd.R_celln 0 HO_8.out (x33_3:Int) p25 q25
          replace p25:=eq_true p25
          replace q25:=eq_true q25
          have HP27:=Kd.R_putn HO_8.out (x33_3:Int) (Go.bits .xor .u8 (rd x8_3 x33_3) t160)
          rw [← Ny161.out] at HP27
          have HQ27:=am HP27
          clear HP27
          refine hK.out _ _ ⟨hHeld.1,((HB.out.cell (World.block_lt_of_cell? w _ hw159_0)).trans hw159_0)⟩ (fun hHeld=>?_)
          clear hK K
          refine rN (a':=?_) ?_ ?_
          rotate_left
          ·show Act.put _ (some 47) _=_
           simp only [Act.put,q1,q2,q3,i64_w,i32_w]
           rfl
          refine rR ?_
          refine rL (N:=none) HT_ rfl rfl D3 D4 (fun K hK=>?_)
          refine skip_ (w1:=?_) D11 rfl ?_ ?_
          rotate_left
          ·go_simp
           rfl
          refine hK.out _ _ ?_
          clear hK K
          refine rD HT_ D3 ?_
          try go_wp2
          (try simp only [← hl8_3])
          go_roundg k3
          case measure=>have:=HK1.out;have:=HK2.out;have:=HK3.out;omega
          case rel=>exact ⟨(y161),(wrap64 (x33_3+1)),D2,H',⟨by have:=HK1.out;have:=HK2.out;have:=HK3.out;omega⟩,⟨by (try simp only [hl8_3]);refine sR ?_;exact Kd.R_mono (Kd.R_far (p:=⟨go25,(x33_3:Int).toNat,none⟩) (Kd.R_types HO_5.out GG25.out D4) (fun _ hk=>hk.2) (.int .u8 (Go.bits .xor .u8 (rd x8_3 x33_3) t160))) (fun _ hk=>trivial)⟩,⟨by (try simp only [hl8_3]);refine sR ?_;exact HQ27.out⟩,⟨by (try simp only [hl8_3]);refine sB ?_;refine blk_far ?_ (by have h_:=Kd.R_ne HO_8.out BK148.out D4;intro e_;exact h_ (by rw [e_];rfl)) _;exact yB BK148⟩,⟨by repeat (first|(with_reducible first|exact HB.out|apply pa|apply pb|apply pd|refine pt ?_ GB25.out|refine pt ?_ GE148.out)|exact HB.out)⟩⟩
         rw [if_neg c17] at H
         have c17b0:=decide_eq_false c17
         (try simp only [hl8_3] at c17b0)
         clear c17
         have H':=am H
         clear H
         go_wp2
         (try simp only [← hl8_3])
         go_roundg k3
         case measure=>have:=HK1.out;have:=HK2.out;have:=HK3.out;omega
         case rel=>exact ⟨(x8_3),(wrap64 (x26_2+1)),D2,H',⟨by have:=HK1.out;have:=HK2.out;have:=HK3.out;omega⟩,⟨by (try simp only [hl8_3]);refine sR ?_;exact HO_5.out⟩,⟨by (try simp only [hl8_3]);refine sR ?_;exact HO_8.out⟩,⟨by (try simp only [hl8_3]);exact yB BK148⟩,⟨yW HB⟩⟩
      rw [if_neg c13] at H
      have c13b0:=decide_eq_false c13
      clear c13
      obtain ⟨c28,H⟩:=yi H
      have LMc28:=am c28
      clear c28
      generalize hy154:(x5_1 ++ [strOfNums x8_2]:List ByteArray)=y154 at H
      have Ny154:=am hy154.symm
      clear hy154
      have H':=am H
      clear H
      have hcv29:=own_string (P:=Try.prog) Try.underlying57 Try.underlying5 Try.underlying9 (Kd.own_of_R HO_8.out)
      go_wp2_with (first|((with_reducible refine gate_builtin (b:=.append) (xs:=#[.tmp 52, .tmp 55]) rfl ?_);at_builtin;refine Kd.R_append Kd.string (w0:=w) w.heap.size rfl (.tmp 52) (.tmp 55) 22 9 (.string ⟨#[]⟩) 16 rfl Try.underlying22 info9 rfl D4 D5 u5 x5_1 (strOfNums x8_2) [.string (strOfNums x8_2)] (fun _=>True) (fun _=>False) rfl rfl D75 (fun _ hk=>hk.elim) D34 (by exact (yR HO_5)) D46 D26 (by have:=LMc28.out;omega) ?_;intro v155 w30 ho hb hg hat;rw [← Ny154.out] at ho;have n0_:=am (Kd.R_over' (yR HO_8) (Kd.R_typed (yR HO_5)) D4 hg);have n1_:=am (blk_grown (g:=gb148) (o:=.cells #[.slice (some ad149) l0_0.length c0_0] 43 (0,0)) (yB BK148) hg (Kd.R_ne HO_5.out BK148.out D4));have n2_:=am (hb);have n3_:=am (ho);clear HO_8 BK148 HB HO_5;have HO_8:=n0_;have BK148:=n1_;have HB:=n2_;have HO156:=n3_;clear n0_ n1_ n2_ n3_ ho hb hg hat))
      go_roundg k2
      case measure=>have:=HK1.out;have:=HK2.out;omega
      case rel=>exact ⟨(y154),(wrap64 (x15_1+1)),D2,H',⟨D37⟩,⟨yR HO156⟩,⟨yB BK148⟩,⟨yW HB⟩⟩
   rw [if_neg c5] at H
   have c5b0:=decide_eq_false c5
   clear c5
   obtain rfl:=Option.some.inj H
   go_wp2
   go_ret
   exact ⟨_,D1,yR HO_5,yW HB⟩

def spec_l1Add.l0:Nat→List Int→List Int→List Int→Int→Int→Option (List Int)
 | 0,_,_,_,_,_=>none
 | k+1,x0,x1,x5,x8,x9=>if x9 < x8 then (if 0≤x9 then (if x9 < (x0.length:Int) then (if x9 < (x1.length:Int) then (if x5.length < 140737488355328 then (spec_l1Add.l0 k x0 x1 (x5 ++ [Go.bits .xor .u8 (rd x0 x9) (rd x1 x9)]) x8 (wrap64 (x9+1))) else (none)) else (none)) else (none)) else (none)) else (some x5)
def spec_l1Add.f (k:Nat) (l0:List Int) (l1:List Int):Option (List Int):=spec_l1Add.l0 k l0 l1 ([]:List Int) (l0.length:Int) 0
theorem spec_l1Add.mono_l:∀ k,(∀ y0 y1 y2 y3 y4,LeO (spec_l1Add.l0 k y0 y1 y2 y3 y4) (spec_l1Add.l0 (k+1) y0 y1 y2 y3 y4))
 | 0=>fun _ _ _ _ _ r h=>by simp [spec_l1Add.l0] at h
 | k+1=>by
  have ih0:=spec_l1Add.mono_l k
  intro y0 y1 y2 y3 y4
  unfold spec_l1Add.l0
  exact mm
theorem spec_l1Add.mono:∀ a0 a1 k,LeO (spec_l1Add.f k a0 a1) (spec_l1Add.f (k+1) a0 a1):=by
 intro a0 a1 k
 have ih0:=spec_l1Add.mono_l k
 unfold spec_l1Add.f
 exact mm
def spec_l1Add.T5:Bool × List (List Nat × List Nat):=(true,[([],[]),([],[]),([],[]),([1,2],[1,2]),([3],[3]),([],[]),([],[]),([5,6],[5,6]),([7],[7]),([4,8],[4,8]),([9],[9]),([0,10],[0,10]),([11,11,0,1,2,3,4,5,6,7,8,9,10,11],[0,11])])
def spec_l1Add.B5:List Nat:=[0,0,0,6,14,0,0,96,224,510,1022,2047,4095]
theorem spec_l1Add.tab5:rtab .any (opsOf Try.f123 5)=spec_l1Add.T5:=by kernel_rfl
theorem spec_l1Add.bits5:waitsOk spec_l1Add.T5.2 spec_l1Add.B5=true:=by kernel_rfl
theorem spec_l1Add.calls (k:Nat) (A0:Option Addr) (c0:Nat) (l0:List Int) (A1:Option Addr) (c1:Nat) (l1:List Int) (r:List Int) (w:World) (hr0:Kd.C (Kd.int .u8) w A0 l0.length l0) (hc0:l0.length≤c0) (hr1:Kd.C (Kd.int .u8) w A1 l1.length l1) (hc1:l1.length≤c1) (h:spec_l1Add.f k l0 l1=some r) :
  Calls Try.prog 123 #[.slice A0 l0.length c0, .slice A1 l1.length c1] w fun e w'=>∃ v0_:Value,e = .returned (v0_)∧Kd.R (Kd.int .u8) 5 w' w.heap.size (fun _=>True) v0_ r∧Below w.heap.size w w':=by
 have HR0:=am hr0
 have HC0:=am hc0
 clear hr0 hc0
 have HR1:=am hr1
 have HC1:=am hc1
 clear hr1 hc1
 have HB:=am (Below.refl w.heap.size w)
 have H:=h
 unfold spec_l1Add.f at H
 clear h
 have H':=am H
 clear H
 go_enter Try.func123,Try.ntmps123
 go_wp2
 go_loopg [5,9] k (fun kq v5 v9 w'=>∃ (x5_1:List Int) (x9_1:Int),v9 = .int .i64 x9_1∧Aside0 (spec_l1Add.l0 kq l0 l1 x5_1 (l0.length:Int) x9_1=some r)∧Aside0 (kq≤k)∧Aside0 (Kd.R (Kd.int .u8) 5 w' w.heap.size (fun _=>True) v5 x5_1)∧Aside0 (Below w.heap.size w w'))
 case atStart=>exact ⟨(([]:List Int)),(0),D2,H',⟨Nat.le_refl _⟩,⟨D10⟩,⟨yW HB⟩⟩
 case round =>
  clear H'
  try clear c1
  try clear p2
  obtain ⟨x5_1,x9_1,rfl,HA,HK1,HO_5,HB⟩:=hrel
  cases gk with
  | zero=>exact absurd HA.out (by simp [spec_l1Add.l0])
  | succ k1 =>
   have H:=HA.out
   clear HA
   simp only [spec_l1Add.l0] at H
   by_cases c3:x9_1 < (l0.length:Int)
   ·rw [if_pos c3] at H
    have c3b0:=decide_eq_true c3
    clear c3
    obtain ⟨c4,H⟩:=yi H
    have c4b0:=decide_eq_true c4
    clear c4
    obtain ⟨c5,H⟩:=yi H
    have c5b0:=decide_eq_true c5
    clear c5
    obtain ⟨c6,H⟩:=yi H
    have c6b0:=decide_eq_true c6
    clear c6
    obtain ⟨c7,H⟩:=yi H
    have LMc7:=am c7
    clear c7
    generalize hy164:(x5_1 ++ [Go.bits .xor .u8 (rd l0 x9_1) (rd l1 x9_1)]:List Int)=y164 at H
    have Ny164:=am hy164.symm
    clear hy164
    have H':=am H
    clear H
    try go_wp2
    replace HO_5:=am (Kd.R_drew HO_5.out)
    replace HB:=am (pd HB.out)
    have p162:0≤(x9_1:Int):=od D0
    have q162:x9_1 < (l0.length:Int):=od D0
    obtain ⟨ad162,e162,hx162_0⟩:=Kd.at_int HR0.out x9_1 p162 q162
    have hw162_0:=hx162_0
    cases e162
    replace hx162_0:=(HB.out.cell (World.block_lt_of_cell? w _ hx162_0)).trans hx162_0
    replace p162:=eq_true p162
    replace q162:=eq_true q162
    have p163:0≤(x9_1:Int):=od D0
    have q163:x9_1 < (l1.length:Int):=od D0
    obtain ⟨ad163,e163,hx163_0⟩:=Kd.at_int HR1.out x9_1 p163 q163
    have hw163_0:=hx163_0
    cases e163
    replace hx163_0:=(HB.out.cell (World.block_lt_of_cell? w _ hx163_0)).trans hx163_0
    replace p163:=eq_true p163
    replace q163:=eq_true q163
    refine rS (n:=13) (S:=fun w'=>w'.cell? (ad162.add (x9_1).toNat)=some (.int .u8 (rd l0 x9_1))∧w'.cell? (ad163.add (x9_1).toNat)=some (.int .u8 (rd l1 x9_1))) (ds:=[]) [(0,12),(1,13),(2,14),(3,15),(5,17),(6,18),(7,19),(4,16),(8,20),(9,21),(10,0),(11,0),(12,5)] D3 rfl spec_l1Add.tab5 spec_l1Add.bits5 ⟨((HB.out.cell (World.block_lt_of_cell? w _ hw162_0)).trans hw162_0),((HB.out.cell (World.block_lt_of_cell? w _ hw163_0)).trans hw163_0)⟩ (fun hHeld HT_ HW_=>?_)
    generalize wr.drew=w8 at HO_5 HB hx162_0 hx163_0 hHeld ⊢
    refine rR ?_
    refine rO (N:=some 22) HT_ rfl rfl D3 D4 (fun K hK=>?_)
    refine value_ (w1:=?_) (v:=?_) D11 rfl ?_ ?_
    rotate_left 2
    ·go_simp
     constructor
     ·rfl
     rfl
    refine hK.out _ _ ⟨(World.cell?_alloc_lt _ _ _ (World.block_lt_of_cell? _ _ (((HB.out.cell (World.block_lt_of_cell? w _ hw162_0)).trans hw162_0)))).trans (((HB.out.cell (World.block_lt_of_cell? w _ hw162_0)).trans hw162_0)),(World.cell?_alloc_lt _ _ _ (World.block_lt_of_cell? _ _ (((HB.out.cell (World.block_lt_of_cell? w _ hw163_0)).trans hw163_0)))).trans (((HB.out.cell (World.block_lt_of_cell? w _ hw163_0)).trans hw163_0))⟩ (fun hHeld=>?_)
    clear hK K
    refine rN (a':=?_) ?_ ?_
    rotate_left
    ·show Act.put _ (some 22) _=_
     simp only [Act.put,q1,q2,q3,i64_w,i32_w]
     rfl
    refine rO (N:=some 23) HT_ rfl rfl D3 D4 (fun K hK=>?_)
    refine Kd.R_append_step (Kd.int .u8) (w0:=w) w.heap.size D11 (.tmp 12) (.tmp 22) 57 5 (.int .u8 0) 1 rfl Try.underlying57 info5 rfl D4 D5 u5 x5_1 (Go.bits .xor .u8 (rd l0 x9_1) (rd l1 x9_1)) [.int .u8 (Go.bits .xor .u8 (rd l0 x9_1) (rd l1 x9_1))] (fun _=>True) (fun _=>False) rfl rfl ?aP (fun _ hk=>hk.elim) ?aF ?aO ?aB ?aS ?aL ?_
    (case aP=>exact rfl)
    (case aB=>exact (yW HB))
    (case aF=>exact (fun _ _=>trivial))
    (case aO=>exact (yR HO_5))
    (case aS=>exact (pz (yW HB)))
    (case aL=>have:=LMc7.out;omega)
    intro v165 w9 ho hb hg hat
    rw [← Ny164.out] at ho
    have n0_:=am (hb)
    have n1_:=am (ho)
    clear HB
    clear HO_5
    have HB:=n0_
    have HO166:=n1_
    clear n0_ n1_
    clear ho hb hg hat
    refine hK.out _ _ ⟨((HB.out.cell (World.block_lt_of_cell? w _ hw162_0)).trans hw162_0),((HB.out.cell (World.block_lt_of_cell? w _ hw163_0)).trans hw163_0)⟩ (fun hHeld=>?_)
    clear hK K
    refine rN (a':=?_) ?_ ?_
    rotate_left
    ·show Act.put _ (some 23) _=_
     simp only [Act.put,q1,q2,q3,i64_w,i32_w]
     rfl
    refine rR ?_
    refine rD HT_ D3 ?_
    try go_wp2
    go_roundg k1
    case measure=>have:=HK1.out;omega
    case rel=>exact ⟨(y164),(wrap64 (x9_1+1)),D2,H',⟨D17⟩,⟨yR HO166⟩,⟨yW HB⟩⟩
   rw [if_neg c3] at H
   have c3b0:=decide_eq_false c3
   clear c3
   obtain rfl:=Option.some.inj H
   go_wp2
   go_ret
   exact ⟨_,D1,yR HO_5,yW HB⟩
def spec_l1Scale.l0:Nat→Int→List Int→List Int→Int→Int→Option (List Int)
 | 0,_,_,_,_,_=>none
 | k+1,x0,x5,x8,x9,x10=>if x10 < x9 then (if 0≤x10 then (if x10 < (x8.length:Int) then ((spec_l1Times.f k x0 (rd x8 x10)).bind fun t168=>(if x5.length < 140737488355328 then (spec_l1Scale.l0 k x0 (x5 ++ [t168]) x8 x9 (wrap64 (x10+1))) else (none))) else (none)) else (none)) else (some x5)
def spec_l1Scale.f (k:Nat) (a0:Int) (l1:List Int):Option (List Int):=spec_l1Scale.l0 k a0 ([]:List Int) l1 (l1.length:Int) 0
theorem spec_l1Scale.mono_l:∀ k,(∀ y0 y1 y2 y3 y4,LeO (spec_l1Scale.l0 k y0 y1 y2 y3 y4) (spec_l1Scale.l0 (k+1) y0 y1 y2 y3 y4))
 | 0=>fun _ _ _ _ _ r h=>by simp [spec_l1Scale.l0] at h
 | k+1=>by
  have ih0:=spec_l1Scale.mono_l k
  intro y0 y1 y2 y3 y4
  unfold spec_l1Scale.l0
  exact mm
theorem spec_l1Scale.mono:∀ a0 a1 k,LeO (spec_l1Scale.f k a0 a1) (spec_l1Scale.f (k+1) a0 a1):=by
 intro a0 a1 k
 have ih0:=spec_l1Scale.mono_l k
 unfold spec_l1Scale.f
 exact mm
theorem spec_l1Scale.calls (k:Nat) (a0:Int) (A1:Option Addr) (c1:Nat) (l1:List Int) (r:List Int) (w:World) (hr1:Kd.C (Kd.int .u8) w A1 l1.length l1) (hc1:l1.length≤c1) (h:spec_l1Scale.f k a0 l1=some r) :
  Calls Try.prog 124 #[.int .u8 a0, .slice A1 l1.length c1] w fun e w'=>∃ v0_:Value,e = .returned (v0_)∧Kd.R (Kd.int .u8) 5 w' w.heap.size (fun _=>True) v0_ r∧Below w.heap.size w w':=by
 have HR1:=am hr1
 have HC1:=am hc1
 clear hr1 hc1
 have HB:=am (Below.refl w.heap.size w)
 have H:=h
 unfold spec_l1Scale.f at H
 clear h
 have H':=am H
 clear H
 go_enter Try.func124,Try.ntmps124
 go_wp2
 go_loopg [5,10] k (fun kq v5 v10 w'=>∃ (x5_1:List Int) (x10_1:Int),v10 = .int .i64 x10_1∧Aside0 (spec_l1Scale.l0 kq a0 x5_1 l1 (l1.length:Int) x10_1=some r)∧Aside0 (kq≤k)∧Aside0 (Kd.R (Kd.int .u8) 5 w' w.heap.size (fun _=>True) v5 x5_1)∧Aside0 (Below w.heap.size w w'))
 case atStart=>exact ⟨(([]:List Int)),(0),D2,H',⟨Nat.le_refl _⟩,⟨D10⟩,⟨yW HB⟩⟩
 case round =>
  clear H'
  try clear c1
  try clear p2
  obtain ⟨x5_1,x10_1,rfl,HA,HK1,HO_5,HB⟩:=hrel
  cases gk with
  | zero=>exact absurd HA.out (by simp [spec_l1Scale.l0])
  | succ k1 =>
   have H:=HA.out
   clear HA
   simp only [spec_l1Scale.l0] at H
   by_cases c3:x10_1 < (l1.length:Int)
   ·rw [if_pos c3] at H
    have c3b0:=decide_eq_true c3
    clear c3
    obtain ⟨c4,H⟩:=yi H
    have c4b0:=decide_eq_true c4
    clear c4
    obtain ⟨c5,H⟩:=yi H
    have c5b0:=decide_eq_true c5
    clear c5
    obtain ⟨t168,A6,H⟩:=yo H
    obtain ⟨c7,H⟩:=yi H
    have LMc7:=am c7
    clear c7
    generalize hy169:(x5_1 ++ [t168]:List Int)=y169 at H
    have Ny169:=am hy169.symm
    clear hy169
    have H':=am H
    clear H
    have p167:0≤(x10_1:Int):=od D0
    have q167:x10_1 < (l1.length:Int):=od D0
    obtain ⟨ad167,e167,hx167_0⟩:=Kd.at_int HR1.out x10_1 p167 q167
    cases e167
    replace hx167_0:=(HB.out.cell (World.block_lt_of_cell? w _ hx167_0)).trans hx167_0
    replace p167:=eq_true p167
    replace q167:=eq_true q167
    go_wp2_with (first|((with_reducible refine gC 174 ?_);refine gM (some 17) Try.func174 (args:=#[.int .u8 a0, .int .u8 (rd l1 x10_1)]) (spec_l1Times.calls k1 a0 (rd l1 x10_1) t168 _ A6.out) ?_;rintro e w' ⟨rfl,⟨nd,rfl⟩⟩;refine ⟨_,rfl,?_⟩)|((with_reducible refine gate_builtin (b:=.append) (xs:=#[.tmp 14, .tmp 18]) rfl ?_);at_builtin;refine Kd.R_append (Kd.int .u8) (w0:=w) w.heap.size rfl (.tmp 14) (.tmp 18) 57 5 (.int .u8 0) 1 rfl Try.underlying57 info5 rfl D4 D5 u5 x5_1 t168 [.int .u8 t168] (fun _=>True) (fun _=>False) rfl rfl D75 (fun _ hk=>hk.elim) D34 (by exact (yR HO_5)) D46 D26 (by have:=LMc7.out;omega) ?_;intro v170 w8 ho hb hg hat;rw [← Ny169.out] at ho;have n0_:=am (hb);have n1_:=am (ho);clear HB HO_5;have HB:=n0_;have HO171:=n1_;clear n0_ n1_ ho hb hg hat))
    go_roundg k1
    case measure=>have:=HK1.out;omega
    case rel=>exact ⟨(y169),(wrap64 (x10_1+1)),D2,H',⟨D17⟩,⟨yR HO171⟩,⟨yW HB⟩⟩
   rw [if_neg c3] at H
   have c3b0:=decide_eq_false c3
   clear c3
   obtain rfl:=Option.some.inj H
   go_wp2
   go_ret
   exact ⟨_,D1,yR HO_5,yW HB⟩

def spec_l2Own.l0:Nat→List (List Int)→Int→Int→List (List Int)→Option ((List (List Int)))
 | 0,_,_,_,_=>none
 | k+1,x8,x9,x10,x175000=>if x10 < x9 then (if 0≤x10 then (if x10 < (x8.length:Int) then ((some (([]:List Int):List Int)).bind fun y176=>(if y176.length+(rd_L1 x8 x10).length < 140737488355328 then (if x175000.length < 5864062014805 then (spec_l2Own.l0 k x8 x9 (wrap64 (x10+1)) (x175000 ++ [(y176 ++ (rd_L1 x8 x10))])) else (none)) else (none))) else (none)) else (none)) else (some x175000)
def spec_l2Own.f (k:Nat) (l0_0:List (List Int)):Option ((List (List Int))):=spec_l2Own.l0 k l0_0 (l0_0.length:Int) 0 ([]:List (List Int))
theorem spec_l2Own.mono_l:∀ k,(∀ y0 y1 y2 y3,LeO (spec_l2Own.l0 k y0 y1 y2 y3) (spec_l2Own.l0 (k+1) y0 y1 y2 y3))
 | 0=>fun _ _ _ _ r h=>by simp [spec_l2Own.l0] at h
 | k+1=>by
  have ih0:=spec_l2Own.mono_l k
  intro y0 y1 y2 y3
  unfold spec_l2Own.l0
  exact mm
theorem spec_l2Own.mono:∀ a0 k,LeO (spec_l2Own.f k a0) (spec_l2Own.f (k+1) a0):=by
 intro a0 k
 have ih0:=spec_l2Own.mono_l k
 unfold spec_l2Own.f
 exact mm
def spec_l2Own.T5:Bool × List (List Nat × List Nat):=(true,[([],[]),([0],[0]),([],[]),([],[]),([2,3],[2,3]),([4],[4]),([1,5,4],[1,5]),([0,1,2,3,4,5,6],[]),([7,6,6,0,1,2,3,4,5,6],[6,7])])
def spec_l2Own.B5:List Nat:=[0,1,0,0,12,28,63,127,255]
theorem spec_l2Own.tab5:rtab .any (opsOf Try.f202 5)=spec_l2Own.T5:=by kernel_rfl
theorem spec_l2Own.bits5:waitsOk spec_l2Own.T5.2 spec_l2Own.B5=true:=by kernel_rfl
theorem spec_l2Own.calls (k:Nat) (A0_0:Option Addr) (c0_0:Nat) (l0_0:List (List Int)) (r:List (List Int)) (w:World) (hr0_0:Kd.C (Kd.slice 5 (Kd.int .u8)) w A0_0 l0_0.length l0_0) (hc0_0:l0_0.length≤c0_0) (h:spec_l2Own.f k l0_0=some r) :
  Calls Try.prog 202 #[.agg #[.slice A0_0 l0_0.length c0_0]] w fun e w'=>∃ v0_:Value,e = .returned (.agg #[v0_])∧Kd.S (Kd.slice 5 (Kd.int .u8)) 57 w' w.heap.size (fun _=>True) v0_ r∧Below w.heap.size w w':=by
 have hu43:=Try.underlying43
 have HR0_0:=am hr0_0
 have HC0_0:=am hc0_0
 clear hr0_0 hc0_0
 have HB:=am (Below.refl w.heap.size w)
 have H:=h
 unfold spec_l2Own.f at H
 clear h
 have H':=am H
 clear H
 go_enter Try.func202,Try.ntmps202
 go_wp2_with (first|((with_reducible refine gD 1 ?_);refine gB (cs:=#[.slice A0_0 l0_0.length c0_0]) 43 ?_;intro gb172 hg w2 hbox hb;have BK172:=am (hbox);have GW172:=ye HB hg;replace HB:=yH HB hb;have GE172:=GW172;clear hb hbox hg)|((with_reducible refine gD 2 ?_);refine gB (cs:=#[.slice none 0 0]) 43 ?_;intro gb173 hg w3 hbox hb;have BK173:=am (hbox);have GW173:=ye HB hg;replace HB:=yH HB hb;have NB172_173:=yl BK172 hg;have NB173_172:=yg BK172 hg;replace BK172:=yb BK172 hb;have GE173:=GW173;clear hb hbox hg)|((with_reducible refine gD 3 ?_);refine gB (cs:=#[.slice none 0 0]) 43 ?_;intro gb174 hg w4 hbox hb;have BK174:=am (hbox);have GW174:=ye HB hg;replace HB:=yH HB hb;have NB172_174:=yl BK172 hg;have NB174_172:=yg BK172 hg;replace BK172:=yb BK172 hb;have NB173_174:=yl BK173 hg;have NB174_173:=yg BK173 hg;replace BK173:=yb BK173 hb;have GE174:=GW174;clear hb hbox hg;have hnb5:=NB174_172.out;have hnc5:=NB172_174.out;have hnb6:=NB174_173.out;have hnc6:=NB173_174.out;obtain ⟨hcz7_0,hfz7_0⟩:=yk1 BK174;have hnb8:=NB172_173.out;have hnc8:=NB173_172.out;obtain ⟨hcz9_0,hfz9_0⟩:=yk1 BK172))
 go_loopg [10] k (fun kq v10 w'=>∃ (x10_1:Int) (x175000_1:List (List Int)) (u175000:Value),v10 = .int .i64 x10_1∧Aside0 (spec_l2Own.l0 kq l0_0 (l0_0.length:Int) x10_1 x175000_1=some r)∧Aside0 (kq≤k)∧Aside0 (Kd.S (Kd.slice 5 (Kd.int .u8)) 57 w' w.heap.size (fun _=>True) u175000 x175000_1)∧Aside0 (w'.heap[gb172]? = some (.cells #[(.slice A0_0 l0_0.length c0_0)] 43 (0,0)))∧Aside0 (w'.heap[gb173]? = some (.cells #[(.slice none 0 0)] 43 (0,0)))∧Aside0 (w'.heap[gb174]? = some (.cells #[u175000] 43 (0,0)))∧Aside0 (Below w.heap.size w w'))
 case atStart=>exact ⟨(0),(([]:List (List Int))),(.slice none 0 0),D2,H',⟨Nat.le_refl _⟩,⟨D47⟩,⟨yF BK172⟩,⟨yF BK173⟩,⟨by refine sB ?_;refine blk_put (cs:=#[.slice none 0 0]) ?_ 0 _ rfl;exact yB BK174⟩,⟨yW HB⟩⟩
 case round =>
  clear H'
  try clear c2
  try clear p2
  try clear c5
  try clear c6
  try clear c8
  try clear hcz7_0
  try clear hcz9_0
  try clear hfz7_0
  try clear hfz9_0
  obtain ⟨x10_1,x175000_1,u175000,rfl,HA,HK1,HO_175000,BK172,BK173,BK174,HB⟩:=hrel
  cases gk with
  | zero=>exact absurd HA.out (by simp [spec_l2Own.l0])
  | succ k1 =>
   have H:=HA.out
   clear HA
   simp only [spec_l2Own.l0] at H
   by_cases c10:x10_1 < (l0_0.length:Int)
   ·rw [if_pos c10] at H
    have c10b0:=decide_eq_true c10
    clear c10
    obtain ⟨c11,H⟩:=yi H
    have c11b0:=decide_eq_true c11
    clear c11
    obtain ⟨c12,H⟩:=yi H
    have c12b0:=decide_eq_true c12
    clear c12
    obtain ⟨y176,hy176,H⟩:=ys H
    have Ny176:=am hy176
    clear hy176
    obtain ⟨c13,H⟩:=yi H
    have LMc13:=am c13
    clear c13
    generalize hy179:(y176 ++ (rd_L1 l0_0 x10_1):List Int)=y179 at H
    have Ny179:=am hy179.symm
    clear hy179
    obtain ⟨c14,H⟩:=yi H
    have LMc14:=am c14
    clear c14
    generalize hy182:(x175000_1 ++ [y179]:List (List Int))=y182 at H
    have Ny182:=am hy182.symm
    clear hy182
    have H':=am H
    clear H
    have p175:0≤(x10_1:Int):=od D0
    have q175:x10_1 < (l0_0.length:Int):=od D0
    obtain ⟨ad175,A175_0,c175_0,e175,hx175_0,hl175_0,hi175_0⟩:=at_L1 HR0_0.out x10_1 p175 q175
    cases e175
    replace hx175_0:=(HB.out.cell (World.block_lt_of_cell? w _ hx175_0)).trans hx175_0
    have HR175_0:=am hi175_0
    have HC175_0:=am hl175_0
    clear hi175_0 hl175_0
    replace p175:=eq_true p175
    replace q175:=eq_true q175
    try go_wp2
    replace HO_175000:=am (Kd.S_drew HO_175000.out)
    replace BK172:=am (qd BK172.out)
    replace BK173:=am (qd BK173.out)
    replace BK174:=am (qd BK174.out)
    replace HB:=am (pd HB.out)
    refine rS (n:=9) (S:=fun w'=>w'.cell? ⟨gb174,0,none⟩=some (u175000)) (ds:=[8]) [(0,14),(3,17),(1,15),(2,0),(4,0),(5,0),(6,0),(7,21),(8,0)] D3 rfl spec_l2Own.tab5 spec_l2Own.bits5 (yk BK174 0) (fun hHeld HT_ HW_=>?_)
    generalize wr.drew=w15 at HO_175000 BK172 BK173 BK174 HB hHeld ⊢
    refine rR ?_
    refine rO (N:=some 16) HT_ rfl rfl D3 D4 (fun K hK=>?_)
    refine Kd.R_lit_step (Kd.int .u8) _ 5 ?hg (N:=16) ?hd (xs:=([]:List Int)) (inner:=[]) (ok:=fun _=>True) (okp:=fun _=>True) ?hr ?hp (fun _ hk=>hk) trivial (Below.refl _ _) (Nat.le_refl _) D36 ?_;(case hd=>rfl);(case hg=>rfl);(case hr=>first|(go_simp;done)|(go_simp;rfl));(case hp=>exact (Reps.none _ _))
    intro v177 w16 ho17 hb hg_ hnew_
    clear hg_ hnew_
    (first|rw [← Ny176.out] at ho17|(simp only [Int.reduceToNat] at ho17;rw [← Ny176.out] at ho17))
    replace HO_175000:=eS HO_175000 (Kd.R_base ho17) hb
    have HO178:=am (Kd.R_lower ho17 (pz (yW HB)))
    replace BK172:=yb BK172 hb
    replace BK173:=yb BK173 hb
    replace BK174:=yb BK174 hb
    replace HB:=yH HB hb
    clear hb ho17
    refine hK.out _ _ (yk BK174 0) (fun hHeld=>?_)
    clear hK K
    refine rN (a':=?_) ?_ ?_
    rotate_left
    ·show Act.put _ (some 16) _=_
     simp only [Act.put,q1,q2,q3,i64_w,i32_w]
     rfl
    refine rO (N:=some 18) HT_ rfl rfl D3 D4 (fun K hK=>?_)
    refine Kd.R_append_rows_step (Kd.int .u8) (w0:=w) w.heap.size D11 (.tmp 16) (.tmp 17) 57 5 (.int .u8 0) 1 rfl Try.underlying57 info5 rfl D4 D5 v177 y176 (rd_L1 l0_0 x10_1) _ _ _ (fun _=>True) (fun _=>False) rfl rfl ?aO ?aR (fun _ _ h=>h) (fun _ h=>h.elim) ?aF ?aB ?aS ?aL ?_
    (case aR=>repeat (first|exact (Kd.C_below HR175_0.out HB.out)|(with_reducible refine Kd.C_alloc ?_ _)|(with_reducible refine Kd.C_drewN ?_ _)|(with_reducible refine Kd.C_drew ?_)))
    (case aB=>exact (yW HB))
    (case aF=>exact (fun _ _=>trivial))
    (case aO=>exact (yR HO178))
    (case aS=>exact (pz (yW HB)))
    (case aL=>have:=LMc13.out;omega)
    intro v180 w18 ho hb hg hat
    rw [← Ny179.out] at ho
    have n0_:=am (Kd.S_after (ok:=(fun _=>True)) (yS HO_175000) hg hat)
    have n1_:=am (blk_grown (g:=gb172) (o:=.cells #[.slice (some ad175) l0_0.length c0_0] 43 (0,0)) (yB BK172) hg (Kd.R_ne HO178.out BK172.out D4))
    have n2_:=am (blk_grown (g:=gb173) (o:=.cells #[.slice none 0 0] 43 (0,0)) (yB BK173) hg (Kd.R_ne HO178.out BK173.out D4))
    have n3_:=am (blk_grown (g:=gb174) (o:=.cells #[u175000] 43 (0,0)) (yB BK174) hg (Kd.R_ne HO178.out BK174.out D4))
    have n4_:=am (hb)
    have n5_:=am (ho)
    clear HO_175000
    clear BK172
    clear BK173
    clear BK174
    clear HB
    clear HO178
    have HO_175000:=n0_
    have BK172:=n1_
    have BK173:=n2_
    have BK174:=n3_
    have HB:=n4_
    have HO181:=n5_
    clear n0_ n1_ n2_ n3_ n4_ n5_
    clear ho hb hg hat
    obtain ⟨Ao20,co20,eo20⟩:=Kd.R_slice HO181.out
    (first|subst eo20|(injection eo20 with f1_ f2_ f3_;have f4_:=f1_.symm;have f5_:=f3_.symm;clear f1_ f2_ f3_;subst f4_;subst f5_))
    refine hK.out _ _ (yk BK174 0) (fun hHeld=>?_)
    clear hK K
    refine rN (a':=?_) ?_ ?_
    rotate_left
    ·show Act.put _ (some 18) _=_
     simp only [Act.put,q1,q2,q3,i64_w,i32_w]
     rfl
    refine rO (N:=some 19) HT_ rfl rfl D3 D4 (fun K hK=>?_)
    refine value_ (w1:=?_) (v:=?_) D11 rfl ?_ ?_
    rotate_left 2
    ·go_simp
     constructor
     ·rfl
     rfl
    refine hK.out _ _ ((blk_cell (qa BK174.out _) 0).trans rfl) (fun hHeld=>?_)
    clear hK K
    refine rN (a':=?_) ?_ ?_
    rotate_left
    ·show Act.put _ (some 19) _=_
     simp only [Act.put,q1,q2,q3,i64_w,i32_w]
     rfl
    refine rO (N:=some 20) HT_ rfl rfl D3 D4 (fun K hK=>?_)
    refine Kd.S_append_step (Kd.slice 5 (Kd.int .u8)) (w0:=w) w.heap.size D11 (.tmp 15) (.tmp 19) 37 57 (.slice none 0 0) 24 rfl Try.underlying37 info57 rfl D4 D5 u175000 x175000_1 y179 [.slice Ao20 y179.length co20] (fun _=>True) (fun k_=>some k_=(.slice Ao20 y179.length co20:Value).ownBlock) rfl rfl ?aP (fun k_ hk_=>((Kd.R_mono (ok':=fun k_=>((fun _=>True)) k_∧some k_ ≠ (u175000:Value).ownBlock) (Kd.R_apart' (HO181.out) (Kd.S_typed HO_175000.out) D4) (fun k_ hk=>⟨trivial,hk.2⟩))).1 k_ hk_.symm) ?aF ?aO ?aB ?aS ?aL ?_
    (case aP=>exact Kd.M_row (Kd.R_mono (Kd.R_tight rfl (Kd.R_mono (ok':=fun k_=>((fun _=>True)) k_∧some k_ ≠ (u175000:Value).ownBlock) (Kd.R_apart' (HO181.out) (Kd.S_typed HO_175000.out) D4) (fun k_ hk=>⟨trivial,hk.2⟩))) (fun _ h_=>h_)))
    (case aB=>exact (yW HB))
    (case aF=>exact (fun _ _=>trivial))
    (case aO=>exact (by refine sS ?_;exact Kd.S_mono HO_175000.out (fun k_ hk=>⟨trivial,fun e_=>hk.2 e_⟩)))
    (case aS=>exact (pz (yW HB)))
    (case aL=>have:=LMc14.out;omega)
    intro v183 w19 ho hb hg hat
    rw [← Ny182.out] at ho
    have n0_:=am (blk_grown (g:=gb172) (o:=.cells #[.slice (some ad175) l0_0.length c0_0] 43 (0,0)) (yB BK172) hg (Kd.S_ne HO_175000.out BK172.out D4))
    have n1_:=am (blk_grown (g:=gb173) (o:=.cells #[.slice none 0 0] 43 (0,0)) (yB BK173) hg (Kd.S_ne HO_175000.out BK173.out D4))
    have n2_:=am (blk_grown (g:=gb174) (o:=.cells #[u175000] 43 (0,0)) (yB BK174) hg (Kd.S_ne HO_175000.out BK174.out D4))
    have n3_:=am (hb)
    have n4_:=am (ho)
    clear BK172
    clear BK173
    clear BK174
    clear HB
    clear HO_175000
    clear HO181
    have BK172:=n0_
    have BK173:=n1_
    have BK174:=n2_
    have HB:=n3_
    have HO184:=n4_
    clear n0_ n1_ n2_ n3_ n4_
    clear ho hb hg hat
    obtain ⟨Ao21,co21,eo21⟩:=Kd.S_slice HO184.out
    (first|subst eo21|(injection eo21 with f1_ f2_ f3_;have f4_:=f1_.symm;have f5_:=f3_.symm;clear f1_ f2_ f3_;subst f4_;subst f5_))
    refine hK.out _ _ (yk BK174 0) (fun hHeld=>?_)
    clear hK K
    refine rN (a':=?_) ?_ ?_
    rotate_left
    ·show Act.put _ (some 20) _=_
     simp only [Act.put,q1,q2,q3,i64_w,i32_w]
     rfl
    refine rR ?_
    refine rL (N:=none) HT_ rfl rfl D3 D4 (fun K hK=>?_)
    have hs22:w19.cell? ⟨gb174,0,none⟩=some (u175000):=(blk_cell BK174.out 0).trans rfl
    have hfs22:=blk_frozen BK174.out 0
    have hns22_0:=NB172_174.out
    have hns22_1:=NB173_174.out
    have hms22_0:=NB174_172.out
    have hms22_1:=NB174_173.out
    refine skip_ (w1:=?_) D11 rfl ?_ ?_
    rotate_left
    ·go_simp
     rfl
    refine hK.out _ _ ?_
    clear hK K
    refine rD HT_ D3 ?_
    try go_wp2
    go_roundg k1
    case measure=>have:=HK1.out;omega
    case rel=>exact ⟨(wrap64 (x10_1+1)),(y182),(.slice Ao21 y182.length co21),D2,H',⟨D17⟩,⟨by refine sS ?_;exact Kd.S_mono (Kd.S_far (p:=⟨gb174,0,none⟩) (Kd.S_types HO184.out BK174.out D4) (fun _ hk=>hk.2) (.slice Ao21 y182.length co21)) (fun _ hk=>trivial)⟩,⟨yF BK172⟩,⟨yF BK173⟩,⟨by refine sB ?_;refine blk_put (cs:=#[u175000]) ?_ 0 _ rfl;exact yB BK174⟩,⟨yW HB⟩⟩
   rw [if_neg c10] at H
   have c10b0:=decide_eq_false c10
   clear c10
   obtain rfl:=Option.some.inj H
   have hnb23:=NB174_172.out
   have hnc23:=NB172_174.out
   have hnb24:=NB174_173.out
   have hnc24:=NB173_174.out
   obtain ⟨hcz25_0,hfz25_0⟩:=yk1 BK174
   obtain ⟨Ao26,co26,eo26⟩:=Kd.S_slice HO_175000.out
   subst eo26
   have hnb27:=NB173_172.out
   have hnc27:=NB172_173.out
   obtain ⟨hcz28_0,hfz28_0⟩:=yk1 BK173
   go_wp2
   refine bodyPost_ret (results_cell_row rfl _ _ gb173 43 #[.slice Ao26 x175000_1.length co26] (0,0) _ rfl (by refine sB ?_;refine blk_put (cs:=#[.slice none 0 0]) ?_ 0 _ rfl;exact yB BK173) Try.underlying43 rfl D3) rfl ?_
   exact ⟨_,D1,by refine sS ?_;exact Kd.S_mono (Kd.S_far (p:=⟨gb173,0,none⟩) (Kd.S_types HO_175000.out BK173.out D4) (fun _ hk=>hk.2) (.slice Ao26 x175000_1.length co26)) (fun _ hk=>trivial),yW HB⟩

def spec_l1Power.l0:Nat→Int→Int→Int→Option (Int)
 | 0,_,_,_=>none
 | k+1,x0,x1,x5=>if x1 > 0 then ((spec_l1Times.f k x5 x0).bind fun t185=>(spec_l1Power.l0 k x0 (wrap64 (x1 - 1)) t185)) else (some x5)
def spec_l1Power.f (k:Nat) (a0:Int) (a1:Int):Option (Int):=spec_l1Power.l0 k a0 a1 1
theorem spec_l1Power.mono_l:∀ k,(∀ y0 y1 y2,LeO (spec_l1Power.l0 k y0 y1 y2) (spec_l1Power.l0 (k+1) y0 y1 y2))
 | 0=>fun _ _ _ r h=>by simp [spec_l1Power.l0] at h
 | k+1=>by
  have ih0:=spec_l1Power.mono_l k
  intro y0 y1 y2
  unfold spec_l1Power.l0
  exact mm
theorem spec_l1Power.mono:∀ a0 a1 k,LeO (spec_l1Power.f k a0 a1) (spec_l1Power.f (k+1) a0 a1):=by
 intro a0 a1 k
 have ih0:=spec_l1Power.mono_l k
 unfold spec_l1Power.f
 exact mm
theorem spec_l1Power.calls (k:Nat) (a0:Int) (a1:Int) (r:Int) (w:World) (h:spec_l1Power.f k a0 a1=some r) :
  Calls Try.prog 173 #[.int .u8 a0, .int .i64 a1] w fun e w'=>e = .returned (.int .u8 r)∧Drawn0 w w':=by
 have H:=h
 unfold spec_l1Power.f at H
 clear h
 have H':=am H
 clear H
 go_enter Try.func173,Try.ntmps173
 go_wp2
 go_loopg [1,5] k (fun kq v1 v5 w'=>∃ (x1_1:Int) (x5_1:Int),v1 = .int .i64 x1_1∧v5 = .int .u8 x5_1∧Aside0 (spec_l1Power.l0 kq a0 x1_1 x5_1=some r)∧Aside0 (kq≤k)∧Drawn0 w w')
 case atStart=>exact ⟨(a1),(1),D2,D2,H',⟨Nat.le_refl _⟩,D6⟩
 case round =>
  clear H'
  try clear c1
  try clear p2
  obtain ⟨x1_1,x5_1,rfl,rfl,HA,HK1,⟨m1,rfl⟩⟩:=hrel
  cases gk with
  | zero=>exact absurd HA.out (by simp [spec_l1Power.l0])
  | succ k1 =>
   have H:=HA.out
   clear HA
   simp only [spec_l1Power.l0] at H
   by_cases c3:x1_1 > 0
   ·rw [if_pos c3] at H
    have c3b0:decide (0 < x1_1)=true:=decide_eq_true c3
    clear c3
    obtain ⟨t185,A4,H⟩:=yo H
    have H':=am H
    clear H
    go_wp2_with (first|((with_reducible refine gC 174 ?_);refine gM (some 12) Try.func174 (args:=#[.int .u8 x5_1, .int .u8 a0]) (spec_l1Times.calls k1 x5_1 a0 t185 _ A4.out) ?_;rintro e w' ⟨rfl,⟨nd,rfl⟩⟩;refine ⟨_,rfl,?_⟩))
    go_roundg k1
    case measure=>have:=HK1.out;omega
    case rel=>exact ⟨(wrap64 (x1_1 - 1)),(t185),D2,D2,H',⟨D17⟩,D6⟩
   rw [if_neg c3] at H
   have c3b0:decide (0 < x1_1)=false:=decide_eq_false c3
   clear c3
   obtain rfl:=Option.some.inj H
   go_wp2
   go_ret
   exact ⟨D2,D6⟩

def spec_l1Inverse.f (k:Nat) (a0:Int):Option (Int):=if a0=0 then (some 0) else ((spec_l1Power.f k a0 254).bind fun t186=>(some t186))
theorem spec_l1Inverse.mono:∀ a0 k,LeO (spec_l1Inverse.f k a0) (spec_l1Inverse.f (k+1) a0):=by
 intro a0 k
 unfold spec_l1Inverse.f
 exact mm
theorem spec_l1Inverse.calls (k:Nat) (a0:Int) (r:Int) (w:World) (h:spec_l1Inverse.f k a0=some r) :
  Calls Try.prog 203 #[.int .u8 a0] w fun e w'=>e = .returned (.int .u8 r)∧Drawn0 w w':=by
 have H:=h
 unfold spec_l1Inverse.f at H
 clear h
 by_cases c2:a0=0
 ·rw [if_pos c2] at H
  have c2b0:(a0 == 0)=true:=beq_iff_eq.mpr c2
  have c2b1:(a0 != 0)=false:=bne_eq_false_iff_eq.mpr c2
  clear c2
  obtain rfl:=Option.some.inj H
  go_enter Try.func203,Try.ntmps203
  go_wp2
  go_ret
  exact ⟨D2,D6⟩
 rw [if_neg c2] at H
 have c2b0:(a0 == 0)=false:=beq_eq_false_iff_ne.mpr c2
 have c2b1:(a0 != 0)=true:=bne_iff_ne.mpr c2
 obtain ⟨t186,A3,H⟩:=yo H
 obtain rfl:=Option.some.inj H
 go_enter Try.func203,Try.ntmps203
 go_wp2_with (first|((with_reducible refine gC 173 ?_);refine gM (some 6) Try.func173 (args:=#[.int .u8 a0, .int .i64 254]) (spec_l1Power.calls k a0 254 t186 _ A3.out) ?_;rintro e w' ⟨rfl,⟨nd,rfl⟩⟩;refine ⟨_,rfl,?_⟩))
 go_ret
 exact ⟨D2,D6⟩
section
section
open Go.Proofs.Ytajikfnpcobnpaa.Gf Go.Proofs.Ytajikfnpcobnpaa.Kit Go.Proofs.Ytajikfnpcobnpaa.KitW Go.Proofs.Ytajikfnpcobnpaa.KitN
namespace SpecElim
theorem spec_l1Times.ev_l0:∀ (n o x y:Nat),y < 2 ^ n→n≤8→o < 256→x < 256 →
  Ev (fun k=>spec_l1Times.l0 k (o:Int) (x:Int) (y:Int)) ((T n o x y:Nat):Int)
 | 0,o,x,y,hy,_,ho,hx=>by
  refine Ev.step (fun k=>spec_l1Times.l0.eq_2 _ _ _ k) ?_
  have:y=0:=by simpa using hy
  subst this
  refine ev_neg D4 (ev_now ?_)
  simp only [T]
  omega
 | n+1,o,x,y,hy,hn,ho,hx=>by
  have hy8:y < 256:=Nat.lt_of_lt_of_le hy (Nat.pow_le_pow_right (n:=2) D4 hn)
  by_cases h0:y=0
  ·subst h0
   refine Ev.step (fun k=>spec_l1Times.l0.eq_2 _ _ _ k) ?_
   refine ev_neg D4 (ev_now ?_)
   rw [T_zero]
   omega
  refine Ev.step (fun k=>spec_l1Times.l0.eq_2 _ _ _ k) ?_
  refine ev_pos D5 ?_
  have e2:wrap64 ((x:Int)*2)=((2*x:Nat):Int):=by rw [wrap_id D5 D5];omega
  have e3:((y:Int) / 2)=((y / 2:Nat):Int):=by omega
  have e4:Go.bits .xor .i64 (o:Int) (x:Int)=((o ^^^ x:Nat):Int):=xor_i64 D5 D5
  have e5:Go.bits .xor .i64 ((2*x:Nat):Int) 283=((2*x ^^^ 283:Nat):Int):=xor_i64 (m:=2*x) (n:=283) D5 D5
  rw [and1_i64 D5,e2,e3,e4,e5]
  have hT:T (n+1) o x y=T n (if y % 2=1 then o ^^^ x else o) (xt x) (y / 2):=by rw [T]
  rw [hT]
  have hxt:=xt_lt hx
  have hox:=xor_lt ho hx
  have hh:y / 2 < 2 ^ n:=by rw [Nat.pow_succ] at hy;omega
  by_cases h1:y % 2=1
  ·rw [if_pos h1]
   refine ev_pos D5 ?_
   by_cases h2:2*x > 255
   ·refine ev_pos D5 ?_
    have:xt x=2*x ^^^ 283:=by unfold xt;rw [if_pos h2]
    rw [this] at hxt ⊢
    exact spec_l1Times.ev_l0 n _ _ _ hh D5 hox hxt
   refine ev_neg D5 ?_
   have:xt x=2*x:=by unfold xt;rw [if_neg h2]
   rw [this] at hxt ⊢
   exact spec_l1Times.ev_l0 n _ _ _ hh D5 hox hxt
  rw [if_neg h1]
  refine ev_neg D5 ?_
  by_cases h2:2*x > 255
  ·refine ev_pos D5 ?_
   have:xt x=2*x ^^^ 283:=by unfold xt;rw [if_pos h2]
   rw [this] at hxt ⊢
   exact spec_l1Times.ev_l0 n _ _ _ hh D5 ho hxt
  refine ev_neg D5 ?_
  have:xt x=2*x:=by unfold xt;rw [if_neg h2]
  rw [this] at hxt ⊢
  exact spec_l1Times.ev_l0 n _ _ _ hh D5 ho hxt
theorem spec_l1Times.ev {a b:Int} (ha:Byte a) (hb:Byte b):Ev (fun k=>spec_l1Times.f k a b) (mul a b):=by
 obtain ⟨m,hm,rfl⟩:=ha.nat
 obtain ⟨n,hn,rfl⟩:=hb.nat
 unfold spec_l1Times.f
 rw [wrap_id (i:=(m:Int)) D5 D5,wrap_id (i:=(n:Int)) D5 D5]
 have h:=spec_l1Times.ev_l0 8 0 m n hn (Nat.le_refl _) D4 hm
 exact ev_eq h (by unfold Gf.mul gm;simp)
theorem spec_l1Power.ev_l0 (a:Int) (ha:Byte a):∀ (n m:Nat),n < 4611686018427387904→Ev (fun k=>spec_l1Power.l0 k a (n:Int) (pow a m)) (pow a (m+n))
 | 0,m,_=>by
  refine Ev.step (fun k=>spec_l1Power.l0.eq_2 _ _ _ k) ?_
  exact ev_neg D5 (ev_now rfl)
 | n+1,m,hn=>by
  refine Ev.step (fun k=>spec_l1Power.l0.eq_2 _ _ _ k) ?_
  refine ev_pos D5 ?_
  refine ev_bind (spec_l1Times.ev (Byte.pow ha m) ha) ?_
  have e:wrap64 (((n+1:Nat):Int) - 1)=(n:Int):=by unfold wrap64;omega
  rw [e,← pow_succ]
  refine ev_eq (spec_l1Power.ev_l0 a ha n (m+1) D5) ?_
  rw [Nat.add_right_comm,Nat.add_assoc]
theorem spec_l1Power.ev {a:Int} (ha:Byte a) (n:Nat) (hn:n < 4611686018427387904):Ev (fun k=>spec_l1Power.f k a (n:Int)) (pow a n):=by
 unfold spec_l1Power.f
 have:=spec_l1Power.ev_l0 a ha n 0 hn
 rw [pow_zero,Nat.zero_add] at this
 exact this
theorem spec_l1Inverse.ev {a:Int} (ha:Byte a):Ev (fun k=>spec_l1Inverse.f k a) (inv a):=by
 unfold spec_l1Inverse.f
 by_cases h:a=0
 ·subst h
  exact ev_pos rfl (ev_now inv_zero.symm)
 exact ev_neg h (ev_bind (spec_l1Power.ev ha 254 D4) (ev_now (inv_pow a).symm))
theorem spec_l1Scale.ev_l0 (a:Int) (ha:Byte a) (v:List Int) (hv:Bytes v) (hs:v.length < 140737488355328):∀ (n i:Nat) (o:List Int),i+n=v.length→o=(scale a v).take i →
  Ev (fun k=>spec_l1Scale.l0 k a o v (v.length:Int) (i:Int)) (scale a v)
 | 0,i,o,hi,ho=>by
  refine Ev.step (fun k=>spec_l1Scale.l0.eq_2 _ _ _ _ _ k) ?_
  refine ev_neg D5 (ev_now ?_)
  subst ho
  rw [List.take_of_length_le (by rw [scale_length];omega)]
 | n+1,i,o,hi,ho=>by
  have hz:=scale_length a v
  have hlen:o.length=i:=by rw [ho,List.length_take,hz];omega
  refine Ev.step (fun k=>spec_l1Scale.l0.eq_2 _ _ _ _ _ k) ?_
  refine ev_pos D5 (ev_pos D5 (ev_pos D5 ?_))
  refine ev_bind (spec_l1Times.ev ha (bytes_rd hv D5)) ?_
  refine ev_pos D5 ?_
  rw [inc D5,rd_get D5]
  refine spec_l1Scale.ev_l0 a ha v hv hs n (i+1) _ D5 ?_
  rw [List.take_succ_eq_append_getElem D5,← ho]
  simp [scale]
theorem spec_l1Scale.ev {a:Int} (ha:Byte a) {v:List Int} (hv:Bytes v) (hs:v.length < 140737488355328):Ev (fun k=>spec_l1Scale.f k a v) (scale a v):=by
 unfold spec_l1Scale.f
 exact spec_l1Scale.ev_l0 a ha v hv hs v.length 0 [] D5 rfl
theorem spec_l1Add.ev_l0 (v w:List Int) (hv:Bytes v) (hw:Bytes w) (hl:v.length=w.length) (hs:v.length < 140737488355328):∀ (n i:Nat) (o:List Int),i+n=v.length→o=(addV v w).take i →
  Ev (fun k=>spec_l1Add.l0 k v w o (v.length:Int) (i:Int)) (addV v w)
 | 0,i,o,hi,ho=>by
  refine Ev.step (fun k=>spec_l1Add.l0.eq_2 _ _ _ _ _ k) ?_
  refine ev_neg D5 (ev_now ?_)
  subst ho
  rw [List.take_of_length_le (by rw [addV_length];omega)]
 | n+1,i,o,hi,ho=>by
  have hz:=addV_length v w
  have hlen:o.length=i:=by rw [ho,List.length_take,hz];omega
  refine Ev.step (fun k=>spec_l1Add.l0.eq_2 _ _ _ _ _ k) ?_
  refine ev_pos D5 (ev_pos D5 (ev_pos D5 (ev_pos D5 (ev_pos D5 ?_))))
  rw [inc D5,xor_u8 (bytes_rd hv D5) (bytes_rd hw D5),rd_get D5,rd_get D5]
  refine spec_l1Add.ev_l0 v w hv hw hl hs n (i+1) _ D5 ?_
  rw [List.take_succ_eq_append_getElem D5,← ho]
  simp [addV]
theorem spec_l1Add.ev {v w:List Int} (hv:Bytes v) (hw:Bytes w) (hl:v.length=w.length) (hs:v.length < 140737488355328):Ev (fun k=>spec_l1Add.f k v w) (addV v w):=by
 unfold spec_l1Add.f
 exact spec_l1Add.ev_l0 v w hv hw hl hs v.length 0 [] D5 rfl
theorem spec_l2Own.ev_l0 (l:List (List Int)) (hl:l.length≤1048576) (hr:∀ r ∈ l,r.length≤1048576):∀ (d i:Nat) (o:List (List Int)),i+d=l.length→o=l.take i→Ev (fun k=>spec_l2Own.l0 k l (l.length:Int) (i:Int) o) l
 | 0,i,o,hi,ho=>by
  refine Ev.step (fun k=>spec_l2Own.l0.eq_2 _ _ _ _ k) ?_
  refine ev_neg D5 (ev_now ?_)
  rw [ho,List.take_of_length_le D5]
 | d+1,i,o,hi,ho=>by
  have hol:o.length=i:=by rw [ho,List.length_take];omega
  have hrl:(l.getD i []).length≤1048576:=by
   rw [List.getD_eq_getElem?_getD,List.getElem?_eq_getElem (show i < l.length by omega)]
   exact hr _ (List.getElem_mem _)
  refine Ev.step (fun k=>spec_l2Own.l0.eq_2 _ _ _ _ k) ?_
  simp only [Option.bind_some]
  refine ev_pos D5 (ev_pos D5 (ev_pos D5 (ev_pos (show ([]:List Int).length+(l.getD i []).length < 140737488355328 by simp only [List.length_nil];omega) (ev_pos D5 ?_))))
  rw [inc D5]
  refine spec_l2Own.ev_l0 l hl hr d (i+1) _ D5 ?_
  rw [List.take_succ_eq_append_getElem (show i < l.length by omega),← ho,show l[i]' D5=l.getD i [] by rw [List.getD_eq_getElem?_getD,List.getElem?_eq_getElem (show i < l.length by omega)];rfl]
  rfl
theorem spec_l2Own.ev (l:List (List Int)) (hl:l.length≤1048576) (hr:∀ r ∈ l,r.length≤1048576):Ev (fun k=>spec_l2Own.f k l) l:=by
 unfold spec_l2Own.f
 exact spec_l2Own.ev_l0 l hl hr l.length 0 [] D5 rfl
end SpecElim
structure LR (w:World) (p4 p5 p7 p8 g1 c1 g2 c2 len m1 m2:Nat) (LA LB:List (List Int)) (wr:World):Prop where
 NA:Kd.N (Kd.slice 5 (Kd.int .u8)) 57 wr w.heap.size (fun b=>b ≠ g2∧b ≠ p4∧b ≠ p5∧w.heap.size≤b) (.slice (some ⟨g1,0,none⟩) len c1) LA
 NB:Kd.N (Kd.slice 5 (Kd.int .u8)) 57 wr w.heap.size (fun b=>b ≠ g1∧b ≠ p4∧b ≠ p5∧w.heap.size≤b) (.slice (some ⟨g2,0,none⟩) len c2) LB
 b4:wr.heap[p4]? = some (.cells #[.slice none 0 0] 43 (0,0))
 b5:wr.heap[p5]? = some (.cells #[.slice none 0 0] 43 (0,0))
 b7:wr.heap[p7]? = some (.cells #[.slice (some ⟨g1,0,none⟩) len c1] 43 (0,0))
 b8:wr.heap[p8]? = some (.cells #[.slice (some ⟨g2,0,none⟩) len c2] 43 (0,0))
 B:Below w.heap.size w wr
 lo:w.heap.size≤p4∧w.heap.size≤p5∧p4 ≠ p5
 allA:∀ r ∈ LA,okI m1 r
 allB:∀ r ∈ LB,okI m2 r
section
variable {w wr w1:World} {p4 p5 p7 p8 g1 c1 g2 c2 len m1 m2:Nat} {LA LB:List (List Int)}
theorem LR.below (h:LR w p4 p5 p7 p8 g1 c1 g2 c2 len m1 m2 LA LB wr) (hb:Below wr.heap.size wr w1):LR w p4 p5 p7 p8 g1 c1 g2 c2 len m1 m2 LA LB w1 :=
 ⟨Kd.N_below h.NA hb,Kd.N_below h.NB hb,qb h.b4 hb,qb h.b5 hb,qb h.b7 hb,qb h.b8 hb,pu h.B hb,h.lo,h.allA,h.allB⟩
theorem LR.ne (h:LR w p4 p5 p7 p8 g1 c1 g2 c2 len m1 m2 LA LB wr):g1 ≠ g2:=(h.NA.1 g1 D54).1
theorem LR.keyA (h:LR w p4 p5 p7 p8 g1 c1 g2 c2 len m1 m2 LA LB wr):wr.cell? ⟨p7,0,none⟩=some (.slice (some ⟨g1,0,none⟩) len c1):=(blk_cell h.b7 0).trans rfl
theorem LR.keyB (h:LR w p4 p5 p7 p8 g1 c1 g2 c2 len m1 m2 LA LB wr):wr.cell? ⟨p8,0,none⟩=some (.slice (some ⟨g2,0,none⟩) len c2):=(blk_cell h.b8 0).trans rfl
theorem LR.rowA (h:LR w p4 p5 p7 p8 g1 c1 g2 c2 len m1 m2 LA LB wr) (i:Nat) (hi:i < len) :
  ∃ r A c,LA.getD i []=r∧okI m1 r∧wr.cell? ⟨g1,i,none⟩=some (.slice A m1 c)∧m1≤c∧Kd.F (Kd.int .u8) wr (fun b=>b ≠ g1∧b ≠ g2∧b ≠ p4∧b ≠ p5∧w.heap.size≤b) A m1 r∧wr.frozen? ⟨g1,i,none⟩=false:=by
 obtain ⟨A,c,h1,h2,h3,h4⟩:=N_row h.NA i hi
 have hr:okI m1 (LA.getD i []):=RowK.at_all (O:=rowI) h.allA (by rw [← (N_len h.NA).1];exact hi)
 rw [hr.2] at h1 h2 h3
 exact ⟨_,A,c,rfl,hr,h1,h2,Kd.F_mono h3 (fun b hb=>⟨hb.2,hb.1⟩),h4⟩
theorem LR.rowB (h:LR w p4 p5 p7 p8 g1 c1 g2 c2 len m1 m2 LA LB wr) (i:Nat) (hi:i < len) :
  ∃ r A c,LB.getD i []=r∧okI m2 r∧wr.cell? ⟨g2,i,none⟩=some (.slice A m2 c)∧m2≤c∧Kd.F (Kd.int .u8) wr (fun b=>b ≠ g1∧b ≠ g2∧b ≠ p4∧b ≠ p5∧w.heap.size≤b) A m2 r∧wr.frozen? ⟨g2,i,none⟩=false:=by
 obtain ⟨A,c,h1,h2,h3,h4⟩:=N_row h.NB i hi
 have hr:okI m2 (LB.getD i []):=RowK.at_all (O:=rowI) h.allB (by rw [← (N_len h.NB).1];exact hi)
 rw [hr.2] at h1 h2 h3
 exact ⟨_,A,c,rfl,hr,h1,h2,Kd.F_mono h3 (fun b hb=>⟨hb.1.1,hb.2,hb.1.2⟩),h4⟩
theorem LR.putA (h:LR w p4 p5 p7 p8 g1 c1 g2 c2 len m1 m2 LA LB wr) (i:Nat) (hi:i < len) {A:Option Addr} {c:Nat} {x:List Int} (hx:okI m1 x) (hc:m1≤c) (hF:Kd.F (Kd.int .u8) wr (fun b=>b ≠ g1∧b ≠ g2∧b ≠ p4∧b ≠ p5∧w.heap.size≤b) A m1 x) :
  LR w p4 p5 p7 p8 g1 c1 g2 c2 len m1 m2 (LA.set i x) LB (wr.setCell ⟨g1,i,none⟩ (.slice A m1 c)):=by
 obtain ⟨h1,h2⟩:=N_put h.NA i hi (A:=A) (c:=c) (x:=x) (okp:=fun b=>b ≠ g1∧b ≠ g2∧b ≠ p4∧b ≠ p5∧w.heap.size≤b) (by rw [hx.2];exact hc) (by rw [hx.2];exact hF) (fun _ hk=>⟨hk.2,hk.1⟩)
 rw [hx.2] at h1 h2
 have n4:=Kd.N_ne h.NA h.b4 D4
 have n5:=Kd.N_ne h.NA h.b5 D4
 have n7:=Kd.N_ne h.NA h.b7 D4
 have n8:=Kd.N_ne h.NA h.b8 D4
 exact ⟨h1,Kd.N_grown h.NB h2 (fun k hk e=>hk.1 (by injection e)),blk_grown h.b4 h2 n4,blk_grown h.b5 h2 n5,blk_grown h.b7 h2 n7,blk_grown h.b8 h2 n8,pt h.B (Kd.N_base h.NA g1 D54),h.lo,el_set_all h.allA hx i,h.allB⟩
theorem LR.putB (h:LR w p4 p5 p7 p8 g1 c1 g2 c2 len m1 m2 LA LB wr) (i:Nat) (hi:i < len) {A:Option Addr} {c:Nat} {x:List Int} (hx:okI m2 x) (hc:m2≤c) (hF:Kd.F (Kd.int .u8) wr (fun b=>b ≠ g1∧b ≠ g2∧b ≠ p4∧b ≠ p5∧w.heap.size≤b) A m2 x) :
  LR w p4 p5 p7 p8 g1 c1 g2 c2 len m1 m2 LA (LB.set i x) (wr.setCell ⟨g2,i,none⟩ (.slice A m2 c)):=by
 obtain ⟨h1,h2⟩:=N_put h.NB i hi (A:=A) (c:=c) (x:=x) (okp:=fun b=>b ≠ g1∧b ≠ g2∧b ≠ p4∧b ≠ p5∧w.heap.size≤b) (by rw [hx.2];exact hc) (by rw [hx.2];exact hF) (fun _ hk=>⟨⟨hk.1,hk.2.2⟩,hk.2.1⟩)
 rw [hx.2] at h1 h2
 have n4:=Kd.N_ne h.NB h.b4 D4
 have n5:=Kd.N_ne h.NB h.b5 D4
 have n7:=Kd.N_ne h.NB h.b7 D4
 have n8:=Kd.N_ne h.NB h.b8 D4
 exact ⟨Kd.N_grown h.NA h2 (fun k hk e=>hk.1 (by injection e)),h1,blk_grown h.b4 h2 n4,blk_grown h.b5 h2 n5,blk_grown h.b7 h2 n7,blk_grown h.b8 h2 n8,pt h.B (Kd.N_base h.NB g2 D54),h.lo,h.allA,el_set_all h.allB hx i⟩
theorem LR.fresh (h:LR w p4 p5 p7 p8 g1 c1 g2 c2 len m1 m2 LA LB wr) {A:Option Addr} {n c:Nat} {x:List Int} (ho:Kd.R (Kd.int .u8) 5 w1 wr.heap.size (fun _=>True) (.slice A n c) x) :
  Kd.F (Kd.int .u8) w1 (fun b=>b ≠ g1∧b ≠ g2∧b ≠ p4∧b ≠ p5∧w.heap.size≤b) A n x:=by
 have h1:=Kd.N_lt h.NA g1 D54
 have h2:=Kd.N_lt h.NB g2 D54
 have h4:=blk_lt h.b4
 have h5:=blk_lt h.b5
 have hs:=h.B.size
 exact Kd.R_F (Kd.R_mono (Kd.R_bound ho) (fun b hk=>by have:=hk.2.1;omega))
end
set_option maxHeartbeats 16000000 in
theorem spec_l2Reduce.calls (A0:Option Addr) (c0:Nat) (l0:List (List Int)) (A1:Option Addr) (c1:Nat) (l1:List (List Int)) (m1 m2:Nat) (w:World) (hr0:Kd.C (Kd.slice 5 (Kd.int .u8)) w A0 l0.length l0) (hc0:l0.length≤c0) (hr1:Kd.C (Kd.slice 5 (Kd.int .u8)) w A1 l1.length l1) (hc1:l1.length≤c1)
  (h0:∀ r ∈ l0,okI m1 r) (h1:∀ r ∈ l1,okI m2 r) (hne:1≤l0.length) (hle:l0.length≤1000) (hll:l0.length=l1.length) (hm1:m1≤1000) (hm2:m2≤1000) :
  Calls Try.prog 175 #[.agg #[.slice A0 l0.length c0], .agg #[.slice A1 l1.length c1]] w fun e w'=>∃ (A0_:Option Addr) (n0_ c0_:Nat) (v1_:Value),e = .returned (.tuple #[.agg #[.slice A0_ n0_ c0_], .agg #[v1_], .int .i64 ((redP l0 l1 m1).2:Nat)]) ∧
   Kd.N (Kd.slice 5 (Kd.int .u8)) 57 w' w.heap.size (fun b=>w.heap.size≤b) v1_ ((redP l0 l1 m1).1.map Prod.snd)∧Below w.heap.size w w':=by
 obtain ⟨kA,hA⟩:=(SpecElim.spec_l2Own.ev l0 D5 (fun r hr=>by rw [(h0 r hr).2];omega)).rounds
 obtain ⟨kB,hB⟩:=(SpecElim.spec_l2Own.ev l1 D5 (fun r hr=>by rw [(h1 r hr).2];omega)).rounds
 obtain ⟨len,hlen⟩:∃ n,n=l0.length:=⟨_,rfl⟩
 have hlen1:len=l1.length:=by omega
 obtain ⟨L,hL⟩:∃ L,L=l0.zip l1:=⟨_,rfl⟩
 have HA:=am hA
 have HB1:=am hB
 have HLE:=am hlen
 have HLE1:=am hlen1
 have HL:=am hL
 have HLA:=am (show L.map Prod.fst=l0 by rw [hL];exact zip_fst hll)
 have HLB:=am (show L.map Prod.snd=l1 by rw [hL];exact zip_snd hll)
 have HOK:=am (show ∀ r ∈ L,okP m1 m2 r by rw [hL];exact zip_ok h0 h1)
 have HLL:=am (show L.length=len by rw [hL,List.length_zip,← hll,Nat.min_self,hlen])
 have HR0:=am hr0
 have HR1:=am hr1
 have HO0:=am h0
 have HO1:=am h1
 show Calls Try.prog 175 #[.agg #[.slice A0 l0.length c0], .agg #[.slice A1 l1.length c1]] w fun e w'=>∃ (A0_:Option Addr) (n0_ c0_:Nat) (v1_:Value),e = .returned (.tuple #[.agg #[.slice A0_ n0_ c0_], .agg #[v1_], .int .i64 ((rowP.red (l0.zip l1) m1).2:Nat)]) ∧
   Kd.N (Kd.slice 5 (Kd.int .u8)) 57 w' w.heap.size (fun b=>w.heap.size≤b) v1_ ((rowP.red (l0.zip l1) m1).1.map Prod.snd)∧Below w.heap.size w w'
 rw [← hL,← hlen,← hlen1]
 rw [← hlen] at hc0 hne hle
 rw [← hlen1] at hc1
 clear hA hB hlen hlen1 hL hr0 hr1 h0 h1 hll
 have hu:=Try.underlying43
 go_enter Try.func175,Try.ntmps175
 go_wp2_with fail
 obtain ⟨W0,hW0⟩:∃ W:World,W=((((w.alloc (.cells #[.slice A0 len c0] 43 (0,0))).alloc (.cells #[.slice A1 len c1] 43 (0,0))).alloc (.cells #[.slice none 0 0] 43 (0,0))).alloc (.cells #[.slice none 0 0] 43 (0,0))):=⟨_,rfl⟩
 have hB0:Below w.heap.size w W0:=by rw [hW0];exact pa (pa (pa (pa (Below.refl _ _) _) _) _) _
 have h3:W0.heap[w.heap.size+1]? = some (.cells #[.slice A1 len c1] 43 (0,0)):=by rw [hW0];exact qa (qa (by have z:=heap_alloc_new (w.alloc (.cells #[.slice A0 len c0] 43 (0,0))) (.cells #[.slice A1 len c1] 43 (0,0));simpa using z) _) _
 have h4:W0.heap[w.heap.size+1+1]? = some (.cells #[.slice none 0 0] 43 (0,0)):=by rw [hW0];exact qa (by have z:=heap_alloc_new ((w.alloc (.cells #[.slice A0 len c0] 43 (0,0))).alloc (.cells #[.slice A1 len c1] 43 (0,0))) (.cells #[.slice none 0 0] 43 (0,0));simpa using z) _
 have h5:W0.heap[w.heap.size+1+1+1]? = some (.cells #[.slice none 0 0] 43 (0,0)):=by rw [hW0];have z:=heap_alloc_new (((w.alloc (.cells #[.slice A0 len c0] 43 (0,0))).alloc (.cells #[.slice A1 len c1] 43 (0,0))).alloc (.cells #[.slice none 0 0] 43 (0,0))) (.cells #[.slice none 0 0] 43 (0,0));simpa using z
 rw [← hW0]
 clear hW0
 generalize hp5:w.heap.size+1+1+1=p5 at h5 ⊢
 generalize hp4:w.heap.size+1+1=p4 at h4 ⊢
 generalize hp3:w.heap.size+1=p3 at h3 ⊢
 have HP:=am (show w.heap.size≤p4∧w.heap.size≤p5∧p4 ≠ p5 by omega)
 have hA:=spec_l2Own.calls kA A0 c0 l0 l0 W0 (Kd.C_below HR0.out hB0) (by rw [← HLE.out];exact hc0) HA.out
 rw [← HLE.out] at hA
 refine hA.mono ?_
 clear hA hp3 hp4 hp5
 rintro e w1 ⟨va,rfl,hoA,hbA⟩
 obtain ⟨g1,cap1,ea,hg1,hg1l,_⟩:=Kd.S_form hoA (by rw [← HLE.out];exact hne)
 rw [← HLE.out] at ea
 subst ea
 have hB1:=pu hB0 hbA
 have hc3:∀ o,(w1.alloc o).cell? ⟨p3,0,none⟩=some (.slice A1 len c1):=fun o=>(blk_cell (qa (qb h3 hbA) o) 0).trans rfl
 go_wp2_with fail
 have hB2:Below w.heap.size w (w1.alloc (.cells #[.slice (some ⟨g1,0,none⟩) len cap1] 43 (0,0))):=pa hB1 _
 have h7:=heap_alloc_new w1 (.cells #[.slice (some ⟨g1,0,none⟩) len cap1] 43 (0,0))
 have hNA:=Kd.N_alloc (Kd.S_N (Kd.S_bound hoA)) (.cells #[.slice (some ⟨g1,0,none⟩) len cap1] 43 (0,0))
 have hz2:w1.heap.size≤(w1.alloc (.cells #[.slice (some ⟨g1,0,none⟩) len cap1] 43 (0,0))).heap.size:=(pa (Below.refl w1.heap.size w1) _).size
 have hz0:W0.heap.size≤w1.heap.size:=hbA.size
 have h42:=qa (qb h4 hbA) (.cells #[.slice (some ⟨g1,0,none⟩) len cap1] 43 (0,0))
 have h52:=qa (qb h5 hbA) (.cells #[.slice (some ⟨g1,0,none⟩) len cap1] 43 (0,0))
 have hl4:=blk_lt h4
 have hl5:=blk_lt h5
 have hR1:=Kd.C_below HR1.out hB2
 have hzw:=hB0.size
 clear hc3 h3 h4 h5 hbA hoA hB1 hB0
 generalize hp7:w1.heap.size=p7 at *
 generalize (w1.alloc (.cells #[.slice (some ⟨g1,0,none⟩) len cap1] 43 (0,0)))=w2 at *
 have hA:=spec_l2Own.calls kB A1 c1 l1 l1 w2 hR1 (by rw [← HLE1.out];exact hc1) HB1.out
 rw [← HLE1.out] at hA
 refine hA.mono ?_
 clear hA hR1
 rintro e w3 ⟨vb,rfl,hoB,hbB⟩
 obtain ⟨g2,cap2,eb,hg2,hg2l,_⟩:=Kd.S_form hoB (by rw [← HLE1.out];exact hne)
 rw [← HLE1.out] at eb
 subst eb
 have hLR:LR w p4 p5 p7 w3.heap.size g1 cap1 g2 cap2 len m1 m2 l0 l1 (w3.alloc (.cells #[.slice (some ⟨g2,0,none⟩) len cap2] 43 (0,0))):=by
  have hs2:=hbB.size
  have hs0:=hB2.size
  refine ⟨?_,?_,qa (qb h42 hbB) _,qa (qb h52 hbB) _,qa (qb h7 hbB) _,heap_alloc_new w3 _,pa (pu hB2 hbB) _,HP.out,HO0.out,HO1.out⟩
  ·exact Kd.N_lower (Kd.N_mono (Kd.N_alloc (Kd.N_below hNA hbB) _) (fun b hb=>by have:=hb.2.1;have:=hb.2.2.1;exact ⟨D5,D5,D5,D5⟩)) (by have:=HP.out;omega)
  exact Kd.N_lower (Kd.N_mono (Kd.N_alloc (Kd.S_N (Kd.S_bound hoB)) _) (fun b hb=>by have:=hb.2.1;exact ⟨D5,D5,D5,D5⟩)) hs0
 have HLR:=am hLR
 clear hLR hNA hoB hbB hB2 h7 h42 h52 hl4 hl5 hz2 hz0
 go_wp2_with fail
 generalize (w3.alloc (.cells #[.slice (some ⟨g2,0,none⟩) len cap2] 43 (0,0)))=W4 at HLR ⊢
 generalize w3.heap.size=p8 at HLR ⊢
 go_loopg [9,10] (m1+1) (fun fu v9 v10 wr=>∃ k:Nat,k≤m1∧m1 - k < fu∧v9 = .int .i64 ((rowP.red L k).2:Nat)∧v10 = .int .i64 k∧Aside0 (LR w p4 p5 p7 p8 g1 cap1 g2 cap2 len m1 m2 ((rowP.red L k).1.map Prod.fst) ((rowP.red L k).1.map Prod.snd) wr))
 case atStart=>exact ⟨0,Nat.zero_le _,D5,rfl,rfl,⟨by show LR w p4 p5 p7 p8 g1 cap1 g2 cap2 len m1 m2 (L.map Prod.fst) (L.map Prod.snd) W4;rw [HLA.out,HLB.out];exact HLR.out⟩⟩
 case round =>
  clear HLR
  obtain ⟨k,hk,hfu,rfl,rfl,HE⟩:=hrel
  obtain ⟨q,hq⟩:∃ q,q=rowP.red L k:=⟨_,rfl⟩
  rw [← hq] at HE ⊢
  have HQ:=am hq
  clear hq
  obtain ⟨L1,a⟩:=q
  have hlen1:L1.length=len:=by rw [show L1=(rowP.red L k).1 by rw [← HQ.out],RowK.red_length,HLL.out]
  have ha:a≤len:=by
   have h2:=(RowK.red_rank (O:=rowP) L k).2
   rw [← HQ.out,HLL.out] at h2
   exact h2
  replace HE:Aside0 (LR w p4 p5 p7 p8 g1 cap1 g2 cap2 len m1 m2 (L1.map Prod.fst) (L1.map Prod.snd) wr):=HE
  have hkA:=HE.out.keyA
  have hkB:=HE.out.keyB
  have h0l:0 < len:=by omega
  obtain ⟨_,A00,c00,_,_,hcell0,_,_,_⟩:=HE.out.rowA 0 h0l
  by_cases hkn:k < m1
  case neg =>
   have e:k=m1:=by omega
   subst e
   have hkz:¬ (k:Int) < (k:Int):=by omega
   have hdk:decide ((k:Int) < (k:Int))=false:=decide_eq_false hkz
   go_wp2_with fail
   replace HE:=am (HE.out.below (pd (Below.refl _ _)))
   have hkA:=HE.out.keyA
   have hkB:=HE.out.keyB
   have hk4:wr.drew.cell? ⟨p4,0,none⟩=some (.slice none 0 0):=(blk_cell HE.out.b4 0).trans rfl
   have hf4:=blk_frozen HE.out.b4 0
   have h47:p4 ≠ p7:=fun e=>by have z:=HE.out.b4;rw [e,HE.out.b7] at z;cases z
   have h48:p4 ≠ p8:=fun e=>by have z:=HE.out.b4;rw [e,HE.out.b8] at z;cases z
   have h45:=HE.out.lo.2.2
   refine start_ (n:=6) (S:=fun w'=>w'.cell? ⟨p7,0,none⟩=some (.slice (some ⟨g1,0,none⟩) len cap1)∧w'.cell? ⟨p8,0,none⟩=some (.slice (some ⟨g2,0,none⟩) len cap2)) (ds:=[4]) #[Z,Z,Z,Z,Z,Z] D3 rfl rfl ⟨hkA,hkB⟩ (fun hHeld=>?_)
   generalize wr.drew=wr at HE hHeld hk4 hf4 ⊢
   refine take_ (i:=0) (N:=some 166) (v:=?_) (a':=?_) #[Y,Z,Z,Z,Z,Z] rfl rfl D3 hh (Or.inl ⟨D11,?_⟩) hHeld ?_ ?_
   rotate_left
   ·rintro w' ⟨s0,s1⟩
    go_simp
    with_reducible rfl
   rotate_left
   ·simp only [Act.put,q1,q2,q3,i64_w,i32_w]
    rfl
   refine take_ (i:=1) (N:=some 167) (v:=?_) (a':=?_) #[Y,Y,Z,Z,Z,Z] rfl rfl D3 hh (Or.inl ⟨D11,?_⟩) hHeld ?_ ?_
   rotate_left
   ·rintro w' ⟨s0,s1⟩
    go_simp
    with_reducible rfl
   rotate_left
   ·simp only [Act.put,q1,q2,q3,i64_w,i32_w]
    rfl
   refine pure_ (i:=2) (N:=some 168) (v:=?_) (a':=?_) #[Y,Y,Y,Z,Z,Z] rfl rfl D3 hh (Or.inl ⟨D11,?_⟩) ?_ ?_
   rotate_left
   ·intro w'
    go_simp
    with_reducible rfl
   rotate_left
   ·simp only [Act.put,q1,q2,q3,i64_w,i32_w]
    rfl
   have hc7:=(World.cell?_setCell_far wr ⟨p4,0,none⟩ ⟨p7,0,none⟩ (.slice (some ⟨g1,0,none⟩) len cap1) h47).trans hHeld.1
   have hc8:=(World.cell?_setCell_far wr ⟨p4,0,none⟩ ⟨p8,0,none⟩ (.slice (some ⟨g1,0,none⟩) len cap1) h48).trans hHeld.2
   have hb4:=blk_put HE.out.b4 0 (.slice (some ⟨g1,0,none⟩) len cap1) rfl
   have hb5:=blk_far HE.out.b5 (p:=⟨p4,0,none⟩) (fun e=>h45 e.symm) (.slice (some ⟨g1,0,none⟩) len cap1)
   have hNB:=Kd.N_far HE.out.NB (p:=⟨p4,0,none⟩) (fun k hk=>hk.2.1) (.slice (some ⟨g1,0,none⟩) len cap1)
   have hBB:=pt (j:=0) (v:=.slice (some ⟨g1,0,none⟩) len cap1) HE.out.B HE.out.lo.1
   refine one_ (i:=3) (N:=none) #[Y,Y,Y,Y,Z,Z] rfl rfl D3 D4 (fun K hK=>?_)
   refine skip_ (w1:=?_) D11 rfl ?_ ?_
   rotate_left
   ·go_simp
    rfl
   refine hK.out _ _ ⟨hc7,hc8⟩ (fun hHeld=>?_)
   clear hK K hk4 hf4 hc7 hc8
   have hlo5:=HE.out.lo.2.1
   clear HE
   generalize wr.setCell ⟨p4,0,none⟩ (.slice (some ⟨g1,0,none⟩) len cap1)=wr at hb4 hb5 hNB hBB hHeld ⊢
   have hk5:wr.cell? ⟨p5,0,none⟩=some (.slice none 0 0):=(blk_cell hb5 0).trans rfl
   have hf5:=blk_frozen hb5 0
   refine last_ (i:=4) (N:=none) #[Y,Y,Y,Y,Y,Z] rfl rfl D3 D4 (fun K hK=>?_)
   refine skip_ (w1:=?_) D11 rfl ?_ ?_
   rotate_left
   ·go_simp
    rfl
   refine hK.out _ _ ?_
   clear hK K
   have hN2:=Kd.N_far hNB (p:=⟨p5,0,none⟩) (fun k hk=>hk.2.2.1) (.slice (some ⟨g2,0,none⟩) len cap2)
   have hB2:=pt (j:=0) (v:=.slice (some ⟨g2,0,none⟩) len cap2) hBB hlo5
   have h4:=blk_far hb4 (p:=⟨p5,0,none⟩) h45 (.slice (some ⟨g2,0,none⟩) len cap2)
   have h5:=blk_put hb5 0 (.slice (some ⟨g2,0,none⟩) len cap2) rfl
   clear hk5 hf5 hb4 hb5 hNB hBB hHeld
   generalize wr.setCell ⟨p5,0,none⟩ (.slice (some ⟨g2,0,none⟩) len cap2)=wr at hN2 hB2 h4 h5 ⊢
   have HNF:=am (Kd.N_mono hN2 (ok':=fun b=>w.heap.size≤b) (fun _ hk=>hk.2.2.2))
   have HBF:=am hB2
   clear hN2 hB2
   refine pure_ (i:=5) (N:=some 6) (v:=?_) (a':=?_) #[Y,Y,Y,Y,Y,Y] rfl rfl D3 hh (Or.inl ⟨D11,?_⟩) ?_ ?_
   rotate_left
   ·intro w'
    go_simp
    with_reducible rfl
   rotate_left
   ·simp only [Act.put,q1,q2,q3,i64_w,i32_w]
    rfl
   refine done_ D3 ?_
   go_wp2_with fail
   (try simp only [Exit.inBlock,Exit.then])
   refine bodyPost_ret (results_cct rfl _ _ p4 p5 43 43 #[.slice (some ⟨g1,0,none⟩) len cap1] #[.slice (some ⟨g2,0,none⟩) len cap2] (0,0) (0,0) _ _ rfl h4 hu rfl D3 rfl h5 hu rfl D3) rfl ?_
   rw [← HQ.out]
   exact ⟨_,_,_,_,rfl,HNF.out,HBF.out⟩
  have hkz:(k:Int) < (m1:Int):=by omega
  have hdk:decide ((k:Int) < (m1:Int))=true:=decide_eq_true hkz
  by_cases hal:a < len
  case neg =>
   have e:a=len:=by omega
   subst e
   have haz:¬ (a:Int) < (a:Int):=by omega
   have hda:decide ((a:Int) < (a:Int))=false:=decide_eq_false haz
   go_wp2_with fail
   replace HE:=am (HE.out.below (pd (Below.refl _ _)))
   have hkA:=HE.out.keyA
   have hkB:=HE.out.keyB
   have hk4:wr.drew.cell? ⟨p4,0,none⟩=some (.slice none 0 0):=(blk_cell HE.out.b4 0).trans rfl
   have hf4:=blk_frozen HE.out.b4 0
   have h47:p4 ≠ p7:=fun e=>by have z:=HE.out.b4;rw [e,HE.out.b7] at z;cases z
   have h48:p4 ≠ p8:=fun e=>by have z:=HE.out.b4;rw [e,HE.out.b8] at z;cases z
   have h45:=HE.out.lo.2.2
   refine start_ (n:=6) (S:=fun w'=>w'.cell? ⟨p7,0,none⟩=some (.slice (some ⟨g1,0,none⟩) a cap1)∧w'.cell? ⟨p8,0,none⟩=some (.slice (some ⟨g2,0,none⟩) a cap2)) (ds:=[4]) #[Z,Z,Z,Z,Z,Z] D3 rfl rfl ⟨hkA,hkB⟩ (fun hHeld=>?_)
   generalize wr.drew=wr at HE hHeld hk4 hf4 ⊢
   refine take_ (i:=0) (N:=some 166) (v:=?_) (a':=?_) #[Y,Z,Z,Z,Z,Z] rfl rfl D3 hh (Or.inl ⟨D11,?_⟩) hHeld ?_ ?_
   rotate_left
   ·rintro w' ⟨s0,s1⟩
    go_simp
    with_reducible rfl
   rotate_left
   ·simp only [Act.put,q1,q2,q3,i64_w,i32_w]
    rfl
   refine take_ (i:=1) (N:=some 167) (v:=?_) (a':=?_) #[Y,Y,Z,Z,Z,Z] rfl rfl D3 hh (Or.inl ⟨D11,?_⟩) hHeld ?_ ?_
   rotate_left
   ·rintro w' ⟨s0,s1⟩
    go_simp
    with_reducible rfl
   rotate_left
   ·simp only [Act.put,q1,q2,q3,i64_w,i32_w]
    rfl
   refine pure_ (i:=2) (N:=some 168) (v:=?_) (a':=?_) #[Y,Y,Y,Z,Z,Z] rfl rfl D3 hh (Or.inl ⟨D11,?_⟩) ?_ ?_
   rotate_left
   ·intro w'
    go_simp
    with_reducible rfl
   rotate_left
   ·simp only [Act.put,q1,q2,q3,i64_w,i32_w]
    rfl
   have hc7:=(World.cell?_setCell_far wr ⟨p4,0,none⟩ ⟨p7,0,none⟩ (.slice (some ⟨g1,0,none⟩) a cap1) h47).trans hHeld.1
   have hc8:=(World.cell?_setCell_far wr ⟨p4,0,none⟩ ⟨p8,0,none⟩ (.slice (some ⟨g1,0,none⟩) a cap1) h48).trans hHeld.2
   have hb4:=blk_put HE.out.b4 0 (.slice (some ⟨g1,0,none⟩) a cap1) rfl
   have hb5:=blk_far HE.out.b5 (p:=⟨p4,0,none⟩) (fun e=>h45 e.symm) (.slice (some ⟨g1,0,none⟩) a cap1)
   have hNB:=Kd.N_far HE.out.NB (p:=⟨p4,0,none⟩) (fun k hk=>hk.2.1) (.slice (some ⟨g1,0,none⟩) a cap1)
   have hBB:=pt (j:=0) (v:=.slice (some ⟨g1,0,none⟩) a cap1) HE.out.B HE.out.lo.1
   refine one_ (i:=3) (N:=none) #[Y,Y,Y,Y,Z,Z] rfl rfl D3 D4 (fun K hK=>?_)
   refine skip_ (w1:=?_) D11 rfl ?_ ?_
   rotate_left
   ·go_simp
    rfl
   refine hK.out _ _ ⟨hc7,hc8⟩ (fun hHeld=>?_)
   clear hK K hk4 hf4 hc7 hc8
   have hlo5:=HE.out.lo.2.1
   clear HE
   generalize wr.setCell ⟨p4,0,none⟩ (.slice (some ⟨g1,0,none⟩) a cap1)=wr at hb4 hb5 hNB hBB hHeld ⊢
   have hk5:wr.cell? ⟨p5,0,none⟩=some (.slice none 0 0):=(blk_cell hb5 0).trans rfl
   have hf5:=blk_frozen hb5 0
   refine last_ (i:=4) (N:=none) #[Y,Y,Y,Y,Y,Z] rfl rfl D3 D4 (fun K hK=>?_)
   refine skip_ (w1:=?_) D11 rfl ?_ ?_
   rotate_left
   ·go_simp
    rfl
   refine hK.out _ _ ?_
   clear hK K
   have hN2:=Kd.N_far hNB (p:=⟨p5,0,none⟩) (fun k hk=>hk.2.2.1) (.slice (some ⟨g2,0,none⟩) a cap2)
   have hB2:=pt (j:=0) (v:=.slice (some ⟨g2,0,none⟩) a cap2) hBB hlo5
   have h4:=blk_far hb4 (p:=⟨p5,0,none⟩) h45 (.slice (some ⟨g2,0,none⟩) a cap2)
   have h5:=blk_put hb5 0 (.slice (some ⟨g2,0,none⟩) a cap2) rfl
   clear hk5 hf5 hb4 hb5 hNB hBB hHeld
   generalize wr.setCell ⟨p5,0,none⟩ (.slice (some ⟨g2,0,none⟩) a cap2)=wr at hN2 hB2 h4 h5 ⊢
   have HNF:=am (Kd.N_mono hN2 (ok':=fun b=>w.heap.size≤b) (fun _ hk=>hk.2.2.2))
   have HBF:=am hB2
   clear hN2 hB2
   refine pure_ (i:=5) (N:=some 6) (v:=?_) (a':=?_) #[Y,Y,Y,Y,Y,Y] rfl rfl D3 hh (Or.inl ⟨D11,?_⟩) ?_ ?_
   rotate_left
   ·intro w'
    go_simp
    with_reducible rfl
   rotate_left
   ·simp only [Act.put,q1,q2,q3,i64_w,i32_w]
    rfl
   refine done_ D3 ?_
   go_wp2_with fail
   (try simp only [Exit.inBlock,Exit.then])
   refine bodyPost_ret (results_cct rfl _ _ p4 p5 43 43 #[.slice (some ⟨g1,0,none⟩) a cap1] #[.slice (some ⟨g2,0,none⟩) a cap2] (0,0) (0,0) _ _ rfl h4 hu rfl D3 rfl h5 hu rfl D3) rfl ?_
   have hf:(rowP.red L k).2=L.length:=by rw [← HQ.out,HLL.out]
   have e2:=RowK.red_full hf (m1 - k)
   rw [show k+(m1 - k)=m1 by omega] at e2
   rw [e2,← HQ.out]
   exact ⟨_,_,_,_,rfl,HNF.out,HBF.out⟩
  have haz:(a:Int) < (len:Int):=by omega
  have hda:decide ((a:Int) < (len:Int))=true:=decide_eq_true haz
  go_wp2_with fail
  go_loopg [11] (len+1) (fun fu v11 wr=>∃ p:Nat,a≤p∧p≤len∧len - p < fu∧v11 = .int .i64 p∧Aside0 (∀ i,a≤i→i < p→((L1.map Prod.fst).getD i []).getD k 0=0)∧Aside0 (LR w p4 p5 p7 p8 g1 cap1 g2 cap2 len m1 m2 (L1.map Prod.fst) (L1.map Prod.snd) wr))
  case atStart=>exact ⟨a,Nat.le_refl _,ha,D5,rfl,⟨fun i h1 h2=>by omega⟩,HE⟩
  case round =>
   clear HE hkA hkB hcell0
   obtain ⟨p,hap,hp,hfp,rfl,HZ,HE⟩:=hrel
   have hkA:=HE.out.keyA
   have hkB:=HE.out.keyB
   by_cases hpl:p < len
   case neg =>
    have e:p=len:=by omega
    subst e
    have hpz:¬ (p:Int) < (p:Int):=by omega
    have hdp:decide ((p:Int) < (p:Int))=false:=decide_eq_false hpz
    have HS:=am (rp_none HQ.out HLL.out hal hlen1 HZ.out)
    go_wp2_with fail
    go_roundg (m1 - k)
    case measure=>omega
    case rel=>exact ⟨k+1,D5,D5,by rw [HS.out],by go_num,⟨by rw [HS.out];exact HE.out⟩⟩
   have hpz:(p:Int) < (len:Int):=by omega
   have hdp:decide ((p:Int) < (len:Int))=true:=decide_eq_true hpz
   obtain ⟨r1,A1,c1,hr1,hok1,hcell1,hle1,hF1,hfr1⟩:=HE.out.rowA p hpl
   obtain ⟨ad1,rfl,hbyte⟩:=F_m hF1 hok1.2 k hkn
   obtain ⟨y,hy⟩:∃ y,y=r1.getD k 0:=⟨_,rfl⟩
   rw [← hy] at hbyte
   have HY:=am hy
   have HR1E:=am hr1
   clear hy
   by_cases hy0:y=0
   case pos =>
    have HZ2:=am (show ∀ i,a≤i→i < p+1→((L1.map Prod.fst).getD i []).getD k 0=0 from fun i h1 h2=>by
     by_cases e:i=p
     ·subst e;rw [hr1,← HY.out];exact hy0
     exact HZ.out i h1 D5)
    clear hr1 HR1E HY hF1
    subst hy0
    go_wp2_with fail
    go_roundg (len - p)
    case measure=>omega
    case rel=>exact ⟨p+1,D5,D5,D5,by go_num,HZ2,HE⟩
   have hb2:(y == 0)=false:=by simpa using hy0
   have hne:¬ (p:Int)=(len:Int):=by omega
   have hdne:((p:Int) == (len:Int))=false:=by simpa using hne
   have HS:=am (rp_some HQ.out HLL.out hal hlen1 hap hpl (by rw [hr1,← HY.out];exact hy0) HZ.out)
   obtain ⟨s1,B1,d1,hs1,hokb1,hcellb1,hleb1,hFb1,hfrb1⟩:=HE.out.rowB p hpl
   clear hr1
   have hyb:Byte y:=by rw [HY.out];exact bytes_getD hok1.1 k
   have hyi:=hyb.inv
   obtain ⟨kI,hI⟩:=(SpecElim.spec_l1Inverse.ev hyb).rounds
   obtain ⟨kHSA,hSA⟩:=(SpecElim.spec_l1Scale.ev hyi hok1.1 (by rw [hok1.2];omega)).rounds
   obtain ⟨kHSB,hSB⟩:=(SpecElim.spec_l1Scale.ev hyi hokb1.1 (by rw [hokb1.2];omega)).rounds
   have HI:=am hI
   have HSA:=am hSA
   have HSB:=am hSB
   have HS1:=am hs1
   have HF1:=am hF1
   have HFb1:=am hFb1
   have hkz2:(k:Int) < (m1:Int):=hkz
   clear hI hSA hSB hs1 hF1 hFb1
   go_wp2_with fail
   clear hcell1 hbyte hcellb1 hkA hkB
   replace HE:=am (HE.out.below (pd (Below.refl _ _)))
   have hk0:=HE.out.keyA
   obtain ⟨ra,A9,c9,hra,hok9,hcell9,hle9,hF9,_⟩:=HE.out.rowA a hal
   obtain ⟨_,_,_,_,_,hcellp,_,_,hfrp⟩:=HE.out.rowA p hpl
   refine start_ (n:=10) (S:=fun w'=>w'.cell? ⟨p7,0,none⟩=some (.slice (some ⟨g1,0,none⟩) len cap1)∧w'.cell? ⟨g1,a,none⟩=some (.slice A9 m1 c9)) (ds:=[9]) #[Z,Z,Z,Z,Z,Z,Z,Z,Z,Z] D3 rfl rfl ⟨hk0,hcell9⟩ (fun hHeld=>?_)
   replace HF1:=am (Kd.F_drew HF1.out)
   replace HFb1:=am (Kd.F_drew HFb1.out)
   generalize wr.drew=wr at HE HF1 HFb1 hHeld hF9 hcellp hfrp ⊢
   clear hk0 hcell9
   refine pure_ (i:=0) (N:=some 71) (v:=?_) (a':=?_) #[Y,Z,Z,Z,Z,Z,Z,Z,Z,Z] rfl rfl D3 hh (Or.inl ⟨D11,?_⟩) ?_ ?_
   rotate_left
   ·intro w'
    go_simp
    with_reducible rfl
   rotate_left
   ·simp only [Act.put,q1,q2,q3,i64_w,i32_w]
    rfl
   refine take_ (i:=1) (N:=some 72) (v:=?_) (a':=?_) #[Y,Y,Z,Z,Z,Z,Z,Z,Z,Z] rfl rfl D3 hh (Or.inl ⟨D11,?_⟩) hHeld ?_ ?_
   rotate_left
   ·rintro w' ⟨s0,s1⟩
    go_simp
    with_reducible rfl
   rotate_left
   ·simp only [Act.put,q1,q2,q3,i64_w,i32_w]
    rfl
   refine pure_ (i:=2) (N:=some 73) (v:=?_) (a':=?_) #[Y,Y,Y,Z,Z,Z,Z,Z,Z,Z] rfl rfl D3 hh (Or.inl ⟨D11,?_⟩) ?_ ?_
   rotate_left
   ·intro w'
    go_simp
    with_reducible rfl
   rotate_left
   ·simp only [Act.put,q1,q2,q3,i64_w,i32_w]
    rfl
   refine pure_ (i:=3) (N:=some 74) (v:=?_) (a':=?_) #[Y,Y,Y,Y,Z,Z,Z,Z,Z,Z] rfl rfl D3 hh (Or.inl ⟨D11,?_⟩) ?_ ?_
   rotate_left
   ·intro w'
    go_simp
    with_reducible rfl
   rotate_left
   ·simp only [Act.put,q1,q2,q3,i64_w,i32_w]
    rfl
   refine take_ (i:=4) (N:=some 75) (v:=?_) (a':=?_) #[Y,Y,Y,Y,Y,Z,Z,Z,Z,Z] rfl rfl D3 hh (Or.inl ⟨D11,?_⟩) hHeld ?_ ?_
   rotate_left
   ·rintro w' ⟨s0,s1⟩
    go_simp
    with_reducible rfl
   rotate_left
   ·simp only [Act.put,q1,q2,q3,i64_w,i32_w]
    rfl
   refine pure_ (i:=5) (N:=some 76) (v:=?_) (a':=?_) #[Y,Y,Y,Y,Y,Y,Z,Z,Z,Z] rfl rfl D3 hh (Or.inl ⟨D11,?_⟩) ?_ ?_
   rotate_left
   ·intro w'
    go_simp
    with_reducible rfl
   rotate_left
   ·simp only [Act.put,q1,q2,q3,i64_w,i32_w]
    rfl
   refine pure_ (i:=6) (N:=some 77) (v:=?_) (a':=?_) #[Y,Y,Y,Y,Y,Y,Y,Z,Z,Z] rfl rfl D3 hh (Or.inl ⟨D11,?_⟩) ?_ ?_
   rotate_left
   ·intro w'
    go_simp
    with_reducible rfl
   rotate_left
   ·simp only [Act.put,q1,q2,q3,i64_w,i32_w]
    rfl
   refine take_ (i:=7) (N:=some 78) (v:=?_) (a':=?_) #[Y,Y,Y,Y,Y,Y,Y,Y,Z,Z] rfl rfl D3 hh (Or.inl ⟨D11,?_⟩) hHeld ?_ ?_
   rotate_left
   ·rintro w' ⟨s0,s1⟩
    go_simp
    with_reducible rfl
   rotate_left
   ·simp only [Act.put,q1,q2,q3,i64_w,i32_w]
    rfl
   refine pure_ (i:=8) (N:=some 79) (v:=?_) (a':=?_) #[Y,Y,Y,Y,Y,Y,Y,Y,Y,Z] rfl rfl D3 hh (Or.inl ⟨D11,?_⟩) ?_ ?_
   rotate_left
   ·intro w'
    go_simp
    with_reducible rfl
   rotate_left
   ·simp only [Act.put,q1,q2,q3,i64_w,i32_w]
    rfl
   refine last_ (i:=9) (N:=none) #[Y,Y,Y,Y,Y,Y,Y,Y,Y,Y] rfl rfl D3 D4 (fun K hK=>?_)
   refine skip_ (w1:=?_) D11 rfl ?_ ?_
   rotate_left
   ·go_simp
    rfl
   refine hK.out _ _ ?_
   clear hK K
   refine done_ D3 ?_
   have hE1:=HE.out.putA p hpl hok9 hle9 hF9
   replace HF1:=am (Kd.F_far HF1.out (p:=⟨g1,p,none⟩) (fun k hk=>hk.1) (.slice A9 m1 c9))
   replace HFb1:=am (Kd.F_far HFb1.out (p:=⟨g1,p,none⟩) (fun k hk=>hk.1) (.slice A9 m1 c9))
   clear HE hHeld hF9 hcellp hfrp hok9 hle9
   generalize wr.setCell ⟨g1,p,none⟩ (.slice A9 m1 c9)=wr at hE1 HF1 HFb1 ⊢
   have HE:=am hE1
   clear hE1
   go_wp2_with fail
   replace HE:=am (HE.out.below (pd (Below.refl _ _)))
   have hk0:=HE.out.keyB
   obtain ⟨sa,A9,c9,hsa,hok9,hcell9,hle9,hF9,_⟩:=HE.out.rowB a hal
   obtain ⟨_,_,_,_,_,hcellp,_,_,hfrp⟩:=HE.out.rowB p hpl
   refine start_ (n:=10) (S:=fun w'=>w'.cell? ⟨p8,0,none⟩=some (.slice (some ⟨g2,0,none⟩) len cap2)∧w'.cell? ⟨g2,a,none⟩=some (.slice A9 m2 c9)) (ds:=[9]) #[Z,Z,Z,Z,Z,Z,Z,Z,Z,Z] D3 rfl rfl ⟨hk0,hcell9⟩ (fun hHeld=>?_)
   replace HF1:=am (Kd.F_drew HF1.out)
   replace HFb1:=am (Kd.F_drew HFb1.out)
   generalize wr.drew=wr at HE HF1 HFb1 hHeld hF9 hcellp hfrp ⊢
   clear hk0 hcell9
   refine pure_ (i:=0) (N:=some 80) (v:=?_) (a':=?_) #[Y,Z,Z,Z,Z,Z,Z,Z,Z,Z] rfl rfl D3 hh (Or.inl ⟨D11,?_⟩) ?_ ?_
   rotate_left
   ·intro w'
    go_simp
    with_reducible rfl
   rotate_left
   ·simp only [Act.put,q1,q2,q3,i64_w,i32_w]
    rfl
   refine take_ (i:=1) (N:=some 81) (v:=?_) (a':=?_) #[Y,Y,Z,Z,Z,Z,Z,Z,Z,Z] rfl rfl D3 hh (Or.inl ⟨D11,?_⟩) hHeld ?_ ?_
   rotate_left
   ·rintro w' ⟨s0,s1⟩
    go_simp
    with_reducible rfl
   rotate_left
   ·simp only [Act.put,q1,q2,q3,i64_w,i32_w]
    rfl
   refine pure_ (i:=2) (N:=some 82) (v:=?_) (a':=?_) #[Y,Y,Y,Z,Z,Z,Z,Z,Z,Z] rfl rfl D3 hh (Or.inl ⟨D11,?_⟩) ?_ ?_
   rotate_left
   ·intro w'
    go_simp
    with_reducible rfl
   rotate_left
   ·simp only [Act.put,q1,q2,q3,i64_w,i32_w]
    rfl
   refine pure_ (i:=3) (N:=some 83) (v:=?_) (a':=?_) #[Y,Y,Y,Y,Z,Z,Z,Z,Z,Z] rfl rfl D3 hh (Or.inl ⟨D11,?_⟩) ?_ ?_
   rotate_left
   ·intro w'
    go_simp
    with_reducible rfl
   rotate_left
   ·simp only [Act.put,q1,q2,q3,i64_w,i32_w]
    rfl
   refine take_ (i:=4) (N:=some 84) (v:=?_) (a':=?_) #[Y,Y,Y,Y,Y,Z,Z,Z,Z,Z] rfl rfl D3 hh (Or.inl ⟨D11,?_⟩) hHeld ?_ ?_
   rotate_left
   ·rintro w' ⟨s0,s1⟩
    go_simp
    with_reducible rfl
   rotate_left
   ·simp only [Act.put,q1,q2,q3,i64_w,i32_w]
    rfl
   refine pure_ (i:=5) (N:=some 85) (v:=?_) (a':=?_) #[Y,Y,Y,Y,Y,Y,Z,Z,Z,Z] rfl rfl D3 hh (Or.inl ⟨D11,?_⟩) ?_ ?_
   rotate_left
   ·intro w'
    go_simp
    with_reducible rfl
   rotate_left
   ·simp only [Act.put,q1,q2,q3,i64_w,i32_w]
    rfl
   refine pure_ (i:=6) (N:=some 86) (v:=?_) (a':=?_) #[Y,Y,Y,Y,Y,Y,Y,Z,Z,Z] rfl rfl D3 hh (Or.inl ⟨D11,?_⟩) ?_ ?_
   rotate_left
   ·intro w'
    go_simp
    with_reducible rfl
   rotate_left
   ·simp only [Act.put,q1,q2,q3,i64_w,i32_w]
    rfl
   refine take_ (i:=7) (N:=some 87) (v:=?_) (a':=?_) #[Y,Y,Y,Y,Y,Y,Y,Y,Z,Z] rfl rfl D3 hh (Or.inl ⟨D11,?_⟩) hHeld ?_ ?_
   rotate_left
   ·rintro w' ⟨s0,s1⟩
    go_simp
    with_reducible rfl
   rotate_left
   ·simp only [Act.put,q1,q2,q3,i64_w,i32_w]
    rfl
   refine pure_ (i:=8) (N:=some 88) (v:=?_) (a':=?_) #[Y,Y,Y,Y,Y,Y,Y,Y,Y,Z] rfl rfl D3 hh (Or.inl ⟨D11,?_⟩) ?_ ?_
   rotate_left
   ·intro w'
    go_simp
    with_reducible rfl
   rotate_left
   ·simp only [Act.put,q1,q2,q3,i64_w,i32_w]
    rfl
   refine last_ (i:=9) (N:=none) #[Y,Y,Y,Y,Y,Y,Y,Y,Y,Y] rfl rfl D3 D4 (fun K hK=>?_)
   refine skip_ (w1:=?_) D11 rfl ?_ ?_
   rotate_left
   ·go_simp
    rfl
   refine hK.out _ _ ?_
   clear hK K
   refine done_ D3 ?_
   have hE1:=HE.out.putB p hpl hok9 hle9 hF9
   replace HF1:=am (Kd.F_far HF1.out (p:=⟨g2,p,none⟩) (fun k hk=>hk.2.1) (.slice A9 m2 c9))
   replace HFb1:=am (Kd.F_far HFb1.out (p:=⟨g2,p,none⟩) (fun k hk=>hk.2.1) (.slice A9 m2 c9))
   clear HE hHeld hF9 hcellp hfrp hok9 hle9
   generalize wr.setCell ⟨g2,p,none⟩ (.slice A9 m2 c9)=wr at hE1 HF1 HFb1 ⊢
   have HE:=am hE1
   clear hE1
   obtain ⟨ad1',e1,hbyte⟩:=F_m HF1.out hok1.2 k hkn
   injection e1 with e1
   subst e1
   rw [← HY.out] at hbyte
   go_wp2_with fail
   refine (spec_l1Inverse.calls kI y (inv y) _ HI.out).mono ?_
   rintro e w4 ⟨rfl,⟨q4,rfl⟩⟩
   clear hbyte
   replace HE:=am (HE.out.below (w1:=wr.drewN q4) (pb (Below.refl _ _) q4))
   replace HF1:=am (Kd.F_drewN HF1.out q4)
   replace HFb1:=am (Kd.F_drewN HFb1.out q4)
   generalize wr.drewN q4=wr at HE HF1 HFb1 ⊢
   go_wp2_with fail
   replace HE:=am (HE.out.below (pd (Below.refl _ _)))
   have hk0:=HE.out.keyA
   refine start_ (n:=8) (S:=fun w'=>w'.cell? ⟨p7,0,none⟩=some (.slice (some ⟨g1,0,none⟩) len cap1)) (ds:=[7]) #[Z,Z,Z,Z,Z,Z,Z,Z] D3 rfl rfl hk0 (fun hHeld=>?_)
   replace HF1:=am (Kd.F_drew HF1.out)
   replace HFb1:=am (Kd.F_drew HFb1.out)
   generalize wr.drew=wr at HE HF1 HFb1 hHeld ⊢
   clear hk0
   refine pure_ (i:=0) (N:=some 94) (v:=?_) (a':=?_) #[Y,Z,Z,Z,Z,Z,Z,Z] rfl rfl D3 hh (Or.inl ⟨D11,?_⟩) ?_ ?_
   rotate_left
   ·intro w'
    go_simp
    with_reducible rfl
   rotate_left
   ·simp only [Act.put,q1,q2,q3,i64_w,i32_w]
    rfl
   refine take_ (i:=1) (N:=some 95) (v:=?_) (a':=?_) #[Y,Y,Z,Z,Z,Z,Z,Z] rfl rfl D3 hh (Or.inl ⟨D11,?_⟩) hHeld ?_ ?_
   rotate_left
   ·rintro w' s0
    go_simp
    with_reducible rfl
   rotate_left
   ·simp only [Act.put,q1,q2,q3,i64_w,i32_w]
    rfl
   refine pure_ (i:=2) (N:=some 96) (v:=?_) (a':=?_) #[Y,Y,Y,Z,Z,Z,Z,Z] rfl rfl D3 hh (Or.inl ⟨D11,?_⟩) ?_ ?_
   rotate_left
   ·intro w'
    go_simp
    with_reducible rfl
   rotate_left
   ·simp only [Act.put,q1,q2,q3,i64_w,i32_w]
    rfl
   refine pure_ (i:=3) (N:=some 97) (v:=?_) (a':=?_) #[Y,Y,Y,Y,Z,Z,Z,Z] rfl rfl D3 hh (Or.inl ⟨D11,?_⟩) ?_ ?_
   rotate_left
   ·intro w'
    go_simp
    with_reducible rfl
   rotate_left
   ·simp only [Act.put,q1,q2,q3,i64_w,i32_w]
    rfl
   refine pure_ (i:=4) (N:=some 98) (v:=?_) (a':=?_) #[Y,Y,Y,Y,Y,Z,Z,Z] rfl rfl D3 hh (Or.inl ⟨D11,?_⟩) ?_ ?_
   rotate_left
   ·intro w'
    go_simp
    with_reducible rfl
   rotate_left
   ·simp only [Act.put,q1,q2,q3,i64_w,i32_w]
    rfl
   refine one_ (i:=5) (N:=some 99) #[Y,Y,Y,Y,Y,Y,Z,Z] rfl rfl D3 D4 (fun K hK=>?_)
   refine goes_ Try.func124 D3 rfl #[Value.int .u8 (inv y),Value.slice (some ad1) m1 c1] D11 rfl rfl D14 ?_
   have hS:=spec_l1Scale.calls kHSA (inv y) (some ad1) c1 r1 (scale (inv y) r1) wr (F_C HF1.out hok1.2) (by rw [hok1.2];exact hle1) HSA.out
   rw [hok1.2] at hS
   refine hS.mono ?_
   clear hS
   rintro e w5 ⟨v5,rfl,ho5,hb5⟩
   refine ⟨_,rfl,?_⟩
   obtain ⟨A5,c5,e5⟩:=Kd.R_slice ho5
   rw [scale_length,hok1.2] at e5
   subst e5
   have hle5:m1≤c5:=(Kd.R_reads' ho5).2.1
   have HF5:=am (HE.out.fresh ho5)
   replace HE:=am (HE.out.below hb5)
   replace hHeld:=pw_cell_below hb5 hHeld
   replace HFb1:=am (Kd.F_below HFb1.out hb5)
   clear ho5 hb5 HF1
   refine hK.out _ _ hHeld (fun hHeld=>?_)
   clear hK K
   refine norm_ (a':=?_) ?_ ?_
   rotate_left
   ·show Act.put _ (some 99) _=_
    simp only [Act.put,q1,q2,q3,i64_w,i32_w]
    rfl
   refine pure_ (i:=6) (N:=some 100) (v:=?_) (a':=?_) #[Y,Y,Y,Y,Y,Y,Y,Z] rfl rfl D3 hh (Or.inl ⟨D11,?_⟩) ?_ ?_
   rotate_left
   ·intro w'
    go_simp
    with_reducible rfl
   rotate_left
   ·simp only [Act.put,q1,q2,q3,i64_w,i32_w]
    rfl
   obtain ⟨_,_,_,_,_,hcell3,_,_,hfr3⟩:=HE.out.rowA a hal
   refine last_ (i:=7) (N:=none) #[Y,Y,Y,Y,Y,Y,Y,Y] rfl rfl D3 D4 (fun K hK=>?_)
   refine skip_ (w1:=?_) D11 rfl ?_ ?_
   rotate_left
   ·go_simp
    rfl
   refine hK.out _ _ ?_
   clear hK K
   refine done_ D3 ?_
   have hokx:=el_scale hyi hok1
   have hE1:=HE.out.putA a hal hokx hle5 HF5.out
   replace HFb1:=am (Kd.F_far HFb1.out (p:=⟨g1,a,none⟩) (fun k hk=>hk.1) (.slice A5 m1 c5))
   clear HE HF5 hcell3 hfr3 hHeld hokx
   generalize w5.setCell ⟨g1,a,none⟩ (.slice A5 m1 c5)=wr at hE1 HFb1 ⊢
   have HE:=am hE1
   clear hE1 hle5
   go_wp2_with fail
   replace HE:=am (HE.out.below (pd (Below.refl _ _)))
   have hk0:=HE.out.keyB
   refine start_ (n:=8) (S:=fun w'=>w'.cell? ⟨p8,0,none⟩=some (.slice (some ⟨g2,0,none⟩) len cap2)) (ds:=[7]) #[Z,Z,Z,Z,Z,Z,Z,Z] D3 rfl rfl hk0 (fun hHeld=>?_)
   replace HFb1:=am (Kd.F_drew HFb1.out)
   generalize wr.drew=wr at HE HFb1 hHeld ⊢
   clear hk0
   refine pure_ (i:=0) (N:=some 101) (v:=?_) (a':=?_) #[Y,Z,Z,Z,Z,Z,Z,Z] rfl rfl D3 hh (Or.inl ⟨D11,?_⟩) ?_ ?_
   rotate_left
   ·intro w'
    go_simp
    with_reducible rfl
   rotate_left
   ·simp only [Act.put,q1,q2,q3,i64_w,i32_w]
    rfl
   refine take_ (i:=1) (N:=some 102) (v:=?_) (a':=?_) #[Y,Y,Z,Z,Z,Z,Z,Z] rfl rfl D3 hh (Or.inl ⟨D11,?_⟩) hHeld ?_ ?_
   rotate_left
   ·rintro w' s0
    go_simp
    with_reducible rfl
   rotate_left
   ·simp only [Act.put,q1,q2,q3,i64_w,i32_w]
    rfl
   refine pure_ (i:=2) (N:=some 103) (v:=?_) (a':=?_) #[Y,Y,Y,Z,Z,Z,Z,Z] rfl rfl D3 hh (Or.inl ⟨D11,?_⟩) ?_ ?_
   rotate_left
   ·intro w'
    go_simp
    with_reducible rfl
   rotate_left
   ·simp only [Act.put,q1,q2,q3,i64_w,i32_w]
    rfl
   refine pure_ (i:=3) (N:=some 104) (v:=?_) (a':=?_) #[Y,Y,Y,Y,Z,Z,Z,Z] rfl rfl D3 hh (Or.inl ⟨D11,?_⟩) ?_ ?_
   rotate_left
   ·intro w'
    go_simp
    with_reducible rfl
   rotate_left
   ·simp only [Act.put,q1,q2,q3,i64_w,i32_w]
    rfl
   refine pure_ (i:=4) (N:=some 105) (v:=?_) (a':=?_) #[Y,Y,Y,Y,Y,Z,Z,Z] rfl rfl D3 hh (Or.inl ⟨D11,?_⟩) ?_ ?_
   rotate_left
   ·intro w'
    go_simp
    with_reducible rfl
   rotate_left
   ·simp only [Act.put,q1,q2,q3,i64_w,i32_w]
    rfl
   refine one_ (i:=5) (N:=some 106) #[Y,Y,Y,Y,Y,Y,Z,Z] rfl rfl D3 D4 (fun K hK=>?_)
   refine goes_ Try.func124 D3 rfl #[Value.int .u8 (inv y),Value.slice B1 m2 d1] D11 rfl rfl D14 ?_
   have hS:=spec_l1Scale.calls kHSB (inv y) B1 d1 s1 (scale (inv y) s1) wr (F_C HFb1.out hokb1.2) (by rw [hokb1.2];exact hleb1) HSB.out
   rw [hokb1.2] at hS
   refine hS.mono ?_
   clear hS
   rintro e w5 ⟨v5,rfl,ho5,hb5⟩
   refine ⟨_,rfl,?_⟩
   obtain ⟨A5,c5,e5⟩:=Kd.R_slice ho5
   rw [scale_length,hokb1.2] at e5
   subst e5
   have hle5:m2≤c5:=(Kd.R_reads' ho5).2.1
   have HF5:=am (HE.out.fresh ho5)
   replace HE:=am (HE.out.below hb5)
   replace hHeld:=pw_cell_below hb5 hHeld
   clear ho5 hb5 HFb1
   refine hK.out _ _ hHeld (fun hHeld=>?_)
   clear hK K
   refine norm_ (a':=?_) ?_ ?_
   rotate_left
   ·show Act.put _ (some 106) _=_
    simp only [Act.put,q1,q2,q3,i64_w,i32_w]
    rfl
   refine pure_ (i:=6) (N:=some 107) (v:=?_) (a':=?_) #[Y,Y,Y,Y,Y,Y,Y,Z] rfl rfl D3 hh (Or.inl ⟨D11,?_⟩) ?_ ?_
   rotate_left
   ·intro w'
    go_simp
    with_reducible rfl
   rotate_left
   ·simp only [Act.put,q1,q2,q3,i64_w,i32_w]
    rfl
   obtain ⟨_,_,_,_,_,hcell3,_,_,hfr3⟩:=HE.out.rowB a hal
   refine last_ (i:=7) (N:=none) #[Y,Y,Y,Y,Y,Y,Y,Y] rfl rfl D3 D4 (fun K hK=>?_)
   refine skip_ (w1:=?_) D11 rfl ?_ ?_
   rotate_left
   ·go_simp
    rfl
   refine hK.out _ _ ?_
   clear hK K
   refine done_ D3 ?_
   have hokx:=el_scale hyi hokb1
   have hE1:=HE.out.putB a hal hokx hle5 HF5.out
   clear HE HF5 hcell3 hfr3 hHeld hokx
   generalize w5.setCell ⟨g2,a,none⟩ (.slice A5 m2 c5)=wr at hE1 ⊢
   have HE:=am hE1
   clear hE1 hle5
   have hE1:=HE.out
   rw [← hra,HY.out,← HR1E.out,← rp_lift_fst,← hsa,← HS1.out,← rp_lift_snd] at hE1
   obtain ⟨L3,hL3⟩:∃ L3,L3=rowP.lift L1 k a p:=⟨_,rfl⟩
   rw [← hL3] at hE1 HS
   clear HE hL3 hra hsa HY HR1E HS1 hok1 hokb1 HI HSA HSB hyb hyi hb2 hy0
   have HE:=am hE1
   clear hE1
   have hkA:=HE.out.keyA
   go_wp2_with fail
   go_loopg [111] (len+1) (fun fu v111 wr=>∃ i:Nat,i≤len∧len - i < fu∧v111 = .int .i64 i∧Aside0 (LR w p4 p5 p7 p8 g1 cap1 g2 cap2 len m1 m2 ((rowP.clr k a L3 i).map Prod.fst) ((rowP.clr k a L3 i).map Prod.snd) wr))
   case atStart=>exact ⟨0,Nat.zero_le _,D5,rfl,HE⟩
   case round =>
    clear HE hkA
    obtain ⟨i,hi,hfi,rfl,HE⟩:=hrel
    have hkA:=HE.out.keyA
    by_cases hil:i < len
    case neg =>
     have e:i=len:=by omega
     subst e
     have hrz:¬ (i:Int) < (i:Int):=by omega
     have hdr:decide ((i:Int) < (i:Int))=false:=decide_eq_false hrz
     go_wp2_with fail
     go_roundg (m1 - k)
     case measure=>omega
     case rel=>exact ⟨k+1,D5,D5,by rw [HS.out];go_num,by go_num,⟨by rw [HS.out];exact HE.out⟩⟩
    have hrz:(i:Int) < (len:Int):=by omega
    have hdr:decide ((i:Int) < (len:Int))=true:=decide_eq_true hrz
    obtain ⟨ri,Ai,ci,hri,hoki,hcelli,hlei,hFi,_⟩:=HE.out.rowA i hil
    obtain ⟨adi,rfl,hbyte⟩:=F_m hFi hoki.2 k hkn
    obtain ⟨z,hz⟩:∃ z,z=ri.getD k 0:=⟨_,rfl⟩
    rw [← hz] at hbyte
    have HZE:=am (hz.trans (by rw [← hri]))
    have hzb:Byte z:=by rw [hz];exact bytes_getD hoki.1 k
    clear hz hFi
    by_cases hia:i=a
    case pos =>
     have HT:=am (rp_clr_skip (L:=L3) (k:=k) (a:=a) (r:=i) (.inl hia))
     clear HZE hri
     subst hia
     go_wp2_with fail
     go_roundg (len - i)
     case measure=>omega
     case rel=>exact ⟨i+1,D5,D5,by go_num,⟨by rw [HT.out];exact HE.out⟩⟩
    have hiz:¬ (i:Int)=(a:Int):=by omega
    by_cases hz0:z=0
    case pos =>
     have HT:=am (rp_clr_skip (L:=L3) (k:=k) (a:=a) (r:=i) (.inr (HZE.out.symm.trans hz0)))
     clear HZE hri
     subst hz0
     go_wp2_with fail
     go_roundg (len - i)
     case measure=>omega
     case rel=>exact ⟨i+1,D5,D5,by go_num,⟨by rw [HT.out];exact HE.out⟩⟩
    have hb1:((i:Int) != (a:Int))=true:=bne_iff_ne.2 hiz
    have hb2:(z != 0)=true:=bne_iff_ne.2 hz0
    have HT:=am (rp_clr_do (L:=L3) hia HZE.out.symm hz0)
    clear HZE hri
    go_wp2_with fail
    clear hkA hcelli hbyte
    replace HE:=am (HE.out.below (pd (Below.refl _ _)))
    have hk0:=HE.out.keyA
    obtain ⟨x6,A6,c6,hx6,hok6,hcell6,hle6,hF6,_⟩:=HE.out.rowA i hil
    obtain ⟨x7,A7,c7,hx7,hok7,hcell7,hle7,hF7,_⟩:=HE.out.rowA a hal
    have hok8:=el_scale hzb hok7
    have hok9:=el_add hok6 hok8
    obtain ⟨kS,hS⟩:=(SpecElim.spec_l1Scale.ev hzb hok7.1 (by rw [hok7.2];omega)).rounds
    obtain ⟨kA,hA⟩:=(SpecElim.spec_l1Add.ev hok6.1 hok8.1 (by rw [hok6.2,hok8.2]) (by rw [hok6.2];omega)).rounds
    have HSc:=am hS
    have HAd:=am hA
    clear hS hA
    refine start_ (n:=18) (S:=fun w'=>w'.cell? ⟨p7,0,none⟩=some (.slice (some ⟨g1,0,none⟩) len cap1)∧w'.cell? ⟨g1,i,none⟩=some (.slice A6 m1 c6)∧w'.cell? ⟨g1,a,none⟩=some (.slice A7 m1 c7)) (ds:=[17]) #[Z,Z,Z,Z,Z,Z,Z,Z,Z,Z,Z,Z,Z,Z,Z,Z,Z,Z] D3 rfl rfl ⟨hk0,hcell6,hcell7⟩ (fun hHeld=>?_)
    generalize wr.drew=wr at HE hHeld hF6 hF7 ⊢
    have HF6:=am hF6
    have HF7:=am hF7
    clear hF6 hF7 hk0 hcell6 hcell7
    refine pure_ (i:=0) (N:=some 129) (v:=?_) (a':=?_) #[Y,Z,Z,Z,Z,Z,Z,Z,Z,Z,Z,Z,Z,Z,Z,Z,Z,Z] rfl rfl D3 hh (Or.inl ⟨D11,?_⟩) ?_ ?_
    rotate_left
    ·intro w'
     go_simp
     with_reducible rfl
    rotate_left
    ·simp only [Act.put,q1,q2,q3,i64_w,i32_w]
     rfl
    refine take_ (i:=1) (N:=some 130) (v:=?_) (a':=?_) #[Y,Y,Z,Z,Z,Z,Z,Z,Z,Z,Z,Z,Z,Z,Z,Z,Z,Z] rfl rfl D3 hh (Or.inl ⟨D11,?_⟩) hHeld ?_ ?_
    rotate_left
    ·rintro w' ⟨s0,s1,s2⟩
     go_simp
     with_reducible rfl
    rotate_left
    ·simp only [Act.put,q1,q2,q3,i64_w,i32_w]
     rfl
    refine pure_ (i:=2) (N:=some 131) (v:=?_) (a':=?_) #[Y,Y,Y,Z,Z,Z,Z,Z,Z,Z,Z,Z,Z,Z,Z,Z,Z,Z] rfl rfl D3 hh (Or.inl ⟨D11,?_⟩) ?_ ?_
    rotate_left
    ·intro w'
     go_simp
     with_reducible rfl
    rotate_left
    ·simp only [Act.put,q1,q2,q3,i64_w,i32_w]
     rfl
    refine pure_ (i:=3) (N:=some 132) (v:=?_) (a':=?_) #[Y,Y,Y,Y,Z,Z,Z,Z,Z,Z,Z,Z,Z,Z,Z,Z,Z,Z] rfl rfl D3 hh (Or.inl ⟨D11,?_⟩) ?_ ?_
    rotate_left
    ·intro w'
     go_simp
     with_reducible rfl
    rotate_left
    ·simp only [Act.put,q1,q2,q3,i64_w,i32_w]
     rfl
    refine take_ (i:=4) (N:=some 133) (v:=?_) (a':=?_) #[Y,Y,Y,Y,Y,Z,Z,Z,Z,Z,Z,Z,Z,Z,Z,Z,Z,Z] rfl rfl D3 hh (Or.inl ⟨D11,?_⟩) hHeld ?_ ?_
    rotate_left
    ·rintro w' ⟨s0,s1,s2⟩
     go_simp
     with_reducible rfl
    rotate_left
    ·simp only [Act.put,q1,q2,q3,i64_w,i32_w]
     rfl
    refine pure_ (i:=5) (N:=some 134) (v:=?_) (a':=?_) #[Y,Y,Y,Y,Y,Y,Z,Z,Z,Z,Z,Z,Z,Z,Z,Z,Z,Z] rfl rfl D3 hh (Or.inl ⟨D11,?_⟩) ?_ ?_
    rotate_left
    ·intro w'
     go_simp
     with_reducible rfl
    rotate_left
    ·simp only [Act.put,q1,q2,q3,i64_w,i32_w]
     rfl
    refine pure_ (i:=6) (N:=some 135) (v:=?_) (a':=?_) #[Y,Y,Y,Y,Y,Y,Y,Z,Z,Z,Z,Z,Z,Z,Z,Z,Z,Z] rfl rfl D3 hh (Or.inl ⟨D11,?_⟩) ?_ ?_
    rotate_left
    ·intro w'
     go_simp
     with_reducible rfl
    rotate_left
    ·simp only [Act.put,q1,q2,q3,i64_w,i32_w]
     rfl
    refine take_ (i:=7) (N:=some 136) (v:=?_) (a':=?_) #[Y,Y,Y,Y,Y,Y,Y,Y,Z,Z,Z,Z,Z,Z,Z,Z,Z,Z] rfl rfl D3 hh (Or.inl ⟨D11,?_⟩) hHeld ?_ ?_
    rotate_left
    ·rintro w' ⟨s0,s1,s2⟩
     go_simp
     with_reducible rfl
    rotate_left
    ·simp only [Act.put,q1,q2,q3,i64_w,i32_w]
     rfl
    refine pure_ (i:=8) (N:=some 137) (v:=?_) (a':=?_) #[Y,Y,Y,Y,Y,Y,Y,Y,Y,Z,Z,Z,Z,Z,Z,Z,Z,Z] rfl rfl D3 hh (Or.inl ⟨D11,?_⟩) ?_ ?_
    rotate_left
    ·intro w'
     go_simp
     with_reducible rfl
    rotate_left
    ·simp only [Act.put,q1,q2,q3,i64_w,i32_w]
     rfl
    refine pure_ (i:=9) (N:=some 138) (v:=?_) (a':=?_) #[Y,Y,Y,Y,Y,Y,Y,Y,Y,Y,Z,Z,Z,Z,Z,Z,Z,Z] rfl rfl D3 hh (Or.inl ⟨D11,?_⟩) ?_ ?_
    rotate_left
    ·intro w'
     go_simp
     with_reducible rfl
    rotate_left
    ·simp only [Act.put,q1,q2,q3,i64_w,i32_w]
     rfl
    refine take_ (i:=10) (N:=some 139) (v:=?_) (a':=?_) #[Y,Y,Y,Y,Y,Y,Y,Y,Y,Y,Y,Z,Z,Z,Z,Z,Z,Z] rfl rfl D3 hh (Or.inl ⟨D11,?_⟩) hHeld ?_ ?_
    rotate_left
    ·rintro w' ⟨s0,s1,s2⟩
     go_simp
     with_reducible rfl
    rotate_left
    ·simp only [Act.put,q1,q2,q3,i64_w,i32_w]
     rfl
    refine pure_ (i:=11) (N:=some 140) (v:=?_) (a':=?_) #[Y,Y,Y,Y,Y,Y,Y,Y,Y,Y,Y,Y,Z,Z,Z,Z,Z,Z] rfl rfl D3 hh (Or.inl ⟨D11,?_⟩) ?_ ?_
    rotate_left
    ·intro w'
     go_simp
     with_reducible rfl
    rotate_left
    ·simp only [Act.put,q1,q2,q3,i64_w,i32_w]
     rfl
    refine pure_ (i:=12) (N:=some 141) (v:=?_) (a':=?_) #[Y,Y,Y,Y,Y,Y,Y,Y,Y,Y,Y,Y,Y,Z,Z,Z,Z,Z] rfl rfl D3 hh (Or.inl ⟨D11,?_⟩) ?_ ?_
    rotate_left
    ·intro w'
     go_simp
     with_reducible rfl
    rotate_left
    ·simp only [Act.put,q1,q2,q3,i64_w,i32_w]
     rfl
    refine take_ (i:=13) (N:=some 142) (v:=?_) (a':=?_) #[Y,Y,Y,Y,Y,Y,Y,Y,Y,Y,Y,Y,Y,Y,Z,Z,Z,Z] rfl rfl D3 hh (Or.inl ⟨D11,?_⟩) hHeld ?_ ?_
    rotate_left
    ·rintro w' ⟨s0,s1,s2⟩
     go_simp
     with_reducible rfl
    rotate_left
    ·simp only [Act.put,q1,q2,q3,i64_w,i32_w]
     rfl
    refine one_ (i:=14) (N:=some 143) #[Y,Y,Y,Y,Y,Y,Y,Y,Y,Y,Y,Y,Y,Y,Y,Z,Z,Z] rfl rfl D3 D4 (fun K hK=>?_)
    refine goes_ Try.func124 D3 rfl #[Value.int .u8 z,Value.slice A7 m1 c7] D11 rfl rfl D14 ?_
    have hS:=spec_l1Scale.calls kS z A7 c7 x7 (scale z x7) wr (F_C HF7.out hok7.2) (by rw [hok7.2];exact hle7) HSc.out
    rw [hok7.2] at hS
    refine hS.mono ?_
    clear hS
    rintro e w5 ⟨v5,rfl,ho5,hb5⟩
    refine ⟨_,rfl,?_⟩
    obtain ⟨A8,c8,e8⟩:=Kd.R_slice ho5
    rw [scale_length,hok7.2] at e8
    subst e8
    have hle8:m1≤c8:=(Kd.R_reads' ho5).2.1
    have HF8:=am (HE.out.fresh ho5)
    replace HE:=am (HE.out.below hb5)
    replace HF6:=am (Kd.F_below HF6.out hb5)
    replace hHeld:=(show _∧_∧_ from ⟨pw_cell_below hb5 hHeld.1,pw_cell_below hb5 hHeld.2.1,pw_cell_below hb5 hHeld.2.2⟩)
    clear ho5 hb5 HF7
    refine hK.out _ _ ⟨hHeld.1,hHeld.2.1,hHeld.2.2⟩ (fun hHeld=>?_)
    clear hK K
    refine norm_ (a':=?_) ?_ ?_
    rotate_left
    ·show Act.put _ (some 143) _=_
     simp only [Act.put,q1,q2,q3,i64_w,i32_w]
     rfl
    refine one_ (i:=15) (N:=some 144) #[Y,Y,Y,Y,Y,Y,Y,Y,Y,Y,Y,Y,Y,Y,Y,Y,Z,Z] rfl rfl D3 D4 (fun K hK=>?_)
    refine goes_ Try.func123 D3 rfl #[Value.slice A6 m1 c6,Value.slice A8 m1 c8] D11 rfl rfl D14 ?_
    have hS:=spec_l1Add.calls kA A6 c6 x6 A8 c8 (scale z x7) (addV x6 (scale z x7)) w5 (F_C HF6.out hok6.2) (by rw [hok6.2];exact hle6) (F_C HF8.out hok8.2) (by rw [hok8.2];exact hle8) HAd.out
    rw [hok6.2,hok8.2] at hS
    refine hS.mono ?_
    clear hS
    rintro e w6 ⟨v6,rfl,ho6,hb6⟩
    refine ⟨_,rfl,?_⟩
    obtain ⟨A9,c9,e9⟩:=Kd.R_slice ho6
    rw [hok9.2] at e9
    subst e9
    have hle9:m1≤c9:=(Kd.R_reads' ho6).2.1
    have HF9:=am (HE.out.fresh ho6)
    replace HE:=am (HE.out.below hb6)
    replace hHeld:=(show _∧_∧_ from ⟨pw_cell_below hb6 hHeld.1,pw_cell_below hb6 hHeld.2.1,pw_cell_below hb6 hHeld.2.2⟩)
    clear ho6 hb6 HF6 HF8
    refine hK.out _ _ ⟨hHeld.1,hHeld.2.1,hHeld.2.2⟩ (fun hHeld=>?_)
    clear hK K
    refine norm_ (a':=?_) ?_ ?_
    rotate_left
    ·show Act.put _ (some 144) _=_
     simp only [Act.put,q1,q2,q3,i64_w,i32_w]
     rfl
    refine pure_ (i:=16) (N:=some 145) (v:=?_) (a':=?_) #[Y,Y,Y,Y,Y,Y,Y,Y,Y,Y,Y,Y,Y,Y,Y,Y,Y,Z] rfl rfl D3 hh (Or.inl ⟨D11,?_⟩) ?_ ?_
    rotate_left
    ·intro w'
     go_simp
     with_reducible rfl
    rotate_left
    ·simp only [Act.put,q1,q2,q3,i64_w,i32_w]
     rfl
    obtain ⟨_,_,_,_,_,hcell3,_,_,hfr3⟩:=HE.out.rowA i hil
    refine last_ (i:=17) (N:=none) #[Y,Y,Y,Y,Y,Y,Y,Y,Y,Y,Y,Y,Y,Y,Y,Y,Y,Y] rfl rfl D3 D4 (fun K hK=>?_)
    refine skip_ (w1:=?_) D11 rfl ?_ ?_
    rotate_left
    ·go_simp
     rfl
    refine hK.out _ _ ?_
    clear hK K
    refine done_ D3 ?_
    have hE1:=HE.out.putA i hil hok9 hle9 HF9.out
    rw [← hx6,← hx7] at hE1
    clear HE HF9 hcell3 hfr3 hHeld
    generalize w6.setCell ⟨g1,i,none⟩ (.slice A9 m1 c9)=wr at hE1 ⊢
    have HE:=am hE1
    clear hE1 hx6 hx7 hok6 hok7 hok8 hok9 hle6 hle7 hle8 hle9 HSc HAd
    go_wp2_with fail
    replace HE:=am (HE.out.below (pd (Below.refl _ _)))
    have hk0:=HE.out.keyB
    obtain ⟨x6,A6,c6,hx6,hok6,hcell6,hle6,hF6,_⟩:=HE.out.rowB i hil
    obtain ⟨x7,A7,c7,hx7,hok7,hcell7,hle7,hF7,_⟩:=HE.out.rowB a hal
    have hok8:=el_scale hzb hok7
    have hok9:=el_add hok6 hok8
    obtain ⟨kS,hS⟩:=(SpecElim.spec_l1Scale.ev hzb hok7.1 (by rw [hok7.2];omega)).rounds
    obtain ⟨kA,hA⟩:=(SpecElim.spec_l1Add.ev hok6.1 hok8.1 (by rw [hok6.2,hok8.2]) (by rw [hok6.2];omega)).rounds
    have HSc:=am hS
    have HAd:=am hA
    clear hS hA
    refine start_ (n:=18) (S:=fun w'=>w'.cell? ⟨p8,0,none⟩=some (.slice (some ⟨g2,0,none⟩) len cap2)∧w'.cell? ⟨g2,i,none⟩=some (.slice A6 m2 c6)∧w'.cell? ⟨g2,a,none⟩=some (.slice A7 m2 c7)) (ds:=[17]) #[Z,Z,Z,Z,Z,Z,Z,Z,Z,Z,Z,Z,Z,Z,Z,Z,Z,Z] D3 rfl rfl ⟨hk0,hcell6,hcell7⟩ (fun hHeld=>?_)
    generalize wr.drew=wr at HE hHeld hF6 hF7 ⊢
    have HF6:=am hF6
    have HF7:=am hF7
    clear hF6 hF7 hk0 hcell6 hcell7
    refine pure_ (i:=0) (N:=some 146) (v:=?_) (a':=?_) #[Y,Z,Z,Z,Z,Z,Z,Z,Z,Z,Z,Z,Z,Z,Z,Z,Z,Z] rfl rfl D3 hh (Or.inl ⟨D11,?_⟩) ?_ ?_
    rotate_left
    ·intro w'
     go_simp
     with_reducible rfl
    rotate_left
    ·simp only [Act.put,q1,q2,q3,i64_w,i32_w]
     rfl
    refine take_ (i:=1) (N:=some 147) (v:=?_) (a':=?_) #[Y,Y,Z,Z,Z,Z,Z,Z,Z,Z,Z,Z,Z,Z,Z,Z,Z,Z] rfl rfl D3 hh (Or.inl ⟨D11,?_⟩) hHeld ?_ ?_
    rotate_left
    ·rintro w' ⟨s0,s1,s2⟩
     go_simp
     with_reducible rfl
    rotate_left
    ·simp only [Act.put,q1,q2,q3,i64_w,i32_w]
     rfl
    refine pure_ (i:=2) (N:=some 148) (v:=?_) (a':=?_) #[Y,Y,Y,Z,Z,Z,Z,Z,Z,Z,Z,Z,Z,Z,Z,Z,Z,Z] rfl rfl D3 hh (Or.inl ⟨D11,?_⟩) ?_ ?_
    rotate_left
    ·intro w'
     go_simp
     with_reducible rfl
    rotate_left
    ·simp only [Act.put,q1,q2,q3,i64_w,i32_w]
     rfl
    refine pure_ (i:=3) (N:=some 149) (v:=?_) (a':=?_) #[Y,Y,Y,Y,Z,Z,Z,Z,Z,Z,Z,Z,Z,Z,Z,Z,Z,Z] rfl rfl D3 hh (Or.inl ⟨D11,?_⟩) ?_ ?_
    rotate_left
    ·intro w'
     go_simp
     with_reducible rfl
    rotate_left
    ·simp only [Act.put,q1,q2,q3,i64_w,i32_w]
     rfl
    refine take_ (i:=4) (N:=some 150) (v:=?_) (a':=?_) #[Y,Y,Y,Y,Y,Z,Z,Z,Z,Z,Z,Z,Z,Z,Z,Z,Z,Z] rfl rfl D3 hh (Or.inl ⟨D11,?_⟩) hHeld ?_ ?_
    rotate_left
    ·rintro w' ⟨s0,s1,s2⟩
     go_simp
     with_reducible rfl
    rotate_left
    ·simp only [Act.put,q1,q2,q3,i64_w,i32_w]
     rfl
    refine pure_ (i:=5) (N:=some 151) (v:=?_) (a':=?_) #[Y,Y,Y,Y,Y,Y,Z,Z,Z,Z,Z,Z,Z,Z,Z,Z,Z,Z] rfl rfl D3 hh (Or.inl ⟨D11,?_⟩) ?_ ?_
    rotate_left
    ·intro w'
     go_simp
     with_reducible rfl
    rotate_left
    ·simp only [Act.put,q1,q2,q3,i64_w,i32_w]
     rfl
    refine pure_ (i:=6) (N:=some 152) (v:=?_) (a':=?_) #[Y,Y,Y,Y,Y,Y,Y,Z,Z,Z,Z,Z,Z,Z,Z,Z,Z,Z] rfl rfl D3 hh (Or.inl ⟨D11,?_⟩) ?_ ?_
    rotate_left
    ·intro w'
     go_simp
     with_reducible rfl
    rotate_left
    ·simp only [Act.put,q1,q2,q3,i64_w,i32_w]
     rfl
    refine take_ (i:=7) (N:=some 153) (v:=?_) (a':=?_) #[Y,Y,Y,Y,Y,Y,Y,Y,Z,Z,Z,Z,Z,Z,Z,Z,Z,Z] rfl rfl D3 hh (Or.inl ⟨D11,?_⟩) hHeld ?_ ?_
    rotate_left
    ·rintro w' ⟨s0,s1,s2⟩
     go_simp
     with_reducible rfl
    rotate_left
    ·simp only [Act.put,q1,q2,q3,i64_w,i32_w]
     rfl
    refine pure_ (i:=8) (N:=some 154) (v:=?_) (a':=?_) #[Y,Y,Y,Y,Y,Y,Y,Y,Y,Z,Z,Z,Z,Z,Z,Z,Z,Z] rfl rfl D3 hh (Or.inl ⟨D11,?_⟩) ?_ ?_
    rotate_left
    ·intro w'
     go_simp
     with_reducible rfl
    rotate_left
    ·simp only [Act.put,q1,q2,q3,i64_w,i32_w]
     rfl
    refine pure_ (i:=9) (N:=some 155) (v:=?_) (a':=?_) #[Y,Y,Y,Y,Y,Y,Y,Y,Y,Y,Z,Z,Z,Z,Z,Z,Z,Z] rfl rfl D3 hh (Or.inl ⟨D11,?_⟩) ?_ ?_
    rotate_left
    ·intro w'
     go_simp
     with_reducible rfl
    rotate_left
    ·simp only [Act.put,q1,q2,q3,i64_w,i32_w]
     rfl
    refine take_ (i:=10) (N:=some 156) (v:=?_) (a':=?_) #[Y,Y,Y,Y,Y,Y,Y,Y,Y,Y,Y,Z,Z,Z,Z,Z,Z,Z] rfl rfl D3 hh (Or.inl ⟨D11,?_⟩) hHeld ?_ ?_
    rotate_left
    ·rintro w' ⟨s0,s1,s2⟩
     go_simp
     with_reducible rfl
    rotate_left
    ·simp only [Act.put,q1,q2,q3,i64_w,i32_w]
     rfl
    refine pure_ (i:=11) (N:=some 157) (v:=?_) (a':=?_) #[Y,Y,Y,Y,Y,Y,Y,Y,Y,Y,Y,Y,Z,Z,Z,Z,Z,Z] rfl rfl D3 hh (Or.inl ⟨D11,?_⟩) ?_ ?_
    rotate_left
    ·intro w'
     go_simp
     with_reducible rfl
    rotate_left
    ·simp only [Act.put,q1,q2,q3,i64_w,i32_w]
     rfl
    refine pure_ (i:=12) (N:=some 158) (v:=?_) (a':=?_) #[Y,Y,Y,Y,Y,Y,Y,Y,Y,Y,Y,Y,Y,Z,Z,Z,Z,Z] rfl rfl D3 hh (Or.inl ⟨D11,?_⟩) ?_ ?_
    rotate_left
    ·intro w'
     go_simp
     with_reducible rfl
    rotate_left
    ·simp only [Act.put,q1,q2,q3,i64_w,i32_w]
     rfl
    refine take_ (i:=13) (N:=some 159) (v:=?_) (a':=?_) #[Y,Y,Y,Y,Y,Y,Y,Y,Y,Y,Y,Y,Y,Y,Z,Z,Z,Z] rfl rfl D3 hh (Or.inl ⟨D11,?_⟩) hHeld ?_ ?_
    rotate_left
    ·rintro w' ⟨s0,s1,s2⟩
     go_simp
     with_reducible rfl
    rotate_left
    ·simp only [Act.put,q1,q2,q3,i64_w,i32_w]
     rfl
    refine one_ (i:=14) (N:=some 160) #[Y,Y,Y,Y,Y,Y,Y,Y,Y,Y,Y,Y,Y,Y,Y,Z,Z,Z] rfl rfl D3 D4 (fun K hK=>?_)
    refine goes_ Try.func124 D3 rfl #[Value.int .u8 z,Value.slice A7 m2 c7] D11 rfl rfl D14 ?_
    have hS:=spec_l1Scale.calls kS z A7 c7 x7 (scale z x7) wr (F_C HF7.out hok7.2) (by rw [hok7.2];exact hle7) HSc.out
    rw [hok7.2] at hS
    refine hS.mono ?_
    clear hS
    rintro e w5 ⟨v5,rfl,ho5,hb5⟩
    refine ⟨_,rfl,?_⟩
    obtain ⟨A8,c8,e8⟩:=Kd.R_slice ho5
    rw [scale_length,hok7.2] at e8
    subst e8
    have hle8:m2≤c8:=(Kd.R_reads' ho5).2.1
    have HF8:=am (HE.out.fresh ho5)
    replace HE:=am (HE.out.below hb5)
    replace HF6:=am (Kd.F_below HF6.out hb5)
    replace hHeld:=(show _∧_∧_ from ⟨pw_cell_below hb5 hHeld.1,pw_cell_below hb5 hHeld.2.1,pw_cell_below hb5 hHeld.2.2⟩)
    clear ho5 hb5 HF7
    refine hK.out _ _ ⟨hHeld.1,hHeld.2.1,hHeld.2.2⟩ (fun hHeld=>?_)
    clear hK K
    refine norm_ (a':=?_) ?_ ?_
    rotate_left
    ·show Act.put _ (some 160) _=_
     simp only [Act.put,q1,q2,q3,i64_w,i32_w]
     rfl
    refine one_ (i:=15) (N:=some 161) #[Y,Y,Y,Y,Y,Y,Y,Y,Y,Y,Y,Y,Y,Y,Y,Y,Z,Z] rfl rfl D3 D4 (fun K hK=>?_)
    refine goes_ Try.func123 D3 rfl #[Value.slice A6 m2 c6,Value.slice A8 m2 c8] D11 rfl rfl D14 ?_
    have hS:=spec_l1Add.calls kA A6 c6 x6 A8 c8 (scale z x7) (addV x6 (scale z x7)) w5 (F_C HF6.out hok6.2) (by rw [hok6.2];exact hle6) (F_C HF8.out hok8.2) (by rw [hok8.2];exact hle8) HAd.out
    rw [hok6.2,hok8.2] at hS
    refine hS.mono ?_
    clear hS
    rintro e w6 ⟨v6,rfl,ho6,hb6⟩
    refine ⟨_,rfl,?_⟩
    obtain ⟨A9,c9,e9⟩:=Kd.R_slice ho6
    rw [hok9.2] at e9
    subst e9
    have hle9:m2≤c9:=(Kd.R_reads' ho6).2.1
    have HF9:=am (HE.out.fresh ho6)
    replace HE:=am (HE.out.below hb6)
    replace hHeld:=(show _∧_∧_ from ⟨pw_cell_below hb6 hHeld.1,pw_cell_below hb6 hHeld.2.1,pw_cell_below hb6 hHeld.2.2⟩)
    clear ho6 hb6 HF6 HF8
    refine hK.out _ _ ⟨hHeld.1,hHeld.2.1,hHeld.2.2⟩ (fun hHeld=>?_)
    clear hK K
    refine norm_ (a':=?_) ?_ ?_
    rotate_left
    ·show Act.put _ (some 161) _=_
     simp only [Act.put,q1,q2,q3,i64_w,i32_w]
     rfl
    refine pure_ (i:=16) (N:=some 162) (v:=?_) (a':=?_) #[Y,Y,Y,Y,Y,Y,Y,Y,Y,Y,Y,Y,Y,Y,Y,Y,Y,Z] rfl rfl D3 hh (Or.inl ⟨D11,?_⟩) ?_ ?_
    rotate_left
    ·intro w'
     go_simp
     with_reducible rfl
    rotate_left
    ·simp only [Act.put,q1,q2,q3,i64_w,i32_w]
     rfl
    obtain ⟨_,_,_,_,_,hcell3,_,_,hfr3⟩:=HE.out.rowB i hil
    refine last_ (i:=17) (N:=none) #[Y,Y,Y,Y,Y,Y,Y,Y,Y,Y,Y,Y,Y,Y,Y,Y,Y,Y] rfl rfl D3 D4 (fun K hK=>?_)
    refine skip_ (w1:=?_) D11 rfl ?_ ?_
    rotate_left
    ·go_simp
     rfl
    refine hK.out _ _ ?_
    clear hK K
    refine done_ D3 ?_
    have hE1:=HE.out.putB i hil hok9 hle9 HF9.out
    rw [← hx6,← hx7] at hE1
    clear HE HF9 hcell3 hfr3 hHeld
    generalize w6.setCell ⟨g2,i,none⟩ (.slice A9 m2 c9)=wr at hE1 ⊢
    have HE:=am hE1
    clear hE1 hx6 hx7 hok6 hok7 hok8 hok9 hle6 hle7 hle8 hle9 HSc HAd
    go_wp2_with fail
    go_roundg (len - i)
    case measure=>omega
    case rel=>exact ⟨i+1,D5,D5,by go_num,⟨by rw [HT.out.1,HT.out.2];exact HE.out⟩⟩
end
end
def spec_l2Blank.l0:Nat→Int→Int→Int→List (List Int)→Option ((List (List Int)))
 | 0,_,_,_,_=>none
 | k+1,x0,x1,x6,x189000=>if x6 < x0 then (if 0≤x1 then (if (x1:Int).toNat≤281474976710656 then (if x189000.length < 5864062014805 then (spec_l2Blank.l0 k x0 x1 (wrap64 (x6+1)) (x189000 ++ [(List.replicate (x1:Int).toNat 0)])) else (none)) else (none)) else (none)) else (some x189000)
def spec_l2Blank.f (k:Nat) (a0:Int) (a1:Int):Option ((List (List Int))):=spec_l2Blank.l0 k a0 a1 0 ([]:List (List Int))
theorem spec_l2Blank.mono_l:∀ k,(∀ y0 y1 y2 y3,LeO (spec_l2Blank.l0 k y0 y1 y2 y3) (spec_l2Blank.l0 (k+1) y0 y1 y2 y3))
 | 0=>fun _ _ _ _ r h=>by simp [spec_l2Blank.l0] at h
 | k+1=>by
  have ih0:=spec_l2Blank.mono_l k
  intro y0 y1 y2 y3
  unfold spec_l2Blank.l0
  exact mm
theorem spec_l2Blank.mono:∀ a0 a1 k,LeO (spec_l2Blank.f k a0 a1) (spec_l2Blank.f (k+1) a0 a1):=by
 intro a0 a1 k
 have ih0:=spec_l2Blank.mono_l k
 unfold spec_l2Blank.f
 exact mm
def spec_l2Blank.T5:Bool × List (List Nat × List Nat):=(true,[([],[]),([0],[0]),([],[]),([2,2],[2]),([3],[3]),([1,4],[1,4]),([0,1,2,3,4,5],[]),([6,5,5,0,1,2,3,4,5],[5,6])])
def spec_l2Blank.B5:List Nat:=[0,1,0,4,12,31,63,127]
theorem spec_l2Blank.tab5:rtab .any (opsOf Try.f172 5)=spec_l2Blank.T5:=by kernel_rfl
theorem spec_l2Blank.bits5:waitsOk spec_l2Blank.T5.2 spec_l2Blank.B5=true:=by kernel_rfl
theorem spec_l2Blank.calls (k:Nat) (a0:Int) (a1:Int) (r:List (List Int)) (w:World) (h:spec_l2Blank.f k a0 a1=some r) :
  Calls Try.prog 172 #[.int .i64 a0, .int .i64 a1] w fun e w'=>∃ v0_:Value,e = .returned (.agg #[v0_])∧Kd.S (Kd.slice 5 (Kd.int .u8)) 57 w' w.heap.size (fun _=>True) v0_ r∧Below w.heap.size w w':=by
 have hu43:=Try.underlying43
 have HB:=am (Below.refl w.heap.size w)
 have H:=h
 unfold spec_l2Blank.f at H
 clear h
 have H':=am H
 clear H
 go_enter Try.func172,Try.ntmps172
 go_wp2_with (first|((with_reducible refine gD 4 ?_);refine gB (cs:=#[.slice none 0 0]) 43 ?_;intro gb187 hg w3 hbox hb;have BK187:=am (hbox);have GW187:=ye HB hg;replace HB:=yH HB hb;have GE187:=GW187;clear hb hbox hg)|((with_reducible refine gD 5 ?_);refine gB (cs:=#[.slice none 0 0]) 43 ?_;intro gb188 hg w4 hbox hb;have BK188:=am (hbox);have GW188:=ye HB hg;replace HB:=yH HB hb;have NB187_188:=yl BK187 hg;have NB188_187:=yg BK187 hg;replace BK187:=yb BK187 hb;have GE188:=GW188;clear hb hbox hg;have hnb5:=NB188_187.out;have hnc5:=NB187_188.out;obtain ⟨hcz6_0,hfz6_0⟩:=yk1 BK188))
 go_loopg [6] k (fun kq v6 w'=>∃ (x6_1:Int) (x189000_1:List (List Int)) (u189000:Value),v6 = .int .i64 x6_1∧Aside0 (spec_l2Blank.l0 kq a0 a1 x6_1 x189000_1=some r)∧Aside0 (kq≤k)∧Aside0 (Kd.S (Kd.slice 5 (Kd.int .u8)) 57 w' w.heap.size (fun _=>True) u189000 x189000_1)∧Aside0 (w'.heap[gb187]? = some (.cells #[(.slice none 0 0)] 43 (0,0)))∧Aside0 (w'.heap[gb188]? = some (.cells #[u189000] 43 (0,0)))∧Aside0 (Below w.heap.size w w'))
 case atStart=>exact ⟨(0),(([]:List (List Int))),(.slice none 0 0),D2,H',⟨Nat.le_refl _⟩,⟨D47⟩,⟨yF BK187⟩,⟨by refine sB ?_;refine blk_put (cs:=#[.slice none 0 0]) ?_ 0 _ rfl;exact yB BK188⟩,⟨yW HB⟩⟩
 case round =>
  clear H'
  try clear c1
  try clear p2
  try clear c5
  try clear hcz6_0
  try clear hfz6_0
  obtain ⟨x6_1,x189000_1,u189000,rfl,HA,HK1,HO_189000,BK187,BK188,HB⟩:=hrel
  cases gk with
  | zero=>exact absurd HA.out (by simp [spec_l2Blank.l0])
  | succ k1 =>
   have H:=HA.out
   clear HA
   simp only [spec_l2Blank.l0] at H
   by_cases c7:x6_1 < a0
   ·rw [if_pos c7] at H
    have c7b0:=decide_eq_true c7
    clear c7
    obtain ⟨c8,H⟩:=yi H
    have c8b0:=eq_true c8
    have c8b1:decide (0≤a1)=true:=decide_eq_true c8
    clear c8
    obtain ⟨c9,H⟩:=yi H
    have c9b0:=eq_true c9
    have c9b1:decide ((a1:Int).toNat≤281474976710656)=true:=decide_eq_true c9
    clear c9
    generalize hy189:(List.replicate (a1:Int).toNat 0:List Int)=y189 at H
    have Ny189:=am hy189.symm
    clear hy189
    obtain ⟨c10,H⟩:=yi H
    have LMc10:=am c10
    clear c10
    generalize hy192:(x189000_1 ++ [y189]:List (List Int))=y192 at H
    have Ny192:=am hy192.symm
    clear hy192
    have H':=am H
    clear H
    try go_wp2
    replace HO_189000:=am (Kd.S_drew HO_189000.out)
    replace BK187:=am (qd BK187.out)
    replace BK188:=am (qd BK188.out)
    replace HB:=am (pd HB.out)
    refine rS (n:=8) (S:=fun w'=>w'.cell? ⟨gb188,0,none⟩=some (u189000)) (ds:=[7]) [(0,13),(2,15),(1,14),(3,0),(4,0),(5,0),(6,19),(7,0)] D3 rfl spec_l2Blank.tab5 spec_l2Blank.bits5 (yk BK188 0) (fun hHeld HT_ HW_=>?_)
    generalize wr.drew=w11 at HO_189000 BK187 BK188 HB hHeld ⊢
    refine rR ?_
    refine rO (N:=some 16) HT_ rfl rfl D3 D4 (fun K hK=>?_)
    refine Kd.R_make_step (Kd.int .u8) _ 5 D11 (N:=16) rfl 57 _ _ rfl a1 rfl rfl Try.underlying57 (.int .u8 0) 1 info5 rfl D4 D5 0 (ok:=fun _=>True) (okp:=fun _=>True) rfl (fun _ hk=>hk) trivial (od D0) (Nat.le_trans (Nat.mul_le_mul_right _ (od D0:a1.toNat≤281474976710656)) D5) (Below.refl _ _) (Nat.le_refl _) ?_
    intro v190 w12 ho13 hb hg_ hnew_
    clear hg_ hnew_
    (first|rw [← Ny189.out] at ho13|(simp only [Int.reduceToNat] at ho13;rw [← Ny189.out] at ho13))
    replace HO_189000:=eS HO_189000 (Kd.R_base ho13) hb
    have HO191:=am (Kd.R_lower ho13 (pz (yW HB)))
    replace BK187:=yb BK187 hb
    replace BK188:=yb BK188 hb
    replace HB:=yH HB hb
    clear hb ho13
    obtain ⟨Ao15,co15,eo15⟩:=Kd.R_slice HO191.out
    (first|subst eo15|(injection eo15 with f1_ f2_ f3_;have f4_:=f1_.symm;have f5_:=f3_.symm;clear f1_ f2_ f3_;subst f4_;subst f5_))
    refine hK.out _ _ (yk BK188 0) (fun hHeld=>?_)
    clear hK K
    refine rN (a':=?_) ?_ ?_
    rotate_left
    ·show Act.put _ (some 16) _=_
     simp only [Act.put,q1,q2,q3,i64_w,i32_w]
     rfl
    refine rO (N:=some 17) HT_ rfl rfl D3 D4 (fun K hK=>?_)
    refine value_ (w1:=?_) (v:=?_) D11 rfl ?_ ?_
    rotate_left 2
    ·go_simp
     constructor
     ·rfl
     rfl
    refine hK.out _ _ ((blk_cell (qa BK188.out _) 0).trans rfl) (fun hHeld=>?_)
    clear hK K
    refine rN (a':=?_) ?_ ?_
    rotate_left
    ·show Act.put _ (some 17) _=_
     simp only [Act.put,q1,q2,q3,i64_w,i32_w]
     rfl
    refine rO (N:=some 18) HT_ rfl rfl D3 D4 (fun K hK=>?_)
    refine Kd.S_append_step (Kd.slice 5 (Kd.int .u8)) (w0:=w) w.heap.size D11 (.tmp 14) (.tmp 17) 37 57 (.slice none 0 0) 24 rfl Try.underlying37 info57 rfl D4 D5 u189000 x189000_1 y189 [.slice Ao15 y189.length co15] (fun _=>True) (fun k_=>some k_=(.slice Ao15 y189.length co15:Value).ownBlock) rfl rfl ?aP (fun k_ hk_=>((Kd.R_mono (ok':=fun k_=>((fun _=>True)) k_∧some k_ ≠ (u189000:Value).ownBlock) (Kd.R_apart' (HO191.out) (Kd.S_typed HO_189000.out) D4) (fun k_ hk=>⟨trivial,hk.2⟩))).1 k_ hk_.symm) ?aF ?aO ?aB ?aS ?aL ?_
    (case aP=>exact Kd.M_row (Kd.R_mono (Kd.R_tight rfl (Kd.R_mono (ok':=fun k_=>((fun _=>True)) k_∧some k_ ≠ (u189000:Value).ownBlock) (Kd.R_apart' (HO191.out) (Kd.S_typed HO_189000.out) D4) (fun k_ hk=>⟨trivial,hk.2⟩))) (fun _ h_=>h_)))
    (case aB=>exact (yW HB))
    (case aF=>exact (fun _ _=>trivial))
    (case aO=>exact (by refine sS ?_;exact Kd.S_mono HO_189000.out (fun k_ hk=>⟨trivial,fun e_=>hk.2 e_⟩)))
    (case aS=>exact (pz (yW HB)))
    (case aL=>have:=LMc10.out;omega)
    intro v193 w14 ho hb hg hat
    rw [← Ny192.out] at ho
    have n0_:=am (blk_grown (g:=gb187) (o:=.cells #[.slice none 0 0] 43 (0,0)) (yB BK187) hg (Kd.S_ne HO_189000.out BK187.out D4))
    have n1_:=am (blk_grown (g:=gb188) (o:=.cells #[u189000] 43 (0,0)) (yB BK188) hg (Kd.S_ne HO_189000.out BK188.out D4))
    have n2_:=am (hb)
    have n3_:=am (ho)
    clear BK187
    clear BK188
    clear HB
    clear HO_189000
    clear HO191
    have BK187:=n0_
    have BK188:=n1_
    have HB:=n2_
    have HO194:=n3_
    clear n0_ n1_ n2_ n3_
    clear ho hb hg hat
    obtain ⟨Ao16,co16,eo16⟩:=Kd.S_slice HO194.out
    (first|subst eo16|(injection eo16 with f1_ f2_ f3_;have f4_:=f1_.symm;have f5_:=f3_.symm;clear f1_ f2_ f3_;subst f4_;subst f5_))
    refine hK.out _ _ (yk BK188 0) (fun hHeld=>?_)
    clear hK K
    refine rN (a':=?_) ?_ ?_
    rotate_left
    ·show Act.put _ (some 18) _=_
     simp only [Act.put,q1,q2,q3,i64_w,i32_w]
     rfl
    refine rR ?_
    refine rL (N:=none) HT_ rfl rfl D3 D4 (fun K hK=>?_)
    have hs17:w14.cell? ⟨gb188,0,none⟩=some (u189000):=(blk_cell BK188.out 0).trans rfl
    have hfs17:=blk_frozen BK188.out 0
    have hns17_0:=NB187_188.out
    have hms17_0:=NB188_187.out
    refine skip_ (w1:=?_) D11 rfl ?_ ?_
    rotate_left
    ·go_simp
     rfl
    refine hK.out _ _ ?_
    clear hK K
    refine rD HT_ D3 ?_
    try go_wp2
    go_roundg k1
    case measure=>have:=HK1.out;omega
    case rel=>exact ⟨(wrap64 (x6_1+1)),(y192),(.slice Ao16 y192.length co16),D2,H',⟨D17⟩,⟨by refine sS ?_;exact Kd.S_mono (Kd.S_far (p:=⟨gb188,0,none⟩) (Kd.S_types HO194.out BK188.out D4) (fun _ hk=>hk.2) (.slice Ao16 y192.length co16)) (fun _ hk=>trivial)⟩,⟨yF BK187⟩,⟨by refine sB ?_;refine blk_put (cs:=#[u189000]) ?_ 0 _ rfl;exact yB BK188⟩,⟨yW HB⟩⟩
   rw [if_neg c7] at H
   have c7b0:=decide_eq_false c7
   clear c7
   obtain rfl:=Option.some.inj H
   have hnb18:=NB188_187.out
   have hnc18:=NB187_188.out
   obtain ⟨hcz19_0,hfz19_0⟩:=yk1 BK188
   obtain ⟨Ao20,co20,eo20⟩:=Kd.S_slice HO_189000.out
   subst eo20
   obtain ⟨hcz21_0,hfz21_0⟩:=yk1 BK187
   go_wp2
   refine bodyPost_ret (results_cell_row rfl _ _ gb187 43 #[.slice Ao20 x189000_1.length co20] (0,0) _ rfl (by refine sB ?_;refine blk_put (cs:=#[.slice none 0 0]) ?_ 0 _ rfl;exact yB BK187) Try.underlying43 rfl D3) rfl ?_
   exact ⟨_,D1,by refine sS ?_;exact Kd.S_mono (Kd.S_far (p:=⟨gb187,0,none⟩) (Kd.S_types HO_189000.out BK187.out D4) (fun _ hk=>hk.2) (.slice Ao20 x189000_1.length co20)) (fun _ hk=>trivial),yW HB⟩

def spec_l2Identity.l0:Nat→Int→Int→List (List Int)→Option ((List (List Int)))
 | 0,_,_,_=>none
 | k+1,x10,x11,x200000=>if x11 < x10 then (if 0≤x11 then (if x11 < (x200000.length:Int) then (if x11 < ((rd_L1 x200000 x11).length:Int) then (spec_l2Identity.l0 k x10 (wrap64 (x11+1)) (x200000.set (x11:Int).toNat ((rd_L1 x200000 x11).set (x11:Int).toNat 1))) else (none)) else (none)) else (none)) else (some x200000)
def spec_l2Identity.f (k:Nat) (a0:Int):Option ((List (List Int))):=(spec_l2Blank.f k a0 a0).bind fun t196=>(spec_l2Identity.l0 k (t196.length:Int) 0 t196)
theorem spec_l2Identity.mono_l:∀ k,(∀ y0 y1 y2,LeO (spec_l2Identity.l0 k y0 y1 y2) (spec_l2Identity.l0 (k+1) y0 y1 y2))
 | 0=>fun _ _ _ r h=>by simp [spec_l2Identity.l0] at h
 | k+1=>by
  have ih0:=spec_l2Identity.mono_l k
  intro y0 y1 y2
  unfold spec_l2Identity.l0
  exact mm
theorem spec_l2Identity.mono:∀ a0 k,LeO (spec_l2Identity.f k a0) (spec_l2Identity.f (k+1) a0):=by
 intro a0 k
 have ih0:=spec_l2Identity.mono_l k
 unfold spec_l2Identity.f
 exact mm
theorem spec_l2Identity.calls (k:Nat) (a0:Int) (r:List (List Int)) (w:World) (h:spec_l2Identity.f k a0=some r) :
  Calls Try.prog 176 #[.int .i64 a0] w fun e w'=>∃ v0_:Value,e = .returned (.agg #[v0_])∧Kd.S (Kd.slice 5 (Kd.int .u8)) 57 w' w.heap.size (fun _=>True) v0_ r∧Below w.heap.size w w':=by
 have hu43:=Try.underlying43
 have HB:=am (Below.refl w.heap.size w)
 have H:=h
 unfold spec_l2Identity.f at H
 clear h
 obtain ⟨t196,A2,H⟩:=yo H
 have H':=am H
 clear H
 go_enter Try.func176,Try.ntmps176
 go_wp2_with (first|((with_reducible refine gD 2 ?_);refine gB (cs:=#[.slice none 0 0]) 43 ?_;intro gb195 hg w3 hbox hb;have BK195:=am (hbox);have GW195:=ye HB hg;replace HB:=yH HB hb;have GE195:=GW195;clear hb hbox hg)|((with_reducible refine gC 172 ?_);refine gM (some 7) Try.func172 (args:=#[.int .i64 a0, .int .i64 a0]) (spec_l2Blank.calls k a0 a0 t196 _ A2.out) ?_;rintro e w4 ⟨v197,rfl,ho0,hb⟩;refine ⟨_,rfl,?_⟩;have HO198:=am (Kd.S_lower ho0 (pz (yW HB)));replace BK195:=yb BK195 hb;replace HB:=yH HB hb;clear hb ho0)|((with_reducible refine gD 3 ?_);refine gB (cs:=#[.slice none 0 0]) 43 ?_;intro gb199 hg w5 hbox hb;replace HO198:=bS HO198 hb;have BK199:=am (hbox);have GW199:=ye HB hg;replace HB:=yH HB hb;have NB195_199:=yl BK195 hg;have NB199_195:=yg BK195 hg;replace BK195:=yb BK195 hb;have GE199:=GW199;clear hb hbox hg;obtain ⟨Ao6,co6,eo6⟩:=Kd.S_slice HO198.out;subst eo6;have hnb7:=NB199_195.out;have hnc7:=NB195_199.out;obtain ⟨hcz8_0,hfz8_0⟩:=yk1 BK199))
 go_loopg [11] k (fun kq v11 w'=>∃ (x11_1:Int) (x200000_1:List (List Int)) (u200000:Value),v11 = .int .i64 x11_1∧Aside0 (spec_l2Identity.l0 kq (t196.length:Int) x11_1 x200000_1=some r)∧Aside0 (kq≤k)∧Aside0 (Kd.S (Kd.slice 5 (Kd.int .u8)) 57 w' w.heap.size (fun _=>True) u200000 x200000_1)∧Aside0 (w'.heap[gb195]? = some (.cells #[(.slice none 0 0)] 43 (0,0)))∧Aside0 (w'.heap[gb199]? = some (.cells #[u200000] 43 (0,0)))∧Aside0 (Below w.heap.size w w'))
 case atStart=>exact ⟨(0),(t196),(.slice Ao6 t196.length co6),D2,H',⟨Nat.le_refl _⟩,⟨by refine sS ?_;exact Kd.S_mono (Kd.S_far (p:=⟨gb199,0,none⟩) (Kd.S_types HO198.out BK199.out D4) (fun _ hk=>hk.2) (.slice Ao6 t196.length co6)) (fun _ hk=>trivial)⟩,⟨yF BK195⟩,⟨by refine sB ?_;refine blk_put (cs:=#[.slice none 0 0]) ?_ 0 _ rfl;exact yB BK199⟩,⟨yW HB⟩⟩
 case round =>
  clear H'
  try clear c1
  try clear p2
  try clear c7
  try clear hcz8_0
  try clear hfz8_0
  obtain ⟨x11_1,x200000_1,u200000,rfl,HA,HK1,HO_200000,BK195,BK199,HB⟩:=hrel
  cases gk with
  | zero=>exact absurd HA.out (by simp [spec_l2Identity.l0])
  | succ k1 =>
   have H:=HA.out
   clear HA
   simp only [spec_l2Identity.l0] at H
   by_cases c9:x11_1 < (t196.length:Int)
   ·rw [if_pos c9] at H
    have c9b0:=decide_eq_true c9
    clear c9
    obtain ⟨c10,H⟩:=yi H
    have c10b0:=decide_eq_true c10
    clear c10
    obtain ⟨c11,H⟩:=yi H
    have c11b0:=decide_eq_true c11
    clear c11
    obtain ⟨c12,H⟩:=yi H
    have c12b0:=decide_eq_true c12
    clear c12
    generalize hy201:((rd_L1 x200000_1 x11_1).set (x11_1:Int).toNat 1:List Int)=y201 at H
    have Ny201:=am hy201.symm
    clear hy201
    generalize hy203:(x200000_1.set (x11_1:Int).toNat y201:List (List Int))=y203 at H
    have Ny203:=am hy203.symm
    clear hy203
    have H':=am H
    clear H
    have hnb14:=NB199_195.out
    have hnc14:=NB195_199.out
    obtain ⟨hcz15_0,hfz15_0⟩:=yk1 BK199
    obtain ⟨Ao16,co16,eo16⟩:=Kd.S_slice HO_200000.out
    subst eo16
    have p200:0≤(x11_1:Int):=od D0
    have q200:x11_1 < (x200000_1.length:Int):=od D0
    obtain ⟨ad200,A200_0,c200_0,e200,hx200_0,hl200_0,hi200_0⟩:=at_L1 (Kd.S_reads' HO_200000.out).2.2 x11_1 p200 q200
    cases e200
    obtain ⟨ce200,hce200,hMe200,hcc200⟩:=Kd.S_get HO_200000.out [] x11_1 p200 (by first|exact q200|exact od D0|(have e_:=(Kd.S_reads' HO_200000.out).1;omega))
    obtain ⟨ve200_0,rfl,ge200_0⟩:=hMe200
    have hv200_0:=hcc200 0 _ rfl
    rw [Nat.add_zero,show ((Kd.slice 5 (Kd.int .u8))).sz=1 from rfl,Nat.mul_one] at hv200_0
    replace hv200_0:=Option.some.inj (hv200_0.symm.trans hx200_0)
    rw [hv200_0] at ge200_0
    have HL200_0:=am (show Kd.R (Kd.int .u8) 5 _ _ _ _ (rd_L1 x200000_1 x11_1) from ge200_0)
    clear hv200_0 ge200_0
    have HX200_0:=am hx200_0
    clear hcc200 hce200
    have HR200_0:=am hi200_0
    have HC200_0:=am hl200_0
    clear hi200_0 hl200_0
    replace p200:=eq_true p200
    replace q200:=eq_true q200
    have p13:0≤(x11_1:Int):=od D0
    have q13:(x11_1:Int) < (((rd_L1 x200000_1 x11_1).length:Int):Int):=od D0
    obtain ⟨go13,co13,eo13,gb13,gl13,cl13,HG13⟩:=Kd.R_form HL200_0.out D5
    (first|cases eo13|(injection eo13 with ea_ en_ ec_;(first|subst ea_|(injection ea_ with ea_;subst ea_));subst ec_;clear en_))
    have GB13:=am gb13
    have GG13:=am HG13
    clear gb13 gl13 HG13
    obtain ⟨hx13_0,hf13_0⟩:=Kd.R_celln 0 HL200_0.out (x11_1:Int) p13 q13
    replace p13:=eq_true p13
    replace q13:=eq_true q13
    have hq17:(x11_1:Int) < (x200000_1.length:Int):=(by have h_:(x11_1:Int) < ((x200000_1.length:Int):Int):=od D0;first|exact h_|(have e_:=(Kd.S_reads' HO_200000.out).1;omega)|simpa only [List.length_set,List.length_set] using h_)
    obtain ⟨oki17,ce17,hcl17,hM17,hcc17,hok17,hbk17⟩:=Kd.S_borrow HO_200000.out [] (x11_1:Int) (od D0) hq17
    obtain ⟨ve17_0,rfl,ge17_0⟩:=hM17
    have hv17:=hcc17 0 _ rfl
    rw [Nat.add_zero,show ((Kd.slice 5 (Kd.int .u8))).sz=1 from rfl,Nat.mul_one] at hv17
    replace hv17:=Option.some.inj (hv17.symm.trans HX200_0.out)
    subst hv17
    clear hcc17 hcl17
    replace ge17_0:=(show Kd.R (Kd.int .u8) 5 _ _ _ _ (rd_L1 x200000_1 x11_1) from ge17_0)
    have HP17:=Kd.R_putg ge17_0 (x11_1:Int) 1
    go_wp2_with (first|((with_reducible refine gate_store (t:=5) (p:=20) rfl ?_);refine store_event (t:=5) (p:=20) (v:=?vo_w18) (w1:=(wr.setCell ⟨go13,(x11_1:Int).toNat,none⟩ (.int .u8 1))) ?hg ?ho ?hn ?hr ?_;(case ho=>rfl);(case hg=>rfl);(case hn=>rfl);(case hr=>first|(go_simp;done)|(go_simp;rfl));intro w18 hw;have hg:wr.grownBy w18 (some go13):=(by rw [hw];exact HP17.2);have hz_:Kd.R (Kd.int .u8) 5 w18 w.heap.size oki17 (.slice (some ⟨go13,0,none⟩) (rd_L1 x200000_1 x11_1).length c200_0) y201:=(by rw [hw,Ny201.out];exact HP17.1);have hp_:Kd.S (Kd.slice 5 (Kd.int .u8)) 57 w18 w.heap.size (fun _=>True) (.slice (some ad200) x200000_1.length co16) y203:=(by rw [Ny203.out];exact hbk17 hg (fun k_ e_=>by injection e_ with e_;subst e_;exact ge17_0.1 _ rfl) (Kd.M_row hz_));have hm_:=Kd.R_mono hz_ hok17;clear HP17 hbk17;have n0_:=am (hp_);have n1_:=am (blk_grown (g:=gb195) (o:=.cells #[.slice none 0 0] 43 (0,0)) (yB BK195) hg (Kd.R_ne HL200_0.out BK195.out D4));have n2_:=am (blk_grown (g:=gb199) (o:=.cells #[.slice (some ad200) x200000_1.length co16] 43 (0,0)) (yB BK199) hg (Kd.R_ne HL200_0.out BK199.out D4));have n3_:=am ((by rw [hw];exact pt (HB.out) GB13.out:Below w.heap.size w w18));have n4_:=am (hm_);have n5_:=am ((Kd.R_reads' hm_).2.1);clear HO_200000 BK195 BK199 HB HL200_0;have HO_200000:=n0_;have BK195:=n1_;have BK199:=n2_;have HB:=n3_;have HL204:=n4_;have HC202:=n5_;clear n0_ n1_ n2_ n3_ n4_ n5_ hg hw hp_ hz_ hm_ hok17))
    go_roundg k1
    case measure=>have:=HK1.out;omega
    case rel=>exact ⟨(wrap64 (x11_1+1)),(y203),(.slice (some ad200) x200000_1.length co16),D2,H',⟨D17⟩,⟨yS HO_200000⟩,⟨yB BK195⟩,⟨yB BK199⟩,⟨yW HB⟩⟩
   rw [if_neg c9] at H
   have c9b0:=decide_eq_false c9
   clear c9
   obtain rfl:=Option.some.inj H
   have hnb19:=NB199_195.out
   have hnc19:=NB195_199.out
   obtain ⟨hcz20_0,hfz20_0⟩:=yk1 BK199
   obtain ⟨Ao21,co21,eo21⟩:=Kd.S_slice HO_200000.out
   subst eo21
   obtain ⟨hcz22_0,hfz22_0⟩:=yk1 BK195
   go_wp2
   refine bodyPost_ret (results_cell_row rfl _ _ gb195 43 #[.slice Ao21 x200000_1.length co21] (0,0) _ rfl (by refine sB ?_;refine blk_put (cs:=#[.slice none 0 0]) ?_ 0 _ rfl;exact yB BK195) Try.underlying43 rfl D3) rfl ?_
   exact ⟨_,D1,by refine sS ?_;exact Kd.S_mono (Kd.S_far (p:=⟨gb195,0,none⟩) (Kd.S_types HO_200000.out BK195.out D4) (fun _ hk=>hk.2) (.slice Ao21 x200000_1.length co21)) (fun _ hk=>trivial),yW HB⟩
end Go.Proofs.Ytajikfnpcobnpaa.PFnExactDecodeLocal
-- SQUEEZED
