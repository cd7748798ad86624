-- Laid by a program of this session.
import Derived.Test.YtajikfnpcobnpaaVMendStripeB
import Derived.Test.YtajikfnpcobnpaaPFnExactMendStripex0
import Derived.Test.YtajikfnpcobnpaaPFnExactMendStripex3
namespace Go.Proofs.Ytajikfnpcobnpaa.PFnExactMendStripe
open Go.RowKit Go.Proofs.YtajikfnpcobnpaaW.PrintWords Go.Proofs.YtajikfnpcobnpaaW.PrintLast Go.Proofs.YtajikfnpcobnpaaW.PrintMore Go.Proofs.Ytajikfnpcobnpaa.KitS
attribute [local go_sem] max2_int min2_int max_two min_two max_three min_three max_four min_four   -- for this text's walks alone
set_option linter.unusedVariables false
set_option maxHeartbeats 8000000
set_option maxRecDepth 100000
set_option linter.unusedSimpArgs false

mutual
def spec_l3Rows.l0:Nat→List ByteArray→List ByteArray→List (List Int)→Int→Int→Option (List ByteArray)
 | 0,_,_,_,_,_=>none
 | k+1,x1,x5,x13,x14,x15=>if x15 < x14 then (if 0≤x15 then (if x15 < (x13.length:Int) then (if 0 < (x1.length:Int) then (if 0≤((rdOf ByteArray.empty x1 0).size:Int) then (if (((rdOf ByteArray.empty x1 0).size:Int):Int).toNat≤281474976710656 then (spec_l3Rows.l1 k x1 x5 (List.replicate (((rdOf ByteArray.empty x1 0).size:Int):Int).toNat 0) x13 x14 x15 (rd_L3 x13 x15) ((rd_L3 x13 x15).length:Int) 0) else (none)) else (none)) else (none)) else (none)) else (none)) else (some x5)
def spec_l3Rows.l1:Nat→List ByteArray→List ByteArray→List Int→List (List Int)→Int→Int→List Int→Int→Int→Option (List ByteArray)
 | 0,_,_,_,_,_,_,_,_,_=>none
 | k+1,x1,x5,x8,x13,x14,x15,x24,x25,x26=>if x26 < x25 then (if 0≤x26 then (if x26 < (x24.length:Int) then (spec_l3Rows.l2 k x1 x5 x8 x26 (rd x24 x26) x13 x14 x15 x24 x25 x26 (x8.length:Int) 0) else (none)) else (none)) else (if x5.length < 8796093022208 then (spec_l3Rows.l0 k x1 (x5 ++ [strOfNums x8]) x13 x14 (wrap64 (x15+1))) else (none))
def spec_l3Rows.l2:Nat→List ByteArray→List ByteArray→List Int→Int→Int→List (List Int)→Int→Int→List Int→Int→Int→Int→Int→Option (List ByteArray)
 | 0,_,_,_,_,_,_,_,_,_,_,_,_,_=>none
 | k+1,x1,x5,x8,x9,x10,x13,x14,x15,x24,x25,x26,x32,x33=>if x33 < x32 then (if 0≤x33 then (if x33 < (x8.length:Int) then (if 0≤x9 then (if x9 < (x1.length:Int) then (if x33 < ((rdOf ByteArray.empty x1 x9).size:Int) then ((spec_l1Times.f k x10 (bt (rdOf ByteArray.empty x1 x9) x33)).bind fun t173=>(spec_l3Rows.l2 k x1 x5 (x8.set (x33:Int).toNat (Go.bits .xor .u8 (rd x8 x33) t173)) x9 x10 x13 x14 x15 x24 x25 x26 x32 (wrap64 (x33+1)))) else (none)) else (none)) else (none)) else (none)) else (none)) else (spec_l3Rows.l1 k x1 x5 x8 x13 x14 x15 x24 x25 (wrap64 (x26+1)))
end
def spec_l3Rows.f (k:Nat) (l0_0:List (List Int)) (l1:List ByteArray):Option (List ByteArray):=spec_l3Rows.l0 k l1 ([]:List ByteArray) l0_0 (l0_0.length:Int) 0
theorem spec_l3Rows.mono_l:∀ k,(∀ y0 y1 y2 y3 y4,LeO (spec_l3Rows.l0 k y0 y1 y2 y3 y4) (spec_l3Rows.l0 (k+1) y0 y1 y2 y3 y4))∧(∀ y0 y1 y2 y3 y4 y5 y6 y7 y8,LeO (spec_l3Rows.l1 k y0 y1 y2 y3 y4 y5 y6 y7 y8) (spec_l3Rows.l1 (k+1) y0 y1 y2 y3 y4 y5 y6 y7 y8))∧(∀ y0 y1 y2 y3 y4 y5 y6 y7 y8 y9 y10 y11 y12,LeO (spec_l3Rows.l2 k y0 y1 y2 y3 y4 y5 y6 y7 y8 y9 y10 y11 y12) (spec_l3Rows.l2 (k+1) y0 y1 y2 y3 y4 y5 y6 y7 y8 y9 y10 y11 y12))
 | 0=>⟨fun _ _ _ _ _ r h=>by simp [spec_l3Rows.l0] at h,fun _ _ _ _ _ _ _ _ _ r h=>by simp [spec_l3Rows.l1] at h,fun _ _ _ _ _ _ _ _ _ _ _ _ _ r h=>by simp [spec_l3Rows.l2] at h⟩
 | k+1=>by
  obtain ⟨ih0,ih1,ih2⟩:=spec_l3Rows.mono_l k
  refine ⟨?_,?_,?_⟩
  ·intro y0 y1 y2 y3 y4
   unfold spec_l3Rows.l0
   exact mm
  ·intro y0 y1 y2 y3 y4 y5 y6 y7 y8
   unfold spec_l3Rows.l1
   exact mm
  intro y0 y1 y2 y3 y4 y5 y6 y7 y8 y9 y10 y11 y12
  unfold spec_l3Rows.l2
  exact mm
theorem spec_l3Rows.mono:∀ a0 a1 k,LeO (spec_l3Rows.f k a0 a1) (spec_l3Rows.f (k+1) a0 a1):=by
 intro a0 a1 k
 obtain ⟨ih0,ih1,ih2⟩:=spec_l3Rows.mono_l k
 unfold spec_l3Rows.f
 exact mm
def spec_l3Rows.T12:Bool × List (List Nat × List Nat):=(true,[([],[]),([],[]),([0,1],[0,1]),([2],[2]),([],[]),([],[]),([],[]),([5,6],[5,6]),([7],[7]),([],[]),([8,9],[8,9]),([4,10],[4,10]),([3,11],[3,11]),([0,1,0,1,2,3,4,5,6,7,8,9,10,11,12],[0,1]),([13,12,11,0,1,2,3,4,5,6,7,8,9,10,11,12],[12,13])])
def spec_l3Rows.B12:List Nat:=[0,0,3,7,0,0,0,96,224,0,992,2032,4095,8191,16383]
theorem spec_l3Rows.tab12:rtab .any (opsOf Try.f89 12)=spec_l3Rows.T12:=by kernel_rfl
theorem spec_l3Rows.bits12:waitsOk spec_l3Rows.T12.2 spec_l3Rows.B12=true:=by kernel_rfl
theorem spec_l3Rows.calls (k:Nat) (A0_0:Option Addr) (c0_0:Nat) (l0_0:List (List Int)) (A1:Option Addr) (c1:Nat) (l1:List ByteArray) (r:List ByteArray) (w:World) (hr0_0:Kd.C (Kd.slice 5 (Kd.int .u8)) w A0_0 l0_0.length l0_0) (hc0_0:l0_0.length≤c0_0) (hr1:Kd.C Kd.string w A1 l1.length l1) (hc1:l1.length≤c1) (h:spec_l3Rows.f k l0_0 l1=some r) :
  Calls Try.prog 89 #[.agg #[.slice A0_0 l0_0.length c0_0], .slice A1 l1.length c1] w fun e w'=>∃ v0_:Value,e = .returned (v0_)∧Kd.R Kd.string 9 w' w.heap.size (fun _=>True) v0_ r∧Below w.heap.size w w':=by
 have hu43:=Try.underlying43
 have HR0_0:=am hr0_0
 have HC0_0:=am hc0_0
 clear hr0_0 hc0_0
 have HR1:=am hr1
 have HC1:=am hc1
 clear hr1 hc1
 have HB:=am (Below.refl w.heap.size w)
 have H:=h
 unfold spec_l3Rows.f at H
 clear h
 have H':=am H
 clear H
 go_enter Try.func89,Try.ntmps89
 go_wp2_with (first|(refine gD 2 ?_;refine gB (cs:=#[.slice A0_0 l0_0.length c0_0]) 43 ?_;intro gb161 hg w3 hbox hb;have BK161:=am (hbox);have GW161:=ye HB hg;replace HB:=yH HB hb;have GE161:=GW161;clear hb hbox hg;obtain ⟨hcz4_0,hfz4_0⟩:=yk1 BK161))
 go_loopg [5,15] k (fun kq v5 v15 w'=>∃ (x5_1:List ByteArray) (x15_1:Int),v15 = .int .i64 x15_1∧Aside0 (spec_l3Rows.l0 kq l1 x5_1 l0_0 (l0_0.length:Int) x15_1=some r)∧Aside0 (kq≤k)∧Aside0 (Kd.R Kd.string 9 w' w.heap.size (fun _=>True) v5 x5_1)∧Aside0 (w'.heap[gb161]? = some (.cells #[(.slice A0_0 l0_0.length c0_0)] 43 (0,0)))∧Aside0 (Below w.heap.size w w'))
 case atStart=>exact ⟨(([]:List ByteArray)),(0),D1,H',⟨Nat.le_refl _⟩,⟨D9⟩,⟨yB BK161⟩,⟨yW HB⟩⟩
 case round =>
  clear H'
  try clear c1
  try clear p2
  try clear hcz4_0
  try clear hfz4_0
  obtain ⟨x5_1,x15_1,rfl,HA,HK1,HO_5,BK161,HB⟩:=hrel
  cases gk with
  | zero=>exact absurd HA.out (by simp [spec_l3Rows.l0])
  | succ k1 =>
   have H:=HA.out
   clear HA
   simp only [spec_l3Rows.l0] at H
   by_cases c5:x15_1 < (l0_0.length:Int)
   ·rw [if_pos c5] at H
    have c5b0:=decide_eq_true c5
    clear c5
    obtain ⟨c6,H⟩:=yi H
    have c6b0:=decide_eq_true c6
    clear c6
    obtain ⟨c7,H⟩:=yi H
    have c7b0:=decide_eq_true c7
    clear c7
    obtain ⟨c8,H⟩:=yi H
    have c8b0:=decide_eq_true c8
    have c8b1:decide (0 < l1.length)=true:=decide_eq_true D8
    clear c8
    obtain ⟨c9,H⟩:=yi H
    have c9b0:=eq_true c9
    have c9b1:decide (0≤((rdOf ByteArray.empty l1 0).size:Int))=true:=decide_eq_true c9
    clear c9
    obtain ⟨c10,H⟩:=yi H
    have c10b0:=eq_true c10
    have c10b1:decide ((((rdOf ByteArray.empty l1 0).size:Int):Int).toNat≤281474976710656)=true:=decide_eq_true c10
    clear c10
    generalize hy164:(List.replicate (((rdOf ByteArray.empty l1 0).size:Int):Int).toNat 0:List Int)=y164 at H
    have Ny164:=am hy164.symm
    clear hy164
    have H':=am H
    clear H
    have p162:0≤(x15_1:Int):=od D0
    have q162:x15_1 < (l0_0.length:Int):=od D0
    obtain ⟨ad162,A162_0,c162_0,e162,hx162_0,hl162_0,hi162_0⟩:=at_L3 HR0_0.out x15_1 p162 q162
    cases e162
    replace hx162_0:=(HB.out.cell (World.block_lt_of_cell? w _ hx162_0)).trans hx162_0
    have HR162_0:=am hi162_0
    have HC162_0:=am hl162_0
    clear hi162_0 hl162_0
    replace p162:=eq_true p162
    replace q162:=eq_true q162
    have p163:0≤(0:Int):=D8
    have q163:0 < (l1.length:Int):=od D0
    obtain ⟨ad163,e163,hx163_0⟩:=Kd.at_string HR1.out 0 p163 q163
    cases e163
    have qi163:(0 < l1.length)=True:=eq_true D8
    (try rw [show ((0:Int)).toNat=0 from rfl] at hx163_0)
    (try rw [Addr.add_zero'] at hx163_0)
    replace hx163_0:=(HB.out.cell (World.block_lt_of_cell? w _ hx163_0)).trans hx163_0
    replace p163:=eq_true p163
    replace q163:=eq_true q163
    go_wp2_with (first|(refine gD 23 ?_;refine Kd.R_make (Kd.int .u8) _ 5 rfl (N:=23) rfl 57 _ _ rfl ((rdOf ByteArray.empty l1 0).size:Int) rfl rfl Try.underlying57 (.int .u8 0) 1 info5 rfl D6 D8 0 (ok:=fun _=>True) (okp:=fun _=>True) rfl (fun _ hk=>hk) trivial (od D0) (Nat.le_trans (Nat.mul_le_mul_right _ (od D0:((rdOf ByteArray.empty l1 0).size:Int).toNat≤281474976710656)) D8) (Below.refl _ _) (Nat.le_refl _) ?_;intro v165 w11 ho12 hb hg_ hnew_;clear hg_ hnew_;(first|rw [← Ny164.out] at ho12|(simp only [Int.reduceToNat] at ho12;rw [← Ny164.out] at ho12));replace HO_5:=bR HO_5 hb;have HO166:=am (Kd.R_lower ho12 (pz (yW HB)));replace BK161:=yb BK161 hb;replace HB:=yH HB hb;clear hb ho12))
    go_loopg [26] k1 (fun kq v26 w'=>∃ (x8_2:List Int) (x26_2:Int),v26 = .int .i64 x26_2∧Aside0 (spec_l3Rows.l1 kq l1 x5_1 x8_2 l0_0 (l0_0.length:Int) x15_1 (rd_L3 l0_0 x15_1) ((rd_L3 l0_0 x15_1).length:Int) x26_2=some r)∧Aside0 (kq≤k1)∧Aside0 (Kd.R Kd.string 9 w' w.heap.size (fun _=>True) u5 x5_1)∧Aside0 (Kd.R (Kd.int .u8) 5 w' w.heap.size (fun _=>True) v165 x8_2)∧Aside0 (w'.heap[gb161]? = some (.cells #[(.slice (some ad162) l0_0.length c0_0)] 43 (0,0)))∧Aside0 (Below w.heap.size w w'))
    case atStart=>exact ⟨(y164),(0),D1,H',⟨Nat.le_refl _⟩,⟨yR HO_5⟩,⟨yR HO166⟩,⟨yB BK161⟩,⟨yW HB⟩⟩
    case round =>
     clear H'
     try clear c1
     try clear p1
     try clear q1
     try clear hx1
     try clear qi1
     try clear p2
     try clear c5
     try clear c5b0
     try clear c6
     try clear c6b0
     try clear c7
     try clear c7b0
     try clear c8
     try clear c8b0
     try clear c8b1
     try clear c9
     try clear c9b0
     try clear c9b1
     try clear c10
     try clear c10b0
     try clear c10b1
     try clear hcz4_0
     try clear hfz4_0
     try clear hx162_0
     try clear hx163_0
     try clear p162
     try clear p163
     try clear p2
     try clear q162
     try clear q163
     obtain ⟨x8_2,x26_2,rfl,HA,HK2,HO_5,HO_8,BK161,HB⟩:=hrel
     cases gk with
     | zero=>exact absurd HA.out (by simp [spec_l3Rows.l1])
     | succ k2 =>
      have H:=HA.out
      clear HA
      simp only [spec_l3Rows.l1] at H
      by_cases c13:x26_2 < ((rd_L3 l0_0 x15_1).length:Int)
      ·rw [if_pos c13] at H
       have c13b0:=decide_eq_true c13
       clear c13
       obtain ⟨c14,H⟩:=yi H
       have c14b0:=decide_eq_true c14
       clear c14
       obtain ⟨c15,H⟩:=yi H
       have c15b0:=decide_eq_true c15
       clear c15
       have H':=am H
       clear H
       have p170:0≤(x26_2:Int):=od D0
       have q170:x26_2 < ((rd_L3 l0_0 x15_1).length:Int):=od D0
       obtain ⟨ad170,e170,hx170_0⟩:=Kd.at_int HR162_0.out x26_2 p170 q170
       cases e170
       replace hx170_0:=(HB.out.cell (World.block_lt_of_cell? w _ hx170_0)).trans hx170_0
       replace p170:=eq_true p170
       replace q170:=eq_true q170
       obtain ⟨Ao16,co16,eo16⟩:=Kd.R_slice HO_8.out
       subst eo16
       go_wp2
       go_loopg [33] k2 (fun kq v33 w'=>∃ (x8_3:List Int) (x33_3:Int),v33 = .int .i64 x33_3∧Aside0 (spec_l3Rows.l2 kq l1 x5_1 x8_3 x26_2 (rd (rd_L3 l0_0 x15_1) x26_2) l0_0 (l0_0.length:Int) x15_1 (rd_L3 l0_0 x15_1) ((rd_L3 l0_0 x15_1).length:Int) x26_2 (x8_2.length:Int) x33_3=some r)∧Aside0 (kq≤k2)∧Aside0 (Kd.R Kd.string 9 w' w.heap.size (fun _=>True) u5 x5_1)∧Aside0 (Kd.R (Kd.int .u8) 5 w' w.heap.size (fun _=>True) (.slice Ao16 x8_2.length co16) x8_3)∧Aside0 (w'.heap[gb161]? = some (.cells #[(.slice (some ad162) l0_0.length c0_0)] 43 (0,0)))∧Aside0 (Below w.heap.size w w'))
       case atStart=>exact ⟨(x8_2),(0),D1,H',⟨Nat.le_refl _⟩,⟨yR HO_5⟩,⟨yR HO_8⟩,⟨yB BK161⟩,⟨yW HB⟩⟩
       case round =>
        clear H'
        try clear c1
        try clear p1
        try clear q1
        try clear hx1
        try clear qi1
        try clear p2
        try clear c5
        try clear c5b0
        try clear c6
        try clear c6b0
        try clear c7
        try clear c7b0
        try clear c8
        try clear c8b0
        try clear c8b1
        try clear c9
        try clear c9b0
        try clear c9b1
        try clear c10
        try clear c10b0
        try clear c10b1
        try clear c13
        try clear c13b0
        try clear c14
        try clear c14b0
        try clear c15
        try clear c15b0
        try clear c16
        try clear p16
        try clear q16
        try clear hx16
        try clear qi16
        try clear hcz4_0
        try clear hfz4_0
        try clear hx162_0
        try clear hx163_0
        try clear hx170_0
        try clear p1
        try clear p162
        try clear p163
        try clear p170
        try clear p2
        try clear q1
        try clear q162
        try clear q163
        try clear q170
        obtain ⟨x8_3,x33_3,rfl,HA,HK3,HO_5,HO_8,BK161,HB⟩:=hrel
        have hl8_3:=(Kd.R_reads' HO_8.out).1
        rw [hl8_3] at HO_8
        (try simp only [hl8_3])
        (try simp only [hl8_3] at BK161)
        (try simp only [hl8_3] at HO_5)
        cases gk with
        | zero=>exact absurd HA.out (by simp [spec_l3Rows.l2])
        | succ k3 =>
         have H:=HA.out
         clear HA
         simp only [spec_l3Rows.l2] at H
         by_cases c17:x33_3 < (x8_2.length:Int)
         ·rw [if_pos c17] at H
          have c17b0:=decide_eq_true c17
          clear c17
          obtain ⟨c18,H⟩:=yi H
          have c18b0:=decide_eq_true c18
          clear c18
          obtain ⟨c19,H⟩:=yi H
          have c19b0:=decide_eq_true c19
          clear c19
          obtain ⟨c20,H⟩:=yi H
          have c20b0:=decide_eq_true c20
          clear c20
          obtain ⟨c21,H⟩:=yi H
          have c21b0:=decide_eq_true c21
          clear c21
          obtain ⟨c22,H⟩:=yi H
          have c22b0:=decide_eq_true c22
          clear c22
          obtain ⟨t173,A24,H⟩:=yo H
          generalize hy174:(x8_3.set (x33_3:Int).toNat (Go.bits .xor .u8 (rd x8_3 x33_3) t173):List Int)=y174 at H
          have Ny174:=am hy174.symm
          clear hy174
          have H':=am H
          clear H
          try go_wp2
          replace HO_5:=am (Kd.R_drew HO_5.out)
          replace HO_8:=am (Kd.R_drew HO_8.out)
          replace BK161:=am (qd BK161.out)
          replace HB:=am (pd HB.out)
          have p171:0≤(x33_3:Int):=od D0
          have q171:x33_3 < (x8_3.length:Int):=od D0
          obtain ⟨ad171,e171,hx171_0⟩:=Kd.at_int (Kd.R_reads' HO_8.out).2.2 x33_3 p171 q171
          cases e171
          replace p171:=eq_true p171
          replace q171:=eq_true q171
          have p172:0≤(x26_2:Int):=od D0
          have q172:x26_2 < (l1.length:Int):=od D0
          obtain ⟨ad172,e172,hx172_0⟩:=Kd.at_string HR1.out x26_2 p172 q172
          have hw172_0:=hx172_0
          obtain rfl:ad163=ad172:=(by injection e172)
          replace hx172_0:=(HB.out.cell (World.block_lt_of_cell? w _ hx172_0)).trans hx172_0
          replace p172:=eq_true p172
          replace q172:=eq_true q172
          have p23:0≤(x33_3:Int):=od D0
          have q23:x33_3 < ((rdOf ByteArray.empty l1 x26_2).size:Int):=od D0
          have hx23:=bt_at (rdOf ByteArray.empty l1 x26_2) x33_3
          replace p23:=eq_true p23
          replace q23:=eq_true q23
          refine rS (n:=15) (S:=fun w'=>w'.cell? (ad171.add (x33_3).toNat)=some (.int .u8 (rd x8_3 x33_3))∧w'.cell? (ad163.add (x26_2).toNat)=some (.string (rdOf ByteArray.empty l1 x26_2))) (ds:=[14]) [(0,36),(1,37),(2,38),(4,40),(5,41),(6,42),(7,43),(9,45),(3,39),(8,44),(10,46),(11,0),(12,48),(13,49),(14,0)] D2 rfl spec_l3Rows.tab12 spec_l3Rows.bits12 ⟨hx171_0,((HB.out.cell (World.block_lt_of_cell? w _ hw172_0)).trans hw172_0)⟩ (fun hHeld HT_ HW_=>?_)
          generalize wr.drew=w26 at HO_5 HO_8 BK161 HB hx171_0 hx172_0 hHeld ⊢
          refine rR ?_
          refine rO (N:=some 47) HT_ rfl rfl D2 D6 (fun K hK=>?_)
          refine goes_ Try.func174 D2 rfl #[.int .u8 (rd (rd_L3 l0_0 x15_1) x26_2), .int .u8 (bt (rdOf ByteArray.empty l1 x26_2) x33_3)] D10 rfl rfl D4 ?_
          with_reducible refine (spec_l1Times.calls k3 (rd (rd_L3 l0_0 x15_1) x26_2) (bt (rdOf ByteArray.empty l1 x26_2) x33_3) t173 _ A24.out).mono ?_
          rintro e w' ⟨rfl,⟨nd,rfl⟩⟩
          refine ⟨_,rfl,?_⟩
          have p25:0≤(x33_3:Int):=od D0
          have q25:(x33_3:Int) < ((x8_3.length:Int):Int):=od D0
          obtain ⟨go25,co25,eo25,gb25,gl25,cl25,HG25⟩:=Kd.R_form HO_8.out D8
          (first|cases eo25|(injection eo25 with ea_ en_ ec_;(first|subst ea_|(injection ea_ with ea_;subst ea_));subst ec_;clear en_))
          have GB25:=am gb25
          have GG25:=am HG25
          clear gb25 gl25 HG25
          (first|simp only [add_plain] at hx171_0|skip)
          obtain ⟨hx25_0,hf25_0⟩:=Kd.R_celln 0 HO_8.out (x33_3:Int) p25 q25
          replace p25:=eq_true p25
          replace q25:=eq_true q25
          have HP27:=Kd.R_putn HO_8.out (x33_3:Int) (Go.bits .xor .u8 (rd x8_3 x33_3) t173)
          rw [← Ny174.out] at HP27
          have HQ27:=am HP27
          clear HP27
          refine hK.out _ _ ⟨hHeld.1,((HB.out.cell (World.block_lt_of_cell? w _ hw172_0)).trans hw172_0)⟩ (fun hHeld=>?_)
          clear hK K
          refine rN (a':=?_) ?_ ?_
          rotate_left
          ·show Act.put _ (some 47) _=_
           simp only [Act.put,q1,q2,q3,i64_w,i32_w]
           rfl
          refine rR ?_
          refine rL (N:=none) HT_ rfl rfl D2 D6 (fun K hK=>?_)
          refine skip_ (w1:=?_) D10 rfl ?_ ?_
          rotate_left
          ·go_simp
           rfl
          refine hK.out _ _ ?_
          clear hK K
          refine rD HT_ D2 ?_
          try go_wp2
          (try simp only [← hl8_3])
          go_roundg k3
          case measure=>have:=HK1.out;have:=HK2.out;have:=HK3.out;omega
          case rel=>exact ⟨(y174),(wrap64 (x33_3+1)),D1,H',⟨by have:=HK1.out;have:=HK2.out;have:=HK3.out;omega⟩,⟨by (try simp only [hl8_3]);refine sR ?_;exact Kd.R_mono (Kd.R_far (p:=⟨go25,(x33_3:Int).toNat,none⟩) (Kd.R_types HO_5.out GG25.out D6) (fun _ hk=>hk.2) (.int .u8 (Go.bits .xor .u8 (rd x8_3 x33_3) t173))) (fun _ hk=>trivial)⟩,⟨by (try simp only [hl8_3]);refine sR ?_;exact HQ27.out⟩,⟨by (try simp only [hl8_3]);refine sB ?_;refine blk_far ?_ (by have h_:=Kd.R_ne HO_8.out BK161.out D6;intro e_;exact h_ D45) _;exact yB BK161⟩,⟨by repeat (first|(with_reducible first|exact HB.out|apply pa|apply pb|apply pd|refine pt ?_ GB25.out|refine pt ?_ GE161.out)|exact HB.out)⟩⟩
         rw [if_neg c17] at H
         have c17b0:=decide_eq_false c17
         (try simp only [hl8_3] at c17b0)
         clear c17
         have H':=am H
         clear H
         go_wp2
         (try simp only [← hl8_3])
         go_roundg k3
         case measure=>have:=HK1.out;have:=HK2.out;have:=HK3.out;omega
         case rel=>exact ⟨(x8_3),(wrap64 (x26_2+1)),D1,H',⟨by have:=HK1.out;have:=HK2.out;have:=HK3.out;omega⟩,⟨by (try simp only [hl8_3]);refine sR ?_;exact HO_5.out⟩,⟨by (try simp only [hl8_3]);refine sR ?_;exact HO_8.out⟩,⟨by (try simp only [hl8_3]);exact yB BK161⟩,⟨yW HB⟩⟩
      rw [if_neg c13] at H
      have c13b0:=decide_eq_false c13
      clear c13
      obtain ⟨c28,H⟩:=yi H
      have LMc28:=am c28
      clear c28
      generalize hy167:(x5_1 ++ [strOfNums x8_2]:List ByteArray)=y167 at H
      have Ny167:=am hy167.symm
      clear hy167
      have H':=am H
      clear H
      have hcv29:=own_string (P:=Try.prog) Try.underlying57 Try.underlying5 Try.underlying9 (Kd.own_of_R HO_8.out)
      go_wp2_with (first|((with_reducible refine gate_builtin (b:=.append) (xs:=#[.tmp 52, .tmp 55]) rfl ?_);at_builtin;refine Kd.R_append Kd.string (w0:=w) w.heap.size rfl (.tmp 52) (.tmp 55) 22 9 (.string ⟨#[]⟩) 16 rfl Try.underlying22 info9 rfl D6 D8 u5 x5_1 (strOfNums x8_2) [.string (strOfNums x8_2)] (fun _=>True) (fun _=>False) rfl rfl D65 (fun _ hk=>hk.elim) D20 (by exact (yR HO_5)) D50 D25 (by have:=LMc28.out;omega) ?_;intro v168 w30 ho hb hg hat;rw [← Ny167.out] at ho;have n0_:=am (Kd.R_over' (yR HO_8) (Kd.R_typed (yR HO_5)) D6 hg);have n1_:=am (blk_grown (g:=gb161) (o:=.cells #[.slice (some ad162) l0_0.length c0_0] 43 (0,0)) (yB BK161) hg (Kd.R_ne HO_5.out BK161.out D6));have n2_:=am (hb);have n3_:=am (ho);clear HO_8 BK161 HB HO_5;have HO_8:=n0_;have BK161:=n1_;have HB:=n2_;have HO169:=n3_;clear n0_ n1_ n2_ n3_ ho hb hg hat))
      go_roundg k2
      case measure=>have:=HK1.out;have:=HK2.out;omega
      case rel=>exact ⟨(y167),(wrap64 (x15_1+1)),D1,H',⟨D39⟩,⟨yR HO169⟩,⟨yB BK161⟩,⟨yW HB⟩⟩
   rw [if_neg c5] at H
   have c5b0:=decide_eq_false c5
   clear c5
   obtain rfl:=Option.some.inj H
   go_wp2
   go_ret
   exact ⟨_,D3,yR HO_5,yW HB⟩

section
open Go.Proofs.Ytajikfnpcobnpaa.KitW
def spec_l6Plus.l (k:Nat) (a0:ByteArray) (a1:Int) (a2:ByteArray):Nat→Option (List Int)
 | 0=>some []
 | n+1=>(spec_l6Plus.l k a0 a1 a2 n).bind fun xs=>(spec_l1Times.f k a1 (bt a2 (n:Int))).bind fun t=>some (xs ++ [bits .xor .u8 (bt a0 (n:Int)) t])
def spec_l6Plus.f (k:Nat) (a0:ByteArray) (a1:Int) (a2:ByteArray):Option ByteArray:=if a0.size≤140737488355328∧a0.size≤a2.size then (spec_l6Plus.l k a0 a1 a2 a0.size).bind fun t=>some (strOfNums t) else none
theorem spec_l6Plus.mono_l (a0:ByteArray) (a1:Int) (a2:ByteArray) (k:Nat):∀ n,LeO (spec_l6Plus.l k a0 a1 a2 n) (spec_l6Plus.l (k+1) a0 a1 a2 n)
 | 0=>LeO.refl _
 | n+1=>LeO.bind (spec_l6Plus.mono_l a0 a1 a2 k n) (fun _=>LeO.bind (spec_l1Times.mono _ _ _) (fun _=>LeO.refl _))
theorem spec_l6Plus.mono:∀ a0 a1 a2 k,LeO (spec_l6Plus.f k a0 a1 a2) (spec_l6Plus.f (k+1) a0 a1 a2):=by
 intro a0 a1 a2 k
 unfold spec_l6Plus.f
 exact LeO.ite (LeO.bind (spec_l6Plus.mono_l _ _ _ _ _) (fun _=>LeO.refl _)) (LeO.refl _)
theorem spec_l6Plus.len {k:Nat} {a0:ByteArray} {a1:Int} {a2:ByteArray}:∀ {n:Nat} {xs:List Int},spec_l6Plus.l k a0 a1 a2 n=some xs→xs.length=n
 | 0,xs,h=>by obtain rfl:=Option.some.inj h;rfl
 | n+1,xs,h=>by
  obtain ⟨ys,h1,h⟩:=Option.bind_eq_some_iff.mp h
  obtain ⟨t,h2,h⟩:=Option.bind_eq_some_iff.mp h
  obtain rfl:=Option.some.inj h
  have:=spec_l6Plus.len h1
  simp [this]
/-- What the row holds in round i. -/
def l6cell (a0:ByteArray) (xs:List Int) (j:Nat):Int:=if j < xs.length then xs.getD j 0 else bt a0 (j:Int)
def L6 (k:Nat) (a0:ByteArray) (a1:Int) (a2:ByteArray) (w:World) (i:Nat) (xs:List Int) (wr:World):Prop :=
 spec_l6Plus.l k a0 a1 a2 i=some xs∧Below w.heap.size w wr∧w.heap.size < wr.heap.size∧(∀ j,j < a0.size→wr.cell? ⟨w.heap.size,j,none⟩=some (.int .u8 (l6cell a0 xs j))∧wr.frozen? ⟨w.heap.size,j,none⟩=false)
theorem L6_start (k:Nat) (a0:ByteArray) (a1:Int) (a2:ByteArray) (w:World):L6 k a0 a1 a2 w 0 [] (Lib.bytesWorld w 5 a0):=by
 refine ⟨rfl,bytes_below (Below.refl _ _) (Nat.le_refl _) _ _,by rw [Lib.bytesWorld_size];omega,fun j hj=>⟨?_,?_⟩⟩
 ·rw [Lib.bytesWorld_cell w 5 a0 j hj]
  simp only [l6cell,List.length_nil,Nat.not_lt_zero,if_false]
  rw [← bt_at a0 (j:Int) (by simpa using hj)]
  have hj':j < a0.data.toList.length:=by rw [data_length];exact hj
  simp only [List.getD_eq_getElem?_getD,List.getElem?_eq_getElem hj']
  simp only [Option.getD_some,Int.toNat_natCast]
  rfl
 have hz:a0.size≤(Lib.bytesCells w 5 a0).size:=by
  unfold Lib.bytesCells
  rw [Array.size_append,Array.size_map]
  exact Nat.le_add_right _ _
 simp only [World.frozen?,Lib.bytesWorld_at_new]
 rw [show decide ((Lib.bytesCells w 5 a0).size≤j)=false from decide_eq_false D8,Bool.false_and]
theorem L6_drewN {k:Nat} {a0:ByteArray} {a1:Int} {a2:ByteArray} {w wr:World} {i:Nat} {xs:List Int} (h:L6 k a0 a1 a2 w i xs wr) (n:Nat):L6 k a0 a1 a2 w i xs (wr.drewN n) :=
 ⟨h.1,pb h.2.1 n,h.2.2.1,h.2.2.2⟩
theorem L6_drew {k:Nat} {a0:ByteArray} {a1:Int} {a2:ByteArray} {w wr:World} {i:Nat} {xs:List Int} (h:L6 k a0 a1 a2 w i xs wr):L6 k a0 a1 a2 w i xs wr.drew :=
 ⟨h.1,pd h.2.1,h.2.2.1,h.2.2.2⟩
theorem L6_step {k:Nat} {a0:ByteArray} {a1:Int} {a2:ByteArray} {w wr:World} {i:Nat} {xs:List Int} {t:Int} (h:L6 k a0 a1 a2 w i xs wr) (hi:i < a0.size) (ht:spec_l1Times.f k a1 (bt a2 (i:Int))=some t) :
  L6 k a0 a1 a2 w (i+1) (xs ++ [bits .xor .u8 (bt a0 (i:Int)) t]) (wr.setCell ⟨w.heap.size,i,none⟩ (.int .u8 (bits .xor .u8 (bt a0 (i:Int)) t))):=by
 obtain ⟨h1,h2,h3,h4⟩:=h
 have hl:=spec_l6Plus.len h1
 refine ⟨?_,pt h2 (Nat.le_refl _),by simpa using h3,fun j hj=>⟨?_,?_⟩⟩
 ·show (spec_l6Plus.l k a0 a1 a2 i).bind _=_
  rw [h1];simp only [Option.bind_some];rw [ht];rfl
 ·by_cases e:j=i
  ·subst e
   rw [World.cell?_setCell_same _ _ _ (h4 j hj).1]
   unfold l6cell
   rw [if_pos (by simp [hl])]
   simp [List.getD_eq_getElem?_getD,hl]
  rw [World.cell?_setCell_other _ _ _ _ (by intro e2;injection e2 with _ e2 _;exact e e2.symm),(h4 j hj).1]
  unfold l6cell
  by_cases c:j < i
  ·rw [if_pos D8,if_pos (by simp;omega),List.getD_eq_getElem?_getD,List.getD_eq_getElem?_getD,List.getElem?_append_left D8]
  rw [if_neg D8,if_neg (by simp;omega)]
 rw [World.frozen?_setCell]
 exact (h4 j hj).2
theorem l6at {k:Nat} {a0:ByteArray} {a1:Int} {a2:ByteArray}:∀ {n:Nat} {xs:List Int},spec_l6Plus.l k a0 a1 a2 n=some xs→∀ i,i < n→∃ t,spec_l1Times.f k a1 (bt a2 (i:Int))=some t
 | 0,xs,_,i,hi=>absurd hi (Nat.not_lt_zero _)
 | n+1,xs,h,i,hi=>by
  obtain ⟨ys,h1,h⟩:=Option.bind_eq_some_iff.mp h
  obtain ⟨t,h2,h⟩:=Option.bind_eq_some_iff.mp h
  by_cases e:i=n
  ·exact e ▸ ⟨t,h2⟩
  exact l6at h1 i D8
set_option maxHeartbeats 4000000 in
theorem spec_l6Plus.calls (k:Nat) (a0:ByteArray) (a1:Int) (a2:ByteArray) (r:ByteArray) (w:World) (h:spec_l6Plus.f k a0 a1 a2=some r) :
  Calls Try.prog 90 #[.string a0, .int .u8 a1, .string a2] w fun e w'=>e = .returned (.string r)∧Below w.heap.size w w':=by
 unfold spec_l6Plus.f at h
 by_cases hs:a0.size≤140737488355328∧a0.size≤a2.size
 ·rw [if_pos hs] at h
  replace h:=Option.bind_eq_some_iff.mp h
  obtain ⟨x,hx,h⟩:=h
  obtain rfl:=Option.some.inj h
  clear h
  have HX:=am hx
  have HS:=am hs
  clear hx hs
  have kb0:=fun W=>print_bytes (P:=Try.prog) 9 57 5 Try.underlying9 Try.underlying57 Try.underlying5 a0 W
  go_enter Try.func90,Try.ntmps90
  go_wp2
  have HL:=am (L6_start k a0 a1 a2 w)
  clear kb0
  have hcap:=am (bytes_cap w a0.size 5)
  generalize Lib.bytesWorld w 5 a0=W0 at HL ⊢
  generalize grownCap w a0.size 0 5=cap at hcap ⊢
  go_loopw [8,13] (fun _ v13 wr=>∃ i:Nat,i≤a0.size∧v13 = .int .i64 i∧Aside0 (∃ xs,L6 k a0 a1 a2 w i xs wr)) (fun _ v13 _=>a0.size - (intOf v13).toNat)
  case atStart=>exact ⟨0,Nat.zero_le _,rfl,⟨⟨_,HL.out⟩⟩⟩
  case round =>
   obtain ⟨i,hi,rfl,HR⟩:=hrel
   obtain ⟨xs,hR⟩:=HR.out
   clear HR
   by_cases hlt:i < a0.size
   ·obtain ⟨t,ht⟩:=l6at HX.out i hlt
    have hc:=(hR.2.2.2 i hlt).1
    have hf:=(hR.2.2.2 i hlt).2
    have hl:=spec_l6Plus.len hR.1
    rw [show l6cell a0 xs i=bt a0 (i:Int) by unfold l6cell;rw [if_neg D8]] at hc
    have HR:=am hR
    have HT:=am ht
    clear hR ht hl
    have hz1:(0:Int)≤(i:Int):=by omega
    have hz2:(i:Int) < (a0.size:Int):=by omega
    have hz3:(i:Int) < (a2.size:Int):=by have:=HS.out.2;omega
    have hz4:i < a2.size:=by have:=HS.out.2;omega
    have hbt:∀ h:i < a2.size,((a2[i]'h).toNat:Int)=bt a2 (i:Int):=fun h=>bt_at a2 (i:Int) h
    have hz5:(i:Int)≤140737488355328:=by have:=HS.out.1;omega
    go_wp2
    refine start_ (n:=12) (S:=fun w'=>w'.cell? ⟨w.heap.size,i,none⟩=some (.int .u8 (bt a0 (i:Int)))) (ds:=[11]) #[Z,Z,Z,Z,Z,Z,Z,Z,Z,Z,Z,Z] D2 rfl rfl hc (fun hHeld=>?_)
    generalize hq:wr.drew=wd at hHeld ⊢
    replace HR:Aside0 (L6 k a0 a1 a2 w i xs wd):=⟨by rw [← hq];exact L6_drew HR.out⟩
    clear hq hc hf
    refine pure_ (i:=0) (N:=some 16) (v:=?_) (a':=?_) #[Y,Z,Z,Z,Z,Z,Z,Z,Z,Z,Z,Z] rfl rfl D2 hh (Or.inl ⟨D10,?_⟩) ?_ ?_
    rotate_left
    ·intro w'
     go_simp
     with_reducible rfl
    rotate_left
    ·simp only [Act.put,q1,q2,q3,i64_w,i32_w]
     rfl
    refine pure_ (i:=1) (N:=some 17) (v:=?_) (a':=?_) #[Y,Y,Z,Z,Z,Z,Z,Z,Z,Z,Z,Z] rfl rfl D2 hh (Or.inl ⟨D10,?_⟩) ?_ ?_
    rotate_left
    ·intro w'
     go_simp
     with_reducible rfl
    rotate_left
    ·simp only [Act.put,q1,q2,q3,i64_w,i32_w]
     rfl
    refine pure_ (i:=2) (N:=some 18) (v:=?_) (a':=?_) #[Y,Y,Y,Z,Z,Z,Z,Z,Z,Z,Z,Z] rfl rfl D2 hh (Or.inl ⟨D10,?_⟩) ?_ ?_
    rotate_left
    ·intro w'
     go_simp
     with_reducible rfl
    rotate_left
    ·simp only [Act.put,q1,q2,q3,i64_w,i32_w]
     rfl
    refine pure_ (i:=4) (N:=some 20) (v:=?_) (a':=?_) #[Y,Y,Y,Z,Y,Z,Z,Z,Z,Z,Z,Z] rfl rfl D2 hh (Or.inl ⟨D10,?_⟩) ?_ ?_
    rotate_left
    ·intro w'
     go_simp
     with_reducible rfl
    rotate_left
    ·simp only [Act.put,q1,q2,q3,i64_w,i32_w]
     rfl
    refine pure_ (i:=5) (N:=some 21) (v:=?_) (a':=?_) #[Y,Y,Y,Z,Y,Y,Z,Z,Z,Z,Z,Z] rfl rfl D2 hh (Or.inl ⟨D10,?_⟩) ?_ ?_
    rotate_left
    ·intro w'
     go_simp
     with_reducible rfl
    rotate_left
    ·simp only [Act.put,q1,q2,q3,i64_w,i32_w]
     rfl
    refine pure_ (i:=6) (N:=some 22) (v:=?_) (a':=?_) #[Y,Y,Y,Z,Y,Y,Y,Z,Z,Z,Z,Z] rfl rfl D2 hh (Or.inl ⟨D10,?_⟩) ?_ ?_
    rotate_left
    ·intro w'
     go_simp
     with_reducible rfl
    rotate_left
    ·simp only [Act.put,q1,q2,q3,i64_w,i32_w]
     rfl
    refine take_ (i:=3) (N:=some 19) (v:=?_) (a':=?_) #[Y,Y,Y,Y,Y,Y,Y,Z,Z,Z,Z,Z] rfl rfl D2 hh (Or.inl ⟨D10,?_⟩) hHeld ?_ ?_
    rotate_left
    ·rintro w' s0
     go_simp
     with_reducible rfl
    rotate_left
    ·simp only [Act.put,q1,q2,q3,i64_w,i32_w]
     rfl
    refine take_ (i:=7) (N:=some 23) (v:=?_) (a':=?_) #[Y,Y,Y,Y,Y,Y,Y,Y,Z,Z,Z,Z] rfl rfl D2 hh (Or.inl ⟨D10,?_⟩) hHeld ?_ ?_
    rotate_left
    ·rintro w' s0
     go_simp
     with_reducible rfl
    rotate_left
    ·simp only [Act.put,q1,q2,q3,i64_w,i32_w]
     rfl
    refine one_ (i:=8) (N:=some 24) #[Y,Y,Y,Y,Y,Y,Y,Y,Y,Z,Z,Z] rfl rfl D2 D6 (fun K hK=>?_)
    refine goes_ Try.func174 D2 rfl #[.int .u8 a1, .int .u8 (bt a2 (i:Int))] D10 rfl rfl D4 ?_
    with_reducible refine (spec_l1Times.calls k a1 (bt a2 (i:Int)) t _ HT.out).mono ?_
    rintro e w' ⟨rfl,⟨nd,rfl⟩⟩
    refine ⟨_,rfl,?_⟩
    generalize hq:wd.drewN nd=we
    replace HR:Aside0 (L6 k a0 a1 a2 w i xs we):=⟨by rw [← hq];exact L6_drewN HR.out nd⟩
    clear hq
    have hcf:=HR.out.2.2.2 i hlt
    rw [show l6cell a0 xs i=bt a0 (i:Int) by have hl:=spec_l6Plus.len HR.out.1;unfold l6cell;rw [if_neg D8]] at hcf
    obtain ⟨hc,hf⟩:=hcf
    refine hK.out _ _ hc (fun hHeld=>?_)
    clear hK K
    refine norm_ (a':=?_) ?_ ?_
    rotate_left
    ·show Act.put _ (some 24) _=_
     simp only [Act.put,q1,q2,q3,i64_w,i32_w]
     rfl
    refine pure_ (i:=9) (N:=some 25) (v:=?_) (a':=?_) #[Y,Y,Y,Y,Y,Y,Y,Y,Y,Y,Z,Z] rfl rfl D2 hh (Or.inl ⟨D10,?_⟩) ?_ ?_
    rotate_left
    ·intro w'
     go_simp
     with_reducible rfl
    rotate_left
    ·simp only [Act.put,q1,q2,q3,i64_w,i32_w]
     rfl
    refine pure_ (i:=10) (N:=some 26) (v:=?_) (a':=?_) #[Y,Y,Y,Y,Y,Y,Y,Y,Y,Y,Y,Z] rfl rfl D2 hh (Or.inl ⟨D10,?_⟩) ?_ ?_
    rotate_left
    ·intro w'
     go_simp
     with_reducible rfl
    rotate_left
    ·simp only [Act.put,q1,q2,q3,i64_w,i32_w]
     rfl
    refine last_ (i:=11) (N:=none) #[Y,Y,Y,Y,Y,Y,Y,Y,Y,Y,Y,Y] rfl rfl D2 D6 (fun K hK=>?_)
    refine skip_ (w1:=?_) D10 rfl ?_ ?_
    rotate_left
    ·go_simp
     rfl
    refine hK.out _ _ ?_
    clear hK K
    refine done_ D2 ?_
    have HN:=am (L6_step HR.out hlt HT.out)
    clear hc hf HR
    go_wp2
    go_roundw
    case rel=>exact ⟨i+1,D8,by go_num,⟨_,HN.out⟩⟩
    case measure=>simp [intOf];omega
   have e:i=a0.size:=by omega
   subst e
   have ex:xs=x:=Option.some.inj (hR.1.symm.trans HX.out)
   subst ex
   have hl:=spec_l6Plus.len hR.1
   have hrd:Kd.C (Kd.int .u8) wr (some ⟨w.heap.size,0,none⟩) a0.size xs:=by
    refine Kd.C_of_reads (enc:=Value.int .u8) (d:=(0:Int)) ⟨hl,by have:=HS.out.1;omega,fun _=>⟨_,rfl,fun j hj=>?_⟩⟩
    rw [add_plain,(hR.2.2.2 j hj).1]
    unfold l6cell
    rw [if_pos D8]
   have hk:=fun c=>Kd.C_string (P:=Try.prog) (src:=57) (dst:=9) (c:=c) Try.underlying57 Try.underlying5 Try.underlying9 hrd
   have HB:=am hR.2.1
   clear hR hrd hl
   go_wp2
   go_ret
   exact ⟨rfl,HB.out⟩
 rw [if_neg hs] at h
 cases h
end

end Go.Proofs.Ytajikfnpcobnpaa.PFnExactMendStripe
-- SHRUNK
-- HALVED
-- SQUEEZED
-- SQUEEZED2
-- SQUEEZED3
-- SQUEEZED4
-- SQUEEZED5
-- SQUEEZED6
