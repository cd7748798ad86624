import Derived.Test.YteflgifmdojahaaVFnMsrB
import Derived.Test.YteflgifmdojahaaPFnMsrx0
namespace Go.Proofs.Yteflgifmdojahaa.PFnMsr
open Go.RowKit Go.Proofs.YteflgifmdojahaaW.PrintWords Go.Proofs.YteflgifmdojahaaW.PrintLast Go.Proofs.YteflgifmdojahaaW.PrintMore Go.Proofs.Yteflgifmdojahaa.KitS
attribute [local go_sem] max2_int min2_int max_two min_two max_three min_three max_four min_four
set_option linter.unusedVariables false
set_option maxHeartbeats 8000000
set_option maxRecDepth 100000
set_option linter.unusedSimpArgs false
mutual
def spec_l5Message.l0:Nat→List Int→Int→Int→Int→List (List Int)→Option ((List (List Int)))
 | 0,_,_,_,_,_=>none
 | k+1,x1,x5,x7,x8,x134000=>if x8 < 2 then (spec_l5Message.l1 k x1 x5 x7 x8 0 x134000) else (some x134000)
def spec_l5Message.l1:Nat→List Int→Int→Int→Int→Int→List (List Int)→Option ((List (List Int)))
 | 0,_,_,_,_,_,_=>none
 | k+1,x1,x5,x7,x8,x9,x134000=>if x9 < x5 then (spec_l5Message.l2 k x1 x5 x7 x8 x9 x9 x134000) else (spec_l5Message.l0 k x1 x5 x7 (wrap64 (x8+1)) x134000)
def spec_l5Message.l2:Nat→List Int→Int→Int→Int→Int→Int→List (List Int)→Option ((List (List Int)))
 | 0,_,_,_,_,_,_,_=>none
 | k+1,x1,x5,x7,x8,x9,x10,x134000=>if x10 < x5 then (if 0≤(wrap64 ((wrap64 (x8*x5))+x9)) then (if (wrap64 ((wrap64 (x8*x5))+x9)) < (x134000.length:Int) then (if 0≤x7 then (if x7 < (x1.length:Int) then (if 0≤x10 then (if x10 < ((rd_L3 x134000 (wrap64 ((wrap64 (x8*x5))+x9))).length:Int) then ((some (x134000.set ((wrap64 ((wrap64 (x8*x5))+x9)):Int).toNat ((rd_L3 x134000 (wrap64 ((wrap64 (x8*x5))+x9))).set (x10:Int).toNat (rd x1 x7)):List (List Int))).bind fun y138=>(if 0≤(wrap64 ((wrap64 (x8*x5))+x10)) then (if (wrap64 ((wrap64 (x8*x5))+x10)) < (x134000.length:Int) then (if 0≤x9 then (if x9 < ((rd_L3 y138 (wrap64 ((wrap64 (x8*x5))+x10))).length:Int) then (spec_l5Message.l2 k x1 x5 (wrap64 (x7+1)) x8 x9 (wrap64 (x10+1)) (y138.set ((wrap64 ((wrap64 (x8*x5))+x10)):Int).toNat ((rd_L3 y138 (wrap64 ((wrap64 (x8*x5))+x10))).set (x9:Int).toNat (rd x1 x7)))) else (none)) else (none)) else (none)) else (none))) else (none)) else (none)) else (none)) else (none)) else (none)) else (none)) else (spec_l5Message.l1 k x1 x5 x7 x8 (wrap64 (x9+1)) x134000)
end
def spec_l5Message.f (k:Nat) (a0_0:Int) (a0_1:Int) (l1:List Int):Option ((List (List Int))):=(spec_l2Blank.f k (wrap64 (2*(wrap64 (a0_1 - 1)))) (wrap64 (a0_1 - 1))).bind fun t130=>(spec_l5Message.l0 k l1 (wrap64 (a0_1 - 1)) 0 0 t130)
theorem spec_l5Message.mono_l:∀ k,(∀ y0 y1 y2 y3 y4,LeO (spec_l5Message.l0 k y0 y1 y2 y3 y4) (spec_l5Message.l0 (k+1) y0 y1 y2 y3 y4))∧(∀ y0 y1 y2 y3 y4 y5,LeO (spec_l5Message.l1 k y0 y1 y2 y3 y4 y5) (spec_l5Message.l1 (k+1) y0 y1 y2 y3 y4 y5))∧(∀ y0 y1 y2 y3 y4 y5 y6,LeO (spec_l5Message.l2 k y0 y1 y2 y3 y4 y5 y6) (spec_l5Message.l2 (k+1) y0 y1 y2 y3 y4 y5 y6))
 | 0=>⟨fun _ _ _ _ _ r h=>by simp [spec_l5Message.l0] at h,fun _ _ _ _ _ _ r h=>by simp [spec_l5Message.l1] at h,fun _ _ _ _ _ _ _ r h=>by simp [spec_l5Message.l2] at h⟩
 | k+1=>by
  obtain ⟨ih0,ih1,ih2⟩:=spec_l5Message.mono_l k
  refine ⟨?_,?_,?_⟩
  ·intro y0 y1 y2 y3 y4
   unfold spec_l5Message.l0
   exact mm
  ·intro y0 y1 y2 y3 y4 y5
   unfold spec_l5Message.l1
   exact mm
  intro y0 y1 y2 y3 y4 y5 y6
  unfold spec_l5Message.l2
  exact mm
theorem spec_l5Message.mono:∀ a0 a1 a2 k,LeO (spec_l5Message.f k a0 a1 a2) (spec_l5Message.f (k+1) a0 a1 a2):=by
 intro a0 a1 a2 k
 obtain ⟨ih0,ih1,ih2⟩:=spec_l5Message.mono_l k
 unfold spec_l5Message.f
 exact mm
def spec_l5Message.T13:Bool × List (List Nat × List Nat):=(true,[([],[]),([0],[0]),([],[]),([],[]),([2,3],[2,3]),([],[]),([4,5],[4,5]),([1,6],[1,6]),([7],[7]),([],[]),([],[]),([],[]),([10,11],[10,11]),([12],[12]),([8,9,0,1,2,3,4,5,6,7,8,9,10,11,12,13],[8,9]),([14,13,0,1,2,3,4,5,6,7,8,9,10,11,12,13],[13,14])])
def spec_l5Message.B13:List Nat:=[0,1,0,0,12,0,60,127,255,0,0,0,3072,7168,16383,32767]
theorem spec_l5Message.tab13:rtab .any (opsOf Try.f58 13)=spec_l5Message.T13:=by kernel_rfl
theorem spec_l5Message.bits13:waitsOk spec_l5Message.T13.2 spec_l5Message.B13=true:=by kernel_rfl
def spec_l5Message.T14:Bool × List (List Nat × List Nat):=(true,[([],[]),([0],[0]),([],[]),([],[]),([2,3],[2,3]),([],[]),([4,5],[4,5]),([1,6],[1,6]),([7],[7]),([],[]),([],[]),([],[]),([10,11],[10,11]),([12],[12]),([8,9,0,1,2,3,4,5,6,7,8,9,10,11,12,13],[8,9]),([14,13,0,1,2,3,4,5,6,7,8,9,10,11,12,13],[13,14])])
def spec_l5Message.B14:List Nat:=[0,1,0,0,12,0,60,127,255,0,0,0,3072,7168,16383,32767]
theorem spec_l5Message.tab14:rtab .any (opsOf Try.f58 14)=spec_l5Message.T14:=by kernel_rfl
theorem spec_l5Message.bits14:waitsOk spec_l5Message.T14.2 spec_l5Message.B14=true:=by kernel_rfl
theorem spec_l5Message.calls (k:Nat) (a0_0:Int) (a0_1:Int) (A1:Option Addr) (c1:Nat) (l1:List Int) (r:List (List Int)) (w:World) (hr1:Kd.C (Kd.int .u8) w A1 l1.length l1) (hc1:l1.length≤c1) (h:spec_l5Message.f k a0_0 a0_1 l1=some r) :
  Calls Try.prog 58 #[.agg #[.int .i64 a0_0, .int .i64 a0_1], .slice A1 l1.length c1] w fun e w'=>∃ v0_:Value,e = .returned (.agg #[v0_])∧Kd.S (Kd.slice 5 (Kd.int .u8)) 24 w' w.heap.size (fun _=>True) v0_ r∧Below w.heap.size w w':=by
 have hu30:=Try.underlying30
 have hu27:=Try.underlying27
 have HR1:=am hr1
 have HC1:=am hc1
 clear hr1 hc1
 have HB:=am (Below.refl w.heap.size w)
 have H:=h
 unfold spec_l5Message.f at H
 clear h
 obtain ⟨t130,A3,H⟩:=yo H
 have H':=am H
 clear H
 go_enter Try.func58,Try.ntmps58
 go_wp2_with (first|((with_reducible refine gD 2 ?_);refine gB (cs:=#[.int .i64 a0_0, .int .i64 a0_1]) 30 ?_;intro gb128 hg w4 hbox hb;have BK128:=am (hbox);have GW128:=ye HB hg;replace HB:=yH HB hb;have GE128:=GW128;clear hb hbox hg)|((with_reducible refine gD 4 ?_);refine gB (cs:=#[.slice none 0 0]) 27 ?_;intro gb129 hg w5 hbox hb;have BK129:=am (hbox);have GW129:=ye HB hg;replace HB:=yH HB hb;have NB128_129:=yl BK128 hg;have NB129_128:=yg BK128 hg;replace BK128:=yb BK128 hb;have GE129:=GW129;clear hb hbox hg;have hnb6:=NB128_129.out;have hnc6:=NB129_128.out;obtain ⟨hcz7_0,hcz7_1,hfz7_0,hfz7_1⟩:=yk2 BK128)|((with_reducible refine gC 124 ?_);refine gM (some 17) Try.func124 (args:=#[.int .i64 (wrap64 (2*(wrap64 (a0_1 - 1)))), .int .i64 (wrap64 (a0_1 - 1))]) (spec_l2Blank.calls k (wrap64 (2*(wrap64 (a0_1 - 1)))) (wrap64 (a0_1 - 1)) t130 _ A3.out) ?_;rintro e w8 ⟨v131,rfl,ho0,hb⟩;refine ⟨_,rfl,?_⟩;have HO132:=am (Kd.S_lower ho0 (pz (yW HB)));replace BK128:=yb BK128 hb;replace BK129:=yb BK129 hb;replace HB:=yH HB hb;clear hb ho0)|((with_reducible refine gD 6 ?_);refine gB (cs:=#[.slice none 0 0]) 27 ?_;intro gb133 hg w9 hbox hb;replace HO132:=bS HO132 hb;have BK133:=am (hbox);have GW133:=ye HB hg;replace HB:=yH HB hb;have NB128_133:=yl BK128 hg;have NB133_128:=yg BK128 hg;replace BK128:=yb BK128 hb;have NB129_133:=yl BK129 hg;have NB133_129:=yg BK129 hg;replace BK129:=yb BK129 hb;have GE133:=GW133;clear hb hbox hg;obtain ⟨Ao10,co10,eo10⟩:=Kd.S_slice HO132.out;subst eo10;have hnb11:=NB133_128.out;have hnc11:=NB128_133.out;have hnb12:=NB133_129.out;have hnc12:=NB129_133.out;obtain ⟨hcz13_0,hfz13_0⟩:=yk1 BK133))
 go_loopg [7,8] k (fun kq v7 v8 w'=>∃ (x7_1:Int) (x8_1:Int) (x134000_1:List (List Int)) (u134000:Value),v7 = .int .i64 x7_1∧v8 = .int .i64 x8_1∧Aside0 (spec_l5Message.l0 kq l1 (wrap64 (a0_1 - 1)) x7_1 x8_1 x134000_1=some r)∧Aside0 (kq≤k)∧Aside0 (Kd.S (Kd.slice 5 (Kd.int .u8)) 24 w' w.heap.size (fun _=>True) u134000 x134000_1)∧Aside0 (w'.heap[gb128]? = some (.cells #[.int .i64 a0_0, .int .i64 a0_1] 30 (0,0)))∧Aside0 (w'.heap[gb129]? = some (.cells #[(.slice none 0 0)] 27 (0,0)))∧Aside0 (w'.heap[gb133]? = some (.cells #[u134000] 27 (0,0)))∧Aside0 (Below w.heap.size w w'))
 case atStart=>exact ⟨(0),(0),(t130),(.slice Ao10 t130.length co10),D1,D1,H',⟨Nat.le_refl _⟩,⟨by refine sS ?_;exact Kd.S_mono (Kd.S_far (p:=⟨gb133,0,none⟩) (Kd.S_types HO132.out BK133.out D8) (fun _ hk=>hk.2) (.slice Ao10 t130.length co10)) (fun _ hk=>trivial)⟩,⟨yF BK128⟩,⟨yF BK129⟩,⟨by refine sB ?_;refine blk_put (cs:=#[.slice none 0 0]) ?_ 0 _ rfl;exact yB BK133⟩,⟨yW HB⟩⟩
 case round =>
  clear H'
  try clear c1
  try clear p2
  try clear c5
  try clear c6
  try clear p6
  try clear c11
  try clear c12
  try clear hcz13_0
  try clear hcz7_0
  try clear hcz7_1
  try clear hfz13_0
  try clear hfz7_0
  try clear hfz7_1
  obtain ⟨x7_1,x8_1,x134000_1,u134000,rfl,rfl,HA,HK1,HO_134000,BK128,BK129,BK133,HB⟩:=hrel
  cases gk with
  | zero=>exact absurd HA.out (by simp [spec_l5Message.l0])
  | succ k1 =>
   have H:=HA.out
   clear HA
   simp only [spec_l5Message.l0] at H
   by_cases c14:x8_1 < 2
   ·rw [if_pos c14] at H
    have c14b0:=decide_eq_true c14
    clear c14
    have H':=am H
    clear H
    go_wp2
    go_loopg [7,9] k1 (fun kq v7 v9 w'=>∃ (x7_2:Int) (x9_2:Int) (x134000_2:List (List Int)) (u134000:Value),v7 = .int .i64 x7_2∧v9 = .int .i64 x9_2∧Aside0 (spec_l5Message.l1 kq l1 (wrap64 (a0_1 - 1)) x7_2 x8_1 x9_2 x134000_2=some r)∧Aside0 (kq≤k1)∧Aside0 (Kd.S (Kd.slice 5 (Kd.int .u8)) 24 w' w.heap.size (fun _=>True) u134000 x134000_2)∧Aside0 (w'.heap[gb128]? = some (.cells #[.int .i64 a0_0, .int .i64 a0_1] 30 (0,0)))∧Aside0 (w'.heap[gb129]? = some (.cells #[(.slice none 0 0)] 27 (0,0)))∧Aside0 (w'.heap[gb133]? = some (.cells #[u134000] 27 (0,0)))∧Aside0 (Below w.heap.size w w'))
    case atStart=>exact ⟨(x7_1),(0),(x134000_1),(u134000),D1,D1,H',⟨Nat.le_refl _⟩,⟨yS HO_134000⟩,⟨yB BK128⟩,⟨yB BK129⟩,⟨yB BK133⟩,⟨yW HB⟩⟩
    case round =>
     clear H'
     try clear c1
     try clear p2
     try clear c5
     try clear c6
     try clear p6
     try clear c11
     try clear c12
     try clear c14
     try clear c14b0
     try clear hcz13_0
     try clear hcz7_0
     try clear hcz7_1
     try clear hfz13_0
     try clear hfz7_0
     try clear hfz7_1
     try clear p2
     try clear p6
     obtain ⟨x7_2,x9_2,x134000_2,u134000,rfl,rfl,HA,HK2,HO_134000,BK128,BK129,BK133,HB⟩:=hrel
     cases gk with
     | zero=>exact absurd HA.out (by simp [spec_l5Message.l1])
     | succ k2 =>
      have H:=HA.out
      clear HA
      simp only [spec_l5Message.l1] at H
      by_cases c15:x9_2 < (wrap64 (a0_1 - 1))
      ·rw [if_pos c15] at H
       have c15b0:=decide_eq_true c15
       clear c15
       have H':=am H
       clear H
       go_wp2
       go_loopg [7,10] k2 (fun kq v7 v10 w'=>∃ (x7_3:Int) (x10_3:Int) (x134000_3:List (List Int)) (u134000:Value),v7 = .int .i64 x7_3∧v10 = .int .i64 x10_3∧Aside0 (spec_l5Message.l2 kq l1 (wrap64 (a0_1 - 1)) x7_3 x8_1 x9_2 x10_3 x134000_3=some r)∧Aside0 (kq≤k2)∧Aside0 (Kd.S (Kd.slice 5 (Kd.int .u8)) 24 w' w.heap.size (fun _=>True) u134000 x134000_3)∧Aside0 (w'.heap[gb128]? = some (.cells #[.int .i64 a0_0, .int .i64 a0_1] 30 (0,0)))∧Aside0 (w'.heap[gb129]? = some (.cells #[(.slice none 0 0)] 27 (0,0)))∧Aside0 (w'.heap[gb133]? = some (.cells #[u134000] 27 (0,0)))∧Aside0 (Below w.heap.size w w'))
       case atStart=>exact ⟨(x7_2),(x9_2),(x134000_2),(u134000),D1,D1,H',⟨Nat.le_refl _⟩,⟨yS HO_134000⟩,⟨yB BK128⟩,⟨yB BK129⟩,⟨yB BK133⟩,⟨yW HB⟩⟩
       case round =>
        clear H'
        try clear c1
        try clear p2
        try clear c5
        try clear c6
        try clear p6
        try clear c11
        try clear c12
        try clear c14
        try clear c14b0
        try clear c15
        try clear c15b0
        try clear hcz13_0
        try clear hcz7_0
        try clear hcz7_1
        try clear hfz13_0
        try clear hfz7_0
        try clear hfz7_1
        try clear p2
        try clear p6
        obtain ⟨x7_3,x10_3,x134000_3,u134000,rfl,rfl,HA,HK3,HO_134000,BK128,BK129,BK133,HB⟩:=hrel
        cases gk with
        | zero=>exact absurd HA.out (by simp [spec_l5Message.l2])
        | succ k3 =>
         have H:=HA.out
         clear HA
         simp only [spec_l5Message.l2] at H
         by_cases c16:x10_3 < (wrap64 (a0_1 - 1))
         ·rw [if_pos c16] at H
          have c16b0:=decide_eq_true c16
          clear c16
          generalize hji17:(wrap64 ((wrap64 (x8_1*(wrap64 (a0_1 - 1))))+x9_2))=ji17 at H
          have hji17w:(IntKind.i64.wrap ((wrap64 (x8_1*(wrap64 (a0_1 - 1))))+x9_2))=ji17:=(i64_w _).trans hji17
          obtain ⟨c18,H⟩:=yi H
          have c18b0:=decide_eq_true c18
          clear c18
          obtain ⟨c19,H⟩:=yi H
          have c19b0:=decide_eq_true c19
          clear c19
          obtain ⟨c20,H⟩:=yi H
          have c20b0:=decide_eq_true c20
          clear c20
          obtain ⟨c21,H⟩:=yi H
          have c21b0:=decide_eq_true c21
          clear c21
          obtain ⟨c22,H⟩:=yi H
          have c22b0:=decide_eq_true c22
          clear c22
          obtain ⟨c23,H⟩:=yi H
          have c23b0:=decide_eq_true c23
          clear c23
          generalize hy136:((rd_L3 x134000_3 (ji17)).set (x10_3:Int).toNat (rd l1 x7_3):List Int)=y136 at H
          have Ny136:=am hy136.symm
          clear hy136
          obtain ⟨y138,hy138,H⟩:=ys H
          have Ny138:=am hy138
          clear hy138
          generalize hji25:(wrap64 ((wrap64 (x8_1*(wrap64 (a0_1 - 1))))+x10_3))=ji25 at H
          have hji25w:(IntKind.i64.wrap ((wrap64 (x8_1*(wrap64 (a0_1 - 1))))+x10_3))=ji25:=(i64_w _).trans hji25
          obtain ⟨c26,H⟩:=yi H
          have c26b0:=decide_eq_true c26
          clear c26
          obtain ⟨c27,H⟩:=yi H
          have c27b0:=decide_eq_true c27
          clear c27
          obtain ⟨c28,H⟩:=yi H
          have c28b0:=decide_eq_true c28
          clear c28
          obtain ⟨c29,H⟩:=yi H
          have c29b0:=decide_eq_true c29
          clear c29
          generalize hy141:((rd_L3 y138 (ji25)).set (x9_2:Int).toNat (rd l1 x7_3):List Int)=y141 at H
          have Ny141:=am hy141.symm
          clear hy141
          generalize hy143:(y138.set ((ji25):Int).toNat y141:List (List Int))=y143 at H
          have Ny143:=am hy143.symm
          clear hy143
          have H':=am H
          clear H
          try go_wp2
          replace HO_134000:=am (Kd.S_drew HO_134000.out)
          replace BK128:=am (qd BK128.out)
          replace BK129:=am (qd BK129.out)
          replace BK133:=am (qd BK133.out)
          replace HB:=am (pd HB.out)
          obtain ⟨Ao32,co32,eo32⟩:=Kd.S_slice HO_134000.out
          (first|subst eo32|(injection eo32 with f1_ f2_ f3_;have f4_:=f1_.symm;have f5_:=f3_.symm;clear f1_ f2_ f3_;subst f4_;subst f5_))
          have p134:0≤((ji17):Int):=od D0
          have q134:(ji17) < (x134000_3.length:Int):=od D0
          obtain ⟨ad134,A134_0,c134_0,e134,hx134_0,hl134_0,hi134_0⟩:=at_L3 (Kd.S_reads' HO_134000.out).2.2 (ji17) p134 q134
          cases e134
          obtain ⟨ce134,hce134,hMe134,hcc134⟩:=Kd.S_get HO_134000.out [] (ji17) p134 (by first|exact q134|exact od D0|(have e_:=(Kd.S_reads' HO_134000.out).1;omega))
          obtain ⟨ve134_0,rfl,ge134_0⟩:=hMe134
          have hv134_0:=hcc134 0 _ rfl
          rw [Nat.add_zero,show ((Kd.slice 5 (Kd.int .u8))).sz=1 from rfl,Nat.mul_one] at hv134_0
          replace hv134_0:=Option.some.inj (hv134_0.symm.trans hx134_0)
          rw [hv134_0] at ge134_0
          have HL134_0:=am (show Kd.R (Kd.int .u8) 5 _ _ _ _ (rd_L3 x134000_3 (ji17)) from ge134_0)
          clear hv134_0 ge134_0
          have HX134_0:=am hx134_0
          clear hcc134 hce134
          have HR134_0:=am hi134_0
          have HC134_0:=am hl134_0
          clear hi134_0 hl134_0
          replace p134:=eq_true p134
          replace q134:=eq_true q134
          have p135:0≤(x7_3:Int):=od D0
          have q135:x7_3 < (l1.length:Int):=od D0
          obtain ⟨ad135,e135,hx135_0⟩:=Kd.at_int HR1.out x7_3 p135 q135
          have hw135_0:=hx135_0
          cases e135
          replace hx135_0:=(HB.out.cell (World.block_lt_of_cell? w _ hx135_0)).trans hx135_0
          replace p135:=eq_true p135
          replace q135:=eq_true q135
          have p24:0≤(x10_3:Int):=od D0
          have q24:(x10_3:Int) < (((rd_L3 x134000_3 (ji17)).length:Int):Int):=od D0
          obtain ⟨go24,co24,eo24,gb24,gl24,cl24,HG24⟩:=Kd.R_form HL134_0.out D11
          (first|cases eo24|(injection eo24 with ea_ en_ ec_;(first|subst ea_|(injection ea_ with ea_;subst ea_));subst ec_;clear en_))
          have GB24:=am gb24
          have GG24:=am HG24
          clear gb24 gl24 HG24
          obtain ⟨hx24_0,hf24_0⟩:=Kd.R_celln 0 HL134_0.out (x10_3:Int) p24 q24
          replace p24:=eq_true p24
          replace q24:=eq_true q24
          have hq33:((ji17):Int) < (x134000_3.length:Int):=(by have h_:((ji17):Int) < ((x134000_3.length:Int):Int):=od D0;first|exact h_|(have e_:=(Kd.S_reads' HO_134000.out).1;omega)|simpa only [List.length_set,List.length_set] using h_)
          obtain ⟨oki33,ce33,hcl33,hM33,hcc33,hok33,hbk33⟩:=Kd.S_borrow HO_134000.out [] ((ji17):Int) (od D0) hq33
          obtain ⟨ve33_0,rfl,ge33_0⟩:=hM33
          have hv33:=hcc33 0 _ rfl
          rw [Nat.add_zero,show ((Kd.slice 5 (Kd.int .u8))).sz=1 from rfl,Nat.mul_one] at hv33
          replace hv33:=Option.some.inj (hv33.symm.trans HX134_0.out)
          subst hv33
          clear hcc33 hcl33
          replace ge33_0:=(show Kd.R (Kd.int .u8) 5 _ _ _ _ (rd_L3 x134000_3 (ji17)) from ge33_0)
          have HP33:=Kd.R_putg ge33_0 (x10_3:Int) (rd l1 x7_3)
          rw [← Ny136.out] at HP33
          have HS33:=hbk33 HP33.2 (fun k_ e_=>by injection e_ with e_;subst e_;exact ge33_0.1 _ rfl) (x':=y136) (Kd.M_row HP33.1)
          rw [← Ny138.out] at HS33
          have HQ33:=am HS33
          clear HP33 HS33 hbk33 hok33
          refine rS (n:=16) (S:=fun w'=>w'.cell? ⟨gb133,0,none⟩=some (.slice (some ad134) x134000_3.length co32)∧w'.cell? (ad134.add ((ji17)).toNat)=some (.slice (some ⟨go24,0,none⟩) (rd_L3 x134000_3 (ji17)).length c134_0)∧w'.cell? (ad135.add (x7_3).toNat)=some (.int .u8 (rd l1 x7_3))) (ds:=[15]) [(0,33),(2,35),(3,36),(4,37),(5,38),(6,39),(9,42),(10,43),(11,44),(12,45),(1,34),(7,40),(8,41),(13,46),(14,47),(15,0)] D5 rfl spec_l5Message.tab13 spec_l5Message.bits13 ⟨yk BK133 0,hx134_0,((HB.out.cell (World.block_lt_of_cell? w _ hw135_0)).trans hw135_0)⟩ (fun hHeld HT_ HW_=>?_)
          generalize wr.drew=w31 at HO_134000 BK128 BK129 BK133 HB GG24 HL134_0 HQ33 HR134_0 HX134_0 hf24_0 hx134_0 hx135_0 hx24_0 hHeld ⊢
          refine rR ?_
          refine rL (N:=none) HT_ rfl rfl D5 D8 (fun K hK=>?_)
          refine skip_ (w1:=?_) D15 rfl ?_ ?_
          rotate_left
          ·go_simp
           rfl
          refine hK.out _ _ ?_
          clear hK K
          refine rD HT_ D5 ?_
          try go_wp2
          generalize hw_:(w31.setCell ⟨go24,(x10_3:Int).toNat,none⟩ (.int .u8 (rd l1 x7_3)))=w35
          replace HO_134000:Aside0 (Kd.S (Kd.slice 5 (Kd.int .u8)) 24 w35 w.heap.size (fun _=>True) (.slice (some ad134) x134000_3.length co32) y138):=⟨by rw [← hw_];exact yS HQ33⟩
          replace BK128:Aside0 (w35.heap[gb128]? = some (.cells #[.int .i64 a0_0, .int .i64 a0_1] 30 (0,0))):=⟨by rw [← hw_];refine sB ?_;refine blk_far ?_ (by have h_:=Kd.R_ne HL134_0.out BK128.out D8;intro e_;exact h_ D97) _;exact yB BK128⟩
          replace BK129:Aside0 (w35.heap[gb129]? = some (.cells #[.slice none 0 0] 27 (0,0))):=⟨by rw [← hw_];refine sB ?_;refine blk_far ?_ (by have h_:=Kd.R_ne HL134_0.out BK129.out D8;intro e_;exact h_ D97) _;exact yB BK129⟩
          replace BK133:Aside0 (w35.heap[gb133]? = some (.cells #[.slice (some ad134) x134000_3.length co32] 27 (0,0))):=⟨by rw [← hw_];refine sB ?_;refine blk_far ?_ (by have h_:=Kd.R_ne HL134_0.out BK133.out D8;intro e_;exact h_ D97) _;exact yB BK133⟩
          replace HB:Aside0 (Below w.heap.size w w35):=⟨by rw [← hw_];repeat (first|(with_reducible first|exact HB.out|apply pa|apply pb|apply pd|refine pt ?_ GB24.out|refine pt ?_ GE128.out|refine pt ?_ GE129.out|refine pt ?_ GE133.out)|exact HB.out)⟩
          clear hw_
          replace HO_134000:=am (Kd.S_drew HO_134000.out)
          replace BK128:=am (qd BK128.out)
          replace BK129:=am (qd BK129.out)
          replace BK133:=am (qd BK133.out)
          replace HB:=am (pd HB.out)
          have p139:0≤((ji25):Int):=od D0
          have q139:(ji25) < (y138.length:Int):=(by have h_:((ji25):Int) < ((x134000_3.length:Int):Int):=od D0;first|(have e_:=(Kd.S_reads' HO_134000.out).1;omega)|simpa only [Ny138.out,List.length_set] using h_)
          have ql139:(((ji25):Int) < ((x134000_3.length:Int):Int))=True:=eq_true (od D0)
          obtain ⟨ad139,A139_0,c139_0,e139,hx139_0,hl139_0,hi139_0⟩:=at_L3 (Kd.S_reads' HO_134000.out).2.2 (ji25) p139 q139
          obtain rfl:ad134=ad139:=(by injection e139)
          obtain ⟨ce139,hce139,hMe139,hcc139⟩:=Kd.S_get HO_134000.out [] (ji25) p139 (by first|exact q139|exact od D0|(have e_:=(Kd.S_reads' HO_134000.out).1;omega))
          obtain ⟨ve139_0,rfl,ge139_0⟩:=hMe139
          have hv139_0:=hcc139 0 _ rfl
          rw [Nat.add_zero,show ((Kd.slice 5 (Kd.int .u8))).sz=1 from rfl,Nat.mul_one] at hv139_0
          replace hv139_0:=Option.some.inj (hv139_0.symm.trans hx139_0)
          rw [hv139_0] at ge139_0
          have HL139_0:=am (show Kd.R (Kd.int .u8) 5 _ _ _ _ (rd_L3 y138 (ji25)) from ge139_0)
          clear hv139_0 ge139_0
          have HX139_0:=am hx139_0
          clear hcc139 hce139
          have HR139_0:=am hi139_0
          have HC139_0:=am hl139_0
          clear hi139_0 hl139_0
          replace p139:=eq_true p139
          replace q139:=eq_true q139
          have p140:0≤(x7_3:Int):=od D0
          have q140:x7_3 < (l1.length:Int):=od D0
          obtain ⟨ad140,e140,hx140_0⟩:=Kd.at_int HR1.out x7_3 p140 q140
          have hw140_0:=hx140_0
          obtain rfl:ad135=ad140:=(by injection e140)
          replace hx140_0:=(HB.out.cell (World.block_lt_of_cell? w _ hx140_0)).trans hx140_0
          replace p140:=eq_true p140
          replace q140:=eq_true q140
          have p30:0≤(x9_2:Int):=od D0
          have q30:(x9_2:Int) < (((rd_L3 y138 (ji25)).length:Int):Int):=od D0
          obtain ⟨go30,co30,eo30,gb30,gl30,cl30,HG30⟩:=Kd.R_form HL139_0.out D11
          (first|cases eo30|(injection eo30 with ea_ en_ ec_;(first|subst ea_|(injection ea_ with ea_;subst ea_));subst ec_;clear en_))
          have GB30:=am gb30
          have GG30:=am HG30
          clear gb30 gl30 HG30
          obtain ⟨hx30_0,hf30_0⟩:=Kd.R_celln 0 HL139_0.out (x9_2:Int) p30 q30
          replace p30:=eq_true p30
          replace q30:=eq_true q30
          have hq37:((ji25):Int) < (x134000_3.length:Int):=od D0
          obtain ⟨oki37,ce37,hcl37,hM37,hcc37,hok37,hbk37⟩:=Kd.S_borrow HO_134000.out [] ((ji25):Int) (od D0) hq37
          obtain ⟨ve37_0,rfl,ge37_0⟩:=hM37
          have hv37:=hcc37 0 _ rfl
          rw [Nat.add_zero,show ((Kd.slice 5 (Kd.int .u8))).sz=1 from rfl,Nat.mul_one] at hv37
          replace hv37:=Option.some.inj (hv37.symm.trans HX139_0.out)
          subst hv37
          clear hcc37 hcl37
          replace ge37_0:=(show Kd.R (Kd.int .u8) 5 _ _ _ _ (rd_L3 y138 (ji25)) from ge37_0)
          have HP37:=Kd.R_putg ge37_0 (x9_2:Int) (rd l1 x7_3)
          rw [← Ny141.out] at HP37
          have HS37:=hbk37 HP37.2 (fun k_ e_=>by injection e_ with e_;subst e_;exact ge37_0.1 _ rfl) (x':=y141) (Kd.M_row HP37.1)
          rw [← Ny143.out] at HS37
          have HQ37:=am HS37
          clear HP37 HS37 hbk37 hok37
          refine rS (n:=16) (S:=fun w'=>w'.cell? ⟨gb133,0,none⟩=some (.slice (some ad134) x134000_3.length co32)∧w'.cell? (ad134.add ((ji25)).toNat)=some (.slice (some ⟨go30,0,none⟩) (rd_L3 y138 (ji25)).length c139_0)∧w'.cell? (ad135.add (x7_3).toNat)=some (.int .u8 (rd l1 x7_3))) (ds:=[15]) [(0,48),(2,50),(3,51),(4,52),(5,53),(6,54),(9,57),(10,58),(11,59),(12,60),(1,49),(7,55),(8,56),(13,61),(14,62),(15,0)] D5 rfl spec_l5Message.tab14 spec_l5Message.bits14 ⟨yk BK133 0,hx139_0,((HB.out.cell (World.block_lt_of_cell? w _ hw140_0)).trans hw140_0)⟩ (fun hHeld HT_ HW_=>?_)
          generalize w35.drew=w36 at HO_134000 BK128 BK129 BK133 HB GG30 HL139_0 HQ33 HQ37 HR139_0 HX139_0 hf30_0 hx139_0 hx140_0 hx30_0 hHeld ⊢
          refine rR ?_
          refine rL (N:=none) HT_ rfl rfl D5 D8 (fun K hK=>?_)
          refine skip_ (w1:=?_) D15 rfl ?_ ?_
          rotate_left
          ·go_simp
           rfl
          refine hK.out _ _ ?_
          clear hK K
          refine rD HT_ D5 ?_
          try go_wp2
          go_roundg k3
          case measure=>have:=HK1.out;have:=HK2.out;have:=HK3.out;omega
          case rel=>exact ⟨(wrap64 (x7_3+1)),(wrap64 (x10_3+1)),(y143),(.slice (some ad134) x134000_3.length co32),D1,D1,H',⟨D80⟩,⟨yS HQ37⟩,⟨by refine sB ?_;refine blk_far ?_ (by have h_:=Kd.R_ne HL139_0.out BK128.out D8;intro e_;exact h_ D97) _;exact yB BK128⟩,⟨by refine sB ?_;refine blk_far ?_ (by have h_:=Kd.R_ne HL139_0.out BK129.out D8;intro e_;exact h_ D97) _;exact yB BK129⟩,⟨by refine sB ?_;refine blk_far ?_ (by have h_:=Kd.R_ne HL139_0.out BK133.out D8;intro e_;exact h_ D97) _;exact yB BK133⟩,⟨by repeat (first|(with_reducible first|exact HB.out|apply pa|apply pb|apply pd|refine pt ?_ GB30.out|refine pt ?_ GE128.out|refine pt ?_ GE129.out|refine pt ?_ GE133.out)|exact HB.out)⟩⟩
         rw [if_neg c16] at H
         have c16b0:=decide_eq_false c16
         clear c16
         have H':=am H
         clear H
         go_wp2
         go_roundg k3
         case measure=>have:=HK1.out;have:=HK2.out;have:=HK3.out;omega
         case rel=>exact ⟨(x7_3),(wrap64 (x9_2+1)),(x134000_3),(u134000),D1,D1,H',⟨D80⟩,⟨yS HO_134000⟩,⟨yB BK128⟩,⟨yB BK129⟩,⟨yB BK133⟩,⟨yW HB⟩⟩
      rw [if_neg c15] at H
      have c15b0:=decide_eq_false c15
      clear c15
      have H':=am H
      clear H
      go_wp2
      go_roundg k2
      case measure=>have:=HK1.out;have:=HK2.out;omega
      case rel=>exact ⟨(x7_2),(wrap64 (x8_1+1)),(x134000_2),(u134000),D1,D1,H',⟨D78⟩,⟨yS HO_134000⟩,⟨yB BK128⟩,⟨yB BK129⟩,⟨yB BK133⟩,⟨yW HB⟩⟩
   rw [if_neg c14] at H
   have c14b0:=decide_eq_false c14
   clear c14
   obtain rfl:=Option.some.inj H
   have hnb39:=NB133_128.out
   have hnc39:=NB128_133.out
   have hnb40:=NB133_129.out
   have hnc40:=NB129_133.out
   obtain ⟨hcz41_0,hfz41_0⟩:=yk1 BK133
   obtain ⟨Ao42,co42,eo42⟩:=Kd.S_slice HO_134000.out
   subst eo42
   have hnb43:=NB129_128.out
   have hnc43:=NB128_129.out
   obtain ⟨hcz44_0,hfz44_0⟩:=yk1 BK129
   go_wp2
   refine bodyPost_ret (results_cell_row rfl _ _ gb129 27 #[.slice Ao42 x134000_1.length co42] (0,0) _ rfl (by refine sB ?_;refine blk_put (cs:=#[.slice none 0 0]) ?_ 0 _ rfl;exact yB BK129) Try.underlying27 rfl D5) rfl ?_
   exact ⟨_,D2,by refine sS ?_;exact Kd.S_mono (Kd.S_far (p:=⟨gb129,0,none⟩) (Kd.S_types HO_134000.out BK129.out D8) (fun _ hk=>hk.2) (.slice Ao42 x134000_1.length co42)) (fun _ hk=>trivial),yW HB⟩

def spec_l1Times.l0:Nat→Int→Int→Int→Option (Int)
 | 0,_,_,_=>none
 | k+1,x5,x6,x7=>if x7 > 0 then (if (Go.bits .and .i64 x7 1)=1 then (if (wrap64 (x6*2)) > 255 then (spec_l1Times.l0 k (Go.bits .xor .i64 x5 x6) (Go.bits .xor .i64 (wrap64 (x6*2)) 283) (x7 / 2)) else (spec_l1Times.l0 k (Go.bits .xor .i64 x5 x6) (wrap64 (x6*2)) (x7 / 2))) else (if (wrap64 (x6*2)) > 255 then (spec_l1Times.l0 k x5 (Go.bits .xor .i64 (wrap64 (x6*2)) 283) (x7 / 2)) else (spec_l1Times.l0 k x5 (wrap64 (x6*2)) (x7 / 2)))) else (some ((x5) % 256))
def spec_l1Times.f (k:Nat) (a0:Int) (a1:Int):Option (Int):=spec_l1Times.l0 k 0 (wrap64 (a0)) (wrap64 (a1))
theorem spec_l1Times.mono_l:∀ k,(∀ y0 y1 y2,LeO (spec_l1Times.l0 k y0 y1 y2) (spec_l1Times.l0 (k+1) y0 y1 y2))
 | 0=>fun _ _ _ r h=>by simp [spec_l1Times.l0] at h
 | k+1=>by
  have ih0:=spec_l1Times.mono_l k
  intro y0 y1 y2
  unfold spec_l1Times.l0
  exact mm
theorem spec_l1Times.mono:∀ a0 a1 k,LeO (spec_l1Times.f k a0 a1) (spec_l1Times.f (k+1) a0 a1):=by
 intro a0 a1 k
 have ih0:=spec_l1Times.mono_l k
 unfold spec_l1Times.f
 exact mm
theorem spec_l1Times.calls (k:Nat) (a0:Int) (a1:Int) (r:Int) (w:World) (h:spec_l1Times.f k a0 a1=some r) :
  Calls Try.prog 152 #[.int .u8 a0, .int .u8 a1] w fun e w'=>e = .returned (.int .u8 r)∧Drawn0 w w':=by
 have H:=h
 unfold spec_l1Times.f at H
 clear h
 have H':=am H
 clear H
 go_enter Try.func152,Try.ntmps152
 go_wp2
 go_loopg [5,6,7] k (fun kq v5 v6 v7 w'=>∃ (x5_1:Int) (x6_1:Int) (x7_1:Int),v5 = .int .i64 x5_1∧v6 = .int .i64 x6_1∧v7 = .int .i64 x7_1∧Aside0 (spec_l1Times.l0 kq x5_1 x6_1 x7_1=some r)∧Aside0 (kq≤k)∧Drawn0 w w')
 case atStart=>exact ⟨(0),(wrap64 (a0)),(wrap64 (a1)),D1,D1,D1,H',⟨Nat.le_refl _⟩,D12⟩
 case round =>
  clear H'
  try clear c1
  try clear p2
  obtain ⟨x5_1,x6_1,x7_1,rfl,rfl,rfl,HA,HK1,⟨m1,rfl⟩⟩:=hrel
  cases gk with
  | zero=>exact absurd HA.out (by simp [spec_l1Times.l0])
  | succ k1 =>
   have H:=HA.out
   clear HA
   simp only [spec_l1Times.l0] at H
   by_cases c3:x7_1 > 0
   ·rw [if_pos c3] at H
    have c3b0:decide (0 < x7_1)=true:=decide_eq_true c3
    clear c3
    by_cases c4:(Go.bits .and .i64 x7_1 1)=1
    ·rw [if_pos c4] at H
     have c4b0:((Go.bits .and .i64 x7_1 1) == 1)=true:=beq_iff_eq.mpr c4
     have c4b1:((Go.bits .and .i64 x7_1 1) != 1)=false:=bne_eq_false_iff_eq.mpr c4
     clear c4
     by_cases c5:(wrap64 (x6_1*2)) > 255
     ·rw [if_pos c5] at H
      have c5b0:decide (255 < (wrap64 (x6_1*2)))=true:=decide_eq_true c5
      clear c5
      have H':=am H
      clear H
      go_wp2
      go_roundg k1
      case measure=>have:=HK1.out;omega
      case rel=>exact ⟨(Go.bits .xor .i64 x5_1 x6_1),(Go.bits .xor .i64 (wrap64 (x6_1*2)) 283),(x7_1 / 2),D1,D1,D1,H',⟨D34⟩,D12⟩
     rw [if_neg c5] at H
     have c5b0:decide (255 < (wrap64 (x6_1*2)))=false:=decide_eq_false c5
     clear c5
     have H':=am H
     clear H
     go_wp2
     go_roundg k1
     case measure=>have:=HK1.out;omega
     case rel=>exact ⟨(Go.bits .xor .i64 x5_1 x6_1),(wrap64 (x6_1*2)),(x7_1 / 2),D1,D1,D1,H',⟨D34⟩,D12⟩
    rw [if_neg c4] at H
    have c4b0:((Go.bits .and .i64 x7_1 1) == 1)=false:=beq_eq_false_iff_ne.mpr c4
    have c4b1:((Go.bits .and .i64 x7_1 1) != 1)=true:=bne_iff_ne.mpr c4
    by_cases c6:(wrap64 (x6_1*2)) > 255
    ·rw [if_pos c6] at H
     have c6b0:decide (255 < (wrap64 (x6_1*2)))=true:=decide_eq_true c6
     clear c6
     have H':=am H
     clear H
     go_wp2
     go_roundg k1
     case measure=>have:=HK1.out;omega
     case rel=>exact ⟨(x5_1),(Go.bits .xor .i64 (wrap64 (x6_1*2)) 283),(x7_1 / 2),D1,D1,D1,H',⟨D34⟩,D12⟩
    rw [if_neg c6] at H
    have c6b0:decide (255 < (wrap64 (x6_1*2)))=false:=decide_eq_false c6
    clear c6
    have H':=am H
    clear H
    go_wp2
    go_roundg k1
    case measure=>have:=HK1.out;omega
    case rel=>exact ⟨(x5_1),(wrap64 (x6_1*2)),(x7_1 / 2),D1,D1,D1,H',⟨D34⟩,D12⟩
   rw [if_neg c3] at H
   have c3b0:decide (0 < x7_1)=false:=decide_eq_false c3
   clear c3
   obtain rfl:=Option.some.inj H
   go_wp2
   go_ret
   exact ⟨D1,D12⟩
def spec_l1Dot.l0:Nat→List Int→List Int→Int→Int→Int→Option (Int)
 | 0,_,_,_,_,_=>none
 | k+1,x0,x1,x5,x8,x9=>if x9 < x8 then (if 0≤x9 then (if x9 < (x0.length:Int) then (if x9 < (x1.length:Int) then ((spec_l1Times.f k (rd x0 x9) (rd x1 x9)).bind fun t146=>(spec_l1Dot.l0 k x0 x1 (Go.bits .xor .u8 x5 t146) x8 (wrap64 (x9+1)))) else (none)) else (none)) else (none)) else (some x5)
def spec_l1Dot.f (k:Nat) (l0:List Int) (l1:List Int):Option (Int):=spec_l1Dot.l0 k l0 l1 0 (l0.length:Int) 0
theorem spec_l1Dot.mono_l:∀ k,(∀ y0 y1 y2 y3 y4,LeO (spec_l1Dot.l0 k y0 y1 y2 y3 y4) (spec_l1Dot.l0 (k+1) y0 y1 y2 y3 y4))
 | 0=>fun _ _ _ _ _ r h=>by simp [spec_l1Dot.l0] at h
 | k+1=>by
  have ih0:=spec_l1Dot.mono_l k
  intro y0 y1 y2 y3 y4
  unfold spec_l1Dot.l0
  exact mm
theorem spec_l1Dot.mono:∀ a0 a1 k,LeO (spec_l1Dot.f k a0 a1) (spec_l1Dot.f (k+1) a0 a1):=by
 intro a0 a1 k
 have ih0:=spec_l1Dot.mono_l k
 unfold spec_l1Dot.f
 exact mm
theorem spec_l1Dot.calls (k:Nat) (A0:Option Addr) (c0:Nat) (l0:List Int) (A1:Option Addr) (c1:Nat) (l1:List Int) (r:Int) (w:World) (hr0:Kd.C (Kd.int .u8) w A0 l0.length l0) (hc0:l0.length≤c0) (hr1:Kd.C (Kd.int .u8) w A1 l1.length l1) (hc1:l1.length≤c1) (h:spec_l1Dot.f k l0 l1=some r) :
  Calls Try.prog 150 #[.slice A0 l0.length c0, .slice A1 l1.length c1] w fun e w'=>e = .returned (.int .u8 r)∧Drawn0 w w':=by
 have HR0:=am hr0
 have HC0:=am hc0
 clear hr0 hc0
 have HR1:=am hr1
 have HC1:=am hc1
 clear hr1 hc1
 have H:=h
 unfold spec_l1Dot.f at H
 clear h
 have H':=am H
 clear H
 go_enter Try.func150,Try.ntmps150
 go_wp2
 repeat (go_quiet (fail);try go_wp2)
 go_loopg [5,9] k (fun kq v5 v9 w'=>∃ (x5_1:Int) (x9_1:Int),v5 = .int .u8 x5_1∧v9 = .int .i64 x9_1∧Aside0 (spec_l1Dot.l0 kq l0 l1 x5_1 (l0.length:Int) x9_1=some r)∧Aside0 (kq≤k)∧Drawn0 w w')
 case atStart=>exact ⟨(0),(0),D1,D1,H',⟨Nat.le_refl _⟩,D12⟩
 case round =>
  clear H'
  try clear c1
  try clear p2
  obtain ⟨x5_1,x9_1,rfl,rfl,HA,HK1,⟨m1,rfl⟩⟩:=hrel
  cases gk with
  | zero=>exact absurd HA.out (by simp [spec_l1Dot.l0])
  | succ k1 =>
   have H:=HA.out
   clear HA
   simp only [spec_l1Dot.l0] at H
   by_cases c3:x9_1 < (l0.length:Int)
   ·rw [if_pos c3] at H
    have c3b0:=decide_eq_true c3
    clear c3
    obtain ⟨c4,H⟩:=yi H
    have c4b0:=decide_eq_true c4
    clear c4
    obtain ⟨c5,H⟩:=yi H
    have c5b0:=decide_eq_true c5
    clear c5
    obtain ⟨c6,H⟩:=yi H
    have c6b0:=decide_eq_true c6
    clear c6
    obtain ⟨t146,A7,H⟩:=yo H
    have H':=am H
    clear H
    have p144:0≤(x9_1:Int):=od D0
    have q144:x9_1 < (l0.length:Int):=od D0
    obtain ⟨ad144,e144,hx144_0⟩:=Kd.at_int HR0.out x9_1 p144 q144
    cases e144
    replace p144:=eq_true p144
    replace q144:=eq_true q144
    have p145:0≤(x9_1:Int):=od D0
    have q145:x9_1 < (l1.length:Int):=od D0
    obtain ⟨ad145,e145,hx145_0⟩:=Kd.at_int HR1.out x9_1 p145 q145
    cases e145
    replace p145:=eq_true p145
    replace q145:=eq_true q145
    go_wp2_with (first|(go_at_call 152;(with_reducible refine (spec_l1Times.calls k1 (rd l0 x9_1) (rd l1 x9_1) t146 _ A7.out).mono ?_);rintro e w' ⟨rfl,⟨nd,rfl⟩⟩;(try first|exact ⟨rfl,_,World.drewN_drewN _ _ _⟩|exact ⟨rfl,_,Eq.trans (World.drewN_drewN _ _ _) (congrArg (World.drewN _) (Nat.add_assoc _ _ _))⟩)))
    repeat (go_quiet (first|(go_at_call 152;(with_reducible refine (spec_l1Times.calls k1 (rd l0 x9_1) (rd l1 x9_1) t146 _ A7.out).mono ?_);rintro e w' ⟨rfl,⟨nd,rfl⟩⟩;(try first|exact ⟨rfl,_,World.drewN_drewN _ _ _⟩|exact ⟨rfl,_,Eq.trans (World.drewN_drewN _ _ _) (congrArg (World.drewN _) (Nat.add_assoc _ _ _))⟩)));try go_wp2_with (first|(go_at_call 152;(with_reducible refine (spec_l1Times.calls k1 (rd l0 x9_1) (rd l1 x9_1) t146 _ A7.out).mono ?_);rintro e w' ⟨rfl,⟨nd,rfl⟩⟩;(try first|exact ⟨rfl,_,World.drewN_drewN _ _ _⟩|exact ⟨rfl,_,Eq.trans (World.drewN_drewN _ _ _) (congrArg (World.drewN _) (Nat.add_assoc _ _ _))⟩))))
    go_roundg k1
    case measure=>have:=HK1.out;omega
    case rel=>exact ⟨(Go.bits .xor .u8 x5_1 t146),(wrap64 (x9_1+1)),D1,D1,H',⟨D34⟩,D12⟩
   rw [if_neg c3] at H
   have c3b0:=decide_eq_false c3
   clear c3
   obtain rfl:=Option.some.inj H
   go_wp2
   repeat (go_quiet (fail);try go_wp2)
   go_ret
   exact ⟨D1,D12⟩

def spec_l2Apply.l0:Nat→List Int→List Int→List (List Int)→Int→Int→Option (List Int)
 | 0,_,_,_,_,_=>none
 | k+1,x1,x5,x9,x10,x11=>if x11 < x10 then (if 0≤x11 then (if x11 < (x9.length:Int) then ((spec_l1Dot.f k (rd_L3 x9 x11) x1).bind fun t149=>(if x5.length < 140737488355328 then (spec_l2Apply.l0 k x1 (x5 ++ [t149]) x9 x10 (wrap64 (x11+1))) else (none))) else (none)) else (none)) else (some x5)
def spec_l2Apply.f (k:Nat) (l0_0:List (List Int)) (l1:List Int):Option (List Int):=spec_l2Apply.l0 k l1 ([]:List Int) l0_0 (l0_0.length:Int) 0
theorem spec_l2Apply.mono_l:∀ k,(∀ y0 y1 y2 y3 y4,LeO (spec_l2Apply.l0 k y0 y1 y2 y3 y4) (spec_l2Apply.l0 (k+1) y0 y1 y2 y3 y4))
 | 0=>fun _ _ _ _ _ r h=>by simp [spec_l2Apply.l0] at h
 | k+1=>by
  have ih0:=spec_l2Apply.mono_l k
  intro y0 y1 y2 y3 y4
  unfold spec_l2Apply.l0
  exact mm
theorem spec_l2Apply.mono:∀ a0 a1 k,LeO (spec_l2Apply.f k a0 a1) (spec_l2Apply.f (k+1) a0 a1):=by
 intro a0 a1 k
 have ih0:=spec_l2Apply.mono_l k
 unfold spec_l2Apply.f
 exact mm
theorem spec_l2Apply.calls (k:Nat) (A0_0:Option Addr) (c0_0:Nat) (l0_0:List (List Int)) (A1:Option Addr) (c1:Nat) (l1:List Int) (r:List Int) (w:World) (hr0_0:Kd.C (Kd.slice 5 (Kd.int .u8)) w A0_0 l0_0.length l0_0) (hc0_0:l0_0.length≤c0_0) (hr1:Kd.C (Kd.int .u8) w A1 l1.length l1) (hc1:l1.length≤c1) (h:spec_l2Apply.f k l0_0 l1=some r) :
  Calls Try.prog 115 #[.agg #[.slice A0_0 l0_0.length c0_0], .slice A1 l1.length c1] w fun e w'=>∃ v0_:Value,e = .returned (v0_)∧Kd.R (Kd.int .u8) 5 w' w.heap.size (fun _=>True) v0_ r∧Below w.heap.size w w':=by
 have hu27:=Try.underlying27
 have HR0_0:=am hr0_0
 have HC0_0:=am hc0_0
 clear hr0_0 hc0_0
 have HR1:=am hr1
 have HC1:=am hc1
 clear hr1 hc1
 have HB:=am (Below.refl w.heap.size w)
 have H:=h
 unfold spec_l2Apply.f at H
 clear h
 have H':=am H
 clear H
 go_enter Try.func115,Try.ntmps115
 go_wp2_with (first|((with_reducible refine gD 2 ?_);refine gB (cs:=#[.slice A0_0 l0_0.length c0_0]) 27 ?_;intro gb147 hg w3 hbox hb;have BK147:=am (hbox);have GW147:=ye HB hg;replace HB:=yH HB hb;have GE147:=GW147;clear hb hbox hg;obtain ⟨hcz4_0,hfz4_0⟩:=yk1 BK147))
 go_loopg [5,11] k (fun kq v5 v11 w'=>∃ (x5_1:List Int) (x11_1:Int),v11 = .int .i64 x11_1∧Aside0 (spec_l2Apply.l0 kq l1 x5_1 l0_0 (l0_0.length:Int) x11_1=some r)∧Aside0 (kq≤k)∧Aside0 (Kd.R (Kd.int .u8) 5 w' w.heap.size (fun _=>True) v5 x5_1)∧Aside0 (w'.heap[gb147]? = some (.cells #[(.slice A0_0 l0_0.length c0_0)] 27 (0,0)))∧Aside0 (Below w.heap.size w w'))
 case atStart=>exact ⟨(([]:List Int)),(0),D1,H',⟨Nat.le_refl _⟩,⟨D14⟩,⟨yB BK147⟩,⟨yW HB⟩⟩
 case round =>
  clear H'
  try clear c1
  try clear p2
  try clear hcz4_0
  try clear hfz4_0
  obtain ⟨x5_1,x11_1,rfl,HA,HK1,HO_5,BK147,HB⟩:=hrel
  cases gk with
  | zero=>exact absurd HA.out (by simp [spec_l2Apply.l0])
  | succ k1 =>
   have H:=HA.out
   clear HA
   simp only [spec_l2Apply.l0] at H
   by_cases c5:x11_1 < (l0_0.length:Int)
   ·rw [if_pos c5] at H
    have c5b0:=decide_eq_true c5
    clear c5
    obtain ⟨c6,H⟩:=yi H
    have c6b0:=decide_eq_true c6
    clear c6
    obtain ⟨c7,H⟩:=yi H
    have c7b0:=decide_eq_true c7
    clear c7
    obtain ⟨t149,A8,H⟩:=yo H
    obtain ⟨c9,H⟩:=yi H
    have LMc9:=am c9
    clear c9
    generalize hy150:(x5_1 ++ [t149]:List Int)=y150 at H
    have Ny150:=am hy150.symm
    clear hy150
    have H':=am H
    clear H
    have p148:0≤(x11_1:Int):=od D0
    have q148:x11_1 < (l0_0.length:Int):=od D0
    obtain ⟨ad148,A148_0,c148_0,e148,hx148_0,hl148_0,hi148_0⟩:=at_L3 HR0_0.out x11_1 p148 q148
    cases e148
    replace hx148_0:=(HB.out.cell (World.block_lt_of_cell? w _ hx148_0)).trans hx148_0
    have HR148_0:=am hi148_0
    have HC148_0:=am hl148_0
    clear hi148_0 hl148_0
    replace p148:=eq_true p148
    replace q148:=eq_true q148
    go_wp2_with (first|((with_reducible refine gC 150 ?_);refine gM (some 18) Try.func150 (args:=#[.slice A148_0 (rd_L3 l0_0 x11_1).length c148_0, .slice A1 l1.length c1]) (spec_l1Dot.calls k1 _ _ (rd_L3 l0_0 x11_1) _ _ l1 t149 _ (yc (Kd.C_below HR148_0.out HB.out)) HC148_0.out (yc (Kd.C_below HR1.out HB.out)) HC1.out A8.out) ?_;rintro e w' ⟨rfl,⟨nd,rfl⟩⟩;refine ⟨_,rfl,?_⟩)|((with_reducible refine gate_builtin (b:=.append) (xs:=#[.tmp 15, .tmp 19]) rfl ?_);at_builtin;refine Kd.R_append (Kd.int .u8) (w0:=w) w.heap.size rfl (.tmp 15) (.tmp 19) 24 5 (.int .u8 0) 1 rfl Try.underlying24 info5 rfl D8 D11 u5 x5_1 t149 [.int .u8 t149] (fun _=>True) (fun _=>False) rfl rfl D79 (fun _ hk=>hk.elim) D41 (by exact (yR HO_5)) D55 D47 (by have:=LMc9.out;omega) ?_;intro v151 w10 ho hb hg hat;rw [← Ny150.out] at ho;have n0_:=am (blk_grown (g:=gb147) (o:=.cells #[.slice (some ad148) l0_0.length c0_0] 27 (0,0)) (yB BK147) hg (Kd.R_ne HO_5.out BK147.out D8));have n1_:=am (hb);have n2_:=am (ho);clear BK147 HB HO_5;have BK147:=n0_;have HB:=n1_;have HO152:=n2_;clear n0_ n1_ n2_ ho hb hg hat))
    go_roundg k1
    case measure=>have:=HK1.out;omega
    case rel=>exact ⟨(y150),(wrap64 (x11_1+1)),D1,H',⟨D34⟩,⟨yR HO152⟩,⟨yB BK147⟩,⟨yW HB⟩⟩
   rw [if_neg c5] at H
   have c5b0:=decide_eq_false c5
   clear c5
   obtain rfl:=Option.some.inj H
   go_wp2
   go_ret
   exact ⟨_,D2,yR HO_5,yW HB⟩

def spec_l1Scale.l0:Nat→Int→List Int→List Int→Int→Int→Option (List Int)
 | 0,_,_,_,_,_=>none
 | k+1,x0,x5,x8,x9,x10=>if x10 < x9 then (if 0≤x10 then (if x10 < (x8.length:Int) then ((spec_l1Times.f k x0 (rd x8 x10)).bind fun t154=>(if x5.length < 140737488355328 then (spec_l1Scale.l0 k x0 (x5 ++ [t154]) x8 x9 (wrap64 (x10+1))) else (none))) else (none)) else (none)) else (some x5)
def spec_l1Scale.f (k:Nat) (a0:Int) (l1:List Int):Option (List Int):=spec_l1Scale.l0 k a0 ([]:List Int) l1 (l1.length:Int) 0
theorem spec_l1Scale.mono_l:∀ k,(∀ y0 y1 y2 y3 y4,LeO (spec_l1Scale.l0 k y0 y1 y2 y3 y4) (spec_l1Scale.l0 (k+1) y0 y1 y2 y3 y4))
 | 0=>fun _ _ _ _ _ r h=>by simp [spec_l1Scale.l0] at h
 | k+1=>by
  have ih0:=spec_l1Scale.mono_l k
  intro y0 y1 y2 y3 y4
  unfold spec_l1Scale.l0
  exact mm
theorem spec_l1Scale.mono:∀ a0 a1 k,LeO (spec_l1Scale.f k a0 a1) (spec_l1Scale.f (k+1) a0 a1):=by
 intro a0 a1 k
 have ih0:=spec_l1Scale.mono_l k
 unfold spec_l1Scale.f
 exact mm
theorem spec_l1Scale.calls (k:Nat) (a0:Int) (A1:Option Addr) (c1:Nat) (l1:List Int) (r:List Int) (w:World) (hr1:Kd.C (Kd.int .u8) w A1 l1.length l1) (hc1:l1.length≤c1) (h:spec_l1Scale.f k a0 l1=some r) :
  Calls Try.prog 122 #[.int .u8 a0, .slice A1 l1.length c1] w fun e w'=>∃ v0_:Value,e = .returned (v0_)∧Kd.R (Kd.int .u8) 5 w' w.heap.size (fun _=>True) v0_ r∧Below w.heap.size w w':=by
 have HR1:=am hr1
 have HC1:=am hc1
 clear hr1 hc1
 have HB:=am (Below.refl w.heap.size w)
 have H:=h
 unfold spec_l1Scale.f at H
 clear h
 have H':=am H
 clear H
 go_enter Try.func122,Try.ntmps122
 go_wp2
 go_loopg [5,10] k (fun kq v5 v10 w'=>∃ (x5_1:List Int) (x10_1:Int),v10 = .int .i64 x10_1∧Aside0 (spec_l1Scale.l0 kq a0 x5_1 l1 (l1.length:Int) x10_1=some r)∧Aside0 (kq≤k)∧Aside0 (Kd.R (Kd.int .u8) 5 w' w.heap.size (fun _=>True) v5 x5_1)∧Aside0 (Below w.heap.size w w'))
 case atStart=>exact ⟨(([]:List Int)),(0),D1,H',⟨Nat.le_refl _⟩,⟨D14⟩,⟨yW HB⟩⟩
 case round =>
  clear H'
  try clear c1
  try clear p2
  obtain ⟨x5_1,x10_1,rfl,HA,HK1,HO_5,HB⟩:=hrel
  cases gk with
  | zero=>exact absurd HA.out (by simp [spec_l1Scale.l0])
  | succ k1 =>
   have H:=HA.out
   clear HA
   simp only [spec_l1Scale.l0] at H
   by_cases c3:x10_1 < (l1.length:Int)
   ·rw [if_pos c3] at H
    have c3b0:=decide_eq_true c3
    clear c3
    obtain ⟨c4,H⟩:=yi H
    have c4b0:=decide_eq_true c4
    clear c4
    obtain ⟨c5,H⟩:=yi H
    have c5b0:=decide_eq_true c5
    clear c5
    obtain ⟨t154,A6,H⟩:=yo H
    obtain ⟨c7,H⟩:=yi H
    have LMc7:=am c7
    clear c7
    generalize hy155:(x5_1 ++ [t154]:List Int)=y155 at H
    have Ny155:=am hy155.symm
    clear hy155
    have H':=am H
    clear H
    have p153:0≤(x10_1:Int):=od D0
    have q153:x10_1 < (l1.length:Int):=od D0
    obtain ⟨ad153,e153,hx153_0⟩:=Kd.at_int HR1.out x10_1 p153 q153
    cases e153
    replace hx153_0:=(HB.out.cell (World.block_lt_of_cell? w _ hx153_0)).trans hx153_0
    replace p153:=eq_true p153
    replace q153:=eq_true q153
    go_wp2_with (first|((with_reducible refine gC 152 ?_);refine gM (some 17) Try.func152 (args:=#[.int .u8 a0, .int .u8 (rd l1 x10_1)]) (spec_l1Times.calls k1 a0 (rd l1 x10_1) t154 _ A6.out) ?_;rintro e w' ⟨rfl,⟨nd,rfl⟩⟩;refine ⟨_,rfl,?_⟩)|((with_reducible refine gate_builtin (b:=.append) (xs:=#[.tmp 14, .tmp 18]) rfl ?_);at_builtin;refine Kd.R_append (Kd.int .u8) (w0:=w) w.heap.size rfl (.tmp 14) (.tmp 18) 24 5 (.int .u8 0) 1 rfl Try.underlying24 info5 rfl D8 D11 u5 x5_1 t154 [.int .u8 t154] (fun _=>True) (fun _=>False) rfl rfl D79 (fun _ hk=>hk.elim) D41 (by exact (yR HO_5)) D55 D47 (by have:=LMc7.out;omega) ?_;intro v156 w8 ho hb hg hat;rw [← Ny155.out] at ho;have n0_:=am (hb);have n1_:=am (ho);clear HB HO_5;have HB:=n0_;have HO157:=n1_;clear n0_ n1_ ho hb hg hat))
    go_roundg k1
    case measure=>have:=HK1.out;omega
    case rel=>exact ⟨(y155),(wrap64 (x10_1+1)),D1,H',⟨D34⟩,⟨yR HO157⟩,⟨yW HB⟩⟩
   rw [if_neg c3] at H
   have c3b0:=decide_eq_false c3
   clear c3
   obtain rfl:=Option.some.inj H
   go_wp2
   go_ret
   exact ⟨_,D2,yR HO_5,yW HB⟩

def spec_l1Power.l0:Nat→Int→Int→Int→Option (Int)
 | 0,_,_,_=>none
 | k+1,x0,x1,x5=>if x1 > 0 then ((spec_l1Times.f k x5 x0).bind fun t158=>(spec_l1Power.l0 k x0 (wrap64 (x1 - 1)) t158)) else (some x5)
def spec_l1Power.f (k:Nat) (a0:Int) (a1:Int):Option (Int):=spec_l1Power.l0 k a0 a1 1
theorem spec_l1Power.mono_l:∀ k,(∀ y0 y1 y2,LeO (spec_l1Power.l0 k y0 y1 y2) (spec_l1Power.l0 (k+1) y0 y1 y2))
 | 0=>fun _ _ _ r h=>by simp [spec_l1Power.l0] at h
 | k+1=>by
  have ih0:=spec_l1Power.mono_l k
  intro y0 y1 y2
  unfold spec_l1Power.l0
  exact mm
theorem spec_l1Power.mono:∀ a0 a1 k,LeO (spec_l1Power.f k a0 a1) (spec_l1Power.f (k+1) a0 a1):=by
 intro a0 a1 k
 have ih0:=spec_l1Power.mono_l k
 unfold spec_l1Power.f
 exact mm
theorem spec_l1Power.calls (k:Nat) (a0:Int) (a1:Int) (r:Int) (w:World) (h:spec_l1Power.f k a0 a1=some r) :
  Calls Try.prog 138 #[.int .u8 a0, .int .i64 a1] w fun e w'=>e = .returned (.int .u8 r)∧Drawn0 w w':=by
 have H:=h
 unfold spec_l1Power.f at H
 clear h
 have H':=am H
 clear H
 go_enter Try.func138,Try.ntmps138
 go_wp2
 go_loopg [1,5] k (fun kq v1 v5 w'=>∃ (x1_1:Int) (x5_1:Int),v1 = .int .i64 x1_1∧v5 = .int .u8 x5_1∧Aside0 (spec_l1Power.l0 kq a0 x1_1 x5_1=some r)∧Aside0 (kq≤k)∧Drawn0 w w')
 case atStart=>exact ⟨(a1),(1),D1,D1,H',⟨Nat.le_refl _⟩,D12⟩
 case round =>
  clear H'
  try clear c1
  try clear p2
  obtain ⟨x1_1,x5_1,rfl,rfl,HA,HK1,⟨m1,rfl⟩⟩:=hrel
  cases gk with
  | zero=>exact absurd HA.out (by simp [spec_l1Power.l0])
  | succ k1 =>
   have H:=HA.out
   clear HA
   simp only [spec_l1Power.l0] at H
   by_cases c3:x1_1 > 0
   ·rw [if_pos c3] at H
    have c3b0:decide (0 < x1_1)=true:=decide_eq_true c3
    clear c3
    obtain ⟨t158,A4,H⟩:=yo H
    have H':=am H
    clear H
    go_wp2_with (first|((with_reducible refine gC 152 ?_);refine gM (some 12) Try.func152 (args:=#[.int .u8 x5_1, .int .u8 a0]) (spec_l1Times.calls k1 x5_1 a0 t158 _ A4.out) ?_;rintro e w' ⟨rfl,⟨nd,rfl⟩⟩;refine ⟨_,rfl,?_⟩))
    go_roundg k1
    case measure=>have:=HK1.out;omega
    case rel=>exact ⟨(wrap64 (x1_1 - 1)),(t158),D1,D1,H',⟨D34⟩,D12⟩
   rw [if_neg c3] at H
   have c3b0:decide (0 < x1_1)=false:=decide_eq_false c3
   clear c3
   obtain rfl:=Option.some.inj H
   go_wp2
   go_ret
   exact ⟨D1,D12⟩

def spec_l5X.f (k:Nat) (a0:Int):Option (Int):=(spec_l1Power.f k 3 (wrap64 (a0+1))).bind fun t159=>(some t159)
theorem spec_l5X.mono:∀ a0 k,LeO (spec_l5X.f k a0) (spec_l5X.f (k+1) a0):=by
 intro a0 k
 unfold spec_l5X.f
 exact mm
theorem spec_l5X.calls (k:Nat) (a0:Int) (r:Int) (w:World) (h:spec_l5X.f k a0=some r) :
  Calls Try.prog 153 #[.int .i64 a0] w fun e w'=>e = .returned (.int .u8 r)∧Drawn0 w w':=by
 have H:=h
 unfold spec_l5X.f at H
 clear h
 obtain ⟨t159,A2,H⟩:=yo H
 obtain rfl:=Option.some.inj H
 go_enter Try.func153,Try.ntmps153
 go_wp2_with (first|((with_reducible refine gC 138 ?_);refine gM (some 5) Try.func138 (args:=#[.int .u8 3, .int .i64 (wrap64 (a0+1))]) (spec_l1Power.calls k 3 (wrap64 (a0+1)) t159 _ A2.out) ?_;rintro e w' ⟨rfl,⟨nd,rfl⟩⟩;refine ⟨_,rfl,?_⟩))
 go_ret
 exact ⟨D1,D12⟩

def spec_l5F.f (k:Nat) (a0_0:Int) (a0_1:Int) (a1:Int):Option (Int):=(spec_l5X.f k a1).bind fun t122=>((spec_l1Power.f k t122 (wrap64 (a0_1 - 1))).bind fun t123=>(some t123))
theorem spec_l5F.mono:∀ a0 a1 a2 k,LeO (spec_l5F.f k a0 a1 a2) (spec_l5F.f (k+1) a0 a1 a2):=by
 intro a0 a1 a2 k
 unfold spec_l5F.f
 exact LeO.bind (spec_l5X.mono _ _) (fun _=>LeO.bind (spec_l1Power.mono _ _ _) (fun _=>LeO.refl _))
set_option maxHeartbeats 4000000 in
theorem spec_l5F.calls (k:Nat) (a0_0:Int) (a0_1:Int) (a1:Int) (r:Int) (w:World) (h:spec_l5F.f k a0_0 a0_1 a1=some r) :
  Calls Try.prog 123 #[.agg #[.int .i64 a0_0, .int .i64 a0_1], .int .i64 a1] w fun e w'=>e = .returned (.int .u8 r)∧Below w.heap.size w w':=by
 unfold spec_l5F.f at h
 obtain ⟨x,hx,h⟩:=Option.bind_eq_some_iff.mp h
 obtain ⟨y,hy,h⟩:=Option.bind_eq_some_iff.mp h
 obtain rfl:=Option.some.inj h
 have HX:=am hx
 have HY:=am hy
 clear hx hy h
 go_enter Try.func123,Try.ntmps123
 go_wp2_with fail
 obtain ⟨W,hW⟩:∃ W:World,W=w.alloc (.cells #[.int .i64 a0_0, .int .i64 a0_1] 30 (0,0)):=⟨_,rfl⟩
 have hb:Below w.heap.size w W:=by rw [hW];exact pa (Below.refl _ _) _
 have hc1:W.cell? ⟨w.heap.size,1,none⟩=some (.int .i64 a0_1):=by rw [hW];go_simp
 rw [← hW]
 have HB:=am hb
 clear hb hW
 go_quiet (first|(go_at_call 153;(with_reducible refine (spec_l5X.calls k a1 x _ HX.out).mono ?_);rintro e w' ⟨rfl,⟨nd,rfl⟩⟩;exact ⟨rfl,_,World.drewN_drewN _ _ _⟩)|(go_at_call 138;(with_reducible refine (spec_l1Power.calls k x (wrap64 (a0_1 - 1)) y _ HY.out).mono ?_);rintro e w' ⟨rfl,⟨nd,rfl⟩⟩;exact ⟨rfl,_,World.drewN_drewN _ _ _⟩))
 go_wp2
 go_ret
 exact ⟨rfl,pb HB.out _⟩

def spec_l5Short.l0:Nat→Int→List Int→Int→Int→Int→Option (List Int)
 | 0,_,_,_,_,_=>none
 | k+1,x1,x5,x6,x161000,x161001=>if x6 < (wrap64 (x161001 - 1)) then ((spec_l5X.f k x1).bind fun t161=>((spec_l1Power.f k t161 x6).bind fun t162=>(if x5.length < 140737488355328 then (spec_l5Short.l0 k x1 (x5 ++ [t162]) (wrap64 (x6+1)) x161000 x161001) else (none)))) else (some x5)
def spec_l5Short.f (k:Nat) (a0_0:Int) (a0_1:Int) (a1:Int):Option (List Int):=spec_l5Short.l0 k a1 ([]:List Int) 0 a0_0 a0_1
theorem spec_l5Short.mono_l:∀ k,(∀ y0 y1 y2 y3 y4,LeO (spec_l5Short.l0 k y0 y1 y2 y3 y4) (spec_l5Short.l0 (k+1) y0 y1 y2 y3 y4))
 | 0=>fun _ _ _ _ _ r h=>by simp [spec_l5Short.l0] at h
 | k+1=>by
  have ih0:=spec_l5Short.mono_l k
  intro y0 y1 y2 y3 y4
  unfold spec_l5Short.l0
  exact mm
theorem spec_l5Short.mono:∀ a0 a1 a2 k,LeO (spec_l5Short.f k a0 a1 a2) (spec_l5Short.f (k+1) a0 a1 a2):=by
 intro a0 a1 a2 k
 have ih0:=spec_l5Short.mono_l k
 unfold spec_l5Short.f
 exact mm
theorem spec_l5Short.calls (k:Nat) (a0_0:Int) (a0_1:Int) (a1:Int) (r:List Int) (w:World) (h:spec_l5Short.f k a0_0 a0_1 a1=some r) :
  Calls Try.prog 151 #[.agg #[.int .i64 a0_0, .int .i64 a0_1], .int .i64 a1] w fun e w'=>∃ v0_:Value,e = .returned (v0_)∧Kd.R (Kd.int .u8) 5 w' w.heap.size (fun _=>True) v0_ r∧Below w.heap.size w w':=by
 have hu30:=Try.underlying30
 have HB:=am (Below.refl w.heap.size w)
 have H:=h
 unfold spec_l5Short.f at H
 clear h
 have H':=am H
 clear H
 go_enter Try.func151,Try.ntmps151
 go_wp2_with (first|((with_reducible refine gD 2 ?_);refine gB (cs:=#[.int .i64 a0_0, .int .i64 a0_1]) 30 ?_;intro gb160 hg w3 hbox hb;have BK160:=am (hbox);have GW160:=ye HB hg;replace HB:=yH HB hb;have GE160:=GW160;clear hb hbox hg))
 go_loopg [5,6] k (fun kq v5 v6 w'=>∃ (x5_1:List Int) (x6_1:Int),v6 = .int .i64 x6_1∧Aside0 (spec_l5Short.l0 kq a1 x5_1 x6_1 a0_0 a0_1=some r)∧Aside0 (kq≤k)∧Aside0 (Kd.R (Kd.int .u8) 5 w' w.heap.size (fun _=>True) v5 x5_1)∧Aside0 (w'.heap[gb160]? = some (.cells #[.int .i64 a0_0, .int .i64 a0_1] 30 (0,0)))∧Aside0 (Below w.heap.size w w'))
 case atStart=>exact ⟨(([]:List Int)),(0),D1,H',⟨Nat.le_refl _⟩,⟨D14⟩,⟨yB BK160⟩,⟨yW HB⟩⟩
 case round =>
  clear H'
  try clear c1
  try clear p2
  obtain ⟨x5_1,x6_1,rfl,HA,HK1,HO_5,BK160,HB⟩:=hrel
  cases gk with
  | zero=>exact absurd HA.out (by simp [spec_l5Short.l0])
  | succ k1 =>
   have H:=HA.out
   clear HA
   simp only [spec_l5Short.l0] at H
   by_cases c4:x6_1 < (wrap64 (a0_1 - 1))
   ·rw [if_pos c4] at H
    have c4b0:=decide_eq_true c4
    clear c4
    obtain ⟨t161,A5,H⟩:=yo H
    obtain ⟨t162,A6,H⟩:=yo H
    obtain ⟨c7,H⟩:=yi H
    have LMc7:=am c7
    clear c7
    generalize hy163:(x5_1 ++ [t162]:List Int)=y163 at H
    have Ny163:=am hy163.symm
    clear hy163
    have H':=am H
    clear H
    obtain ⟨hcz8_0,hcz8_1,hfz8_0,hfz8_1⟩:=yk2 BK160
    go_wp2_with (first|((with_reducible refine gC 153 ?_);refine gM (some 16) Try.func153 (args:=#[.int .i64 a1]) (spec_l5X.calls k1 a1 t161 _ A5.out) ?_;rintro e w' ⟨rfl,⟨nd,rfl⟩⟩;refine ⟨_,rfl,?_⟩)|((with_reducible refine gC 138 ?_);refine gM (some 18) Try.func138 (args:=#[.int .u8 t161, .int .i64 x6_1]) (spec_l1Power.calls k1 t161 x6_1 t162 _ A6.out) ?_;rintro e w' ⟨rfl,⟨nd,rfl⟩⟩;refine ⟨_,rfl,?_⟩)|((with_reducible refine gate_builtin (b:=.append) (xs:=#[.tmp 14, .tmp 19]) rfl ?_);at_builtin;refine Kd.R_append (Kd.int .u8) (w0:=w) w.heap.size rfl (.tmp 14) (.tmp 19) 24 5 (.int .u8 0) 1 rfl Try.underlying24 info5 rfl D8 D11 u5 x5_1 t162 [.int .u8 t162] (fun _=>True) (fun _=>False) rfl rfl D79 (fun _ hk=>hk.elim) D41 (by exact (yR HO_5)) D55 D47 (by have:=LMc7.out;omega) ?_;intro v164 w9 ho hb hg hat;rw [← Ny163.out] at ho;have n0_:=am (blk_grown (g:=gb160) (o:=.cells #[.int .i64 a0_0, .int .i64 a0_1] 30 (0,0)) (yB BK160) hg (Kd.R_ne HO_5.out BK160.out D8));have n1_:=am (hb);have n2_:=am (ho);clear BK160 HB HO_5;have BK160:=n0_;have HB:=n1_;have HO165:=n2_;clear n0_ n1_ n2_ ho hb hg hat))
    go_roundg k1
    case measure=>have:=HK1.out;omega
    case rel=>exact ⟨(y163),(wrap64 (x6_1+1)),D1,H',⟨D34⟩,⟨yR HO165⟩,⟨yB BK160⟩,⟨yW HB⟩⟩
   rw [if_neg c4] at H
   have c4b0:=decide_eq_false c4
   clear c4
   obtain rfl:=Option.some.inj H
   obtain ⟨hcz10_0,hcz10_1,hfz10_0,hfz10_1⟩:=yk2 BK160
   go_wp2
   go_ret
   exact ⟨_,D2,yR HO_5,yW HB⟩
def spec_l5Row.f (k:Nat) (a0_0:Int) (a0_1:Int) (a1:Int):Option (List Int):=(spec_l5Short.f k a0_0 a0_1 a1).bind fun t167=>((some (([]:List Int):List Int)).bind fun y170=>(if y170.length+t167.length < 140737488355328 then ((some (y170 ++ t167:List Int)).bind fun y173=>((spec_l5F.f k a0_0 a0_1 a1).bind fun t176=>((spec_l1Scale.f k t176 t167).bind fun t177=>(if y173.length+t177.length < 140737488355328 then (some (y173 ++ t177)) else (none))))) else (none)))
theorem spec_l5Row.mono:∀ a0 a1 a2 k,LeO (spec_l5Row.f k a0 a1 a2) (spec_l5Row.f (k+1) a0 a1 a2):=by
 intro a0 a1 a2 k
 unfold spec_l5Row.f
 exact mm
def spec_l5Row.T2:Bool × List (List Nat × List Nat):=(true,[([],[]),([],[]),([0,1],[0,1]),([],[]),([],[]),([3,4,2],[3,4]),([],[]),([5,6,5],[5,6]),([2,7,7],[2,7]),([8,8,0,1,2,3,4,5,6,7,8],[8])])
def spec_l5Row.B2:List Nat:=[0,0,3,0,0,31,0,127,255,511]
theorem spec_l5Row.tab2:rtab .any (opsOf Try.f121 2)=spec_l5Row.T2:=by kernel_rfl
theorem spec_l5Row.bits2:waitsOk spec_l5Row.T2.2 spec_l5Row.B2=true:=by kernel_rfl
theorem spec_l5Row.calls (k:Nat) (a0_0:Int) (a0_1:Int) (a1:Int) (r:List Int) (w:World) (h:spec_l5Row.f k a0_0 a0_1 a1=some r) :
  Calls Try.prog 121 #[.agg #[.int .i64 a0_0, .int .i64 a0_1], .int .i64 a1] w fun e w'=>∃ v0_:Value,e = .returned (v0_)∧Kd.R (Kd.int .u8) 5 w' w.heap.size (fun _=>True) v0_ r∧Below w.heap.size w w':=by
 have hu30:=Try.underlying30
 have HB:=am (Below.refl w.heap.size w)
 have H:=h
 unfold spec_l5Row.f at H
 clear h
 obtain ⟨t167,A3,H⟩:=yo H
 obtain ⟨y170,hy170,H⟩:=ys H
 have Ny170:=am hy170
 clear hy170
 by_cases c4:y170.length+t167.length < 140737488355328
 ·rw [if_pos c4] at H
  have LMc4:=am c4
  clear c4
  obtain ⟨y173,hy173,H⟩:=ys H
  have Ny173:=am hy173
  clear hy173
  obtain ⟨t176,A5,H⟩:=yo H
  obtain ⟨t177,A6,H⟩:=yo H
  obtain ⟨c7,H⟩:=yi H
  have LMc7:=am c7
  clear c7
  generalize hy180:(y173 ++ t177:List Int)=y180 at H
  have Ny180:=am hy180.symm
  clear hy180
  obtain rfl:=Option.some.inj H
  go_enter Try.func121,Try.ntmps121
  try go_wp2_with (first|((with_reducible refine gD 2 ?_);refine gB (cs:=#[.int .i64 a0_0, .int .i64 a0_1]) 30 ?_;intro gb166 hg w8 hbox hb;have BK166:=am (hbox);have GW166:=ye HB hg;replace HB:=yH HB hb;have GE166:=GW166;clear hb hbox hg;obtain ⟨hcz9_0,hcz9_1,hfz9_0,hfz9_1⟩:=yk2 BK166)|((with_reducible refine gC 151 ?_);refine gM (some 8) Try.func151 (args:=#[.agg #[.int .i64 a0_0, .int .i64 a0_1], .int .i64 a1]) (spec_l5Short.calls k a0_0 a0_1 a1 t167 _ A3.out) ?_;rintro e w10 ⟨v168,rfl,ho0,hb⟩;refine ⟨_,rfl,?_⟩;have HO169:=am (Kd.R_lower ho0 (pz (yW HB)));replace BK166:=yb BK166 hb;replace HB:=yH HB hb;clear hb ho0))
  replace HO169:=am (Kd.R_drew HO169.out)
  replace BK166:=am (qd BK166.out)
  replace HB:=am (pd HB.out)
  refine rS (n:=10) (S:=fun w'=>w'.cell? ⟨gb166,0,none⟩=some (.int .i64 a0_0)∧w'.cell? ⟨gb166,1,none⟩=some (.int .i64 a0_1)) (ds:=[]) [(1,10),(4,13),(6,15),(3,12),(0,0),(2,0),(5,0),(7,0),(8,0),(9,4)] D5 rfl spec_l5Row.tab2 spec_l5Row.bits2 ⟨yk BK166 0,yk BK166 1⟩ (fun hHeld HT_ HW_=>?_)
  generalize w10.drew=w11 at HO169 BK166 HB hHeld ⊢
  refine rR ?_
  refine rO (N:=some 9) HT_ rfl rfl D5 D8 (fun K hK=>?_)
  refine Kd.R_lit_step (Kd.int .u8) _ 5 ?hg (N:=9) ?hd (xs:=([]:List Int)) (inner:=[]) (ok:=fun _=>True) (okp:=fun _=>True) ?hr ?hp (fun _ hk=>hk) trivial (Below.refl _ _) (Nat.le_refl _) D43 ?_;(case hd=>rfl);(case hg=>rfl);(case hr=>first|(go_simp;done)|(go_simp;rfl));(case hp=>exact (Reps.none _ _))
  intro v171 w12 ho13 hb hg_ hnew_
  clear hg_ hnew_
  (first|rw [← Ny170.out] at ho13|(simp only [Int.reduceToNat] at ho13;rw [← Ny170.out] at ho13))
  have HO172:=am (Kd.R_lower (Kd.R_new' ho13 (Kd.R_lt (yR HO169))) (pz (yW HB)))
  replace HO169:=eR HO169 (Kd.R_base ho13) hb
  replace BK166:=yb BK166 hb
  replace HB:=yH HB hb
  clear hb ho13
  obtain ⟨Ao15,co15,eo15⟩:=Kd.R_slice HO169.out
  (first|subst eo15|(injection eo15 with f1_ f2_ f3_;have f4_:=f1_.symm;have f5_:=f3_.symm;clear f1_ f2_ f3_;subst f4_;subst f5_))
  refine hK.out _ _ ⟨yk BK166 0,yk BK166 1⟩ (fun hHeld=>?_)
  clear hK K
  refine rN (nA 9) ?_
  refine rO (N:=some 11) HT_ rfl rfl D5 D8 (fun K hK=>?_)
  refine Kd.R_append_rows_step (Kd.int .u8) (w0:=w) w.heap.size D15 (.tmp 9) (.tmp 10) 24 5 (.int .u8 0) 1 rfl Try.underlying24 info5 rfl D8 D11 v171 y170 t167 _ _ _ (fun k_=>some k_ ≠ (.slice Ao15 t167.length co15:Value).ownBlock) (fun _=>False) rfl rfl ?aO ?aR (fun _ _ h=>h) (fun _ h=>h.elim) ?aF ?aB ?aS ?aL ?_
  (case aR=>repeat (first|exact (Kd.R_reads' HO169.out).2.2|(with_reducible refine Kd.C_alloc ?_ _)|(with_reducible refine Kd.C_drewN ?_ _)|(with_reducible refine Kd.C_drew ?_)))
  (case aB=>exact (yW HB))
  (case aF=>exact (fun k_ hk=>Kd.fresh' (Kd.R_lt (yR HO169)) k_ hk))
  (case aO=>exact (by refine sR ?_;exact Kd.R_mono HO172.out (fun _ hk=>hk.2)))
  (case aS=>exact (pz (yW HB)))
  (case aL=>have:=LMc4.out;omega)
  intro v174 w14 ho hb hg hat
  rw [← Ny173.out] at ho
  have n0_:=am (blk_grown (g:=gb166) (o:=.cells #[.int .i64 a0_0, .int .i64 a0_1] 30 (0,0)) (yB BK166) hg (Kd.R_ne HO172.out BK166.out D8))
  have n1_:=am (Kd.R_after (ok:=(fun _=>True)) (yR HO169) hg hat)
  have n2_:=am (hb)
  have n3_:=am (ho)
  clear BK166
  clear HO169
  clear HB
  clear HO172
  have BK166:=n0_
  have HO169:=n1_
  have HB:=n2_
  have HO175:=n3_
  clear n0_ n1_ n2_ n3_
  clear ho hb hg hat
  refine hK.out _ _ ⟨yk BK166 0,yk BK166 1⟩ (fun hHeld=>?_)
  clear hK K
  refine rN (nA 11) ?_
  refine rO (N:=some 14) HT_ rfl rfl D5 D8 (fun K hK=>?_)
  refine goes_ Try.func123 D5 rfl #[.agg #[.int .i64 a0_0, .int .i64 a0_1], .int .i64 a1] D15 rfl rfl D10 ?_
  with_reducible refine (spec_l5F.calls k a0_0 a0_1 a1 t176 _ A5.out).mono ?_
  rintro e w16 ⟨rfl,hb⟩
  refine ⟨_,rfl,?_⟩
  replace HO169:=bR HO169 hb
  replace HO175:=bR HO175 hb
  replace BK166:=yb BK166 hb
  replace HB:=yH HB hb
  (try clear hb)
  (try clear hb2)
  (try clear hk)
  (try clear hi)
  refine hK.out _ _ ⟨yk BK166 0,yk BK166 1⟩ (fun hHeld=>?_)
  clear hK K
  refine rN (nA 14) ?_
  refine rO (N:=some 16) HT_ rfl rfl D5 D8 (fun K hK=>?_)
  refine goes_ Try.func122 D5 rfl #[.int .u8 t176, .slice Ao15 t167.length co15] D15 rfl rfl D10 ?_
  with_reducible refine (spec_l1Scale.calls k t176 _ _ t167 t177 _ (yc (Kd.R_reads' HO169.out).2.2) (Kd.R_reads' HO169.out).2.1 A6.out).mono ?_
  rintro e w17 ⟨v178,rfl,ho0,hb⟩
  refine ⟨_,rfl,?_⟩
  have HO179:=am (Kd.R_lower (Kd.R_new' (Kd.R_new' ho0 (Kd.R_lt (yR HO169))) (Kd.R_lt (yR HO175))) (pz (yW HB)))
  replace HO169:=eR HO169 (Kd.R_base ho0) hb
  replace HO175:=eR HO175 (Kd.R_base ho0) hb
  replace BK166:=yb BK166 hb
  replace HB:=yH HB hb
  (try clear hb)
  (try clear hb2)
  (try clear hk)
  (try clear hi)
  (try clear ho0)
  obtain ⟨Ao19,co19,eo19⟩:=Kd.R_slice HO179.out
  (first|subst eo19|(injection eo19 with f1_ f2_ f3_;have f4_:=f1_.symm;have f5_:=f3_.symm;clear f1_ f2_ f3_;subst f4_;subst f5_))
  refine hK.out _ _ ⟨yk BK166 0,yk BK166 1⟩ (fun hHeld=>?_)
  clear hK K
  refine rN (nA 16) ?_
  refine rO (N:=some 17) HT_ rfl rfl D5 D8 (fun K hK=>?_)
  refine Kd.R_append_rows_step (Kd.int .u8) (w0:=w) w.heap.size D15 (.tmp 11) (.tmp 16) 24 5 (.int .u8 0) 1 rfl Try.underlying24 info5 rfl D8 D11 v174 y173 t177 _ _ _ (fun k_=>some k_ ≠ (.slice Ao15 t167.length co15:Value).ownBlock∧some k_ ≠ (.slice Ao19 t177.length co19:Value).ownBlock) (fun _=>False) rfl rfl ?aO ?aR (fun _ _ h=>h) (fun _ h=>h.elim) ?aF ?aB ?aS ?aL ?_
  (case aR=>repeat (first|exact (Kd.R_reads' HO179.out).2.2|(with_reducible refine Kd.C_alloc ?_ _)|(with_reducible refine Kd.C_drewN ?_ _)|(with_reducible refine Kd.C_drew ?_)))
  (case aB=>exact (yW HB))
  (case aF=>exact (fun k_ hk=>⟨Kd.fresh' (Kd.R_lt (yR HO169)) k_ hk,Kd.fresh' (Kd.R_lt (yR HO179)) k_ hk⟩))
  (case aO=>exact (yR HO175))
  (case aS=>exact (pz (yW HB)))
  (case aL=>have:=LMc7.out;omega)
  intro v181 w18 ho hb hg hat
  rw [← Ny180.out] at ho
  have n0_:=am (blk_grown (g:=gb166) (o:=.cells #[.int .i64 a0_0, .int .i64 a0_1] 30 (0,0)) (yB BK166) hg (Kd.R_ne HO175.out BK166.out D8))
  have n1_:=am (Kd.R_after (ok:=(fun k_=>some k_ ≠ (.slice Ao19 t177.length co19:Value).ownBlock)) (by refine sR ?_;exact Kd.R_mono HO169.out (fun _ hk=>⟨hk.2,hk.1.2⟩)) hg hat)
  have n2_:=am (Kd.R_after (ok:=(fun k_=>some k_ ≠ (.slice Ao15 t167.length co15:Value).ownBlock)) (by refine sR ?_;exact Kd.R_mono HO179.out (fun _ hk=>⟨hk.1.2,hk.2⟩)) hg hat)
  have n3_:=am (hb)
  have n4_:=am (ho)
  clear BK166
  clear HO169
  clear HO179
  clear HB
  clear HO175
  have BK166:=n0_
  have HO169:=n1_
  have HO179:=n2_
  have HB:=n3_
  have HO182:=n4_
  clear n0_ n1_ n2_ n3_ n4_
  clear ho hb hg hat
  refine hK.out _ _ ⟨yk BK166 0,yk BK166 1⟩ (fun hHeld=>?_)
  clear hK K
  refine rN (nA 17) ?_
  refine rR ?_
  refine rD HT_ D5 ?_
  try go_wp2
  go_ret
  exact ⟨_,D2,by refine sR ?_;exact Kd.R_mono HO182.out (fun _ hk=>trivial),yW HB⟩
 rw [if_neg c4] at H
 exact absurd H D43

mutual
def spec_l2Transposed.l0:Nat→List (List Int)→Int→Int→List (List Int)→Option ((List (List Int)))
 | 0,_,_,_,_=>none
 | k+1,x18,x19,x20,x190000=>if x20 < x19 then (if 0≤x20 then (if x20 < (x18.length:Int) then (spec_l2Transposed.l1 k x20 x18 x19 x20 (rd_L3 x18 x20) ((rd_L3 x18 x20).length:Int) 0 x190000) else (none)) else (none)) else (some x190000)
def spec_l2Transposed.l1:Nat→Int→List (List Int)→Int→Int→List Int→Int→Int→List (List Int)→Option ((List (List Int)))
 | 0,_,_,_,_,_,_,_,_=>none
 | k+1,x4,x18,x19,x20,x25,x26,x27,x190000=>if x27 < x26 then (if 0≤x27 then (if x27 < (x25.length:Int) then (if x27 < (x190000.length:Int) then (if 0≤x4 then (if x4 < ((rd_L3 x190000 x27).length:Int) then (spec_l2Transposed.l1 k x4 x18 x19 x20 x25 x26 (wrap64 (x27+1)) (x190000.set (x27:Int).toNat ((rd_L3 x190000 x27).set (x4:Int).toNat (rd x25 x27)))) else (none)) else (none)) else (none)) else (none)) else (none)) else (spec_l2Transposed.l0 k x18 x19 (wrap64 (x20+1)) x190000)
end
def spec_l2Transposed.f (k:Nat) (l0_0:List (List Int)):Option ((List (List Int))):=if 0 < (l0_0.length:Int) then ((spec_l2Blank.f k ((rd_L3 l0_0 0).length:Int) (l0_0.length:Int)).bind fun t186=>(spec_l2Transposed.l0 k l0_0 (l0_0.length:Int) 0 t186)) else (none)
theorem spec_l2Transposed.mono_l:∀ k,(∀ y0 y1 y2 y3,LeO (spec_l2Transposed.l0 k y0 y1 y2 y3) (spec_l2Transposed.l0 (k+1) y0 y1 y2 y3))∧(∀ y0 y1 y2 y3 y4 y5 y6 y7,LeO (spec_l2Transposed.l1 k y0 y1 y2 y3 y4 y5 y6 y7) (spec_l2Transposed.l1 (k+1) y0 y1 y2 y3 y4 y5 y6 y7))
 | 0=>⟨fun _ _ _ _ r h=>by simp [spec_l2Transposed.l0] at h,fun _ _ _ _ _ _ _ _ r h=>by simp [spec_l2Transposed.l1] at h⟩
 | k+1=>by
  obtain ⟨ih0,ih1⟩:=spec_l2Transposed.mono_l k
  refine ⟨?_,?_⟩
  ·intro y0 y1 y2 y3
   unfold spec_l2Transposed.l0
   exact mm
  intro y0 y1 y2 y3 y4 y5 y6 y7
  unfold spec_l2Transposed.l1
  exact mm
theorem spec_l2Transposed.mono:∀ a0 k,LeO (spec_l2Transposed.f k a0) (spec_l2Transposed.f (k+1) a0):=by
 intro a0 k
 obtain ⟨ih0,ih1⟩:=spec_l2Transposed.mono_l k
 unfold spec_l2Transposed.f
 exact mm
def spec_l2Transposed.T1:Bool × List (List Nat × List Nat):=(true,[([],[]),([0],[0]),([1],[1]),([2],[2]),([3],[3]),([],[]),([5],[5]),([6],[6]),([4,7],[4,7]),([],[]),([9,8,8,0,1,2,3,4,5,6,7,8,9],[8,9])])
def spec_l2Transposed.B1:List Nat:=[0,1,3,7,15,0,32,96,255,0,1023]
theorem spec_l2Transposed.tab1:rtab .any (opsOf Try.f126 1)=spec_l2Transposed.T1:=by kernel_rfl
theorem spec_l2Transposed.bits1:waitsOk spec_l2Transposed.T1.2 spec_l2Transposed.B1=true:=by kernel_rfl
theorem spec_l2Transposed.calls (k:Nat) (A0_0:Option Addr) (c0_0:Nat) (l0_0:List (List Int)) (r:List (List Int)) (w:World) (hr0_0:Kd.C (Kd.slice 5 (Kd.int .u8)) w A0_0 l0_0.length l0_0) (hc0_0:l0_0.length≤c0_0) (h:spec_l2Transposed.f k l0_0=some r) :
  Calls Try.prog 126 #[.agg #[.slice A0_0 l0_0.length c0_0]] w fun e w'=>∃ v0_:Value,e = .returned (.agg #[v0_])∧Kd.S (Kd.slice 5 (Kd.int .u8)) 24 w' w.heap.size (fun _=>True) v0_ r∧Below w.heap.size w w':=by
 have hu27:=Try.underlying27
 have HR0_0:=am hr0_0
 have HC0_0:=am hc0_0
 clear hr0_0 hc0_0
 have HB:=am (Below.refl w.heap.size w)
 have H:=h
 unfold spec_l2Transposed.f at H
 clear h
 by_cases c2:0 < (l0_0.length:Int)
 ·rw [if_pos c2] at H
  have c2b0:=decide_eq_true c2
  have c2b1:decide (0 < l0_0.length)=true:=decide_eq_true D11
  clear c2
  obtain ⟨t186,A3,H⟩:=yo H
  have H':=am H
  clear H
  go_enter Try.func126,Try.ntmps126
  try go_wp2_with (first|((with_reducible refine gD 1 ?_);refine gB (cs:=#[.slice A0_0 l0_0.length c0_0]) 27 ?_;intro gb183 hg w4 hbox hb;have BK183:=am (hbox);have GW183:=ye HB hg;replace HB:=yH HB hb;have GE183:=GW183;clear hb hbox hg)|((with_reducible refine gD 2 ?_);refine gB (cs:=#[.slice none 0 0]) 27 ?_;intro gb184 hg w5 hbox hb;have BK184:=am (hbox);have GW184:=ye HB hg;replace HB:=yH HB hb;have NB183_184:=yl BK183 hg;have NB184_183:=yg BK183 hg;replace BK183:=yb BK183 hb;have GE184:=GW184;clear hb hbox hg))
  replace BK183:=am (qd BK183.out)
  replace BK184:=am (qd BK184.out)
  replace HB:=am (pd HB.out)
  have p185:0≤(0:Int):=D11
  have q185:0 < (l0_0.length:Int):=od D0
  obtain ⟨ad185,A185_0,c185_0,e185,hx185_0,hl185_0,hi185_0⟩:=at_L3 HR0_0.out 0 p185 q185
  have hw185_0:=hx185_0
  (try rw [show ((0:Int)).toNat=0 from rfl] at hw185_0)
  (try rw [show 0*1=0 from rfl] at hw185_0)
  (try rw [Addr.add_zero'] at hw185_0)
  cases e185
  have qi185:(0 < l0_0.length)=True:=eq_true D11
  (try rw [show ((0:Int)).toNat=0 from rfl] at hx185_0)
  (try rw [Addr.add_zero'] at hx185_0)
  replace hx185_0:=(HB.out.cell (World.block_lt_of_cell? w _ hx185_0)).trans hx185_0
  have HR185_0:=am hi185_0
  have HC185_0:=am hl185_0
  clear hi185_0 hl185_0
  replace p185:=eq_true p185
  replace q185:=eq_true q185
  refine start_ (n:=11) (S:=fun w'=>w'.cell? ⟨gb183,0,none⟩=some (.slice (some ad185) l0_0.length c0_0)∧w'.cell? ad185=some (.slice A185_0 (rd_L3 l0_0 0).length c185_0)) (ds:=[]) #[Z,Z,Z,Z,Z,Z,Z,Z,Z,Z,Z] D5 rfl rfl ⟨yk BK183 0,((HB.out.cell (World.block_lt_of_cell? w _ hw185_0)).trans hw185_0)⟩ (fun hHeld=>?_);refine with_tabW spec_l2Transposed.tab1 spec_l2Transposed.bits1 (fun HT_ HW_=>?_)
  generalize w5.drew=w6 at BK183 BK184 HB HR185_0 hx185_0 hHeld ⊢
  refine pure_ (i:=0) (N:=some 8) (v:=_) (a':=_) #[Y,Z,Z,Z,Z,Z,Z,Z,Z,Z,Z] rfl rfl (any_of HT_.out D5) hh (Or.inl ⟨D15,nP⟩) nQ ?_
  refine pure_ (i:=5) (N:=some 13) (v:=_) (a':=_) #[Y,Z,Z,Z,Z,Y,Z,Z,Z,Z,Z] rfl rfl (any_of HT_.out D5) hh (Or.inl ⟨D15,nP⟩) nQ ?_
  refine take_ (i:=1) (N:=some 9) (v:=?_) (a':=?_) #[Y,Y,Z,Z,Z,Y,Z,Z,Z,Z,Z] rfl rfl (take_ofW HT_.out HW_.out D5) hh (Or.inl ⟨D15,?_⟩) hHeld ?_ ?_
  rotate_left
  ·rintro w' ⟨s0,s1⟩
   go_simp
   with_reducible rfl
  rotate_left
  ·simp only [Act.put,q1,q2,q3,i64_w,i32_w]
   rfl
  refine pure_ (i:=2) (N:=some 10) (v:=_) (a':=_) #[Y,Y,Y,Z,Z,Y,Z,Z,Z,Z,Z] rfl rfl (any_of HT_.out D5) hh (Or.inl ⟨D15,nP⟩) nQ ?_
  refine take_ (i:=3) (N:=some 11) (v:=?_) (a':=?_) #[Y,Y,Y,Y,Z,Y,Z,Z,Z,Z,Z] rfl rfl (take_ofW HT_.out HW_.out D5) hh (Or.inl ⟨D15,?_⟩) hHeld ?_ ?_
  rotate_left
  ·rintro w' ⟨s0,s1⟩
   go_simp
   with_reducible rfl
  rotate_left
  ·simp only [Act.put,q1,q2,q3,i64_w,i32_w]
   rfl
  refine pure_ (i:=4) (N:=some 12) (v:=_) (a':=_) #[Y,Y,Y,Y,Y,Y,Z,Z,Z,Z,Z] rfl rfl (any_of HT_.out D5) hh (Or.inl ⟨D15,nP⟩) nQ ?_
  refine take_ (i:=6) (N:=some 14) (v:=?_) (a':=?_) #[Y,Y,Y,Y,Y,Y,Y,Z,Z,Z,Z] rfl rfl (take_ofW HT_.out HW_.out D5) hh (Or.inl ⟨D15,?_⟩) hHeld ?_ ?_
  rotate_left
  ·rintro w' ⟨s0,s1⟩
   go_simp
   with_reducible rfl
  rotate_left
  ·simp only [Act.put,q1,q2,q3,i64_w,i32_w]
   rfl
  refine pure_ (i:=7) (N:=some 15) (v:=_) (a':=_) #[Y,Y,Y,Y,Y,Y,Y,Y,Z,Z,Z] rfl rfl (any_of HT_.out D5) hh (Or.inl ⟨D15,nP⟩) nQ ?_
  refine join_ (σ:=Value × Nat) 1 #[Y,Y,Y,Y,Y,Y,Y,Y,Y,Y,Z] (fun s_=>[(16, .agg #[s_.1]),(3, .pointer (some ⟨s_.2,0,none⟩))]) (fun s_ w'=>(w'.cell? ⟨gb183,0,none⟩=some (.slice (some ad185) l0_0.length c0_0)∧w'.cell? ad185=some (.slice A185_0 (rd_L3 l0_0 0).length c185_0))∧(Kd.S (Kd.slice 5 (Kd.int .u8)) 24 w' w.heap.size (fun _=>True) s_.1 t186)∧(w'.heap[gb183]? = some (.cells #[.slice (some ad185) l0_0.length c0_0] 27 (0,0)))∧(w'.heap[gb184]? = some (.cells #[.slice none 0 0] 27 (0,0)))∧(w'.heap[s_.2]? = some (.cells #[.slice none 0 0] 27 (0,0)))∧(w.heap.size≤s_.2)∧(w.heap.size≤s_.2)∧(gb183 ≠ s_.2)∧(s_.2 ≠ gb183)∧(gb184 ≠ s_.2)∧(s_.2 ≠ gb184)∧(Below w.heap.size w w')) ?_ ?_
  rotate_left
  ·intro hCont
   refine two_ (i:=8) (j:=9) (Ni:=some 16) (Nj:=some 3) #[Y,Y,Y,Y,Y,Y,Y,Y,Y,Z,Z] #[Y,Y,Y,Y,Y,Y,Y,Y,Z,Y,Z] rfl rfl rfl rfl (two_of HT_.out D5) D8 D8 (fun K hK=>?_) (fun K hK=>?_)
   ·skip
    refine goes_ Try.func124 D5 rfl #[.int .i64 ((rd_L3 l0_0 0).length:Int), .int .i64 (l0_0.length:Int)] D15 rfl rfl D10 ?_
    with_reducible refine (spec_l2Blank.calls k ((rd_L3 l0_0 0).length:Int) (l0_0.length:Int) t186 _ A3.out).mono ?_
    rintro e w7 ⟨v187,rfl,ho0,hb⟩
    refine ⟨_,rfl,?_⟩
    have HO188:=am (Kd.S_lower ho0 (pz (yW HB)))
    replace BK183:=yb BK183 hb
    replace BK184:=yb BK184 hb
    replace HB:=yH HB hb
    (try clear hb)
    (try clear hb2)
    (try clear hk)
    (try clear hi)
    (try clear ho0)
    refine hK.out _ _ ⟨yk BK183 0,((HB.out.cell (World.block_lt_of_cell? w _ hw185_0)).trans hw185_0)⟩ (fun hHeld=>?_)
    clear hK K
    refine norm_ (nA 16) ?_
    refine one_ (i:=9) (N:=some 3) #[Y,Y,Y,Y,Y,Y,Y,Y,Y,Y,Z] rfl rfl (one_of HT_.out D5) D8 (fun K hK=>?_)
    refine box_step ?hg (N:=3) ?hd (cs:=#[.slice none 0 0]) (t:=27) ?hr ?_;(case hd=>rfl);(case hg=>rfl);(case hr=>first|(go_simp;done)|(go_simp;rfl))
    intro gb189 hg w8 hbox hb
    replace HO188:=bS HO188 hb
    have BK189:=am (hbox)
    have GW189:=ye HB hg
    replace HB:=yH HB hb
    have NB183_189:=yl BK183 hg
    have NB189_183:=yg BK183 hg
    replace BK183:=yb BK183 hb
    have NB184_189:=yl BK184 hg
    have NB189_184:=yg BK184 hg
    replace BK184:=yb BK184 hb
    have GE189:=GW189
    clear hb hbox hg
    refine hK.out _ _ ⟨yk BK183 0,((HB.out.cell (World.block_lt_of_cell? w _ hw185_0)).trans hw185_0)⟩ (fun hHeld=>?_)
    clear hK K
    refine norm_ (nA 3) ?_
    exact norm_ (by simp only [putAll,Act.put,q1,q2,q3]) (hCont (v187,gb189) _ ⟨hHeld,(yS HO188),(yB BK183),(yB BK184),(yB BK189),GW189.out,GE189.out,NB183_189.out,NB189_183.out,NB184_189.out,NB189_184.out,(yW HB)⟩)
   skip
   refine box_step ?hg (N:=3) ?hd (cs:=#[.slice none 0 0]) (t:=27) ?hr ?_;(case hd=>rfl);(case hg=>rfl);(case hr=>first|(go_simp;done)|(go_simp;rfl))
   intro gb189 hg w7 hbox hb
   have BK189:=am (hbox)
   have GW189:=ye HB hg
   replace HB:=yH HB hb
   have NB183_189:=yl BK183 hg
   have NB189_183:=yg BK183 hg
   replace BK183:=yb BK183 hb
   have NB184_189:=yl BK184 hg
   have NB189_184:=yg BK184 hg
   replace BK184:=yb BK184 hb
   have GE189:=GW189
   clear hb hbox hg
   refine hK.out _ _ ⟨yk BK183 0,((HB.out.cell (World.block_lt_of_cell? w _ hw185_0)).trans hw185_0)⟩ (fun hHeld=>?_)
   clear hK K
   refine norm_ (nA 3) ?_
   refine one_ (i:=8) (N:=some 16) #[Y,Y,Y,Y,Y,Y,Y,Y,Y,Y,Z] rfl rfl (one_of HT_.out D5) D8 (fun K hK=>?_)
   refine goes_ Try.func124 D5 rfl #[.int .i64 ((rd_L3 l0_0 0).length:Int), .int .i64 (l0_0.length:Int)] D15 rfl rfl D10 ?_
   with_reducible refine (spec_l2Blank.calls k ((rd_L3 l0_0 0).length:Int) (l0_0.length:Int) t186 _ A3.out).mono ?_
   rintro e w8 ⟨v187,rfl,ho0,hb⟩
   refine ⟨_,rfl,?_⟩
   have HO188:=am (Kd.S_lower ho0 (pz (yW HB)))
   replace BK183:=yb BK183 hb
   replace BK184:=yb BK184 hb
   replace BK189:=yb BK189 hb
   replace HB:=yH HB hb
   (try clear hb)
   (try clear hb2)
   (try clear hk)
   (try clear hi)
   (try clear ho0)
   refine hK.out _ _ ⟨yk BK183 0,((HB.out.cell (World.block_lt_of_cell? w _ hw185_0)).trans hw185_0)⟩ (fun hHeld=>?_)
   clear hK K
   refine norm_ (nA 16) ?_
   exact norm_ (by simp only [putAll,Act.put,q1,q2,q3]) (hCont (v187,gb189) _ ⟨hHeld,(yS HO188),(yB BK183),(yB BK184),(yB BK189),GW189.out,GE189.out,NB183_189.out,NB189_183.out,NB184_189.out,NB189_184.out,(yW HB)⟩)
  rintro ⟨v187,gb189⟩ w9 ⟨hS_,h0_,h1_,h2_,h3_,h4_,h5_,h6_,h7_,h8_,h9_,h10_⟩
  have n0_:Aside0 (Kd.S (Kd.slice 5 (Kd.int .u8)) 24 w9 w.heap.size (fun _=>True) v187 t186):=⟨h0_⟩
  have n1_:Aside0 (w9.heap[gb183]? = some (.cells #[.slice (some ad185) l0_0.length c0_0] 27 (0,0))):=⟨h1_⟩
  have n2_:Aside0 (w9.heap[gb184]? = some (.cells #[.slice none 0 0] 27 (0,0))):=⟨h2_⟩
  have n3_:Aside0 (w9.heap[gb189]? = some (.cells #[.slice none 0 0] 27 (0,0))):=⟨h3_⟩
  have n4_:Aside0 (w.heap.size≤gb189):=⟨h4_⟩
  have n5_:Aside0 (w.heap.size≤gb189):=⟨h5_⟩
  have n6_:Aside0 (gb183 ≠ gb189):=⟨h6_⟩
  have n7_:Aside0 (gb189 ≠ gb183):=⟨h7_⟩
  have n8_:Aside0 (gb184 ≠ gb189):=⟨h8_⟩
  have n9_:Aside0 (gb189 ≠ gb184):=⟨h9_⟩
  have n10_:Aside0 (Below w.heap.size w w9):=⟨h10_⟩
  clear BK183
  clear BK184
  clear HB
  clear h0_ h1_ h2_ h3_ h4_ h5_ h6_ h7_ h8_ h9_ h10_
  have HO188:=n0_
  have BK183:=n1_
  have BK184:=n2_
  have BK189:=n3_
  have GW189:=n4_
  have GE189:=n5_
  have NB183_189:=n6_
  have NB189_183:=n7_
  have NB184_189:=n8_
  have NB189_184:=n9_
  have HB:=n10_
  clear n0_ n1_ n2_ n3_ n4_ n5_ n6_ n7_ n8_ n9_ n10_
  have hHeld:w9.cell? ⟨gb183,0,none⟩=some (.slice (some ad185) l0_0.length c0_0)∧w9.cell? ad185=some (.slice A185_0 (rd_L3 l0_0 0).length c185_0):=hS_
  obtain ⟨Ao10,co10,eo10⟩:=Kd.S_slice HO188.out
  (first|subst eo10|(injection eo10 with f1_ f2_ f3_;have f4_:=f1_.symm;have f5_:=f3_.symm;clear f1_ f2_ f3_;subst f4_;subst f5_))
  refine norm_ (a':=?_) ?_ ?_
  rotate_left
  ·simp only [putAll,Act.put,q1,q2,q3]
   rfl
  refine one_ (i:=10) (N:=none) #[Y,Y,Y,Y,Y,Y,Y,Y,Y,Y,Y] rfl rfl (one_of HT_.out D5) D8 (fun K hK=>?_)
  have hs11:w9.cell? ⟨gb189,0,none⟩=some (.slice none 0 0):=(blk_cell BK189.out 0).trans rfl
  have hfs11:=blk_frozen BK189.out 0
  have hns11_0:=NB183_189.out
  have hns11_1:=NB184_189.out
  have hms11_0:=NB189_183.out
  have hms11_1:=NB189_184.out
  refine skip_ (w1:=?_) D15 rfl ?_ ?_
  rotate_left
  ·go_simp
   rfl
  refine hK.out _ _ ⟨((cell_far (p:=⟨gb189,_,none⟩) NB183_189.out _).trans (hHeld.1)),((cell_far (p:=⟨gb189,_,none⟩) (by first|exact Nat.ne_of_lt (Nat.lt_of_lt_of_le (by have:=World.block_lt_of_cell? _ _ hw185_0;first|rwa [add_block] at this|exact this) GW189.out)|(rw [add_block];exact Nat.ne_of_lt (Nat.lt_of_lt_of_le (by have:=World.block_lt_of_cell? _ _ hw185_0;first|rwa [add_block] at this|exact this) GW189.out))|(show (Addr.add _ _).block ≠ _;rw [add_block];exact Nat.ne_of_lt (Nat.lt_of_lt_of_le (by have:=World.block_lt_of_cell? _ _ hw185_0;first|rwa [add_block] at this|exact this) GW189.out))|(dsimp only;exact Nat.ne_of_lt (Nat.lt_of_lt_of_le (by have:=World.block_lt_of_cell? _ _ hw185_0;first|rwa [add_block] at this|exact this) GW189.out))) _).trans (hHeld.2))⟩ (fun hHeld=>?_)
  clear hK K
  refine done_ (done_of HT_.out D5) ?_
  have hnb12:=NB183_184.out
  have hnc12:=NB184_183.out
  have hnb13:=NB183_189.out
  have hnc13:=NB189_183.out
  obtain ⟨hcz14_0,hfz14_0⟩:=yk1 BK183
  try go_wp2
  go_loopg [20] k (fun kq v20 w'=>∃ (x20_1:Int) (x190000_1:List (List Int)) (u190000:Value),v20 = .int .i64 x20_1∧Aside0 (spec_l2Transposed.l0 kq l0_0 (l0_0.length:Int) x20_1 x190000_1=some r)∧Aside0 (kq≤k)∧Aside0 (Kd.S (Kd.slice 5 (Kd.int .u8)) 24 w' w.heap.size (fun _=>True) u190000 x190000_1)∧Aside0 (w'.heap[gb183]? = some (.cells #[(.slice (some ad185) l0_0.length c0_0)] 27 (0,0)))∧Aside0 (w'.heap[gb184]? = some (.cells #[(.slice none 0 0)] 27 (0,0)))∧Aside0 (w'.heap[gb189]? = some (.cells #[u190000] 27 (0,0)))∧Aside0 (Below w.heap.size w w'))
  case atStart=>exact ⟨(0),(t186),(.slice Ao10 t186.length co10),D1,H',⟨Nat.le_refl _⟩,⟨by refine sS ?_;exact Kd.S_mono (Kd.S_far (p:=⟨gb189,0,none⟩) (Kd.S_types HO188.out BK189.out D8) (fun _ hk=>hk.2) (.slice Ao10 t186.length co10)) (fun _ hk=>trivial)⟩,⟨yF BK183⟩,⟨yF BK184⟩,⟨by refine sB ?_;refine blk_put (cs:=#[.slice none 0 0]) ?_ 0 _ rfl;exact yB BK189⟩,⟨yW HB⟩⟩
  case round =>
   clear H'
   try clear c1
   try clear p1
   try clear q1
   try clear hx1
   try clear qi1
   try clear c2
   try clear c2b0
   try clear c2b1
   try clear p2
   try clear c12
   try clear c13
   try clear hcz14_0
   try clear hfz14_0
   try clear hx185_0
   try clear p185
   try clear q185
   obtain ⟨x20_1,x190000_1,u190000,rfl,HA,HK1,HO_190000,BK183,BK184,BK189,HB⟩:=hrel
   cases gk with
   | zero=>exact absurd HA.out (by simp [spec_l2Transposed.l0])
   | succ k1 =>
    have H:=HA.out
    clear HA
    simp only [spec_l2Transposed.l0] at H
    by_cases c15:x20_1 < (l0_0.length:Int)
    ·rw [if_pos c15] at H
     have c15b0:=decide_eq_true c15
     clear c15
     obtain ⟨c16,H⟩:=yi H
     have c16b0:=decide_eq_true c16
     clear c16
     obtain ⟨c17,H⟩:=yi H
     have c17b0:=decide_eq_true c17
     clear c17
     have H':=am H
     clear H
     have p190:0≤(x20_1:Int):=od D0
     have q190:x20_1 < (l0_0.length:Int):=od D0
     obtain ⟨ad190,A190_0,c190_0,e190,hx190_0,hl190_0,hi190_0⟩:=at_L3 HR0_0.out x20_1 p190 q190
     obtain rfl:ad185=ad190:=(by injection e190)
     replace hx190_0:=(HB.out.cell (World.block_lt_of_cell? w _ hx190_0)).trans hx190_0
     have HR190_0:=am hi190_0
     have HC190_0:=am hl190_0
     clear hi190_0 hl190_0
     replace p190:=eq_true p190
     replace q190:=eq_true q190
     go_wp2
     go_loopg [27] k1 (fun kq v27 w'=>∃ (x27_2:Int) (x190000_2:List (List Int)) (u190000:Value),v27 = .int .i64 x27_2∧Aside0 (spec_l2Transposed.l1 kq x20_1 l0_0 (l0_0.length:Int) x20_1 (rd_L3 l0_0 x20_1) ((rd_L3 l0_0 x20_1).length:Int) x27_2 x190000_2=some r)∧Aside0 (kq≤k1)∧Aside0 (Kd.S (Kd.slice 5 (Kd.int .u8)) 24 w' w.heap.size (fun _=>True) u190000 x190000_2)∧Aside0 (w'.heap[gb183]? = some (.cells #[(.slice (some ad185) l0_0.length c0_0)] 27 (0,0)))∧Aside0 (w'.heap[gb184]? = some (.cells #[(.slice none 0 0)] 27 (0,0)))∧Aside0 (w'.heap[gb189]? = some (.cells #[u190000] 27 (0,0)))∧Aside0 (Below w.heap.size w w'))
     case atStart=>exact ⟨(0),(x190000_1),(u190000),D1,H',⟨Nat.le_refl _⟩,⟨yS HO_190000⟩,⟨yB BK183⟩,⟨yB BK184⟩,⟨yB BK189⟩,⟨yW HB⟩⟩
     case round =>
      clear H'
      try clear c1
      try clear p1
      try clear q1
      try clear hx1
      try clear qi1
      try clear c2
      try clear c2b0
      try clear c2b1
      try clear p2
      try clear c12
      try clear c13
      try clear c15
      try clear c15b0
      try clear c16
      try clear c16b0
      try clear c17
      try clear c17b0
      try clear hcz14_0
      try clear hfz14_0
      try clear hx185_0
      try clear hx190_0
      try clear p1
      try clear p185
      try clear p190
      try clear p2
      try clear q1
      try clear q185
      try clear q190
      obtain ⟨x27_2,x190000_2,u190000,rfl,HA,HK2,HO_190000,BK183,BK184,BK189,HB⟩:=hrel
      cases gk with
      | zero=>exact absurd HA.out (by simp [spec_l2Transposed.l1])
      | succ k2 =>
       have H:=HA.out
       clear HA
       simp only [spec_l2Transposed.l1] at H
       by_cases c18:x27_2 < ((rd_L3 l0_0 x20_1).length:Int)
       ·rw [if_pos c18] at H
        have c18b0:=decide_eq_true c18
        clear c18
        obtain ⟨c19,H⟩:=yi H
        have c19b0:=decide_eq_true c19
        clear c19
        obtain ⟨c20,H⟩:=yi H
        have c20b0:=decide_eq_true c20
        clear c20
        obtain ⟨c21,H⟩:=yi H
        have c21b0:=decide_eq_true c21
        clear c21
        obtain ⟨c22,H⟩:=yi H
        have c22b0:=decide_eq_true c22
        clear c22
        obtain ⟨c23,H⟩:=yi H
        have c23b0:=decide_eq_true c23
        clear c23
        generalize hy193:((rd_L3 x190000_2 x27_2).set (x20_1:Int).toNat (rd (rd_L3 l0_0 x20_1) x27_2):List Int)=y193 at H
        have Ny193:=am hy193.symm
        clear hy193
        generalize hy195:(x190000_2.set (x27_2:Int).toNat y193:List (List Int))=y195 at H
        have Ny195:=am hy195.symm
        clear hy195
        have H':=am H
        clear H
        have p191:0≤(x27_2:Int):=od D0
        have q191:x27_2 < ((rd_L3 l0_0 x20_1).length:Int):=od D0
        obtain ⟨ad191,e191,hx191_0⟩:=Kd.at_int HR190_0.out x27_2 p191 q191
        cases e191
        replace hx191_0:=(HB.out.cell (World.block_lt_of_cell? w _ hx191_0)).trans hx191_0
        replace p191:=eq_true p191
        replace q191:=eq_true q191
        have hnb25:=NB189_183.out
        have hnc25:=NB183_189.out
        have hnb26:=NB189_184.out
        have hnc26:=NB184_189.out
        obtain ⟨hcz27_0,hfz27_0⟩:=yk1 BK189
        obtain ⟨Ao28,co28,eo28⟩:=Kd.S_slice HO_190000.out
        subst eo28
        have p192:0≤(x27_2:Int):=od D0
        have q192:x27_2 < (x190000_2.length:Int):=od D0
        obtain ⟨ad192,A192_0,c192_0,e192,hx192_0,hl192_0,hi192_0⟩:=at_L3 (Kd.S_reads' HO_190000.out).2.2 x27_2 p192 q192
        cases e192
        obtain ⟨ce192,hce192,hMe192,hcc192⟩:=Kd.S_get HO_190000.out [] x27_2 p192 (by first|exact q192|exact od D0|(have e_:=(Kd.S_reads' HO_190000.out).1;omega))
        obtain ⟨ve192_0,rfl,ge192_0⟩:=hMe192
        have hv192_0:=hcc192 0 _ rfl
        rw [Nat.add_zero,show ((Kd.slice 5 (Kd.int .u8))).sz=1 from rfl,Nat.mul_one] at hv192_0
        replace hv192_0:=Option.some.inj (hv192_0.symm.trans hx192_0)
        rw [hv192_0] at ge192_0
        have HL192_0:=am (show Kd.R (Kd.int .u8) 5 _ _ _ _ (rd_L3 x190000_2 x27_2) from ge192_0)
        clear hv192_0 ge192_0
        have HX192_0:=am hx192_0
        clear hcc192 hce192
        have HR192_0:=am hi192_0
        have HC192_0:=am hl192_0
        clear hi192_0 hl192_0
        replace p192:=eq_true p192
        replace q192:=eq_true q192
        have p24:0≤(x20_1:Int):=od D0
        have q24:(x20_1:Int) < (((rd_L3 x190000_2 x27_2).length:Int):Int):=od D0
        obtain ⟨go24,co24,eo24,gb24,gl24,cl24,HG24⟩:=Kd.R_form HL192_0.out D11
        (first|cases eo24|(injection eo24 with ea_ en_ ec_;(first|subst ea_|(injection ea_ with ea_;subst ea_));subst ec_;clear en_))
        have GB24:=am gb24
        have GG24:=am HG24
        clear gb24 gl24 HG24
        obtain ⟨hx24_0,hf24_0⟩:=Kd.R_celln 0 HL192_0.out (x20_1:Int) p24 q24
        replace p24:=eq_true p24
        replace q24:=eq_true q24
        have hq29:(x27_2:Int) < (x190000_2.length:Int):=(by have h_:(x27_2:Int) < ((x190000_2.length:Int):Int):=od D0;first|exact h_|(have e_:=(Kd.S_reads' HO_190000.out).1;omega)|simpa only [List.length_set,List.length_set] using h_)
        obtain ⟨oki29,ce29,hcl29,hM29,hcc29,hok29,hbk29⟩:=Kd.S_borrow HO_190000.out [] (x27_2:Int) (od D0) hq29
        obtain ⟨ve29_0,rfl,ge29_0⟩:=hM29
        have hv29:=hcc29 0 _ rfl
        rw [Nat.add_zero,show ((Kd.slice 5 (Kd.int .u8))).sz=1 from rfl,Nat.mul_one] at hv29
        replace hv29:=Option.some.inj (hv29.symm.trans HX192_0.out)
        subst hv29
        clear hcc29 hcl29
        replace ge29_0:=(show Kd.R (Kd.int .u8) 5 _ _ _ _ (rd_L3 x190000_2 x27_2) from ge29_0)
        have HP29:=Kd.R_putg ge29_0 (x20_1:Int) (rd (rd_L3 l0_0 x20_1) x27_2)
        go_wp2_with (first|((with_reducible refine gate_store (t:=5) (p:=39) rfl ?_);refine store_event (t:=5) (p:=39) (v:=?vo_w30) (w1:=(wr.setCell ⟨go24,(x20_1:Int).toNat,none⟩ (.int .u8 (rd (rd_L3 l0_0 x20_1) x27_2)))) ?hg ?ho ?hn ?hr ?_;(case ho=>rfl);(case hg=>rfl);(case hn=>rfl);(case hr=>first|(go_simp;done)|(go_simp;rfl));intro w30 hw;have hg:wr.grownBy w30 (some go24):=(by rw [hw];exact HP29.2);have hz_:Kd.R (Kd.int .u8) 5 w30 w.heap.size oki29 (.slice (some ⟨go24,0,none⟩) (rd_L3 x190000_2 x27_2).length c192_0) y193:=(by rw [hw,Ny193.out];exact HP29.1);have hp_:Kd.S (Kd.slice 5 (Kd.int .u8)) 24 w30 w.heap.size (fun _=>True) (.slice (some ad192) x190000_2.length co28) y195:=(by rw [Ny195.out];exact hbk29 hg (fun k_ e_=>by injection e_ with e_;subst e_;exact ge29_0.1 _ rfl) (Kd.M_row hz_));have hm_:=Kd.R_mono hz_ hok29;clear HP29 hbk29;have n0_:=am (hp_);have n1_:=am (blk_grown (g:=gb183) (o:=.cells #[.slice (some ad185) l0_0.length c0_0] 27 (0,0)) (yB BK183) hg (Kd.R_ne HL192_0.out BK183.out D8));have n2_:=am (blk_grown (g:=gb184) (o:=.cells #[.slice none 0 0] 27 (0,0)) (yB BK184) hg (Kd.R_ne HL192_0.out BK184.out D8));have n3_:=am (blk_grown (g:=gb189) (o:=.cells #[.slice (some ad192) x190000_2.length co28] 27 (0,0)) (yB BK189) hg (Kd.R_ne HL192_0.out BK189.out D8));have n4_:=am ((by rw [hw];exact pt (HB.out) GB24.out:Below w.heap.size w w30));have n5_:=am (hm_);have n6_:=am ((Kd.R_reads' hm_).2.1);clear HO_190000 BK183 BK184 BK189 HB HL192_0;have HO_190000:=n0_;have BK183:=n1_;have BK184:=n2_;have BK189:=n3_;have HB:=n4_;have HL196:=n5_;have HC194:=n6_;clear n0_ n1_ n2_ n3_ n4_ n5_ n6_ hg hw hp_ hz_ hm_ hok29))
        go_roundg k2
        case measure=>have:=HK1.out;have:=HK2.out;omega
        case rel=>exact ⟨(wrap64 (x27_2+1)),(y195),(.slice (some ad192) x190000_2.length co28),D1,H',⟨D78⟩,⟨yS HO_190000⟩,⟨yB BK183⟩,⟨yB BK184⟩,⟨yB BK189⟩,⟨yW HB⟩⟩
       rw [if_neg c18] at H
       have c18b0:=decide_eq_false c18
       clear c18
       have H':=am H
       clear H
       go_wp2
       go_roundg k2
       case measure=>have:=HK1.out;have:=HK2.out;omega
       case rel=>exact ⟨(wrap64 (x20_1+1)),(x190000_2),(u190000),D1,H',⟨D78⟩,⟨yS HO_190000⟩,⟨yB BK183⟩,⟨yB BK184⟩,⟨yB BK189⟩,⟨yW HB⟩⟩
    rw [if_neg c15] at H
    have c15b0:=decide_eq_false c15
    clear c15
    obtain rfl:=Option.some.inj H
    have hnb31:=NB189_183.out
    have hnc31:=NB183_189.out
    have hnb32:=NB189_184.out
    have hnc32:=NB184_189.out
    obtain ⟨hcz33_0,hfz33_0⟩:=yk1 BK189
    obtain ⟨Ao34,co34,eo34⟩:=Kd.S_slice HO_190000.out
    subst eo34
    have hnb35:=NB184_183.out
    have hnc35:=NB183_184.out
    obtain ⟨hcz36_0,hfz36_0⟩:=yk1 BK184
    go_wp2
    refine bodyPost_ret (results_cell_row rfl _ _ gb184 27 #[.slice Ao34 x190000_1.length co34] (0,0) _ rfl (by refine sB ?_;refine blk_put (cs:=#[.slice none 0 0]) ?_ 0 _ rfl;exact yB BK184) Try.underlying27 rfl D5) rfl ?_
    exact ⟨_,D2,by refine sS ?_;exact Kd.S_mono (Kd.S_far (p:=⟨gb184,0,none⟩) (Kd.S_types HO_190000.out BK184.out D8) (fun _ hk=>hk.2) (.slice Ao34 x190000_1.length co34)) (fun _ hk=>trivial),yW HB⟩
 rw [if_neg c2] at H
 exact absurd H D43
def spec_l5Encode.l0:Nat→List (S76)→Int→Int→Int→List (List Int)→Option ((List (S76)))
 | 0,_,_,_,_,_=>none
 | k+1,x6,x7,x198000,x198001,x205000=>if x7 < x198000 then ((spec_l5Row.f k x198000 x198001 x7).bind fun t205=>((spec_l2Apply.f k x205000 t205).bind fun t208=>(if x6.length < 4398046511104 then (spec_l5Encode.l0 k (x6 ++ [(⟨x7,t208⟩:S76)]) (wrap64 (x7+1)) x198000 x198001 x205000) else (none)))) else (some x6)
def spec_l5Encode.f (k:Nat) (a0_0:Int) (a0_1:Int) (l1:List Int):Option ((List (S76))):=(spec_l5Message.f k a0_0 a0_1 l1).bind fun t198=>((spec_l2Transposed.f k t198).bind fun t201=>(spec_l5Encode.l0 k ([]:List (S76)) 0 a0_0 a0_1 t201))
theorem spec_l5Encode.mono_l:∀ k,(∀ y0 y1 y2 y3 y4,LeO (spec_l5Encode.l0 k y0 y1 y2 y3 y4) (spec_l5Encode.l0 (k+1) y0 y1 y2 y3 y4))
 | 0=>fun _ _ _ _ _ r h=>by simp [spec_l5Encode.l0] at h
 | k+1=>by
  have ih0:=spec_l5Encode.mono_l k
  intro y0 y1 y2 y3 y4
  unfold spec_l5Encode.l0
  exact mm
theorem spec_l5Encode.mono:∀ a0 a1 a2 k,LeO (spec_l5Encode.f k a0 a1 a2) (spec_l5Encode.f (k+1) a0 a1 a2):=by
 intro a0 a1 a2 k
 have ih0:=spec_l5Encode.mono_l k
 unfold spec_l5Encode.f
 exact mm
def spec_l5Encode.T6:Bool × List (List Nat × List Nat):=(true,[([],[]),([],[]),([],[]),([],[]),([],[]),([3,4],[3,4]),([2,5,5],[2,5]),([1,6],[1,6]),([7],[7]),([0,8,6],[0,8]),([9,9,0,1,2,3,4,5,6,7,8,9],[0,9])])
def spec_l5Encode.B6:List Nat:=[0,0,0,0,0,24,60,126,254,511,1023]
theorem spec_l5Encode.tab6:rtab .any (opsOf Try.f64 6)=spec_l5Encode.T6:=by kernel_rfl
theorem spec_l5Encode.bits6:waitsOk spec_l5Encode.T6.2 spec_l5Encode.B6=true:=by kernel_rfl
theorem spec_l5Encode.calls (k:Nat) (a0_0:Int) (a0_1:Int) (A1:Option Addr) (c1:Nat) (l1:List Int) (r:List (S76)) (w:World) (hr1:Kd.C (Kd.int .u8) w A1 l1.length l1) (hc1:l1.length≤c1) (h:spec_l5Encode.f k a0_0 a0_1 l1=some r) :
  Calls Try.prog 64 #[.agg #[.int .i64 a0_0, .int .i64 a0_1], .slice A1 l1.length c1] w fun e w'=>∃ v0_:Value,e = .returned (v0_)∧Kd.S k76 76 w' w.heap.size (fun _=>True) v0_ r∧Below w.heap.size w w':=by
 have hu30:=Try.underlying30
 have hu27:=Try.underlying27
 have hu76:=Try.underlying76
 have HR1:=am hr1
 have HC1:=am hc1
 clear hr1 hc1
 have HB:=am (Below.refl w.heap.size w)
 have H:=h
 unfold spec_l5Encode.f at H
 clear h
 obtain ⟨t198,A3,H⟩:=yo H
 obtain ⟨t201,A4,H⟩:=yo H
 have H':=am H
 clear H
 go_enter Try.func64,Try.ntmps64
 go_wp2_with (first|((with_reducible refine gD 2 ?_);refine gB (cs:=#[.int .i64 a0_0, .int .i64 a0_1]) 30 ?_;intro gb197 hg w5 hbox hb;have BK197:=am (hbox);have GW197:=ye HB hg;replace HB:=yH HB hb;have GE197:=GW197;clear hb hbox hg;obtain ⟨hcz6_0,hcz6_1,hfz6_0,hfz6_1⟩:=yk2 BK197)|((with_reducible refine gC 58 ?_);refine gM (some 10) Try.func58 (args:=#[.agg #[.int .i64 a0_0, .int .i64 a0_1], .slice A1 l1.length c1]) (spec_l5Message.calls k a0_0 a0_1 _ _ l1 t198 _ (yc (Kd.C_below HR1.out HB.out)) HC1.out A3.out) ?_;rintro e w7 ⟨v199,rfl,ho0,hb⟩;refine ⟨_,rfl,?_⟩;have HO200:=am (Kd.S_lower ho0 (pz (yW HB)));replace BK197:=yb BK197 hb;replace HB:=yH HB hb;clear hb ho0;obtain ⟨Ao8,co8,eo8⟩:=Kd.S_slice HO200.out;subst eo8)|((with_reducible refine gC 126 ?_);refine gM (some 11) Try.func126 (args:=#[.agg #[.slice Ao8 t198.length co8]]) (spec_l2Transposed.calls k _ _ t198 t201 _ (yc (Kd.S_reads' HO200.out).2.2) (Kd.S_reads' HO200.out).2.1 A4.out) ?_;rintro e w9 ⟨v202,rfl,ho0,hb⟩;refine ⟨_,rfl,?_⟩;have HO203:=am (Kd.S_lower (Kd.S_new' ho0 (Kd.S_lt (yS HO200))) (pz (yW HB)));replace HO200:=eS HO200 (Kd.S_base ho0) hb;replace BK197:=yb BK197 hb;replace HB:=yH HB hb;clear hb ho0)|((with_reducible refine gD 5 ?_);refine gB (cs:=#[.slice none 0 0]) 27 ?_;intro gb204 hg w10 hbox hb;replace HO200:=bS HO200 hb;replace HO203:=bS HO203 hb;have BK204:=am (hbox);have GW204:=ye HB hg;replace HB:=yH HB hb;have NB197_204:=yl BK197 hg;have NB204_197:=yg BK197 hg;replace BK197:=yb BK197 hb;have GE204:=GW204;clear hb hbox hg;obtain ⟨Ao11,co11,eo11⟩:=Kd.S_slice HO203.out;subst eo11;have hnb12:=NB204_197.out;have hnc12:=NB197_204.out;obtain ⟨hcz13_0,hfz13_0⟩:=yk1 BK204))
 go_loopg [6,7] k (fun kq v6 v7 w'=>∃ (x6_1:List (S76)) (x7_1:Int),v7 = .int .i64 x7_1∧Aside0 (spec_l5Encode.l0 kq x6_1 x7_1 a0_0 a0_1 t201=some r)∧Aside0 (kq≤k)∧Aside0 (Kd.S k76 76 w' w.heap.size (fun _=>True) v6 x6_1)∧Aside0 (Kd.S (Kd.slice 5 (Kd.int .u8)) 24 w' w.heap.size (fun _=>True) (.slice Ao11 t201.length co11) t201)∧Aside0 (w'.heap[gb197]? = some (.cells #[.int .i64 a0_0, .int .i64 a0_1] 30 (0,0)))∧Aside0 (w'.heap[gb204]? = some (.cells #[(.slice Ao11 t201.length co11)] 27 (0,0)))∧Aside0 (Below w.heap.size w w'))
 case atStart=>exact ⟨(([]:List (S76))),(0),D1,H',⟨Nat.le_refl _⟩,⟨D18⟩,⟨by refine sS ?_;exact Kd.S_mono (Kd.S_far (p:=⟨gb204,0,none⟩) (Kd.S_types HO203.out BK204.out D8) (fun _ hk=>hk.2) (.slice Ao11 t201.length co11)) (fun _ hk=>trivial)⟩,⟨yF BK197⟩,⟨by refine sB ?_;refine blk_put (cs:=#[.slice none 0 0]) ?_ 0 _ rfl;exact yB BK204⟩,⟨yW HB⟩⟩
 case round =>
  clear H'
  try clear c1
  try clear p2
  try clear c5
  try clear c6
  try clear c12
  try clear hcz13_0
  try clear hcz6_0
  try clear hcz6_1
  try clear hfz13_0
  try clear hfz6_0
  try clear hfz6_1
  obtain ⟨x6_1,x7_1,rfl,HA,HK1,HO_6,HO_205000,BK197,BK204,HB⟩:=hrel
  cases gk with
  | zero=>exact absurd HA.out (by simp [spec_l5Encode.l0])
  | succ k1 =>
   have H:=HA.out
   clear HA
   simp only [spec_l5Encode.l0] at H
   by_cases c14:x7_1 < a0_0
   ·rw [if_pos c14] at H
    have c14b0:=decide_eq_true c14
    clear c14
    obtain ⟨t205,A15,H⟩:=yo H
    obtain ⟨t208,A16,H⟩:=yo H
    obtain ⟨c17,H⟩:=yi H
    have LMc17:=am c17
    clear c17
    generalize hy211:(x6_1 ++ [(⟨x7_1,t208⟩:S76)]:List (S76))=y211 at H
    have Ny211:=am hy211.symm
    clear hy211
    have H':=am H
    clear H
    have hnb18:=NB197_204.out
    have hnc18:=NB204_197.out
    obtain ⟨hcz19_0,hcz19_1,hfz19_0,hfz19_1⟩:=yk2 BK197
    try go_wp2
    replace HO_6:=am (Kd.S_drew HO_6.out)
    replace HO_205000:=am (Kd.S_drew HO_205000.out)
    replace BK197:=am (qd BK197.out)
    replace BK204:=am (qd BK204.out)
    replace HB:=am (pd HB.out)
    refine rS (n:=11) (S:=fun w'=>w'.cell? ⟨gb204,0,none⟩=some (.slice Ao11 t201.length co11)∧w'.cell? ⟨gb197,0,none⟩=some (.int .i64 a0_0)∧w'.cell? ⟨gb197,1,none⟩=some (.int .i64 a0_1)) (ds:=[]) [(0,18),(1,19),(4,22),(2,20),(3,21),(5,0),(6,0),(7,25),(8,0),(9,0),(10,6)] D5 rfl spec_l5Encode.tab6 spec_l5Encode.bits6 ⟨yk BK204 0,yk BK197 0,yk BK197 1⟩ (fun hHeld HT_ HW_=>?_)
    generalize wr.drew=w20 at HO_6 HO_205000 BK197 BK204 HB hHeld ⊢
    refine rR ?_
    refine rO (N:=some 23) HT_ rfl rfl D5 D8 (fun K hK=>?_)
    refine goes_ Try.func121 D5 rfl #[.agg #[.int .i64 a0_0, .int .i64 a0_1], .int .i64 x7_1] D15 rfl rfl D10 ?_
    with_reducible refine (spec_l5Row.calls k1 a0_0 a0_1 x7_1 t205 _ A15.out).mono ?_
    rintro e w21 ⟨v206,rfl,ho0,hb⟩
    refine ⟨_,rfl,?_⟩
    replace HO_6:=eS HO_6 (Kd.R_base ho0) hb
    replace HO_205000:=eS HO_205000 (Kd.R_base ho0) hb
    have HO207:=am (Kd.R_lower ho0 (pz (yW HB)))
    replace BK197:=yb BK197 hb
    replace BK204:=yb BK204 hb
    replace HB:=yH HB hb
    (try clear hb)
    (try clear hb2)
    (try clear hk)
    (try clear hi)
    (try clear ho0)
    obtain ⟨Ao22,co22,eo22⟩:=Kd.R_slice HO207.out
    (first|subst eo22|(injection eo22 with f1_ f2_ f3_;have f4_:=f1_.symm;have f5_:=f3_.symm;clear f1_ f2_ f3_;subst f4_;subst f5_))
    refine hK.out _ _ ⟨yk BK204 0,yk BK197 0,yk BK197 1⟩ (fun hHeld=>?_)
    clear hK K
    refine rN (nA 23) ?_
    refine rO (N:=some 24) HT_ rfl rfl D5 D8 (fun K hK=>?_)
    refine goes_ Try.func115 D5 rfl #[.agg #[.slice Ao11 t201.length co11], .slice Ao22 t205.length co22] D15 rfl rfl D10 ?_
    with_reducible refine (spec_l2Apply.calls k1 _ _ t201 _ _ t205 t208 _ (yc (Kd.S_reads' HO_205000.out).2.2) (Kd.S_reads' HO_205000.out).2.1 (yc (Kd.R_reads' HO207.out).2.2) (Kd.R_reads' HO207.out).2.1 A16.out).mono ?_
    rintro e w23 ⟨v209,rfl,ho0,hb⟩
    refine ⟨_,rfl,?_⟩
    replace HO_6:=eS HO_6 (Kd.R_base ho0) hb
    replace HO_205000:=eS HO_205000 (Kd.R_base ho0) hb
    have HO210:=am (Kd.R_lower (Kd.R_new' ho0 (Kd.R_lt (yR HO207))) (pz (yW HB)))
    replace HO207:=eR HO207 (Kd.R_base ho0) hb
    replace BK197:=yb BK197 hb
    replace BK204:=yb BK204 hb
    replace HB:=yH HB hb
    (try clear hb)
    (try clear hb2)
    (try clear hk)
    (try clear hi)
    (try clear ho0)
    obtain ⟨Ao24,co24,eo24⟩:=Kd.R_slice HO210.out
    (first|subst eo24|(injection eo24 with f1_ f2_ f3_;have f4_:=f1_.symm;have f5_:=f3_.symm;clear f1_ f2_ f3_;subst f4_;subst f5_))
    refine hK.out _ _ ⟨yk BK204 0,yk BK197 0,yk BK197 1⟩ (fun hHeld=>?_)
    clear hK K
    refine rN (nA 24) ?_
    refine rR ?_
    refine rO (N:=some 26) HT_ rfl rfl D5 D8 (fun K hK=>?_)
    refine value_ (w1:=?_) (v:=?_) D15 rfl ?_ ?_
    rotate_left 2
    ·go_simp
     constructor
     ·rfl
     rfl
    refine hK.out _ _ ⟨(blk_cell (qa BK204.out _) 0).trans rfl,(blk_cell (qa BK197.out _) 0).trans rfl,(blk_cell (qa BK197.out _) 1).trans rfl⟩ (fun hHeld=>?_)
    clear hK K
    refine rN (nA 26) ?_
    refine rO (N:=some 27) HT_ rfl rfl D5 D8 (fun K hK=>?_)
    refine Kd.S_append_step k76 (w0:=w) w.heap.size D15 (.tmp 18) (.tmp 26) 38 76 (.agg #[(.int .i64 0),(.slice none 0 0)]) 32 rfl Try.underlying38 info76 rfl D8 D11 u6 x6_1 (⟨x7_1,t208⟩:S76) [.int .i64 x7_1, .slice Ao24 t208.length co24] (fun k_=>some k_ ≠ (.slice Ao22 t205.length co22:Value).ownBlock) (fun k_=>some k_=(.slice Ao24 t208.length co24:Value).ownBlock) rfl rfl ?aP (fun k_ hk_=>((Kd.R_mono (ok':=fun k_=>((fun k_=>some k_ ≠ (.slice Ao22 t205.length co22:Value).ownBlock)) k_∧some k_ ≠ (u6:Value).ownBlock) (Kd.R_apart' (HO210.out) (Kd.S_typed HO_6.out) D8) (fun k_ hk=>⟨hk.1.2,hk.2⟩))).1 k_ hk_.symm) ?aF ?aO ?aB ?aS ?aL ?_
    (case aP=>exact k76_mkM _ _ _ (⟨x7_1,t208⟩:S76) (Kd.R_mono (Kd.R_tight rfl (Kd.R_mono (ok':=fun k_=>((fun k_=>some k_ ≠ (.slice Ao22 t205.length co22:Value).ownBlock)) k_∧some k_ ≠ (u6:Value).ownBlock) (Kd.R_apart' (HO210.out) (Kd.S_typed HO_6.out) D8) (fun k_ hk=>⟨hk.1.2,hk.2⟩))) (fun _ h_=>h_)))
    (case aB=>exact (yW HB))
    (case aF=>exact (fun k_ hk=>Kd.fresh' (Kd.R_lt (yR HO207)) k_ hk))
    (case aO=>exact (by refine sS ?_;exact Kd.S_mono HO_6.out (fun k_ hk=>⟨hk.1.2,fun e_=>hk.2 e_⟩)))
    (case aS=>exact (pz (yW HB)))
    (case aL=>have:=LMc17.out;omega)
    intro v212 w25 ho hb hg hat
    rw [← Ny211.out] at ho
    have n0_:=am (Kd.S_over' (yS HO_205000) (Kd.S_typed (yS HO_6)) D8 hg)
    have n1_:=am (blk_grown (g:=gb197) (o:=.cells #[.int .i64 a0_0, .int .i64 a0_1] 30 (0,0)) (yB BK197) hg (Kd.S_ne HO_6.out BK197.out D8))
    have n2_:=am (blk_grown (g:=gb204) (o:=.cells #[.slice Ao11 t201.length co11] 27 (0,0)) (yB BK204) hg (Kd.S_ne HO_6.out BK204.out D8))
    have n3_:=am (Kd.R_over' (yR HO207) (Kd.S_typed (yS HO_6)) D8 hg)
    have n4_:=am (hb)
    have n5_:=am (ho)
    clear HO_205000
    clear BK197
    clear BK204
    clear HO207
    clear HB
    clear HO_6
    clear HO210
    have HO_205000:=n0_
    have BK197:=n1_
    have BK204:=n2_
    have HO207:=n3_
    have HB:=n4_
    have HO213:=n5_
    clear n0_ n1_ n2_ n3_ n4_ n5_
    clear ho hb hg hat
    refine hK.out _ _ ⟨yk BK204 0,yk BK197 0,yk BK197 1⟩ (fun hHeld=>?_)
    clear hK K
    refine rN (nA 27) ?_
    refine rR ?_
    refine rD HT_ D5 ?_
    try go_wp2
    go_roundg k1
    case measure=>have:=HK1.out;omega
    case rel=>exact ⟨(y211),(wrap64 (x7_1+1)),D1,H',⟨D34⟩,⟨by refine sS ?_;exact Kd.S_mono HO213.out (fun _ hk=>trivial)⟩,⟨by refine sS ?_;exact Kd.S_mono HO_205000.out (fun _ hk=>trivial)⟩,⟨yB BK197⟩,⟨yB BK204⟩,⟨yW HB⟩⟩
   rw [if_neg c14] at H
   have c14b0:=decide_eq_false c14
   clear c14
   obtain rfl:=Option.some.inj H
   have hnb26:=NB197_204.out
   have hnc26:=NB204_197.out
   obtain ⟨hcz27_0,hcz27_1,hfz27_0,hfz27_1⟩:=yk2 BK197
   go_wp2
   go_ret
   exact ⟨_,D2,yS HO_6,yW HB⟩

def spec_EncodeMsr.f (k:Nat) (a0_0:Int) (a0_1:Int) (l1:List Int):Option ((List (S76)) × Bool):=(spec_GoodMsr.f a0_0 a0_1).bind fun t215=>(if t215=true then (if (l1.length:Int)=(wrap64 (a0_1*(wrap64 (a0_1 - 1)))) then ((spec_l5Encode.f k a0_0 a0_1 l1).bind fun t216=>(some (t216,true))) else (some (([]:List (S76)),false))) else (some (([]:List (S76)),false)))
theorem spec_EncodeMsr.mono:∀ a0 a1 a2 k,LeO (spec_EncodeMsr.f k a0 a1 a2) (spec_EncodeMsr.f (k+1) a0 a1 a2):=by
 intro a0 a1 a2 k
 unfold spec_EncodeMsr.f
 exact mm
theorem spec_EncodeMsr.calls (k:Nat) (a0_0:Int) (a0_1:Int) (A1:Option Addr) (c1:Nat) (l1:List Int) (r1:List (S76)) (r2:Bool) (w:World) (hr1:Kd.C (Kd.int .u8) w A1 l1.length l1) (hc1:l1.length≤c1) (h:spec_EncodeMsr.f k a0_0 a0_1 l1=some (r1,r2)) :
  Calls Try.prog 18 #[.agg #[.int .i64 a0_0, .int .i64 a0_1], .slice A1 l1.length c1] w fun e w'=>∃ v0_:Value,e = .returned (.tuple #[v0_, .bool r2])∧Kd.S k76 76 w' w.heap.size (fun _=>True) v0_ r1∧Below w.heap.size w w':=by
 have hu30:=Try.underlying30
 have HR1:=am hr1
 have HC1:=am hc1
 clear hr1 hc1
 have HB:=am (Below.refl w.heap.size w)
 have H:=h
 unfold spec_EncodeMsr.f at H
 clear h
 obtain ⟨t215,A3,H⟩:=yo H
 by_cases c4:t215=true
 ·subst c4
  replace H:=yt H
  by_cases c5:(l1.length:Int)=(wrap64 (a0_1*(wrap64 (a0_1 - 1))))
  ·rw [if_pos c5] at H
   have c5b0:((l1.length:Int) == (wrap64 (a0_1*(wrap64 (a0_1 - 1)))))=true:=beq_iff_eq.mpr c5
   have c5b1:((l1.length:Int) != (wrap64 (a0_1*(wrap64 (a0_1 - 1)))))=false:=bne_eq_false_iff_eq.mpr c5
   clear c5
   obtain ⟨t216,A6,H⟩:=yo H
   simp only [Option.some.injEq,Prod.mk.injEq] at H
   obtain ⟨rfl,rfl⟩:=H
   go_enter Try.func18,Try.ntmps18
   go_wp2_with (first|((with_reducible refine gD 2 ?_);(try (refine gate_guard D15 ?_;dsimp only));refine gB (cs:=#[.int .i64 a0_0, .int .i64 a0_1]) 30 ?_;intro gb214 hg w7 hbox hb;have BK214:=am (hbox);have GW214:=ye HB hg;replace HB:=yH HB hb;have GE214:=GW214;clear hb hbox hg;obtain ⟨hcz8_0,hcz8_1,hfz8_0,hfz8_1⟩:=yk2 BK214)|((with_reducible refine gC 47 ?_);refine gM (some 7) Try.func47 (args:=#[.agg #[.int .i64 a0_0, .int .i64 a0_1]]) (spec_GoodMsr.calls a0_0 a0_1 true _ A3.out) ?_;rintro e w9 ⟨rfl,hb⟩;refine ⟨_,rfl,?_⟩;replace BK214:=yb BK214 hb;replace HB:=yH HB hb;clear hb;obtain ⟨hcz10_0,hcz10_1,hfz10_0,hfz10_1⟩:=yk2 BK214)|((with_reducible refine gC 64 ?_);refine gM (some 22) Try.func64 (args:=#[.agg #[.int .i64 a0_0, .int .i64 a0_1], .slice A1 l1.length c1]) (spec_l5Encode.calls k a0_0 a0_1 _ _ l1 t216 _ (yc (Kd.C_below HR1.out HB.out)) HC1.out A6.out) ?_;rintro e w11 ⟨v217,rfl,ho0,hb⟩;refine ⟨_,rfl,?_⟩;have HO218:=am (Kd.S_lower ho0 (pz (yW HB)));replace BK214:=yb BK214 hb;replace HB:=yH HB hb;clear hb ho0))
   go_ret2
   exact ⟨_,D2,yS HO218,yW HB⟩
  rw [if_neg c5] at H
  have c5b0:((l1.length:Int) == (wrap64 (a0_1*(wrap64 (a0_1 - 1)))))=false:=beq_eq_false_iff_ne.mpr c5
  have c5b1:((l1.length:Int) != (wrap64 (a0_1*(wrap64 (a0_1 - 1)))))=true:=bne_iff_ne.mpr c5
  simp only [Option.some.injEq,Prod.mk.injEq] at H
  obtain ⟨rfl,rfl⟩:=H
  go_enter Try.func18,Try.ntmps18
  go_wp2_with (first|((with_reducible refine gD 2 ?_);(try (refine gate_guard D15 ?_;dsimp only));refine gB (cs:=#[.int .i64 a0_0, .int .i64 a0_1]) 30 ?_;intro gb214 hg w12 hbox hb;have BK214:=am (hbox);have GW214:=ye HB hg;replace HB:=yH HB hb;have GE214:=GW214;clear hb hbox hg;obtain ⟨hcz13_0,hcz13_1,hfz13_0,hfz13_1⟩:=yk2 BK214)|((with_reducible refine gC 47 ?_);refine gM (some 7) Try.func47 (args:=#[.agg #[.int .i64 a0_0, .int .i64 a0_1]]) (spec_GoodMsr.calls a0_0 a0_1 true _ A3.out) ?_;rintro e w14 ⟨rfl,hb⟩;refine ⟨_,rfl,?_⟩;replace BK214:=yb BK214 hb;replace HB:=yH HB hb;clear hb;obtain ⟨hcz15_0,hcz15_1,hfz15_0,hfz15_1⟩:=yk2 BK214))
  go_ret2
  exact ⟨_,D2,D18,yW HB⟩
 replace c4:=Bool.eq_false_iff.mpr c4
 subst c4
 replace H:=yn H
 simp only [Option.some.injEq,Prod.mk.injEq] at H
 obtain ⟨rfl,rfl⟩:=H
 go_enter Try.func18,Try.ntmps18
 go_wp2_with (first|((with_reducible refine gD 2 ?_);(try (refine gate_guard D15 ?_;dsimp only));refine gB (cs:=#[.int .i64 a0_0, .int .i64 a0_1]) 30 ?_;intro gb214 hg w16 hbox hb;have BK214:=am (hbox);have GW214:=ye HB hg;replace HB:=yH HB hb;have GE214:=GW214;clear hb hbox hg;obtain ⟨hcz17_0,hcz17_1,hfz17_0,hfz17_1⟩:=yk2 BK214)|((with_reducible refine gC 47 ?_);refine gM (some 7) Try.func47 (args:=#[.agg #[.int .i64 a0_0, .int .i64 a0_1]]) (spec_GoodMsr.calls a0_0 a0_1 false _ A3.out) ?_;rintro e w18 ⟨rfl,hb⟩;refine ⟨_,rfl,?_⟩;replace BK214:=yb BK214 hb;replace HB:=yH HB hb;clear hb))
 go_ret2
 exact ⟨_,D2,D18,yW HB⟩

def impl_dot.l0:Nat→List Int→Int→List Int→Int→Int→Option (Int)
 | 0,_,_,_,_,_=>none
 | k+1,x1,x5,x8,x9,x10=>if x10 < x9 then (if 0≤x10 then (if x10 < (x8.length:Int) then (if x10 < (x1.length:Int) then ((impl_Times.f k (rd x8 x10) (rd x1 x10)).bind fun t221=>(impl_dot.l0 k x1 (Go.bits .xor .u8 x5 t221) x8 x9 (wrap64 (x10+1)))) else (none)) else (none)) else (none)) else (some x5)
def impl_dot.f (k:Nat) (l0:List Int) (l1:List Int):Option (Int):=impl_dot.l0 k l1 0 l0 (l0.length:Int) 0
theorem impl_dot.mono_l:∀ k,(∀ y0 y1 y2 y3 y4,LeO (impl_dot.l0 k y0 y1 y2 y3 y4) (impl_dot.l0 (k+1) y0 y1 y2 y3 y4))
 | 0=>fun _ _ _ _ _ r h=>by simp [impl_dot.l0] at h
 | k+1=>by
  have ih0:=impl_dot.mono_l k
  intro y0 y1 y2 y3 y4
  unfold impl_dot.l0
  exact mm
theorem impl_dot.mono:∀ a0 a1 k,LeO (impl_dot.f k a0 a1) (impl_dot.f (k+1) a0 a1):=by
 intro a0 a1 k
 have ih0:=impl_dot.mono_l k
 unfold impl_dot.f
 exact mm
theorem impl_dot.calls (k:Nat) (A0:Option Addr) (c0:Nat) (l0:List Int) (A1:Option Addr) (c1:Nat) (l1:List Int) (r:Int) (w:World) (hr0:Kd.C (Kd.int .u8) w A0 l0.length l0) (hc0:l0.length≤c0) (hr1:Kd.C (Kd.int .u8) w A1 l1.length l1) (hc1:l1.length≤c1) (h:impl_dot.f k l0 l1=some r) :
  Calls Try.prog 117 #[.slice A0 l0.length c0, .slice A1 l1.length c1] w fun e w'=>e = .returned (.int .u8 r)∧Drawn0 w w':=by
 have HR0:=am hr0
 have HC0:=am hc0
 clear hr0 hc0
 have HR1:=am hr1
 have HC1:=am hc1
 clear hr1 hc1
 have H:=h
 unfold impl_dot.f at H
 clear h
 have H':=am H
 clear H
 go_enter Try.func117,Try.ntmps117
 go_wp2
 go_loopg [5,10] k (fun kq v5 v10 w'=>∃ (x5_1:Int) (x10_1:Int),v5 = .int .u8 x5_1∧v10 = .int .i64 x10_1∧Aside0 (impl_dot.l0 kq l1 x5_1 l0 (l0.length:Int) x10_1=some r)∧Aside0 (kq≤k)∧Drawn0 w w')
 case atStart=>exact ⟨(0),(0),D1,D1,H',⟨Nat.le_refl _⟩,D12⟩
 case round =>
  clear H'
  try clear c1
  try clear p2
  obtain ⟨x5_1,x10_1,rfl,rfl,HA,HK1,⟨m1,rfl⟩⟩:=hrel
  cases gk with
  | zero=>exact absurd HA.out (by simp [impl_dot.l0])
  | succ k1 =>
   have H:=HA.out
   clear HA
   simp only [impl_dot.l0] at H
   by_cases c3:x10_1 < (l0.length:Int)
   ·rw [if_pos c3] at H
    have c3b0:=decide_eq_true c3
    clear c3
    obtain ⟨c4,H⟩:=yi H
    have c4b0:=decide_eq_true c4
    clear c4
    obtain ⟨c5,H⟩:=yi H
    have c5b0:=decide_eq_true c5
    clear c5
    obtain ⟨c6,H⟩:=yi H
    have c6b0:=decide_eq_true c6
    clear c6
    obtain ⟨t221,A7,H⟩:=yo H
    have H':=am H
    clear H
    have p219:0≤(x10_1:Int):=od D0
    have q219:x10_1 < (l0.length:Int):=od D0
    obtain ⟨ad219,e219,hx219_0⟩:=Kd.at_int HR0.out x10_1 p219 q219
    cases e219
    replace p219:=eq_true p219
    replace q219:=eq_true q219
    have p220:0≤(x10_1:Int):=od D0
    have q220:x10_1 < (l1.length:Int):=od D0
    obtain ⟨ad220,e220,hx220_0⟩:=Kd.at_int HR1.out x10_1 p220 q220
    cases e220
    replace p220:=eq_true p220
    replace q220:=eq_true q220
    go_wp2_with (first|((with_reducible refine gC 51 ?_);refine gM (some 21) Try.func51 (args:=#[.int .u8 (rd l0 x10_1), .int .u8 (rd l1 x10_1)]) (impl_Times.calls k1 (rd l0 x10_1) (rd l1 x10_1) t221 _ A7.out) ?_;rintro e w' ⟨rfl,⟨nd,rfl⟩⟩;refine ⟨_,rfl,?_⟩))
    go_roundg k1
    case measure=>have:=HK1.out;omega
    case rel=>exact ⟨(Go.bits .xor .u8 x5_1 t221),(wrap64 (x10_1+1)),D1,D1,H',⟨D34⟩,D12⟩
   rw [if_neg c3] at H
   have c3b0:=decide_eq_false c3
   clear c3
   obtain rfl:=Option.some.inj H
   go_wp2
   go_ret
   exact ⟨D1,D12⟩

def impl_column.l0:Nat→Int→List Int→List (List Int)→Int→Int→Option (List Int)
 | 0,_,_,_,_,_=>none
 | k+1,x1,x5,x9,x10,x11=>if x11 < x10 then (if 0≤x11 then (if x11 < (x9.length:Int) then (if 0≤x1 then (if x1 < ((rd_L3 x9 x11).length:Int) then (if x5.length < 140737488355328 then (impl_column.l0 k x1 (x5 ++ [rd (rd_L3 x9 x11) x1]) x9 x10 (wrap64 (x11+1))) else (none)) else (none)) else (none)) else (none)) else (none)) else (some x5)
def impl_column.f (k:Nat) (l0:List (List Int)) (a1:Int):Option (List Int):=impl_column.l0 k a1 (([]:List Int)) l0 (l0.length:Int) 0
theorem impl_column.mono_l:∀ k,(∀ y0 y1 y2 y3 y4,LeO (impl_column.l0 k y0 y1 y2 y3 y4) (impl_column.l0 (k+1) y0 y1 y2 y3 y4))
 | 0=>fun _ _ _ _ _ r h=>by simp [impl_column.l0] at h
 | k+1=>by
  have ih0:=impl_column.mono_l k
  intro y0 y1 y2 y3 y4
  unfold impl_column.l0
  exact mm
theorem impl_column.mono:∀ a0 a1 k,LeO (impl_column.f k a0 a1) (impl_column.f (k+1) a0 a1):=by
 intro a0 a1 k
 have ih0:=impl_column.mono_l k
 unfold impl_column.f
 exact mm
theorem impl_column.calls (k:Nat) (A0:Option Addr) (c0:Nat) (l0:List (List Int)) (a1:Int) (r:List Int) (w:World) (hr0:Kd.C (Kd.slice 5 (Kd.int .u8)) w A0 l0.length l0) (hc0:l0.length≤c0) (h:impl_column.f k l0 a1=some r) :
  Calls Try.prog 154 #[.slice A0 l0.length c0, .int .i64 a1] w fun e w'=>∃ v0_:Value,e = .returned (v0_)∧Kd.R (Kd.int .u8) 5 w' w.heap.size (fun _=>True) v0_ r∧Below w.heap.size w w':=by
 have HR0:=am hr0
 have HC0:=am hc0
 clear hr0 hc0
 have HB:=am (Below.refl w.heap.size w)
 have H:=h
 unfold impl_column.f at H
 clear h
 generalize hy222:(([]:List Int):List Int)=y222 at H
 have Ny222:=am hy222.symm
 clear hy222
 have H':=am H
 clear H
 go_enter Try.func154,Try.ntmps154
 go_wp2_with (first|((with_reducible refine gD 8 ?_);refine Kd.R_lit (Kd.int .u8) _ 5 D15 (N:=8) D15 (xs:=([]:List Int)) (inner:=[]) (ok:=fun _=>True) (okp:=fun _=>True) D33 D51 (fun _ hk=>hk) trivial (Below.refl _ _) (Nat.le_refl _) D43 ?_;intro v223 w3 ho4 hb hg_ hnew_;clear hg_ hnew_;(first|rw [← Ny222.out] at ho4|(simp only [Int.reduceToNat] at ho4;rw [← Ny222.out] at ho4));have HO224:=am (Kd.R_lower ho4 (pz (yW HB)));replace HB:=yH HB hb;clear hb ho4))
 go_loopg [5,11] k (fun kq v5 v11 w'=>∃ (x5_1:List Int) (x11_1:Int),v11 = .int .i64 x11_1∧Aside0 (impl_column.l0 kq a1 x5_1 l0 (l0.length:Int) x11_1=some r)∧Aside0 (kq≤k)∧Aside0 (Kd.R (Kd.int .u8) 5 w' w.heap.size (fun _=>True) v5 x5_1)∧Aside0 (Below w.heap.size w w'))
 case atStart=>exact ⟨(y222),(0),D1,H',⟨Nat.le_refl _⟩,⟨yR HO224⟩,⟨yW HB⟩⟩
 case round =>
  clear H'
  try clear c1
  try clear p2
  obtain ⟨x5_1,x11_1,rfl,HA,HK1,HO_5,HB⟩:=hrel
  cases gk with
  | zero=>exact absurd HA.out (by simp [impl_column.l0])
  | succ k1 =>
   have H:=HA.out
   clear HA
   simp only [impl_column.l0] at H
   by_cases c5:x11_1 < (l0.length:Int)
   ·rw [if_pos c5] at H
    have c5b0:=decide_eq_true c5
    clear c5
    obtain ⟨c6,H⟩:=yi H
    have c6b0:=decide_eq_true c6
    clear c6
    obtain ⟨c7,H⟩:=yi H
    have c7b0:=decide_eq_true c7
    clear c7
    obtain ⟨c8,H⟩:=yi H
    have c8b0:=decide_eq_true c8
    clear c8
    obtain ⟨c9,H⟩:=yi H
    have c9b0:=decide_eq_true c9
    clear c9
    obtain ⟨c10,H⟩:=yi H
    have LMc10:=am c10
    clear c10
    generalize hy227:(x5_1 ++ [rd (rd_L3 l0 x11_1) a1]:List Int)=y227 at H
    have Ny227:=am hy227.symm
    clear hy227
    have H':=am H
    clear H
    have p225:0≤(x11_1:Int):=od D0
    have q225:x11_1 < (l0.length:Int):=od D0
    obtain ⟨ad225,A225_0,c225_0,e225,hx225_0,hl225_0,hi225_0⟩:=at_L3 HR0.out x11_1 p225 q225
    cases e225
    replace hx225_0:=(HB.out.cell (World.block_lt_of_cell? w _ hx225_0)).trans hx225_0
    have HR225_0:=am hi225_0
    have HC225_0:=am hl225_0
    clear hi225_0 hl225_0
    replace p225:=eq_true p225
    replace q225:=eq_true q225
    have p226:0≤(a1:Int):=od D0
    have q226:a1 < ((rd_L3 l0 x11_1).length:Int):=od D0
    obtain ⟨ad226,e226,hx226_0⟩:=Kd.at_int HR225_0.out a1 p226 q226
    cases e226
    replace hx226_0:=(HB.out.cell (World.block_lt_of_cell? w _ hx226_0)).trans hx226_0
    replace p226:=eq_true p226
    replace q226:=eq_true q226
    go_wp2_with (first|((with_reducible refine gate_builtin (b:=.append) (xs:=#[.tmp 15, .tmp 20]) rfl ?_);at_builtin;refine Kd.R_append (Kd.int .u8) (w0:=w) w.heap.size rfl (.tmp 15) (.tmp 20) 24 5 (.int .u8 0) 1 rfl Try.underlying24 info5 rfl D8 D11 u5 x5_1 (rd (rd_L3 l0 x11_1) a1) [.int .u8 (rd (rd_L3 l0 x11_1) a1)] (fun _=>True) (fun _=>False) rfl rfl D79 (fun _ hk=>hk.elim) D41 (by exact (yR HO_5)) D55 D47 (by have:=LMc10.out;omega) ?_;intro v228 w11 ho hb hg hat;rw [← Ny227.out] at ho;have n0_:=am (hb);have n1_:=am (ho);clear HB HO_5;have HB:=n0_;have HO229:=n1_;clear n0_ n1_ ho hb hg hat))
    go_roundg k1
    case measure=>have:=HK1.out;omega
    case rel=>exact ⟨(y227),(wrap64 (x11_1+1)),D1,H',⟨D34⟩,⟨yR HO229⟩,⟨yW HB⟩⟩
   rw [if_neg c5] at H
   have c5b0:=decide_eq_false c5
   clear c5
   obtain rfl:=Option.some.inj H
   go_wp2
   go_ret
   exact ⟨_,D2,yR HO_5,yW HB⟩

def impl_transposed.l0:Nat→List (List Int)→List (List Int)→Int→Int→Option ((List (List Int)))
 | 0,_,_,_,_=>none
 | k+1,x0,x3,x9,x10=>if x10 < x9 then ((impl_column.f k x0 x10).bind fun t234=>(if x3.length < 5864062014805 then (impl_transposed.l0 k x0 (x3 ++ [t234]) x9 (wrap64 (x10+1))) else (none))) else (some x3)
def impl_transposed.f (k:Nat) (l0:List (List Int)):Option ((List (List Int))):=if 0 < (l0.length:Int) then (impl_transposed.l0 k l0 (([]:List (List Int))) ((rd_L3 l0 0).length:Int) 0) else (none)
theorem impl_transposed.mono_l:∀ k,(∀ y0 y1 y2 y3,LeO (impl_transposed.l0 k y0 y1 y2 y3) (impl_transposed.l0 (k+1) y0 y1 y2 y3))
 | 0=>fun _ _ _ _ r h=>by simp [impl_transposed.l0] at h
 | k+1=>by
  have ih0:=impl_transposed.mono_l k
  intro y0 y1 y2 y3
  unfold impl_transposed.l0
  exact mm
theorem impl_transposed.mono:∀ a0 k,LeO (impl_transposed.f k a0) (impl_transposed.f (k+1) a0):=by
 intro a0 k
 have ih0:=impl_transposed.mono_l k
 unfold impl_transposed.f
 exact mm
theorem impl_transposed.calls (k:Nat) (A0:Option Addr) (c0:Nat) (l0:List (List Int)) (r:List (List Int)) (w:World) (hr0:Kd.C (Kd.slice 5 (Kd.int .u8)) w A0 l0.length l0) (hc0:l0.length≤c0) (h:impl_transposed.f k l0=some r) :
  Calls Try.prog 127 #[.slice A0 l0.length c0] w fun e w'=>∃ v0_:Value,e = .returned (v0_)∧Kd.S (Kd.slice 5 (Kd.int .u8)) 24 w' w.heap.size (fun _=>True) v0_ r∧Below w.heap.size w w':=by
 have HR0:=am hr0
 have HC0:=am hc0
 clear hr0 hc0
 have HB:=am (Below.refl w.heap.size w)
 have H:=h
 unfold impl_transposed.f at H
 clear h
 generalize hy230:(([]:List (List Int)):List (List Int))=y230 at H
 have Ny230:=am hy230.symm
 clear hy230
 by_cases c2:0 < (l0.length:Int)
 ·rw [if_pos c2] at H
  have c2b0:=decide_eq_true c2
  have c2b1:decide (0 < l0.length)=true:=decide_eq_true D11
  clear c2
  have H':=am H
  clear H
  go_enter Try.func127,Try.ntmps127
  go_wp2_with (first|((with_reducible refine gD 5 ?_);refine Kd.S_lit (Kd.slice 5 (Kd.int .u8)) _ 24 D15 (N:=5) D15 (xs:=([]:List (List Int))) (inner:=[]) (ok:=fun _=>True) (okp:=fun _=>True) D33 D51 (fun _ hk=>hk) trivial (Below.refl _ _) (Nat.le_refl _) D43 ?_;intro v231 w3 ho4 hb hg_ hnew_;clear hg_ hnew_;(first|rw [← Ny230.out] at ho4|(simp only [Int.reduceToNat] at ho4;rw [← Ny230.out] at ho4));have HO232:=am (Kd.S_lower ho4 (pz (yW HB)));replace HB:=yH HB hb;clear hb ho4;have p233:0≤(0:Int):=D11;have q233:0 < (l0.length:Int):=od D0;obtain ⟨ad233,A233_0,c233_0,e233,hx233_0,hl233_0,hi233_0⟩:=at_L3 HR0.out 0 p233 q233;cases e233;have qi233:(0 < l0.length)=True:=eq_true D11;(try rw [show ((0:Int)).toNat=0 from rfl] at hx233_0);(try rw [Addr.add_zero'] at hx233_0);replace hx233_0:=(HB.out.cell (World.block_lt_of_cell? w _ hx233_0)).trans hx233_0;have HR233_0:=am hi233_0;have HC233_0:=am hl233_0;clear hi233_0 hl233_0;replace p233:=eq_true p233;replace q233:=eq_true q233))
  go_loopg [3,10] k (fun kq v3 v10 w'=>∃ (x3_1:List (List Int)) (x10_1:Int),v10 = .int .i64 x10_1∧Aside0 (impl_transposed.l0 kq l0 x3_1 ((rd_L3 l0 0).length:Int) x10_1=some r)∧Aside0 (kq≤k)∧Aside0 (Kd.S (Kd.slice 5 (Kd.int .u8)) 24 w' w.heap.size (fun _=>True) v3 x3_1)∧Aside0 (Below w.heap.size w w'))
  case atStart=>exact ⟨(y230),(0),D1,H',⟨Nat.le_refl _⟩,⟨yS HO232⟩,⟨yW HB⟩⟩
  case round =>
   clear H'
   try clear c1
   try clear c2
   try clear c2b0
   try clear c2b1
   try clear p2
   try clear q2
   try clear hx2
   try clear qi2
   try clear hx233_0
   try clear p233
   try clear q233
   obtain ⟨x3_1,x10_1,rfl,HA,HK1,HO_3,HB⟩:=hrel
   cases gk with
   | zero=>exact absurd HA.out (by simp [impl_transposed.l0])
   | succ k1 =>
    have H:=HA.out
    clear HA
    simp only [impl_transposed.l0] at H
    by_cases c5:x10_1 < ((rd_L3 l0 0).length:Int)
    ·rw [if_pos c5] at H
     have c5b0:=decide_eq_true c5
     clear c5
     obtain ⟨t234,A6,H⟩:=yo H
     obtain ⟨c7,H⟩:=yi H
     have LMc7:=am c7
     clear c7
     generalize hy237:(x3_1 ++ [t234]:List (List Int))=y237 at H
     have Ny237:=am hy237.symm
     clear hy237
     have H':=am H
     clear H
     go_wp2_with (first|((with_reducible refine gC 154 ?_);refine gM (some 16) Try.func154 (args:=#[.slice (some ad233) l0.length c0, .int .i64 x10_1]) (impl_column.calls k1 _ _ l0 x10_1 t234 _ (yc (Kd.C_below HR0.out HB.out)) HC0.out A6.out) ?_;rintro e w8 ⟨v235,rfl,ho0,hb⟩;refine ⟨_,rfl,?_⟩;replace HO_3:=eS HO_3 (Kd.R_base ho0) hb;have HO236:=am (Kd.R_lower ho0 (pz (yW HB)));replace HB:=yH HB hb;clear hb ho0;obtain ⟨Ao10,co10,eo10⟩:=Kd.R_slice HO236.out;subst eo10)|((with_reducible refine gate_builtin (b:=.append) (xs:=#[.tmp 13, .tmp 17]) rfl ?_);at_builtin;refine Kd.S_append (Kd.slice 5 (Kd.int .u8)) (w0:=w) w.heap.size rfl (.tmp 13) (.tmp 17) 25 24 (.slice none 0 0) 24 rfl Try.underlying25 info24 rfl D8 D11 u3 x3_1 t234 [.slice Ao10 t234.length co10] (fun _=>True) (fun k_=>some k_=(.slice Ao10 t234.length co10:Value).ownBlock) rfl rfl (by exact Kd.M_row (Kd.R_mono (Kd.R_tight rfl (Kd.R_mono (ok':=fun k_=>((fun _=>True)) k_∧some k_ ≠ (u3:Value).ownBlock) (Kd.R_apart' (HO236.out) (Kd.S_typed HO_3.out) D8) (fun k_ hk=>⟨trivial,hk.2⟩))) (fun _ h_=>h_))) (fun k_ hk_=>((Kd.R_mono (ok':=fun k_=>((fun _=>True)) k_∧some k_ ≠ (u3:Value).ownBlock) (Kd.R_apart' (HO236.out) (Kd.S_typed HO_3.out) D8) (fun k_ hk=>⟨trivial,hk.2⟩))).1 k_ hk_.symm) D41 (by exact (by refine sS ?_;exact Kd.S_mono HO_3.out (fun k_ hk=>⟨trivial,fun e_=>hk.2 e_⟩))) D55 D47 (by have:=LMc7.out;omega) ?_;intro v238 w9 ho hb hg hat;rw [← Ny237.out] at ho;have n0_:=am (hb);have n1_:=am (ho);clear HB HO_3 HO236;have HB:=n0_;have HO239:=n1_;clear n0_ n1_ ho hb hg hat))
     go_roundg k1
     case measure=>have:=HK1.out;omega
     case rel=>exact ⟨(y237),(wrap64 (x10_1+1)),D1,H',⟨D34⟩,⟨yS HO239⟩,⟨yW HB⟩⟩
    rw [if_neg c5] at H
    have c5b0:=decide_eq_false c5
    clear c5
    obtain rfl:=Option.some.inj H
    go_wp2
    go_ret
    exact ⟨_,D2,yS HO_3,yW HB⟩
 rw [if_neg c2] at H
 exact absurd H D43
end Go.Proofs.Yteflgifmdojahaa.PFnMsr
-- SQUEEZED
