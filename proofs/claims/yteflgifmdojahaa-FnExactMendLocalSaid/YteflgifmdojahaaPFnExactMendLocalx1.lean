-- Laid by a program of this session.
import Derived.Test.YteflgifmdojahaaPFnExactMendLocalx0
namespace Go.Proofs.Yteflgifmdojahaa.PFnExactMendLocal
open Go.RowKit Go.Proofs.YteflgifmdojahaaW.PrintWords Go.Proofs.YteflgifmdojahaaW.PrintLast Go.Proofs.YteflgifmdojahaaW.PrintMore
attribute [local go_sem] max2_int min2_int max_two min_two max_three min_three max_four min_four   -- for this text's walks alone
set_option linter.unusedVariables false
set_option maxHeartbeats 8000000
set_option maxRecDepth 100000
set_option linter.unusedSimpArgs false

def laws_szShard.f (a0_0:Int) (a0_1:ByteArray) (a1:Int):Option (Int):=if (wrap64 (a1 - (a0_1.size:Int))) < 0 then (some (-1)) else (some (wrap64 (a1 - (a0_1.size:Int))))
theorem laws_szShard.calls (a0_0:Int) (a0_1:ByteArray) (a1:Int) (r:Int) (w:World) (h:laws_szShard.f a0_0 a0_1 a1=some r) :
  Calls Try.prog 69 #[.agg #[.int .i64 a0_0, .string a0_1], .int .i64 a1] w fun e w'=>e = .returned (.int .i64 r)∧Below w.heap.size w w':=by
 have hu102:=Try.underlying102
 have HB:=am (Below.refl w.heap.size w)
 have H:(if (wrap64 (a1 - (a0_1.size:Int))) < 0 then (some (-1)) else (some (wrap64 (a1 - (a0_1.size:Int)))))=some r:=h
 clear h
 by_cases c3:(wrap64 (a1 - (a0_1.size:Int))) < 0
 ·rw [if_pos c3] at H
  have c3b0:decide ((wrap64 (a1 - (a0_1.size:Int))) < 0)=true:=decide_eq_true c3
  clear c3
  obtain rfl:=Option.some.inj H
  go_enter Try.func69,Try.ntmps69
  go_wp2_with (first|((with_reducible refine gate_dst (N:=2) rfl ?_);refine box_event ?hg (N:=2) ?hd (cs:=#[.int .i64 a0_0, .string a0_1]) (t:=102) ?hr ?_;(case hd=>rfl);(case hg=>rfl);(case hr=>first|(go_simp;done)|(go_simp;rfl));intro gb101 hg w4 hbox hb;have n0_:=am (pu d0 hb);have n1_:=am (hbox);have n2_:=am ((by rw [hg];exact (pz d0):w.heap.size≤gb101));have n3_:=n2_;clear HB;have HB:=n0_;have BK101:=n1_;have GW101:=n2_;have GE101:=n3_;clear n0_ n1_ n2_ n3_;clear hb hbox hg;have hcz5_0:w4.cell? ⟨gb101,0,none⟩=some (.int .i64 a0_0):=(blk_cell BK101.out 0).trans rfl;have hcz5_1:w4.cell? ⟨gb101,1,none⟩=some (.string a0_1):=(blk_cell BK101.out 1).trans rfl;have hfz5_0:=blk_frozen BK101.out 0;have hfz5_1:=blk_frozen BK101.out 1))
  go_ret
  exact ⟨d2,by repeat (first|(with_reducible first|exact HB.out|apply pa|apply pb|apply pd|refine pt ?_ GE101.out)|exact HB.out)⟩
 rw [if_neg c3] at H
 have c3b0:decide ((wrap64 (a1 - (a0_1.size:Int))) < 0)=false:=decide_eq_false c3
 clear c3
 obtain rfl:=Option.some.inj H
 go_enter Try.func69,Try.ntmps69
 go_wp2_with (first|((with_reducible refine gate_dst (N:=2) rfl ?_);refine box_event ?hg (N:=2) ?hd (cs:=#[.int .i64 a0_0, .string a0_1]) (t:=102) ?hr ?_;(case hd=>rfl);(case hg=>rfl);(case hr=>first|(go_simp;done)|(go_simp;rfl));intro gb101 hg w6 hbox hb;have n0_:=am (pu d0 hb);have n1_:=am (hbox);have n2_:=am ((by rw [hg];exact (pz d0):w.heap.size≤gb101));have n3_:=n2_;clear HB;have HB:=n0_;have BK101:=n1_;have GW101:=n2_;have GE101:=n3_;clear n0_ n1_ n2_ n3_;clear hb hbox hg;have hcz7_0:w6.cell? ⟨gb101,0,none⟩=some (.int .i64 a0_0):=(blk_cell BK101.out 0).trans rfl;have hcz7_1:w6.cell? ⟨gb101,1,none⟩=some (.string a0_1):=(blk_cell BK101.out 1).trans rfl;have hfz7_0:=blk_frozen BK101.out 0;have hfz7_1:=blk_frozen BK101.out 1))
 go_ret
 exact ⟨d2,by repeat (first|(with_reducible first|exact HB.out|apply pa|apply pb|apply pd|refine pt ?_ GE101.out)|exact HB.out)⟩

def laws_szShardS.l0:Nat→List (S102)→Int→Int→Option (Int)
 | 0,_,_,_=>none
 | k+1,x0,x1,x5=>if x5 < (x0.length:Int) then (if 0≤x5 then ((laws_szShard.f ((rd_T102 x0 x5).f0) ((rd_T102 x0 x5).f1) x1).bind fun t103=>(if t103 < 0 then (some (-1)) else (laws_szShardS.l0 k x0 t103 (wrap64 (x5+1))))) else (none)) else (some x1)
def laws_szShardS.f (k:Nat) (l0:List (S102)) (a1:Int):Option (Int):=if (wrap64 (a1 - (l0.length:Int))) < 0 then (some (-1)) else (laws_szShardS.l0 k l0 (wrap64 (a1 - (l0.length:Int))) 0)
theorem laws_szShardS.mono_l:∀ k,(∀ y0 y1 y2,LeO (laws_szShardS.l0 k y0 y1 y2) (laws_szShardS.l0 (k+1) y0 y1 y2))
 | 0=>fun _ _ _ r h=>by simp [laws_szShardS.l0] at h
 | k+1=>by
  have ih0:=laws_szShardS.mono_l k
  intro y0 y1 y2
  unfold laws_szShardS.l0
  repeat' first
  | (with_reducible exact ih0 _ _ _)
  |(with_reducible exact LeO.refl _)|(with_reducible exact LeO.none _)|(with_reducible refine LeO.ite ?_ ?_)|(with_reducible refine LeO.bind ?_ (fun _=>?_))|exact ih0 _ _ _|exact LeO.none _|refine LeO.ite ?_ ?_|refine LeO.bind ?_ (fun _=>?_)
theorem laws_szShardS.mono:∀ a0 a1 k,LeO (laws_szShardS.f k a0 a1) (laws_szShardS.f (k+1) a0 a1):=by
 intro a0 a1 k
 have ih0:=laws_szShardS.mono_l k
 unfold laws_szShardS.f
 repeat' first
   | (with_reducible exact ih0 _ _ _)
   |(with_reducible exact LeO.refl _)|(with_reducible exact LeO.none _)|(with_reducible refine LeO.ite ?_ ?_)|(with_reducible refine LeO.bind ?_ (fun _=>?_))|exact ih0 _ _ _|exact LeO.none _|refine LeO.ite ?_ ?_|refine LeO.bind ?_ (fun _=>?_)
theorem laws_szShardS.calls (k:Nat) (A0:Option Addr) (c0:Nat) (l0:List (S102)) (a1:Int) (r:Int) (w:World) (hr0:Kd.C k102 w A0 l0.length l0) (hc0:l0.length≤c0) (h:laws_szShardS.f k l0 a1=some r) :
  Calls Try.prog 23 #[.slice A0 l0.length c0, .int .i64 a1] w fun e w'=>e = .returned (.int .i64 r)∧Below w.heap.size w w':=by
 have hu102:=Try.underlying102
 have HR0:=am hr0
 have HC0:=am hc0
 clear hr0 hc0
 have HB:=am (Below.refl w.heap.size w)
 have H:(if (wrap64 (a1 - (l0.length:Int))) < 0 then (some (-1)) else (laws_szShardS.l0 k l0 (wrap64 (a1 - (l0.length:Int))) 0))=some r:=h
 clear h
 by_cases c3:(wrap64 (a1 - (l0.length:Int))) < 0
 ·rw [if_pos c3] at H
  have c3b0:decide ((wrap64 (a1 - (l0.length:Int))) < 0)=true:=decide_eq_true c3
  clear c3
  obtain rfl:=Option.some.inj H
  go_enter Try.func23,Try.ntmps23
  go_wp2
  go_ret
  exact ⟨d2,d0⟩
 rw [if_neg c3] at H
 have c3b0:decide ((wrap64 (a1 - (l0.length:Int))) < 0)=false:=decide_eq_false c3
 clear c3
 have H':=am H
 clear H
 go_enter Try.func23,Try.ntmps23
 go_wp2
 go_loopg [1,5] k (fun kq v1 v5 w'=>∃ (x1_1:Int) (x5_1:Int),v1 = .int .i64 x1_1∧v5 = .int .i64 x5_1∧Aside0 (laws_szShardS.l0 kq l0 x1_1 x5_1=some r)∧Aside0 (kq≤k)∧Aside0 (Below w.heap.size w w'))
 case atStart=>exact ⟨(wrap64 (a1 - (l0.length:Int))),(0),d4,d4,H',⟨Nat.le_refl _⟩,⟨d0⟩⟩
 case round =>
  clear H'
  try clear c2
  try clear p2
  try clear c3
  try clear c3b0
  obtain ⟨x1_1,x5_1,rfl,rfl,HA,HK1,HB⟩:=hrel
  cases gk with
  | zero=>exact absurd HA.out (by simp [laws_szShardS.l0])
  | succ k1 =>
   have H:=HA.out
   clear HA
   simp only [laws_szShardS.l0] at H
   by_cases c4:x5_1 < (l0.length:Int)
   ·rw [if_pos c4] at H
    have c4b0:decide (x5_1 < (l0.length:Int))=true:=decide_eq_true c4
    clear c4
    by_cases c5:0≤x5_1
    ·rw [if_pos c5] at H
     have c5b0:decide (0≤x5_1)=true:=decide_eq_true c5
     clear c5
     replace H:=Option.bind_eq_some_iff.mp H
     obtain ⟨t103,A60,H⟩:=H
     replace H:(if t103 < 0 then (some (-1)) else (laws_szShardS.l0 k1 l0 t103 (wrap64 (x5_1+1))))=some r:=H
     have A6:=am A60
     clear A60
     by_cases c7:t103 < 0
     ·rw [if_pos c7] at H
      have c7b0:decide (t103 < 0)=true:=decide_eq_true c7
      clear c7
      obtain rfl:=Option.some.inj H
      have p102:0≤(x5_1:Int):=od d3
      have q102:x5_1 < (l0.length:Int):=od d3
      obtain ⟨ad102,e102,hx102_0,hx102_1⟩:=at_T102 HR0.out x5_1 p102 q102
      cases e102
      replace hx102_0:=(HB.out.cell (World.block_lt_of_cell? w _ hx102_0)).trans hx102_0
      replace hx102_1:=(HB.out.cell (World.block_lt_of_cell? w _ hx102_1)).trans hx102_1
      replace p102:=eq_true p102
      replace q102:=eq_true q102
      go_wp2_with (first|((with_reducible refine gate_callee (f:=69) rfl ?_);refine goesL_ (some 23) rfl rfl Try.func69 d5 rfl #[.agg #[.int .i64 ((rd_T102 l0 x5_1).f0), .string ((rd_T102 l0 x5_1).f1)], .int .i64 x1_1] rfl d1 ?_;(with_reducible refine (laws_szShard.calls ((rd_T102 l0 x5_1).f0) ((rd_T102 l0 x5_1).f1) x1_1 t103 _ A6.out).mono ?_);rintro e w8 ⟨rfl,hb⟩;refine ⟨_,rfl,?_⟩;have n0_:=am (pu d0 hb);clear HB;have HB:=n0_;clear n0_;(try clear hb);(try clear hb2);(try clear hk);(try clear hi)))
      go_ret
      exact ⟨d2,d0⟩
     rw [if_neg c7] at H
     have c7b0:decide (t103 < 0)=false:=decide_eq_false c7
     clear c7
     have H':=am H
     clear H
     have p102:0≤(x5_1:Int):=od d3
     have q102:x5_1 < (l0.length:Int):=od d3
     obtain ⟨ad102,e102,hx102_0,hx102_1⟩:=at_T102 HR0.out x5_1 p102 q102
     cases e102
     replace hx102_0:=(HB.out.cell (World.block_lt_of_cell? w _ hx102_0)).trans hx102_0
     replace hx102_1:=(HB.out.cell (World.block_lt_of_cell? w _ hx102_1)).trans hx102_1
     replace p102:=eq_true p102
     replace q102:=eq_true q102
     go_wp2_with (first|((with_reducible refine gate_callee (f:=69) rfl ?_);refine goesL_ (some 23) rfl rfl Try.func69 d5 rfl #[.agg #[.int .i64 ((rd_T102 l0 x5_1).f0), .string ((rd_T102 l0 x5_1).f1)], .int .i64 x1_1] rfl d1 ?_;(with_reducible refine (laws_szShard.calls ((rd_T102 l0 x5_1).f0) ((rd_T102 l0 x5_1).f1) x1_1 t103 _ A6.out).mono ?_);rintro e w9 ⟨rfl,hb⟩;refine ⟨_,rfl,?_⟩;have n0_:=am (pu d0 hb);clear HB;have HB:=n0_;clear n0_;(try clear hb);(try clear hb2);(try clear hk);(try clear hi)))
     go_roundg k1
     case measure=>have:=HK1.out;omega
     case rel=>exact ⟨(t103),(wrap64 (x5_1+1)),d4,d4,H',⟨d26⟩,⟨d0⟩⟩
    rw [if_neg c5] at H
    exact absurd H d24
   rw [if_neg c4] at H
   have c4b0:decide (x5_1 < (l0.length:Int))=false:=decide_eq_false c4
   clear c4
   obtain rfl:=Option.some.inj H
   go_wp2
   go_ret
   exact ⟨d2,d0⟩

def spec_l4Data.f (a0_0:Int) (a0_1:Int) (a0_2:Int):Option (Int):=some (wrap64 (a0_0*a0_1))
theorem spec_l4Data.calls (a0_0:Int) (a0_1:Int) (a0_2:Int) (r:Int) (w:World) (h:spec_l4Data.f a0_0 a0_1 a0_2=some r) :
  Calls Try.prog 130 #[.agg #[.int .i64 a0_0, .int .i64 a0_1, .int .i64 a0_2]] w fun e w'=>e = .returned (.int .i64 r)∧Below w.heap.size w w':=by
 have hu51:=Try.underlying51
 have HB:=am (Below.refl w.heap.size w)
 have H:(some (wrap64 (a0_0*a0_1)))=some r:=h
 clear h
 obtain rfl:=Option.some.inj H
 go_enter Try.func130,Try.ntmps130
 go_wp2_with (first|((with_reducible refine gate_dst (N:=1) rfl ?_);refine box_event ?hg (N:=1) ?hd (cs:=#[.int .i64 a0_0, .int .i64 a0_1, .int .i64 a0_2]) (t:=51) ?hr ?_;(case hd=>rfl);(case hg=>rfl);(case hr=>first|(go_simp;done)|(go_simp;rfl));intro gb104 hg w2 hbox hb;have n0_:=am (pu d0 hb);have n1_:=am (hbox);have n2_:=am ((by rw [hg];exact (pz d0):w.heap.size≤gb104));have n3_:=n2_;clear HB;have HB:=n0_;have BK104:=n1_;have GW104:=n2_;have GE104:=n3_;clear n0_ n1_ n2_ n3_;clear hb hbox hg;have hcz3_0:w2.cell? ⟨gb104,0,none⟩=some (.int .i64 a0_0):=(blk_cell BK104.out 0).trans rfl;have hcz3_1:w2.cell? ⟨gb104,1,none⟩=some (.int .i64 a0_1):=(blk_cell BK104.out 1).trans rfl;have hcz3_2:w2.cell? ⟨gb104,2,none⟩=some (.int .i64 a0_2):=(blk_cell BK104.out 2).trans rfl;have hfz3_0:=blk_frozen BK104.out 0;have hfz3_1:=blk_frozen BK104.out 1;have hfz3_2:=blk_frozen BK104.out 2))
 go_ret
 exact ⟨d2,by repeat (first|(with_reducible first|exact HB.out|apply pa|apply pb|apply pd|refine pt ?_ GE104.out)|exact HB.out)⟩

def spec_l4Many.f (a0_0:Int) (a0_1:Int) (a0_2:Int):Option (Int):=(spec_l4Data.f a0_0 a0_1 a0_2).bind fun t106=>(some (wrap64 ((wrap64 (t106+a0_0))+a0_2)))
def spec_l4Many.T1:Bool × List (List Nat × List Nat):=(true,[([],[]),([0],[0]),([],[]),([2],[2]),([1,3],[1,3]),([],[]),([5],[5]),([4,6],[4,6]),([7,1,0,1,2,3,4,5,6,7],[7])])
def spec_l4Many.B1:List Nat:=[0,1,0,4,15,0,32,127,255]
theorem spec_l4Many.tab1:rtab .any (opsOf Try.f72 1)=spec_l4Many.T1:=by kernel_rfl
theorem spec_l4Many.bits1:waitsOk spec_l4Many.T1.2 spec_l4Many.B1=true:=by kernel_rfl
theorem spec_l4Many.calls (a0_0:Int) (a0_1:Int) (a0_2:Int) (r:Int) (w:World) (h:spec_l4Many.f a0_0 a0_1 a0_2=some r) :
  Calls Try.prog 72 #[.agg #[.int .i64 a0_0, .int .i64 a0_1, .int .i64 a0_2]] w fun e w'=>e = .returned (.int .i64 r)∧Below w.heap.size w w':=by
 have hu51:=Try.underlying51
 have HB:=am (Below.refl w.heap.size w)
 have H:((spec_l4Data.f a0_0 a0_1 a0_2).bind fun t106=>(some (wrap64 ((wrap64 (t106+a0_0))+a0_2))))=some r:=h
 clear h
 replace H:=Option.bind_eq_some_iff.mp H
 obtain ⟨t106,A20,H⟩:=H
 replace H:(some (wrap64 ((wrap64 (t106+a0_0))+a0_2)))=some r:=H
 have A2:=am A20
 clear A20
 obtain rfl:=Option.some.inj H
 go_enter Try.func72,Try.ntmps72
 try go_wp2_with (first|((with_reducible refine gate_dst (N:=1) rfl ?_);refine box_event ?hg (N:=1) ?hd (cs:=#[.int .i64 a0_0, .int .i64 a0_1, .int .i64 a0_2]) (t:=51) ?hr ?_;(case hd=>rfl);(case hg=>rfl);(case hr=>first|(go_simp;done)|(go_simp;rfl));intro gb105 hg w3 hbox hb;have n0_:=am (pu d0 hb);have n1_:=am (hbox);have n2_:=am ((by rw [hg];exact (pz d0):w.heap.size≤gb105));have n3_:=n2_;clear HB;have HB:=n0_;have BK105:=n1_;have GW105:=n2_;have GE105:=n3_;clear n0_ n1_ n2_ n3_;clear hb hbox hg))
 have n0_:=am (qd BK105.out)
 have n1_:=am (pd HB.out)
 clear BK105
 clear HB
 have BK105:=n0_
 have HB:=n1_
 clear n0_ n1_
 refine rS (n:=9) (S:=fun w'=>w'.cell? ⟨gb105,0,none⟩=some (.int .i64 a0_0)∧w'.cell? ⟨gb105,1,none⟩=some (.int .i64 a0_1)∧w'.cell? ⟨gb105,2,none⟩=some (.int .i64 a0_2)) (ds:=[]) [(2,5),(5,8),(0,3),(3,6),(6,9),(1,0),(4,7),(7,10),(8,2)] d5 rfl spec_l4Many.tab1 spec_l4Many.bits1 ⟨(blk_cell BK105.out 0).trans rfl,(blk_cell BK105.out 1).trans rfl,(blk_cell BK105.out 2).trans rfl⟩ (fun hHeld HT_ HW_=>?_)
 generalize w3.drew=w4 at BK105 HB hHeld ⊢
 refine rR ?_
 refine rO (N:=some 4) HT_ rfl rfl d5 d12 (fun K hK=>?_)
 refine goes_ Try.func130 d5 rfl #[.agg #[.int .i64 a0_0, .int .i64 a0_1, .int .i64 a0_2]] d28 rfl rfl d1 ?_
 with_reducible refine (spec_l4Data.calls a0_0 a0_1 a0_2 t106 _ A2.out).mono ?_
 rintro e w5 ⟨rfl,hb⟩
 refine ⟨_,rfl,?_⟩
 have n0_:=am (qb (g:=gb105) (o:=.cells #[.int .i64 a0_0, .int .i64 a0_1, .int .i64 a0_2] 51 (0,0)) (by (with_reducible repeat (first|refine qn ?_ _|refine qd ?_|refine qa ?_ _));exact BK105.out) hb)
 have n1_:=am (pu (by repeat (first|(with_reducible first|exact HB.out|apply pa|apply pb|apply pd|refine pt ?_ GE105.out)|exact HB.out)) hb)
 clear BK105
 clear HB
 have BK105:=n0_
 have HB:=n1_
 clear n0_ n1_
 (try clear hb)
 (try clear hb2)
 (try clear hk)
 (try clear hi)
 refine hK.out _ _ ⟨(blk_cell BK105.out 0).trans rfl,(blk_cell BK105.out 1).trans rfl,(blk_cell BK105.out 2).trans rfl⟩ (fun hHeld=>?_)
 clear hK K
 refine rN (a':=?_) ?_ ?_
 rotate_left
 ·show Act.put _ (some 4) _=_
  simp only [Act.put,q1,q2,q3,i64_w,i32_w]
  rfl
 refine rR ?_
 refine rD HT_ d5 ?_
 try go_wp2
 go_ret
 exact ⟨d2,by repeat (first|(with_reducible first|exact HB.out|apply pa|apply pb|apply pd|refine pt ?_ GE105.out)|exact HB.out)⟩

def spec_l1In.f (a0:Int) (a1:Int) (a2:Int):Option (Bool):=if a0 ≥ a1 then (some (decide (a0≤a2))) else (some false)
theorem spec_l1In.calls (a0:Int) (a1:Int) (a2:Int) (r:Bool) (w:World) (h:spec_l1In.f a0 a1 a2=some r) :
  Calls Try.prog 84 #[.int .i64 a0, .int .i64 a1, .int .i64 a2] w fun e w'=>e = .returned (.bool r)∧Drawn0 w w':=by
 have H:(if a0 ≥ a1 then (some (decide (a0≤a2))) else (some false))=some r:=h
 clear h
 by_cases c4:a0 ≥ a1
 ·rw [if_pos c4] at H
  have c4b0:decide (a1≤a0)=true:=decide_eq_true c4
  clear c4
  obtain rfl:=Option.some.inj H
  go_enter Try.func84,Try.ntmps84
  go_wp2
  go_ret
  exact ⟨d4,d11⟩
 rw [if_neg c4] at H
 have c4b0:decide (a1≤a0)=false:=decide_eq_false c4
 clear c4
 obtain rfl:=Option.some.inj H
 go_enter Try.func84,Try.ntmps84
 go_wp2
 go_ret
 exact ⟨d4,d11⟩

def spec_GoodLocal.f (a0_0:Int) (a0_1:Int) (a0_2:Int):Option (Bool):=(spec_l1In.f a0_0 1 4).bind fun t108=>(if t108=true then ((spec_l1In.f a0_1 1 4).bind fun t109=>(if t109=true then (if (wrap64 (a0_0*a0_1))≤8 then ((spec_l1In.f a0_2 1 4).bind fun t110=>(some t110)) else (some false)) else (some false))) else (some false))
theorem spec_GoodLocal.calls (a0_0:Int) (a0_1:Int) (a0_2:Int) (r:Bool) (w:World) (h:spec_GoodLocal.f a0_0 a0_1 a0_2=some r) :
  Calls Try.prog 128 #[.agg #[.int .i64 a0_0, .int .i64 a0_1, .int .i64 a0_2]] w fun e w'=>e = .returned (.bool r)∧Below w.heap.size w w':=by
 have hu51:=Try.underlying51
 have HB:=am (Below.refl w.heap.size w)
 have H:((spec_l1In.f a0_0 1 4).bind fun t108=>(if t108=true then ((spec_l1In.f a0_1 1 4).bind fun t109=>(if t109=true then (if (wrap64 (a0_0*a0_1))≤8 then ((spec_l1In.f a0_2 1 4).bind fun t110=>(some t110)) else (some false)) else (some false))) else (some false)))=some r:=h
 clear h
 replace H:=Option.bind_eq_some_iff.mp H
 obtain ⟨t108,A20,H⟩:=H
 replace H:(if t108=true then ((spec_l1In.f a0_1 1 4).bind fun t109=>(if t109=true then (if (wrap64 (a0_0*a0_1))≤8 then ((spec_l1In.f a0_2 1 4).bind fun t110=>(some t110)) else (some false)) else (some false))) else (some false))=some r:=H
 have A2:=am A20
 clear A20
 by_cases c3:t108=true
 ·subst c3
  have H1:((spec_l1In.f a0_1 1 4).bind fun t109=>(if t109=true then (if (wrap64 (a0_0*a0_1))≤8 then ((spec_l1In.f a0_2 1 4).bind fun t110=>(some t110)) else (some false)) else (some false)))=some r:=by rw [if_pos rfl] at H;exact H
  clear H
  have H:=H1
  clear H1
  replace H:=Option.bind_eq_some_iff.mp H
  obtain ⟨t109,A40,H⟩:=H
  replace H:(if t109=true then (if (wrap64 (a0_0*a0_1))≤8 then ((spec_l1In.f a0_2 1 4).bind fun t110=>(some t110)) else (some false)) else (some false))=some r:=H
  have A4:=am A40
  clear A40
  by_cases c5:t109=true
  ·subst c5
   have H1:(if (wrap64 (a0_0*a0_1))≤8 then ((spec_l1In.f a0_2 1 4).bind fun t110=>(some t110)) else (some false))=some r:=by rw [if_pos rfl] at H;exact H
   clear H
   have H:=H1
   clear H1
   by_cases c6:(wrap64 (a0_0*a0_1))≤8
   ·rw [if_pos c6] at H
    have c6b0:decide ((wrap64 (a0_0*a0_1))≤8)=true:=decide_eq_true c6
    clear c6
    replace H:=Option.bind_eq_some_iff.mp H
    obtain ⟨t110,A70,H⟩:=H
    replace H:(some t110)=some r:=H
    have A7:=am A70
    clear A70
    obtain rfl:=Option.some.inj H
    go_enter Try.func128,Try.ntmps128
    go_wp2_with (first|((with_reducible refine gate_dst (N:=1) rfl ?_);refine box_event ?hg (N:=1) ?hd (cs:=#[.int .i64 a0_0, .int .i64 a0_1, .int .i64 a0_2]) (t:=51) ?hr ?_;(case hd=>rfl);(case hg=>rfl);(case hr=>first|(go_simp;done)|(go_simp;rfl));intro gb107 hg w8 hbox hb;have n0_:=am (pu d0 hb);have n1_:=am (hbox);have n2_:=am ((by rw [hg];exact (pz d0):w.heap.size≤gb107));have n3_:=n2_;clear HB;have HB:=n0_;have BK107:=n1_;have GW107:=n2_;have GE107:=n3_;clear n0_ n1_ n2_ n3_;clear hb hbox hg;have hcz9_0:w8.cell? ⟨gb107,0,none⟩=some (.int .i64 a0_0):=(blk_cell BK107.out 0).trans rfl;have hcz9_1:w8.cell? ⟨gb107,1,none⟩=some (.int .i64 a0_1):=(blk_cell BK107.out 1).trans rfl;have hcz9_2:w8.cell? ⟨gb107,2,none⟩=some (.int .i64 a0_2):=(blk_cell BK107.out 2).trans rfl;have hfz9_0:=blk_frozen BK107.out 0;have hfz9_1:=blk_frozen BK107.out 1;have hfz9_2:=blk_frozen BK107.out 2)|((with_reducible refine gate_callee (f:=84) rfl ?_);refine goesL_ (some 5) rfl rfl Try.func84 d5 rfl #[.int .i64 a0_0, .int .i64 1, .int .i64 4] rfl d1 ?_;(with_reducible refine (spec_l1In.calls a0_0 1 4 true _ A2.out).mono ?_);rintro e w' ⟨rfl,⟨nd,rfl⟩⟩;refine ⟨_,rfl,?_⟩)|(go_at_call 84;(with_reducible refine (spec_l1In.calls a0_1 1 4 true _ A4.out).mono ?_);rintro e w' ⟨rfl,⟨nd,rfl⟩⟩)|(go_at_call 84;(with_reducible refine (spec_l1In.calls a0_2 1 4 t110 _ A7.out).mono ?_);rintro e w' ⟨rfl,⟨nd,rfl⟩⟩))
    go_ret
    exact ⟨d2,by repeat (first|(with_reducible first|exact HB.out|apply pa|apply pb|apply pd|refine pt ?_ GE107.out)|exact HB.out)⟩
   rw [if_neg c6] at H
   have c6b0:decide ((wrap64 (a0_0*a0_1))≤8)=false:=decide_eq_false c6
   clear c6
   obtain rfl:=Option.some.inj H
   go_enter Try.func128,Try.ntmps128
   go_wp2_with (first|((with_reducible refine gate_dst (N:=1) rfl ?_);refine box_event ?hg (N:=1) ?hd (cs:=#[.int .i64 a0_0, .int .i64 a0_1, .int .i64 a0_2]) (t:=51) ?hr ?_;(case hd=>rfl);(case hg=>rfl);(case hr=>first|(go_simp;done)|(go_simp;rfl));intro gb107 hg w10 hbox hb;have n0_:=am (pu d0 hb);have n1_:=am (hbox);have n2_:=am ((by rw [hg];exact (pz d0):w.heap.size≤gb107));have n3_:=n2_;clear HB;have HB:=n0_;have BK107:=n1_;have GW107:=n2_;have GE107:=n3_;clear n0_ n1_ n2_ n3_;clear hb hbox hg;have hcz11_0:w10.cell? ⟨gb107,0,none⟩=some (.int .i64 a0_0):=(blk_cell BK107.out 0).trans rfl;have hcz11_1:w10.cell? ⟨gb107,1,none⟩=some (.int .i64 a0_1):=(blk_cell BK107.out 1).trans rfl;have hcz11_2:w10.cell? ⟨gb107,2,none⟩=some (.int .i64 a0_2):=(blk_cell BK107.out 2).trans rfl;have hfz11_0:=blk_frozen BK107.out 0;have hfz11_1:=blk_frozen BK107.out 1;have hfz11_2:=blk_frozen BK107.out 2)|((with_reducible refine gate_callee (f:=84) rfl ?_);refine goesL_ (some 5) rfl rfl Try.func84 d5 rfl #[.int .i64 a0_0, .int .i64 1, .int .i64 4] rfl d1 ?_;(with_reducible refine (spec_l1In.calls a0_0 1 4 true _ A2.out).mono ?_);rintro e w' ⟨rfl,⟨nd,rfl⟩⟩;refine ⟨_,rfl,?_⟩)|(go_at_call 84;(with_reducible refine (spec_l1In.calls a0_1 1 4 true _ A4.out).mono ?_);rintro e w' ⟨rfl,⟨nd,rfl⟩⟩))
   go_ret
   exact ⟨d2,by repeat (first|(with_reducible first|exact HB.out|apply pa|apply pb|apply pd|refine pt ?_ GE107.out)|exact HB.out)⟩
  replace c5:=Bool.eq_false_iff.mpr c5
  subst c5
  have H1:(some false)=some r:=by rw [if_neg (show ¬ (false=true) by decide)] at H;exact H
  clear H
  have H:=H1
  clear H1
  obtain rfl:=Option.some.inj H
  go_enter Try.func128,Try.ntmps128
  go_wp2_with (first|((with_reducible refine gate_dst (N:=1) rfl ?_);refine box_event ?hg (N:=1) ?hd (cs:=#[.int .i64 a0_0, .int .i64 a0_1, .int .i64 a0_2]) (t:=51) ?hr ?_;(case hd=>rfl);(case hg=>rfl);(case hr=>first|(go_simp;done)|(go_simp;rfl));intro gb107 hg w12 hbox hb;have n0_:=am (pu d0 hb);have n1_:=am (hbox);have n2_:=am ((by rw [hg];exact (pz d0):w.heap.size≤gb107));have n3_:=n2_;clear HB;have HB:=n0_;have BK107:=n1_;have GW107:=n2_;have GE107:=n3_;clear n0_ n1_ n2_ n3_;clear hb hbox hg;have hcz13_0:w12.cell? ⟨gb107,0,none⟩=some (.int .i64 a0_0):=(blk_cell BK107.out 0).trans rfl;have hcz13_1:w12.cell? ⟨gb107,1,none⟩=some (.int .i64 a0_1):=(blk_cell BK107.out 1).trans rfl;have hcz13_2:w12.cell? ⟨gb107,2,none⟩=some (.int .i64 a0_2):=(blk_cell BK107.out 2).trans rfl;have hfz13_0:=blk_frozen BK107.out 0;have hfz13_1:=blk_frozen BK107.out 1;have hfz13_2:=blk_frozen BK107.out 2)|((with_reducible refine gate_callee (f:=84) rfl ?_);refine goesL_ (some 5) rfl rfl Try.func84 d5 rfl #[.int .i64 a0_0, .int .i64 1, .int .i64 4] rfl d1 ?_;(with_reducible refine (spec_l1In.calls a0_0 1 4 true _ A2.out).mono ?_);rintro e w' ⟨rfl,⟨nd,rfl⟩⟩;refine ⟨_,rfl,?_⟩)|(go_at_call 84;(with_reducible refine (spec_l1In.calls a0_1 1 4 false _ A4.out).mono ?_);rintro e w' ⟨rfl,⟨nd,rfl⟩⟩))
  go_ret
  exact ⟨d2,by repeat (first|(with_reducible first|exact HB.out|apply pa|apply pb|apply pd|refine pt ?_ GE107.out)|exact HB.out)⟩
 replace c3:=Bool.eq_false_iff.mpr c3
 subst c3
 have H1:(some false)=some r:=by rw [if_neg (show ¬ (false=true) by decide)] at H;exact H
 clear H
 have H:=H1
 clear H1
 obtain rfl:=Option.some.inj H
 go_enter Try.func128,Try.ntmps128
 go_wp2_with (first|((with_reducible refine gate_dst (N:=1) rfl ?_);refine box_event ?hg (N:=1) ?hd (cs:=#[.int .i64 a0_0, .int .i64 a0_1, .int .i64 a0_2]) (t:=51) ?hr ?_;(case hd=>rfl);(case hg=>rfl);(case hr=>first|(go_simp;done)|(go_simp;rfl));intro gb107 hg w14 hbox hb;have n0_:=am (pu d0 hb);have n1_:=am (hbox);have n2_:=am ((by rw [hg];exact (pz d0):w.heap.size≤gb107));have n3_:=n2_;clear HB;have HB:=n0_;have BK107:=n1_;have GW107:=n2_;have GE107:=n3_;clear n0_ n1_ n2_ n3_;clear hb hbox hg;have hcz15_0:w14.cell? ⟨gb107,0,none⟩=some (.int .i64 a0_0):=(blk_cell BK107.out 0).trans rfl;have hcz15_1:w14.cell? ⟨gb107,1,none⟩=some (.int .i64 a0_1):=(blk_cell BK107.out 1).trans rfl;have hcz15_2:w14.cell? ⟨gb107,2,none⟩=some (.int .i64 a0_2):=(blk_cell BK107.out 2).trans rfl;have hfz15_0:=blk_frozen BK107.out 0;have hfz15_1:=blk_frozen BK107.out 1;have hfz15_2:=blk_frozen BK107.out 2)|((with_reducible refine gate_callee (f:=84) rfl ?_);refine goesL_ (some 5) rfl rfl Try.func84 d5 rfl #[.int .i64 a0_0, .int .i64 1, .int .i64 4] rfl d1 ?_;(with_reducible refine (spec_l1In.calls a0_0 1 4 false _ A2.out).mono ?_);rintro e w' ⟨rfl,⟨nd,rfl⟩⟩;refine ⟨_,rfl,?_⟩))
 go_ret
 exact ⟨d2,by repeat (first|(with_reducible first|exact HB.out|apply pa|apply pb|apply pd|refine pt ?_ GE107.out)|exact HB.out)⟩

def spec_l4Group.f (a0_0:Int) (a0_1:Int) (a0_2:Int) (a1:Int):Option (Int):=(spec_l4Data.f a0_0 a0_1 a0_2).bind fun t112=>((spec_l1In.f a1 0 (wrap64 (t112 - 1))).bind fun t113=>(if t113=true then (if a0_1=0 then (none) else (some (wrap64 (Int.tdiv a1 a0_1)))) else ((spec_l1In.f a1 t112 (wrap64 ((wrap64 (t112+a0_0)) - 1))).bind fun t114=>(if t114=true then (some (wrap64 (a1 - t112))) else (some (-1))))))
theorem spec_l4Group.calls (a0_0:Int) (a0_1:Int) (a0_2:Int) (a1:Int) (r:Int) (w:World) (h:spec_l4Group.f a0_0 a0_1 a0_2 a1=some r) :
  Calls Try.prog 129 #[.agg #[.int .i64 a0_0, .int .i64 a0_1, .int .i64 a0_2], .int .i64 a1] w fun e w'=>e = .returned (.int .i64 r)∧Below w.heap.size w w':=by
 have hu51:=Try.underlying51
 have HB:=am (Below.refl w.heap.size w)
 have H:((spec_l4Data.f a0_0 a0_1 a0_2).bind fun t112=>((spec_l1In.f a1 0 (wrap64 (t112 - 1))).bind fun t113=>(if t113=true then (if a0_1=0 then (none) else (some (wrap64 (Int.tdiv a1 a0_1)))) else ((spec_l1In.f a1 t112 (wrap64 ((wrap64 (t112+a0_0)) - 1))).bind fun t114=>(if t114=true then (some (wrap64 (a1 - t112))) else (some (-1)))))))=some r:=h
 clear h
 replace H:=Option.bind_eq_some_iff.mp H
 obtain ⟨t112,A30,H⟩:=H
 replace H:((spec_l1In.f a1 0 (wrap64 (t112 - 1))).bind fun t113=>(if t113=true then (if a0_1=0 then (none) else (some (wrap64 (Int.tdiv a1 a0_1)))) else ((spec_l1In.f a1 t112 (wrap64 ((wrap64 (t112+a0_0)) - 1))).bind fun t114=>(if t114=true then (some (wrap64 (a1 - t112))) else (some (-1))))))=some r:=H
 have A3:=am A30
 clear A30
 replace H:=Option.bind_eq_some_iff.mp H
 obtain ⟨t113,A40,H⟩:=H
 replace H:(if t113=true then (if a0_1=0 then (none) else (some (wrap64 (Int.tdiv a1 a0_1)))) else ((spec_l1In.f a1 t112 (wrap64 ((wrap64 (t112+a0_0)) - 1))).bind fun t114=>(if t114=true then (some (wrap64 (a1 - t112))) else (some (-1)))))=some r:=H
 have A4:=am A40
 clear A40
 by_cases c5:t113=true
 ·subst c5
  have H1:(if a0_1=0 then (none) else (some (wrap64 (Int.tdiv a1 a0_1))))=some r:=by rw [if_pos rfl] at H;exact H
  clear H
  have H:=H1
  clear H1
  by_cases c6:a0_1=0
  ·rw [if_pos c6] at H
   exact absurd H d24
  rw [if_neg c6] at H
  have c6b0:(a0_1 == 0)=false:=beq_eq_false_iff_ne.mpr c6
  have c6b1:(a0_1 != 0)=true:=bne_iff_ne.mpr c6
  obtain rfl:=Option.some.inj H
  go_enter Try.func129,Try.ntmps129
  go_wp2_with (first|((with_reducible refine gate_dst (N:=2) rfl ?_);refine box_event ?hg (N:=2) ?hd (cs:=#[.int .i64 a0_0, .int .i64 a0_1, .int .i64 a0_2]) (t:=51) ?hr ?_;(case hd=>rfl);(case hg=>rfl);(case hr=>first|(go_simp;done)|(go_simp;rfl));intro gb111 hg w7 hbox hb;have n0_:=am (pu d0 hb);have n1_:=am (hbox);have n2_:=am ((by rw [hg];exact (pz d0):w.heap.size≤gb111));have n3_:=n2_;clear HB;have HB:=n0_;have BK111:=n1_;have GW111:=n2_;have GE111:=n3_;clear n0_ n1_ n2_ n3_;clear hb hbox hg;have hcz8_0:w7.cell? ⟨gb111,0,none⟩=some (.int .i64 a0_0):=(blk_cell BK111.out 0).trans rfl;have hcz8_1:w7.cell? ⟨gb111,1,none⟩=some (.int .i64 a0_1):=(blk_cell BK111.out 1).trans rfl;have hcz8_2:w7.cell? ⟨gb111,2,none⟩=some (.int .i64 a0_2):=(blk_cell BK111.out 2).trans rfl;have hfz8_0:=blk_frozen BK111.out 0;have hfz8_1:=blk_frozen BK111.out 1;have hfz8_2:=blk_frozen BK111.out 2)|((with_reducible refine gate_callee (f:=130) rfl ?_);refine goesL_ (some 7) rfl rfl Try.func130 d5 rfl #[.agg #[.int .i64 a0_0, .int .i64 a0_1, .int .i64 a0_2]] rfl d1 ?_;(with_reducible refine (spec_l4Data.calls a0_0 a0_1 a0_2 t112 _ A3.out).mono ?_);rintro e w9 ⟨rfl,hb⟩;refine ⟨_,rfl,?_⟩;have n0_:=am (qb (g:=gb111) (o:=.cells #[.int .i64 a0_0, .int .i64 a0_1, .int .i64 a0_2] 51 (0,0)) (by (with_reducible repeat (first|refine qn ?_ _|refine qd ?_|refine qa ?_ _));exact BK111.out) hb);have n1_:=am (pu (by repeat (first|(with_reducible first|exact HB.out|apply pa|apply pb|apply pd|refine pt ?_ GE111.out)|exact HB.out)) hb);clear BK111;clear HB;have BK111:=n0_;have HB:=n1_;clear n0_ n1_;(try clear hb);(try clear hb2);(try clear hk);(try clear hi))|((with_reducible refine gate_callee (f:=84) rfl ?_);refine goesL_ (some 12) rfl rfl Try.func84 d5 rfl #[.int .i64 a1, .int .i64 0, .int .i64 (wrap64 (t112 - 1))] rfl d1 ?_;(with_reducible refine (spec_l1In.calls a1 0 (wrap64 (t112 - 1)) true _ A4.out).mono ?_);rintro e w' ⟨rfl,⟨nd,rfl⟩⟩;refine ⟨_,rfl,?_⟩;have hcz10_0:w9.cell? ⟨gb111,0,none⟩=some (.int .i64 a0_0):=(blk_cell BK111.out 0).trans rfl;have hcz10_1:w9.cell? ⟨gb111,1,none⟩=some (.int .i64 a0_1):=(blk_cell BK111.out 1).trans rfl;have hcz10_2:w9.cell? ⟨gb111,2,none⟩=some (.int .i64 a0_2):=(blk_cell BK111.out 2).trans rfl;have hfz10_0:=blk_frozen BK111.out 0;have hfz10_1:=blk_frozen BK111.out 1;have hfz10_2:=blk_frozen BK111.out 2))
  go_ret
  exact ⟨d2,by repeat (first|(with_reducible first|exact HB.out|apply pa|apply pb|apply pd|refine pt ?_ GE111.out)|exact HB.out)⟩
 replace c5:=Bool.eq_false_iff.mpr c5
 subst c5
 have H1:((spec_l1In.f a1 t112 (wrap64 ((wrap64 (t112+a0_0)) - 1))).bind fun t114=>(if t114=true then (some (wrap64 (a1 - t112))) else (some (-1))))=some r:=by rw [if_neg (show ¬ (false=true) by decide)] at H;exact H
 clear H
 have H:=H1
 clear H1
 replace H:=Option.bind_eq_some_iff.mp H
 obtain ⟨t114,A110,H⟩:=H
 replace H:(if t114=true then (some (wrap64 (a1 - t112))) else (some (-1)))=some r:=H
 have A11:=am A110
 clear A110
 by_cases c12:t114=true
 ·subst c12
  have H1:(some (wrap64 (a1 - t112)))=some r:=by rw [if_pos rfl] at H;exact H
  clear H
  have H:=H1
  clear H1
  obtain rfl:=Option.some.inj H
  go_enter Try.func129,Try.ntmps129
  go_wp2_with (first|((with_reducible refine gate_dst (N:=2) rfl ?_);refine box_event ?hg (N:=2) ?hd (cs:=#[.int .i64 a0_0, .int .i64 a0_1, .int .i64 a0_2]) (t:=51) ?hr ?_;(case hd=>rfl);(case hg=>rfl);(case hr=>first|(go_simp;done)|(go_simp;rfl));intro gb111 hg w13 hbox hb;have n0_:=am (pu d0 hb);have n1_:=am (hbox);have n2_:=am ((by rw [hg];exact (pz d0):w.heap.size≤gb111));have n3_:=n2_;clear HB;have HB:=n0_;have BK111:=n1_;have GW111:=n2_;have GE111:=n3_;clear n0_ n1_ n2_ n3_;clear hb hbox hg;have hcz14_0:w13.cell? ⟨gb111,0,none⟩=some (.int .i64 a0_0):=(blk_cell BK111.out 0).trans rfl;have hcz14_1:w13.cell? ⟨gb111,1,none⟩=some (.int .i64 a0_1):=(blk_cell BK111.out 1).trans rfl;have hcz14_2:w13.cell? ⟨gb111,2,none⟩=some (.int .i64 a0_2):=(blk_cell BK111.out 2).trans rfl;have hfz14_0:=blk_frozen BK111.out 0;have hfz14_1:=blk_frozen BK111.out 1;have hfz14_2:=blk_frozen BK111.out 2)|((with_reducible refine gate_callee (f:=130) rfl ?_);refine goesL_ (some 7) rfl rfl Try.func130 d5 rfl #[.agg #[.int .i64 a0_0, .int .i64 a0_1, .int .i64 a0_2]] rfl d1 ?_;(with_reducible refine (spec_l4Data.calls a0_0 a0_1 a0_2 t112 _ A3.out).mono ?_);rintro e w15 ⟨rfl,hb⟩;refine ⟨_,rfl,?_⟩;have n0_:=am (qb (g:=gb111) (o:=.cells #[.int .i64 a0_0, .int .i64 a0_1, .int .i64 a0_2] 51 (0,0)) (by (with_reducible repeat (first|refine qn ?_ _|refine qd ?_|refine qa ?_ _));exact BK111.out) hb);have n1_:=am (pu (by repeat (first|(with_reducible first|exact HB.out|apply pa|apply pb|apply pd|refine pt ?_ GE111.out)|exact HB.out)) hb);clear BK111;clear HB;have BK111:=n0_;have HB:=n1_;clear n0_ n1_;(try clear hb);(try clear hb2);(try clear hk);(try clear hi))|((with_reducible refine gate_callee (f:=84) rfl ?_);refine goesL_ (some 12) rfl rfl Try.func84 d5 rfl #[.int .i64 a1, .int .i64 0, .int .i64 (wrap64 (t112 - 1))] rfl d1 ?_;(with_reducible refine (spec_l1In.calls a1 0 (wrap64 (t112 - 1)) false _ A4.out).mono ?_);rintro e w' ⟨rfl,⟨nd,rfl⟩⟩;refine ⟨_,rfl,?_⟩;have hcz16_0:w15.cell? ⟨gb111,0,none⟩=some (.int .i64 a0_0):=(blk_cell BK111.out 0).trans rfl;have hcz16_1:w15.cell? ⟨gb111,1,none⟩=some (.int .i64 a0_1):=(blk_cell BK111.out 1).trans rfl;have hcz16_2:w15.cell? ⟨gb111,2,none⟩=some (.int .i64 a0_2):=(blk_cell BK111.out 2).trans rfl;have hfz16_0:=blk_frozen BK111.out 0;have hfz16_1:=blk_frozen BK111.out 1;have hfz16_2:=blk_frozen BK111.out 2)|((with_reducible refine gate_callee (f:=84) rfl ?_);refine goesL_ (some 25) rfl rfl Try.func84 d5 rfl #[.int .i64 a1, .int .i64 t112, .int .i64 (wrap64 ((wrap64 (t112+a0_0)) - 1))] rfl d1 ?_;(with_reducible refine (spec_l1In.calls a1 t112 (wrap64 ((wrap64 (t112+a0_0)) - 1)) true _ A11.out).mono ?_);rintro e w' ⟨rfl,⟨nd,rfl⟩⟩;refine ⟨_,rfl,?_⟩))
  go_ret
  exact ⟨d2,by repeat (first|(with_reducible first|exact HB.out|apply pa|apply pb|apply pd|refine pt ?_ GE111.out)|exact HB.out)⟩
 replace c12:=Bool.eq_false_iff.mpr c12
 subst c12
 have H1:(some (-1))=some r:=by rw [if_neg (show ¬ (false=true) by decide)] at H;exact H
 clear H
 have H:=H1
 clear H1
 obtain rfl:=Option.some.inj H
 go_enter Try.func129,Try.ntmps129
 go_wp2_with (first|((with_reducible refine gate_dst (N:=2) rfl ?_);refine box_event ?hg (N:=2) ?hd (cs:=#[.int .i64 a0_0, .int .i64 a0_1, .int .i64 a0_2]) (t:=51) ?hr ?_;(case hd=>rfl);(case hg=>rfl);(case hr=>first|(go_simp;done)|(go_simp;rfl));intro gb111 hg w17 hbox hb;have n0_:=am (pu d0 hb);have n1_:=am (hbox);have n2_:=am ((by rw [hg];exact (pz d0):w.heap.size≤gb111));have n3_:=n2_;clear HB;have HB:=n0_;have BK111:=n1_;have GW111:=n2_;have GE111:=n3_;clear n0_ n1_ n2_ n3_;clear hb hbox hg;have hcz18_0:w17.cell? ⟨gb111,0,none⟩=some (.int .i64 a0_0):=(blk_cell BK111.out 0).trans rfl;have hcz18_1:w17.cell? ⟨gb111,1,none⟩=some (.int .i64 a0_1):=(blk_cell BK111.out 1).trans rfl;have hcz18_2:w17.cell? ⟨gb111,2,none⟩=some (.int .i64 a0_2):=(blk_cell BK111.out 2).trans rfl;have hfz18_0:=blk_frozen BK111.out 0;have hfz18_1:=blk_frozen BK111.out 1;have hfz18_2:=blk_frozen BK111.out 2)|((with_reducible refine gate_callee (f:=130) rfl ?_);refine goesL_ (some 7) rfl rfl Try.func130 d5 rfl #[.agg #[.int .i64 a0_0, .int .i64 a0_1, .int .i64 a0_2]] rfl d1 ?_;(with_reducible refine (spec_l4Data.calls a0_0 a0_1 a0_2 t112 _ A3.out).mono ?_);rintro e w19 ⟨rfl,hb⟩;refine ⟨_,rfl,?_⟩;have n0_:=am (qb (g:=gb111) (o:=.cells #[.int .i64 a0_0, .int .i64 a0_1, .int .i64 a0_2] 51 (0,0)) (by (with_reducible repeat (first|refine qn ?_ _|refine qd ?_|refine qa ?_ _));exact BK111.out) hb);have n1_:=am (pu (by repeat (first|(with_reducible first|exact HB.out|apply pa|apply pb|apply pd|refine pt ?_ GE111.out)|exact HB.out)) hb);clear BK111;clear HB;have BK111:=n0_;have HB:=n1_;clear n0_ n1_;(try clear hb);(try clear hb2);(try clear hk);(try clear hi))|((with_reducible refine gate_callee (f:=84) rfl ?_);refine goesL_ (some 12) rfl rfl Try.func84 d5 rfl #[.int .i64 a1, .int .i64 0, .int .i64 (wrap64 (t112 - 1))] rfl d1 ?_;(with_reducible refine (spec_l1In.calls a1 0 (wrap64 (t112 - 1)) false _ A4.out).mono ?_);rintro e w' ⟨rfl,⟨nd,rfl⟩⟩;refine ⟨_,rfl,?_⟩;have hcz20_0:w19.cell? ⟨gb111,0,none⟩=some (.int .i64 a0_0):=(blk_cell BK111.out 0).trans rfl;have hcz20_1:w19.cell? ⟨gb111,1,none⟩=some (.int .i64 a0_1):=(blk_cell BK111.out 1).trans rfl;have hcz20_2:w19.cell? ⟨gb111,2,none⟩=some (.int .i64 a0_2):=(blk_cell BK111.out 2).trans rfl;have hfz20_0:=blk_frozen BK111.out 0;have hfz20_1:=blk_frozen BK111.out 1;have hfz20_2:=blk_frozen BK111.out 2)|((with_reducible refine gate_callee (f:=84) rfl ?_);refine goesL_ (some 25) rfl rfl Try.func84 d5 rfl #[.int .i64 a1, .int .i64 t112, .int .i64 (wrap64 ((wrap64 (t112+a0_0)) - 1))] rfl d1 ?_;(with_reducible refine (spec_l1In.calls a1 t112 (wrap64 ((wrap64 (t112+a0_0)) - 1)) false _ A11.out).mono ?_);rintro e w' ⟨rfl,⟨nd,rfl⟩⟩;refine ⟨_,rfl,?_⟩))
 go_ret
 exact ⟨d2,by repeat (first|(with_reducible first|exact HB.out|apply pa|apply pb|apply pd|refine pt ?_ GE111.out)|exact HB.out)⟩

end Go.Proofs.Yteflgifmdojahaa.PFnExactMendLocal
-- HALVED
-- SQUEEZED
-- SQUEEZED2
-- SQUEEZED3
-- SQUEEZED4
-- SQUEEZED5
-- SQUEEZED6
