-- Laid by a program of this session.
import Derived.Test.YteflgifmdojahaaPFnExactMendLocalx0
import Derived.Test.YteflgifmdojahaaPFnExactMendLocalx1
namespace Go.Proofs.Yteflgifmdojahaa.PFnExactMendLocal
open Go.RowKit Go.Proofs.YteflgifmdojahaaW.PrintWords Go.Proofs.YteflgifmdojahaaW.PrintLast Go.Proofs.YteflgifmdojahaaW.PrintMore
attribute [local go_sem] max2_int min2_int max_two min_two max_three min_three max_four min_four   -- for this text's walks alone
set_option linter.unusedVariables false
set_option maxHeartbeats 8000000
set_option maxRecDepth 100000
set_option linter.unusedSimpArgs false

def spec_l3Shards.l0:Nat→List (S48)→Int→List (S48)→Int→Int→Option (Bool)
 | 0,_,_,_,_,_=>none
 | k+1,x0,x1,x7,x8,x9=>if x9 < x8 then (if 0≤x9 then (if x9 < (x7.length:Int) then ((spec_l1In.f ((rd_T48 x7 x9).f0) 0 (wrap64 (x1 - 1))).bind fun t126=>(if t126=true then (if x9 > 0 then (if 0≤(wrap64 (x9 - 1)) then (if (wrap64 (x9 - 1)) < (x0.length:Int) then (if ((rd_T48 x0 (wrap64 (x9 - 1))).f0) ≥ ((rd_T48 x7 x9).f0) then (some false) else (if 0 < (x0.length:Int) then (if (((rd_T48 x7 x9).f1).size:Int)=(((rd_T48 x0 0).f1).size:Int) then (if (((rd_T48 x7 x9).f1).size:Int) > 40 then (some false) else (spec_l3Shards.l0 k x0 x1 x7 x8 (wrap64 (x9+1)))) else (some false)) else (none))) else (none)) else (none)) else (if 0 < (x0.length:Int) then (if (((rd_T48 x7 x9).f1).size:Int)=(((rd_T48 x0 0).f1).size:Int) then (if (((rd_T48 x7 x9).f1).size:Int) > 40 then (some false) else (spec_l3Shards.l0 k x0 x1 x7 x8 (wrap64 (x9+1)))) else (some false)) else (none))) else (some false))) else (none)) else (none)) else (some true)
def spec_l3Shards.f (k:Nat) (l0:List (S48)) (a1:Int):Option (Bool):=spec_l3Shards.l0 k l0 a1 l0 (l0.length:Int) 0
theorem spec_l3Shards.mono_l:∀ k,(∀ y0 y1 y2 y3 y4,LeO (spec_l3Shards.l0 k y0 y1 y2 y3 y4) (spec_l3Shards.l0 (k+1) y0 y1 y2 y3 y4))
 | 0=>fun _ _ _ _ _ r h=>by simp [spec_l3Shards.l0] at h
 | k+1=>by
  have ih0:=spec_l3Shards.mono_l k
  intro y0 y1 y2 y3 y4
  unfold spec_l3Shards.l0
  repeat' first
  | (with_reducible exact ih0 _ _ _ _ _)
  |(with_reducible exact LeO.refl _)|(with_reducible exact LeO.none _)|(with_reducible refine LeO.ite ?_ ?_)|(with_reducible refine LeO.bind ?_ (fun _=>?_))|exact ih0 _ _ _ _ _|exact LeO.none _|refine LeO.ite ?_ ?_|refine LeO.bind ?_ (fun _=>?_)
theorem spec_l3Shards.mono:∀ a0 a1 k,LeO (spec_l3Shards.f k a0 a1) (spec_l3Shards.f (k+1) a0 a1):=by
 intro a0 a1 k
 have ih0:=spec_l3Shards.mono_l k
 unfold spec_l3Shards.f
 repeat' first
   | (with_reducible exact ih0 _ _ _ _ _)
   |(with_reducible exact LeO.refl _)|(with_reducible exact LeO.none _)|(with_reducible refine LeO.ite ?_ ?_)|(with_reducible refine LeO.bind ?_ (fun _=>?_))|exact ih0 _ _ _ _ _|exact LeO.none _|refine LeO.ite ?_ ?_|refine LeO.bind ?_ (fun _=>?_)
def spec_l3Shards.T4:Bool × List (List Nat × List Nat):=(true,[([],[]),([0],[0]),([],[]),([2],[2]),([1,3],[1,3]),([4],[4]),([5,4],[5]),([6],[6]),([7,6],[6,7]),([8,6,6],[6,8]),([9],[9]),([9],[9]),([11,9],[9,11]),([10,12,9],[9,10,12]),([13,9],[9,13]),([14,9],[9,14]),([9],[9]),([16,9],[9,16]),([15,17,9],[9,15,17]),([9,18,6],[6,9,18]),([6,19],[6,19]),([20,9],[20]),([21],[21]),([22,21],[21,22]),([23,21],[21,23]),([21],[21]),([25,21],[21,25]),([26,21],[21,26]),([27,21],[21,27]),([28,21],[21,28]),([24,29,21],[21,24,29]),([21,30],[21,30]),([31,21],[31]),([32],[32]),([33,32],[32,33]),([34,32],[32,34]),([35,32],[32,35]),([32,36],[32,36])])
def spec_l3Shards.B4:List Nat:=[0,1,0,4,15,31,63,127,255,511,1023,1023,3071,8191,16383,32767,1023,66559,262143,524287,1048575,2097151,4194303,8388607,16777215,4194303,37748735,104857599,239075327,507510783,1073741823,2147483647,4294967295,8589934591,17179869183,34359738367,68719476735,137438953471]
theorem spec_l3Shards.tab4:rtab .any (opsOf Try.f71 4)=spec_l3Shards.T4:=by kernel_rfl
theorem spec_l3Shards.bits4:waitsOk spec_l3Shards.T4.2 spec_l3Shards.B4=true:=by kernel_rfl
theorem spec_l3Shards.calls (k:Nat) (A0:Option Addr) (c0:Nat) (l0:List (S48)) (a1:Int) (r:Bool) (w:World) (hr0:Kd.C k48 w A0 l0.length l0) (hc0:l0.length≤c0) (h:spec_l3Shards.f k l0 a1=some r) :
  Calls Try.prog 71 #[.slice A0 l0.length c0, .int .i64 a1] w fun e w'=>e = .returned (.bool r)∧Below w.heap.size w w':=by
 have hu48:=Try.underlying48
 have HR0:=am hr0
 have HC0:=am hc0
 clear hr0 hc0
 have HB:=am (Below.refl w.heap.size w)
 have H:(spec_l3Shards.l0 k l0 a1 l0 (l0.length:Int) 0)=some r:=h
 clear h
 have H':=am H
 clear H
 go_enter Try.func71,Try.ntmps71
 go_wp2
 go_loopg [9] k (fun kq v9 w'=>∃ (x9_1:Int),v9 = .int .i64 x9_1∧Aside0 (spec_l3Shards.l0 kq l0 a1 l0 (l0.length:Int) x9_1=some r)∧Aside0 (kq≤k)∧Aside0 (Below w.heap.size w w'))
 case atStart=>exact ⟨(0),d4,H',⟨Nat.le_refl _⟩,⟨d0⟩⟩
 case round =>
  clear H'
  try clear p2
  obtain ⟨x9_1,rfl,HA,HK1,HB⟩:=hrel
  cases gk with
  | zero=>exact absurd HA.out (by simp [spec_l3Shards.l0])
  | succ k1 =>
   have H:=HA.out
   clear HA
   simp only [spec_l3Shards.l0] at H
   by_cases c3:x9_1 < (l0.length:Int)
   ·rw [if_pos c3] at H
    have c3b0:decide (x9_1 < (l0.length:Int))=true:=decide_eq_true c3
    clear c3
    by_cases c4:0≤x9_1
    ·rw [if_pos c4] at H
     have c4b0:decide (0≤x9_1)=true:=decide_eq_true c4
     clear c4
     by_cases c5:x9_1 < (l0.length:Int)
     ·rw [if_pos c5] at H
      have c5b0:decide (x9_1 < (l0.length:Int))=true:=decide_eq_true c5
      clear c5
      replace H:=Option.bind_eq_some_iff.mp H
      obtain ⟨t126,A60,H⟩:=H
      replace H:(if t126=true then (if x9_1 > 0 then (if 0≤(wrap64 (x9_1 - 1)) then (if (wrap64 (x9_1 - 1)) < (l0.length:Int) then (if ((rd_T48 l0 (wrap64 (x9_1 - 1))).f0) ≥ ((rd_T48 l0 x9_1).f0) then (some false) else (if 0 < (l0.length:Int) then (if (((rd_T48 l0 x9_1).f1).size:Int)=(((rd_T48 l0 0).f1).size:Int) then (if (((rd_T48 l0 x9_1).f1).size:Int) > 40 then (some false) else (spec_l3Shards.l0 k1 l0 a1 l0 (l0.length:Int) (wrap64 (x9_1+1)))) else (some false)) else (none))) else (none)) else (none)) else (if 0 < (l0.length:Int) then (if (((rd_T48 l0 x9_1).f1).size:Int)=(((rd_T48 l0 0).f1).size:Int) then (if (((rd_T48 l0 x9_1).f1).size:Int) > 40 then (some false) else (spec_l3Shards.l0 k1 l0 a1 l0 (l0.length:Int) (wrap64 (x9_1+1)))) else (some false)) else (none))) else (some false))=some r:=H
      have A6:=am A60
      clear A60
      by_cases c7:t126=true
      ·subst c7
       have H1:(if x9_1 > 0 then (if 0≤(wrap64 (x9_1 - 1)) then (if (wrap64 (x9_1 - 1)) < (l0.length:Int) then (if ((rd_T48 l0 (wrap64 (x9_1 - 1))).f0) ≥ ((rd_T48 l0 x9_1).f0) then (some false) else (if 0 < (l0.length:Int) then (if (((rd_T48 l0 x9_1).f1).size:Int)=(((rd_T48 l0 0).f1).size:Int) then (if (((rd_T48 l0 x9_1).f1).size:Int) > 40 then (some false) else (spec_l3Shards.l0 k1 l0 a1 l0 (l0.length:Int) (wrap64 (x9_1+1)))) else (some false)) else (none))) else (none)) else (none)) else (if 0 < (l0.length:Int) then (if (((rd_T48 l0 x9_1).f1).size:Int)=(((rd_T48 l0 0).f1).size:Int) then (if (((rd_T48 l0 x9_1).f1).size:Int) > 40 then (some false) else (spec_l3Shards.l0 k1 l0 a1 l0 (l0.length:Int) (wrap64 (x9_1+1)))) else (some false)) else (none)))=some r:=by rw [if_pos rfl] at H;exact H
       clear H
       have H:=H1
       clear H1
       by_cases c8:x9_1 > 0
       ·rw [if_pos c8] at H
        have c8b0:decide (0 < x9_1)=true:=decide_eq_true c8
        clear c8
        obtain ⟨ji9,hji9⟩:∃ j_:Int,(wrap64 (x9_1 - 1))=j_:=⟨_,rfl⟩
        replace H:(if 0≤(ji9) then (if (ji9) < (l0.length:Int) then (if ((rd_T48 l0 (ji9)).f0) ≥ ((rd_T48 l0 x9_1).f0) then (some false) else (if 0 < (l0.length:Int) then (if (((rd_T48 l0 x9_1).f1).size:Int)=(((rd_T48 l0 0).f1).size:Int) then (if (((rd_T48 l0 x9_1).f1).size:Int) > 40 then (some false) else (spec_l3Shards.l0 k1 l0 a1 l0 (l0.length:Int) (wrap64 (x9_1+1)))) else (some false)) else (none))) else (none)) else (none))=some r:=by first|(rw [hji9] at H;exact H)|(simp only [hji9] at H ⊢;exact H)
        (try rw [hji9] at A6)
        have hji9w:(IntKind.i64.wrap (x9_1 - 1))=ji9:=(i64_w _).trans hji9
        by_cases c10:0≤(ji9)
        ·rw [if_pos c10] at H
         have c10b0:decide (0≤(ji9))=true:=decide_eq_true c10
         clear c10
         by_cases c11:(ji9) < (l0.length:Int)
         ·rw [if_pos c11] at H
          have c11b0:decide ((ji9) < (l0.length:Int))=true:=decide_eq_true c11
          clear c11
          by_cases c12:((rd_T48 l0 (ji9)).f0) ≥ ((rd_T48 l0 x9_1).f0)
          ·rw [if_pos c12] at H
           have c12b0:decide (((rd_T48 l0 x9_1).f0)≤((rd_T48 l0 (ji9)).f0))=true:=decide_eq_true c12
           clear c12
           obtain rfl:=Option.some.inj H
           have p124:0≤(x9_1:Int):=od d3
           have q124:x9_1 < (l0.length:Int):=od d3
           obtain ⟨ad124,e124,hx124_0,hx124_1⟩:=at_T48 HR0.out x9_1 p124 q124
           cases e124
           replace hx124_0:=(HB.out.cell (World.block_lt_of_cell? w _ hx124_0)).trans hx124_0
           replace hx124_1:=(HB.out.cell (World.block_lt_of_cell? w _ hx124_1)).trans hx124_1
           replace p124:=eq_true p124
           replace q124:=eq_true q124
           try go_wp2_with (first|((with_reducible refine gate_dst (N:=6) rfl ?_);(try (refine gate_guard d28 ?_;dsimp only));refine box_event ?hg (N:=6) ?hd (cs:=#[.int .i64 0, .string (⟨#[]⟩:ByteArray)]) (t:=48) ?hr ?_;(case hd=>rfl);(case hg=>rfl);(case hr=>first|(go_simp;done)|(go_simp;rfl));intro gb125 hg w13 hbox hb;have n0_:=am (pu d0 hb);have n1_:=am (hbox);have n2_:=am ((by rw [hg];exact (pz d0):w.heap.size≤gb125));have n3_:=n2_;clear HB;have HB:=n0_;have BK125:=n1_;have GW125:=n2_;have GE125:=n3_;clear n0_ n1_ n2_ n3_;clear hb hbox hg;have hcz14_0:w13.cell? ⟨gb125,0,none⟩=some (.int .i64 0):=(blk_cell BK125.out 0).trans rfl;have hcz14_1:w13.cell? ⟨gb125,1,none⟩=some (.string (⟨#[]⟩:ByteArray)):=(blk_cell BK125.out 1).trans rfl;have hfz14_0:=blk_frozen BK125.out 0;have hfz14_1:=blk_frozen BK125.out 1))
           have n0_:Aside0 (((w13.setCell ⟨gb125,0,none⟩ (.int .i64 ((rd_T48 l0 x9_1).f0))).setCell ⟨gb125,1,none⟩ (.string ((rd_T48 l0 x9_1).f1))).heap[gb125]? = some (.cells #[.int .i64 ((rd_T48 l0 x9_1).f0), .string ((rd_T48 l0 x9_1).f1)] 48 (0,0))):=⟨by (with_reducible repeat (first|refine qn ?_ _|refine qd ?_|refine qa ?_ _));refine blk_put (cs:=#[.int .i64 ((rd_T48 l0 x9_1).f0), .string (⟨#[]⟩:ByteArray)]) ?_ 1 _ rfl;(with_reducible repeat (first|refine qn ?_ _|refine qd ?_|refine qa ?_ _));refine blk_put (cs:=#[.int .i64 0, .string (⟨#[]⟩:ByteArray)]) ?_ 0 _ rfl;(with_reducible repeat (first|refine qn ?_ _|refine qd ?_|refine qa ?_ _));exact BK125.out⟩
           have n1_:Aside0 (Below w.heap.size w ((w13.setCell ⟨gb125,0,none⟩ (.int .i64 ((rd_T48 l0 x9_1).f0))).setCell ⟨gb125,1,none⟩ (.string ((rd_T48 l0 x9_1).f1)))):=⟨by repeat (first|(with_reducible first|exact HB.out|apply pa|apply pb|apply pd|refine pt ?_ GE125.out)|exact HB.out)⟩
           (try clear BK125)
           (try clear HB)
           generalize ((w13.setCell ⟨gb125,0,none⟩ (.int .i64 ((rd_T48 l0 x9_1).f0))).setCell ⟨gb125,1,none⟩ (.string ((rd_T48 l0 x9_1).f1)))=w15 at n0_ n1_ ⊢
           have BK125:=n0_
           have HB:=n1_
           clear n0_ n1_
           have n0_:=am (qd BK125.out)
           have n1_:=am (pd HB.out)
           clear BK125
           clear HB
           have BK125:=n0_
           have HB:=n1_
           clear n0_ n1_
           have p127:0≤((ji9):Int):=od d3
           have q127:(ji9) < (l0.length:Int):=od d3
           obtain ⟨ad127,e127,hx127_0,hx127_1⟩:=at_T48 HR0.out (ji9) p127 q127
           have hw127_1:=hx127_1
           have hw127_0:=hx127_0
           obtain rfl:ad124=ad127:=(by injection e127)
           replace hx127_0:=(HB.out.cell (World.block_lt_of_cell? w _ hx127_0)).trans hx127_0
           replace hx127_1:=(HB.out.cell (World.block_lt_of_cell? w _ hx127_1)).trans hx127_1
           replace p127:=eq_true p127
           replace q127:=eq_true q127
           refine rS (n:=38) (S:=fun w'=>w'.cell? ⟨gb125,0,none⟩=some (.int .i64 ((rd_T48 l0 x9_1).f0))∧w'.cell? ⟨gb125,1,none⟩=some (.string ((rd_T48 l0 x9_1).f1))∧w'.cell? (ad124.add (((ji9)).toNat*2))=some (.int .i64 ((rd_T48 l0 (ji9)).f0))∧w'.cell? ⟨(ad124.add (((ji9)).toNat*2)).block,(ad124.add (((ji9)).toNat*2)).off+1,none⟩=some (.string ((rd_T48 l0 (ji9)).f1))) (ds:=[]) [(0,14),(2,16),(3,17),(1,15),(4,0),(5,19),(6,20),(7,21),(8,22),(9,23),(10,24),(11,25),(12,26),(13,27),(14,28),(16,30),(15,29),(17,31),(18,32),(19,33),(20,34),(21,35),(22,36),(23,37),(24,38),(25,39),(26,40),(27,41),(28,42),(29,43),(30,44),(31,45),(32,46),(33,47),(34,48),(35,49),(36,50),(37,51)] d5 rfl spec_l3Shards.tab4 spec_l3Shards.bits4 ⟨(blk_cell BK125.out 0).trans rfl,(blk_cell BK125.out 1).trans rfl,((HB.out.cell (World.block_lt_of_cell? w _ hw127_0)).trans hw127_0),((HB.out.cell (World.block_lt_of_cell? w _ hw127_1)).trans hw127_1)⟩ (fun hHeld HT_ HW_=>?_)
           generalize w15.drew=w16 at BK125 HB hx127_0 hx127_1 hHeld ⊢
           refine rR ?_
           refine rO (N:=some 18) HT_ rfl rfl d5 d12 (fun K hK=>?_)
           refine goes_ Try.func84 d5 rfl #[.int .i64 ((rd_T48 l0 x9_1).f0), .int .i64 0, .int .i64 (wrap64 (a1 - 1))] d28 rfl rfl d1 ?_
           with_reducible refine (spec_l1In.calls ((rd_T48 l0 x9_1).f0) 0 (wrap64 (a1 - 1)) true _ A6.out).mono ?_
           rintro e w' ⟨rfl,⟨nd,rfl⟩⟩
           refine ⟨_,rfl,?_⟩
           refine hK.out _ _ ⟨(blk_cell BK125.out 0).trans rfl,(blk_cell BK125.out 1).trans rfl,((HB.out.cell (World.block_lt_of_cell? w _ hw127_0)).trans hw127_0),((HB.out.cell (World.block_lt_of_cell? w _ hw127_1)).trans hw127_1)⟩ (fun hHeld=>?_)
           clear hK K
           refine rN (a':=?_) ?_ ?_
           rotate_left
           ·show Act.put _ (some 18) _=_
            simp only [Act.put,q1,q2,q3,i64_w,i32_w]
            rfl
           refine rR ?_
           refine rD HT_ d5 ?_
           try go_wp2
           go_ret
           exact ⟨d20,by repeat (first|(with_reducible first|exact HB.out|apply pa|apply pb|apply pd|refine pt ?_ GE125.out)|exact HB.out)⟩
          rw [if_neg c12] at H
          have c12b0:decide (((rd_T48 l0 x9_1).f0)≤((rd_T48 l0 (ji9)).f0))=false:=decide_eq_false c12
          clear c12
          by_cases c17:0 < (l0.length:Int)
          ·rw [if_pos c17] at H
           have c17b0:decide (0 < (l0.length:Int))=true:=decide_eq_true c17
           have c17b1:decide (0 < l0.length)=true:=decide_eq_true d16
           clear c17
           by_cases c18:(((rd_T48 l0 x9_1).f1).size:Int)=(((rd_T48 l0 0).f1).size:Int)
           ·rw [if_pos c18] at H
            have c18b0:((((rd_T48 l0 x9_1).f1).size:Int) == (((rd_T48 l0 0).f1).size:Int))=true:=beq_iff_eq.mpr c18
            have c18b1:((((rd_T48 l0 x9_1).f1).size:Int) != (((rd_T48 l0 0).f1).size:Int))=false:=bne_eq_false_iff_eq.mpr c18
            have c18b2:(((rd_T48 l0 x9_1).f1).size == ((rd_T48 l0 0).f1).size)=true:=by first|simpa using c18|(simp at c18 ⊢;omega)
            clear c18
            by_cases c19:(((rd_T48 l0 x9_1).f1).size:Int) > 40
            ·rw [if_pos c19] at H
             have c19b0:decide (40 < (((rd_T48 l0 x9_1).f1).size:Int))=true:=decide_eq_true c19
             have c19b1:decide (40 < ((rd_T48 l0 x9_1).f1).size)=true:=decide_eq_true d16
             clear c19
             obtain rfl:=Option.some.inj H
             have p124:0≤(x9_1:Int):=od d3
             have q124:x9_1 < (l0.length:Int):=od d3
             obtain ⟨ad124,e124,hx124_0,hx124_1⟩:=at_T48 HR0.out x9_1 p124 q124
             cases e124
             replace hx124_0:=(HB.out.cell (World.block_lt_of_cell? w _ hx124_0)).trans hx124_0
             replace hx124_1:=(HB.out.cell (World.block_lt_of_cell? w _ hx124_1)).trans hx124_1
             replace p124:=eq_true p124
             replace q124:=eq_true q124
             try go_wp2_with (first|((with_reducible refine gate_dst (N:=6) rfl ?_);(try (refine gate_guard d28 ?_;dsimp only));refine box_event ?hg (N:=6) ?hd (cs:=#[.int .i64 0, .string (⟨#[]⟩:ByteArray)]) (t:=48) ?hr ?_;(case hd=>rfl);(case hg=>rfl);(case hr=>first|(go_simp;done)|(go_simp;rfl));intro gb125 hg w20 hbox hb;have n0_:=am (pu d0 hb);have n1_:=am (hbox);have n2_:=am ((by rw [hg];exact (pz d0):w.heap.size≤gb125));have n3_:=n2_;clear HB;have HB:=n0_;have BK125:=n1_;have GW125:=n2_;have GE125:=n3_;clear n0_ n1_ n2_ n3_;clear hb hbox hg;have hcz21_0:w20.cell? ⟨gb125,0,none⟩=some (.int .i64 0):=(blk_cell BK125.out 0).trans rfl;have hcz21_1:w20.cell? ⟨gb125,1,none⟩=some (.string (⟨#[]⟩:ByteArray)):=(blk_cell BK125.out 1).trans rfl;have hfz21_0:=blk_frozen BK125.out 0;have hfz21_1:=blk_frozen BK125.out 1))
             have n0_:Aside0 (((w20.setCell ⟨gb125,0,none⟩ (.int .i64 ((rd_T48 l0 x9_1).f0))).setCell ⟨gb125,1,none⟩ (.string ((rd_T48 l0 x9_1).f1))).heap[gb125]? = some (.cells #[.int .i64 ((rd_T48 l0 x9_1).f0), .string ((rd_T48 l0 x9_1).f1)] 48 (0,0))):=⟨by (with_reducible repeat (first|refine qn ?_ _|refine qd ?_|refine qa ?_ _));refine blk_put (cs:=#[.int .i64 ((rd_T48 l0 x9_1).f0), .string (⟨#[]⟩:ByteArray)]) ?_ 1 _ rfl;(with_reducible repeat (first|refine qn ?_ _|refine qd ?_|refine qa ?_ _));refine blk_put (cs:=#[.int .i64 0, .string (⟨#[]⟩:ByteArray)]) ?_ 0 _ rfl;(with_reducible repeat (first|refine qn ?_ _|refine qd ?_|refine qa ?_ _));exact BK125.out⟩
             have n1_:Aside0 (Below w.heap.size w ((w20.setCell ⟨gb125,0,none⟩ (.int .i64 ((rd_T48 l0 x9_1).f0))).setCell ⟨gb125,1,none⟩ (.string ((rd_T48 l0 x9_1).f1)))):=⟨by repeat (first|(with_reducible first|exact HB.out|apply pa|apply pb|apply pd|refine pt ?_ GE125.out)|exact HB.out)⟩
             (try clear BK125)
             (try clear HB)
             generalize ((w20.setCell ⟨gb125,0,none⟩ (.int .i64 ((rd_T48 l0 x9_1).f0))).setCell ⟨gb125,1,none⟩ (.string ((rd_T48 l0 x9_1).f1)))=w22 at n0_ n1_ ⊢
             have BK125:=n0_
             have HB:=n1_
             clear n0_ n1_
             have n0_:=am (qd BK125.out)
             have n1_:=am (pd HB.out)
             clear BK125
             clear HB
             have BK125:=n0_
             have HB:=n1_
             clear n0_ n1_
             have p127:0≤((ji9):Int):=od d3
             have q127:(ji9) < (l0.length:Int):=od d3
             obtain ⟨ad127,e127,hx127_0,hx127_1⟩:=at_T48 HR0.out (ji9) p127 q127
             have hw127_1:=hx127_1
             have hw127_0:=hx127_0
             obtain rfl:ad124=ad127:=(by injection e127)
             replace hx127_0:=(HB.out.cell (World.block_lt_of_cell? w _ hx127_0)).trans hx127_0
             replace hx127_1:=(HB.out.cell (World.block_lt_of_cell? w _ hx127_1)).trans hx127_1
             replace p127:=eq_true p127
             replace q127:=eq_true q127
             have p128:0≤(0:Int):=d16
             have q128:0 < (l0.length:Int):=od d3
             obtain ⟨ad128,e128,hx128_0,hx128_1⟩:=at_T48 HR0.out 0 p128 q128
             have hw128_1:=hx128_1
             (try rw [show ((0:Int)).toNat=0 from rfl] at hw128_1)
             (try rw [show 0*2=0 from rfl] at hw128_1)
             (try rw [Addr.add_zero'] at hw128_1)
             have hw128_0:=hx128_0
             (try rw [show ((0:Int)).toNat=0 from rfl] at hw128_0)
             (try rw [show 0*2=0 from rfl] at hw128_0)
             (try rw [Addr.add_zero'] at hw128_0)
             obtain rfl:ad124=ad128:=(by injection e128)
             have qi128:(0 < l0.length)=True:=eq_true d16
             (try rw [show ((0:Int)).toNat=0 from rfl] at hx128_0)
             (try rw [show 0*2=0 from rfl] at hx128_0)
             (try rw [Addr.add_zero'] at hx128_0)
             (try rw [show ((0:Int)).toNat=0 from rfl] at hx128_1)
             (try rw [show 0*2=0 from rfl] at hx128_1)
             (try rw [Addr.add_zero'] at hx128_1)
             replace hx128_0:=(HB.out.cell (World.block_lt_of_cell? w _ hx128_0)).trans hx128_0
             replace hx128_1:=(HB.out.cell (World.block_lt_of_cell? w _ hx128_1)).trans hx128_1
             replace p128:=eq_true p128
             replace q128:=eq_true q128
             refine rS (n:=38) (S:=fun w'=>w'.cell? ⟨gb125,0,none⟩=some (.int .i64 ((rd_T48 l0 x9_1).f0))∧w'.cell? ⟨gb125,1,none⟩=some (.string ((rd_T48 l0 x9_1).f1))∧w'.cell? (ad124.add (((ji9)).toNat*2))=some (.int .i64 ((rd_T48 l0 (ji9)).f0))∧w'.cell? ⟨(ad124.add (((ji9)).toNat*2)).block,(ad124.add (((ji9)).toNat*2)).off+1,none⟩=some (.string ((rd_T48 l0 (ji9)).f1))∧w'.cell? ad124=some (.int .i64 ((rd_T48 l0 0).f0))∧w'.cell? ⟨ad124.block,ad124.off+1,none⟩=some (.string ((rd_T48 l0 0).f1))) (ds:=[]) [(0,14),(2,16),(3,17),(1,15),(4,0),(5,19),(6,20),(7,21),(8,22),(9,23),(10,24),(11,25),(12,26),(13,27),(14,28),(16,30),(15,29),(17,31),(18,32),(19,33),(20,34),(21,35),(22,36),(25,39),(26,40),(27,41),(23,37),(24,38),(28,42),(29,43),(30,44),(31,45),(32,46),(33,47),(34,48),(35,49),(36,50),(37,51)] d5 rfl spec_l3Shards.tab4 spec_l3Shards.bits4 ⟨(blk_cell BK125.out 0).trans rfl,(blk_cell BK125.out 1).trans rfl,((HB.out.cell (World.block_lt_of_cell? w _ hw127_0)).trans hw127_0),((HB.out.cell (World.block_lt_of_cell? w _ hw127_1)).trans hw127_1),((HB.out.cell (World.block_lt_of_cell? w _ hw128_0)).trans hw128_0),((HB.out.cell (World.block_lt_of_cell? w _ hw128_1)).trans hw128_1)⟩ (fun hHeld HT_ HW_=>?_)
             generalize w22.drew=w23 at BK125 HB hx127_0 hx127_1 hx128_0 hx128_1 hHeld ⊢
             refine rR ?_
             refine rO (N:=some 18) HT_ rfl rfl d5 d12 (fun K hK=>?_)
             refine goes_ Try.func84 d5 rfl #[.int .i64 ((rd_T48 l0 x9_1).f0), .int .i64 0, .int .i64 (wrap64 (a1 - 1))] d28 rfl rfl d1 ?_
             with_reducible refine (spec_l1In.calls ((rd_T48 l0 x9_1).f0) 0 (wrap64 (a1 - 1)) true _ A6.out).mono ?_
             rintro e w' ⟨rfl,⟨nd,rfl⟩⟩
             refine ⟨_,rfl,?_⟩
             refine hK.out _ _ ⟨(blk_cell BK125.out 0).trans rfl,(blk_cell BK125.out 1).trans rfl,((HB.out.cell (World.block_lt_of_cell? w _ hw127_0)).trans hw127_0),((HB.out.cell (World.block_lt_of_cell? w _ hw127_1)).trans hw127_1),((HB.out.cell (World.block_lt_of_cell? w _ hw128_0)).trans hw128_0),((HB.out.cell (World.block_lt_of_cell? w _ hw128_1)).trans hw128_1)⟩ (fun hHeld=>?_)
             clear hK K
             refine rN (a':=?_) ?_ ?_
             rotate_left
             ·show Act.put _ (some 18) _=_
              simp only [Act.put,q1,q2,q3,i64_w,i32_w]
              rfl
             refine rR ?_
             refine rD HT_ d5 ?_
             try go_wp2
             go_ret
             exact ⟨d20,by repeat (first|(with_reducible first|exact HB.out|apply pa|apply pb|apply pd|refine pt ?_ GE125.out)|exact HB.out)⟩
            rw [if_neg c19] at H
            have c19b0:decide (40 < (((rd_T48 l0 x9_1).f1).size:Int))=false:=decide_eq_false c19
            have c19b1:decide (40 < ((rd_T48 l0 x9_1).f1).size)=false:=decide_eq_false d16
            clear c19
            have H':=am H
            clear H
            have p124:0≤(x9_1:Int):=od d3
            have q124:x9_1 < (l0.length:Int):=od d3
            obtain ⟨ad124,e124,hx124_0,hx124_1⟩:=at_T48 HR0.out x9_1 p124 q124
            cases e124
            replace hx124_0:=(HB.out.cell (World.block_lt_of_cell? w _ hx124_0)).trans hx124_0
            replace hx124_1:=(HB.out.cell (World.block_lt_of_cell? w _ hx124_1)).trans hx124_1
            replace p124:=eq_true p124
            replace q124:=eq_true q124
            try go_wp2_with (first|((with_reducible refine gate_dst (N:=6) rfl ?_);(try (refine gate_guard d28 ?_;dsimp only));refine box_event ?hg (N:=6) ?hd (cs:=#[.int .i64 0, .string (⟨#[]⟩:ByteArray)]) (t:=48) ?hr ?_;(case hd=>rfl);(case hg=>rfl);(case hr=>first|(go_simp;done)|(go_simp;rfl));intro gb125 hg w24 hbox hb;have n0_:=am (pu d0 hb);have n1_:=am (hbox);have n2_:=am ((by rw [hg];exact (pz d0):w.heap.size≤gb125));have n3_:=n2_;clear HB;have HB:=n0_;have BK125:=n1_;have GW125:=n2_;have GE125:=n3_;clear n0_ n1_ n2_ n3_;clear hb hbox hg;have hcz25_0:w24.cell? ⟨gb125,0,none⟩=some (.int .i64 0):=(blk_cell BK125.out 0).trans rfl;have hcz25_1:w24.cell? ⟨gb125,1,none⟩=some (.string (⟨#[]⟩:ByteArray)):=(blk_cell BK125.out 1).trans rfl;have hfz25_0:=blk_frozen BK125.out 0;have hfz25_1:=blk_frozen BK125.out 1))
            have n0_:Aside0 (((w24.setCell ⟨gb125,0,none⟩ (.int .i64 ((rd_T48 l0 x9_1).f0))).setCell ⟨gb125,1,none⟩ (.string ((rd_T48 l0 x9_1).f1))).heap[gb125]? = some (.cells #[.int .i64 ((rd_T48 l0 x9_1).f0), .string ((rd_T48 l0 x9_1).f1)] 48 (0,0))):=⟨by (with_reducible repeat (first|refine qn ?_ _|refine qd ?_|refine qa ?_ _));refine blk_put (cs:=#[.int .i64 ((rd_T48 l0 x9_1).f0), .string (⟨#[]⟩:ByteArray)]) ?_ 1 _ rfl;(with_reducible repeat (first|refine qn ?_ _|refine qd ?_|refine qa ?_ _));refine blk_put (cs:=#[.int .i64 0, .string (⟨#[]⟩:ByteArray)]) ?_ 0 _ rfl;(with_reducible repeat (first|refine qn ?_ _|refine qd ?_|refine qa ?_ _));exact BK125.out⟩
            have n1_:Aside0 (Below w.heap.size w ((w24.setCell ⟨gb125,0,none⟩ (.int .i64 ((rd_T48 l0 x9_1).f0))).setCell ⟨gb125,1,none⟩ (.string ((rd_T48 l0 x9_1).f1)))):=⟨by repeat (first|(with_reducible first|exact HB.out|apply pa|apply pb|apply pd|refine pt ?_ GE125.out)|exact HB.out)⟩
            (try clear BK125)
            (try clear HB)
            generalize ((w24.setCell ⟨gb125,0,none⟩ (.int .i64 ((rd_T48 l0 x9_1).f0))).setCell ⟨gb125,1,none⟩ (.string ((rd_T48 l0 x9_1).f1)))=w26 at n0_ n1_ ⊢
            have BK125:=n0_
            have HB:=n1_
            clear n0_ n1_
            have n0_:=am (qd BK125.out)
            have n1_:=am (pd HB.out)
            clear BK125
            clear HB
            have BK125:=n0_
            have HB:=n1_
            clear n0_ n1_
            have p127:0≤((ji9):Int):=od d3
            have q127:(ji9) < (l0.length:Int):=od d3
            obtain ⟨ad127,e127,hx127_0,hx127_1⟩:=at_T48 HR0.out (ji9) p127 q127
            have hw127_1:=hx127_1
            have hw127_0:=hx127_0
            obtain rfl:ad124=ad127:=(by injection e127)
            replace hx127_0:=(HB.out.cell (World.block_lt_of_cell? w _ hx127_0)).trans hx127_0
            replace hx127_1:=(HB.out.cell (World.block_lt_of_cell? w _ hx127_1)).trans hx127_1
            replace p127:=eq_true p127
            replace q127:=eq_true q127
            have p128:0≤(0:Int):=d16
            have q128:0 < (l0.length:Int):=od d3
            obtain ⟨ad128,e128,hx128_0,hx128_1⟩:=at_T48 HR0.out 0 p128 q128
            have hw128_1:=hx128_1
            (try rw [show ((0:Int)).toNat=0 from rfl] at hw128_1)
            (try rw [show 0*2=0 from rfl] at hw128_1)
            (try rw [Addr.add_zero'] at hw128_1)
            have hw128_0:=hx128_0
            (try rw [show ((0:Int)).toNat=0 from rfl] at hw128_0)
            (try rw [show 0*2=0 from rfl] at hw128_0)
            (try rw [Addr.add_zero'] at hw128_0)
            obtain rfl:ad124=ad128:=(by injection e128)
            have qi128:(0 < l0.length)=True:=eq_true d16
            (try rw [show ((0:Int)).toNat=0 from rfl] at hx128_0)
            (try rw [show 0*2=0 from rfl] at hx128_0)
            (try rw [Addr.add_zero'] at hx128_0)
            (try rw [show ((0:Int)).toNat=0 from rfl] at hx128_1)
            (try rw [show 0*2=0 from rfl] at hx128_1)
            (try rw [Addr.add_zero'] at hx128_1)
            replace hx128_0:=(HB.out.cell (World.block_lt_of_cell? w _ hx128_0)).trans hx128_0
            replace hx128_1:=(HB.out.cell (World.block_lt_of_cell? w _ hx128_1)).trans hx128_1
            replace p128:=eq_true p128
            replace q128:=eq_true q128
            refine rS (n:=38) (S:=fun w'=>w'.cell? ⟨gb125,0,none⟩=some (.int .i64 ((rd_T48 l0 x9_1).f0))∧w'.cell? ⟨gb125,1,none⟩=some (.string ((rd_T48 l0 x9_1).f1))∧w'.cell? (ad124.add (((ji9)).toNat*2))=some (.int .i64 ((rd_T48 l0 (ji9)).f0))∧w'.cell? ⟨(ad124.add (((ji9)).toNat*2)).block,(ad124.add (((ji9)).toNat*2)).off+1,none⟩=some (.string ((rd_T48 l0 (ji9)).f1))∧w'.cell? ad124=some (.int .i64 ((rd_T48 l0 0).f0))∧w'.cell? ⟨ad124.block,ad124.off+1,none⟩=some (.string ((rd_T48 l0 0).f1))) (ds:=[]) [(0,14),(2,16),(3,17),(1,15),(4,0),(5,19),(6,20),(7,21),(8,22),(9,23),(10,24),(11,25),(12,26),(13,27),(14,28),(16,30),(15,29),(17,31),(18,32),(19,33),(20,34),(21,35),(22,36),(25,39),(26,40),(27,41),(23,37),(24,38),(28,42),(29,43),(30,44),(31,45),(32,46),(33,47),(34,48),(35,49),(36,50),(37,51)] d5 rfl spec_l3Shards.tab4 spec_l3Shards.bits4 ⟨(blk_cell BK125.out 0).trans rfl,(blk_cell BK125.out 1).trans rfl,((HB.out.cell (World.block_lt_of_cell? w _ hw127_0)).trans hw127_0),((HB.out.cell (World.block_lt_of_cell? w _ hw127_1)).trans hw127_1),((HB.out.cell (World.block_lt_of_cell? w _ hw128_0)).trans hw128_0),((HB.out.cell (World.block_lt_of_cell? w _ hw128_1)).trans hw128_1)⟩ (fun hHeld HT_ HW_=>?_)
            generalize w26.drew=w27 at BK125 HB hx127_0 hx127_1 hx128_0 hx128_1 hHeld ⊢
            refine rR ?_
            refine rO (N:=some 18) HT_ rfl rfl d5 d12 (fun K hK=>?_)
            refine goes_ Try.func84 d5 rfl #[.int .i64 ((rd_T48 l0 x9_1).f0), .int .i64 0, .int .i64 (wrap64 (a1 - 1))] d28 rfl rfl d1 ?_
            with_reducible refine (spec_l1In.calls ((rd_T48 l0 x9_1).f0) 0 (wrap64 (a1 - 1)) true _ A6.out).mono ?_
            rintro e w' ⟨rfl,⟨nd,rfl⟩⟩
            refine ⟨_,rfl,?_⟩
            refine hK.out _ _ ⟨(blk_cell BK125.out 0).trans rfl,(blk_cell BK125.out 1).trans rfl,((HB.out.cell (World.block_lt_of_cell? w _ hw127_0)).trans hw127_0),((HB.out.cell (World.block_lt_of_cell? w _ hw127_1)).trans hw127_1),((HB.out.cell (World.block_lt_of_cell? w _ hw128_0)).trans hw128_0),((HB.out.cell (World.block_lt_of_cell? w _ hw128_1)).trans hw128_1)⟩ (fun hHeld=>?_)
            clear hK K
            refine rN (a':=?_) ?_ ?_
            rotate_left
            ·show Act.put _ (some 18) _=_
             simp only [Act.put,q1,q2,q3,i64_w,i32_w]
             rfl
            refine rR ?_
            refine rD HT_ d5 ?_
            try go_wp2
            go_roundg k1
            case measure=>have:=HK1.out;omega
            case rel=>exact ⟨(wrap64 (x9_1+1)),d4,H',⟨d26⟩,⟨by repeat (first|(with_reducible first|exact HB.out|apply pa|apply pb|apply pd|refine pt ?_ GE125.out)|exact HB.out)⟩⟩
           rw [if_neg c18] at H
           have c18b0:((((rd_T48 l0 x9_1).f1).size:Int) == (((rd_T48 l0 0).f1).size:Int))=false:=beq_eq_false_iff_ne.mpr c18
           have c18b1:((((rd_T48 l0 x9_1).f1).size:Int) != (((rd_T48 l0 0).f1).size:Int))=true:=bne_iff_ne.mpr c18
           have c18b2:(((rd_T48 l0 x9_1).f1).size == ((rd_T48 l0 0).f1).size)=false:=by first|simpa using c18|(simp at c18 ⊢;omega)
           obtain rfl:=Option.some.inj H
           have p124:0≤(x9_1:Int):=od d3
           have q124:x9_1 < (l0.length:Int):=od d3
           obtain ⟨ad124,e124,hx124_0,hx124_1⟩:=at_T48 HR0.out x9_1 p124 q124
           cases e124
           replace hx124_0:=(HB.out.cell (World.block_lt_of_cell? w _ hx124_0)).trans hx124_0
           replace hx124_1:=(HB.out.cell (World.block_lt_of_cell? w _ hx124_1)).trans hx124_1
           replace p124:=eq_true p124
           replace q124:=eq_true q124
           try go_wp2_with (first|((with_reducible refine gate_dst (N:=6) rfl ?_);(try (refine gate_guard d28 ?_;dsimp only));refine box_event ?hg (N:=6) ?hd (cs:=#[.int .i64 0, .string (⟨#[]⟩:ByteArray)]) (t:=48) ?hr ?_;(case hd=>rfl);(case hg=>rfl);(case hr=>first|(go_simp;done)|(go_simp;rfl));intro gb125 hg w28 hbox hb;have n0_:=am (pu d0 hb);have n1_:=am (hbox);have n2_:=am ((by rw [hg];exact (pz d0):w.heap.size≤gb125));have n3_:=n2_;clear HB;have HB:=n0_;have BK125:=n1_;have GW125:=n2_;have GE125:=n3_;clear n0_ n1_ n2_ n3_;clear hb hbox hg;have hcz29_0:w28.cell? ⟨gb125,0,none⟩=some (.int .i64 0):=(blk_cell BK125.out 0).trans rfl;have hcz29_1:w28.cell? ⟨gb125,1,none⟩=some (.string (⟨#[]⟩:ByteArray)):=(blk_cell BK125.out 1).trans rfl;have hfz29_0:=blk_frozen BK125.out 0;have hfz29_1:=blk_frozen BK125.out 1))
           have n0_:Aside0 (((w28.setCell ⟨gb125,0,none⟩ (.int .i64 ((rd_T48 l0 x9_1).f0))).setCell ⟨gb125,1,none⟩ (.string ((rd_T48 l0 x9_1).f1))).heap[gb125]? = some (.cells #[.int .i64 ((rd_T48 l0 x9_1).f0), .string ((rd_T48 l0 x9_1).f1)] 48 (0,0))):=⟨by (with_reducible repeat (first|refine qn ?_ _|refine qd ?_|refine qa ?_ _));refine blk_put (cs:=#[.int .i64 ((rd_T48 l0 x9_1).f0), .string (⟨#[]⟩:ByteArray)]) ?_ 1 _ rfl;(with_reducible repeat (first|refine qn ?_ _|refine qd ?_|refine qa ?_ _));refine blk_put (cs:=#[.int .i64 0, .string (⟨#[]⟩:ByteArray)]) ?_ 0 _ rfl;(with_reducible repeat (first|refine qn ?_ _|refine qd ?_|refine qa ?_ _));exact BK125.out⟩
           have n1_:Aside0 (Below w.heap.size w ((w28.setCell ⟨gb125,0,none⟩ (.int .i64 ((rd_T48 l0 x9_1).f0))).setCell ⟨gb125,1,none⟩ (.string ((rd_T48 l0 x9_1).f1)))):=⟨by repeat (first|(with_reducible first|exact HB.out|apply pa|apply pb|apply pd|refine pt ?_ GE125.out)|exact HB.out)⟩
           (try clear BK125)
           (try clear HB)
           generalize ((w28.setCell ⟨gb125,0,none⟩ (.int .i64 ((rd_T48 l0 x9_1).f0))).setCell ⟨gb125,1,none⟩ (.string ((rd_T48 l0 x9_1).f1)))=w30 at n0_ n1_ ⊢
           have BK125:=n0_
           have HB:=n1_
           clear n0_ n1_
           have n0_:=am (qd BK125.out)
           have n1_:=am (pd HB.out)
           clear BK125
           clear HB
           have BK125:=n0_
           have HB:=n1_
           clear n0_ n1_
           have p127:0≤((ji9):Int):=od d3
           have q127:(ji9) < (l0.length:Int):=od d3
           obtain ⟨ad127,e127,hx127_0,hx127_1⟩:=at_T48 HR0.out (ji9) p127 q127
           have hw127_1:=hx127_1
           have hw127_0:=hx127_0
           obtain rfl:ad124=ad127:=(by injection e127)
           replace hx127_0:=(HB.out.cell (World.block_lt_of_cell? w _ hx127_0)).trans hx127_0
           replace hx127_1:=(HB.out.cell (World.block_lt_of_cell? w _ hx127_1)).trans hx127_1
           replace p127:=eq_true p127
           replace q127:=eq_true q127
           have p128:0≤(0:Int):=d16
           have q128:0 < (l0.length:Int):=od d3
           obtain ⟨ad128,e128,hx128_0,hx128_1⟩:=at_T48 HR0.out 0 p128 q128
           have hw128_1:=hx128_1
           (try rw [show ((0:Int)).toNat=0 from rfl] at hw128_1)
           (try rw [show 0*2=0 from rfl] at hw128_1)
           (try rw [Addr.add_zero'] at hw128_1)
           have hw128_0:=hx128_0
           (try rw [show ((0:Int)).toNat=0 from rfl] at hw128_0)
           (try rw [show 0*2=0 from rfl] at hw128_0)
           (try rw [Addr.add_zero'] at hw128_0)
           obtain rfl:ad124=ad128:=(by injection e128)
           have qi128:(0 < l0.length)=True:=eq_true d16
           (try rw [show ((0:Int)).toNat=0 from rfl] at hx128_0)
           (try rw [show 0*2=0 from rfl] at hx128_0)
           (try rw [Addr.add_zero'] at hx128_0)
           (try rw [show ((0:Int)).toNat=0 from rfl] at hx128_1)
           (try rw [show 0*2=0 from rfl] at hx128_1)
           (try rw [Addr.add_zero'] at hx128_1)
           replace hx128_0:=(HB.out.cell (World.block_lt_of_cell? w _ hx128_0)).trans hx128_0
           replace hx128_1:=(HB.out.cell (World.block_lt_of_cell? w _ hx128_1)).trans hx128_1
           replace p128:=eq_true p128
           replace q128:=eq_true q128
           refine rS (n:=38) (S:=fun w'=>w'.cell? ⟨gb125,0,none⟩=some (.int .i64 ((rd_T48 l0 x9_1).f0))∧w'.cell? ⟨gb125,1,none⟩=some (.string ((rd_T48 l0 x9_1).f1))∧w'.cell? (ad124.add (((ji9)).toNat*2))=some (.int .i64 ((rd_T48 l0 (ji9)).f0))∧w'.cell? ⟨(ad124.add (((ji9)).toNat*2)).block,(ad124.add (((ji9)).toNat*2)).off+1,none⟩=some (.string ((rd_T48 l0 (ji9)).f1))∧w'.cell? ad124=some (.int .i64 ((rd_T48 l0 0).f0))∧w'.cell? ⟨ad124.block,ad124.off+1,none⟩=some (.string ((rd_T48 l0 0).f1))) (ds:=[]) [(0,14),(2,16),(3,17),(1,15),(4,0),(5,19),(6,20),(7,21),(8,22),(9,23),(10,24),(11,25),(12,26),(13,27),(14,28),(16,30),(15,29),(17,31),(18,32),(19,33),(20,34),(21,35),(22,36),(25,39),(26,40),(27,41),(23,37),(24,38),(28,42),(29,43),(30,44),(31,45),(32,46),(33,47),(34,48),(35,49),(36,50),(37,51)] d5 rfl spec_l3Shards.tab4 spec_l3Shards.bits4 ⟨(blk_cell BK125.out 0).trans rfl,(blk_cell BK125.out 1).trans rfl,((HB.out.cell (World.block_lt_of_cell? w _ hw127_0)).trans hw127_0),((HB.out.cell (World.block_lt_of_cell? w _ hw127_1)).trans hw127_1),((HB.out.cell (World.block_lt_of_cell? w _ hw128_0)).trans hw128_0),((HB.out.cell (World.block_lt_of_cell? w _ hw128_1)).trans hw128_1)⟩ (fun hHeld HT_ HW_=>?_)
           generalize w30.drew=w31 at BK125 HB hx127_0 hx127_1 hx128_0 hx128_1 hHeld ⊢
           refine rR ?_
           refine rO (N:=some 18) HT_ rfl rfl d5 d12 (fun K hK=>?_)
           refine goes_ Try.func84 d5 rfl #[.int .i64 ((rd_T48 l0 x9_1).f0), .int .i64 0, .int .i64 (wrap64 (a1 - 1))] d28 rfl rfl d1 ?_
           with_reducible refine (spec_l1In.calls ((rd_T48 l0 x9_1).f0) 0 (wrap64 (a1 - 1)) true _ A6.out).mono ?_
           rintro e w' ⟨rfl,⟨nd,rfl⟩⟩
           refine ⟨_,rfl,?_⟩
           refine hK.out _ _ ⟨(blk_cell BK125.out 0).trans rfl,(blk_cell BK125.out 1).trans rfl,((HB.out.cell (World.block_lt_of_cell? w _ hw127_0)).trans hw127_0),((HB.out.cell (World.block_lt_of_cell? w _ hw127_1)).trans hw127_1),((HB.out.cell (World.block_lt_of_cell? w _ hw128_0)).trans hw128_0),((HB.out.cell (World.block_lt_of_cell? w _ hw128_1)).trans hw128_1)⟩ (fun hHeld=>?_)
           clear hK K
           refine rN (a':=?_) ?_ ?_
           rotate_left
           ·show Act.put _ (some 18) _=_
            simp only [Act.put,q1,q2,q3,i64_w,i32_w]
            rfl
           refine rR ?_
           refine rD HT_ d5 ?_
           try go_wp2
           go_ret
           exact ⟨d20,by repeat (first|(with_reducible first|exact HB.out|apply pa|apply pb|apply pd|refine pt ?_ GE125.out)|exact HB.out)⟩
          rw [if_neg c17] at H
          exact absurd H d24
         rw [if_neg c11] at H
         exact absurd H d24
        rw [if_neg c10] at H
        exact absurd H d24
       rw [if_neg c8] at H
       have c8b0:decide (0 < x9_1)=false:=decide_eq_false c8
       clear c8
       by_cases c32:0 < (l0.length:Int)
       ·rw [if_pos c32] at H
        have c32b0:decide (0 < (l0.length:Int))=true:=decide_eq_true c32
        have c32b1:decide (0 < l0.length)=true:=decide_eq_true d16
        clear c32
        by_cases c33:(((rd_T48 l0 x9_1).f1).size:Int)=(((rd_T48 l0 0).f1).size:Int)
        ·rw [if_pos c33] at H
         have c33b0:((((rd_T48 l0 x9_1).f1).size:Int) == (((rd_T48 l0 0).f1).size:Int))=true:=beq_iff_eq.mpr c33
         have c33b1:((((rd_T48 l0 x9_1).f1).size:Int) != (((rd_T48 l0 0).f1).size:Int))=false:=bne_eq_false_iff_eq.mpr c33
         have c33b2:(((rd_T48 l0 x9_1).f1).size == ((rd_T48 l0 0).f1).size)=true:=by first|simpa using c33|(simp at c33 ⊢;omega)
         clear c33
         by_cases c34:(((rd_T48 l0 x9_1).f1).size:Int) > 40
         ·rw [if_pos c34] at H
          have c34b0:decide (40 < (((rd_T48 l0 x9_1).f1).size:Int))=true:=decide_eq_true c34
          have c34b1:decide (40 < ((rd_T48 l0 x9_1).f1).size)=true:=decide_eq_true d16
          clear c34
          obtain rfl:=Option.some.inj H
          have p124:0≤(x9_1:Int):=od d3
          have q124:x9_1 < (l0.length:Int):=od d3
          obtain ⟨ad124,e124,hx124_0,hx124_1⟩:=at_T48 HR0.out x9_1 p124 q124
          cases e124
          replace hx124_0:=(HB.out.cell (World.block_lt_of_cell? w _ hx124_0)).trans hx124_0
          replace hx124_1:=(HB.out.cell (World.block_lt_of_cell? w _ hx124_1)).trans hx124_1
          replace p124:=eq_true p124
          replace q124:=eq_true q124
          try go_wp2_with (first|((with_reducible refine gate_dst (N:=6) rfl ?_);(try (refine gate_guard d28 ?_;dsimp only));refine box_event ?hg (N:=6) ?hd (cs:=#[.int .i64 0, .string (⟨#[]⟩:ByteArray)]) (t:=48) ?hr ?_;(case hd=>rfl);(case hg=>rfl);(case hr=>first|(go_simp;done)|(go_simp;rfl));intro gb125 hg w35 hbox hb;have n0_:=am (pu d0 hb);have n1_:=am (hbox);have n2_:=am ((by rw [hg];exact (pz d0):w.heap.size≤gb125));have n3_:=n2_;clear HB;have HB:=n0_;have BK125:=n1_;have GW125:=n2_;have GE125:=n3_;clear n0_ n1_ n2_ n3_;clear hb hbox hg;have hcz36_0:w35.cell? ⟨gb125,0,none⟩=some (.int .i64 0):=(blk_cell BK125.out 0).trans rfl;have hcz36_1:w35.cell? ⟨gb125,1,none⟩=some (.string (⟨#[]⟩:ByteArray)):=(blk_cell BK125.out 1).trans rfl;have hfz36_0:=blk_frozen BK125.out 0;have hfz36_1:=blk_frozen BK125.out 1))
          have n0_:Aside0 (((w35.setCell ⟨gb125,0,none⟩ (.int .i64 ((rd_T48 l0 x9_1).f0))).setCell ⟨gb125,1,none⟩ (.string ((rd_T48 l0 x9_1).f1))).heap[gb125]? = some (.cells #[.int .i64 ((rd_T48 l0 x9_1).f0), .string ((rd_T48 l0 x9_1).f1)] 48 (0,0))):=⟨by (with_reducible repeat (first|refine qn ?_ _|refine qd ?_|refine qa ?_ _));refine blk_put (cs:=#[.int .i64 ((rd_T48 l0 x9_1).f0), .string (⟨#[]⟩:ByteArray)]) ?_ 1 _ rfl;(with_reducible repeat (first|refine qn ?_ _|refine qd ?_|refine qa ?_ _));refine blk_put (cs:=#[.int .i64 0, .string (⟨#[]⟩:ByteArray)]) ?_ 0 _ rfl;(with_reducible repeat (first|refine qn ?_ _|refine qd ?_|refine qa ?_ _));exact BK125.out⟩
          have n1_:Aside0 (Below w.heap.size w ((w35.setCell ⟨gb125,0,none⟩ (.int .i64 ((rd_T48 l0 x9_1).f0))).setCell ⟨gb125,1,none⟩ (.string ((rd_T48 l0 x9_1).f1)))):=⟨by repeat (first|(with_reducible first|exact HB.out|apply pa|apply pb|apply pd|refine pt ?_ GE125.out)|exact HB.out)⟩
          (try clear BK125)
          (try clear HB)
          generalize ((w35.setCell ⟨gb125,0,none⟩ (.int .i64 ((rd_T48 l0 x9_1).f0))).setCell ⟨gb125,1,none⟩ (.string ((rd_T48 l0 x9_1).f1)))=w37 at n0_ n1_ ⊢
          have BK125:=n0_
          have HB:=n1_
          clear n0_ n1_
          have n0_:=am (qd BK125.out)
          have n1_:=am (pd HB.out)
          clear BK125
          clear HB
          have BK125:=n0_
          have HB:=n1_
          clear n0_ n1_
          have p129:0≤(0:Int):=d16
          have q129:0 < (l0.length:Int):=od d3
          obtain ⟨ad129,e129,hx129_0,hx129_1⟩:=at_T48 HR0.out 0 p129 q129
          have hw129_1:=hx129_1
          (try rw [show ((0:Int)).toNat=0 from rfl] at hw129_1)
          (try rw [show 0*2=0 from rfl] at hw129_1)
          (try rw [Addr.add_zero'] at hw129_1)
          have hw129_0:=hx129_0
          (try rw [show ((0:Int)).toNat=0 from rfl] at hw129_0)
          (try rw [show 0*2=0 from rfl] at hw129_0)
          (try rw [Addr.add_zero'] at hw129_0)
          obtain rfl:ad124=ad129:=(by injection e129)
          have qi129:(0 < l0.length)=True:=eq_true d16
          (try rw [show ((0:Int)).toNat=0 from rfl] at hx129_0)
          (try rw [show 0*2=0 from rfl] at hx129_0)
          (try rw [Addr.add_zero'] at hx129_0)
          (try rw [show ((0:Int)).toNat=0 from rfl] at hx129_1)
          (try rw [show 0*2=0 from rfl] at hx129_1)
          (try rw [Addr.add_zero'] at hx129_1)
          replace hx129_0:=(HB.out.cell (World.block_lt_of_cell? w _ hx129_0)).trans hx129_0
          replace hx129_1:=(HB.out.cell (World.block_lt_of_cell? w _ hx129_1)).trans hx129_1
          replace p129:=eq_true p129
          replace q129:=eq_true q129
          refine rS (n:=38) (S:=fun w'=>w'.cell? ⟨gb125,0,none⟩=some (.int .i64 ((rd_T48 l0 x9_1).f0))∧w'.cell? ⟨gb125,1,none⟩=some (.string ((rd_T48 l0 x9_1).f1))∧w'.cell? ad124=some (.int .i64 ((rd_T48 l0 0).f0))∧w'.cell? ⟨ad124.block,ad124.off+1,none⟩=some (.string ((rd_T48 l0 0).f1))) (ds:=[]) [(0,14),(2,16),(3,17),(1,15),(4,0),(5,19),(6,20),(7,21),(8,22),(9,23),(10,24),(11,25),(12,26),(13,27),(14,28),(15,29),(16,30),(17,31),(18,32),(19,33),(20,34),(21,35),(22,36),(25,39),(26,40),(27,41),(23,37),(24,38),(28,42),(29,43),(30,44),(31,45),(32,46),(33,47),(34,48),(35,49),(36,50),(37,51)] d5 rfl spec_l3Shards.tab4 spec_l3Shards.bits4 ⟨(blk_cell BK125.out 0).trans rfl,(blk_cell BK125.out 1).trans rfl,((HB.out.cell (World.block_lt_of_cell? w _ hw129_0)).trans hw129_0),((HB.out.cell (World.block_lt_of_cell? w _ hw129_1)).trans hw129_1)⟩ (fun hHeld HT_ HW_=>?_)
          generalize w37.drew=w38 at BK125 HB hx129_0 hx129_1 hHeld ⊢
          refine rR ?_
          refine rO (N:=some 18) HT_ rfl rfl d5 d12 (fun K hK=>?_)
          refine goes_ Try.func84 d5 rfl #[.int .i64 ((rd_T48 l0 x9_1).f0), .int .i64 0, .int .i64 (wrap64 (a1 - 1))] d28 rfl rfl d1 ?_
          with_reducible refine (spec_l1In.calls ((rd_T48 l0 x9_1).f0) 0 (wrap64 (a1 - 1)) true _ A6.out).mono ?_
          rintro e w' ⟨rfl,⟨nd,rfl⟩⟩
          refine ⟨_,rfl,?_⟩
          refine hK.out _ _ ⟨(blk_cell BK125.out 0).trans rfl,(blk_cell BK125.out 1).trans rfl,((HB.out.cell (World.block_lt_of_cell? w _ hw129_0)).trans hw129_0),((HB.out.cell (World.block_lt_of_cell? w _ hw129_1)).trans hw129_1)⟩ (fun hHeld=>?_)
          clear hK K
          refine rN (a':=?_) ?_ ?_
          rotate_left
          ·show Act.put _ (some 18) _=_
           simp only [Act.put,q1,q2,q3,i64_w,i32_w]
           rfl
          refine rR ?_
          refine rD HT_ d5 ?_
          try go_wp2
          go_ret
          exact ⟨d2,by repeat (first|(with_reducible first|exact HB.out|apply pa|apply pb|apply pd|refine pt ?_ GE125.out)|exact HB.out)⟩
         rw [if_neg c34] at H
         have c34b0:decide (40 < (((rd_T48 l0 x9_1).f1).size:Int))=false:=decide_eq_false c34
         have c34b1:decide (40 < ((rd_T48 l0 x9_1).f1).size)=false:=decide_eq_false d16
         clear c34
         have H':=am H
         clear H
         have p124:0≤(x9_1:Int):=od d3
         have q124:x9_1 < (l0.length:Int):=od d3
         obtain ⟨ad124,e124,hx124_0,hx124_1⟩:=at_T48 HR0.out x9_1 p124 q124
         cases e124
         replace hx124_0:=(HB.out.cell (World.block_lt_of_cell? w _ hx124_0)).trans hx124_0
         replace hx124_1:=(HB.out.cell (World.block_lt_of_cell? w _ hx124_1)).trans hx124_1
         replace p124:=eq_true p124
         replace q124:=eq_true q124
         try go_wp2_with (first|((with_reducible refine gate_dst (N:=6) rfl ?_);(try (refine gate_guard d28 ?_;dsimp only));refine box_event ?hg (N:=6) ?hd (cs:=#[.int .i64 0, .string (⟨#[]⟩:ByteArray)]) (t:=48) ?hr ?_;(case hd=>rfl);(case hg=>rfl);(case hr=>first|(go_simp;done)|(go_simp;rfl));intro gb125 hg w39 hbox hb;have n0_:=am (pu d0 hb);have n1_:=am (hbox);have n2_:=am ((by rw [hg];exact (pz d0):w.heap.size≤gb125));have n3_:=n2_;clear HB;have HB:=n0_;have BK125:=n1_;have GW125:=n2_;have GE125:=n3_;clear n0_ n1_ n2_ n3_;clear hb hbox hg;have hcz40_0:w39.cell? ⟨gb125,0,none⟩=some (.int .i64 0):=(blk_cell BK125.out 0).trans rfl;have hcz40_1:w39.cell? ⟨gb125,1,none⟩=some (.string (⟨#[]⟩:ByteArray)):=(blk_cell BK125.out 1).trans rfl;have hfz40_0:=blk_frozen BK125.out 0;have hfz40_1:=blk_frozen BK125.out 1))
         have n0_:Aside0 (((w39.setCell ⟨gb125,0,none⟩ (.int .i64 ((rd_T48 l0 x9_1).f0))).setCell ⟨gb125,1,none⟩ (.string ((rd_T48 l0 x9_1).f1))).heap[gb125]? = some (.cells #[.int .i64 ((rd_T48 l0 x9_1).f0), .string ((rd_T48 l0 x9_1).f1)] 48 (0,0))):=⟨by (with_reducible repeat (first|refine qn ?_ _|refine qd ?_|refine qa ?_ _));refine blk_put (cs:=#[.int .i64 ((rd_T48 l0 x9_1).f0), .string (⟨#[]⟩:ByteArray)]) ?_ 1 _ rfl;(with_reducible repeat (first|refine qn ?_ _|refine qd ?_|refine qa ?_ _));refine blk_put (cs:=#[.int .i64 0, .string (⟨#[]⟩:ByteArray)]) ?_ 0 _ rfl;(with_reducible repeat (first|refine qn ?_ _|refine qd ?_|refine qa ?_ _));exact BK125.out⟩
         have n1_:Aside0 (Below w.heap.size w ((w39.setCell ⟨gb125,0,none⟩ (.int .i64 ((rd_T48 l0 x9_1).f0))).setCell ⟨gb125,1,none⟩ (.string ((rd_T48 l0 x9_1).f1)))):=⟨by repeat (first|(with_reducible first|exact HB.out|apply pa|apply pb|apply pd|refine pt ?_ GE125.out)|exact HB.out)⟩
         (try clear BK125)
         (try clear HB)
         generalize ((w39.setCell ⟨gb125,0,none⟩ (.int .i64 ((rd_T48 l0 x9_1).f0))).setCell ⟨gb125,1,none⟩ (.string ((rd_T48 l0 x9_1).f1)))=w41 at n0_ n1_ ⊢
         have BK125:=n0_
         have HB:=n1_
         clear n0_ n1_
         have n0_:=am (qd BK125.out)
         have n1_:=am (pd HB.out)
         clear BK125
         clear HB
         have BK125:=n0_
         have HB:=n1_
         clear n0_ n1_
         have p129:0≤(0:Int):=d16
         have q129:0 < (l0.length:Int):=od d3
         obtain ⟨ad129,e129,hx129_0,hx129_1⟩:=at_T48 HR0.out 0 p129 q129
         have hw129_1:=hx129_1
         (try rw [show ((0:Int)).toNat=0 from rfl] at hw129_1)
         (try rw [show 0*2=0 from rfl] at hw129_1)
         (try rw [Addr.add_zero'] at hw129_1)
         have hw129_0:=hx129_0
         (try rw [show ((0:Int)).toNat=0 from rfl] at hw129_0)
         (try rw [show 0*2=0 from rfl] at hw129_0)
         (try rw [Addr.add_zero'] at hw129_0)
         obtain rfl:ad124=ad129:=(by injection e129)
         have qi129:(0 < l0.length)=True:=eq_true d16
         (try rw [show ((0:Int)).toNat=0 from rfl] at hx129_0)
         (try rw [show 0*2=0 from rfl] at hx129_0)
         (try rw [Addr.add_zero'] at hx129_0)
         (try rw [show ((0:Int)).toNat=0 from rfl] at hx129_1)
         (try rw [show 0*2=0 from rfl] at hx129_1)
         (try rw [Addr.add_zero'] at hx129_1)
         replace hx129_0:=(HB.out.cell (World.block_lt_of_cell? w _ hx129_0)).trans hx129_0
         replace hx129_1:=(HB.out.cell (World.block_lt_of_cell? w _ hx129_1)).trans hx129_1
         replace p129:=eq_true p129
         replace q129:=eq_true q129
         refine rS (n:=38) (S:=fun w'=>w'.cell? ⟨gb125,0,none⟩=some (.int .i64 ((rd_T48 l0 x9_1).f0))∧w'.cell? ⟨gb125,1,none⟩=some (.string ((rd_T48 l0 x9_1).f1))∧w'.cell? ad124=some (.int .i64 ((rd_T48 l0 0).f0))∧w'.cell? ⟨ad124.block,ad124.off+1,none⟩=some (.string ((rd_T48 l0 0).f1))) (ds:=[]) [(0,14),(2,16),(3,17),(1,15),(4,0),(5,19),(6,20),(7,21),(8,22),(9,23),(10,24),(11,25),(12,26),(13,27),(14,28),(15,29),(16,30),(17,31),(18,32),(19,33),(20,34),(21,35),(22,36),(25,39),(26,40),(27,41),(23,37),(24,38),(28,42),(29,43),(30,44),(31,45),(32,46),(33,47),(34,48),(35,49),(36,50),(37,51)] d5 rfl spec_l3Shards.tab4 spec_l3Shards.bits4 ⟨(blk_cell BK125.out 0).trans rfl,(blk_cell BK125.out 1).trans rfl,((HB.out.cell (World.block_lt_of_cell? w _ hw129_0)).trans hw129_0),((HB.out.cell (World.block_lt_of_cell? w _ hw129_1)).trans hw129_1)⟩ (fun hHeld HT_ HW_=>?_)
         generalize w41.drew=w42 at BK125 HB hx129_0 hx129_1 hHeld ⊢
         refine rR ?_
         refine rO (N:=some 18) HT_ rfl rfl d5 d12 (fun K hK=>?_)
         refine goes_ Try.func84 d5 rfl #[.int .i64 ((rd_T48 l0 x9_1).f0), .int .i64 0, .int .i64 (wrap64 (a1 - 1))] d28 rfl rfl d1 ?_
         with_reducible refine (spec_l1In.calls ((rd_T48 l0 x9_1).f0) 0 (wrap64 (a1 - 1)) true _ A6.out).mono ?_
         rintro e w' ⟨rfl,⟨nd,rfl⟩⟩
         refine ⟨_,rfl,?_⟩
         refine hK.out _ _ ⟨(blk_cell BK125.out 0).trans rfl,(blk_cell BK125.out 1).trans rfl,((HB.out.cell (World.block_lt_of_cell? w _ hw129_0)).trans hw129_0),((HB.out.cell (World.block_lt_of_cell? w _ hw129_1)).trans hw129_1)⟩ (fun hHeld=>?_)
         clear hK K
         refine rN (a':=?_) ?_ ?_
         rotate_left
         ·show Act.put _ (some 18) _=_
          simp only [Act.put,q1,q2,q3,i64_w,i32_w]
          rfl
         refine rR ?_
         refine rD HT_ d5 ?_
         try go_wp2
         go_roundg k1
         case measure=>have:=HK1.out;omega
         case rel=>exact ⟨(wrap64 (x9_1+1)),d4,H',⟨d26⟩,⟨by repeat (first|(with_reducible first|exact HB.out|apply pa|apply pb|apply pd|refine pt ?_ GE125.out)|exact HB.out)⟩⟩
        rw [if_neg c33] at H
        have c33b0:((((rd_T48 l0 x9_1).f1).size:Int) == (((rd_T48 l0 0).f1).size:Int))=false:=beq_eq_false_iff_ne.mpr c33
        have c33b1:((((rd_T48 l0 x9_1).f1).size:Int) != (((rd_T48 l0 0).f1).size:Int))=true:=bne_iff_ne.mpr c33
        have c33b2:(((rd_T48 l0 x9_1).f1).size == ((rd_T48 l0 0).f1).size)=false:=by first|simpa using c33|(simp at c33 ⊢;omega)
        obtain rfl:=Option.some.inj H
        have p124:0≤(x9_1:Int):=od d3
        have q124:x9_1 < (l0.length:Int):=od d3
        obtain ⟨ad124,e124,hx124_0,hx124_1⟩:=at_T48 HR0.out x9_1 p124 q124
        cases e124
        replace hx124_0:=(HB.out.cell (World.block_lt_of_cell? w _ hx124_0)).trans hx124_0
        replace hx124_1:=(HB.out.cell (World.block_lt_of_cell? w _ hx124_1)).trans hx124_1
        replace p124:=eq_true p124
        replace q124:=eq_true q124
        try go_wp2_with (first|((with_reducible refine gate_dst (N:=6) rfl ?_);(try (refine gate_guard d28 ?_;dsimp only));refine box_event ?hg (N:=6) ?hd (cs:=#[.int .i64 0, .string (⟨#[]⟩:ByteArray)]) (t:=48) ?hr ?_;(case hd=>rfl);(case hg=>rfl);(case hr=>first|(go_simp;done)|(go_simp;rfl));intro gb125 hg w43 hbox hb;have n0_:=am (pu d0 hb);have n1_:=am (hbox);have n2_:=am ((by rw [hg];exact (pz d0):w.heap.size≤gb125));have n3_:=n2_;clear HB;have HB:=n0_;have BK125:=n1_;have GW125:=n2_;have GE125:=n3_;clear n0_ n1_ n2_ n3_;clear hb hbox hg;have hcz44_0:w43.cell? ⟨gb125,0,none⟩=some (.int .i64 0):=(blk_cell BK125.out 0).trans rfl;have hcz44_1:w43.cell? ⟨gb125,1,none⟩=some (.string (⟨#[]⟩:ByteArray)):=(blk_cell BK125.out 1).trans rfl;have hfz44_0:=blk_frozen BK125.out 0;have hfz44_1:=blk_frozen BK125.out 1))
        have n0_:Aside0 (((w43.setCell ⟨gb125,0,none⟩ (.int .i64 ((rd_T48 l0 x9_1).f0))).setCell ⟨gb125,1,none⟩ (.string ((rd_T48 l0 x9_1).f1))).heap[gb125]? = some (.cells #[.int .i64 ((rd_T48 l0 x9_1).f0), .string ((rd_T48 l0 x9_1).f1)] 48 (0,0))):=⟨by (with_reducible repeat (first|refine qn ?_ _|refine qd ?_|refine qa ?_ _));refine blk_put (cs:=#[.int .i64 ((rd_T48 l0 x9_1).f0), .string (⟨#[]⟩:ByteArray)]) ?_ 1 _ rfl;(with_reducible repeat (first|refine qn ?_ _|refine qd ?_|refine qa ?_ _));refine blk_put (cs:=#[.int .i64 0, .string (⟨#[]⟩:ByteArray)]) ?_ 0 _ rfl;(with_reducible repeat (first|refine qn ?_ _|refine qd ?_|refine qa ?_ _));exact BK125.out⟩
        have n1_:Aside0 (Below w.heap.size w ((w43.setCell ⟨gb125,0,none⟩ (.int .i64 ((rd_T48 l0 x9_1).f0))).setCell ⟨gb125,1,none⟩ (.string ((rd_T48 l0 x9_1).f1)))):=⟨by repeat (first|(with_reducible first|exact HB.out|apply pa|apply pb|apply pd|refine pt ?_ GE125.out)|exact HB.out)⟩
        (try clear BK125)
        (try clear HB)
        generalize ((w43.setCell ⟨gb125,0,none⟩ (.int .i64 ((rd_T48 l0 x9_1).f0))).setCell ⟨gb125,1,none⟩ (.string ((rd_T48 l0 x9_1).f1)))=w45 at n0_ n1_ ⊢
        have BK125:=n0_
        have HB:=n1_
        clear n0_ n1_
        have n0_:=am (qd BK125.out)
        have n1_:=am (pd HB.out)
        clear BK125
        clear HB
        have BK125:=n0_
        have HB:=n1_
        clear n0_ n1_
        have p129:0≤(0:Int):=d16
        have q129:0 < (l0.length:Int):=od d3
        obtain ⟨ad129,e129,hx129_0,hx129_1⟩:=at_T48 HR0.out 0 p129 q129
        have hw129_1:=hx129_1
        (try rw [show ((0:Int)).toNat=0 from rfl] at hw129_1)
        (try rw [show 0*2=0 from rfl] at hw129_1)
        (try rw [Addr.add_zero'] at hw129_1)
        have hw129_0:=hx129_0
        (try rw [show ((0:Int)).toNat=0 from rfl] at hw129_0)
        (try rw [show 0*2=0 from rfl] at hw129_0)
        (try rw [Addr.add_zero'] at hw129_0)
        obtain rfl:ad124=ad129:=(by injection e129)
        have qi129:(0 < l0.length)=True:=eq_true d16
        (try rw [show ((0:Int)).toNat=0 from rfl] at hx129_0)
        (try rw [show 0*2=0 from rfl] at hx129_0)
        (try rw [Addr.add_zero'] at hx129_0)
        (try rw [show ((0:Int)).toNat=0 from rfl] at hx129_1)
        (try rw [show 0*2=0 from rfl] at hx129_1)
        (try rw [Addr.add_zero'] at hx129_1)
        replace hx129_0:=(HB.out.cell (World.block_lt_of_cell? w _ hx129_0)).trans hx129_0
        replace hx129_1:=(HB.out.cell (World.block_lt_of_cell? w _ hx129_1)).trans hx129_1
        replace p129:=eq_true p129
        replace q129:=eq_true q129
        refine rS (n:=38) (S:=fun w'=>w'.cell? ⟨gb125,0,none⟩=some (.int .i64 ((rd_T48 l0 x9_1).f0))∧w'.cell? ⟨gb125,1,none⟩=some (.string ((rd_T48 l0 x9_1).f1))∧w'.cell? ad124=some (.int .i64 ((rd_T48 l0 0).f0))∧w'.cell? ⟨ad124.block,ad124.off+1,none⟩=some (.string ((rd_T48 l0 0).f1))) (ds:=[]) [(0,14),(2,16),(3,17),(1,15),(4,0),(5,19),(6,20),(7,21),(8,22),(9,23),(10,24),(11,25),(12,26),(13,27),(14,28),(15,29),(16,30),(17,31),(18,32),(19,33),(20,34),(21,35),(22,36),(25,39),(26,40),(27,41),(23,37),(24,38),(28,42),(29,43),(30,44),(31,45),(32,46),(33,47),(34,48),(35,49),(36,50),(37,51)] d5 rfl spec_l3Shards.tab4 spec_l3Shards.bits4 ⟨(blk_cell BK125.out 0).trans rfl,(blk_cell BK125.out 1).trans rfl,((HB.out.cell (World.block_lt_of_cell? w _ hw129_0)).trans hw129_0),((HB.out.cell (World.block_lt_of_cell? w _ hw129_1)).trans hw129_1)⟩ (fun hHeld HT_ HW_=>?_)
        generalize w45.drew=w46 at BK125 HB hx129_0 hx129_1 hHeld ⊢
        refine rR ?_
        refine rO (N:=some 18) HT_ rfl rfl d5 d12 (fun K hK=>?_)
        refine goes_ Try.func84 d5 rfl #[.int .i64 ((rd_T48 l0 x9_1).f0), .int .i64 0, .int .i64 (wrap64 (a1 - 1))] d28 rfl rfl d1 ?_
        with_reducible refine (spec_l1In.calls ((rd_T48 l0 x9_1).f0) 0 (wrap64 (a1 - 1)) true _ A6.out).mono ?_
        rintro e w' ⟨rfl,⟨nd,rfl⟩⟩
        refine ⟨_,rfl,?_⟩
        refine hK.out _ _ ⟨(blk_cell BK125.out 0).trans rfl,(blk_cell BK125.out 1).trans rfl,((HB.out.cell (World.block_lt_of_cell? w _ hw129_0)).trans hw129_0),((HB.out.cell (World.block_lt_of_cell? w _ hw129_1)).trans hw129_1)⟩ (fun hHeld=>?_)
        clear hK K
        refine rN (a':=?_) ?_ ?_
        rotate_left
        ·show Act.put _ (some 18) _=_
         simp only [Act.put,q1,q2,q3,i64_w,i32_w]
         rfl
        refine rR ?_
        refine rD HT_ d5 ?_
        try go_wp2
        go_ret
        exact ⟨d2,by repeat (first|(with_reducible first|exact HB.out|apply pa|apply pb|apply pd|refine pt ?_ GE125.out)|exact HB.out)⟩
       rw [if_neg c32] at H
       exact absurd H d24
      replace c7:=Bool.eq_false_iff.mpr c7
      subst c7
      have H1:(some false)=some r:=by rw [if_neg (show ¬ (false=true) by decide)] at H;exact H
      clear H
      have H:=H1
      clear H1
      obtain rfl:=Option.some.inj H
      have p124:0≤(x9_1:Int):=od d3
      have q124:x9_1 < (l0.length:Int):=od d3
      obtain ⟨ad124,e124,hx124_0,hx124_1⟩:=at_T48 HR0.out x9_1 p124 q124
      cases e124
      replace hx124_0:=(HB.out.cell (World.block_lt_of_cell? w _ hx124_0)).trans hx124_0
      replace hx124_1:=(HB.out.cell (World.block_lt_of_cell? w _ hx124_1)).trans hx124_1
      replace p124:=eq_true p124
      replace q124:=eq_true q124
      try go_wp2_with (first|((with_reducible refine gate_dst (N:=6) rfl ?_);(try (refine gate_guard d28 ?_;dsimp only));refine box_event ?hg (N:=6) ?hd (cs:=#[.int .i64 0, .string (⟨#[]⟩:ByteArray)]) (t:=48) ?hr ?_;(case hd=>rfl);(case hg=>rfl);(case hr=>first|(go_simp;done)|(go_simp;rfl));intro gb125 hg w47 hbox hb;have n0_:=am (pu d0 hb);have n1_:=am (hbox);have n2_:=am ((by rw [hg];exact (pz d0):w.heap.size≤gb125));have n3_:=n2_;clear HB;have HB:=n0_;have BK125:=n1_;have GW125:=n2_;have GE125:=n3_;clear n0_ n1_ n2_ n3_;clear hb hbox hg;have hcz48_0:w47.cell? ⟨gb125,0,none⟩=some (.int .i64 0):=(blk_cell BK125.out 0).trans rfl;have hcz48_1:w47.cell? ⟨gb125,1,none⟩=some (.string (⟨#[]⟩:ByteArray)):=(blk_cell BK125.out 1).trans rfl;have hfz48_0:=blk_frozen BK125.out 0;have hfz48_1:=blk_frozen BK125.out 1))
      have n0_:Aside0 (((w47.setCell ⟨gb125,0,none⟩ (.int .i64 ((rd_T48 l0 x9_1).f0))).setCell ⟨gb125,1,none⟩ (.string ((rd_T48 l0 x9_1).f1))).heap[gb125]? = some (.cells #[.int .i64 ((rd_T48 l0 x9_1).f0), .string ((rd_T48 l0 x9_1).f1)] 48 (0,0))):=⟨by (with_reducible repeat (first|refine qn ?_ _|refine qd ?_|refine qa ?_ _));refine blk_put (cs:=#[.int .i64 ((rd_T48 l0 x9_1).f0), .string (⟨#[]⟩:ByteArray)]) ?_ 1 _ rfl;(with_reducible repeat (first|refine qn ?_ _|refine qd ?_|refine qa ?_ _));refine blk_put (cs:=#[.int .i64 0, .string (⟨#[]⟩:ByteArray)]) ?_ 0 _ rfl;(with_reducible repeat (first|refine qn ?_ _|refine qd ?_|refine qa ?_ _));exact BK125.out⟩
      have n1_:Aside0 (Below w.heap.size w ((w47.setCell ⟨gb125,0,none⟩ (.int .i64 ((rd_T48 l0 x9_1).f0))).setCell ⟨gb125,1,none⟩ (.string ((rd_T48 l0 x9_1).f1)))):=⟨by repeat (first|(with_reducible first|exact HB.out|apply pa|apply pb|apply pd|refine pt ?_ GE125.out)|exact HB.out)⟩
      (try clear BK125)
      (try clear HB)
      generalize ((w47.setCell ⟨gb125,0,none⟩ (.int .i64 ((rd_T48 l0 x9_1).f0))).setCell ⟨gb125,1,none⟩ (.string ((rd_T48 l0 x9_1).f1)))=w49 at n0_ n1_ ⊢
      have BK125:=n0_
      have HB:=n1_
      clear n0_ n1_
      have n0_:=am (qd BK125.out)
      have n1_:=am (pd HB.out)
      clear BK125
      clear HB
      have BK125:=n0_
      have HB:=n1_
      clear n0_ n1_
      refine rS (n:=38) (S:=fun w'=>w'.cell? ⟨gb125,0,none⟩=some (.int .i64 ((rd_T48 l0 x9_1).f0))∧w'.cell? ⟨gb125,1,none⟩=some (.string ((rd_T48 l0 x9_1).f1))) (ds:=[]) [(0,14),(2,16),(3,17),(1,15),(4,0),(5,19),(6,20),(7,21),(8,22),(9,23),(10,24),(11,25),(12,26),(13,27),(14,28),(15,29),(16,30),(17,31),(18,32),(19,33),(20,34),(21,35),(22,36),(23,37),(24,38),(25,39),(26,40),(27,41),(28,42),(29,43),(30,44),(31,45),(32,46),(33,47),(34,48),(35,49),(36,50),(37,51)] d5 rfl spec_l3Shards.tab4 spec_l3Shards.bits4 ⟨(blk_cell BK125.out 0).trans rfl,(blk_cell BK125.out 1).trans rfl⟩ (fun hHeld HT_ HW_=>?_)
      generalize w49.drew=w50 at BK125 HB hHeld ⊢
      refine rR ?_
      refine rO (N:=some 18) HT_ rfl rfl d5 d12 (fun K hK=>?_)
      refine goes_ Try.func84 d5 rfl #[.int .i64 ((rd_T48 l0 x9_1).f0), .int .i64 0, .int .i64 (wrap64 (a1 - 1))] d28 rfl rfl d1 ?_
      with_reducible refine (spec_l1In.calls ((rd_T48 l0 x9_1).f0) 0 (wrap64 (a1 - 1)) false _ A6.out).mono ?_
      rintro e w' ⟨rfl,⟨nd,rfl⟩⟩
      refine ⟨_,rfl,?_⟩
      refine hK.out _ _ ⟨(blk_cell BK125.out 0).trans rfl,(blk_cell BK125.out 1).trans rfl⟩ (fun hHeld=>?_)
      clear hK K
      refine rN (a':=?_) ?_ ?_
      rotate_left
      ·show Act.put _ (some 18) _=_
       simp only [Act.put,q1,q2,q3,i64_w,i32_w]
       rfl
      refine rR ?_
      refine rD HT_ d5 ?_
      try go_wp2
      go_ret
      exact ⟨d2,by repeat (first|(with_reducible first|exact HB.out|apply pa|apply pb|apply pd|refine pt ?_ GE125.out)|exact HB.out)⟩
     rw [if_neg c5] at H
     exact absurd H d24
    rw [if_neg c4] at H
    exact absurd H d24
   rw [if_neg c3] at H
   have c3b0:decide (x9_1 < (l0.length:Int))=false:=decide_eq_false c3
   clear c3
   obtain rfl:=Option.some.inj H
   go_wp2
   go_ret
   exact ⟨d2,d0⟩

end Go.Proofs.Yteflgifmdojahaa.PFnExactMendLocal
-- SQUEEZED
-- SQUEEZED2
-- SQUEEZED3
-- SQUEEZED4
-- SQUEEZED5
-- SQUEEZED6
