import Derived.Test.YtajikfnpcobnpaaVDecodeLocalB
import Derived.Test.YtajikfnpcobnpaaPFnExactDecodeLocalx0
import Derived.Test.YtajikfnpcobnpaaPFnExactDecodeLocalx2
namespace Go.Proofs.Ytajikfnpcobnpaa.PFnExactDecodeLocal
open Go.RowKit Go.Proofs.YtajikfnpcobnpaaW.PrintWords Go.Proofs.YtajikfnpcobnpaaW.PrintLast Go.Proofs.YtajikfnpcobnpaaW.PrintMore Go.Proofs.Ytajikfnpcobnpaa.KitS
attribute [local go_sem] max2_int min2_int max_two min_two max_three min_three max_four min_four
set_option linter.unusedVariables false
set_option maxHeartbeats 8000000
set_option maxRecDepth 100000
set_option linter.unusedSimpArgs false
def spec_l3Shards.l0:Nat→List (S84)→Int→List (S84)→Int→Int→Option (Bool)
 | 0,_,_,_,_,_=>none
 | k+1,x0,x1,x7,x8,x9=>if x9 < x8 then (if 0≤x9 then (if x9 < (x7.length:Int) then ((spec_l1In.f ((rd_T84 x7 x9).f0) 0 (wrap64 (x1 - 1))).bind fun t261=>(if t261=true then (if x9 > 0 then (if 0≤(wrap64 (x9 - 1)) then (if (wrap64 (x9 - 1)) < (x0.length:Int) then (if ((rd_T84 x0 (wrap64 (x9 - 1))).f0) ≥ ((rd_T84 x7 x9).f0) then (some false) else (if 0 < (x0.length:Int) then (if (((rd_T84 x7 x9).f1).size:Int)=(((rd_T84 x0 0).f1).size:Int) then (if (((rd_T84 x7 x9).f1).size:Int) > 40 then (some false) else (spec_l3Shards.l0 k x0 x1 x7 x8 (wrap64 (x9+1)))) else (some false)) else (none))) else (none)) else (none)) else (if 0 < (x0.length:Int) then (if (((rd_T84 x7 x9).f1).size:Int)=(((rd_T84 x0 0).f1).size:Int) then (if (((rd_T84 x7 x9).f1).size:Int) > 40 then (some false) else (spec_l3Shards.l0 k x0 x1 x7 x8 (wrap64 (x9+1)))) else (some false)) else (none))) else (some false))) else (none)) else (none)) else (some true)
def spec_l3Shards.f (k:Nat) (l0:List (S84)) (a1:Int):Option (Bool):=spec_l3Shards.l0 k l0 a1 l0 (l0.length:Int) 0
theorem spec_l3Shards.mono_l:∀ k,(∀ y0 y1 y2 y3 y4,LeO (spec_l3Shards.l0 k y0 y1 y2 y3 y4) (spec_l3Shards.l0 (k+1) y0 y1 y2 y3 y4))
 | 0=>fun _ _ _ _ _ r h=>by simp [spec_l3Shards.l0] at h
 | k+1=>by
  have ih0:=spec_l3Shards.mono_l k
  intro y0 y1 y2 y3 y4
  unfold spec_l3Shards.l0
  exact mm
theorem spec_l3Shards.mono:∀ a0 a1 k,LeO (spec_l3Shards.f k a0 a1) (spec_l3Shards.f (k+1) a0 a1):=by
 intro a0 a1 k
 have ih0:=spec_l3Shards.mono_l k
 unfold spec_l3Shards.f
 exact mm
def spec_l3Shards.T4:Bool × List (List Nat × List Nat):=(true,[([],[]),([0],[0]),([],[]),([2],[2]),([1,3],[1,3]),([4],[4]),([5,4],[5]),([6],[6]),([7,6],[6,7]),([8,6,6],[6,8]),([9],[9]),([9],[9]),([11,9],[9,11]),([10,12,9],[9,10,12]),([13,9],[9,13]),([14,9],[9,14]),([9],[9]),([16,9],[9,16]),([15,17,9],[9,15,17]),([9,18,6],[6,9,18]),([6,19],[6,19]),([20,9],[20]),([21],[21]),([22,21],[21,22]),([23,21],[21,23]),([21],[21]),([25,21],[21,25]),([26,21],[21,26]),([27,21],[21,27]),([28,21],[21,28]),([24,29,21],[21,24,29]),([21,30],[21,30]),([31,21],[31]),([32],[32]),([33,32],[32,33]),([34,32],[32,34]),([35,32],[32,35]),([32,36],[32,36])])
def spec_l3Shards.B4:List Nat:=[0,1,0,4,15,31,63,127,255,511,1023,1023,3071,8191,16383,32767,1023,66559,262143,524287,1048575,2097151,4194303,8388607,16777215,4194303,37748735,104857599,239075327,507510783,1073741823,2147483647,4294967295,8589934591,17179869183,34359738367,68719476735,137438953471]
theorem spec_l3Shards.tab4:rtab .any (opsOf Try.f142 4)=spec_l3Shards.T4:=by kernel_rfl
theorem spec_l3Shards.bits4:waitsOk spec_l3Shards.T4.2 spec_l3Shards.B4=true:=by kernel_rfl
theorem spec_l3Shards.calls (k:Nat) (A0:Option Addr) (c0:Nat) (l0:List (S84)) (a1:Int) (r:Bool) (w:World) (hr0:Kd.C k84 w A0 l0.length l0) (hc0:l0.length≤c0) (h:spec_l3Shards.f k l0 a1=some r) :
  Calls Try.prog 142 #[.slice A0 l0.length c0, .int .i64 a1] w fun e w'=>e = .returned (.bool r)∧Below w.heap.size w w':=by
 have hu84:=Try.underlying84
 have HR0:=am hr0
 have HC0:=am hc0
 clear hr0 hc0
 have HB:=am (Below.refl w.heap.size w)
 have H:=h
 unfold spec_l3Shards.f at H
 clear h
 have H':=am H
 clear H
 go_enter Try.func142,Try.ntmps142
 go_wp2
 go_loopg [9] k (fun kq v9 w'=>∃ (x9_1:Int),v9 = .int .i64 x9_1∧Aside0 (spec_l3Shards.l0 kq l0 a1 l0 (l0.length:Int) x9_1=some r)∧Aside0 (kq≤k)∧Aside0 (Below w.heap.size w w'))
 case atStart=>exact ⟨(0),D2,H',⟨Nat.le_refl _⟩,⟨yW HB⟩⟩
 case round =>
  clear H'
  try clear c1
  try clear p2
  obtain ⟨x9_1,rfl,HA,HK1,HB⟩:=hrel
  cases gk with
  | zero=>exact absurd HA.out (by simp [spec_l3Shards.l0])
  | succ k1 =>
   have H:=HA.out
   clear HA
   simp only [spec_l3Shards.l0] at H
   by_cases c3:x9_1 < (l0.length:Int)
   ·rw [if_pos c3] at H
    have c3b0:=decide_eq_true c3
    clear c3
    by_cases c4:0≤x9_1
    ·rw [if_pos c4] at H
     have c4b0:=decide_eq_true c4
     clear c4
     by_cases c5:x9_1 < (l0.length:Int)
     ·rw [if_pos c5] at H
      have c5b0:=decide_eq_true c5
      clear c5
      obtain ⟨t261,A6,H⟩:=yo H
      by_cases c7:t261=true
      ·subst c7
       replace H:=yt H
       by_cases c8:x9_1 > 0
       ·rw [if_pos c8] at H
        have c8b0:decide (0 < x9_1)=true:=decide_eq_true c8
        clear c8
        generalize hji9:(wrap64 (x9_1 - 1))=ji9 at H
        (try rw [hji9] at A6)
        have hji9w:(IntKind.i64.wrap (x9_1 - 1))=ji9:=(i64_w _).trans hji9
        by_cases c10:0≤(ji9)
        ·rw [if_pos c10] at H
         have c10b0:=decide_eq_true c10
         clear c10
         by_cases c11:(ji9) < (l0.length:Int)
         ·rw [if_pos c11] at H
          have c11b0:=decide_eq_true c11
          clear c11
          by_cases c12:((rd_T84 l0 (ji9)).f0) ≥ ((rd_T84 l0 x9_1).f0)
          ·rw [if_pos c12] at H
           have c12b0:decide (((rd_T84 l0 x9_1).f0)≤((rd_T84 l0 (ji9)).f0))=true:=decide_eq_true c12
           clear c12
           obtain rfl:=Option.some.inj H
           have p259:0≤(x9_1:Int):=od D0
           have q259:x9_1 < (l0.length:Int):=od D0
           obtain ⟨ad259,e259,hx259_0,hx259_1⟩:=at_T84 HR0.out x9_1 p259 q259
           cases e259
           replace hx259_0:=(HB.out.cell (World.block_lt_of_cell? w _ hx259_0)).trans hx259_0
           replace hx259_1:=(HB.out.cell (World.block_lt_of_cell? w _ hx259_1)).trans hx259_1
           replace p259:=eq_true p259
           replace q259:=eq_true q259
           try go_wp2_with (first|((with_reducible refine gD 6 ?_);(try (refine gate_guard D11 ?_;dsimp only));refine gB (cs:=#[.int .i64 0, .string (⟨#[]⟩:ByteArray)]) 84 ?_;intro gb260 hg w13 hbox hb;have BK260:=am (hbox);have GW260:=ye HB hg;replace HB:=yH HB hb;have GE260:=GW260;clear hb hbox hg;obtain ⟨hcz14_0,hcz14_1,hfz14_0,hfz14_1⟩:=yk2 BK260))
           generalize hw_:((w13.setCell ⟨gb260,0,none⟩ (.int .i64 ((rd_T84 l0 x9_1).f0))).setCell ⟨gb260,1,none⟩ (.string ((rd_T84 l0 x9_1).f1)))=w15
           replace BK260:Aside0 (w15.heap[gb260]? = some (.cells #[.int .i64 ((rd_T84 l0 x9_1).f0), .string ((rd_T84 l0 x9_1).f1)] 84 (0,0))):=⟨D9⟩
           replace HB:Aside0 (Below w.heap.size w w15):=⟨D41⟩
           clear hw_
           replace BK260:=am (qd BK260.out)
           replace HB:=am (pd HB.out)
           have p262:0≤((ji9):Int):=od D0
           have q262:(ji9) < (l0.length:Int):=od D0
           obtain ⟨ad262,e262,hx262_0,hx262_1⟩:=at_T84 HR0.out (ji9) p262 q262
           have hw262_1:=hx262_1
           have hw262_0:=hx262_0
           obtain rfl:ad259=ad262:=(by injection e262)
           replace hx262_0:=(HB.out.cell (World.block_lt_of_cell? w _ hx262_0)).trans hx262_0
           replace hx262_1:=(HB.out.cell (World.block_lt_of_cell? w _ hx262_1)).trans hx262_1
           replace p262:=eq_true p262
           replace q262:=eq_true q262
           refine rS (n:=38) (S:=fun w'=>w'.cell? ⟨gb260,0,none⟩=some (.int .i64 ((rd_T84 l0 x9_1).f0))∧w'.cell? ⟨gb260,1,none⟩=some (.string ((rd_T84 l0 x9_1).f1))∧w'.cell? (ad259.add (((ji9)).toNat*2))=some (.int .i64 ((rd_T84 l0 (ji9)).f0))∧w'.cell? ⟨(ad259.add (((ji9)).toNat*2)).block,(ad259.add (((ji9)).toNat*2)).off+1,none⟩=some (.string ((rd_T84 l0 (ji9)).f1))) (ds:=[]) [(0,14),(2,16),(3,17),(1,15),(4,0),(5,19),(6,20),(7,21),(8,22),(9,23),(10,24),(11,25),(12,26),(13,27),(14,28),(16,30),(15,29),(17,31),(18,32),(19,33),(20,34),(21,35),(22,36),(23,37),(24,38),(25,39),(26,40),(27,41),(28,42),(29,43),(30,44),(31,45),(32,46),(33,47),(34,48),(35,49),(36,50),(37,51)] D3 rfl spec_l3Shards.tab4 spec_l3Shards.bits4 ⟨yk BK260 0,yk BK260 1,((HB.out.cell (World.block_lt_of_cell? w _ hw262_0)).trans hw262_0),((HB.out.cell (World.block_lt_of_cell? w _ hw262_1)).trans hw262_1)⟩ (fun hHeld HT_ HW_=>?_)
           generalize w15.drew=w16 at BK260 HB hx262_0 hx262_1 hHeld ⊢
           refine rR ?_
           refine rO (N:=some 18) HT_ rfl rfl D3 D4 (fun K hK=>?_)
           refine goes_ Try.func121 D3 rfl #[.int .i64 ((rd_T84 l0 x9_1).f0), .int .i64 0, .int .i64 (wrap64 (a1 - 1))] D11 rfl rfl D8 ?_
           with_reducible refine (spec_l1In.calls ((rd_T84 l0 x9_1).f0) 0 (wrap64 (a1 - 1)) true _ A6.out).mono ?_
           rintro e w' ⟨rfl,⟨nd,rfl⟩⟩
           refine ⟨_,rfl,?_⟩
           refine hK.out _ _ ⟨yk BK260 0,yk BK260 1,((HB.out.cell (World.block_lt_of_cell? w _ hw262_0)).trans hw262_0),((HB.out.cell (World.block_lt_of_cell? w _ hw262_1)).trans hw262_1)⟩ (fun hHeld=>?_)
           clear hK K
           refine rN (a':=?_) ?_ ?_
           rotate_left
           ·show Act.put _ (some 18) _=_
            simp only [Act.put,q1,q2,q3,i64_w,i32_w]
            rfl
           refine rR ?_
           refine rD HT_ D3 ?_
           try go_wp2
           go_ret
           exact ⟨D38,yW HB⟩
          rw [if_neg c12] at H
          have c12b0:decide (((rd_T84 l0 x9_1).f0)≤((rd_T84 l0 (ji9)).f0))=false:=decide_eq_false c12
          clear c12
          by_cases c17:0 < (l0.length:Int)
          ·rw [if_pos c17] at H
           have c17b0:=decide_eq_true c17
           have c17b1:decide (0 < l0.length)=true:=decide_eq_true D5
           clear c17
           by_cases c18:(((rd_T84 l0 x9_1).f1).size:Int)=(((rd_T84 l0 0).f1).size:Int)
           ·rw [if_pos c18] at H
            have c18b0:((((rd_T84 l0 x9_1).f1).size:Int) == (((rd_T84 l0 0).f1).size:Int))=true:=beq_iff_eq.mpr c18
            have c18b1:((((rd_T84 l0 x9_1).f1).size:Int) != (((rd_T84 l0 0).f1).size:Int))=false:=bne_eq_false_iff_eq.mpr c18
            have c18b2:(((rd_T84 l0 x9_1).f1).size == ((rd_T84 l0 0).f1).size)=true:=by first|simpa using c18|(simp at c18 ⊢;omega)
            clear c18
            by_cases c19:(((rd_T84 l0 x9_1).f1).size:Int) > 40
            ·rw [if_pos c19] at H
             have c19b0:decide (40 < (((rd_T84 l0 x9_1).f1).size:Int))=true:=decide_eq_true c19
             have c19b1:decide (40 < ((rd_T84 l0 x9_1).f1).size)=true:=decide_eq_true D5
             clear c19
             obtain rfl:=Option.some.inj H
             have p259:0≤(x9_1:Int):=od D0
             have q259:x9_1 < (l0.length:Int):=od D0
             obtain ⟨ad259,e259,hx259_0,hx259_1⟩:=at_T84 HR0.out x9_1 p259 q259
             cases e259
             replace hx259_0:=(HB.out.cell (World.block_lt_of_cell? w _ hx259_0)).trans hx259_0
             replace hx259_1:=(HB.out.cell (World.block_lt_of_cell? w _ hx259_1)).trans hx259_1
             replace p259:=eq_true p259
             replace q259:=eq_true q259
             try go_wp2_with (first|((with_reducible refine gD 6 ?_);(try (refine gate_guard D11 ?_;dsimp only));refine gB (cs:=#[.int .i64 0, .string (⟨#[]⟩:ByteArray)]) 84 ?_;intro gb260 hg w20 hbox hb;have BK260:=am (hbox);have GW260:=ye HB hg;replace HB:=yH HB hb;have GE260:=GW260;clear hb hbox hg;obtain ⟨hcz21_0,hcz21_1,hfz21_0,hfz21_1⟩:=yk2 BK260))
             generalize hw_:((w20.setCell ⟨gb260,0,none⟩ (.int .i64 ((rd_T84 l0 x9_1).f0))).setCell ⟨gb260,1,none⟩ (.string ((rd_T84 l0 x9_1).f1)))=w22
             replace BK260:Aside0 (w22.heap[gb260]? = some (.cells #[.int .i64 ((rd_T84 l0 x9_1).f0), .string ((rd_T84 l0 x9_1).f1)] 84 (0,0))):=⟨D9⟩
             replace HB:Aside0 (Below w.heap.size w w22):=⟨D41⟩
             clear hw_
             replace BK260:=am (qd BK260.out)
             replace HB:=am (pd HB.out)
             have p262:0≤((ji9):Int):=od D0
             have q262:(ji9) < (l0.length:Int):=od D0
             obtain ⟨ad262,e262,hx262_0,hx262_1⟩:=at_T84 HR0.out (ji9) p262 q262
             have hw262_1:=hx262_1
             have hw262_0:=hx262_0
             obtain rfl:ad259=ad262:=(by injection e262)
             replace hx262_0:=(HB.out.cell (World.block_lt_of_cell? w _ hx262_0)).trans hx262_0
             replace hx262_1:=(HB.out.cell (World.block_lt_of_cell? w _ hx262_1)).trans hx262_1
             replace p262:=eq_true p262
             replace q262:=eq_true q262
             have p263:0≤(0:Int):=D5
             have q263:0 < (l0.length:Int):=od D0
             obtain ⟨ad263,e263,hx263_0,hx263_1⟩:=at_T84 HR0.out 0 p263 q263
             have hw263_1:=hx263_1
             (try rw [show ((0:Int)).toNat=0 from rfl] at hw263_1)
             (try rw [show 0*2=0 from rfl] at hw263_1)
             (try rw [Addr.add_zero'] at hw263_1)
             have hw263_0:=hx263_0
             (try rw [show ((0:Int)).toNat=0 from rfl] at hw263_0)
             (try rw [show 0*2=0 from rfl] at hw263_0)
             (try rw [Addr.add_zero'] at hw263_0)
             obtain rfl:ad259=ad263:=(by injection e263)
             have qi263:(0 < l0.length)=True:=eq_true D5
             (try rw [show ((0:Int)).toNat=0 from rfl] at hx263_0)
             (try rw [show 0*2=0 from rfl] at hx263_0)
             (try rw [Addr.add_zero'] at hx263_0)
             (try rw [show ((0:Int)).toNat=0 from rfl] at hx263_1)
             (try rw [show 0*2=0 from rfl] at hx263_1)
             (try rw [Addr.add_zero'] at hx263_1)
             replace hx263_0:=(HB.out.cell (World.block_lt_of_cell? w _ hx263_0)).trans hx263_0
             replace hx263_1:=(HB.out.cell (World.block_lt_of_cell? w _ hx263_1)).trans hx263_1
             replace p263:=eq_true p263
             replace q263:=eq_true q263
             refine rS (n:=38) (S:=fun w'=>w'.cell? ⟨gb260,0,none⟩=some (.int .i64 ((rd_T84 l0 x9_1).f0))∧w'.cell? ⟨gb260,1,none⟩=some (.string ((rd_T84 l0 x9_1).f1))∧w'.cell? (ad259.add (((ji9)).toNat*2))=some (.int .i64 ((rd_T84 l0 (ji9)).f0))∧w'.cell? ⟨(ad259.add (((ji9)).toNat*2)).block,(ad259.add (((ji9)).toNat*2)).off+1,none⟩=some (.string ((rd_T84 l0 (ji9)).f1))∧w'.cell? ad259=some (.int .i64 ((rd_T84 l0 0).f0))∧w'.cell? ⟨ad259.block,ad259.off+1,none⟩=some (.string ((rd_T84 l0 0).f1))) (ds:=[]) [(0,14),(2,16),(3,17),(1,15),(4,0),(5,19),(6,20),(7,21),(8,22),(9,23),(10,24),(11,25),(12,26),(13,27),(14,28),(16,30),(15,29),(17,31),(18,32),(19,33),(20,34),(21,35),(22,36),(25,39),(26,40),(27,41),(23,37),(24,38),(28,42),(29,43),(30,44),(31,45),(32,46),(33,47),(34,48),(35,49),(36,50),(37,51)] D3 rfl spec_l3Shards.tab4 spec_l3Shards.bits4 ⟨yk BK260 0,yk BK260 1,((HB.out.cell (World.block_lt_of_cell? w _ hw262_0)).trans hw262_0),((HB.out.cell (World.block_lt_of_cell? w _ hw262_1)).trans hw262_1),((HB.out.cell (World.block_lt_of_cell? w _ hw263_0)).trans hw263_0),((HB.out.cell (World.block_lt_of_cell? w _ hw263_1)).trans hw263_1)⟩ (fun hHeld HT_ HW_=>?_)
             generalize w22.drew=w23 at BK260 HB hx262_0 hx262_1 hx263_0 hx263_1 hHeld ⊢
             refine rR ?_
             refine rO (N:=some 18) HT_ rfl rfl D3 D4 (fun K hK=>?_)
             refine goes_ Try.func121 D3 rfl #[.int .i64 ((rd_T84 l0 x9_1).f0), .int .i64 0, .int .i64 (wrap64 (a1 - 1))] D11 rfl rfl D8 ?_
             with_reducible refine (spec_l1In.calls ((rd_T84 l0 x9_1).f0) 0 (wrap64 (a1 - 1)) true _ A6.out).mono ?_
             rintro e w' ⟨rfl,⟨nd,rfl⟩⟩
             refine ⟨_,rfl,?_⟩
             refine hK.out _ _ ⟨yk BK260 0,yk BK260 1,((HB.out.cell (World.block_lt_of_cell? w _ hw262_0)).trans hw262_0),((HB.out.cell (World.block_lt_of_cell? w _ hw262_1)).trans hw262_1),((HB.out.cell (World.block_lt_of_cell? w _ hw263_0)).trans hw263_0),((HB.out.cell (World.block_lt_of_cell? w _ hw263_1)).trans hw263_1)⟩ (fun hHeld=>?_)
             clear hK K
             refine rN (a':=?_) ?_ ?_
             rotate_left
             ·show Act.put _ (some 18) _=_
              simp only [Act.put,q1,q2,q3,i64_w,i32_w]
              rfl
             refine rR ?_
             refine rD HT_ D3 ?_
             try go_wp2
             go_ret
             exact ⟨D38,yW HB⟩
            rw [if_neg c19] at H
            have c19b0:decide (40 < (((rd_T84 l0 x9_1).f1).size:Int))=false:=decide_eq_false c19
            have c19b1:decide (40 < ((rd_T84 l0 x9_1).f1).size)=false:=decide_eq_false D5
            clear c19
            have H':=am H
            clear H
            have p259:0≤(x9_1:Int):=od D0
            have q259:x9_1 < (l0.length:Int):=od D0
            obtain ⟨ad259,e259,hx259_0,hx259_1⟩:=at_T84 HR0.out x9_1 p259 q259
            cases e259
            replace hx259_0:=(HB.out.cell (World.block_lt_of_cell? w _ hx259_0)).trans hx259_0
            replace hx259_1:=(HB.out.cell (World.block_lt_of_cell? w _ hx259_1)).trans hx259_1
            replace p259:=eq_true p259
            replace q259:=eq_true q259
            try go_wp2_with (first|((with_reducible refine gD 6 ?_);(try (refine gate_guard D11 ?_;dsimp only));refine gB (cs:=#[.int .i64 0, .string (⟨#[]⟩:ByteArray)]) 84 ?_;intro gb260 hg w24 hbox hb;have BK260:=am (hbox);have GW260:=ye HB hg;replace HB:=yH HB hb;have GE260:=GW260;clear hb hbox hg;obtain ⟨hcz25_0,hcz25_1,hfz25_0,hfz25_1⟩:=yk2 BK260))
            generalize hw_:((w24.setCell ⟨gb260,0,none⟩ (.int .i64 ((rd_T84 l0 x9_1).f0))).setCell ⟨gb260,1,none⟩ (.string ((rd_T84 l0 x9_1).f1)))=w26
            replace BK260:Aside0 (w26.heap[gb260]? = some (.cells #[.int .i64 ((rd_T84 l0 x9_1).f0), .string ((rd_T84 l0 x9_1).f1)] 84 (0,0))):=⟨D9⟩
            replace HB:Aside0 (Below w.heap.size w w26):=⟨D41⟩
            clear hw_
            replace BK260:=am (qd BK260.out)
            replace HB:=am (pd HB.out)
            have p262:0≤((ji9):Int):=od D0
            have q262:(ji9) < (l0.length:Int):=od D0
            obtain ⟨ad262,e262,hx262_0,hx262_1⟩:=at_T84 HR0.out (ji9) p262 q262
            have hw262_1:=hx262_1
            have hw262_0:=hx262_0
            obtain rfl:ad259=ad262:=(by injection e262)
            replace hx262_0:=(HB.out.cell (World.block_lt_of_cell? w _ hx262_0)).trans hx262_0
            replace hx262_1:=(HB.out.cell (World.block_lt_of_cell? w _ hx262_1)).trans hx262_1
            replace p262:=eq_true p262
            replace q262:=eq_true q262
            have p263:0≤(0:Int):=D5
            have q263:0 < (l0.length:Int):=od D0
            obtain ⟨ad263,e263,hx263_0,hx263_1⟩:=at_T84 HR0.out 0 p263 q263
            have hw263_1:=hx263_1
            (try rw [show ((0:Int)).toNat=0 from rfl] at hw263_1)
            (try rw [show 0*2=0 from rfl] at hw263_1)
            (try rw [Addr.add_zero'] at hw263_1)
            have hw263_0:=hx263_0
            (try rw [show ((0:Int)).toNat=0 from rfl] at hw263_0)
            (try rw [show 0*2=0 from rfl] at hw263_0)
            (try rw [Addr.add_zero'] at hw263_0)
            obtain rfl:ad259=ad263:=(by injection e263)
            have qi263:(0 < l0.length)=True:=eq_true D5
            (try rw [show ((0:Int)).toNat=0 from rfl] at hx263_0)
            (try rw [show 0*2=0 from rfl] at hx263_0)
            (try rw [Addr.add_zero'] at hx263_0)
            (try rw [show ((0:Int)).toNat=0 from rfl] at hx263_1)
            (try rw [show 0*2=0 from rfl] at hx263_1)
            (try rw [Addr.add_zero'] at hx263_1)
            replace hx263_0:=(HB.out.cell (World.block_lt_of_cell? w _ hx263_0)).trans hx263_0
            replace hx263_1:=(HB.out.cell (World.block_lt_of_cell? w _ hx263_1)).trans hx263_1
            replace p263:=eq_true p263
            replace q263:=eq_true q263
            refine rS (n:=38) (S:=fun w'=>w'.cell? ⟨gb260,0,none⟩=some (.int .i64 ((rd_T84 l0 x9_1).f0))∧w'.cell? ⟨gb260,1,none⟩=some (.string ((rd_T84 l0 x9_1).f1))∧w'.cell? (ad259.add (((ji9)).toNat*2))=some (.int .i64 ((rd_T84 l0 (ji9)).f0))∧w'.cell? ⟨(ad259.add (((ji9)).toNat*2)).block,(ad259.add (((ji9)).toNat*2)).off+1,none⟩=some (.string ((rd_T84 l0 (ji9)).f1))∧w'.cell? ad259=some (.int .i64 ((rd_T84 l0 0).f0))∧w'.cell? ⟨ad259.block,ad259.off+1,none⟩=some (.string ((rd_T84 l0 0).f1))) (ds:=[]) [(0,14),(2,16),(3,17),(1,15),(4,0),(5,19),(6,20),(7,21),(8,22),(9,23),(10,24),(11,25),(12,26),(13,27),(14,28),(16,30),(15,29),(17,31),(18,32),(19,33),(20,34),(21,35),(22,36),(25,39),(26,40),(27,41),(23,37),(24,38),(28,42),(29,43),(30,44),(31,45),(32,46),(33,47),(34,48),(35,49),(36,50),(37,51)] D3 rfl spec_l3Shards.tab4 spec_l3Shards.bits4 ⟨yk BK260 0,yk BK260 1,((HB.out.cell (World.block_lt_of_cell? w _ hw262_0)).trans hw262_0),((HB.out.cell (World.block_lt_of_cell? w _ hw262_1)).trans hw262_1),((HB.out.cell (World.block_lt_of_cell? w _ hw263_0)).trans hw263_0),((HB.out.cell (World.block_lt_of_cell? w _ hw263_1)).trans hw263_1)⟩ (fun hHeld HT_ HW_=>?_)
            generalize w26.drew=w27 at BK260 HB hx262_0 hx262_1 hx263_0 hx263_1 hHeld ⊢
            refine rR ?_
            refine rO (N:=some 18) HT_ rfl rfl D3 D4 (fun K hK=>?_)
            refine goes_ Try.func121 D3 rfl #[.int .i64 ((rd_T84 l0 x9_1).f0), .int .i64 0, .int .i64 (wrap64 (a1 - 1))] D11 rfl rfl D8 ?_
            with_reducible refine (spec_l1In.calls ((rd_T84 l0 x9_1).f0) 0 (wrap64 (a1 - 1)) true _ A6.out).mono ?_
            rintro e w' ⟨rfl,⟨nd,rfl⟩⟩
            refine ⟨_,rfl,?_⟩
            refine hK.out _ _ ⟨yk BK260 0,yk BK260 1,((HB.out.cell (World.block_lt_of_cell? w _ hw262_0)).trans hw262_0),((HB.out.cell (World.block_lt_of_cell? w _ hw262_1)).trans hw262_1),((HB.out.cell (World.block_lt_of_cell? w _ hw263_0)).trans hw263_0),((HB.out.cell (World.block_lt_of_cell? w _ hw263_1)).trans hw263_1)⟩ (fun hHeld=>?_)
            clear hK K
            refine rN (a':=?_) ?_ ?_
            rotate_left
            ·show Act.put _ (some 18) _=_
             simp only [Act.put,q1,q2,q3,i64_w,i32_w]
             rfl
            refine rR ?_
            refine rD HT_ D3 ?_
            try go_wp2
            go_roundg k1
            case measure=>have:=HK1.out;omega
            case rel=>exact ⟨(wrap64 (x9_1+1)),D2,H',⟨D17⟩,⟨yW HB⟩⟩
           rw [if_neg c18] at H
           have c18b0:((((rd_T84 l0 x9_1).f1).size:Int) == (((rd_T84 l0 0).f1).size:Int))=false:=beq_eq_false_iff_ne.mpr c18
           have c18b1:((((rd_T84 l0 x9_1).f1).size:Int) != (((rd_T84 l0 0).f1).size:Int))=true:=bne_iff_ne.mpr c18
           have c18b2:(((rd_T84 l0 x9_1).f1).size == ((rd_T84 l0 0).f1).size)=false:=by first|simpa using c18|(simp at c18 ⊢;omega)
           obtain rfl:=Option.some.inj H
           have p259:0≤(x9_1:Int):=od D0
           have q259:x9_1 < (l0.length:Int):=od D0
           obtain ⟨ad259,e259,hx259_0,hx259_1⟩:=at_T84 HR0.out x9_1 p259 q259
           cases e259
           replace hx259_0:=(HB.out.cell (World.block_lt_of_cell? w _ hx259_0)).trans hx259_0
           replace hx259_1:=(HB.out.cell (World.block_lt_of_cell? w _ hx259_1)).trans hx259_1
           replace p259:=eq_true p259
           replace q259:=eq_true q259
           try go_wp2_with (first|((with_reducible refine gD 6 ?_);(try (refine gate_guard D11 ?_;dsimp only));refine gB (cs:=#[.int .i64 0, .string (⟨#[]⟩:ByteArray)]) 84 ?_;intro gb260 hg w28 hbox hb;have BK260:=am (hbox);have GW260:=ye HB hg;replace HB:=yH HB hb;have GE260:=GW260;clear hb hbox hg;obtain ⟨hcz29_0,hcz29_1,hfz29_0,hfz29_1⟩:=yk2 BK260))
           generalize hw_:((w28.setCell ⟨gb260,0,none⟩ (.int .i64 ((rd_T84 l0 x9_1).f0))).setCell ⟨gb260,1,none⟩ (.string ((rd_T84 l0 x9_1).f1)))=w30
           replace BK260:Aside0 (w30.heap[gb260]? = some (.cells #[.int .i64 ((rd_T84 l0 x9_1).f0), .string ((rd_T84 l0 x9_1).f1)] 84 (0,0))):=⟨D9⟩
           replace HB:Aside0 (Below w.heap.size w w30):=⟨D41⟩
           clear hw_
           replace BK260:=am (qd BK260.out)
           replace HB:=am (pd HB.out)
           have p262:0≤((ji9):Int):=od D0
           have q262:(ji9) < (l0.length:Int):=od D0
           obtain ⟨ad262,e262,hx262_0,hx262_1⟩:=at_T84 HR0.out (ji9) p262 q262
           have hw262_1:=hx262_1
           have hw262_0:=hx262_0
           obtain rfl:ad259=ad262:=(by injection e262)
           replace hx262_0:=(HB.out.cell (World.block_lt_of_cell? w _ hx262_0)).trans hx262_0
           replace hx262_1:=(HB.out.cell (World.block_lt_of_cell? w _ hx262_1)).trans hx262_1
           replace p262:=eq_true p262
           replace q262:=eq_true q262
           have p263:0≤(0:Int):=D5
           have q263:0 < (l0.length:Int):=od D0
           obtain ⟨ad263,e263,hx263_0,hx263_1⟩:=at_T84 HR0.out 0 p263 q263
           have hw263_1:=hx263_1
           (try rw [show ((0:Int)).toNat=0 from rfl] at hw263_1)
           (try rw [show 0*2=0 from rfl] at hw263_1)
           (try rw [Addr.add_zero'] at hw263_1)
           have hw263_0:=hx263_0
           (try rw [show ((0:Int)).toNat=0 from rfl] at hw263_0)
           (try rw [show 0*2=0 from rfl] at hw263_0)
           (try rw [Addr.add_zero'] at hw263_0)
           obtain rfl:ad259=ad263:=(by injection e263)
           have qi263:(0 < l0.length)=True:=eq_true D5
           (try rw [show ((0:Int)).toNat=0 from rfl] at hx263_0)
           (try rw [show 0*2=0 from rfl] at hx263_0)
           (try rw [Addr.add_zero'] at hx263_0)
           (try rw [show ((0:Int)).toNat=0 from rfl] at hx263_1)
           (try rw [show 0*2=0 from rfl] at hx263_1)
           (try rw [Addr.add_zero'] at hx263_1)
           replace hx263_0:=(HB.out.cell (World.block_lt_of_cell? w _ hx263_0)).trans hx263_0
           replace hx263_1:=(HB.out.cell (World.block_lt_of_cell? w _ hx263_1)).trans hx263_1
           replace p263:=eq_true p263
           replace q263:=eq_true q263
           refine rS (n:=38) (S:=fun w'=>w'.cell? ⟨gb260,0,none⟩=some (.int .i64 ((rd_T84 l0 x9_1).f0))∧w'.cell? ⟨gb260,1,none⟩=some (.string ((rd_T84 l0 x9_1).f1))∧w'.cell? (ad259.add (((ji9)).toNat*2))=some (.int .i64 ((rd_T84 l0 (ji9)).f0))∧w'.cell? ⟨(ad259.add (((ji9)).toNat*2)).block,(ad259.add (((ji9)).toNat*2)).off+1,none⟩=some (.string ((rd_T84 l0 (ji9)).f1))∧w'.cell? ad259=some (.int .i64 ((rd_T84 l0 0).f0))∧w'.cell? ⟨ad259.block,ad259.off+1,none⟩=some (.string ((rd_T84 l0 0).f1))) (ds:=[]) [(0,14),(2,16),(3,17),(1,15),(4,0),(5,19),(6,20),(7,21),(8,22),(9,23),(10,24),(11,25),(12,26),(13,27),(14,28),(16,30),(15,29),(17,31),(18,32),(19,33),(20,34),(21,35),(22,36),(25,39),(26,40),(27,41),(23,37),(24,38),(28,42),(29,43),(30,44),(31,45),(32,46),(33,47),(34,48),(35,49),(36,50),(37,51)] D3 rfl spec_l3Shards.tab4 spec_l3Shards.bits4 ⟨yk BK260 0,yk BK260 1,((HB.out.cell (World.block_lt_of_cell? w _ hw262_0)).trans hw262_0),((HB.out.cell (World.block_lt_of_cell? w _ hw262_1)).trans hw262_1),((HB.out.cell (World.block_lt_of_cell? w _ hw263_0)).trans hw263_0),((HB.out.cell (World.block_lt_of_cell? w _ hw263_1)).trans hw263_1)⟩ (fun hHeld HT_ HW_=>?_)
           generalize w30.drew=w31 at BK260 HB hx262_0 hx262_1 hx263_0 hx263_1 hHeld ⊢
           refine rR ?_
           refine rO (N:=some 18) HT_ rfl rfl D3 D4 (fun K hK=>?_)
           refine goes_ Try.func121 D3 rfl #[.int .i64 ((rd_T84 l0 x9_1).f0), .int .i64 0, .int .i64 (wrap64 (a1 - 1))] D11 rfl rfl D8 ?_
           with_reducible refine (spec_l1In.calls ((rd_T84 l0 x9_1).f0) 0 (wrap64 (a1 - 1)) true _ A6.out).mono ?_
           rintro e w' ⟨rfl,⟨nd,rfl⟩⟩
           refine ⟨_,rfl,?_⟩
           refine hK.out _ _ ⟨yk BK260 0,yk BK260 1,((HB.out.cell (World.block_lt_of_cell? w _ hw262_0)).trans hw262_0),((HB.out.cell (World.block_lt_of_cell? w _ hw262_1)).trans hw262_1),((HB.out.cell (World.block_lt_of_cell? w _ hw263_0)).trans hw263_0),((HB.out.cell (World.block_lt_of_cell? w _ hw263_1)).trans hw263_1)⟩ (fun hHeld=>?_)
           clear hK K
           refine rN (a':=?_) ?_ ?_
           rotate_left
           ·show Act.put _ (some 18) _=_
            simp only [Act.put,q1,q2,q3,i64_w,i32_w]
            rfl
           refine rR ?_
           refine rD HT_ D3 ?_
           try go_wp2
           go_ret
           exact ⟨D38,yW HB⟩
          rw [if_neg c17] at H
          exact absurd H D36
         rw [if_neg c11] at H
         exact absurd H D36
        rw [if_neg c10] at H
        exact absurd H D36
       rw [if_neg c8] at H
       have c8b0:decide (0 < x9_1)=false:=decide_eq_false c8
       clear c8
       by_cases c32:0 < (l0.length:Int)
       ·rw [if_pos c32] at H
        have c32b0:=decide_eq_true c32
        have c32b1:decide (0 < l0.length)=true:=decide_eq_true D5
        clear c32
        by_cases c33:(((rd_T84 l0 x9_1).f1).size:Int)=(((rd_T84 l0 0).f1).size:Int)
        ·rw [if_pos c33] at H
         have c33b0:((((rd_T84 l0 x9_1).f1).size:Int) == (((rd_T84 l0 0).f1).size:Int))=true:=beq_iff_eq.mpr c33
         have c33b1:((((rd_T84 l0 x9_1).f1).size:Int) != (((rd_T84 l0 0).f1).size:Int))=false:=bne_eq_false_iff_eq.mpr c33
         have c33b2:(((rd_T84 l0 x9_1).f1).size == ((rd_T84 l0 0).f1).size)=true:=by first|simpa using c33|(simp at c33 ⊢;omega)
         clear c33
         by_cases c34:(((rd_T84 l0 x9_1).f1).size:Int) > 40
         ·rw [if_pos c34] at H
          have c34b0:decide (40 < (((rd_T84 l0 x9_1).f1).size:Int))=true:=decide_eq_true c34
          have c34b1:decide (40 < ((rd_T84 l0 x9_1).f1).size)=true:=decide_eq_true D5
          clear c34
          obtain rfl:=Option.some.inj H
          have p259:0≤(x9_1:Int):=od D0
          have q259:x9_1 < (l0.length:Int):=od D0
          obtain ⟨ad259,e259,hx259_0,hx259_1⟩:=at_T84 HR0.out x9_1 p259 q259
          cases e259
          replace hx259_0:=(HB.out.cell (World.block_lt_of_cell? w _ hx259_0)).trans hx259_0
          replace hx259_1:=(HB.out.cell (World.block_lt_of_cell? w _ hx259_1)).trans hx259_1
          replace p259:=eq_true p259
          replace q259:=eq_true q259
          try go_wp2_with (first|((with_reducible refine gD 6 ?_);(try (refine gate_guard D11 ?_;dsimp only));refine gB (cs:=#[.int .i64 0, .string (⟨#[]⟩:ByteArray)]) 84 ?_;intro gb260 hg w35 hbox hb;have BK260:=am (hbox);have GW260:=ye HB hg;replace HB:=yH HB hb;have GE260:=GW260;clear hb hbox hg;obtain ⟨hcz36_0,hcz36_1,hfz36_0,hfz36_1⟩:=yk2 BK260))
          generalize hw_:((w35.setCell ⟨gb260,0,none⟩ (.int .i64 ((rd_T84 l0 x9_1).f0))).setCell ⟨gb260,1,none⟩ (.string ((rd_T84 l0 x9_1).f1)))=w37
          replace BK260:Aside0 (w37.heap[gb260]? = some (.cells #[.int .i64 ((rd_T84 l0 x9_1).f0), .string ((rd_T84 l0 x9_1).f1)] 84 (0,0))):=⟨D9⟩
          replace HB:Aside0 (Below w.heap.size w w37):=⟨D41⟩
          clear hw_
          replace BK260:=am (qd BK260.out)
          replace HB:=am (pd HB.out)
          have p264:0≤(0:Int):=D5
          have q264:0 < (l0.length:Int):=od D0
          obtain ⟨ad264,e264,hx264_0,hx264_1⟩:=at_T84 HR0.out 0 p264 q264
          have hw264_1:=hx264_1
          (try rw [show ((0:Int)).toNat=0 from rfl] at hw264_1)
          (try rw [show 0*2=0 from rfl] at hw264_1)
          (try rw [Addr.add_zero'] at hw264_1)
          have hw264_0:=hx264_0
          (try rw [show ((0:Int)).toNat=0 from rfl] at hw264_0)
          (try rw [show 0*2=0 from rfl] at hw264_0)
          (try rw [Addr.add_zero'] at hw264_0)
          obtain rfl:ad259=ad264:=(by injection e264)
          have qi264:(0 < l0.length)=True:=eq_true D5
          (try rw [show ((0:Int)).toNat=0 from rfl] at hx264_0)
          (try rw [show 0*2=0 from rfl] at hx264_0)
          (try rw [Addr.add_zero'] at hx264_0)
          (try rw [show ((0:Int)).toNat=0 from rfl] at hx264_1)
          (try rw [show 0*2=0 from rfl] at hx264_1)
          (try rw [Addr.add_zero'] at hx264_1)
          replace hx264_0:=(HB.out.cell (World.block_lt_of_cell? w _ hx264_0)).trans hx264_0
          replace hx264_1:=(HB.out.cell (World.block_lt_of_cell? w _ hx264_1)).trans hx264_1
          replace p264:=eq_true p264
          replace q264:=eq_true q264
          refine rS (n:=38) (S:=fun w'=>w'.cell? ⟨gb260,0,none⟩=some (.int .i64 ((rd_T84 l0 x9_1).f0))∧w'.cell? ⟨gb260,1,none⟩=some (.string ((rd_T84 l0 x9_1).f1))∧w'.cell? ad259=some (.int .i64 ((rd_T84 l0 0).f0))∧w'.cell? ⟨ad259.block,ad259.off+1,none⟩=some (.string ((rd_T84 l0 0).f1))) (ds:=[]) [(0,14),(2,16),(3,17),(1,15),(4,0),(5,19),(6,20),(7,21),(8,22),(9,23),(10,24),(11,25),(12,26),(13,27),(14,28),(15,29),(16,30),(17,31),(18,32),(19,33),(20,34),(21,35),(22,36),(25,39),(26,40),(27,41),(23,37),(24,38),(28,42),(29,43),(30,44),(31,45),(32,46),(33,47),(34,48),(35,49),(36,50),(37,51)] D3 rfl spec_l3Shards.tab4 spec_l3Shards.bits4 ⟨yk BK260 0,yk BK260 1,((HB.out.cell (World.block_lt_of_cell? w _ hw264_0)).trans hw264_0),((HB.out.cell (World.block_lt_of_cell? w _ hw264_1)).trans hw264_1)⟩ (fun hHeld HT_ HW_=>?_)
          generalize w37.drew=w38 at BK260 HB hx264_0 hx264_1 hHeld ⊢
          refine rR ?_
          refine rO (N:=some 18) HT_ rfl rfl D3 D4 (fun K hK=>?_)
          refine goes_ Try.func121 D3 rfl #[.int .i64 ((rd_T84 l0 x9_1).f0), .int .i64 0, .int .i64 (wrap64 (a1 - 1))] D11 rfl rfl D8 ?_
          with_reducible refine (spec_l1In.calls ((rd_T84 l0 x9_1).f0) 0 (wrap64 (a1 - 1)) true _ A6.out).mono ?_
          rintro e w' ⟨rfl,⟨nd,rfl⟩⟩
          refine ⟨_,rfl,?_⟩
          refine hK.out _ _ ⟨yk BK260 0,yk BK260 1,((HB.out.cell (World.block_lt_of_cell? w _ hw264_0)).trans hw264_0),((HB.out.cell (World.block_lt_of_cell? w _ hw264_1)).trans hw264_1)⟩ (fun hHeld=>?_)
          clear hK K
          refine rN (a':=?_) ?_ ?_
          rotate_left
          ·show Act.put _ (some 18) _=_
           simp only [Act.put,q1,q2,q3,i64_w,i32_w]
           rfl
          refine rR ?_
          refine rD HT_ D3 ?_
          try go_wp2
          go_ret
          exact ⟨D1,yW HB⟩
         rw [if_neg c34] at H
         have c34b0:decide (40 < (((rd_T84 l0 x9_1).f1).size:Int))=false:=decide_eq_false c34
         have c34b1:decide (40 < ((rd_T84 l0 x9_1).f1).size)=false:=decide_eq_false D5
         clear c34
         have H':=am H
         clear H
         have p259:0≤(x9_1:Int):=od D0
         have q259:x9_1 < (l0.length:Int):=od D0
         obtain ⟨ad259,e259,hx259_0,hx259_1⟩:=at_T84 HR0.out x9_1 p259 q259
         cases e259
         replace hx259_0:=(HB.out.cell (World.block_lt_of_cell? w _ hx259_0)).trans hx259_0
         replace hx259_1:=(HB.out.cell (World.block_lt_of_cell? w _ hx259_1)).trans hx259_1
         replace p259:=eq_true p259
         replace q259:=eq_true q259
         try go_wp2_with (first|((with_reducible refine gD 6 ?_);(try (refine gate_guard D11 ?_;dsimp only));refine gB (cs:=#[.int .i64 0, .string (⟨#[]⟩:ByteArray)]) 84 ?_;intro gb260 hg w39 hbox hb;have BK260:=am (hbox);have GW260:=ye HB hg;replace HB:=yH HB hb;have GE260:=GW260;clear hb hbox hg;obtain ⟨hcz40_0,hcz40_1,hfz40_0,hfz40_1⟩:=yk2 BK260))
         generalize hw_:((w39.setCell ⟨gb260,0,none⟩ (.int .i64 ((rd_T84 l0 x9_1).f0))).setCell ⟨gb260,1,none⟩ (.string ((rd_T84 l0 x9_1).f1)))=w41
         replace BK260:Aside0 (w41.heap[gb260]? = some (.cells #[.int .i64 ((rd_T84 l0 x9_1).f0), .string ((rd_T84 l0 x9_1).f1)] 84 (0,0))):=⟨D9⟩
         replace HB:Aside0 (Below w.heap.size w w41):=⟨D41⟩
         clear hw_
         replace BK260:=am (qd BK260.out)
         replace HB:=am (pd HB.out)
         have p264:0≤(0:Int):=D5
         have q264:0 < (l0.length:Int):=od D0
         obtain ⟨ad264,e264,hx264_0,hx264_1⟩:=at_T84 HR0.out 0 p264 q264
         have hw264_1:=hx264_1
         (try rw [show ((0:Int)).toNat=0 from rfl] at hw264_1)
         (try rw [show 0*2=0 from rfl] at hw264_1)
         (try rw [Addr.add_zero'] at hw264_1)
         have hw264_0:=hx264_0
         (try rw [show ((0:Int)).toNat=0 from rfl] at hw264_0)
         (try rw [show 0*2=0 from rfl] at hw264_0)
         (try rw [Addr.add_zero'] at hw264_0)
         obtain rfl:ad259=ad264:=(by injection e264)
         have qi264:(0 < l0.length)=True:=eq_true D5
         (try rw [show ((0:Int)).toNat=0 from rfl] at hx264_0)
         (try rw [show 0*2=0 from rfl] at hx264_0)
         (try rw [Addr.add_zero'] at hx264_0)
         (try rw [show ((0:Int)).toNat=0 from rfl] at hx264_1)
         (try rw [show 0*2=0 from rfl] at hx264_1)
         (try rw [Addr.add_zero'] at hx264_1)
         replace hx264_0:=(HB.out.cell (World.block_lt_of_cell? w _ hx264_0)).trans hx264_0
         replace hx264_1:=(HB.out.cell (World.block_lt_of_cell? w _ hx264_1)).trans hx264_1
         replace p264:=eq_true p264
         replace q264:=eq_true q264
         refine rS (n:=38) (S:=fun w'=>w'.cell? ⟨gb260,0,none⟩=some (.int .i64 ((rd_T84 l0 x9_1).f0))∧w'.cell? ⟨gb260,1,none⟩=some (.string ((rd_T84 l0 x9_1).f1))∧w'.cell? ad259=some (.int .i64 ((rd_T84 l0 0).f0))∧w'.cell? ⟨ad259.block,ad259.off+1,none⟩=some (.string ((rd_T84 l0 0).f1))) (ds:=[]) [(0,14),(2,16),(3,17),(1,15),(4,0),(5,19),(6,20),(7,21),(8,22),(9,23),(10,24),(11,25),(12,26),(13,27),(14,28),(15,29),(16,30),(17,31),(18,32),(19,33),(20,34),(21,35),(22,36),(25,39),(26,40),(27,41),(23,37),(24,38),(28,42),(29,43),(30,44),(31,45),(32,46),(33,47),(34,48),(35,49),(36,50),(37,51)] D3 rfl spec_l3Shards.tab4 spec_l3Shards.bits4 ⟨yk BK260 0,yk BK260 1,((HB.out.cell (World.block_lt_of_cell? w _ hw264_0)).trans hw264_0),((HB.out.cell (World.block_lt_of_cell? w _ hw264_1)).trans hw264_1)⟩ (fun hHeld HT_ HW_=>?_)
         generalize w41.drew=w42 at BK260 HB hx264_0 hx264_1 hHeld ⊢
         refine rR ?_
         refine rO (N:=some 18) HT_ rfl rfl D3 D4 (fun K hK=>?_)
         refine goes_ Try.func121 D3 rfl #[.int .i64 ((rd_T84 l0 x9_1).f0), .int .i64 0, .int .i64 (wrap64 (a1 - 1))] D11 rfl rfl D8 ?_
         with_reducible refine (spec_l1In.calls ((rd_T84 l0 x9_1).f0) 0 (wrap64 (a1 - 1)) true _ A6.out).mono ?_
         rintro e w' ⟨rfl,⟨nd,rfl⟩⟩
         refine ⟨_,rfl,?_⟩
         refine hK.out _ _ ⟨yk BK260 0,yk BK260 1,((HB.out.cell (World.block_lt_of_cell? w _ hw264_0)).trans hw264_0),((HB.out.cell (World.block_lt_of_cell? w _ hw264_1)).trans hw264_1)⟩ (fun hHeld=>?_)
         clear hK K
         refine rN (a':=?_) ?_ ?_
         rotate_left
         ·show Act.put _ (some 18) _=_
          simp only [Act.put,q1,q2,q3,i64_w,i32_w]
          rfl
         refine rR ?_
         refine rD HT_ D3 ?_
         try go_wp2
         go_roundg k1
         case measure=>have:=HK1.out;omega
         case rel=>exact ⟨(wrap64 (x9_1+1)),D2,H',⟨D17⟩,⟨yW HB⟩⟩
        rw [if_neg c33] at H
        have c33b0:((((rd_T84 l0 x9_1).f1).size:Int) == (((rd_T84 l0 0).f1).size:Int))=false:=beq_eq_false_iff_ne.mpr c33
        have c33b1:((((rd_T84 l0 x9_1).f1).size:Int) != (((rd_T84 l0 0).f1).size:Int))=true:=bne_iff_ne.mpr c33
        have c33b2:(((rd_T84 l0 x9_1).f1).size == ((rd_T84 l0 0).f1).size)=false:=by first|simpa using c33|(simp at c33 ⊢;omega)
        obtain rfl:=Option.some.inj H
        have p259:0≤(x9_1:Int):=od D0
        have q259:x9_1 < (l0.length:Int):=od D0
        obtain ⟨ad259,e259,hx259_0,hx259_1⟩:=at_T84 HR0.out x9_1 p259 q259
        cases e259
        replace hx259_0:=(HB.out.cell (World.block_lt_of_cell? w _ hx259_0)).trans hx259_0
        replace hx259_1:=(HB.out.cell (World.block_lt_of_cell? w _ hx259_1)).trans hx259_1
        replace p259:=eq_true p259
        replace q259:=eq_true q259
        try go_wp2_with (first|((with_reducible refine gD 6 ?_);(try (refine gate_guard D11 ?_;dsimp only));refine gB (cs:=#[.int .i64 0, .string (⟨#[]⟩:ByteArray)]) 84 ?_;intro gb260 hg w43 hbox hb;have BK260:=am (hbox);have GW260:=ye HB hg;replace HB:=yH HB hb;have GE260:=GW260;clear hb hbox hg;obtain ⟨hcz44_0,hcz44_1,hfz44_0,hfz44_1⟩:=yk2 BK260))
        generalize hw_:((w43.setCell ⟨gb260,0,none⟩ (.int .i64 ((rd_T84 l0 x9_1).f0))).setCell ⟨gb260,1,none⟩ (.string ((rd_T84 l0 x9_1).f1)))=w45
        replace BK260:Aside0 (w45.heap[gb260]? = some (.cells #[.int .i64 ((rd_T84 l0 x9_1).f0), .string ((rd_T84 l0 x9_1).f1)] 84 (0,0))):=⟨D9⟩
        replace HB:Aside0 (Below w.heap.size w w45):=⟨D41⟩
        clear hw_
        replace BK260:=am (qd BK260.out)
        replace HB:=am (pd HB.out)
        have p264:0≤(0:Int):=D5
        have q264:0 < (l0.length:Int):=od D0
        obtain ⟨ad264,e264,hx264_0,hx264_1⟩:=at_T84 HR0.out 0 p264 q264
        have hw264_1:=hx264_1
        (try rw [show ((0:Int)).toNat=0 from rfl] at hw264_1)
        (try rw [show 0*2=0 from rfl] at hw264_1)
        (try rw [Addr.add_zero'] at hw264_1)
        have hw264_0:=hx264_0
        (try rw [show ((0:Int)).toNat=0 from rfl] at hw264_0)
        (try rw [show 0*2=0 from rfl] at hw264_0)
        (try rw [Addr.add_zero'] at hw264_0)
        obtain rfl:ad259=ad264:=(by injection e264)
        have qi264:(0 < l0.length)=True:=eq_true D5
        (try rw [show ((0:Int)).toNat=0 from rfl] at hx264_0)
        (try rw [show 0*2=0 from rfl] at hx264_0)
        (try rw [Addr.add_zero'] at hx264_0)
        (try rw [show ((0:Int)).toNat=0 from rfl] at hx264_1)
        (try rw [show 0*2=0 from rfl] at hx264_1)
        (try rw [Addr.add_zero'] at hx264_1)
        replace hx264_0:=(HB.out.cell (World.block_lt_of_cell? w _ hx264_0)).trans hx264_0
        replace hx264_1:=(HB.out.cell (World.block_lt_of_cell? w _ hx264_1)).trans hx264_1
        replace p264:=eq_true p264
        replace q264:=eq_true q264
        refine rS (n:=38) (S:=fun w'=>w'.cell? ⟨gb260,0,none⟩=some (.int .i64 ((rd_T84 l0 x9_1).f0))∧w'.cell? ⟨gb260,1,none⟩=some (.string ((rd_T84 l0 x9_1).f1))∧w'.cell? ad259=some (.int .i64 ((rd_T84 l0 0).f0))∧w'.cell? ⟨ad259.block,ad259.off+1,none⟩=some (.string ((rd_T84 l0 0).f1))) (ds:=[]) [(0,14),(2,16),(3,17),(1,15),(4,0),(5,19),(6,20),(7,21),(8,22),(9,23),(10,24),(11,25),(12,26),(13,27),(14,28),(15,29),(16,30),(17,31),(18,32),(19,33),(20,34),(21,35),(22,36),(25,39),(26,40),(27,41),(23,37),(24,38),(28,42),(29,43),(30,44),(31,45),(32,46),(33,47),(34,48),(35,49),(36,50),(37,51)] D3 rfl spec_l3Shards.tab4 spec_l3Shards.bits4 ⟨yk BK260 0,yk BK260 1,((HB.out.cell (World.block_lt_of_cell? w _ hw264_0)).trans hw264_0),((HB.out.cell (World.block_lt_of_cell? w _ hw264_1)).trans hw264_1)⟩ (fun hHeld HT_ HW_=>?_)
        generalize w45.drew=w46 at BK260 HB hx264_0 hx264_1 hHeld ⊢
        refine rR ?_
        refine rO (N:=some 18) HT_ rfl rfl D3 D4 (fun K hK=>?_)
        refine goes_ Try.func121 D3 rfl #[.int .i64 ((rd_T84 l0 x9_1).f0), .int .i64 0, .int .i64 (wrap64 (a1 - 1))] D11 rfl rfl D8 ?_
        with_reducible refine (spec_l1In.calls ((rd_T84 l0 x9_1).f0) 0 (wrap64 (a1 - 1)) true _ A6.out).mono ?_
        rintro e w' ⟨rfl,⟨nd,rfl⟩⟩
        refine ⟨_,rfl,?_⟩
        refine hK.out _ _ ⟨yk BK260 0,yk BK260 1,((HB.out.cell (World.block_lt_of_cell? w _ hw264_0)).trans hw264_0),((HB.out.cell (World.block_lt_of_cell? w _ hw264_1)).trans hw264_1)⟩ (fun hHeld=>?_)
        clear hK K
        refine rN (a':=?_) ?_ ?_
        rotate_left
        ·show Act.put _ (some 18) _=_
         simp only [Act.put,q1,q2,q3,i64_w,i32_w]
         rfl
        refine rR ?_
        refine rD HT_ D3 ?_
        try go_wp2
        go_ret
        exact ⟨D1,yW HB⟩
       rw [if_neg c32] at H
       exact absurd H D36
      replace c7:=Bool.eq_false_iff.mpr c7
      subst c7
      replace H:=yn H
      obtain rfl:=Option.some.inj H
      have p259:0≤(x9_1:Int):=od D0
      have q259:x9_1 < (l0.length:Int):=od D0
      obtain ⟨ad259,e259,hx259_0,hx259_1⟩:=at_T84 HR0.out x9_1 p259 q259
      cases e259
      replace hx259_0:=(HB.out.cell (World.block_lt_of_cell? w _ hx259_0)).trans hx259_0
      replace hx259_1:=(HB.out.cell (World.block_lt_of_cell? w _ hx259_1)).trans hx259_1
      replace p259:=eq_true p259
      replace q259:=eq_true q259
      try go_wp2_with (first|((with_reducible refine gD 6 ?_);(try (refine gate_guard D11 ?_;dsimp only));refine gB (cs:=#[.int .i64 0, .string (⟨#[]⟩:ByteArray)]) 84 ?_;intro gb260 hg w47 hbox hb;have BK260:=am (hbox);have GW260:=ye HB hg;replace HB:=yH HB hb;have GE260:=GW260;clear hb hbox hg;obtain ⟨hcz48_0,hcz48_1,hfz48_0,hfz48_1⟩:=yk2 BK260))
      generalize hw_:((w47.setCell ⟨gb260,0,none⟩ (.int .i64 ((rd_T84 l0 x9_1).f0))).setCell ⟨gb260,1,none⟩ (.string ((rd_T84 l0 x9_1).f1)))=w49
      replace BK260:Aside0 (w49.heap[gb260]? = some (.cells #[.int .i64 ((rd_T84 l0 x9_1).f0), .string ((rd_T84 l0 x9_1).f1)] 84 (0,0))):=⟨D9⟩
      replace HB:Aside0 (Below w.heap.size w w49):=⟨D41⟩
      clear hw_
      replace BK260:=am (qd BK260.out)
      replace HB:=am (pd HB.out)
      refine rS (n:=38) (S:=fun w'=>w'.cell? ⟨gb260,0,none⟩=some (.int .i64 ((rd_T84 l0 x9_1).f0))∧w'.cell? ⟨gb260,1,none⟩=some (.string ((rd_T84 l0 x9_1).f1))) (ds:=[]) [(0,14),(2,16),(3,17),(1,15),(4,0),(5,19),(6,20),(7,21),(8,22),(9,23),(10,24),(11,25),(12,26),(13,27),(14,28),(15,29),(16,30),(17,31),(18,32),(19,33),(20,34),(21,35),(22,36),(23,37),(24,38),(25,39),(26,40),(27,41),(28,42),(29,43),(30,44),(31,45),(32,46),(33,47),(34,48),(35,49),(36,50),(37,51)] D3 rfl spec_l3Shards.tab4 spec_l3Shards.bits4 ⟨yk BK260 0,yk BK260 1⟩ (fun hHeld HT_ HW_=>?_)
      generalize w49.drew=w50 at BK260 HB hHeld ⊢
      refine rR ?_
      refine rO (N:=some 18) HT_ rfl rfl D3 D4 (fun K hK=>?_)
      refine goes_ Try.func121 D3 rfl #[.int .i64 ((rd_T84 l0 x9_1).f0), .int .i64 0, .int .i64 (wrap64 (a1 - 1))] D11 rfl rfl D8 ?_
      with_reducible refine (spec_l1In.calls ((rd_T84 l0 x9_1).f0) 0 (wrap64 (a1 - 1)) false _ A6.out).mono ?_
      rintro e w' ⟨rfl,⟨nd,rfl⟩⟩
      refine ⟨_,rfl,?_⟩
      refine hK.out _ _ ⟨yk BK260 0,yk BK260 1⟩ (fun hHeld=>?_)
      clear hK K
      refine rN (a':=?_) ?_ ?_
      rotate_left
      ·show Act.put _ (some 18) _=_
       simp only [Act.put,q1,q2,q3,i64_w,i32_w]
       rfl
      refine rR ?_
      refine rD HT_ D3 ?_
      try go_wp2
      go_ret
      exact ⟨D1,yW HB⟩
     rw [if_neg c5] at H
     exact absurd H D36
    rw [if_neg c4] at H
    exact absurd H D36
   rw [if_neg c3] at H
   have c3b0:=decide_eq_false c3
   clear c3
   obtain rfl:=Option.some.inj H
   go_wp2
   go_ret
   exact ⟨D1,yW HB⟩
end Go.Proofs.Ytajikfnpcobnpaa.PFnExactDecodeLocal
-- SQUEEZED
