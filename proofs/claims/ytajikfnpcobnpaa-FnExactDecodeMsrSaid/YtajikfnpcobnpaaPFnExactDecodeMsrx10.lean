-- Laid by a program of this session.
import Derived.Test.YtajikfnpcobnpaaPFnExactDecodeMsrx0
import Derived.Test.YtajikfnpcobnpaaPFnExactDecodeMsrx7
import Derived.Test.YtajikfnpcobnpaaPFnExactDecodeMsrx8
import Derived.Test.YtajikfnpcobnpaaPFnExactDecodeMsrx9
namespace Go.Proofs.Ytajikfnpcobnpaa.PFnExactDecodeMsr
open Go.RowKit Go.Proofs.YtajikfnpcobnpaaW.PrintWords Go.Proofs.YtajikfnpcobnpaaW.PrintLast Go.Proofs.YtajikfnpcobnpaaW.PrintMore
attribute [local go_sem] max2_int min2_int max_two min_two max_three min_three max_four min_four   -- for this text's walks alone
set_option linter.unusedVariables false
set_option maxHeartbeats 8000000
set_option maxRecDepth 100000
set_option linter.unusedSimpArgs false

mutual
def spec_l5Unknowns.l0:Nat→Int→Int→List (List Int)→Int→Int→Int→Int→Option ((List (List Int)))
 | 0,_,_,_,_,_,_,_=>none
 | k+1,x1,x5,x6,x23,x24,x228000,x228001=>if x24 < x23 then (if 0≤x5 then (if (x5:Int).toNat≤281474976710656 then (if 0≤x24 then (if x24 < (x6.length:Int) then (spec_l5Unknowns.l0 k x1 x5 (x6.set (x24:Int).toNat (List.replicate (x5:Int).toNat 0)) x23 (wrap64 (x24+1)) x228000 x228001) else (none)) else (none)) else (none)) else (none)) else (spec_l5Unknowns.l1 k x1 x5 x6 0 x228000 x228001)
def spec_l5Unknowns.l1:Nat→Int→Int→List (List Int)→Int→Int→Int→Option ((List (List Int)))
 | 0,_,_,_,_,_,_=>none
 | k+1,x1,x5,x6,x8,x228000,x228001=>if x8 < x5 then (if 0≤x5 then (if (x5:Int).toNat≤281474976710656 then ((some (List.replicate (x5:Int).toNat 0:List Int)).bind fun y235=>(if 0≤x8 then (if x8 < (y235.length:Int) then ((spec_l5Message.f k x228000 x228001 (y235.set (x8:Int).toNat 1)).bind fun t239=>((spec_l2Transposed.f k t239).bind fun t242=>((spec_l5Row.f k x228000 x228001 x1).bind fun t245=>((spec_l2Apply.f k t242 t245).bind fun t248=>(spec_l5Unknowns.l2 k x1 x5 x6 x8 t248 (t248.length:Int) 0 x228000 x228001))))) else (none)) else (none))) else (none)) else (none)) else (some x6)
def spec_l5Unknowns.l2:Nat→Int→Int→List (List Int)→Int→List Int→Int→Int→Int→Int→Option ((List (List Int)))
 | 0,_,_,_,_,_,_,_,_,_=>none
 | k+1,x1,x5,x6,x8,x50,x51,x52,x228000,x228001=>if x52 < x51 then (if 0≤x52 then (if x52 < (x50.length:Int) then (if x52 < (x6.length:Int) then (if 0≤x8 then (if x8 < ((rd_L2 x6 x52).length:Int) then (spec_l5Unknowns.l2 k x1 x5 (x6.set (x52:Int).toNat ((rd_L2 x6 x52).set (x8:Int).toNat (rd x50 x52))) x8 x50 x51 (wrap64 (x52+1)) x228000 x228001) else (none)) else (none)) else (none)) else (none)) else (none)) else (spec_l5Unknowns.l1 k x1 x5 x6 (wrap64 (x8+1)) x228000 x228001)
end
def spec_l5Unknowns.f (k:Nat) (a0_0:Int) (a0_1:Int) (a1:Int):Option ((List (List Int))):=if 0≤(wrap64 (a0_1 - 1)) then (if (wrap64 (a0_1 - 1):Int).toNat≤11728124029610 then ((some (List.replicate (wrap64 (a0_1 - 1):Int).toNat []:List (List Int))).bind fun y228=>(spec_l5Unknowns.l0 k a1 (wrap64 (a0_1*(wrap64 (a0_1 - 1)))) y228 (y228.length:Int) 0 a0_0 a0_1)) else (none)) else (none)
theorem spec_l5Unknowns.mono_l:∀ k,(∀ y0 y1 y2 y3 y4 y5 y6,LeO (spec_l5Unknowns.l0 k y0 y1 y2 y3 y4 y5 y6) (spec_l5Unknowns.l0 (k+1) y0 y1 y2 y3 y4 y5 y6))∧(∀ y0 y1 y2 y3 y4 y5,LeO (spec_l5Unknowns.l1 k y0 y1 y2 y3 y4 y5) (spec_l5Unknowns.l1 (k+1) y0 y1 y2 y3 y4 y5))∧(∀ y0 y1 y2 y3 y4 y5 y6 y7 y8,LeO (spec_l5Unknowns.l2 k y0 y1 y2 y3 y4 y5 y6 y7 y8) (spec_l5Unknowns.l2 (k+1) y0 y1 y2 y3 y4 y5 y6 y7 y8))
 | 0=>⟨fun _ _ _ _ _ _ _ r h=>by simp [spec_l5Unknowns.l0] at h,fun _ _ _ _ _ _ r h=>by simp [spec_l5Unknowns.l1] at h,fun _ _ _ _ _ _ _ _ _ r h=>by simp [spec_l5Unknowns.l2] at h⟩
 | k+1=>by
  obtain ⟨ih0,ih1,ih2⟩:=spec_l5Unknowns.mono_l k
  refine ⟨?_,?_,?_⟩
  ·intro y0 y1 y2 y3 y4 y5 y6
   unfold spec_l5Unknowns.l0
   repeat' first
   | (with_reducible exact ih0 _ _ _ _ _ _ _)
   | (with_reducible exact ih1 _ _ _ _ _ _)
   | (with_reducible exact ih2 _ _ _ _ _ _ _ _ _)
   | (with_reducible exact spec_l2Apply.mono _ _ _)
   | (with_reducible exact spec_l2Transposed.mono _ _)
   | (with_reducible exact spec_l5Message.mono _ _ _ _)
   | (with_reducible exact spec_l5Row.mono _ _ _ _)
   |(with_reducible exact LeO.refl _)|(with_reducible exact LeO.none _)|(with_reducible refine LeO.ite ?_ ?_)|(with_reducible refine LeO.bind ?_ (fun _=>?_))|exact ih0 _ _ _ _ _ _ _|exact ih1 _ _ _ _ _ _|exact ih2 _ _ _ _ _ _ _ _ _|exact spec_l2Apply.mono _ _ _|exact spec_l2Transposed.mono _ _|exact spec_l5Message.mono _ _ _ _|exact spec_l5Row.mono _ _ _ _|exact LeO.none _|refine LeO.ite ?_ ?_|refine LeO.bind ?_ (fun _=>?_)
  ·intro y0 y1 y2 y3 y4 y5
   unfold spec_l5Unknowns.l1
   repeat' first
   | (with_reducible exact ih0 _ _ _ _ _ _ _)
   | (with_reducible exact ih1 _ _ _ _ _ _)
   | (with_reducible exact ih2 _ _ _ _ _ _ _ _ _)
   | (with_reducible exact spec_l2Apply.mono _ _ _)
   | (with_reducible exact spec_l2Transposed.mono _ _)
   | (with_reducible exact spec_l5Message.mono _ _ _ _)
   | (with_reducible exact spec_l5Row.mono _ _ _ _)
   |(with_reducible exact LeO.refl _)|(with_reducible exact LeO.none _)|(with_reducible refine LeO.ite ?_ ?_)|(with_reducible refine LeO.bind ?_ (fun _=>?_))|exact ih0 _ _ _ _ _ _ _|exact ih1 _ _ _ _ _ _|exact ih2 _ _ _ _ _ _ _ _ _|exact spec_l2Apply.mono _ _ _|exact spec_l2Transposed.mono _ _|exact spec_l5Message.mono _ _ _ _|exact spec_l5Row.mono _ _ _ _|exact LeO.none _|refine LeO.ite ?_ ?_|refine LeO.bind ?_ (fun _=>?_)
  intro y0 y1 y2 y3 y4 y5 y6 y7 y8
  unfold spec_l5Unknowns.l2
  repeat' first
  | (with_reducible exact ih0 _ _ _ _ _ _ _)
  | (with_reducible exact ih1 _ _ _ _ _ _)
  | (with_reducible exact ih2 _ _ _ _ _ _ _ _ _)
  | (with_reducible exact spec_l2Apply.mono _ _ _)
  | (with_reducible exact spec_l2Transposed.mono _ _)
  | (with_reducible exact spec_l5Message.mono _ _ _ _)
  | (with_reducible exact spec_l5Row.mono _ _ _ _)
  |(with_reducible exact LeO.refl _)|(with_reducible exact LeO.none _)|(with_reducible refine LeO.ite ?_ ?_)|(with_reducible refine LeO.bind ?_ (fun _=>?_))|exact ih0 _ _ _ _ _ _ _|exact ih1 _ _ _ _ _ _|exact ih2 _ _ _ _ _ _ _ _ _|exact spec_l2Apply.mono _ _ _|exact spec_l2Transposed.mono _ _|exact spec_l5Message.mono _ _ _ _|exact spec_l5Row.mono _ _ _ _|exact LeO.none _|refine LeO.ite ?_ ?_|refine LeO.bind ?_ (fun _=>?_)
theorem spec_l5Unknowns.mono:∀ a0 a1 a2 k,LeO (spec_l5Unknowns.f k a0 a1 a2) (spec_l5Unknowns.f (k+1) a0 a1 a2):=by
 intro a0 a1 a2 k
 obtain ⟨ih0,ih1,ih2⟩:=spec_l5Unknowns.mono_l k
 unfold spec_l5Unknowns.f
 repeat' first
   | (with_reducible exact ih0 _ _ _ _ _ _ _)
   | (with_reducible exact ih1 _ _ _ _ _ _)
   | (with_reducible exact ih2 _ _ _ _ _ _ _ _ _)
   | (with_reducible exact spec_l2Apply.mono _ _ _)
   | (with_reducible exact spec_l2Transposed.mono _ _)
   | (with_reducible exact spec_l5Message.mono _ _ _ _)
   | (with_reducible exact spec_l5Row.mono _ _ _ _)
   |(with_reducible exact LeO.refl _)|(with_reducible exact LeO.none _)|(with_reducible refine LeO.ite ?_ ?_)|(with_reducible refine LeO.bind ?_ (fun _=>?_))|exact ih0 _ _ _ _ _ _ _|exact ih1 _ _ _ _ _ _|exact ih2 _ _ _ _ _ _ _ _ _|exact spec_l2Apply.mono _ _ _|exact spec_l2Transposed.mono _ _|exact spec_l5Message.mono _ _ _ _|exact spec_l5Row.mono _ _ _ _|exact LeO.none _|refine LeO.ite ?_ ?_|refine LeO.bind ?_ (fun _=>?_)
def spec_l5Unknowns.T13:Bool × List (List Nat × List Nat):=(true,[([],[]),([],[]),([0,1],[0,1]),([2,2],[2]),([],[]),([],[]),([4,5,3],[4,5]),([3,6,6],[3,6]),([7],[7]),([],[])])
def spec_l5Unknowns.B13:List Nat:=[0,0,3,7,0,0,63,127,255,0]
theorem spec_l5Unknowns.tab13:rtab .any (opsOf Try.f150 13)=spec_l5Unknowns.T13:=by kernel_rfl
theorem spec_l5Unknowns.bits13:waitsOk spec_l5Unknowns.T13.2 spec_l5Unknowns.B13=true:=by kernel_rfl
theorem spec_l5Unknowns.calls (k:Nat) (a0_0:Int) (a0_1:Int) (a1:Int) (r:List (List Int)) (w:World) (h:spec_l5Unknowns.f k a0_0 a0_1 a1=some r) :
  Calls Try.prog 150 #[.agg #[.int .i64 a0_0, .int .i64 a0_1], .int .i64 a1] w fun e w'=>∃ v0_:Value,e = .returned (v0_)∧Kd.S (Kd.slice 5 (Kd.int .u8)) 57 w' w.heap.size (fun _=>True) v0_ r∧Below w.heap.size w w':=by
 have hu72:=Try.underlying72
 have HB:=am (Below.refl w.heap.size w)
 have H:(if 0≤(wrap64 (a0_1 - 1)) then (if (wrap64 (a0_1 - 1):Int).toNat≤11728124029610 then ((some (List.replicate (wrap64 (a0_1 - 1):Int).toNat []:List (List Int))).bind fun y228=>(spec_l5Unknowns.l0 k a1 (wrap64 (a0_1*(wrap64 (a0_1 - 1)))) y228 (y228.length:Int) 0 a0_0 a0_1)) else (none)) else (none))=some r:=h
 clear h
 obtain ⟨ji3,hji3⟩:∃ j_:Int,(wrap64 (a0_1 - 1))=j_:=⟨_,rfl⟩
 replace H:(if 0≤(ji3) then (if (ji3:Int).toNat≤11728124029610 then ((some (List.replicate (ji3:Int).toNat []:List (List Int))).bind fun y228=>(spec_l5Unknowns.l0 k a1 (wrap64 (a0_1*(ji3))) y228 (y228.length:Int) 0 a0_0 a0_1)) else (none)) else (none))=some r:=by first|(rw [hji3] at H;exact H)|(simp only [hji3] at H ⊢;exact H)
 have hji3w:(IntKind.i64.wrap (a0_1 - 1))=ji3:=(i64_w _).trans hji3
 by_cases c4:0≤(ji3)
 ·rw [if_pos c4] at H
  have c4b0:=eq_true c4
  have c4b1:decide (0≤(ji3))=true:=decide_eq_true c4
  clear c4
  by_cases c5:(ji3:Int).toNat≤11728124029610
  ·rw [if_pos c5] at H
   have c5b0:=eq_true c5
   have c5b1:decide ((ji3:Int).toNat≤11728124029610)=true:=decide_eq_true c5
   clear c5
   obtain ⟨y228,hy228⟩:∃ y_:List (List Int),y_=(List.replicate (ji3:Int).toNat []):=⟨_,rfl⟩
   replace H:(spec_l5Unknowns.l0 k a1 (wrap64 (a0_1*(ji3))) y228 (y228.length:Int) 0 a0_0 a0_1)=some r:=by first|(rw [hy228];with_reducible exact H)|(have H2_:=(Option.bind_some _ _).symm.trans H;rw [hy228];with_reducible exact H2_)|(have H2_:=(Option.bind_some _ _).symm.trans H;with_reducible exact H2_)|with_reducible exact H|(rw [hy228];exact H)|exact H
   have Ny228:=am hy228
   clear hy228
   have H':=am H
   clear H
   go_enter Try.func150,Try.ntmps150
   go_wp2_with (first|((with_reducible refine gate_dst (N:=2) rfl ?_);refine box_event ?hg (N:=2) ?hd (cs:=#[.int .i64 a0_0, .int .i64 a0_1]) (t:=72) ?hr ?_;(case hd=>rfl);(case hg=>rfl);(case hr=>first|(go_simp;done)|(go_simp;rfl));intro gb227 hg w6 hbox hb;have n0_:=am (pu d0 hb);have n1_:=am (hbox);have n2_:=am ((by rw [hg];exact (pz d0):w.heap.size≤gb227));have n3_:=n2_;clear HB;have HB:=n0_;have BK227:=n1_;have GW227:=n2_;have GE227:=n3_;clear n0_ n1_ n2_ n3_;clear hb hbox hg;have hcz7_0:w6.cell? ⟨gb227,0,none⟩=some (.int .i64 a0_0):=(blk_cell BK227.out 0).trans rfl;have hcz7_1:w6.cell? ⟨gb227,1,none⟩=some (.int .i64 a0_1):=(blk_cell BK227.out 1).trans rfl;have hfz7_0:=blk_frozen BK227.out 0;have hfz7_1:=blk_frozen BK227.out 1)|((with_reducible refine gate_dst (N:=21) rfl ?_);refine Kd.S_make (Kd.slice 5 (Kd.int .u8)) _ 57 rfl (N:=21) rfl 37 _ _ rfl ji3 rfl rfl Try.underlying37 (.slice none 0 0) 24 info57 rfl d11 d10 [] (ok:=fun _=>True) (okp:=fun _=>True) ⟨_,rfl,Kd.R_nil _ _ _ _ _⟩ (fun _ hk=>hk) trivial (od d1) (Nat.le_trans (Nat.mul_le_mul_right _ (od d1:ji3.toNat≤11728124029610)) d10) (Below.refl _ _) (Nat.le_refl _) ?_;intro v229 w8 ho9 hb hg_ hnew_;clear hg_ hnew_;(first|rw [← Ny228.out] at ho9|(simp only [Int.reduceToNat] at ho9;rw [← Ny228.out] at ho9));have n0_:=am (Kd.S_lower ho9 (pz (by repeat (first|(with_reducible first|exact HB.out|apply pa|apply pb|apply pd|refine pt ?_ GE227.out)|exact HB.out))));have n1_:=am (qb (g:=gb227) (o:=.cells #[.int .i64 a0_0, .int .i64 a0_1] 72 (0,0)) (by (with_reducible repeat (first|refine qn ?_ _|refine qd ?_|refine qa ?_ _));exact BK227.out) hb);have n2_:=am (pu (by repeat (first|(with_reducible first|exact HB.out|apply pa|apply pb|apply pd|refine pt ?_ GE227.out)|exact HB.out)) hb);clear BK227;clear HB;have HO230:=n0_;have BK227:=n1_;have HB:=n2_;clear n0_ n1_ n2_;clear hb ho9;obtain ⟨Ao10,co10,eo10⟩:=Kd.S_slice HO230.out;subst eo10))
   go_loopg [24] k (fun kq v24 w'=>∃ (x6_1:List (List Int)) (x24_1:Int),v24 = .int .i64 x24_1∧Aside0 (spec_l5Unknowns.l0 kq a1 (wrap64 (a0_1*(ji3))) x6_1 (y228.length:Int) x24_1 a0_0 a0_1=some r)∧Aside0 (kq≤k)∧Aside0 (Kd.S (Kd.slice 5 (Kd.int .u8)) 57 w' w.heap.size (fun _=>True) (.slice Ao10 y228.length co10) x6_1)∧Aside0 (w'.heap[gb227]? = some (.cells #[.int .i64 a0_0, .int .i64 a0_1] 72 (0,0)))∧Aside0 (Below w.heap.size w w'))
   case atStart=>exact ⟨(y228),(0),d2,H',⟨Nat.le_refl _⟩,⟨by (with_reducible repeat (first|apply Kd.S_alloc|apply Kd.S_drewN|apply Kd.S_drew));exact HO230.out⟩,⟨by (with_reducible repeat (first|refine qn ?_ _|refine qd ?_|refine qa ?_ _));exact BK227.out⟩,⟨by repeat (first|(with_reducible first|exact HB.out|apply pa|apply pb|apply pd|refine pt ?_ GE227.out)|exact HB.out)⟩⟩
   case round =>
    clear H'
    try clear c1
    try clear p2
    try clear c4
    try clear c4b0
    try clear c4b1
    try clear c5
    try clear c5b0
    try clear c5b1
    try clear p6
    try clear hcz7_0
    try clear hcz7_1
    try clear hfz7_0
    try clear hfz7_1
    obtain ⟨x6_1,x24_1,rfl,HA,HK1,HO_6,BK227,HB⟩:=hrel
    have hl6_1:=(Kd.S_reads' HO_6.out).1
    rw [hl6_1] at HO_6
    (try simp only [hl6_1])
    (try simp only [hl6_1] at BK227)
    cases gk with
    | zero=>exact absurd HA.out (by simp [spec_l5Unknowns.l0])
    | succ k1 =>
     have H:=HA.out
     clear HA
     simp only [spec_l5Unknowns.l0] at H
     by_cases c11:x24_1 < (y228.length:Int)
     ·rw [if_pos c11] at H
      have c11b0:decide (x24_1 < (y228.length:Int))=true:=decide_eq_true c11
      clear c11
      obtain ⟨ji12,hji12⟩:∃ j_:Int,(wrap64 (a0_1*(ji3)))=j_:=⟨_,rfl⟩
      replace H:(if 0≤(ji12) then (if ((ji12):Int).toNat≤281474976710656 then (if 0≤x24_1 then (if x24_1 < (x6_1.length:Int) then (spec_l5Unknowns.l0 k1 a1 (ji12) (x6_1.set (x24_1:Int).toNat (List.replicate ((ji12):Int).toNat 0)) (y228.length:Int) (wrap64 (x24_1+1)) a0_0 a0_1) else (none)) else (none)) else (none)) else (none))=some r:=by first|(rw [hji12] at H;exact H)|(simp only [hji12] at H ⊢;exact H)
      have hji12w:(IntKind.i64.wrap (a0_1*(ji3)))=ji12:=(i64_w _).trans hji12
      by_cases c13:0≤(ji12)
      ·rw [if_pos c13] at H
       have c13b0:=eq_true c13
       have c13b1:decide (0≤(ji12))=true:=decide_eq_true c13
       clear c13
       by_cases c14:((ji12):Int).toNat≤281474976710656
       ·rw [if_pos c14] at H
        have c14b0:=eq_true c14
        have c14b1:decide (((ji12):Int).toNat≤281474976710656)=true:=decide_eq_true c14
        clear c14
        obtain ⟨y231,hy231⟩:∃ y_:List Int,y_=(List.replicate ((ji12):Int).toNat 0):=⟨_,rfl⟩
        replace H:(if 0≤x24_1 then (if x24_1 < (x6_1.length:Int) then (spec_l5Unknowns.l0 k1 a1 (ji12) (x6_1.set (x24_1:Int).toNat y231) (y228.length:Int) (wrap64 (x24_1+1)) a0_0 a0_1) else (none)) else (none))=some r:=by first|(rw [hy231];with_reducible exact H)|(have H2_:=(Option.bind_some _ _).symm.trans H;rw [hy231];with_reducible exact H2_)|(have H2_:=(Option.bind_some _ _).symm.trans H;with_reducible exact H2_)|with_reducible exact H|(rw [hy231];exact H)|exact H
        have Ny231:=am hy231
        clear hy231
        by_cases c15:0≤x24_1
        ·rw [if_pos c15] at H
         have c15b0:decide (0≤x24_1)=true:=decide_eq_true c15
         clear c15
         by_cases c16:x24_1 < (x6_1.length:Int)
         ·rw [if_pos c16] at H
          have c16b0:decide (x24_1 < (x6_1.length:Int))=true:=decide_eq_true c16
          clear c16
          obtain ⟨y234,hy234⟩:∃ y_:List (List Int),y_=(x6_1.set (x24_1:Int).toNat y231):=⟨_,rfl⟩
          replace H:(spec_l5Unknowns.l0 k1 a1 (ji12) y234 (y228.length:Int) (wrap64 (x24_1+1)) a0_0 a0_1)=some r:=by first|(rw [hy234];with_reducible exact H)|(have H2_:=(Option.bind_some _ _).symm.trans H;rw [hy234];with_reducible exact H2_)|(have H2_:=(Option.bind_some _ _).symm.trans H;with_reducible exact H2_)|with_reducible exact H|(rw [hy234];exact H)|exact H
          have Ny234:=am hy234
          clear hy234
          have H':=am H
          clear H
          go_wp2_with (first|((with_reducible refine gate_dst (N:=30) rfl ?_);refine Kd.R_make (Kd.int .u8) _ 5 rfl (N:=30) rfl 57 _ _ rfl (ji12) (by first|rfl|exact congrArg (Value.int .i64) hji12) (by first|rfl|exact congrArg (Value.int .i64) hji12) Try.underlying57 (.int .u8 0) 1 info5 rfl d11 d10 0 (ok:=fun _=>True) (okp:=fun _=>True) rfl (fun _ hk=>hk) trivial (od d1) (Nat.le_trans (Nat.mul_le_mul_right _ (od d1:(ji12).toNat≤281474976710656)) d10) (Below.refl _ _) (Nat.le_refl _) ?_;intro v232 w18 ho19 hb hg_ hnew_;clear hg_ hnew_;(first|rw [← Ny231.out] at ho19|(simp only [Int.reduceToNat] at ho19;rw [← Ny231.out] at ho19));have n0_:=am (Kd.S_elder' d21 (Kd.R_base ho19) hb);have n1_:=am (Kd.R_lower ho19 (pz (by repeat (first|(with_reducible first|exact HB.out|apply pa|apply pb|apply pd|refine pt ?_ GE227.out)|exact HB.out))));have n2_:=am (qb (g:=gb227) (o:=.cells #[.int .i64 a0_0, .int .i64 a0_1] 72 (0,0)) (by (with_reducible repeat (first|refine qn ?_ _|refine qd ?_|refine qa ?_ _));exact BK227.out) hb);have n3_:=am (pu (by repeat (first|(with_reducible first|exact HB.out|apply pa|apply pb|apply pd|refine pt ?_ GE227.out)|exact HB.out)) hb);clear HO_6;clear BK227;clear HB;have HO_6:=n0_;have HO233:=n1_;have BK227:=n2_;have HB:=n3_;clear n0_ n1_ n2_ n3_;clear hb ho19;obtain ⟨Ao232,co232,rfl⟩:=Kd.R_slice HO233.out;have p17:0≤(x24_1:Int):=od d1;have q17:(x24_1:Int) < ((x6_1.length:Int):Int):=od d1;obtain ⟨go17,co17,eo17,gb17,gl17,cl17,HG17⟩:=Kd.S_form HO_6.out d10;(first|cases eo17|(injection eo17 with ea_ en_ ec_;(first|subst ea_|(injection ea_ with ea_;subst ea_));subst ec_;clear en_));have GB17:=am gb17;have GG17:=am HG17;clear gb17 gl17 HG17;obtain ⟨_,ce17,hcl17,hM17,hcc17,hfr17,_,_⟩:=Kd.S_elem HO_6.out [] (x24_1:Int) p17 q17;obtain ⟨ve17_0,rfl,ge17_0⟩:=hM17;have hx17_0:=hcc17 0 _ rfl;have hf17_0:=hfr17 0;(try simp only [show ((Kd.slice 5 (Kd.int .u8))).sz=1 from rfl,Nat.mul_one,Nat.add_zero] at hx17_0);(try simp only [show ((Kd.slice 5 (Kd.int .u8))).sz=1 from rfl,Nat.mul_one,Nat.add_zero] at hf17_0);clear hcl17 hcc17 hfr17;(try clear hM17);replace p17:=eq_true p17;replace q17:=eq_true q17;have n_:=am (Kd.S_mono (ok':=(fun k_=>some k_ ≠ ((.slice Ao232 y231.length co232):Value).ownBlock)) HO_6.out (fun k_ hk=>hk.2));clear HO_6;have HO_6:=n_;clear n_;have HX20:=am (show Kd.S (Kd.slice 5 (Kd.int .u8)) 57 w18 w.heap.size (fun k_=>((fun _=>True)) k_∧¬ ((fun k_=>some k_=((.slice Ao232 y231.length co232):Value).ownBlock)) k_) (.slice (some ⟨go17,0,none⟩) x6_1.length co10) x6_1 from (by (with_reducible repeat (first|apply Kd.S_alloc|apply Kd.S_drewN|apply Kd.S_drew));exact Kd.S_mono HO_6.out (fun k_ hk=>⟨trivial,fun e_=>hk e_⟩)));obtain ⟨oki20,ce20,hcl20,hM20,hcc20,hfr20,hoki20,hH20⟩:=Kd.S_elem HX20.out [] (x24_1:Int) (od d1) (by have h_:(x24_1:Int) < ((x6_1.length:Int):Int):=od d1;first|exact h_|(have e_:=(Kd.S_reads' HO_6.out).1;omega)|simpa using h_);obtain ⟨ve20_0,rfl,ge20_0⟩:=hM20;have HP20:=Kd.S_seg hH20 (od d1) (by have h_:(x24_1:Int) < ((x6_1.length:Int):Int):=od d1;first|exact h_|(have e_:=(Kd.S_reads' HO_6.out).1;omega)|simpa using h_) (seg:=[(.slice Ao232 y231.length co232)]) (j:=0) (show 1≤1 from by decide) (x':=y231) (Kd.M_row (Kd.R_mono (Kd.R_tight rfl (Kd.R_mono (ok':=fun k_=>((fun _=>True)) k_∧k_ ≠ go17) (Kd.R_apart' (HO233.out) (Kd.S_typed HO_6.out) d11) (fun k_ hk=>⟨trivial,fun e_=>(hk.2) d59⟩))) (fun _ h_=>Or.inr (h_)))) (fun _ hk=>hk) (fun k_ hk_=>((Kd.R_mono (ok':=fun k_=>((fun _=>True)) k_∧k_ ≠ go17) (Kd.R_apart' (HO233.out) (Kd.S_typed HO_6.out) d11) (fun k_ hk=>⟨trivial,fun e_=>(hk.2) d59⟩))).1 k_ hk_.symm);have hx20_0:=hcc20 0 _ rfl;(try simp only [show ((Kd.slice 5 (Kd.int .u8))).sz=1 from rfl,Nat.mul_one,Nat.add_zero] at hx20_0);have hf20_0:=hfr20 0;(try simp only [show ((Kd.slice 5 (Kd.int .u8))).sz=1 from rfl,Nat.mul_one,Nat.add_zero] at hf20_0);clear hcl20 hcc20 hfr20 hoki20 hH20;(try clear hM20);(try simp only [show ((Kd.slice 5 (Kd.int .u8))).sz=1 from rfl,Nat.mul_one,Nat.add_zero] at HP20))|((with_reducible refine gate_store (t:=57) (p:=31) rfl ?_);refine store_event (t:=57) (p:=31) (v:=?vo_w21) (w1:=(w18.setCell ⟨go17,(x24_1:Int).toNat,none⟩ ((.slice Ao232 y231.length co232)))) ?hg ?ho ?hn ?hr ?_;(case ho=>rfl);(case hg=>rfl);(case hn=>rfl);(case hr=>first|(go_simp;done)|(go_simp;rfl));intro w21 hw;have hg:w18.grownBy w21 (some go17):=(by rw [hw];exact HP20.2);have hp_:Kd.S (Kd.slice 5 (Kd.int .u8)) 57 w21 w.heap.size (fun _=>True) (.slice (some ⟨go17,0,none⟩) x6_1.length co10) y234:=(by rw [hw,Ny234.out];exact HP20.1);clear HP20;have n0_:=am (hp_);have n1_:=am (blk_grown (g:=gb227) (o:=.cells #[.int .i64 a0_0, .int .i64 a0_1] 72 (0,0)) (by (with_reducible repeat (first|refine qn ?_ _|refine qd ?_|refine qa ?_ _));exact BK227.out) hg (Kd.S_ne HO_6.out BK227.out d11));have n2_:=am ((by rw [hw];exact pt (HB.out) GB17.out:Below w.heap.size w w21));clear HO_6;clear BK227;clear HB;clear HO233;have HO_6:=n0_;have BK227:=n1_;have HB:=n2_;clear n0_ n1_ n2_;clear hg hw hp_))
          (try simp only [← hl6_1])
          (try simp only [← hji12])
          go_roundg k1
          case measure=>have:=HK1.out;omega
          case rel=>exact ⟨(y234),(wrap64 (x24_1+1)),d2,⟨by have h_:=H'.out;rw [← hji12] at h_;exact h_⟩,⟨d30⟩,⟨d65⟩,⟨by (try simp only [hl6_1]);(with_reducible repeat (first|refine qn ?_ _|refine qd ?_|refine qa ?_ _));exact BK227.out⟩,⟨by repeat (first|(with_reducible first|exact HB.out|apply pa|apply pb|apply pd|refine pt ?_ GE227.out)|exact HB.out)⟩⟩
         rw [if_neg c16] at H
         exact absurd H d20
        rw [if_neg c15] at H
        exact absurd H d20
       rw [if_neg c14] at H
       exact absurd H d20
      rw [if_neg c13] at H
      exact absurd H d20
     rw [if_neg c11] at H
     have c11b0:decide (x24_1 < (y228.length:Int))=false:=decide_eq_false c11
     (try simp only [hl6_1] at c11b0)
     clear c11
     have H':=am H
     clear H
     go_wp2
     go_loopg [8] k1 (fun kq v8 w'=>∃ (x6_2:List (List Int)) (x8_2:Int),v8 = .int .i64 x8_2∧Aside0 (spec_l5Unknowns.l1 kq a1 (wrap64 (a0_1*(ji3))) x6_2 x8_2 a0_0 a0_1=some r)∧Aside0 (kq≤k1)∧Aside0 (Kd.S (Kd.slice 5 (Kd.int .u8)) 57 w' w.heap.size (fun _=>True) (.slice Ao10 x6_1.length co10) x6_2)∧Aside0 (w'.heap[gb227]? = some (.cells #[.int .i64 a0_0, .int .i64 a0_1] 72 (0,0)))∧Aside0 (Below w.heap.size w w'))
     case atStart=>exact ⟨(x6_1),(0),d2,H',⟨Nat.le_refl _⟩,⟨d65⟩,⟨by (try simp only [hl6_1]);(with_reducible repeat (first|refine qn ?_ _|refine qd ?_|refine qa ?_ _));exact BK227.out⟩,⟨by repeat (first|(with_reducible first|exact HB.out|apply pa|apply pb|apply pd|refine pt ?_ GE227.out)|exact HB.out)⟩⟩
     case round =>
      clear H'
      try clear c1
      try clear p1
      try clear q1
      try clear hx1
      try clear c2
      try clear p2
      try clear hx2
      try clear hf2
      try clear c4
      try clear c4b0
      try clear c4b1
      try clear c5
      try clear c5b0
      try clear c5b1
      try clear p6
      try clear c11
      try clear c11b0
      try clear c13
      try clear c13b0
      try clear c13b1
      try clear c14
      try clear c14b0
      try clear c14b1
      try clear c15
      try clear c15b0
      try clear c16
      try clear c16b0
      try clear c17
      try clear p17
      try clear q17
      try clear hx17
      try clear hf17
      try clear c20
      try clear hx20
      try clear hf20
      try clear hcz7_0
      try clear hcz7_1
      try clear hfz7_0
      try clear hfz7_1
      try clear hx17_0
      try clear hx20_0
      try clear p17
      try clear p2
      try clear p6
      try clear q17
      obtain ⟨x6_2,x8_2,rfl,HA,HK2,HO_6,BK227,HB⟩:=hrel
      have hl6_2:=(Kd.S_reads' HO_6.out).1
      rw [hl6_2] at HO_6
      (try simp only [hl6_2])
      (try simp only [hl6_2] at BK227)
      cases gk with
      | zero=>exact absurd HA.out (by simp [spec_l5Unknowns.l1])
      | succ k2 =>
       have H:=HA.out
       clear HA
       simp only [spec_l5Unknowns.l1] at H
       by_cases c22:x8_2 < (wrap64 (a0_1*(ji3)))
       ·rw [if_pos c22] at H
        have c22b0:decide (x8_2 < (wrap64 (a0_1*(ji3))))=true:=decide_eq_true c22
        clear c22
        obtain ⟨ji23,hji23⟩:∃ j_:Int,(wrap64 (a0_1*(ji3)))=j_:=⟨_,rfl⟩
        replace H:(if 0≤(ji23) then (if ((ji23):Int).toNat≤281474976710656 then ((some (List.replicate ((ji23):Int).toNat 0:List Int)).bind fun y235=>(if 0≤x8_2 then (if x8_2 < (y235.length:Int) then ((spec_l5Message.f k2 a0_0 a0_1 (y235.set (x8_2:Int).toNat 1)).bind fun t239=>((spec_l2Transposed.f k2 t239).bind fun t242=>((spec_l5Row.f k2 a0_0 a0_1 a1).bind fun t245=>((spec_l2Apply.f k2 t242 t245).bind fun t248=>(spec_l5Unknowns.l2 k2 a1 (ji23) x6_2 x8_2 t248 (t248.length:Int) 0 a0_0 a0_1))))) else (none)) else (none))) else (none)) else (none))=some r:=by first|(rw [hji23] at H;exact H)|(simp only [hji23] at H ⊢;exact H)
        (try rw [hji23] at c22b0)
        have hji23w:(IntKind.i64.wrap (a0_1*(ji3)))=ji23:=(i64_w _).trans hji23
        by_cases c24:0≤(ji23)
        ·rw [if_pos c24] at H
         have c24b0:=eq_true c24
         have c24b1:decide (0≤(ji23))=true:=decide_eq_true c24
         clear c24
         by_cases c25:((ji23):Int).toNat≤281474976710656
         ·rw [if_pos c25] at H
          have c25b0:=eq_true c25
          have c25b1:decide (((ji23):Int).toNat≤281474976710656)=true:=decide_eq_true c25
          clear c25
          obtain ⟨y235,hy235⟩:∃ y_:List Int,y_=(List.replicate ((ji23):Int).toNat 0):=⟨_,rfl⟩
          replace H:(if 0≤x8_2 then (if x8_2 < (y235.length:Int) then ((spec_l5Message.f k2 a0_0 a0_1 (y235.set (x8_2:Int).toNat 1)).bind fun t239=>((spec_l2Transposed.f k2 t239).bind fun t242=>((spec_l5Row.f k2 a0_0 a0_1 a1).bind fun t245=>((spec_l2Apply.f k2 t242 t245).bind fun t248=>(spec_l5Unknowns.l2 k2 a1 (ji23) x6_2 x8_2 t248 (t248.length:Int) 0 a0_0 a0_1))))) else (none)) else (none))=some r:=by first|(rw [hy235];with_reducible exact H)|(have H2_:=(Option.bind_some _ _).symm.trans H;rw [hy235];with_reducible exact H2_)|(have H2_:=(Option.bind_some _ _).symm.trans H;with_reducible exact H2_)|with_reducible exact H|(rw [hy235];exact H)|exact H
          have Ny235:=am hy235
          clear hy235
          by_cases c26:0≤x8_2
          ·rw [if_pos c26] at H
           have c26b0:decide (0≤x8_2)=true:=decide_eq_true c26
           clear c26
           by_cases c27:x8_2 < (y235.length:Int)
           ·rw [if_pos c27] at H
            have c27b0:decide (x8_2 < (y235.length:Int))=true:=decide_eq_true c27
            clear c27
            obtain ⟨y238,hy238⟩:∃ y_:List Int,y_=(y235.set (x8_2:Int).toNat 1):=⟨_,rfl⟩
            replace H:((spec_l5Message.f k2 a0_0 a0_1 y238).bind fun t239=>((spec_l2Transposed.f k2 t239).bind fun t242=>((spec_l5Row.f k2 a0_0 a0_1 a1).bind fun t245=>((spec_l2Apply.f k2 t242 t245).bind fun t248=>(spec_l5Unknowns.l2 k2 a1 (ji23) x6_2 x8_2 t248 (t248.length:Int) 0 a0_0 a0_1)))))=some r:=by first|(rw [hy238];with_reducible exact H)|(have H2_:=(Option.bind_some _ _).symm.trans H;rw [hy238];with_reducible exact H2_)|(have H2_:=(Option.bind_some _ _).symm.trans H;with_reducible exact H2_)|with_reducible exact H|(rw [hy238];exact H)|exact H
            have Ny238:=am hy238
            clear hy238
            replace H:=Option.bind_eq_some_iff.mp H
            obtain ⟨t239,A290,H⟩:=H
            replace H:((spec_l2Transposed.f k2 t239).bind fun t242=>((spec_l5Row.f k2 a0_0 a0_1 a1).bind fun t245=>((spec_l2Apply.f k2 t242 t245).bind fun t248=>(spec_l5Unknowns.l2 k2 a1 (ji23) x6_2 x8_2 t248 (t248.length:Int) 0 a0_0 a0_1))))=some r:=H
            have A29:=am A290
            clear A290
            replace H:=Option.bind_eq_some_iff.mp H
            obtain ⟨t242,A300,H⟩:=H
            replace H:((spec_l5Row.f k2 a0_0 a0_1 a1).bind fun t245=>((spec_l2Apply.f k2 t242 t245).bind fun t248=>(spec_l5Unknowns.l2 k2 a1 (ji23) x6_2 x8_2 t248 (t248.length:Int) 0 a0_0 a0_1)))=some r:=H
            have A30:=am A300
            clear A300
            replace H:=Option.bind_eq_some_iff.mp H
            obtain ⟨t245,A310,H⟩:=H
            replace H:((spec_l2Apply.f k2 t242 t245).bind fun t248=>(spec_l5Unknowns.l2 k2 a1 (ji23) x6_2 x8_2 t248 (t248.length:Int) 0 a0_0 a0_1))=some r:=H
            have A31:=am A310
            clear A310
            replace H:=Option.bind_eq_some_iff.mp H
            obtain ⟨t248,A320,H⟩:=H
            replace H:(spec_l5Unknowns.l2 k2 a1 (ji23) x6_2 x8_2 t248 (t248.length:Int) 0 a0_0 a0_1)=some r:=H
            have A32:=am A320
            clear A320
            have H':=am H
            clear H
            try go_wp2_with (first|((with_reducible refine gate_dst (N:=39) rfl ?_);refine Kd.R_make (Kd.int .u8) _ 5 rfl (N:=39) rfl 57 _ _ rfl (ji23) (by first|rfl|exact congrArg (Value.int .i64) hji23) (by first|rfl|exact congrArg (Value.int .i64) hji23) Try.underlying57 (.int .u8 0) 1 info5 rfl d11 d10 0 (ok:=fun _=>True) (okp:=fun _=>True) rfl (fun _ hk=>hk) trivial (od d1) (Nat.le_trans (Nat.mul_le_mul_right _ (od d1:(ji23).toNat≤281474976710656)) d10) (Below.refl _ _) (Nat.le_refl _) ?_;intro v236 w33 ho34 hb hg_ hnew_;clear hg_ hnew_;(first|rw [← Ny235.out] at ho34|(simp only [Int.reduceToNat] at ho34;rw [← Ny235.out] at ho34));have n0_:=am (Kd.S_elder' d21 (Kd.R_base ho34) hb);have n1_:=am (Kd.R_lower ho34 (pz (by repeat (first|(with_reducible first|exact HB.out|apply pa|apply pb|apply pd|refine pt ?_ GE227.out)|exact HB.out))));have n2_:=am (qb (g:=gb227) (o:=.cells #[.int .i64 a0_0, .int .i64 a0_1] 72 (0,0)) (by (with_reducible repeat (first|refine qn ?_ _|refine qd ?_|refine qa ?_ _));exact BK227.out) hb);have n3_:=am (pu (by repeat (first|(with_reducible first|exact HB.out|apply pa|apply pb|apply pd|refine pt ?_ GE227.out)|exact HB.out)) hb);clear HO_6;clear BK227;clear HB;have HO_6:=n0_;have HO237:=n1_;have BK227:=n2_;have HB:=n3_;clear n0_ n1_ n2_ n3_;clear hb ho34;have p28:0≤(x8_2:Int):=od d1;have q28:(x8_2:Int) < ((y235.length:Int):Int):=od d1;obtain ⟨go28,co28,eo28,gb28,gl28,cl28,HG28⟩:=Kd.R_form HO237.out d10;(first|cases eo28|(injection eo28 with ea_ en_ ec_;(first|subst ea_|(injection ea_ with ea_;subst ea_));subst ec_;clear en_));have GB28:=am gb28;have GG28:=am HG28;clear gb28 gl28 HG28;obtain ⟨hx28_0,hf28_0⟩:=Kd.R_celln 0 HO237.out (x8_2:Int) p28 q28;replace p28:=eq_true p28;replace q28:=eq_true q28;obtain ⟨hy35_,hz35_⟩:=Kd.R_celln 0 HO237.out (x8_2:Int) (od d1) (od d1);have HP35:=Kd.R_putg HO237.out (x8_2:Int) 1)|((with_reducible refine gate_store (t:=5) (p:=42) rfl ?_);refine store_event (t:=5) (p:=42) (v:=?vo_w36) (w1:=(w33.setCell ⟨go28,(x8_2:Int).toNat,none⟩ (.int .u8 1))) ?hg ?ho ?hn ?hr ?_;(case ho=>rfl);(case hg=>rfl);(case hn=>rfl);(case hr=>first|(go_simp;done)|(go_simp;rfl));intro w36 hw;have hg:w33.grownBy w36 (some go28):=(by rw [hw];exact HP35.2);have hp_:Kd.R (Kd.int .u8) 5 w36 w.heap.size (fun _=>True) (.slice (some ⟨go28,0,none⟩) y235.length co28) y238:=(by rw [hw,Ny238.out];exact HP35.1);clear HP35;have n0_:=am (Kd.S_after (v:=(.slice (some ⟨go28,0,none⟩) y235.length co28)) (v1:=(.slice (some ⟨go28,0,none⟩) y235.length co28)) (ok:=(fun _=>True)) d21 hg (.inl rfl));have n1_:=am (blk_grown (g:=gb227) (o:=.cells #[.int .i64 a0_0, .int .i64 a0_1] 72 (0,0)) (by (with_reducible repeat (first|refine qn ?_ _|refine qd ?_|refine qa ?_ _));exact BK227.out) hg (Kd.R_ne HO237.out BK227.out d11));have n2_:=am (hp_);have n3_:=am ((by rw [hw];exact pt (HB.out) GB28.out:Below w.heap.size w w36));clear HO_6;clear BK227;clear HO237;clear HB;have HO_6:=n0_;have BK227:=n1_;have HO237:=n2_;have HB:=n3_;clear n0_ n1_ n2_ n3_;clear hg hw hp_))
            have n0_:=am (Kd.S_drew HO_6.out)
            have n1_:=am (Kd.R_drew HO237.out)
            have n2_:=am (qd BK227.out)
            have n3_:=am (pd HB.out)
            clear HO_6
            clear HO237
            clear BK227
            clear HB
            have HO_6:=n0_
            have HO237:=n1_
            have BK227:=n2_
            have HB:=n3_
            clear n0_ n1_ n2_ n3_
            refine rS (n:=10) (S:=fun w'=>w'.cell? ⟨gb227,0,none⟩=some (.int .i64 a0_0)∧w'.cell? ⟨gb227,1,none⟩=some (.int .i64 a0_1)) (ds:=[]) [(1,44),(5,48),(9,52),(0,43),(4,47),(2,0),(3,0),(6,0),(7,0),(8,51)] d3 rfl spec_l5Unknowns.tab13 spec_l5Unknowns.bits13 ⟨(blk_cell BK227.out 0).trans rfl,(blk_cell BK227.out 1).trans rfl⟩ (fun hHeld HT_ HW_=>?_)
            generalize w36.drew=w37 at HO_6 HO237 BK227 HB hHeld ⊢
            refine rR ?_
            refine rO (N:=some 45) HT_ rfl rfl d3 d11 (fun K hK=>?_)
            refine goes_ Try.func195 d3 rfl #[.agg #[.int .i64 a0_0, .int .i64 a0_1], .slice (some ⟨go28,0,none⟩) y238.length co28] d18 rfl rfl (by (try simp only [q4,q5,q6]);first|done|(rw [show y238.length=y235.length from (Kd.R_reads' HO237.out).1.symm] <;> rfl)|rfl|(simp only [q7,q8];rfl)) ?_
            with_reducible refine (spec_l5Message.calls k2 a0_0 a0_1 _ _ y238 t239 _ ?side1 ?side2 A29.out).mono ?_
            (case side1=>repeat (first|exact (Kd.R_reads' HO237.out).2.2|(with_reducible refine Kd.C_alloc ?_ _)|(with_reducible refine Kd.C_drewN ?_ _)|(with_reducible refine Kd.C_drew ?_)))
            (case side2=>rw [show y238.length=y235.length from (Kd.R_reads' HO237.out).1.symm];exact (Kd.R_reads' HO237.out).2.1)
            rintro e w38 ⟨v240,rfl,ho0,hb⟩
            refine ⟨_,rfl,?_⟩
            have n0_:=am (Kd.S_elder' d21 (Kd.S_base ho0) hb)
            have n1_:=am (Kd.R_below d28 hb)
            have n2_:=am (Kd.S_lower (Kd.S_new' (Kd.S_new' ho0 (Kd.S_lt d21)) (Kd.R_lt d28)) (pz (by repeat (first|(with_reducible first|exact HB.out|apply pa|apply pb|apply pd|refine pt ?_ GE227.out)|exact HB.out))))
            have n3_:=am (qb (g:=gb227) (o:=.cells #[.int .i64 a0_0, .int .i64 a0_1] 72 (0,0)) (by (with_reducible repeat (first|refine qn ?_ _|refine qd ?_|refine qa ?_ _));exact BK227.out) hb)
            have n4_:=am (pu (by repeat (first|(with_reducible first|exact HB.out|apply pa|apply pb|apply pd|refine pt ?_ GE227.out)|exact HB.out)) hb)
            clear HO_6
            clear HO237
            clear BK227
            clear HB
            have HO_6:=n0_
            have HO237:=n1_
            have HO241:=n2_
            have BK227:=n3_
            have HB:=n4_
            clear n0_ n1_ n2_ n3_ n4_
            (try clear hb)
            (try clear hb2)
            (try clear hk)
            (try clear hi)
            (try clear ho0)
            obtain ⟨Ao39,co39,eo39⟩:=Kd.S_slice HO241.out
            (first|subst eo39|(injection eo39 with f1_ f2_ f3_;have f4_:=f1_.symm;have f5_:=f3_.symm;clear f1_ f2_ f3_;subst f4_;subst f5_))
            refine hK.out _ _ ⟨(blk_cell BK227.out 0).trans rfl,(blk_cell BK227.out 1).trans rfl⟩ (fun hHeld=>?_)
            clear hK K
            refine rN (a':=?_) ?_ ?_
            rotate_left
            ·show Act.put _ (some 45) _=_
             simp only [Act.put,q1,q2,q3,i64_w,i32_w]
             rfl
            refine rO (N:=some 46) HT_ rfl rfl d3 d11 (fun K hK=>?_)
            refine goes_ Try.func194 d3 rfl #[.agg #[.slice Ao39 t239.length co39]] d18 rfl rfl d5 ?_
            with_reducible refine (spec_l2Transposed.calls k2 _ _ t239 t242 _ ?side1 ?side2 A30.out).mono ?_
            (case side1=>repeat (first|exact (Kd.S_reads' HO241.out).2.2|(with_reducible refine Kd.C_alloc ?_ _)|(with_reducible refine Kd.C_drewN ?_ _)|(with_reducible refine Kd.C_drew ?_)))
            (case side2=>exact (Kd.S_reads' HO241.out).2.1)
            rintro e w40 ⟨v243,rfl,ho0,hb⟩
            refine ⟨_,rfl,?_⟩
            have n0_:=am (Kd.S_elder' d21 (Kd.S_base ho0) hb)
            have n1_:=am (Kd.R_below d28 hb)
            have n2_:=am (Kd.S_elder' d41 (Kd.S_base ho0) hb)
            have n3_:=am (Kd.S_lower (Kd.S_new' (Kd.S_new' (Kd.S_new' ho0 (Kd.S_lt d21)) (Kd.R_lt d28)) (Kd.S_lt d41)) (pz (by repeat (first|(with_reducible first|exact HB.out|apply pa|apply pb|apply pd|refine pt ?_ GE227.out)|exact HB.out))))
            have n4_:=am (qb (g:=gb227) (o:=.cells #[.int .i64 a0_0, .int .i64 a0_1] 72 (0,0)) (by (with_reducible repeat (first|refine qn ?_ _|refine qd ?_|refine qa ?_ _));exact BK227.out) hb)
            have n5_:=am (pu (by repeat (first|(with_reducible first|exact HB.out|apply pa|apply pb|apply pd|refine pt ?_ GE227.out)|exact HB.out)) hb)
            clear HO_6
            clear HO237
            clear HO241
            clear BK227
            clear HB
            have HO_6:=n0_
            have HO237:=n1_
            have HO241:=n2_
            have HO244:=n3_
            have BK227:=n4_
            have HB:=n5_
            clear n0_ n1_ n2_ n3_ n4_ n5_
            (try clear hb)
            (try clear hb2)
            (try clear hk)
            (try clear hi)
            (try clear ho0)
            refine hK.out _ _ ⟨(blk_cell BK227.out 0).trans rfl,(blk_cell BK227.out 1).trans rfl⟩ (fun hHeld=>?_)
            clear hK K
            refine rN (a':=?_) ?_ ?_
            rotate_left
            ·show Act.put _ (some 46) _=_
             simp only [Act.put,q1,q2,q3,i64_w,i32_w]
             rfl
            refine rO (N:=some 49) HT_ rfl rfl d3 d11 (fun K hK=>?_)
            refine goes_ Try.func122 d3 rfl #[.agg #[.int .i64 a0_0, .int .i64 a0_1], .int .i64 a1] d18 rfl rfl d5 ?_
            with_reducible refine (spec_l5Row.calls k2 a0_0 a0_1 a1 t245 _ A31.out).mono ?_
            rintro e w41 ⟨v246,rfl,ho0,hb⟩
            refine ⟨_,rfl,?_⟩
            have n0_:=am (Kd.S_elder' d21 (Kd.R_base ho0) hb)
            have n1_:=am (Kd.R_elder' d28 (Kd.R_base ho0) hb)
            have n2_:=am (Kd.S_elder' d41 (Kd.R_base ho0) hb)
            have n3_:=am (Kd.S_elder' (by (with_reducible repeat (first|apply Kd.S_alloc|apply Kd.S_drewN|apply Kd.S_drew));exact HO244.out) (Kd.R_base ho0) hb)
            have n4_:=am (Kd.R_lower (Kd.R_new' ho0 (Kd.R_lt d28)) (pz (by repeat (first|(with_reducible first|exact HB.out|apply pa|apply pb|apply pd|refine pt ?_ GE227.out)|exact HB.out))))
            have n5_:=am (qb (g:=gb227) (o:=.cells #[.int .i64 a0_0, .int .i64 a0_1] 72 (0,0)) (by (with_reducible repeat (first|refine qn ?_ _|refine qd ?_|refine qa ?_ _));exact BK227.out) hb)
            have n6_:=am (pu (by repeat (first|(with_reducible first|exact HB.out|apply pa|apply pb|apply pd|refine pt ?_ GE227.out)|exact HB.out)) hb)
            clear HO_6
            clear HO237
            clear HO241
            clear HO244
            clear BK227
            clear HB
            have HO_6:=n0_
            have HO237:=n1_
            have HO241:=n2_
            have HO244:=n3_
            have HO247:=n4_
            have BK227:=n5_
            have HB:=n6_
            clear n0_ n1_ n2_ n3_ n4_ n5_ n6_
            (try clear hb)
            (try clear hb2)
            (try clear hk)
            (try clear hi)
            (try clear ho0)
            obtain ⟨Ao42,co42,eo42⟩:=Kd.S_slice HO244.out
            (first|subst eo42|(injection eo42 with f1_ f2_ f3_;have f4_:=f1_.symm;have f5_:=f3_.symm;clear f1_ f2_ f3_;subst f4_;subst f5_))
            obtain ⟨Ao43,co43,eo43⟩:=Kd.R_slice HO247.out
            (first|subst eo43|(injection eo43 with f1_ f2_ f3_;have f4_:=f1_.symm;have f5_:=f3_.symm;clear f1_ f2_ f3_;subst f4_;subst f5_))
            refine hK.out _ _ ⟨(blk_cell BK227.out 0).trans rfl,(blk_cell BK227.out 1).trans rfl⟩ (fun hHeld=>?_)
            clear hK K
            refine rN (a':=?_) ?_ ?_
            rotate_left
            ·show Act.put _ (some 49) _=_
             simp only [Act.put,q1,q2,q3,i64_w,i32_w]
             rfl
            refine rO (N:=some 50) HT_ rfl rfl d3 d11 (fun K hK=>?_)
            refine goes_ Try.func118 d3 rfl #[.agg #[.slice Ao42 t242.length co42], .slice Ao43 t245.length co43] d18 rfl rfl d5 ?_
            with_reducible refine (spec_l2Apply.calls k2 _ _ t242 _ _ t245 t248 _ ?side1 ?side2 ?side3 ?side4 A32.out).mono ?_
            (case side1=>repeat (first|exact (Kd.S_reads' HO244.out).2.2|(with_reducible refine Kd.C_alloc ?_ _)|(with_reducible refine Kd.C_drewN ?_ _)|(with_reducible refine Kd.C_drew ?_)))
            (case side2=>exact (Kd.S_reads' HO244.out).2.1)
            (case side3=>repeat (first|exact (Kd.R_reads' HO247.out).2.2|(with_reducible refine Kd.C_alloc ?_ _)|(with_reducible refine Kd.C_drewN ?_ _)|(with_reducible refine Kd.C_drew ?_)))
            (case side4=>exact (Kd.R_reads' HO247.out).2.1)
            rintro e w44 ⟨v249,rfl,ho0,hb⟩
            refine ⟨_,rfl,?_⟩
            have n0_:=am (Kd.S_elder' d21 (Kd.R_base ho0) hb)
            have n1_:=am (Kd.R_elder' d28 (Kd.R_base ho0) hb)
            have n2_:=am (Kd.S_elder' d41 (Kd.R_base ho0) hb)
            have n3_:=am (Kd.S_elder' (by (with_reducible repeat (first|apply Kd.S_alloc|apply Kd.S_drewN|apply Kd.S_drew));exact HO244.out) (Kd.R_base ho0) hb)
            have n4_:=am (Kd.R_elder' (by (with_reducible repeat (first|apply Kd.R_alloc|apply Kd.R_drewN|apply Kd.R_drew));exact HO247.out) (Kd.R_base ho0) hb)
            have n5_:=am (Kd.R_lower (Kd.R_new' (Kd.R_new' ho0 (Kd.R_lt d28)) (Kd.R_lt (by (with_reducible repeat (first|apply Kd.R_alloc|apply Kd.R_drewN|apply Kd.R_drew));exact HO247.out))) (pz (by repeat (first|(with_reducible first|exact HB.out|apply pa|apply pb|apply pd|refine pt ?_ GE227.out)|exact HB.out))))
            have n6_:=am (qb (g:=gb227) (o:=.cells #[.int .i64 a0_0, .int .i64 a0_1] 72 (0,0)) (by (with_reducible repeat (first|refine qn ?_ _|refine qd ?_|refine qa ?_ _));exact BK227.out) hb)
            have n7_:=am (pu (by repeat (first|(with_reducible first|exact HB.out|apply pa|apply pb|apply pd|refine pt ?_ GE227.out)|exact HB.out)) hb)
            clear HO_6
            clear HO237
            clear HO241
            clear HO244
            clear HO247
            clear BK227
            clear HB
            have HO_6:=n0_
            have HO237:=n1_
            have HO241:=n2_
            have HO244:=n3_
            have HO247:=n4_
            have HO250:=n5_
            have BK227:=n6_
            have HB:=n7_
            clear n0_ n1_ n2_ n3_ n4_ n5_ n6_ n7_
            (try clear hb)
            (try clear hb2)
            (try clear hk)
            (try clear hi)
            (try clear ho0)
            obtain ⟨Ao45,co45,eo45⟩:=Kd.R_slice HO250.out
            (first|subst eo45|(injection eo45 with f1_ f2_ f3_;have f4_:=f1_.symm;have f5_:=f3_.symm;clear f1_ f2_ f3_;subst f4_;subst f5_))
            refine hK.out _ _ ⟨(blk_cell BK227.out 0).trans rfl,(blk_cell BK227.out 1).trans rfl⟩ (fun hHeld=>?_)
            clear hK K
            refine rN (a':=?_) ?_ ?_
            rotate_left
            ·show Act.put _ (some 50) _=_
             simp only [Act.put,q1,q2,q3,i64_w,i32_w]
             rfl
            refine rR ?_
            refine rD HT_ d3 ?_
            try go_wp2
            go_loopg [52] k2 (fun kq v52 w'=>∃ (x6_3:List (List Int)) (x50_3:List Int) (x52_3:Int),v52 = .int .i64 x52_3∧Aside0 (spec_l5Unknowns.l2 kq a1 (ji23) x6_3 x8_2 x50_3 (t248.length:Int) x52_3 a0_0 a0_1=some r)∧Aside0 (kq≤k2)∧Aside0 (Kd.S (Kd.slice 5 (Kd.int .u8)) 57 w' w.heap.size (fun k_=>some k_ ≠ ((.slice Ao45 t248.length co45):Value).ownBlock) (.slice Ao10 x6_2.length co10) x6_3)∧Aside0 (Kd.R (Kd.int .u8) 5 w' w.heap.size (fun _=>True) (.slice Ao45 t248.length co45) x50_3)∧Aside0 (w'.heap[gb227]? = some (.cells #[.int .i64 a0_0, .int .i64 a0_1] 72 (0,0)))∧Aside0 (Below w.heap.size w w'))
            case atStart=>exact ⟨(x6_2),(t248),(0),d2,H',⟨Nat.le_refl _⟩,⟨by (try simp only [hl6_1]);(try simp only [hl6_2]);(with_reducible repeat (first|apply Kd.S_alloc|apply Kd.S_drewN|apply Kd.S_drew));exact Kd.S_mono HO_6.out (fun _ hk=>hk.2)⟩,⟨by (try simp only [hl6_1]);(try simp only [hl6_2]);(with_reducible repeat (first|apply Kd.R_alloc|apply Kd.R_drewN|apply Kd.R_drew));exact Kd.R_mono HO250.out (fun _ hk=>trivial)⟩,⟨by (try simp only [hl6_1]);(try simp only [hl6_2]);(with_reducible repeat (first|refine qn ?_ _|refine qd ?_|refine qa ?_ _));exact BK227.out⟩,⟨by repeat (first|(with_reducible first|exact HB.out|apply pa|apply pb|apply pd|refine pt ?_ GE227.out)|exact HB.out)⟩⟩
            case round =>
             clear H'
             try clear c1
             try clear p1
             try clear q1
             try clear hx1
             try clear c2
             try clear p2
             try clear q2
             try clear hx2
             try clear hf2
             try clear c4
             try clear c4b0
             try clear c4b1
             try clear c5
             try clear c5b0
             try clear c5b1
             try clear p6
             try clear c11
             try clear c11b0
             try clear c12
             try clear c13
             try clear c13b0
             try clear c13b1
             try clear c14
             try clear c14b0
             try clear c14b1
             try clear c15
             try clear c15b0
             try clear c16
             try clear c16b0
             try clear c17
             try clear p17
             try clear q17
             try clear hx17
             try clear hf17
             try clear c19
             try clear c20
             try clear hx20
             try clear hf20
             try clear c22
             try clear c22b0
             try clear c24
             try clear c24b0
             try clear c24b1
             try clear c25
             try clear c25b0
             try clear c25b1
             try clear c26
             try clear c26b0
             try clear c27
             try clear c27b0
             try clear p28
             try clear q28
             try clear hx28
             try clear hf28
             try clear hcz7_0
             try clear hcz7_1
             try clear hfz7_0
             try clear hfz7_1
             try clear hx17_0
             try clear hx20_0
             try clear hx28_0
             try clear p1
             try clear p17
             try clear p2
             try clear p28
             try clear p6
             try clear q1
             try clear q17
             try clear q28
             obtain ⟨x6_3,x50_3,x52_3,rfl,HA,HK3,HO_6,HO_50,BK227,HB⟩:=hrel
             have hl6_3:=(Kd.S_reads' HO_6.out).1
             rw [hl6_3] at HO_6
             (try simp only [hl6_3])
             (try simp only [hl6_3] at BK227)
             (try simp only [hl6_3] at HO_50)
             have hl50_3:=(Kd.R_reads' HO_50.out).1
             rw [hl50_3] at HO_50
             (try simp only [hl50_3])
             (try simp only [hl50_3] at BK227)
             (try simp only [hl50_3] at HO_6)
             cases gk with
             | zero=>exact absurd HA.out (by simp [spec_l5Unknowns.l2])
             | succ k3 =>
              have H:=HA.out
              clear HA
              simp only [spec_l5Unknowns.l2] at H
              by_cases c46:x52_3 < (t248.length:Int)
              ·rw [if_pos c46] at H
               have c46b0:decide (x52_3 < (t248.length:Int))=true:=decide_eq_true c46
               clear c46
               by_cases c47:0≤x52_3
               ·rw [if_pos c47] at H
                have c47b0:decide (0≤x52_3)=true:=decide_eq_true c47
                clear c47
                by_cases c48:x52_3 < (x50_3.length:Int)
                ·rw [if_pos c48] at H
                 have c48b0:decide (x52_3 < (x50_3.length:Int))=true:=decide_eq_true c48
                 clear c48
                 by_cases c49:x52_3 < (x6_3.length:Int)
                 ·rw [if_pos c49] at H
                  have c49b0:decide (x52_3 < (x6_3.length:Int))=true:=decide_eq_true c49
                  clear c49
                  by_cases c50:0≤x8_2
                  ·rw [if_pos c50] at H
                   have c50b0:decide (0≤x8_2)=true:=decide_eq_true c50
                   clear c50
                   by_cases c51:x8_2 < ((rd_L2 x6_3 x52_3).length:Int)
                   ·rw [if_pos c51] at H
                    have c51b0:decide (x8_2 < ((rd_L2 x6_3 x52_3).length:Int))=true:=decide_eq_true c51
                    clear c51
                    obtain ⟨y253,hy253⟩:∃ y_:List Int,y_=((rd_L2 x6_3 x52_3).set (x8_2:Int).toNat (rd x50_3 x52_3)):=⟨_,rfl⟩
                    replace H:(spec_l5Unknowns.l2 k3 a1 (ji23) (x6_3.set (x52_3:Int).toNat y253) x8_2 x50_3 (t248.length:Int) (wrap64 (x52_3+1)) a0_0 a0_1)=some r:=by first|(rw [hy253];with_reducible exact H)|(have H2_:=(Option.bind_some _ _).symm.trans H;rw [hy253];with_reducible exact H2_)|(have H2_:=(Option.bind_some _ _).symm.trans H;with_reducible exact H2_)|with_reducible exact H|(rw [hy253];exact H)|exact H
                    have Ny253:=am hy253
                    clear hy253
                    obtain ⟨y255,hy255⟩:∃ y_:List (List Int),y_=(x6_3.set (x52_3:Int).toNat y253):=⟨_,rfl⟩
                    replace H:(spec_l5Unknowns.l2 k3 a1 (ji23) y255 x8_2 x50_3 (t248.length:Int) (wrap64 (x52_3+1)) a0_0 a0_1)=some r:=by first|(rw [hy255];with_reducible exact H)|(have H2_:=(Option.bind_some _ _).symm.trans H;rw [hy255];with_reducible exact H2_)|(have H2_:=(Option.bind_some _ _).symm.trans H;with_reducible exact H2_)|with_reducible exact H|(rw [hy255];exact H)|exact H
                    have Ny255:=am hy255
                    clear hy255
                    have H':=am H
                    clear H
                    have p251:0≤(x52_3:Int):=od d1
                    have q251:x52_3 < (x50_3.length:Int):=od d1
                    obtain ⟨ad251,e251,hx251_0⟩:=Kd.at_int (Kd.R_reads' HO_50.out).2.2 x52_3 p251 q251
                    cases e251
                    replace p251:=eq_true p251
                    replace q251:=eq_true q251
                    have p252:0≤(x52_3:Int):=od d1
                    have q252:x52_3 < (x6_3.length:Int):=od d1
                    obtain ⟨ad252,A252_0,c252_0,e252,hx252_0,hl252_0,hi252_0⟩:=at_L2 (Kd.S_reads' HO_6.out).2.2 x52_3 p252 q252
                    cases e252
                    obtain ⟨ce252,hce252,hMe252,hcc252⟩:=Kd.S_get HO_6.out [] x52_3 p252 (by first|exact q252|exact od d1|(have e_:=(Kd.S_reads' HO_6.out).1;omega))
                    obtain ⟨ve252_0,rfl,ge252_0⟩:=hMe252
                    have hv252_0:=hcc252 0 _ rfl
                    rw [Nat.add_zero,show ((Kd.slice 5 (Kd.int .u8))).sz=1 from rfl,Nat.mul_one] at hv252_0
                    replace hv252_0:=Option.some.inj (hv252_0.symm.trans hx252_0)
                    rw [hv252_0] at ge252_0
                    have HL252_0:=am (show Kd.R (Kd.int .u8) 5 _ _ _ _ (rd_L2 x6_3 x52_3) from ge252_0)
                    clear hv252_0 ge252_0
                    have HX252_0:=am hx252_0
                    clear hcc252 hce252
                    have HR252_0:=am hi252_0
                    have HC252_0:=am hl252_0
                    clear hi252_0 hl252_0
                    replace p252:=eq_true p252
                    replace q252:=eq_true q252
                    have p52:0≤(x8_2:Int):=od d1
                    have q52:(x8_2:Int) < (((rd_L2 x6_3 x52_3).length:Int):Int):=od d1
                    obtain ⟨go52,co52,eo52,gb52,gl52,cl52,HG52⟩:=Kd.R_form HL252_0.out d10
                    (first|cases eo52|(injection eo52 with ea_ en_ ec_;(first|subst ea_|(injection ea_ with ea_;subst ea_));subst ec_;clear en_))
                    have GB52:=am gb52
                    have GG52:=am HG52
                    clear gb52 gl52 HG52
                    obtain ⟨hx52_0,hf52_0⟩:=Kd.R_celln 0 HL252_0.out (x8_2:Int) p52 q52
                    replace p52:=eq_true p52
                    replace q52:=eq_true q52
                    have hq53:(x52_3:Int) < (x6_3.length:Int):=(by have h_:(x52_3:Int) < ((x6_3.length:Int):Int):=od d1;first|exact h_|(have e_:=(Kd.S_reads' HO_6.out).1;omega)|simpa only [List.length_set,List.length_set] using h_)
                    obtain ⟨oki53,ce53,hcl53,hM53,hcc53,hok53,hbk53⟩:=Kd.S_borrow HO_6.out [] (x52_3:Int) (od d1) hq53
                    obtain ⟨ve53_0,rfl,ge53_0⟩:=hM53
                    have hv53:=hcc53 0 _ rfl
                    rw [Nat.add_zero,show ((Kd.slice 5 (Kd.int .u8))).sz=1 from rfl,Nat.mul_one] at hv53
                    replace hv53:=Option.some.inj (hv53.symm.trans HX252_0.out)
                    subst hv53
                    clear hcc53 hcl53
                    replace ge53_0:=(show Kd.R (Kd.int .u8) 5 _ _ _ _ (rd_L2 x6_3 x52_3) from ge53_0)
                    have HP53:=Kd.R_putg ge53_0 (x8_2:Int) (rd x50_3 x52_3)
                    go_wp2_with (first|((with_reducible refine gate_store (t:=5) (p:=63) rfl ?_);refine store_event (t:=5) (p:=63) (v:=?vo_w54) (w1:=(wr.setCell ⟨go52,(x8_2:Int).toNat,none⟩ (.int .u8 (rd x50_3 x52_3)))) ?hg ?ho ?hn ?hr ?_;(case ho=>rfl);(case hg=>rfl);(case hn=>rfl);(case hr=>first|(go_simp;done)|(go_simp;rfl));intro w54 hw;have hg:wr.grownBy w54 (some go52):=(by rw [hw];exact HP53.2);have hz_:Kd.R (Kd.int .u8) 5 w54 w.heap.size oki53 (.slice (some ⟨go52,0,none⟩) (rd_L2 x6_3 x52_3).length c252_0) y253:=(by rw [hw,Ny253.out];exact HP53.1);have hp_:Kd.S (Kd.slice 5 (Kd.int .u8)) 57 w54 w.heap.size (fun k_=>some k_ ≠ (.slice (some ad251) x50_3.length co45:Value).ownBlock) (.slice (some ad252) x6_3.length co10) y255:=(by rw [Ny255.out];exact hbk53 hg (fun k_ e_=>by injection e_ with e_;subst e_;exact ge53_0.1 _ rfl) (Kd.M_row hz_));have hm_:=Kd.R_mono hz_ hok53;clear HP53 hbk53;have n0_:=am (hp_);have n1_:=am (Kd.R_grown1 (by (with_reducible repeat (first|apply Kd.R_alloc|apply Kd.R_drewN|apply Kd.R_drew));exact HO_50.out) rfl hg ((HL252_0.out.1 _ rfl).1));have n2_:=am (blk_grown (g:=gb227) (o:=.cells #[.int .i64 a0_0, .int .i64 a0_1] 72 (0,0)) (by (with_reducible repeat (first|refine qn ?_ _|refine qd ?_|refine qa ?_ _));exact BK227.out) hg (Kd.R_ne HL252_0.out BK227.out d11));have n3_:=am ((by rw [hw];exact pt (HB.out) GB52.out:Below w.heap.size w w54));have n4_:=am (hm_);have n5_:=am ((Kd.R_reads' hm_).2.1);clear HO_6;clear HO_50;clear BK227;clear HB;clear HL252_0;have HO_6:=n0_;have HO_50:=n1_;have BK227:=n2_;have HB:=n3_;have HL256:=n4_;have HC254:=n5_;clear n0_ n1_ n2_ n3_ n4_ n5_;clear hg hw hp_ hz_ hm_ hok53))
                    (try simp only [← hl6_3,← hl50_3])
                    go_roundg k3
                    case measure=>have:=HK1.out;have:=HK2.out;have:=HK3.out;omega
                    case rel=>exact ⟨(y255),(x50_3),(wrap64 (x52_3+1)),d2,H',⟨d56⟩,⟨by (try simp only [hl6_1]);(try simp only [hl6_2]);(try simp only [hl6_3]);(try simp only [hl50_3]);(with_reducible repeat (first|apply Kd.S_alloc|apply Kd.S_drewN|apply Kd.S_drew));exact HO_6.out⟩,⟨by (try simp only [hl6_1]);(try simp only [hl6_2]);(try simp only [hl6_3]);(try simp only [hl50_3]);(with_reducible repeat (first|apply Kd.R_alloc|apply Kd.R_drewN|apply Kd.R_drew));exact HO_50.out⟩,⟨by (try simp only [hl6_1]);(try simp only [hl6_2]);(try simp only [hl6_3]);(try simp only [hl50_3]);(with_reducible repeat (first|refine qn ?_ _|refine qd ?_|refine qa ?_ _));exact BK227.out⟩,⟨by repeat (first|(with_reducible first|exact HB.out|apply pa|apply pb|apply pd|refine pt ?_ GE227.out)|exact HB.out)⟩⟩
                   rw [if_neg c51] at H
                   exact absurd H d20
                  rw [if_neg c50] at H
                  exact absurd H d20
                 rw [if_neg c49] at H
                 exact absurd H d20
                rw [if_neg c48] at H
                exact absurd H d20
               rw [if_neg c47] at H
               exact absurd H d20
              rw [if_neg c46] at H
              have c46b0:decide (x52_3 < (t248.length:Int))=false:=decide_eq_false c46
              (try simp only [hl6_1] at c46b0);(try simp only [hl6_2] at c46b0);(try simp only [hl6_3] at c46b0);(try simp only [hl50_3] at c46b0)
              clear c46
              have H':=am H
              clear H
              go_wp2
              (try simp only [← hl6_2,← hl6_3,← hl50_3])
              (try simp only [← hji23])
              go_roundg k3
              case measure=>have:=HK1.out;have:=HK2.out;have:=HK3.out;omega
              case rel=>exact ⟨(x6_3),(wrap64 (x8_2+1)),d2,⟨by have h_:=H'.out;rw [← hji23] at h_;exact h_⟩,⟨d56⟩,⟨by (try simp only [hl6_1]);(try simp only [hl6_2]);(try simp only [hl6_3]);(try simp only [hl50_3]);(with_reducible repeat (first|apply Kd.S_alloc|apply Kd.S_drewN|apply Kd.S_drew));exact Kd.S_mono HO_6.out (fun _ hk=>trivial)⟩,⟨by (try simp only [hl6_1]);(try simp only [hl6_2]);(try simp only [hl6_3]);(try simp only [hl50_3]);(with_reducible repeat (first|refine qn ?_ _|refine qd ?_|refine qa ?_ _));exact BK227.out⟩,⟨by repeat (first|(with_reducible first|exact HB.out|apply pa|apply pb|apply pd|refine pt ?_ GE227.out)|exact HB.out)⟩⟩
           rw [if_neg c27] at H
           exact absurd H d20
          rw [if_neg c26] at H
          exact absurd H d20
         rw [if_neg c25] at H
         exact absurd H d20
        rw [if_neg c24] at H
        exact absurd H d20
       rw [if_neg c22] at H
       have c22b0:decide (x8_2 < (wrap64 (a0_1*(ji3))))=false:=decide_eq_false c22
       clear c22
       obtain rfl:=Option.some.inj H
       go_wp2
       go_ret
       exact ⟨_,by first|rfl|(simp [errW_none,errW_some] <;> rfl)|(simp only [← hji3];first|rfl|(simp [errW_none,errW_some] <;> rfl))|(simp [*,errW_none,errW_some] <;> rfl),d21,by repeat (first|(with_reducible first|exact HB.out|apply pa|apply pb|apply pd|refine pt ?_ GE227.out)|exact HB.out)⟩
  rw [if_neg c5] at H
  exact absurd H d20
 rw [if_neg c4] at H
 exact absurd H d20

end Go.Proofs.Ytajikfnpcobnpaa.PFnExactDecodeMsr
-- HALVED
-- SQUEEZED
-- SQUEEZED2
-- SQUEEZED3
-- SQUEEZED4
-- SQUEEZED5
-- SQUEEZED6
