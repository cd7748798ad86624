-- Laid by a program of this session.
import Derived.Test.YtajikfnpcobnpaaPFnExactDecodeMsrx0
namespace Go.Proofs.Ytajikfnpcobnpaa.PFnExactDecodeMsr
open Go.RowKit Go.Proofs.YtajikfnpcobnpaaW.PrintWords Go.Proofs.YtajikfnpcobnpaaW.PrintLast Go.Proofs.YtajikfnpcobnpaaW.PrintMore
attribute [local go_sem] max2_int min2_int max_two min_two max_three min_three max_four min_four   -- for this text's walks alone
set_option linter.unusedVariables false
set_option maxHeartbeats 8000000
set_option maxRecDepth 100000
set_option linter.unusedSimpArgs false

def spec_l1Add.l0:Nat→List Int→List Int→List Int→Int→Int→Option (List Int)
 | 0,_,_,_,_,_=>none
 | k+1,x0,x1,x5,x8,x9=>if x9 < x8 then (if 0≤x9 then (if x9 < (x0.length:Int) then (if x9 < (x1.length:Int) then (if x5.length < 140737488355328 then (spec_l1Add.l0 k x0 x1 (x5 ++ [Go.bits .xor .u8 (rd x0 x9) (rd x1 x9)]) x8 (wrap64 (x9+1))) else (none)) else (none)) else (none)) else (none)) else (some x5)
def spec_l1Add.f (k:Nat) (l0:List Int) (l1:List Int):Option (List Int):=spec_l1Add.l0 k l0 l1 ([]:List Int) (l0.length:Int) 0
theorem spec_l1Add.mono_l:∀ k,(∀ y0 y1 y2 y3 y4,LeO (spec_l1Add.l0 k y0 y1 y2 y3 y4) (spec_l1Add.l0 (k+1) y0 y1 y2 y3 y4))
 | 0=>fun _ _ _ _ _ r h=>by simp [spec_l1Add.l0] at h
 | k+1=>by
  have ih0:=spec_l1Add.mono_l k
  intro y0 y1 y2 y3 y4
  unfold spec_l1Add.l0
  repeat' first
  | (with_reducible exact ih0 _ _ _ _ _)
  |(with_reducible exact LeO.refl _)|(with_reducible exact LeO.none _)|(with_reducible refine LeO.ite ?_ ?_)|(with_reducible refine LeO.bind ?_ (fun _=>?_))|exact ih0 _ _ _ _ _|exact LeO.none _|refine LeO.ite ?_ ?_|refine LeO.bind ?_ (fun _=>?_)
theorem spec_l1Add.mono:∀ a0 a1 k,LeO (spec_l1Add.f k a0 a1) (spec_l1Add.f (k+1) a0 a1):=by
 intro a0 a1 k
 have ih0:=spec_l1Add.mono_l k
 unfold spec_l1Add.f
 repeat' first
   | (with_reducible exact ih0 _ _ _ _ _)
   |(with_reducible exact LeO.refl _)|(with_reducible exact LeO.none _)|(with_reducible refine LeO.ite ?_ ?_)|(with_reducible refine LeO.bind ?_ (fun _=>?_))|exact ih0 _ _ _ _ _|exact LeO.none _|refine LeO.ite ?_ ?_|refine LeO.bind ?_ (fun _=>?_)
def spec_l1Add.T5:Bool × List (List Nat × List Nat):=(true,[([],[]),([],[]),([],[]),([1,2],[1,2]),([3],[3]),([],[]),([],[]),([5,6],[5,6]),([7],[7]),([4,8],[4,8]),([9],[9]),([0,10],[0,10]),([11,11,0,1,2,3,4,5,6,7,8,9,10,11],[0,11])])
def spec_l1Add.B5:List Nat:=[0,0,0,6,14,0,0,96,224,510,1022,2047,4095]
theorem spec_l1Add.tab5:rtab .any (opsOf Try.f123 5)=spec_l1Add.T5:=by kernel_rfl
theorem spec_l1Add.bits5:waitsOk spec_l1Add.T5.2 spec_l1Add.B5=true:=by kernel_rfl
theorem spec_l1Add.calls (k:Nat) (A0:Option Addr) (c0:Nat) (l0:List Int) (A1:Option Addr) (c1:Nat) (l1:List Int) (r:List Int) (w:World) (hr0:Kd.C (Kd.int .u8) w A0 l0.length l0) (hc0:l0.length≤c0) (hr1:Kd.C (Kd.int .u8) w A1 l1.length l1) (hc1:l1.length≤c1) (h:spec_l1Add.f k l0 l1=some r) :
  Calls Try.prog 123 #[.slice A0 l0.length c0, .slice A1 l1.length c1] w fun e w'=>∃ v0_:Value,e = .returned (v0_)∧Kd.R (Kd.int .u8) 5 w' w.heap.size (fun _=>True) v0_ r∧Below w.heap.size w w':=by
 have HR0:=am hr0
 have HC0:=am hc0
 clear hr0 hc0
 have HR1:=am hr1
 have HC1:=am hc1
 clear hr1 hc1
 have HB:=am (Below.refl w.heap.size w)
 have H:(spec_l1Add.l0 k l0 l1 ([]:List Int) (l0.length:Int) 0)=some r:=h
 clear h
 have H':=am H
 clear H
 go_enter Try.func123,Try.ntmps123
 go_wp2
 go_loopg [5,9] k (fun kq v5 v9 w'=>∃ (x5_1:List Int) (x9_1:Int),v9 = .int .i64 x9_1∧Aside0 (spec_l1Add.l0 kq l0 l1 x5_1 (l0.length:Int) x9_1=some r)∧Aside0 (kq≤k)∧Aside0 (Kd.R (Kd.int .u8) 5 w' w.heap.size (fun _=>True) v5 x5_1)∧Aside0 (Below w.heap.size w w'))
 case atStart=>exact ⟨(([]:List Int)),(0),d2,H',⟨Nat.le_refl _⟩,⟨d16⟩,⟨d0⟩⟩
 case round =>
  clear H'
  try clear c1
  try clear p2
  obtain ⟨x5_1,x9_1,rfl,HA,HK1,HO_5,HB⟩:=hrel
  cases gk with
  | zero=>exact absurd HA.out (by simp [spec_l1Add.l0])
  | succ k1 =>
   have H:=HA.out
   clear HA
   simp only [spec_l1Add.l0] at H
   by_cases c3:x9_1 < (l0.length:Int)
   ·rw [if_pos c3] at H
    have c3b0:decide (x9_1 < (l0.length:Int))=true:=decide_eq_true c3
    clear c3
    by_cases c4:0≤x9_1
    ·rw [if_pos c4] at H
     have c4b0:decide (0≤x9_1)=true:=decide_eq_true c4
     clear c4
     by_cases c5:x9_1 < (l0.length:Int)
     ·rw [if_pos c5] at H
      have c5b0:decide (x9_1 < (l0.length:Int))=true:=decide_eq_true c5
      clear c5
      by_cases c6:x9_1 < (l1.length:Int)
      ·rw [if_pos c6] at H
       have c6b0:decide (x9_1 < (l1.length:Int))=true:=decide_eq_true c6
       clear c6
       by_cases c7:x5_1.length < 140737488355328
       ·rw [if_pos c7] at H
        have LMc7:=am c7
        clear c7
        obtain ⟨y117,hy117⟩:∃ y_:List Int,y_=(x5_1 ++ [Go.bits .xor .u8 (rd l0 x9_1) (rd l1 x9_1)]):=⟨_,rfl⟩
        replace H:(spec_l1Add.l0 k1 l0 l1 y117 (l0.length:Int) (wrap64 (x9_1+1)))=some r:=by first|(rw [hy117];with_reducible exact H)|(have H2_:=(Option.bind_some _ _).symm.trans H;rw [hy117];with_reducible exact H2_)|(have H2_:=(Option.bind_some _ _).symm.trans H;with_reducible exact H2_)|with_reducible exact H|(rw [hy117];exact H)|exact H
        have Ny117:=am hy117
        clear hy117
        have H':=am H
        clear H
        try go_wp2
        have n0_:=am (Kd.R_drew HO_5.out)
        have n1_:=am (pd HB.out)
        clear HO_5
        clear HB
        have HO_5:=n0_
        have HB:=n1_
        clear n0_ n1_
        have p115:0≤(x9_1:Int):=od d1
        have q115:x9_1 < (l0.length:Int):=od d1
        obtain ⟨ad115,e115,hx115_0⟩:=Kd.at_int HR0.out x9_1 p115 q115
        have hw115_0:=hx115_0
        cases e115
        replace hx115_0:=(HB.out.cell (World.block_lt_of_cell? w _ hx115_0)).trans hx115_0
        replace p115:=eq_true p115
        replace q115:=eq_true q115
        have p116:0≤(x9_1:Int):=od d1
        have q116:x9_1 < (l1.length:Int):=od d1
        obtain ⟨ad116,e116,hx116_0⟩:=Kd.at_int HR1.out x9_1 p116 q116
        have hw116_0:=hx116_0
        cases e116
        replace hx116_0:=(HB.out.cell (World.block_lt_of_cell? w _ hx116_0)).trans hx116_0
        replace p116:=eq_true p116
        replace q116:=eq_true q116
        refine rS (n:=13) (S:=fun w'=>w'.cell? (ad115.add (x9_1).toNat)=some (.int .u8 (rd l0 x9_1))∧w'.cell? (ad116.add (x9_1).toNat)=some (.int .u8 (rd l1 x9_1))) (ds:=[]) [(0,12),(1,13),(2,14),(3,15),(5,17),(6,18),(7,19),(4,16),(8,20),(9,21),(10,0),(11,0),(12,5)] d3 rfl spec_l1Add.tab5 spec_l1Add.bits5 ⟨((HB.out.cell (World.block_lt_of_cell? w _ hw115_0)).trans hw115_0),((HB.out.cell (World.block_lt_of_cell? w _ hw116_0)).trans hw116_0)⟩ (fun hHeld HT_ HW_=>?_)
        generalize wr.drew=w8 at HO_5 HB hx115_0 hx116_0 hHeld ⊢
        refine rR ?_
        refine rO (N:=some 22) HT_ rfl rfl d3 d11 (fun K hK=>?_)
        refine value_ (w1:=?_) (v:=?_) d18 rfl ?_ ?_
        rotate_left 2
        ·go_simp
         constructor
         ·rfl
         rfl
        refine hK.out _ _ ⟨(World.cell?_alloc_lt _ _ _ (World.block_lt_of_cell? _ _ (((HB.out.cell (World.block_lt_of_cell? w _ hw115_0)).trans hw115_0)))).trans (((HB.out.cell (World.block_lt_of_cell? w _ hw115_0)).trans hw115_0)),(World.cell?_alloc_lt _ _ _ (World.block_lt_of_cell? _ _ (((HB.out.cell (World.block_lt_of_cell? w _ hw116_0)).trans hw116_0)))).trans (((HB.out.cell (World.block_lt_of_cell? w _ hw116_0)).trans hw116_0))⟩ (fun hHeld=>?_)
        clear hK K
        refine rN (a':=?_) ?_ ?_
        rotate_left
        ·show Act.put _ (some 22) _=_
         simp only [Act.put,q1,q2,q3,i64_w,i32_w]
         rfl
        refine rO (N:=some 23) HT_ rfl rfl d3 d11 (fun K hK=>?_)
        refine Kd.R_append_step (Kd.int .u8) (w0:=w) w.heap.size d18 (.tmp 12) (.tmp 22) 57 5 (.int .u8 0) 1 rfl Try.underlying57 info5 rfl d11 d10 u5 x5_1 (Go.bits .xor .u8 (rd l0 x9_1) (rd l1 x9_1)) [.int .u8 (Go.bits .xor .u8 (rd l0 x9_1) (rd l1 x9_1))] (fun _=>True) (fun _=>False) rfl rfl ?aP (fun _ hk=>hk.elim) ?aF ?aO ?aB ?aS ?aL ?_
        (case aP=>exact rfl)
        (case aB=>exact d0)
        (case aF=>exact (fun _ _=>trivial))
        (case aO=>exact d19)
        (case aS=>exact (pz d0))
        (case aL=>have:=LMc7.out;omega)
        intro v118 w9 ho hb hg hat
        rw [← Ny117.out] at ho
        have n0_:=am (hb)
        have n1_:=am (ho)
        clear HB
        clear HO_5
        have HB:=n0_
        have HO119:=n1_
        clear n0_ n1_
        clear ho hb hg hat
        refine hK.out _ _ ⟨((HB.out.cell (World.block_lt_of_cell? w _ hw115_0)).trans hw115_0),((HB.out.cell (World.block_lt_of_cell? w _ hw116_0)).trans hw116_0)⟩ (fun hHeld=>?_)
        clear hK K
        refine rN (a':=?_) ?_ ?_
        rotate_left
        ·show Act.put _ (some 23) _=_
         simp only [Act.put,q1,q2,q3,i64_w,i32_w]
         rfl
        refine rR ?_
        refine rD HT_ d3 ?_
        try go_wp2
        go_roundg k1
        case measure=>have:=HK1.out;omega
        case rel=>exact ⟨(y117),(wrap64 (x9_1+1)),d2,H',⟨d30⟩,⟨by (with_reducible repeat (first|apply Kd.R_alloc|apply Kd.R_drewN|apply Kd.R_drew));exact HO119.out⟩,⟨d0⟩⟩
       rw [if_neg c7] at H
       exact absurd H d20
      rw [if_neg c6] at H
      exact absurd H d20
     rw [if_neg c5] at H
     exact absurd H d20
    rw [if_neg c4] at H
    exact absurd H d20
   rw [if_neg c3] at H
   have c3b0:decide (x9_1 < (l0.length:Int))=false:=decide_eq_false c3
   clear c3
   obtain rfl:=Option.some.inj H
   go_wp2
   go_ret
   exact ⟨_,d4,d19,d0⟩

def spec_l1Times.l0:Nat→Int→Int→Int→Option (Int)
 | 0,_,_,_=>none
 | k+1,x5,x6,x7=>if x7 > 0 then (if (Go.bits .and .i64 x7 1)=1 then (if (wrap64 (x6*2)) > 255 then (spec_l1Times.l0 k (Go.bits .xor .i64 x5 x6) (Go.bits .xor .i64 (wrap64 (x6*2)) 283) (x7 / 2)) else (spec_l1Times.l0 k (Go.bits .xor .i64 x5 x6) (wrap64 (x6*2)) (x7 / 2))) else (if (wrap64 (x6*2)) > 255 then (spec_l1Times.l0 k x5 (Go.bits .xor .i64 (wrap64 (x6*2)) 283) (x7 / 2)) else (spec_l1Times.l0 k x5 (wrap64 (x6*2)) (x7 / 2)))) else (some ((x5) % 256))
def spec_l1Times.f (k:Nat) (a0:Int) (a1:Int):Option (Int):=spec_l1Times.l0 k 0 (wrap64 (a0)) (wrap64 (a1))
theorem spec_l1Times.mono_l:∀ k,(∀ y0 y1 y2,LeO (spec_l1Times.l0 k y0 y1 y2) (spec_l1Times.l0 (k+1) y0 y1 y2))
 | 0=>fun _ _ _ r h=>by simp [spec_l1Times.l0] at h
 | k+1=>by
  have ih0:=spec_l1Times.mono_l k
  intro y0 y1 y2
  unfold spec_l1Times.l0
  repeat' first
  | (with_reducible exact ih0 _ _ _)
  |(with_reducible exact LeO.refl _)|(with_reducible exact LeO.none _)|(with_reducible refine LeO.ite ?_ ?_)|(with_reducible refine LeO.bind ?_ (fun _=>?_))|exact ih0 _ _ _|exact LeO.none _|refine LeO.ite ?_ ?_|refine LeO.bind ?_ (fun _=>?_)
theorem spec_l1Times.mono:∀ a0 a1 k,LeO (spec_l1Times.f k a0 a1) (spec_l1Times.f (k+1) a0 a1):=by
 intro a0 a1 k
 have ih0:=spec_l1Times.mono_l k
 unfold spec_l1Times.f
 repeat' first
   | (with_reducible exact ih0 _ _ _)
   |(with_reducible exact LeO.refl _)|(with_reducible exact LeO.none _)|(with_reducible refine LeO.ite ?_ ?_)|(with_reducible refine LeO.bind ?_ (fun _=>?_))|exact ih0 _ _ _|exact LeO.none _|refine LeO.ite ?_ ?_|refine LeO.bind ?_ (fun _=>?_)
theorem spec_l1Times.calls (k:Nat) (a0:Int) (a1:Int) (r:Int) (w:World) (h:spec_l1Times.f k a0 a1=some r) :
  Calls Try.prog 174 #[.int .u8 a0, .int .u8 a1] w fun e w'=>e = .returned (.int .u8 r)∧Drawn0 w w':=by
 have H:(spec_l1Times.l0 k 0 (wrap64 (a0)) (wrap64 (a1)))=some r:=h
 clear h
 have H':=am H
 clear H
 go_enter Try.func174,Try.ntmps174
 go_wp2
 go_loopg [5,6,7] k (fun kq v5 v6 v7 w'=>∃ (x5_1:Int) (x6_1:Int) (x7_1:Int),v5 = .int .i64 x5_1∧v6 = .int .i64 x6_1∧v7 = .int .i64 x7_1∧Aside0 (spec_l1Times.l0 kq x5_1 x6_1 x7_1=some r)∧Aside0 (kq≤k)∧Drawn0 w w')
 case atStart=>exact ⟨(0),(wrap64 (a0)),(wrap64 (a1)),d2,d2,d2,H',⟨Nat.le_refl _⟩,d12⟩
 case round =>
  clear H'
  try clear c1
  try clear p2
  obtain ⟨x5_1,x6_1,x7_1,rfl,rfl,rfl,HA,HK1,⟨m1,rfl⟩⟩:=hrel
  cases gk with
  | zero=>exact absurd HA.out (by simp [spec_l1Times.l0])
  | succ k1 =>
   have H:=HA.out
   clear HA
   simp only [spec_l1Times.l0] at H
   by_cases c3:x7_1 > 0
   ·rw [if_pos c3] at H
    have c3b0:decide (0 < x7_1)=true:=decide_eq_true c3
    clear c3
    by_cases c4:(Go.bits .and .i64 x7_1 1)=1
    ·rw [if_pos c4] at H
     have c4b0:((Go.bits .and .i64 x7_1 1) == 1)=true:=beq_iff_eq.mpr c4
     have c4b1:((Go.bits .and .i64 x7_1 1) != 1)=false:=bne_eq_false_iff_eq.mpr c4
     clear c4
     by_cases c5:(wrap64 (x6_1*2)) > 255
     ·rw [if_pos c5] at H
      have c5b0:decide (255 < (wrap64 (x6_1*2)))=true:=decide_eq_true c5
      clear c5
      have H':=am H
      clear H
      go_wp2
      go_roundg k1
      case measure=>have:=HK1.out;omega
      case rel=>exact ⟨(Go.bits .xor .i64 x5_1 x6_1),(Go.bits .xor .i64 (wrap64 (x6_1*2)) 283),(x7_1 / 2),d2,d2,d2,H',⟨d30⟩,d12⟩
     rw [if_neg c5] at H
     have c5b0:decide (255 < (wrap64 (x6_1*2)))=false:=decide_eq_false c5
     clear c5
     have H':=am H
     clear H
     go_wp2
     go_roundg k1
     case measure=>have:=HK1.out;omega
     case rel=>exact ⟨(Go.bits .xor .i64 x5_1 x6_1),(wrap64 (x6_1*2)),(x7_1 / 2),d2,d2,d2,H',⟨d30⟩,d12⟩
    rw [if_neg c4] at H
    have c4b0:((Go.bits .and .i64 x7_1 1) == 1)=false:=beq_eq_false_iff_ne.mpr c4
    have c4b1:((Go.bits .and .i64 x7_1 1) != 1)=true:=bne_iff_ne.mpr c4
    by_cases c6:(wrap64 (x6_1*2)) > 255
    ·rw [if_pos c6] at H
     have c6b0:decide (255 < (wrap64 (x6_1*2)))=true:=decide_eq_true c6
     clear c6
     have H':=am H
     clear H
     go_wp2
     go_roundg k1
     case measure=>have:=HK1.out;omega
     case rel=>exact ⟨(x5_1),(Go.bits .xor .i64 (wrap64 (x6_1*2)) 283),(x7_1 / 2),d2,d2,d2,H',⟨d30⟩,d12⟩
    rw [if_neg c6] at H
    have c6b0:decide (255 < (wrap64 (x6_1*2)))=false:=decide_eq_false c6
    clear c6
    have H':=am H
    clear H
    go_wp2
    go_roundg k1
    case measure=>have:=HK1.out;omega
    case rel=>exact ⟨(x5_1),(wrap64 (x6_1*2)),(x7_1 / 2),d2,d2,d2,H',⟨d30⟩,d12⟩
   rw [if_neg c3] at H
   have c3b0:decide (0 < x7_1)=false:=decide_eq_false c3
   clear c3
   obtain rfl:=Option.some.inj H
   go_wp2
   go_ret
   exact ⟨d2,d12⟩

def spec_l1Scale.l0:Nat→Int→List Int→List Int→Int→Int→Option (List Int)
 | 0,_,_,_,_,_=>none
 | k+1,x0,x5,x8,x9,x10=>if x10 < x9 then (if 0≤x10 then (if x10 < (x8.length:Int) then ((spec_l1Times.f k x0 (rd x8 x10)).bind fun t121=>(if x5.length < 140737488355328 then (spec_l1Scale.l0 k x0 (x5 ++ [t121]) x8 x9 (wrap64 (x10+1))) else (none))) else (none)) else (none)) else (some x5)
def spec_l1Scale.f (k:Nat) (a0:Int) (l1:List Int):Option (List Int):=spec_l1Scale.l0 k a0 ([]:List Int) l1 (l1.length:Int) 0
theorem spec_l1Scale.mono_l:∀ k,(∀ y0 y1 y2 y3 y4,LeO (spec_l1Scale.l0 k y0 y1 y2 y3 y4) (spec_l1Scale.l0 (k+1) y0 y1 y2 y3 y4))
 | 0=>fun _ _ _ _ _ r h=>by simp [spec_l1Scale.l0] at h
 | k+1=>by
  have ih0:=spec_l1Scale.mono_l k
  intro y0 y1 y2 y3 y4
  unfold spec_l1Scale.l0
  repeat' first
  | (with_reducible exact ih0 _ _ _ _ _)
  | (with_reducible exact spec_l1Times.mono _ _ _)
  |(with_reducible exact LeO.refl _)|(with_reducible exact LeO.none _)|(with_reducible refine LeO.ite ?_ ?_)|(with_reducible refine LeO.bind ?_ (fun _=>?_))|exact ih0 _ _ _ _ _|exact spec_l1Times.mono _ _ _|exact LeO.none _|refine LeO.ite ?_ ?_|refine LeO.bind ?_ (fun _=>?_)
theorem spec_l1Scale.mono:∀ a0 a1 k,LeO (spec_l1Scale.f k a0 a1) (spec_l1Scale.f (k+1) a0 a1):=by
 intro a0 a1 k
 have ih0:=spec_l1Scale.mono_l k
 unfold spec_l1Scale.f
 repeat' first
   | (with_reducible exact ih0 _ _ _ _ _)
   | (with_reducible exact spec_l1Times.mono _ _ _)
   |(with_reducible exact LeO.refl _)|(with_reducible exact LeO.none _)|(with_reducible refine LeO.ite ?_ ?_)|(with_reducible refine LeO.bind ?_ (fun _=>?_))|exact ih0 _ _ _ _ _|exact spec_l1Times.mono _ _ _|exact LeO.none _|refine LeO.ite ?_ ?_|refine LeO.bind ?_ (fun _=>?_)
theorem spec_l1Scale.calls (k:Nat) (a0:Int) (A1:Option Addr) (c1:Nat) (l1:List Int) (r:List Int) (w:World) (hr1:Kd.C (Kd.int .u8) w A1 l1.length l1) (hc1:l1.length≤c1) (h:spec_l1Scale.f k a0 l1=some r) :
  Calls Try.prog 124 #[.int .u8 a0, .slice A1 l1.length c1] w fun e w'=>∃ v0_:Value,e = .returned (v0_)∧Kd.R (Kd.int .u8) 5 w' w.heap.size (fun _=>True) v0_ r∧Below w.heap.size w w':=by
 have HR1:=am hr1
 have HC1:=am hc1
 clear hr1 hc1
 have HB:=am (Below.refl w.heap.size w)
 have H:(spec_l1Scale.l0 k a0 ([]:List Int) l1 (l1.length:Int) 0)=some r:=h
 clear h
 have H':=am H
 clear H
 go_enter Try.func124,Try.ntmps124
 go_wp2
 go_loopg [5,10] k (fun kq v5 v10 w'=>∃ (x5_1:List Int) (x10_1:Int),v10 = .int .i64 x10_1∧Aside0 (spec_l1Scale.l0 kq a0 x5_1 l1 (l1.length:Int) x10_1=some r)∧Aside0 (kq≤k)∧Aside0 (Kd.R (Kd.int .u8) 5 w' w.heap.size (fun _=>True) v5 x5_1)∧Aside0 (Below w.heap.size w w'))
 case atStart=>exact ⟨(([]:List Int)),(0),d2,H',⟨Nat.le_refl _⟩,⟨d16⟩,⟨d0⟩⟩
 case round =>
  clear H'
  try clear c1
  try clear p2
  obtain ⟨x5_1,x10_1,rfl,HA,HK1,HO_5,HB⟩:=hrel
  cases gk with
  | zero=>exact absurd HA.out (by simp [spec_l1Scale.l0])
  | succ k1 =>
   have H:=HA.out
   clear HA
   simp only [spec_l1Scale.l0] at H
   by_cases c3:x10_1 < (l1.length:Int)
   ·rw [if_pos c3] at H
    have c3b0:decide (x10_1 < (l1.length:Int))=true:=decide_eq_true c3
    clear c3
    by_cases c4:0≤x10_1
    ·rw [if_pos c4] at H
     have c4b0:decide (0≤x10_1)=true:=decide_eq_true c4
     clear c4
     by_cases c5:x10_1 < (l1.length:Int)
     ·rw [if_pos c5] at H
      have c5b0:decide (x10_1 < (l1.length:Int))=true:=decide_eq_true c5
      clear c5
      replace H:=Option.bind_eq_some_iff.mp H
      obtain ⟨t121,A60,H⟩:=H
      replace H:(if x5_1.length < 140737488355328 then (spec_l1Scale.l0 k1 a0 (x5_1 ++ [t121]) l1 (l1.length:Int) (wrap64 (x10_1+1))) else (none))=some r:=H
      have A6:=am A60
      clear A60
      by_cases c7:x5_1.length < 140737488355328
      ·rw [if_pos c7] at H
       have LMc7:=am c7
       clear c7
       obtain ⟨y122,hy122⟩:∃ y_:List Int,y_=(x5_1 ++ [t121]):=⟨_,rfl⟩
       replace H:(spec_l1Scale.l0 k1 a0 y122 l1 (l1.length:Int) (wrap64 (x10_1+1)))=some r:=by first|(rw [hy122];with_reducible exact H)|(have H2_:=(Option.bind_some _ _).symm.trans H;rw [hy122];with_reducible exact H2_)|(have H2_:=(Option.bind_some _ _).symm.trans H;with_reducible exact H2_)|with_reducible exact H|(rw [hy122];exact H)|exact H
       have Ny122:=am hy122
       clear hy122
       have H':=am H
       clear H
       have p120:0≤(x10_1:Int):=od d1
       have q120:x10_1 < (l1.length:Int):=od d1
       obtain ⟨ad120,e120,hx120_0⟩:=Kd.at_int HR1.out x10_1 p120 q120
       cases e120
       replace hx120_0:=(HB.out.cell (World.block_lt_of_cell? w _ hx120_0)).trans hx120_0
       replace p120:=eq_true p120
       replace q120:=eq_true q120
       go_wp2_with (first|((with_reducible refine gate_callee (f:=174) rfl ?_);refine goesL_ (some 17) rfl rfl Try.func174 d3 rfl #[.int .u8 a0, .int .u8 (rd l1 x10_1)] rfl d5 ?_;(with_reducible refine (spec_l1Times.calls k1 a0 (rd l1 x10_1) t121 _ A6.out).mono ?_);rintro e w' ⟨rfl,⟨nd,rfl⟩⟩;refine ⟨_,rfl,?_⟩)|((with_reducible refine gate_builtin (b:=.append) (xs:=#[.tmp 14, .tmp 18]) rfl ?_);at_builtin;refine Kd.R_append (Kd.int .u8) (w0:=w) w.heap.size rfl (.tmp 14) (.tmp 18) 57 5 (.int .u8 0) 1 rfl Try.underlying57 info5 rfl d11 d10 u5 x5_1 t121 [.int .u8 t121] (fun _=>True) (fun _=>False) rfl rfl ?aP (fun _ hk=>hk.elim) ?aF ?aO ?aB ?aS ?aL ?_;(case aP=>exact rfl);(case aB=>exact d0);(case aF=>exact (fun _ _=>trivial));(case aO=>exact d19);(case aS=>exact (pz d0));(case aL=>have:=LMc7.out;omega);intro v123 w8 ho hb hg hat;rw [← Ny122.out] at ho;have n0_:=am (hb);have n1_:=am (ho);clear HB;clear HO_5;have HB:=n0_;have HO124:=n1_;clear n0_ n1_;clear ho hb hg hat))
       go_roundg k1
       case measure=>have:=HK1.out;omega
       case rel=>exact ⟨(y122),(wrap64 (x10_1+1)),d2,H',⟨d30⟩,⟨by (with_reducible repeat (first|apply Kd.R_alloc|apply Kd.R_drewN|apply Kd.R_drew));exact HO124.out⟩,⟨d0⟩⟩
      rw [if_neg c7] at H
      exact absurd H d20
     rw [if_neg c5] at H
     exact absurd H d20
    rw [if_neg c4] at H
    exact absurd H d20
   rw [if_neg c3] at H
   have c3b0:decide (x10_1 < (l1.length:Int))=false:=decide_eq_false c3
   clear c3
   obtain rfl:=Option.some.inj H
   go_wp2
   go_ret
   exact ⟨_,d4,d19,d0⟩

def spec_l2Own.l0:Nat→List (List Int)→Int→Int→List (List Int)→Option ((List (List Int)))
 | 0,_,_,_,_=>none
 | k+1,x8,x9,x10,x128000=>if x10 < x9 then (if 0≤x10 then (if x10 < (x8.length:Int) then ((some (([]:List Int):List Int)).bind fun y129=>(if y129.length+(rd_L2 x8 x10).length < 140737488355328 then (if x128000.length < 5864062014805 then (spec_l2Own.l0 k x8 x9 (wrap64 (x10+1)) (x128000 ++ [(y129 ++ (rd_L2 x8 x10))])) else (none)) else (none))) else (none)) else (none)) else (some x128000)
def spec_l2Own.f (k:Nat) (l0_0:List (List Int)):Option ((List (List Int))):=spec_l2Own.l0 k l0_0 (l0_0.length:Int) 0 ([]:List (List Int))
theorem spec_l2Own.mono_l:∀ k,(∀ y0 y1 y2 y3,LeO (spec_l2Own.l0 k y0 y1 y2 y3) (spec_l2Own.l0 (k+1) y0 y1 y2 y3))
 | 0=>fun _ _ _ _ r h=>by simp [spec_l2Own.l0] at h
 | k+1=>by
  have ih0:=spec_l2Own.mono_l k
  intro y0 y1 y2 y3
  unfold spec_l2Own.l0
  repeat' first
  | (with_reducible exact ih0 _ _ _ _)
  |(with_reducible exact LeO.refl _)|(with_reducible exact LeO.none _)|(with_reducible refine LeO.ite ?_ ?_)|(with_reducible refine LeO.bind ?_ (fun _=>?_))|exact ih0 _ _ _ _|exact LeO.none _|refine LeO.ite ?_ ?_|refine LeO.bind ?_ (fun _=>?_)
theorem spec_l2Own.mono:∀ a0 k,LeO (spec_l2Own.f k a0) (spec_l2Own.f (k+1) a0):=by
 intro a0 k
 have ih0:=spec_l2Own.mono_l k
 unfold spec_l2Own.f
 repeat' first
   | (with_reducible exact ih0 _ _ _ _)
   |(with_reducible exact LeO.refl _)|(with_reducible exact LeO.none _)|(with_reducible refine LeO.ite ?_ ?_)|(with_reducible refine LeO.bind ?_ (fun _=>?_))|exact ih0 _ _ _ _|exact LeO.none _|refine LeO.ite ?_ ?_|refine LeO.bind ?_ (fun _=>?_)
def spec_l2Own.T5:Bool × List (List Nat × List Nat):=(true,[([],[]),([0],[0]),([],[]),([],[]),([2,3],[2,3]),([4],[4]),([1,5,4],[1,5]),([0,1,2,3,4,5,6],[]),([7,6,6,0,1,2,3,4,5,6],[6,7])])
def spec_l2Own.B5:List Nat:=[0,1,0,0,12,28,63,127,255]
theorem spec_l2Own.tab5:rtab .any (opsOf Try.f202 5)=spec_l2Own.T5:=by kernel_rfl
theorem spec_l2Own.bits5:waitsOk spec_l2Own.T5.2 spec_l2Own.B5=true:=by kernel_rfl
theorem spec_l2Own.calls (k:Nat) (A0_0:Option Addr) (c0_0:Nat) (l0_0:List (List Int)) (r:List (List Int)) (w:World) (hr0_0:Kd.C (Kd.slice 5 (Kd.int .u8)) w A0_0 l0_0.length l0_0) (hc0_0:l0_0.length≤c0_0) (h:spec_l2Own.f k l0_0=some r) :
  Calls Try.prog 202 #[.agg #[.slice A0_0 l0_0.length c0_0]] w fun e w'=>∃ v0_:Value,e = .returned (.agg #[v0_])∧Kd.S (Kd.slice 5 (Kd.int .u8)) 57 w' w.heap.size (fun _=>True) v0_ r∧Below w.heap.size w w':=by
 have hu43:=Try.underlying43
 have HR0_0:=am hr0_0
 have HC0_0:=am hc0_0
 clear hr0_0 hc0_0
 have HB:=am (Below.refl w.heap.size w)
 have H:(spec_l2Own.l0 k l0_0 (l0_0.length:Int) 0 ([]:List (List Int)))=some r:=h
 clear h
 have H':=am H
 clear H
 go_enter Try.func202,Try.ntmps202
 go_wp2_with (first|((with_reducible refine gate_dst (N:=1) rfl ?_);refine box_event ?hg (N:=1) ?hd (cs:=#[.slice A0_0 l0_0.length c0_0]) (t:=43) ?hr ?_;(case hd=>rfl);(case hg=>rfl);(case hr=>first|(go_simp;done)|(go_simp;rfl));intro gb125 hg w2 hbox hb;have n0_:=am (pu d0 hb);have n1_:=am (hbox);have n2_:=am ((by rw [hg];exact (pz d0):w.heap.size≤gb125));have n3_:=n2_;clear HB;have HB:=n0_;have BK125:=n1_;have GW125:=n2_;have GE125:=n3_;clear n0_ n1_ n2_ n3_;clear hb hbox hg)|((with_reducible refine gate_dst (N:=2) rfl ?_);refine box_event ?hg (N:=2) ?hd (cs:=#[.slice none 0 0]) (t:=43) ?hr ?_;(case hd=>rfl);(case hg=>rfl);(case hr=>first|(go_simp;done)|(go_simp;rfl));intro gb126 hg w3 hbox hb;have n0_:=am (qb (g:=gb125) (o:=.cells #[.slice A0_0 l0_0.length c0_0] 43 (0,0)) (by (with_reducible repeat (first|refine qn ?_ _|refine qd ?_|refine qa ?_ _));exact BK125.out) hb);have n1_:=am (pu (by repeat (first|(with_reducible first|exact HB.out|apply pa|apply pb|apply pd|refine pt ?_ GE125.out)|exact HB.out)) hb);have n2_:=am (hbox);have n3_:=am ((by rw [hg];exact (pz (by repeat (first|(with_reducible first|exact HB.out|apply pa|apply pb|apply pd|refine pt ?_ GE125.out)|exact HB.out))):w.heap.size≤gb126));have n4_:=n3_;have n5_:=am ((by rw [hg];exact Nat.ne_of_lt (blk_lt (g:=gb125) (o:=.cells #[.slice A0_0 l0_0.length c0_0] 43 (0,0)) (by (with_reducible repeat (first|refine qn ?_ _|refine qd ?_|refine qa ?_ _));exact BK125.out)):gb125 ≠ gb126));have n6_:=am ((by rw [hg];exact Nat.ne_of_gt (blk_lt (g:=gb125) (o:=.cells #[.slice A0_0 l0_0.length c0_0] 43 (0,0)) (by (with_reducible repeat (first|refine qn ?_ _|refine qd ?_|refine qa ?_ _));exact BK125.out)):gb126 ≠ gb125));clear BK125;clear HB;have BK125:=n0_;have HB:=n1_;have BK126:=n2_;have GW126:=n3_;have GE126:=n4_;have NB125_126:=n5_;have NB126_125:=n6_;clear n0_ n1_ n2_ n3_ n4_ n5_ n6_;clear hb hbox hg)|((with_reducible refine gate_dst (N:=3) rfl ?_);refine box_event ?hg (N:=3) ?hd (cs:=#[.slice none 0 0]) (t:=43) ?hr ?_;(case hd=>rfl);(case hg=>rfl);(case hr=>first|(go_simp;done)|(go_simp;rfl));intro gb127 hg w4 hbox hb;have n0_:=am (qb (g:=gb125) (o:=.cells #[.slice A0_0 l0_0.length c0_0] 43 (0,0)) (by (with_reducible repeat (first|refine qn ?_ _|refine qd ?_|refine qa ?_ _));exact BK125.out) hb);have n1_:=am (qb (g:=gb126) (o:=.cells #[.slice none 0 0] 43 (0,0)) (by (with_reducible repeat (first|refine qn ?_ _|refine qd ?_|refine qa ?_ _));exact BK126.out) hb);have n2_:=am (pu (by repeat (first|(with_reducible first|exact HB.out|apply pa|apply pb|apply pd|refine pt ?_ GE125.out|refine pt ?_ GE126.out)|exact HB.out)) hb);have n3_:=am (hbox);have n4_:=am ((by rw [hg];exact (pz (by repeat (first|(with_reducible first|exact HB.out|apply pa|apply pb|apply pd|refine pt ?_ GE125.out|refine pt ?_ GE126.out)|exact HB.out))):w.heap.size≤gb127));have n5_:=n4_;have n6_:=am ((by rw [hg];exact Nat.ne_of_lt (blk_lt (g:=gb125) (o:=.cells #[.slice A0_0 l0_0.length c0_0] 43 (0,0)) (by (with_reducible repeat (first|refine qn ?_ _|refine qd ?_|refine qa ?_ _));exact BK125.out)):gb125 ≠ gb127));have n7_:=am ((by rw [hg];exact Nat.ne_of_gt (blk_lt (g:=gb125) (o:=.cells #[.slice A0_0 l0_0.length c0_0] 43 (0,0)) (by (with_reducible repeat (first|refine qn ?_ _|refine qd ?_|refine qa ?_ _));exact BK125.out)):gb127 ≠ gb125));have n8_:=am ((by rw [hg];exact Nat.ne_of_lt (blk_lt (g:=gb126) (o:=.cells #[.slice none 0 0] 43 (0,0)) (by (with_reducible repeat (first|refine qn ?_ _|refine qd ?_|refine qa ?_ _));exact BK126.out)):gb126 ≠ gb127));have n9_:=am ((by rw [hg];exact Nat.ne_of_gt (blk_lt (g:=gb126) (o:=.cells #[.slice none 0 0] 43 (0,0)) (by (with_reducible repeat (first|refine qn ?_ _|refine qd ?_|refine qa ?_ _));exact BK126.out)):gb127 ≠ gb126));clear BK125;clear BK126;clear HB;have BK125:=n0_;have BK126:=n1_;have HB:=n2_;have BK127:=n3_;have GW127:=n4_;have GE127:=n5_;have NB125_127:=n6_;have NB127_125:=n7_;have NB126_127:=n8_;have NB127_126:=n9_;clear n0_ n1_ n2_ n3_ n4_ n5_ n6_ n7_ n8_ n9_;clear hb hbox hg;have hnb5:=NB127_125.out;have hnc5:=NB125_127.out;have hnb6:=NB127_126.out;have hnc6:=NB126_127.out;have hcz7_0:w4.cell? ⟨gb127,0,none⟩=some (.slice none 0 0):=(blk_cell BK127.out 0).trans rfl;have hfz7_0:=blk_frozen BK127.out 0;have hnb8:=NB125_126.out;have hnc8:=NB126_125.out;have hcz9_0:w4.cell? ⟨gb125,0,none⟩=some (.slice A0_0 l0_0.length c0_0):=(blk_cell BK125.out 0).trans rfl;have hfz9_0:=blk_frozen BK125.out 0))
 go_loopg [10] k (fun kq v10 w'=>∃ (x10_1:Int) (x128000_1:List (List Int)) (u128000:Value),v10 = .int .i64 x10_1∧Aside0 (spec_l2Own.l0 kq l0_0 (l0_0.length:Int) x10_1 x128000_1=some r)∧Aside0 (kq≤k)∧Aside0 (Kd.S (Kd.slice 5 (Kd.int .u8)) 57 w' w.heap.size (fun _=>True) u128000 x128000_1)∧Aside0 (w'.heap[gb125]? = some (.cells #[(.slice A0_0 l0_0.length c0_0)] 43 (0,0)))∧Aside0 (w'.heap[gb126]? = some (.cells #[(.slice none 0 0)] 43 (0,0)))∧Aside0 (w'.heap[gb127]? = some (.cells #[u128000] 43 (0,0)))∧Aside0 (Below w.heap.size w w'))
 case atStart=>exact ⟨(0),(([]:List (List Int))),(.slice none 0 0),d2,H',⟨Nat.le_refl _⟩,⟨d51⟩,⟨by (with_reducible repeat (first|refine qn ?_ _|refine qd ?_|refine qa ?_ _));refine blk_far ?_ NB125_127.out _;(with_reducible repeat (first|refine qn ?_ _|refine qd ?_|refine qa ?_ _));exact BK125.out⟩,⟨by (with_reducible repeat (first|refine qn ?_ _|refine qd ?_|refine qa ?_ _));refine blk_far ?_ NB126_127.out _;(with_reducible repeat (first|refine qn ?_ _|refine qd ?_|refine qa ?_ _));exact BK126.out⟩,⟨by (with_reducible repeat (first|refine qn ?_ _|refine qd ?_|refine qa ?_ _));refine blk_put (cs:=#[.slice none 0 0]) ?_ 0 _ rfl;(with_reducible repeat (first|refine qn ?_ _|refine qd ?_|refine qa ?_ _));exact BK127.out⟩,⟨by repeat (first|(with_reducible first|exact HB.out|apply pa|apply pb|apply pd|refine pt ?_ GE125.out|refine pt ?_ GE126.out|refine pt ?_ GE127.out)|exact HB.out)⟩⟩
 case round =>
  clear H'
  try clear c2
  try clear p2
  try clear c5
  try clear c6
  try clear c8
  try clear hcz7_0
  try clear hcz9_0
  try clear hfz7_0
  try clear hfz9_0
  obtain ⟨x10_1,x128000_1,u128000,rfl,HA,HK1,HO_128000,BK125,BK126,BK127,HB⟩:=hrel
  cases gk with
  | zero=>exact absurd HA.out (by simp [spec_l2Own.l0])
  | succ k1 =>
   have H:=HA.out
   clear HA
   simp only [spec_l2Own.l0] at H
   by_cases c10:x10_1 < (l0_0.length:Int)
   ·rw [if_pos c10] at H
    have c10b0:decide (x10_1 < (l0_0.length:Int))=true:=decide_eq_true c10
    clear c10
    by_cases c11:0≤x10_1
    ·rw [if_pos c11] at H
     have c11b0:decide (0≤x10_1)=true:=decide_eq_true c11
     clear c11
     by_cases c12:x10_1 < (l0_0.length:Int)
     ·rw [if_pos c12] at H
      have c12b0:decide (x10_1 < (l0_0.length:Int))=true:=decide_eq_true c12
      clear c12
      obtain ⟨y129,hy129⟩:∃ y_:List Int,y_=(([]:List Int)):=⟨_,rfl⟩
      replace H:(if y129.length+(rd_L2 l0_0 x10_1).length < 140737488355328 then (if x128000_1.length < 5864062014805 then (spec_l2Own.l0 k1 l0_0 (l0_0.length:Int) (wrap64 (x10_1+1)) (x128000_1 ++ [(y129 ++ (rd_L2 l0_0 x10_1))])) else (none)) else (none))=some r:=by first|(rw [hy129];with_reducible exact H)|(have H2_:=(Option.bind_some _ _).symm.trans H;rw [hy129];with_reducible exact H2_)|(have H2_:=(Option.bind_some _ _).symm.trans H;with_reducible exact H2_)|with_reducible exact H|(rw [hy129];exact H)|exact H
      have Ny129:=am hy129
      clear hy129
      by_cases c13:y129.length+(rd_L2 l0_0 x10_1).length < 140737488355328
      ·rw [if_pos c13] at H
       have LMc13:=am c13
       clear c13
       obtain ⟨y132,hy132⟩:∃ y_:List Int,y_=(y129 ++ (rd_L2 l0_0 x10_1)):=⟨_,rfl⟩
       replace H:(if x128000_1.length < 5864062014805 then (spec_l2Own.l0 k1 l0_0 (l0_0.length:Int) (wrap64 (x10_1+1)) (x128000_1 ++ [y132])) else (none))=some r:=by first|(rw [hy132];with_reducible exact H)|(have H2_:=(Option.bind_some _ _).symm.trans H;rw [hy132];with_reducible exact H2_)|(have H2_:=(Option.bind_some _ _).symm.trans H;with_reducible exact H2_)|with_reducible exact H|(rw [hy132];exact H)|exact H
       have Ny132:=am hy132
       clear hy132
       by_cases c14:x128000_1.length < 5864062014805
       ·rw [if_pos c14] at H
        have LMc14:=am c14
        clear c14
        obtain ⟨y135,hy135⟩:∃ y_:List (List Int),y_=(x128000_1 ++ [y132]):=⟨_,rfl⟩
        replace H:(spec_l2Own.l0 k1 l0_0 (l0_0.length:Int) (wrap64 (x10_1+1)) y135)=some r:=by first|(rw [hy135];with_reducible exact H)|(have H2_:=(Option.bind_some _ _).symm.trans H;rw [hy135];with_reducible exact H2_)|(have H2_:=(Option.bind_some _ _).symm.trans H;with_reducible exact H2_)|with_reducible exact H|(rw [hy135];exact H)|exact H
        have Ny135:=am hy135
        clear hy135
        have H':=am H
        clear H
        have p128:0≤(x10_1:Int):=od d1
        have q128:x10_1 < (l0_0.length:Int):=od d1
        obtain ⟨ad128,A128_0,c128_0,e128,hx128_0,hl128_0,hi128_0⟩:=at_L2 HR0_0.out x10_1 p128 q128
        cases e128
        replace hx128_0:=(HB.out.cell (World.block_lt_of_cell? w _ hx128_0)).trans hx128_0
        have HR128_0:=am hi128_0
        have HC128_0:=am hl128_0
        clear hi128_0 hl128_0
        replace p128:=eq_true p128
        replace q128:=eq_true q128
        try go_wp2
        have n0_:=am (Kd.S_drew HO_128000.out)
        have n1_:=am (qd BK125.out)
        have n2_:=am (qd BK126.out)
        have n3_:=am (qd BK127.out)
        have n4_:=am (pd HB.out)
        clear HO_128000
        clear BK125
        clear BK126
        clear BK127
        clear HB
        have HO_128000:=n0_
        have BK125:=n1_
        have BK126:=n2_
        have BK127:=n3_
        have HB:=n4_
        clear n0_ n1_ n2_ n3_ n4_
        refine rS (n:=9) (S:=fun w'=>w'.cell? ⟨gb127,0,none⟩=some (u128000)) (ds:=[8]) [(0,14),(3,17),(1,15),(2,0),(4,0),(5,0),(6,0),(7,21),(8,0)] d3 rfl spec_l2Own.tab5 spec_l2Own.bits5 ((blk_cell BK127.out 0).trans rfl) (fun hHeld HT_ HW_=>?_)
        generalize wr.drew=w15 at HO_128000 BK125 BK126 BK127 HB hHeld ⊢
        refine rR ?_
        refine rO (N:=some 16) HT_ rfl rfl d3 d11 (fun K hK=>?_)
        refine Kd.R_lit_step (Kd.int .u8) _ 5 ?hg (N:=16) ?hd (xs:=([]:List Int)) (inner:=[]) (ok:=fun _=>True) (okp:=fun _=>True) ?hr ?hp (fun _ hk=>hk) trivial (Below.refl _ _) (Nat.le_refl _) d20 ?_;(case hd=>rfl);(case hg=>rfl);(case hr=>first|(go_simp;done)|(go_simp;rfl));(case hp=>exact (Reps.none _ _))
        intro v130 w16 ho17 hb hg_ hnew_
        clear hg_ hnew_
        (first|rw [← Ny129.out] at ho17|(simp only [Int.reduceToNat] at ho17;rw [← Ny129.out] at ho17))
        have n0_:=am (Kd.S_elder' (by (with_reducible repeat (first|apply Kd.S_alloc|apply Kd.S_drewN|apply Kd.S_drew));exact HO_128000.out) (Kd.R_base ho17) hb)
        have n1_:=am (Kd.R_lower ho17 (pz (by repeat (first|(with_reducible first|exact HB.out|apply pa|apply pb|apply pd|refine pt ?_ GE125.out|refine pt ?_ GE126.out|refine pt ?_ GE127.out)|exact HB.out))))
        have n2_:=am (qb (g:=gb125) (o:=.cells #[.slice (some ad128) l0_0.length c0_0] 43 (0,0)) (by (with_reducible repeat (first|refine qn ?_ _|refine qd ?_|refine qa ?_ _));exact BK125.out) hb)
        have n3_:=am (qb (g:=gb126) (o:=.cells #[.slice none 0 0] 43 (0,0)) (by (with_reducible repeat (first|refine qn ?_ _|refine qd ?_|refine qa ?_ _));exact BK126.out) hb)
        have n4_:=am (qb (g:=gb127) (o:=.cells #[u128000] 43 (0,0)) (by (with_reducible repeat (first|refine qn ?_ _|refine qd ?_|refine qa ?_ _));exact BK127.out) hb)
        have n5_:=am (pu (by repeat (first|(with_reducible first|exact HB.out|apply pa|apply pb|apply pd|refine pt ?_ GE125.out|refine pt ?_ GE126.out|refine pt ?_ GE127.out)|exact HB.out)) hb)
        clear HO_128000
        clear BK125
        clear BK126
        clear BK127
        clear HB
        have HO_128000:=n0_
        have HO131:=n1_
        have BK125:=n2_
        have BK126:=n3_
        have BK127:=n4_
        have HB:=n5_
        clear n0_ n1_ n2_ n3_ n4_ n5_
        clear hb ho17
        refine hK.out _ _ ((blk_cell BK127.out 0).trans rfl) (fun hHeld=>?_)
        clear hK K
        refine rN (a':=?_) ?_ ?_
        rotate_left
        ·show Act.put _ (some 16) _=_
         simp only [Act.put,q1,q2,q3,i64_w,i32_w]
         rfl
        refine rO (N:=some 18) HT_ rfl rfl d3 d11 (fun K hK=>?_)
        refine Kd.R_append_rows_step (Kd.int .u8) (w0:=w) w.heap.size d18 (.tmp 16) (.tmp 17) 57 5 (.int .u8 0) 1 rfl Try.underlying57 info5 rfl d11 d10 v130 y129 (rd_L2 l0_0 x10_1) _ _ _ (fun _=>True) (fun _=>False) rfl rfl ?aO ?aR (fun _ _ h=>h) (fun _ h=>h.elim) ?aF ?aB ?aS ?aL ?_
        (case aR=>repeat (first|exact (Kd.C_below HR128_0.out HB.out)|(with_reducible refine Kd.C_alloc ?_ _)|(with_reducible refine Kd.C_drewN ?_ _)|(with_reducible refine Kd.C_drew ?_)))
        (case aB=>exact (by repeat (first|(with_reducible first|exact HB.out|apply pa|apply pb|apply pd|refine pt ?_ GE125.out|refine pt ?_ GE126.out|refine pt ?_ GE127.out)|exact HB.out)))
        (case aF=>exact (fun _ _=>trivial))
        (case aO=>exact (by (with_reducible repeat (first|apply Kd.R_alloc|apply Kd.R_drewN|apply Kd.R_drew));exact HO131.out))
        (case aS=>exact (pz (by repeat (first|(with_reducible first|exact HB.out|apply pa|apply pb|apply pd|refine pt ?_ GE125.out|refine pt ?_ GE126.out|refine pt ?_ GE127.out)|exact HB.out))))
        (case aL=>have:=LMc13.out;omega)
        intro v133 w18 ho hb hg hat
        rw [← Ny132.out] at ho
        have n0_:=am (Kd.S_after (ok:=(fun _=>True)) (by (with_reducible repeat (first|apply Kd.S_alloc|apply Kd.S_drewN|apply Kd.S_drew));exact HO_128000.out) hg hat)
        have n1_:=am (blk_grown (g:=gb125) (o:=.cells #[.slice (some ad128) l0_0.length c0_0] 43 (0,0)) (by (with_reducible repeat (first|refine qn ?_ _|refine qd ?_|refine qa ?_ _));exact BK125.out) hg (Kd.R_ne HO131.out BK125.out d11))
        have n2_:=am (blk_grown (g:=gb126) (o:=.cells #[.slice none 0 0] 43 (0,0)) (by (with_reducible repeat (first|refine qn ?_ _|refine qd ?_|refine qa ?_ _));exact BK126.out) hg (Kd.R_ne HO131.out BK126.out d11))
        have n3_:=am (blk_grown (g:=gb127) (o:=.cells #[u128000] 43 (0,0)) (by (with_reducible repeat (first|refine qn ?_ _|refine qd ?_|refine qa ?_ _));exact BK127.out) hg (Kd.R_ne HO131.out BK127.out d11))
        have n4_:=am (hb)
        have n5_:=am (ho)
        clear HO_128000
        clear BK125
        clear BK126
        clear BK127
        clear HB
        clear HO131
        have HO_128000:=n0_
        have BK125:=n1_
        have BK126:=n2_
        have BK127:=n3_
        have HB:=n4_
        have HO134:=n5_
        clear n0_ n1_ n2_ n3_ n4_ n5_
        clear ho hb hg hat
        obtain ⟨Ao20,co20,eo20⟩:=Kd.R_slice HO134.out
        (first|subst eo20|(injection eo20 with f1_ f2_ f3_;have f4_:=f1_.symm;have f5_:=f3_.symm;clear f1_ f2_ f3_;subst f4_;subst f5_))
        refine hK.out _ _ ((blk_cell BK127.out 0).trans rfl) (fun hHeld=>?_)
        clear hK K
        refine rN (a':=?_) ?_ ?_
        rotate_left
        ·show Act.put _ (some 18) _=_
         simp only [Act.put,q1,q2,q3,i64_w,i32_w]
         rfl
        refine rO (N:=some 19) HT_ rfl rfl d3 d11 (fun K hK=>?_)
        refine value_ (w1:=?_) (v:=?_) d18 rfl ?_ ?_
        rotate_left 2
        ·go_simp
         constructor
         ·rfl
         rfl
        refine hK.out _ _ ((blk_cell (qa BK127.out _) 0).trans rfl) (fun hHeld=>?_)
        clear hK K
        refine rN (a':=?_) ?_ ?_
        rotate_left
        ·show Act.put _ (some 19) _=_
         simp only [Act.put,q1,q2,q3,i64_w,i32_w]
         rfl
        refine rO (N:=some 20) HT_ rfl rfl d3 d11 (fun K hK=>?_)
        refine Kd.S_append_step (Kd.slice 5 (Kd.int .u8)) (w0:=w) w.heap.size d18 (.tmp 15) (.tmp 19) 37 57 (.slice none 0 0) 24 rfl Try.underlying37 info57 rfl d11 d10 u128000 x128000_1 y132 [.slice Ao20 y132.length co20] (fun _=>True) (fun k_=>some k_=(.slice Ao20 y132.length co20:Value).ownBlock) rfl rfl ?aP (fun k_ hk_=>((Kd.R_mono (ok':=fun k_=>((fun _=>True)) k_∧some k_ ≠ (u128000:Value).ownBlock) (Kd.R_apart' (HO134.out) (Kd.S_typed HO_128000.out) d11) (fun k_ hk=>⟨trivial,hk.2⟩))).1 k_ hk_.symm) ?aF ?aO ?aB ?aS ?aL ?_
        (case aP=>exact Kd.M_row (Kd.R_mono (Kd.R_tight rfl (Kd.R_mono (ok':=fun k_=>((fun _=>True)) k_∧some k_ ≠ (u128000:Value).ownBlock) (Kd.R_apart' (HO134.out) (Kd.S_typed HO_128000.out) d11) (fun k_ hk=>⟨trivial,hk.2⟩))) (fun _ h_=>h_)))
        (case aB=>exact (by repeat (first|(with_reducible first|exact HB.out|apply pa|apply pb|apply pd|refine pt ?_ GE125.out|refine pt ?_ GE126.out|refine pt ?_ GE127.out)|exact HB.out)))
        (case aF=>exact (fun _ _=>trivial))
        (case aO=>exact (by (with_reducible repeat (first|apply Kd.S_alloc|apply Kd.S_drewN|apply Kd.S_drew));exact Kd.S_mono HO_128000.out (fun k_ hk=>⟨trivial,fun e_=>hk.2 e_⟩)))
        (case aS=>exact (pz (by repeat (first|(with_reducible first|exact HB.out|apply pa|apply pb|apply pd|refine pt ?_ GE125.out|refine pt ?_ GE126.out|refine pt ?_ GE127.out)|exact HB.out))))
        (case aL=>have:=LMc14.out;omega)
        intro v136 w19 ho hb hg hat
        rw [← Ny135.out] at ho
        have n0_:=am (blk_grown (g:=gb125) (o:=.cells #[.slice (some ad128) l0_0.length c0_0] 43 (0,0)) (by (with_reducible repeat (first|refine qn ?_ _|refine qd ?_|refine qa ?_ _));exact BK125.out) hg (Kd.S_ne HO_128000.out BK125.out d11))
        have n1_:=am (blk_grown (g:=gb126) (o:=.cells #[.slice none 0 0] 43 (0,0)) (by (with_reducible repeat (first|refine qn ?_ _|refine qd ?_|refine qa ?_ _));exact BK126.out) hg (Kd.S_ne HO_128000.out BK126.out d11))
        have n2_:=am (blk_grown (g:=gb127) (o:=.cells #[u128000] 43 (0,0)) (by (with_reducible repeat (first|refine qn ?_ _|refine qd ?_|refine qa ?_ _));exact BK127.out) hg (Kd.S_ne HO_128000.out BK127.out d11))
        have n3_:=am (hb)
        have n4_:=am (ho)
        clear BK125
        clear BK126
        clear BK127
        clear HB
        clear HO_128000
        clear HO134
        have BK125:=n0_
        have BK126:=n1_
        have BK127:=n2_
        have HB:=n3_
        have HO137:=n4_
        clear n0_ n1_ n2_ n3_ n4_
        clear ho hb hg hat
        obtain ⟨Ao21,co21,eo21⟩:=Kd.S_slice HO137.out
        (first|subst eo21|(injection eo21 with f1_ f2_ f3_;have f4_:=f1_.symm;have f5_:=f3_.symm;clear f1_ f2_ f3_;subst f4_;subst f5_))
        refine hK.out _ _ ((blk_cell BK127.out 0).trans rfl) (fun hHeld=>?_)
        clear hK K
        refine rN (a':=?_) ?_ ?_
        rotate_left
        ·show Act.put _ (some 20) _=_
         simp only [Act.put,q1,q2,q3,i64_w,i32_w]
         rfl
        refine rR ?_
        refine rL (N:=none) HT_ rfl rfl d3 d11 (fun K hK=>?_)
        have hs22:w19.cell? ⟨gb127,0,none⟩=some (u128000):=(blk_cell BK127.out 0).trans rfl
        have hfs22:=blk_frozen BK127.out 0
        have hns22_0:=NB125_127.out
        have hns22_1:=NB126_127.out
        have hms22_0:=NB127_125.out
        have hms22_1:=NB127_126.out
        refine skip_ (w1:=?_) d18 rfl ?_ ?_
        rotate_left
        ·go_simp
         rfl
        refine hK.out _ _ ?_
        clear hK K
        refine rD HT_ d3 ?_
        try go_wp2
        go_roundg k1
        case measure=>have:=HK1.out;omega
        case rel=>exact ⟨(wrap64 (x10_1+1)),(y135),(.slice Ao21 y135.length co21),d2,H',⟨d30⟩,⟨by (with_reducible repeat (first|apply Kd.S_alloc|apply Kd.S_drewN|apply Kd.S_drew));exact Kd.S_mono (Kd.S_far (p:=⟨gb127,0,none⟩) (Kd.S_types HO137.out BK127.out d11) (fun _ hk=>hk.2) (.slice Ao21 y135.length co21)) (fun _ hk=>trivial)⟩,⟨by (with_reducible repeat (first|refine qn ?_ _|refine qd ?_|refine qa ?_ _));refine blk_far ?_ NB125_127.out _;(with_reducible repeat (first|refine qn ?_ _|refine qd ?_|refine qa ?_ _));exact BK125.out⟩,⟨by (with_reducible repeat (first|refine qn ?_ _|refine qd ?_|refine qa ?_ _));refine blk_far ?_ NB126_127.out _;(with_reducible repeat (first|refine qn ?_ _|refine qd ?_|refine qa ?_ _));exact BK126.out⟩,⟨by (with_reducible repeat (first|refine qn ?_ _|refine qd ?_|refine qa ?_ _));refine blk_put (cs:=#[u128000]) ?_ 0 _ rfl;(with_reducible repeat (first|refine qn ?_ _|refine qd ?_|refine qa ?_ _));exact BK127.out⟩,⟨by repeat (first|(with_reducible first|exact HB.out|apply pa|apply pb|apply pd|refine pt ?_ GE125.out|refine pt ?_ GE126.out|refine pt ?_ GE127.out)|exact HB.out)⟩⟩
       rw [if_neg c14] at H
       exact absurd H d20
      rw [if_neg c13] at H
      exact absurd H d20
     rw [if_neg c12] at H
     exact absurd H d20
    rw [if_neg c11] at H
    exact absurd H d20
   rw [if_neg c10] at H
   have c10b0:decide (x10_1 < (l0_0.length:Int))=false:=decide_eq_false c10
   clear c10
   obtain rfl:=Option.some.inj H
   have hnb23:=NB127_125.out
   have hnc23:=NB125_127.out
   have hnb24:=NB127_126.out
   have hnc24:=NB126_127.out
   have hcz25_0:wr.cell? ⟨gb127,0,none⟩=some (u128000):=(blk_cell BK127.out 0).trans rfl
   have hfz25_0:=blk_frozen BK127.out 0
   obtain ⟨Ao26,co26,eo26⟩:=Kd.S_slice HO_128000.out
   subst eo26
   have hnb27:=NB126_125.out
   have hnc27:=NB125_126.out
   have hcz28_0:wr.cell? ⟨gb126,0,none⟩=some (.slice none 0 0):=(blk_cell BK126.out 0).trans rfl
   have hfz28_0:=blk_frozen BK126.out 0
   go_wp2
   refine bodyPost_ret (results_cell_row rfl _ _ gb126 43 #[.slice Ao26 x128000_1.length co26] (0,0) _ rfl (by (with_reducible repeat (first|refine qn ?_ _|refine qd ?_|refine qa ?_ _));refine blk_put (cs:=#[.slice none 0 0]) ?_ 0 _ rfl;(with_reducible repeat (first|refine qn ?_ _|refine qd ?_|refine qa ?_ _));exact BK126.out) Try.underlying43 rfl d3) rfl ?_
   exact ⟨_,d4,by (with_reducible repeat (first|apply Kd.S_alloc|apply Kd.S_drewN|apply Kd.S_drew));exact Kd.S_mono (Kd.S_far (p:=⟨gb126,0,none⟩) (Kd.S_types HO_128000.out BK126.out d11) (fun _ hk=>hk.2) (.slice Ao26 x128000_1.length co26)) (fun _ hk=>trivial),by repeat (first|(with_reducible first|exact HB.out|apply pa|apply pb|apply pd|refine pt ?_ GE125.out|refine pt ?_ GE126.out|refine pt ?_ GE127.out)|exact HB.out)⟩

end Go.Proofs.Ytajikfnpcobnpaa.PFnExactDecodeMsr
-- HALVED
-- SQUEEZED
-- SQUEEZED2
-- SQUEEZED3
-- SQUEEZED4
-- SQUEEZED5
-- SQUEEZED6
