-- Laid by a program of this session.
import Derived.Test.YtajikfnpcobnpaaPFnExactCheckShardsx0
namespace Go.Proofs.Ytajikfnpcobnpaa.PFnExactCheckShards
open Go.RowKit Go.Proofs.YtajikfnpcobnpaaW.PrintWords Go.Proofs.YtajikfnpcobnpaaW.PrintLast Go.Proofs.YtajikfnpcobnpaaW.PrintMore
attribute [local go_sem] max2_int min2_int max_two min_two max_three min_three max_four min_four   -- for this text's walks alone
set_option linter.unusedVariables false
set_option maxHeartbeats 8000000
set_option maxRecDepth 100000
set_option linter.unusedSimpArgs false

def spec_l1Times.l0:Nat→Int→Int→Int→Option (Int)
 | 0,_,_,_=>none
 | k+1,x5,x6,x7=>if x7 > 0 then (if (Go.bits .and .i64 x7 1)=1 then (if (wrap64 (x6*2)) > 255 then (spec_l1Times.l0 k (Go.bits .xor .i64 x5 x6) (Go.bits .xor .i64 (wrap64 (x6*2)) 283) (x7 / 2)) else (spec_l1Times.l0 k (Go.bits .xor .i64 x5 x6) (wrap64 (x6*2)) (x7 / 2))) else (if (wrap64 (x6*2)) > 255 then (spec_l1Times.l0 k x5 (Go.bits .xor .i64 (wrap64 (x6*2)) 283) (x7 / 2)) else (spec_l1Times.l0 k x5 (wrap64 (x6*2)) (x7 / 2)))) else (some ((x5) % 256))
def spec_l1Times.f (k:Nat) (a0:Int) (a1:Int):Option (Int):=spec_l1Times.l0 k 0 (wrap64 (a0)) (wrap64 (a1))
theorem spec_l1Times.mono_l:∀ k,(∀ y0 y1 y2,LeO (spec_l1Times.l0 k y0 y1 y2) (spec_l1Times.l0 (k+1) y0 y1 y2))
 | 0=>fun _ _ _ r h=>by simp [spec_l1Times.l0] at h
 | k+1=>by
  have ih0:=spec_l1Times.mono_l k
  intro y0 y1 y2
  unfold spec_l1Times.l0
  repeat' first
  | (with_reducible exact ih0 _ _ _)
  |(with_reducible exact LeO.refl _)|(with_reducible exact LeO.none _)|(with_reducible refine LeO.ite ?_ ?_)|(with_reducible refine LeO.bind ?_ (fun _=>?_))|exact ih0 _ _ _|exact LeO.none _|refine LeO.ite ?_ ?_|refine LeO.bind ?_ (fun _=>?_)
theorem spec_l1Times.mono:∀ a0 a1 k,LeO (spec_l1Times.f k a0 a1) (spec_l1Times.f (k+1) a0 a1):=by
 intro a0 a1 k
 have ih0:=spec_l1Times.mono_l k
 unfold spec_l1Times.f
 repeat' first
   | (with_reducible exact ih0 _ _ _)
   |(with_reducible exact LeO.refl _)|(with_reducible exact LeO.none _)|(with_reducible refine LeO.ite ?_ ?_)|(with_reducible refine LeO.bind ?_ (fun _=>?_))|exact ih0 _ _ _|exact LeO.none _|refine LeO.ite ?_ ?_|refine LeO.bind ?_ (fun _=>?_)
theorem spec_l1Times.calls (k:Nat) (a0:Int) (a1:Int) (r:Int) (w:World) (h:spec_l1Times.f k a0 a1=some r) :
  Calls Try.prog 174 #[.int .u8 a0, .int .u8 a1] w fun e w'=>e = .returned (.int .u8 r)∧Drawn0 w w':=by
 have H:(spec_l1Times.l0 k 0 (wrap64 (a0)) (wrap64 (a1)))=some r:=h
 clear h
 have H':=am H
 clear H
 go_enter Try.func174,Try.ntmps174
 go_wp2
 go_loopg [5,6,7] k (fun kq v5 v6 v7 w'=>∃ (x5_1:Int) (x6_1:Int) (x7_1:Int),v5 = .int .i64 x5_1∧v6 = .int .i64 x6_1∧v7 = .int .i64 x7_1∧Aside0 (spec_l1Times.l0 kq x5_1 x6_1 x7_1=some r)∧Aside0 (kq≤k)∧Drawn0 w w')
 case atStart=>exact ⟨(0),(wrap64 (a0)),(wrap64 (a1)),d2,d2,d2,H',⟨Nat.le_refl _⟩,d10⟩
 case round =>
  clear H'
  try clear c1
  try clear p2
  obtain ⟨x5_1,x6_1,x7_1,rfl,rfl,rfl,HA,HK1,⟨m1,rfl⟩⟩:=hrel
  cases gk with
  | zero=>exact absurd HA.out (by simp [spec_l1Times.l0])
  | succ k1 =>
   have H:=HA.out
   clear HA
   simp only [spec_l1Times.l0] at H
   by_cases c3:x7_1 > 0
   ·rw [if_pos c3] at H
    have c3b0:decide (0 < x7_1)=true:=decide_eq_true c3
    clear c3
    by_cases c4:(Go.bits .and .i64 x7_1 1)=1
    ·rw [if_pos c4] at H
     have c4b0:((Go.bits .and .i64 x7_1 1) == 1)=true:=beq_iff_eq.mpr c4
     have c4b1:((Go.bits .and .i64 x7_1 1) != 1)=false:=bne_eq_false_iff_eq.mpr c4
     clear c4
     by_cases c5:(wrap64 (x6_1*2)) > 255
     ·rw [if_pos c5] at H
      have c5b0:decide (255 < (wrap64 (x6_1*2)))=true:=decide_eq_true c5
      clear c5
      have H':=am H
      clear H
      go_wp2
      go_roundg k1
      case measure=>have:=HK1.out;omega
      case rel=>exact ⟨(Go.bits .xor .i64 x5_1 x6_1),(Go.bits .xor .i64 (wrap64 (x6_1*2)) 283),(x7_1 / 2),d2,d2,d2,H',⟨d26⟩,d10⟩
     rw [if_neg c5] at H
     have c5b0:decide (255 < (wrap64 (x6_1*2)))=false:=decide_eq_false c5
     clear c5
     have H':=am H
     clear H
     go_wp2
     go_roundg k1
     case measure=>have:=HK1.out;omega
     case rel=>exact ⟨(Go.bits .xor .i64 x5_1 x6_1),(wrap64 (x6_1*2)),(x7_1 / 2),d2,d2,d2,H',⟨d26⟩,d10⟩
    rw [if_neg c4] at H
    have c4b0:((Go.bits .and .i64 x7_1 1) == 1)=false:=beq_eq_false_iff_ne.mpr c4
    have c4b1:((Go.bits .and .i64 x7_1 1) != 1)=true:=bne_iff_ne.mpr c4
    by_cases c6:(wrap64 (x6_1*2)) > 255
    ·rw [if_pos c6] at H
     have c6b0:decide (255 < (wrap64 (x6_1*2)))=true:=decide_eq_true c6
     clear c6
     have H':=am H
     clear H
     go_wp2
     go_roundg k1
     case measure=>have:=HK1.out;omega
     case rel=>exact ⟨(x5_1),(Go.bits .xor .i64 (wrap64 (x6_1*2)) 283),(x7_1 / 2),d2,d2,d2,H',⟨d26⟩,d10⟩
    rw [if_neg c6] at H
    have c6b0:decide (255 < (wrap64 (x6_1*2)))=false:=decide_eq_false c6
    clear c6
    have H':=am H
    clear H
    go_wp2
    go_roundg k1
    case measure=>have:=HK1.out;omega
    case rel=>exact ⟨(x5_1),(wrap64 (x6_1*2)),(x7_1 / 2),d2,d2,d2,H',⟨d26⟩,d10⟩
   rw [if_neg c3] at H
   have c3b0:decide (0 < x7_1)=false:=decide_eq_false c3
   clear c3
   obtain rfl:=Option.some.inj H
   go_wp2
   go_ret
   exact ⟨d2,d10⟩

mutual
def spec_l3Rows.l0:Nat→List ByteArray→List ByteArray→List (List Int)→Int→Int→Option (List ByteArray)
 | 0,_,_,_,_,_=>none
 | k+1,x1,x5,x13,x14,x15=>if x15 < x14 then (if 0≤x15 then (if x15 < (x13.length:Int) then (if 0 < (x1.length:Int) then (if 0≤((rdOf ByteArray.empty x1 0).size:Int) then (if (((rdOf ByteArray.empty x1 0).size:Int):Int).toNat≤281474976710656 then (spec_l3Rows.l1 k x1 x5 (List.replicate (((rdOf ByteArray.empty x1 0).size:Int):Int).toNat 0) x13 x14 x15 (rd_L5 x13 x15) ((rd_L5 x13 x15).length:Int) 0) else (none)) else (none)) else (none)) else (none)) else (none)) else (some x5)
def spec_l3Rows.l1:Nat→List ByteArray→List ByteArray→List Int→List (List Int)→Int→Int→List Int→Int→Int→Option (List ByteArray)
 | 0,_,_,_,_,_,_,_,_,_=>none
 | k+1,x1,x5,x8,x13,x14,x15,x24,x25,x26=>if x26 < x25 then (if 0≤x26 then (if x26 < (x24.length:Int) then (spec_l3Rows.l2 k x1 x5 x8 x26 (rd x24 x26) x13 x14 x15 x24 x25 x26 (x8.length:Int) 0) else (none)) else (none)) else (if x5.length < 8796093022208 then (spec_l3Rows.l0 k x1 (x5 ++ [strOfNums x8]) x13 x14 (wrap64 (x15+1))) else (none))
def spec_l3Rows.l2:Nat→List ByteArray→List ByteArray→List Int→Int→Int→List (List Int)→Int→Int→List Int→Int→Int→Int→Int→Option (List ByteArray)
 | 0,_,_,_,_,_,_,_,_,_,_,_,_,_=>none
 | k+1,x1,x5,x8,x9,x10,x13,x14,x15,x24,x25,x26,x32,x33=>if x33 < x32 then (if 0≤x33 then (if x33 < (x8.length:Int) then (if 0≤x9 then (if x9 < (x1.length:Int) then (if x33 < ((rdOf ByteArray.empty x1 x9).size:Int) then ((spec_l1Times.f k x10 (bt (rdOf ByteArray.empty x1 x9) x33)).bind fun t142=>(spec_l3Rows.l2 k x1 x5 (x8.set (x33:Int).toNat (Go.bits .xor .u8 (rd x8 x33) t142)) x9 x10 x13 x14 x15 x24 x25 x26 x32 (wrap64 (x33+1)))) else (none)) else (none)) else (none)) else (none)) else (none)) else (spec_l3Rows.l1 k x1 x5 x8 x13 x14 x15 x24 x25 (wrap64 (x26+1)))
end
def spec_l3Rows.f (k:Nat) (l0_0:List (List Int)) (l1:List ByteArray):Option (List ByteArray):=spec_l3Rows.l0 k l1 ([]:List ByteArray) l0_0 (l0_0.length:Int) 0
theorem spec_l3Rows.mono_l:∀ k,(∀ y0 y1 y2 y3 y4,LeO (spec_l3Rows.l0 k y0 y1 y2 y3 y4) (spec_l3Rows.l0 (k+1) y0 y1 y2 y3 y4))∧(∀ y0 y1 y2 y3 y4 y5 y6 y7 y8,LeO (spec_l3Rows.l1 k y0 y1 y2 y3 y4 y5 y6 y7 y8) (spec_l3Rows.l1 (k+1) y0 y1 y2 y3 y4 y5 y6 y7 y8))∧(∀ y0 y1 y2 y3 y4 y5 y6 y7 y8 y9 y10 y11 y12,LeO (spec_l3Rows.l2 k y0 y1 y2 y3 y4 y5 y6 y7 y8 y9 y10 y11 y12) (spec_l3Rows.l2 (k+1) y0 y1 y2 y3 y4 y5 y6 y7 y8 y9 y10 y11 y12))
 | 0=>⟨fun _ _ _ _ _ r h=>by simp [spec_l3Rows.l0] at h,fun _ _ _ _ _ _ _ _ _ r h=>by simp [spec_l3Rows.l1] at h,fun _ _ _ _ _ _ _ _ _ _ _ _ _ r h=>by simp [spec_l3Rows.l2] at h⟩
 | k+1=>by
  obtain ⟨ih0,ih1,ih2⟩:=spec_l3Rows.mono_l k
  refine ⟨?_,?_,?_⟩
  ·intro y0 y1 y2 y3 y4
   unfold spec_l3Rows.l0
   repeat' first
   | (with_reducible exact ih0 _ _ _ _ _)
   | (with_reducible exact ih1 _ _ _ _ _ _ _ _ _)
   | (with_reducible exact ih2 _ _ _ _ _ _ _ _ _ _ _ _ _)
   | (with_reducible exact spec_l1Times.mono _ _ _)
   |(with_reducible exact LeO.refl _)|(with_reducible exact LeO.none _)|(with_reducible refine LeO.ite ?_ ?_)|(with_reducible refine LeO.bind ?_ (fun _=>?_))|exact ih0 _ _ _ _ _|exact ih1 _ _ _ _ _ _ _ _ _|exact ih2 _ _ _ _ _ _ _ _ _ _ _ _ _|exact spec_l1Times.mono _ _ _|exact LeO.none _|refine LeO.ite ?_ ?_|refine LeO.bind ?_ (fun _=>?_)
  ·intro y0 y1 y2 y3 y4 y5 y6 y7 y8
   unfold spec_l3Rows.l1
   repeat' first
   | (with_reducible exact ih0 _ _ _ _ _)
   | (with_reducible exact ih1 _ _ _ _ _ _ _ _ _)
   | (with_reducible exact ih2 _ _ _ _ _ _ _ _ _ _ _ _ _)
   | (with_reducible exact spec_l1Times.mono _ _ _)
   |(with_reducible exact LeO.refl _)|(with_reducible exact LeO.none _)|(with_reducible refine LeO.ite ?_ ?_)|(with_reducible refine LeO.bind ?_ (fun _=>?_))|exact ih0 _ _ _ _ _|exact ih1 _ _ _ _ _ _ _ _ _|exact ih2 _ _ _ _ _ _ _ _ _ _ _ _ _|exact spec_l1Times.mono _ _ _|exact LeO.none _|refine LeO.ite ?_ ?_|refine LeO.bind ?_ (fun _=>?_)
  intro y0 y1 y2 y3 y4 y5 y6 y7 y8 y9 y10 y11 y12
  unfold spec_l3Rows.l2
  repeat' first
  | (with_reducible exact ih0 _ _ _ _ _)
  | (with_reducible exact ih1 _ _ _ _ _ _ _ _ _)
  | (with_reducible exact ih2 _ _ _ _ _ _ _ _ _ _ _ _ _)
  | (with_reducible exact spec_l1Times.mono _ _ _)
  |(with_reducible exact LeO.refl _)|(with_reducible exact LeO.none _)|(with_reducible refine LeO.ite ?_ ?_)|(with_reducible refine LeO.bind ?_ (fun _=>?_))|exact ih0 _ _ _ _ _|exact ih1 _ _ _ _ _ _ _ _ _|exact ih2 _ _ _ _ _ _ _ _ _ _ _ _ _|exact spec_l1Times.mono _ _ _|exact LeO.none _|refine LeO.ite ?_ ?_|refine LeO.bind ?_ (fun _=>?_)
theorem spec_l3Rows.mono:∀ a0 a1 k,LeO (spec_l3Rows.f k a0 a1) (spec_l3Rows.f (k+1) a0 a1):=by
 intro a0 a1 k
 obtain ⟨ih0,ih1,ih2⟩:=spec_l3Rows.mono_l k
 unfold spec_l3Rows.f
 repeat' first
   | (with_reducible exact ih0 _ _ _ _ _)
   | (with_reducible exact ih1 _ _ _ _ _ _ _ _ _)
   | (with_reducible exact ih2 _ _ _ _ _ _ _ _ _ _ _ _ _)
   | (with_reducible exact spec_l1Times.mono _ _ _)
   |(with_reducible exact LeO.refl _)|(with_reducible exact LeO.none _)|(with_reducible refine LeO.ite ?_ ?_)|(with_reducible refine LeO.bind ?_ (fun _=>?_))|exact ih0 _ _ _ _ _|exact ih1 _ _ _ _ _ _ _ _ _|exact ih2 _ _ _ _ _ _ _ _ _ _ _ _ _|exact spec_l1Times.mono _ _ _|exact LeO.none _|refine LeO.ite ?_ ?_|refine LeO.bind ?_ (fun _=>?_)
def spec_l3Rows.T12:Bool × List (List Nat × List Nat):=(true,[([],[]),([],[]),([0,1],[0,1]),([2],[2]),([],[]),([],[]),([],[]),([5,6],[5,6]),([7],[7]),([],[]),([8,9],[8,9]),([4,10],[4,10]),([3,11],[3,11]),([0,1,0,1,2,3,4,5,6,7,8,9,10,11,12],[0,1]),([13,12,11,0,1,2,3,4,5,6,7,8,9,10,11,12],[12,13])])
def spec_l3Rows.B12:List Nat:=[0,0,3,7,0,0,0,96,224,0,992,2032,4095,8191,16383]
theorem spec_l3Rows.tab12:rtab .any (opsOf Try.f89 12)=spec_l3Rows.T12:=by kernel_rfl
theorem spec_l3Rows.bits12:waitsOk spec_l3Rows.T12.2 spec_l3Rows.B12=true:=by kernel_rfl
theorem spec_l3Rows.calls (k:Nat) (A0_0:Option Addr) (c0_0:Nat) (l0_0:List (List Int)) (A1:Option Addr) (c1:Nat) (l1:List ByteArray) (r:List ByteArray) (w:World) (hr0_0:Kd.C (Kd.slice 5 (Kd.int .u8)) w A0_0 l0_0.length l0_0) (hc0_0:l0_0.length≤c0_0) (hr1:Kd.C Kd.string w A1 l1.length l1) (hc1:l1.length≤c1) (h:spec_l3Rows.f k l0_0 l1=some r) :
  Calls Try.prog 89 #[.agg #[.slice A0_0 l0_0.length c0_0], .slice A1 l1.length c1] w fun e w'=>∃ v0_:Value,e = .returned (v0_)∧Kd.R Kd.string 9 w' w.heap.size (fun _=>True) v0_ r∧Below w.heap.size w w':=by
 have hu43:=Try.underlying43
 have HR0_0:=am hr0_0
 have HC0_0:=am hc0_0
 clear hr0_0 hc0_0
 have HR1:=am hr1
 have HC1:=am hc1
 clear hr1 hc1
 have HB:=am (Below.refl w.heap.size w)
 have H:(spec_l3Rows.l0 k l1 ([]:List ByteArray) l0_0 (l0_0.length:Int) 0)=some r:=h
 clear h
 have H':=am H
 clear H
 go_enter Try.func89,Try.ntmps89
 go_wp2_with (first|((with_reducible refine gate_dst (N:=2) rfl ?_);refine box_event ?hg (N:=2) ?hd (cs:=#[.slice A0_0 l0_0.length c0_0]) (t:=43) ?hr ?_;(case hd=>rfl);(case hg=>rfl);(case hr=>first|(go_simp;done)|(go_simp;rfl));intro gb130 hg w3 hbox hb;have n0_:=am (pu d0 hb);have n1_:=am (hbox);have n2_:=am ((by rw [hg];exact (pz d0):w.heap.size≤gb130));have n3_:=n2_;clear HB;have HB:=n0_;have BK130:=n1_;have GW130:=n2_;have GE130:=n3_;clear n0_ n1_ n2_ n3_;clear hb hbox hg;have hcz4_0:w3.cell? ⟨gb130,0,none⟩=some (.slice A0_0 l0_0.length c0_0):=(blk_cell BK130.out 0).trans rfl;have hfz4_0:=blk_frozen BK130.out 0))
 go_loopg [5,15] k (fun kq v5 v15 w'=>∃ (x5_1:List ByteArray) (x15_1:Int),v15 = .int .i64 x15_1∧Aside0 (spec_l3Rows.l0 kq l1 x5_1 l0_0 (l0_0.length:Int) x15_1=some r)∧Aside0 (kq≤k)∧Aside0 (Kd.R Kd.string 9 w' w.heap.size (fun _=>True) v5 x5_1)∧Aside0 (w'.heap[gb130]? = some (.cells #[(.slice A0_0 l0_0.length c0_0)] 43 (0,0)))∧Aside0 (Below w.heap.size w w'))
 case atStart=>exact ⟨(([]:List ByteArray)),(0),d2,H',⟨Nat.le_refl _⟩,⟨d12⟩,⟨by (with_reducible repeat (first|refine qn ?_ _|refine qd ?_|refine qa ?_ _));exact BK130.out⟩,⟨by repeat (first|(with_reducible first|exact HB.out|apply pa|apply pb|apply pd|refine pt ?_ GE130.out)|exact HB.out)⟩⟩
 case round =>
  clear H'
  try clear c1
  try clear p2
  try clear hcz4_0
  try clear hfz4_0
  obtain ⟨x5_1,x15_1,rfl,HA,HK1,HO_5,BK130,HB⟩:=hrel
  cases gk with
  | zero=>exact absurd HA.out (by simp [spec_l3Rows.l0])
  | succ k1 =>
   have H:=HA.out
   clear HA
   simp only [spec_l3Rows.l0] at H
   by_cases c5:x15_1 < (l0_0.length:Int)
   ·rw [if_pos c5] at H
    have c5b0:decide (x15_1 < (l0_0.length:Int))=true:=decide_eq_true c5
    clear c5
    by_cases c6:0≤x15_1
    ·rw [if_pos c6] at H
     have c6b0:decide (0≤x15_1)=true:=decide_eq_true c6
     clear c6
     by_cases c7:x15_1 < (l0_0.length:Int)
     ·rw [if_pos c7] at H
      have c7b0:decide (x15_1 < (l0_0.length:Int))=true:=decide_eq_true c7
      clear c7
      by_cases c8:0 < (l1.length:Int)
      ·rw [if_pos c8] at H
       have c8b0:decide (0 < (l1.length:Int))=true:=decide_eq_true c8
       have c8b1:decide (0 < l1.length)=true:=decide_eq_true d6
       clear c8
       by_cases c9:0≤((rdOf ByteArray.empty l1 0).size:Int)
       ·rw [if_pos c9] at H
        have c9b0:=eq_true c9
        have c9b1:decide (0≤((rdOf ByteArray.empty l1 0).size:Int))=true:=decide_eq_true c9
        clear c9
        by_cases c10:(((rdOf ByteArray.empty l1 0).size:Int):Int).toNat≤281474976710656
        ·rw [if_pos c10] at H
         have c10b0:=eq_true c10
         have c10b1:decide ((((rdOf ByteArray.empty l1 0).size:Int):Int).toNat≤281474976710656)=true:=decide_eq_true c10
         clear c10
         obtain ⟨y133,hy133⟩:∃ y_:List Int,y_=(List.replicate (((rdOf ByteArray.empty l1 0).size:Int):Int).toNat 0):=⟨_,rfl⟩
         replace H:(spec_l3Rows.l1 k1 l1 x5_1 y133 l0_0 (l0_0.length:Int) x15_1 (rd_L5 l0_0 x15_1) ((rd_L5 l0_0 x15_1).length:Int) 0)=some r:=by first|(rw [hy133];with_reducible exact H)|(have H2_:=(Option.bind_some _ _).symm.trans H;rw [hy133];with_reducible exact H2_)|(have H2_:=(Option.bind_some _ _).symm.trans H;with_reducible exact H2_)|with_reducible exact H|(rw [hy133];exact H)|exact H
         have Ny133:=am hy133
         clear hy133
         have H':=am H
         clear H
         have p131:0≤(x15_1:Int):=od d1
         have q131:x15_1 < (l0_0.length:Int):=od d1
         obtain ⟨ad131,A131_0,c131_0,e131,hx131_0,hl131_0,hi131_0⟩:=at_L5 HR0_0.out x15_1 p131 q131
         cases e131
         replace hx131_0:=(HB.out.cell (World.block_lt_of_cell? w _ hx131_0)).trans hx131_0
         have HR131_0:=am hi131_0
         have HC131_0:=am hl131_0
         clear hi131_0 hl131_0
         replace p131:=eq_true p131
         replace q131:=eq_true q131
         have p132:0≤(0:Int):=d6
         have q132:0 < (l1.length:Int):=od d1
         obtain ⟨ad132,e132,hx132_0⟩:=Kd.at_string HR1.out 0 p132 q132
         cases e132
         have qi132:(0 < l1.length)=True:=eq_true d6
         (try rw [show ((0:Int)).toNat=0 from rfl] at hx132_0)
         (try rw [Addr.add_zero'] at hx132_0)
         replace hx132_0:=(HB.out.cell (World.block_lt_of_cell? w _ hx132_0)).trans hx132_0
         replace p132:=eq_true p132
         replace q132:=eq_true q132
         go_wp2_with (first|((with_reducible refine gate_dst (N:=23) rfl ?_);refine Kd.R_make (Kd.int .u8) _ 5 rfl (N:=23) rfl 57 _ _ rfl ((rdOf ByteArray.empty l1 0).size:Int) rfl rfl Try.underlying57 (.int .u8 0) 1 info5 rfl d11 d6 0 (ok:=fun _=>True) (okp:=fun _=>True) rfl (fun _ hk=>hk) trivial (od d1) (Nat.le_trans (Nat.mul_le_mul_right _ (od d1:((rdOf ByteArray.empty l1 0).size:Int).toNat≤281474976710656)) d6) (Below.refl _ _) (Nat.le_refl _) ?_;intro v134 w11 ho12 hb hg_ hnew_;clear hg_ hnew_;(first|rw [← Ny133.out] at ho12|(simp only [Int.reduceToNat] at ho12;rw [← Ny133.out] at ho12));have n0_:=am (Kd.R_below d7 hb);have n1_:=am (Kd.R_lower ho12 (pz (by repeat (first|(with_reducible first|exact HB.out|apply pa|apply pb|apply pd|refine pt ?_ GE130.out)|exact HB.out))));have n2_:=am (qb (g:=gb130) (o:=.cells #[.slice (some ad131) l0_0.length c0_0] 43 (0,0)) (by (with_reducible repeat (first|refine qn ?_ _|refine qd ?_|refine qa ?_ _));exact BK130.out) hb);have n3_:=am (pu (by repeat (first|(with_reducible first|exact HB.out|apply pa|apply pb|apply pd|refine pt ?_ GE130.out)|exact HB.out)) hb);clear HO_5;clear BK130;clear HB;have HO_5:=n0_;have HO135:=n1_;have BK130:=n2_;have HB:=n3_;clear n0_ n1_ n2_ n3_;clear hb ho12))
         go_loopg [26] k1 (fun kq v26 w'=>∃ (x8_2:List Int) (x26_2:Int),v26 = .int .i64 x26_2∧Aside0 (spec_l3Rows.l1 kq l1 x5_1 x8_2 l0_0 (l0_0.length:Int) x15_1 (rd_L5 l0_0 x15_1) ((rd_L5 l0_0 x15_1).length:Int) x26_2=some r)∧Aside0 (kq≤k1)∧Aside0 (Kd.R Kd.string 9 w' w.heap.size (fun _=>True) u5 x5_1)∧Aside0 (Kd.R (Kd.int .u8) 5 w' w.heap.size (fun _=>True) v134 x8_2)∧Aside0 (w'.heap[gb130]? = some (.cells #[(.slice (some ad131) l0_0.length c0_0)] 43 (0,0)))∧Aside0 (Below w.heap.size w w'))
         case atStart=>exact ⟨(y133),(0),d2,H',⟨Nat.le_refl _⟩,⟨d7⟩,⟨by (with_reducible repeat (first|apply Kd.R_alloc|apply Kd.R_drewN|apply Kd.R_drew));exact HO135.out⟩,⟨by (with_reducible repeat (first|refine qn ?_ _|refine qd ?_|refine qa ?_ _));exact BK130.out⟩,⟨by repeat (first|(with_reducible first|exact HB.out|apply pa|apply pb|apply pd|refine pt ?_ GE130.out)|exact HB.out)⟩⟩
         case round =>
          clear H'
          try clear c1
          try clear p1
          try clear q1
          try clear hx1
          try clear qi1
          try clear p2
          try clear c5
          try clear c5b0
          try clear c6
          try clear c6b0
          try clear c7
          try clear c7b0
          try clear c8
          try clear c8b0
          try clear c8b1
          try clear c9
          try clear c9b0
          try clear c9b1
          try clear c10
          try clear c10b0
          try clear c10b1
          try clear hcz4_0
          try clear hfz4_0
          try clear hx131_0
          try clear hx132_0
          try clear p131
          try clear p132
          try clear p2
          try clear q131
          try clear q132
          obtain ⟨x8_2,x26_2,rfl,HA,HK2,HO_5,HO_8,BK130,HB⟩:=hrel
          cases gk with
          | zero=>exact absurd HA.out (by simp [spec_l3Rows.l1])
          | succ k2 =>
           have H:=HA.out
           clear HA
           simp only [spec_l3Rows.l1] at H
           by_cases c13:x26_2 < ((rd_L5 l0_0 x15_1).length:Int)
           ·rw [if_pos c13] at H
            have c13b0:decide (x26_2 < ((rd_L5 l0_0 x15_1).length:Int))=true:=decide_eq_true c13
            clear c13
            by_cases c14:0≤x26_2
            ·rw [if_pos c14] at H
             have c14b0:decide (0≤x26_2)=true:=decide_eq_true c14
             clear c14
             by_cases c15:x26_2 < ((rd_L5 l0_0 x15_1).length:Int)
             ·rw [if_pos c15] at H
              have c15b0:decide (x26_2 < ((rd_L5 l0_0 x15_1).length:Int))=true:=decide_eq_true c15
              clear c15
              have H':=am H
              clear H
              have p139:0≤(x26_2:Int):=od d1
              have q139:x26_2 < ((rd_L5 l0_0 x15_1).length:Int):=od d1
              obtain ⟨ad139,e139,hx139_0⟩:=Kd.at_int HR131_0.out x26_2 p139 q139
              cases e139
              replace hx139_0:=(HB.out.cell (World.block_lt_of_cell? w _ hx139_0)).trans hx139_0
              replace p139:=eq_true p139
              replace q139:=eq_true q139
              obtain ⟨Ao16,co16,eo16⟩:=Kd.R_slice HO_8.out
              subst eo16
              go_wp2
              go_loopg [33] k2 (fun kq v33 w'=>∃ (x8_3:List Int) (x33_3:Int),v33 = .int .i64 x33_3∧Aside0 (spec_l3Rows.l2 kq l1 x5_1 x8_3 x26_2 (rd (rd_L5 l0_0 x15_1) x26_2) l0_0 (l0_0.length:Int) x15_1 (rd_L5 l0_0 x15_1) ((rd_L5 l0_0 x15_1).length:Int) x26_2 (x8_2.length:Int) x33_3=some r)∧Aside0 (kq≤k2)∧Aside0 (Kd.R Kd.string 9 w' w.heap.size (fun _=>True) u5 x5_1)∧Aside0 (Kd.R (Kd.int .u8) 5 w' w.heap.size (fun _=>True) (.slice Ao16 x8_2.length co16) x8_3)∧Aside0 (w'.heap[gb130]? = some (.cells #[(.slice (some ad131) l0_0.length c0_0)] 43 (0,0)))∧Aside0 (Below w.heap.size w w'))
              case atStart=>exact ⟨(x8_2),(0),d2,H',⟨Nat.le_refl _⟩,⟨d7⟩,⟨d8⟩,⟨by (with_reducible repeat (first|refine qn ?_ _|refine qd ?_|refine qa ?_ _));exact BK130.out⟩,⟨by repeat (first|(with_reducible first|exact HB.out|apply pa|apply pb|apply pd|refine pt ?_ GE130.out)|exact HB.out)⟩⟩
              case round =>
               clear H'
               try clear c1
               try clear p1
               try clear q1
               try clear hx1
               try clear qi1
               try clear p2
               try clear c5
               try clear c5b0
               try clear c6
               try clear c6b0
               try clear c7
               try clear c7b0
               try clear c8
               try clear c8b0
               try clear c8b1
               try clear c9
               try clear c9b0
               try clear c9b1
               try clear c10
               try clear c10b0
               try clear c10b1
               try clear c13
               try clear c13b0
               try clear p13
               try clear q13
               try clear hx13
               try clear qi13
               try clear c14
               try clear c14b0
               try clear c15
               try clear c15b0
               try clear hcz4_0
               try clear hfz4_0
               try clear hx131_0
               try clear hx132_0
               try clear hx139_0
               try clear p1
               try clear p131
               try clear p132
               try clear p139
               try clear p2
               try clear q1
               try clear q131
               try clear q132
               try clear q139
               obtain ⟨x8_3,x33_3,rfl,HA,HK3,HO_5,HO_8,BK130,HB⟩:=hrel
               have hl8_3:=(Kd.R_reads' HO_8.out).1
               rw [hl8_3] at HO_8
               (try simp only [hl8_3])
               (try simp only [hl8_3] at BK130)
               (try simp only [hl8_3] at HO_5)
               cases gk with
               | zero=>exact absurd HA.out (by simp [spec_l3Rows.l2])
               | succ k3 =>
                have H:=HA.out
                clear HA
                simp only [spec_l3Rows.l2] at H
                by_cases c17:x33_3 < (x8_2.length:Int)
                ·rw [if_pos c17] at H
                 have c17b0:decide (x33_3 < (x8_2.length:Int))=true:=decide_eq_true c17
                 clear c17
                 by_cases c18:0≤x33_3
                 ·rw [if_pos c18] at H
                  have c18b0:decide (0≤x33_3)=true:=decide_eq_true c18
                  clear c18
                  by_cases c19:x33_3 < (x8_3.length:Int)
                  ·rw [if_pos c19] at H
                   have c19b0:decide (x33_3 < (x8_3.length:Int))=true:=decide_eq_true c19
                   clear c19
                   by_cases c20:0≤x26_2
                   ·rw [if_pos c20] at H
                    have c20b0:decide (0≤x26_2)=true:=decide_eq_true c20
                    clear c20
                    by_cases c21:x26_2 < (l1.length:Int)
                    ·rw [if_pos c21] at H
                     have c21b0:decide (x26_2 < (l1.length:Int))=true:=decide_eq_true c21
                     clear c21
                     by_cases c22:x33_3 < ((rdOf ByteArray.empty l1 x26_2).size:Int)
                     ·rw [if_pos c22] at H
                      have c22b0:decide (x33_3 < ((rdOf ByteArray.empty l1 x26_2).size:Int))=true:=decide_eq_true c22
                      clear c22
                      replace H:=Option.bind_eq_some_iff.mp H
                      obtain ⟨t142,A240,H⟩:=H
                      replace H:(spec_l3Rows.l2 k3 l1 x5_1 (x8_3.set (x33_3:Int).toNat (Go.bits .xor .u8 (rd x8_3 x33_3) t142)) x26_2 (rd (rd_L5 l0_0 x15_1) x26_2) l0_0 (l0_0.length:Int) x15_1 (rd_L5 l0_0 x15_1) ((rd_L5 l0_0 x15_1).length:Int) x26_2 (x8_2.length:Int) (wrap64 (x33_3+1)))=some r:=H
                      have A24:=am A240
                      clear A240
                      obtain ⟨y143,hy143⟩:∃ y_:List Int,y_=(x8_3.set (x33_3:Int).toNat (Go.bits .xor .u8 (rd x8_3 x33_3) t142)):=⟨_,rfl⟩
                      replace H:(spec_l3Rows.l2 k3 l1 x5_1 y143 x26_2 (rd (rd_L5 l0_0 x15_1) x26_2) l0_0 (l0_0.length:Int) x15_1 (rd_L5 l0_0 x15_1) ((rd_L5 l0_0 x15_1).length:Int) x26_2 (x8_2.length:Int) (wrap64 (x33_3+1)))=some r:=by first|(rw [hy143];with_reducible exact H)|(have H2_:=(Option.bind_some _ _).symm.trans H;rw [hy143];with_reducible exact H2_)|(have H2_:=(Option.bind_some _ _).symm.trans H;with_reducible exact H2_)|with_reducible exact H|(rw [hy143];exact H)|exact H
                      have Ny143:=am hy143
                      clear hy143
                      have H':=am H
                      clear H
                      try go_wp2
                      have n0_:=am (Kd.R_drew HO_5.out)
                      have n1_:=am (Kd.R_drew HO_8.out)
                      have n2_:=am (qd BK130.out)
                      have n3_:=am (pd HB.out)
                      clear HO_5
                      clear HO_8
                      clear BK130
                      clear HB
                      have HO_5:=n0_
                      have HO_8:=n1_
                      have BK130:=n2_
                      have HB:=n3_
                      clear n0_ n1_ n2_ n3_
                      have p140:0≤(x33_3:Int):=od d1
                      have q140:x33_3 < (x8_3.length:Int):=od d1
                      obtain ⟨ad140,e140,hx140_0⟩:=Kd.at_int (Kd.R_reads' HO_8.out).2.2 x33_3 p140 q140
                      cases e140
                      replace p140:=eq_true p140
                      replace q140:=eq_true q140
                      have p141:0≤(x26_2:Int):=od d1
                      have q141:x26_2 < (l1.length:Int):=od d1
                      obtain ⟨ad141,e141,hx141_0⟩:=Kd.at_string HR1.out x26_2 p141 q141
                      have hw141_0:=hx141_0
                      obtain rfl:ad132=ad141:=(by injection e141)
                      replace hx141_0:=(HB.out.cell (World.block_lt_of_cell? w _ hx141_0)).trans hx141_0
                      replace p141:=eq_true p141
                      replace q141:=eq_true q141
                      have p23:0≤(x33_3:Int):=od d1
                      have q23:x33_3 < ((rdOf ByteArray.empty l1 x26_2).size:Int):=od d1
                      have hx23:=bt_at (rdOf ByteArray.empty l1 x26_2) x33_3
                      replace p23:=eq_true p23
                      replace q23:=eq_true q23
                      refine rS (n:=15) (S:=fun w'=>w'.cell? (ad140.add (x33_3).toNat)=some (.int .u8 (rd x8_3 x33_3))∧w'.cell? (ad132.add (x26_2).toNat)=some (.string (rdOf ByteArray.empty l1 x26_2))) (ds:=[14]) [(0,36),(1,37),(2,38),(4,40),(5,41),(6,42),(7,43),(9,45),(3,39),(8,44),(10,46),(11,0),(12,48),(13,49),(14,0)] d3 rfl spec_l3Rows.tab12 spec_l3Rows.bits12 ⟨hx140_0,((HB.out.cell (World.block_lt_of_cell? w _ hw141_0)).trans hw141_0)⟩ (fun hHeld HT_ HW_=>?_)
                      generalize wr.drew=w26 at HO_5 HO_8 BK130 HB hx140_0 hx141_0 hHeld ⊢
                      refine rR ?_
                      refine rO (N:=some 47) HT_ rfl rfl d3 d11 (fun K hK=>?_)
                      refine goes_ Try.func174 d3 rfl #[.int .u8 (rd (rd_L5 l0_0 x15_1) x26_2), .int .u8 (bt (rdOf ByteArray.empty l1 x26_2) x33_3)] d16 rfl rfl d4 ?_
                      with_reducible refine (spec_l1Times.calls k3 (rd (rd_L5 l0_0 x15_1) x26_2) (bt (rdOf ByteArray.empty l1 x26_2) x33_3) t142 _ A24.out).mono ?_
                      rintro e w' ⟨rfl,⟨nd,rfl⟩⟩
                      refine ⟨_,rfl,?_⟩
                      have p25:0≤(x33_3:Int):=od d1
                      have q25:(x33_3:Int) < ((x8_3.length:Int):Int):=od d1
                      obtain ⟨go25,co25,eo25,gb25,gl25,cl25,HG25⟩:=Kd.R_form HO_8.out d6
                      (first|cases eo25|(injection eo25 with ea_ en_ ec_;(first|subst ea_|(injection ea_ with ea_;subst ea_));subst ec_;clear en_))
                      have GB25:=am gb25
                      have GG25:=am HG25
                      clear gb25 gl25 HG25
                      (first|simp only [add_plain] at hx140_0|skip)
                      obtain ⟨hx25_0,hf25_0⟩:=Kd.R_celln 0 HO_8.out (x33_3:Int) p25 q25
                      replace p25:=eq_true p25
                      replace q25:=eq_true q25
                      have HP27:=Kd.R_putn HO_8.out (x33_3:Int) (Go.bits .xor .u8 (rd x8_3 x33_3) t142)
                      rw [← Ny143.out] at HP27
                      have HQ27:=am HP27
                      clear HP27
                      refine hK.out _ _ ⟨hHeld.1,((HB.out.cell (World.block_lt_of_cell? w _ hw141_0)).trans hw141_0)⟩ (fun hHeld=>?_)
                      clear hK K
                      refine rN (a':=?_) ?_ ?_
                      rotate_left
                      ·show Act.put _ (some 47) _=_
                       simp only [Act.put,q1,q2,q3,i64_w,i32_w]
                       rfl
                      refine rR ?_
                      refine rL (N:=none) HT_ rfl rfl d3 d11 (fun K hK=>?_)
                      refine skip_ (w1:=?_) d16 rfl ?_ ?_
                      rotate_left
                      ·go_simp
                       rfl
                      refine hK.out _ _ ?_
                      clear hK K
                      refine rD HT_ d3 ?_
                      try go_wp2
                      (try simp only [← hl8_3])
                      go_roundg k3
                      case measure=>have:=HK1.out;have:=HK2.out;have:=HK3.out;omega
                      case rel=>exact ⟨(y143),(wrap64 (x33_3+1)),d2,H',⟨by have:=HK1.out;have:=HK2.out;have:=HK3.out;omega⟩,⟨by (try simp only [hl8_3]);(with_reducible repeat (first|apply Kd.R_alloc|apply Kd.R_drewN|apply Kd.R_drew));exact Kd.R_mono (Kd.R_far (p:=⟨go25,(x33_3:Int).toNat,none⟩) (Kd.R_types HO_5.out GG25.out d11) (fun _ hk=>hk.2) (.int .u8 (Go.bits .xor .u8 (rd x8_3 x33_3) t142))) (fun _ hk=>trivial)⟩,⟨by (try simp only [hl8_3]);(with_reducible repeat (first|apply Kd.R_alloc|apply Kd.R_drewN|apply Kd.R_drew));exact HQ27.out⟩,⟨by (try simp only [hl8_3]);(with_reducible repeat (first|refine qn ?_ _|refine qd ?_|refine qa ?_ _));refine blk_far ?_ (by have h_:=Kd.R_ne HO_8.out BK130.out d11;intro e_;exact h_ (by rw [e_];rfl)) _;(with_reducible repeat (first|refine qn ?_ _|refine qd ?_|refine qa ?_ _));exact BK130.out⟩,⟨by repeat (first|(with_reducible first|exact HB.out|apply pa|apply pb|apply pd|refine pt ?_ GB25.out|refine pt ?_ GE130.out)|exact HB.out)⟩⟩
                     rw [if_neg c22] at H
                     exact absurd H d20
                    rw [if_neg c21] at H
                    exact absurd H d20
                   rw [if_neg c20] at H
                   exact absurd H d20
                  rw [if_neg c19] at H
                  exact absurd H d20
                 rw [if_neg c18] at H
                 exact absurd H d20
                rw [if_neg c17] at H
                have c17b0:decide (x33_3 < (x8_2.length:Int))=false:=decide_eq_false c17
                (try simp only [hl8_3] at c17b0)
                clear c17
                have H':=am H
                clear H
                go_wp2
                (try simp only [← hl8_3])
                go_roundg k3
                case measure=>have:=HK1.out;have:=HK2.out;have:=HK3.out;omega
                case rel=>exact ⟨(x8_3),(wrap64 (x26_2+1)),d2,H',⟨by have:=HK1.out;have:=HK2.out;have:=HK3.out;omega⟩,⟨by (try simp only [hl8_3]);(with_reducible repeat (first|apply Kd.R_alloc|apply Kd.R_drewN|apply Kd.R_drew));exact HO_5.out⟩,⟨by (try simp only [hl8_3]);(with_reducible repeat (first|apply Kd.R_alloc|apply Kd.R_drewN|apply Kd.R_drew));exact HO_8.out⟩,⟨by (try simp only [hl8_3]);(with_reducible repeat (first|refine qn ?_ _|refine qd ?_|refine qa ?_ _));exact BK130.out⟩,⟨by repeat (first|(with_reducible first|exact HB.out|apply pa|apply pb|apply pd|refine pt ?_ GE130.out)|exact HB.out)⟩⟩
             rw [if_neg c15] at H
             exact absurd H d20
            rw [if_neg c14] at H
            exact absurd H d20
           rw [if_neg c13] at H
           have c13b0:decide (x26_2 < ((rd_L5 l0_0 x15_1).length:Int))=false:=decide_eq_false c13
           clear c13
           by_cases c28:x5_1.length < 8796093022208
           ·rw [if_pos c28] at H
            have LMc28:=am c28
            clear c28
            obtain ⟨y136,hy136⟩:∃ y_:List ByteArray,y_=(x5_1 ++ [strOfNums x8_2]):=⟨_,rfl⟩
            replace H:(spec_l3Rows.l0 k2 l1 y136 l0_0 (l0_0.length:Int) (wrap64 (x15_1+1)))=some r:=by first|(rw [hy136];with_reducible exact H)|(have H2_:=(Option.bind_some _ _).symm.trans H;rw [hy136];with_reducible exact H2_)|(have H2_:=(Option.bind_some _ _).symm.trans H;with_reducible exact H2_)|with_reducible exact H|(rw [hy136];exact H)|exact H
            have Ny136:=am hy136
            clear hy136
            have H':=am H
            clear H
            have hcv29:=own_string (P:=Try.prog) Try.underlying57 Try.underlying5 Try.underlying9 (Kd.own_of_R HO_8.out)
            go_wp2_with (first|((with_reducible refine gate_builtin (b:=.append) (xs:=#[.tmp 52, .tmp 55]) rfl ?_);at_builtin;refine Kd.R_append Kd.string (w0:=w) w.heap.size rfl (.tmp 52) (.tmp 55) 22 9 (.string ⟨#[]⟩) 16 rfl Try.underlying22 info9 rfl d11 d6 u5 x5_1 (strOfNums x8_2) [.string (strOfNums x8_2)] (fun _=>True) (fun _=>False) rfl rfl ?aP (fun _ hk=>hk.elim) ?aF ?aO ?aB ?aS ?aL ?_;(case aP=>exact rfl);(case aB=>exact (by repeat (first|(with_reducible first|exact HB.out|apply pa|apply pb|apply pd|refine pt ?_ GE130.out)|exact HB.out)));(case aF=>exact (fun _ _=>trivial));(case aO=>exact d7);(case aS=>exact (pz (by repeat (first|(with_reducible first|exact HB.out|apply pa|apply pb|apply pd|refine pt ?_ GE130.out)|exact HB.out))));(case aL=>have:=LMc28.out;omega);intro v137 w30 ho hb hg hat;rw [← Ny136.out] at ho;have n0_:=am (Kd.R_over' d8 (Kd.R_typed d7) d11 hg);have n1_:=am (blk_grown (g:=gb130) (o:=.cells #[.slice (some ad131) l0_0.length c0_0] 43 (0,0)) (by (with_reducible repeat (first|refine qn ?_ _|refine qd ?_|refine qa ?_ _));exact BK130.out) hg (Kd.R_ne HO_5.out BK130.out d11));have n2_:=am (hb);have n3_:=am (ho);clear HO_8;clear BK130;clear HB;clear HO_5;have HO_8:=n0_;have BK130:=n1_;have HB:=n2_;have HO138:=n3_;clear n0_ n1_ n2_ n3_;clear ho hb hg hat))
            go_roundg k2
            case measure=>have:=HK1.out;have:=HK2.out;omega
            case rel=>exact ⟨(y136),(wrap64 (x15_1+1)),d2,H',⟨d40⟩,⟨by (with_reducible repeat (first|apply Kd.R_alloc|apply Kd.R_drewN|apply Kd.R_drew));exact HO138.out⟩,⟨by (with_reducible repeat (first|refine qn ?_ _|refine qd ?_|refine qa ?_ _));exact BK130.out⟩,⟨by repeat (first|(with_reducible first|exact HB.out|apply pa|apply pb|apply pd|refine pt ?_ GE130.out)|exact HB.out)⟩⟩
           rw [if_neg c28] at H
           exact absurd H d20
        rw [if_neg c10] at H
        exact absurd H d20
       rw [if_neg c9] at H
       exact absurd H d20
      rw [if_neg c8] at H
      exact absurd H d20
     rw [if_neg c7] at H
     exact absurd H d20
    rw [if_neg c6] at H
    exact absurd H d20
   rw [if_neg c5] at H
   have c5b0:decide (x15_1 < (l0_0.length:Int))=false:=decide_eq_false c5
   clear c5
   obtain rfl:=Option.some.inj H
   go_wp2
   go_ret
   exact ⟨_,d5,d7,by repeat (first|(with_reducible first|exact HB.out|apply pa|apply pb|apply pd|refine pt ?_ GE130.out)|exact HB.out)⟩

end Go.Proofs.Ytajikfnpcobnpaa.PFnExactCheckShards
-- HALVED
-- SQUEEZED
-- SQUEEZED2
-- SQUEEZED3
-- SQUEEZED4
-- SQUEEZED5
-- SQUEEZED6
