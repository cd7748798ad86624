-- Laid by a program of this session.
import Derived.Test.YtajikfnpcobnpaaPFnExactRegeneratePiecex0
namespace Go.Proofs.Ytajikfnpcobnpaa.PFnExactRegeneratePiece
open Go.RowKit Go.Proofs.YtajikfnpcobnpaaW.PrintWords Go.Proofs.YtajikfnpcobnpaaW.PrintLast Go.Proofs.YtajikfnpcobnpaaW.PrintMore
attribute [local go_sem] max2_int min2_int max_two min_two max_three min_three max_four min_four   -- for this text's walks alone
set_option linter.unusedVariables false
set_option maxHeartbeats 8000000
set_option maxRecDepth 100000
set_option linter.unusedSimpArgs false

def impl_Times.l0:Nat→Int→Int→Int→Int→Option (Int)
 | 0,_,_,_,_=>none
 | k+1,x1,x5,x6,x7=>if x6 < 8 then (if 0≤x6 then (if (Go.bits .and .u8 (shr .u8 x1 x6) 1)=1 then (if (wrap64 (x7*2)) > 255 then (impl_Times.l0 k x1 (Go.bits .xor .i64 x5 x7) (wrap64 (x6+1)) (Go.bits .xor .i64 (wrap64 (x7*2)) 283)) else (impl_Times.l0 k x1 (Go.bits .xor .i64 x5 x7) (wrap64 (x6+1)) (wrap64 (x7*2)))) else (if (wrap64 (x7*2)) > 255 then (impl_Times.l0 k x1 x5 (wrap64 (x6+1)) (Go.bits .xor .i64 (wrap64 (x7*2)) 283)) else (impl_Times.l0 k x1 x5 (wrap64 (x6+1)) (wrap64 (x7*2))))) else (none)) else (some ((x5) % 256))
def impl_Times.f (k:Nat) (a0:Int) (a1:Int):Option (Int):=impl_Times.l0 k a1 0 0 (wrap64 (a0))
theorem impl_Times.mono_l:∀ k,(∀ y0 y1 y2 y3,LeO (impl_Times.l0 k y0 y1 y2 y3) (impl_Times.l0 (k+1) y0 y1 y2 y3))
 | 0=>fun _ _ _ _ r h=>by simp [impl_Times.l0] at h
 | k+1=>by
  have ih0:=impl_Times.mono_l k
  intro y0 y1 y2 y3
  unfold impl_Times.l0
  repeat' first
  | (with_reducible exact ih0 _ _ _ _)
  |(with_reducible exact LeO.refl _)|(with_reducible exact LeO.none _)|(with_reducible refine LeO.ite ?_ ?_)|(with_reducible refine LeO.bind ?_ (fun _=>?_))|exact ih0 _ _ _ _|exact LeO.none _|refine LeO.ite ?_ ?_|refine LeO.bind ?_ (fun _=>?_)
theorem impl_Times.mono:∀ a0 a1 k,LeO (impl_Times.f k a0 a1) (impl_Times.f (k+1) a0 a1):=by
 intro a0 a1 k
 have ih0:=impl_Times.mono_l k
 unfold impl_Times.f
 repeat' first
   | (with_reducible exact ih0 _ _ _ _)
   |(with_reducible exact LeO.refl _)|(with_reducible exact LeO.none _)|(with_reducible refine LeO.ite ?_ ?_)|(with_reducible refine LeO.bind ?_ (fun _=>?_))|exact ih0 _ _ _ _|exact LeO.none _|refine LeO.ite ?_ ?_|refine LeO.bind ?_ (fun _=>?_)
theorem impl_Times.calls (k:Nat) (a0:Int) (a1:Int) (r:Int) (w:World) (h:impl_Times.f k a0 a1=some r) :
  Calls Try.prog 192 #[.int .u8 a0, .int .u8 a1] w fun e w'=>e = .returned (.int .u8 r)∧Drawn0 w w':=by
 have H:(impl_Times.l0 k a1 0 0 (wrap64 (a0)))=some r:=h
 clear h
 have H':=am H
 clear H
 go_enter Try.func192,Try.ntmps192
 go_wp2
 go_loopg [5,6,7] k (fun kq v5 v6 v7 w'=>∃ (x5_1:Int) (x6_1:Int) (x7_1:Int),v5 = .int .i64 x5_1∧v6 = .int .i64 x6_1∧v7 = .int .i64 x7_1∧Aside0 (impl_Times.l0 kq a1 x5_1 x6_1 x7_1=some r)∧Aside0 (kq≤k)∧Drawn0 w w')
 case atStart=>exact ⟨(0),(0),(wrap64 (a0)),d4,d4,d4,H',⟨Nat.le_refl _⟩,d9⟩
 case round =>
  clear H'
  try clear c1
  try clear p2
  obtain ⟨x5_1,x6_1,x7_1,rfl,rfl,rfl,HA,HK1,⟨m1,rfl⟩⟩:=hrel
  cases gk with
  | zero=>exact absurd HA.out (by simp [impl_Times.l0])
  | succ k1 =>
   have H:=HA.out
   clear HA
   simp only [impl_Times.l0] at H
   by_cases c3:x6_1 < 8
   ·rw [if_pos c3] at H
    have c3b0:decide (x6_1 < 8)=true:=decide_eq_true c3
    clear c3
    by_cases c4:0≤x6_1
    ·rw [if_pos c4] at H
     have c4b0:=eq_true c4
     have c4b1:decide (0≤x6_1)=true:=decide_eq_true c4
     clear c4
     obtain ⟨ji5,hji5⟩:∃ j_:Int,(shr .u8 a1 x6_1)=j_:=⟨_,rfl⟩
     replace H:(if (Go.bits .and .u8 (ji5) 1)=1 then (if (wrap64 (x7_1*2)) > 255 then (impl_Times.l0 k1 a1 (Go.bits .xor .i64 x5_1 x7_1) (wrap64 (x6_1+1)) (Go.bits .xor .i64 (wrap64 (x7_1*2)) 283)) else (impl_Times.l0 k1 a1 (Go.bits .xor .i64 x5_1 x7_1) (wrap64 (x6_1+1)) (wrap64 (x7_1*2)))) else (if (wrap64 (x7_1*2)) > 255 then (impl_Times.l0 k1 a1 x5_1 (wrap64 (x6_1+1)) (Go.bits .xor .i64 (wrap64 (x7_1*2)) 283)) else (impl_Times.l0 k1 a1 x5_1 (wrap64 (x6_1+1)) (wrap64 (x7_1*2)))))=some r:=by first|(rw [hji5] at H;exact H)|(simp only [hji5] at H ⊢;exact H)
     have hji5_:(a1 / 2 ^ min x6_1.toNat 8)=ji5:=hji5
     have hji5z:x6_1≤8→(a1 / 2 ^ x6_1.toNat)=ji5:=shr_small hji5
     by_cases c6:(Go.bits .and .u8 (ji5) 1)=1
     ·rw [if_pos c6] at H
      have c6b0:((Go.bits .and .u8 (ji5) 1) == 1)=true:=beq_iff_eq.mpr c6
      have c6b1:((Go.bits .and .u8 (ji5) 1) != 1)=false:=bne_eq_false_iff_eq.mpr c6
      clear c6
      by_cases c7:(wrap64 (x7_1*2)) > 255
      ·rw [if_pos c7] at H
       have c7b0:decide (255 < (wrap64 (x7_1*2)))=true:=decide_eq_true c7
       clear c7
       have H':=am H
       clear H
       go_wp2
       go_roundg k1
       case measure=>have:=HK1.out;omega
       case rel=>exact ⟨(Go.bits .xor .i64 x5_1 x7_1),(wrap64 (x6_1+1)),(Go.bits .xor .i64 (wrap64 (x7_1*2)) 283),d4,d4,d4,H',⟨d30⟩,d9⟩
      rw [if_neg c7] at H
      have c7b0:decide (255 < (wrap64 (x7_1*2)))=false:=decide_eq_false c7
      clear c7
      have H':=am H
      clear H
      go_wp2
      go_roundg k1
      case measure=>have:=HK1.out;omega
      case rel=>exact ⟨(Go.bits .xor .i64 x5_1 x7_1),(wrap64 (x6_1+1)),(wrap64 (x7_1*2)),d4,d4,d4,H',⟨d30⟩,d9⟩
     rw [if_neg c6] at H
     have c6b0:((Go.bits .and .u8 (ji5) 1) == 1)=false:=beq_eq_false_iff_ne.mpr c6
     have c6b1:((Go.bits .and .u8 (ji5) 1) != 1)=true:=bne_iff_ne.mpr c6
     by_cases c8:(wrap64 (x7_1*2)) > 255
     ·rw [if_pos c8] at H
      have c8b0:decide (255 < (wrap64 (x7_1*2)))=true:=decide_eq_true c8
      clear c8
      have H':=am H
      clear H
      go_wp2
      go_roundg k1
      case measure=>have:=HK1.out;omega
      case rel=>exact ⟨(x5_1),(wrap64 (x6_1+1)),(Go.bits .xor .i64 (wrap64 (x7_1*2)) 283),d4,d4,d4,H',⟨d30⟩,d9⟩
     rw [if_neg c8] at H
     have c8b0:decide (255 < (wrap64 (x7_1*2)))=false:=decide_eq_false c8
     clear c8
     have H':=am H
     clear H
     go_wp2
     go_roundg k1
     case measure=>have:=HK1.out;omega
     case rel=>exact ⟨(x5_1),(wrap64 (x6_1+1)),(wrap64 (x7_1*2)),d4,d4,d4,H',⟨d30⟩,d9⟩
    rw [if_neg c4] at H
    exact absurd H d31
   rw [if_neg c3] at H
   have c3b0:decide (x6_1 < 8)=false:=decide_eq_false c3
   clear c3
   obtain rfl:=Option.some.inj H
   go_wp2
   go_ret
   exact ⟨d4,d9⟩

def impl_power.l0:Nat→Int→Int→Int→Option (Int)
 | 0,_,_,_=>none
 | k+1,x0,x1,x5=>if x1 > 0 then (if (Go.bits .and .i64 x1 1)=1 then ((impl_Times.f k x5 x0).bind fun t101=>((impl_Times.f k x0 x0).bind fun t102=>(impl_power.l0 k t102 (x1 / 2) t101))) else ((impl_Times.f k x0 x0).bind fun t103=>(impl_power.l0 k t103 (x1 / 2) x5))) else (some x5)
def impl_power.f (k:Nat) (a0:Int) (a1:Int):Option (Int):=impl_power.l0 k a0 a1 1
theorem impl_power.mono_l:∀ k,(∀ y0 y1 y2,LeO (impl_power.l0 k y0 y1 y2) (impl_power.l0 (k+1) y0 y1 y2))
 | 0=>fun _ _ _ r h=>by simp [impl_power.l0] at h
 | k+1=>by
  have ih0:=impl_power.mono_l k
  intro y0 y1 y2
  unfold impl_power.l0
  repeat' first
  | (with_reducible exact ih0 _ _ _)
  | (with_reducible exact impl_Times.mono _ _ _)
  |(with_reducible exact LeO.refl _)|(with_reducible exact LeO.none _)|(with_reducible refine LeO.ite ?_ ?_)|(with_reducible refine LeO.bind ?_ (fun _=>?_))|exact ih0 _ _ _|exact impl_Times.mono _ _ _|exact LeO.none _|refine LeO.ite ?_ ?_|refine LeO.bind ?_ (fun _=>?_)
theorem impl_power.mono:∀ a0 a1 k,LeO (impl_power.f k a0 a1) (impl_power.f (k+1) a0 a1):=by
 intro a0 a1 k
 have ih0:=impl_power.mono_l k
 unfold impl_power.f
 repeat' first
   | (with_reducible exact ih0 _ _ _)
   | (with_reducible exact impl_Times.mono _ _ _)
   |(with_reducible exact LeO.refl _)|(with_reducible exact LeO.none _)|(with_reducible refine LeO.ite ?_ ?_)|(with_reducible refine LeO.bind ?_ (fun _=>?_))|exact ih0 _ _ _|exact impl_Times.mono _ _ _|exact LeO.none _|refine LeO.ite ?_ ?_|refine LeO.bind ?_ (fun _=>?_)
theorem impl_power.calls (k:Nat) (a0:Int) (a1:Int) (r:Int) (w:World) (h:impl_power.f k a0 a1=some r) :
  Calls Try.prog 180 #[.int .u8 a0, .int .i64 a1] w fun e w'=>e = .returned (.int .u8 r)∧Drawn0 w w':=by
 have H:(impl_power.l0 k a0 a1 1)=some r:=h
 clear h
 have H':=am H
 clear H
 go_enter Try.func180,Try.ntmps180
 go_wp2
 go_loopg [0,1,5] k (fun kq v0 v1 v5 w'=>∃ (x0_1:Int) (x1_1:Int) (x5_1:Int),v0 = .int .u8 x0_1∧v1 = .int .i64 x1_1∧v5 = .int .u8 x5_1∧Aside0 (impl_power.l0 kq x0_1 x1_1 x5_1=some r)∧Aside0 (kq≤k)∧Drawn0 w w')
 case atStart=>exact ⟨(a0),(a1),(1),d4,d4,d4,H',⟨Nat.le_refl _⟩,d9⟩
 case round =>
  clear H'
  try clear c1
  try clear p2
  obtain ⟨x0_1,x1_1,x5_1,rfl,rfl,rfl,HA,HK1,⟨m1,rfl⟩⟩:=hrel
  cases gk with
  | zero=>exact absurd HA.out (by simp [impl_power.l0])
  | succ k1 =>
   have H:=HA.out
   clear HA
   simp only [impl_power.l0] at H
   by_cases c3:x1_1 > 0
   ·rw [if_pos c3] at H
    have c3b0:decide (0 < x1_1)=true:=decide_eq_true c3
    clear c3
    by_cases c4:(Go.bits .and .i64 x1_1 1)=1
    ·rw [if_pos c4] at H
     have c4b0:((Go.bits .and .i64 x1_1 1) == 1)=true:=beq_iff_eq.mpr c4
     have c4b1:((Go.bits .and .i64 x1_1 1) != 1)=false:=bne_eq_false_iff_eq.mpr c4
     clear c4
     replace H:=Option.bind_eq_some_iff.mp H
     obtain ⟨t101,A50,H⟩:=H
     replace H:((impl_Times.f k1 x0_1 x0_1).bind fun t102=>(impl_power.l0 k1 t102 (x1_1 / 2) t101))=some r:=H
     have A5:=am A50
     clear A50
     replace H:=Option.bind_eq_some_iff.mp H
     obtain ⟨t102,A60,H⟩:=H
     replace H:(impl_power.l0 k1 t102 (x1_1 / 2) t101)=some r:=H
     have A6:=am A60
     clear A60
     have H':=am H
     clear H
     go_wp2_with (first|((with_reducible refine gate_callee (f:=192) rfl ?_);refine goesL_ (some 15) rfl rfl Try.func192 d3 rfl #[.int .u8 x5_1, .int .u8 x0_1] rfl d1 ?_;(with_reducible refine (impl_Times.calls k1 x5_1 x0_1 t101 _ A5.out).mono ?_);rintro e w' ⟨rfl,⟨nd,rfl⟩⟩;refine ⟨_,rfl,?_⟩)|((with_reducible refine gate_callee (f:=192) rfl ?_);refine goesL_ (some 18) rfl rfl Try.func192 d3 rfl #[.int .u8 x0_1, .int .u8 x0_1] rfl d1 ?_;(with_reducible refine (impl_Times.calls k1 x0_1 x0_1 t102 _ A6.out).mono ?_);rintro e w' ⟨rfl,⟨nd,rfl⟩⟩;refine ⟨_,rfl,?_⟩))
     go_roundg k1
     case measure=>have:=HK1.out;omega
     case rel=>exact ⟨(t102),(x1_1 / 2),(t101),d4,d4,d4,H',⟨d30⟩,d9⟩
    rw [if_neg c4] at H
    have c4b0:((Go.bits .and .i64 x1_1 1) == 1)=false:=beq_eq_false_iff_ne.mpr c4
    have c4b1:((Go.bits .and .i64 x1_1 1) != 1)=true:=bne_iff_ne.mpr c4
    replace H:=Option.bind_eq_some_iff.mp H
    obtain ⟨t103,A70,H⟩:=H
    replace H:(impl_power.l0 k1 t103 (x1_1 / 2) x5_1)=some r:=H
    have A7:=am A70
    clear A70
    have H':=am H
    clear H
    go_wp2_with (first|((with_reducible refine gate_callee (f:=192) rfl ?_);refine goesL_ (some 18) rfl rfl Try.func192 d3 rfl #[.int .u8 x0_1, .int .u8 x0_1] rfl d1 ?_;(with_reducible refine (impl_Times.calls k1 x0_1 x0_1 t103 _ A7.out).mono ?_);rintro e w' ⟨rfl,⟨nd,rfl⟩⟩;refine ⟨_,rfl,?_⟩))
    go_roundg k1
    case measure=>have:=HK1.out;omega
    case rel=>exact ⟨(t103),(x1_1 / 2),(x5_1),d4,d4,d4,H',⟨d30⟩,d9⟩
   rw [if_neg c3] at H
   have c3b0:decide (0 < x1_1)=false:=decide_eq_false c3
   clear c3
   obtain rfl:=Option.some.inj H
   go_wp2
   go_ret
   exact ⟨d4,d9⟩

def laws_szHelpS.f (l0:List (S153)) (a1:Int):Option (Int):=if (wrap64 (a1 - (l0.length:Int))) < 0 then (some (-1)) else (some (wrap64 (a1 - (l0.length:Int))))
theorem laws_szHelpS.calls (A0:Option Addr) (c0:Nat) (l0:List (S153)) (a1:Int) (r:Int) (w:World) (hr0:Kd.C k153 w A0 l0.length l0) (hc0:l0.length≤c0) (h:laws_szHelpS.f l0 a1=some r) :
  Calls Try.prog 43 #[.slice A0 l0.length c0, .int .i64 a1] w fun e w'=>e = .returned (.int .i64 r)∧Drawn0 w w':=by
 have HR0:=am hr0
 have HC0:=am hc0
 clear hr0 hc0
 have H:(if (wrap64 (a1 - (l0.length:Int))) < 0 then (some (-1)) else (some (wrap64 (a1 - (l0.length:Int)))))=some r:=h
 clear h
 by_cases c3:(wrap64 (a1 - (l0.length:Int))) < 0
 ·rw [if_pos c3] at H
  have c3b0:decide ((wrap64 (a1 - (l0.length:Int))) < 0)=true:=decide_eq_true c3
  clear c3
  obtain rfl:=Option.some.inj H
  go_enter Try.func43,Try.ntmps43
  go_wp2
  go_ret
  exact ⟨d4,d9⟩
 rw [if_neg c3] at H
 have c3b0:decide ((wrap64 (a1 - (l0.length:Int))) < 0)=false:=decide_eq_false c3
 clear c3
 obtain rfl:=Option.some.inj H
 go_enter Try.func43,Try.ntmps43
 go_wp2
 go_ret
 exact ⟨d4,d9⟩

def spec_l1Add.l0:Nat→List Int→List Int→List Int→Int→Int→Option (List Int)
 | 0,_,_,_,_,_=>none
 | k+1,x0,x1,x5,x8,x9=>if x9 < x8 then (if 0≤x9 then (if x9 < (x0.length:Int) then (if x9 < (x1.length:Int) then (if x5.length < 140737488355328 then (spec_l1Add.l0 k x0 x1 (x5 ++ [Go.bits .xor .u8 (rd x0 x9) (rd x1 x9)]) x8 (wrap64 (x9+1))) else (none)) else (none)) else (none)) else (none)) else (some x5)
def spec_l1Add.f (k:Nat) (l0:List Int) (l1:List Int):Option (List Int):=spec_l1Add.l0 k l0 l1 ([]:List Int) (l0.length:Int) 0
theorem spec_l1Add.mono_l:∀ k,(∀ y0 y1 y2 y3 y4,LeO (spec_l1Add.l0 k y0 y1 y2 y3 y4) (spec_l1Add.l0 (k+1) y0 y1 y2 y3 y4))
 | 0=>fun _ _ _ _ _ r h=>by simp [spec_l1Add.l0] at h
 | k+1=>by
  have ih0:=spec_l1Add.mono_l k
  intro y0 y1 y2 y3 y4
  unfold spec_l1Add.l0
  repeat' first
  | (with_reducible exact ih0 _ _ _ _ _)
  |(with_reducible exact LeO.refl _)|(with_reducible exact LeO.none _)|(with_reducible refine LeO.ite ?_ ?_)|(with_reducible refine LeO.bind ?_ (fun _=>?_))|exact ih0 _ _ _ _ _|exact LeO.none _|refine LeO.ite ?_ ?_|refine LeO.bind ?_ (fun _=>?_)
theorem spec_l1Add.mono:∀ a0 a1 k,LeO (spec_l1Add.f k a0 a1) (spec_l1Add.f (k+1) a0 a1):=by
 intro a0 a1 k
 have ih0:=spec_l1Add.mono_l k
 unfold spec_l1Add.f
 repeat' first
   | (with_reducible exact ih0 _ _ _ _ _)
   |(with_reducible exact LeO.refl _)|(with_reducible exact LeO.none _)|(with_reducible refine LeO.ite ?_ ?_)|(with_reducible refine LeO.bind ?_ (fun _=>?_))|exact ih0 _ _ _ _ _|exact LeO.none _|refine LeO.ite ?_ ?_|refine LeO.bind ?_ (fun _=>?_)
def spec_l1Add.T5:Bool × List (List Nat × List Nat):=(true,[([],[]),([],[]),([],[]),([1,2],[1,2]),([3],[3]),([],[]),([],[]),([5,6],[5,6]),([7],[7]),([4,8],[4,8]),([9],[9]),([0,10],[0,10]),([11,11,0,1,2,3,4,5,6,7,8,9,10,11],[0,11])])
def spec_l1Add.B5:List Nat:=[0,0,0,6,14,0,0,96,224,510,1022,2047,4095]
theorem spec_l1Add.tab5:rtab .any (opsOf Try.f123 5)=spec_l1Add.T5:=by kernel_rfl
theorem spec_l1Add.bits5:waitsOk spec_l1Add.T5.2 spec_l1Add.B5=true:=by kernel_rfl
theorem spec_l1Add.calls (k:Nat) (A0:Option Addr) (c0:Nat) (l0:List Int) (A1:Option Addr) (c1:Nat) (l1:List Int) (r:List Int) (w:World) (hr0:Kd.C (Kd.int .u8) w A0 l0.length l0) (hc0:l0.length≤c0) (hr1:Kd.C (Kd.int .u8) w A1 l1.length l1) (hc1:l1.length≤c1) (h:spec_l1Add.f k l0 l1=some r) :
  Calls Try.prog 123 #[.slice A0 l0.length c0, .slice A1 l1.length c1] w fun e w'=>∃ v0_:Value,e = .returned (v0_)∧Kd.R (Kd.int .u8) 5 w' w.heap.size (fun _=>True) v0_ r∧Below w.heap.size w w':=by
 have HR0:=am hr0
 have HC0:=am hc0
 clear hr0 hc0
 have HR1:=am hr1
 have HC1:=am hc1
 clear hr1 hc1
 have HB:=am (Below.refl w.heap.size w)
 have H:(spec_l1Add.l0 k l0 l1 ([]:List Int) (l0.length:Int) 0)=some r:=h
 clear h
 have H':=am H
 clear H
 go_enter Try.func123,Try.ntmps123
 go_wp2
 go_loopg [5,9] k (fun kq v5 v9 w'=>∃ (x5_1:List Int) (x9_1:Int),v9 = .int .i64 x9_1∧Aside0 (spec_l1Add.l0 kq l0 l1 x5_1 (l0.length:Int) x9_1=some r)∧Aside0 (kq≤k)∧Aside0 (Kd.R (Kd.int .u8) 5 w' w.heap.size (fun _=>True) v5 x5_1)∧Aside0 (Below w.heap.size w w'))
 case atStart=>exact ⟨(([]:List Int)),(0),d4,H',⟨Nat.le_refl _⟩,⟨d14⟩,⟨d0⟩⟩
 case round =>
  clear H'
  try clear c1
  try clear p2
  obtain ⟨x5_1,x9_1,rfl,HA,HK1,HO_5,HB⟩:=hrel
  cases gk with
  | zero=>exact absurd HA.out (by simp [spec_l1Add.l0])
  | succ k1 =>
   have H:=HA.out
   clear HA
   simp only [spec_l1Add.l0] at H
   by_cases c3:x9_1 < (l0.length:Int)
   ·rw [if_pos c3] at H
    have c3b0:decide (x9_1 < (l0.length:Int))=true:=decide_eq_true c3
    clear c3
    by_cases c4:0≤x9_1
    ·rw [if_pos c4] at H
     have c4b0:decide (0≤x9_1)=true:=decide_eq_true c4
     clear c4
     by_cases c5:x9_1 < (l0.length:Int)
     ·rw [if_pos c5] at H
      have c5b0:decide (x9_1 < (l0.length:Int))=true:=decide_eq_true c5
      clear c5
      by_cases c6:x9_1 < (l1.length:Int)
      ·rw [if_pos c6] at H
       have c6b0:decide (x9_1 < (l1.length:Int))=true:=decide_eq_true c6
       clear c6
       by_cases c7:x5_1.length < 140737488355328
       ·rw [if_pos c7] at H
        have LMc7:=am c7
        clear c7
        obtain ⟨y106,hy106⟩:∃ y_:List Int,y_=(x5_1 ++ [Go.bits .xor .u8 (rd l0 x9_1) (rd l1 x9_1)]):=⟨_,rfl⟩
        replace H:(spec_l1Add.l0 k1 l0 l1 y106 (l0.length:Int) (wrap64 (x9_1+1)))=some r:=by first|(rw [hy106];with_reducible exact H)|(have H2_:=(Option.bind_some _ _).symm.trans H;rw [hy106];with_reducible exact H2_)|(have H2_:=(Option.bind_some _ _).symm.trans H;with_reducible exact H2_)|with_reducible exact H|(rw [hy106];exact H)|exact H
        have Ny106:=am hy106
        clear hy106
        have H':=am H
        clear H
        try go_wp2
        have n0_:=am (Kd.R_drew HO_5.out)
        have n1_:=am (pd HB.out)
        clear HO_5
        clear HB
        have HO_5:=n0_
        have HB:=n1_
        clear n0_ n1_
        have p104:0≤(x9_1:Int):=od d2
        have q104:x9_1 < (l0.length:Int):=od d2
        obtain ⟨ad104,e104,hx104_0⟩:=Kd.at_int HR0.out x9_1 p104 q104
        have hw104_0:=hx104_0
        cases e104
        replace hx104_0:=(HB.out.cell (World.block_lt_of_cell? w _ hx104_0)).trans hx104_0
        replace p104:=eq_true p104
        replace q104:=eq_true q104
        have p105:0≤(x9_1:Int):=od d2
        have q105:x9_1 < (l1.length:Int):=od d2
        obtain ⟨ad105,e105,hx105_0⟩:=Kd.at_int HR1.out x9_1 p105 q105
        have hw105_0:=hx105_0
        cases e105
        replace hx105_0:=(HB.out.cell (World.block_lt_of_cell? w _ hx105_0)).trans hx105_0
        replace p105:=eq_true p105
        replace q105:=eq_true q105
        refine rS (n:=13) (S:=fun w'=>w'.cell? (ad104.add (x9_1).toNat)=some (.int .u8 (rd l0 x9_1))∧w'.cell? (ad105.add (x9_1).toNat)=some (.int .u8 (rd l1 x9_1))) (ds:=[]) [(0,12),(1,13),(2,14),(3,15),(5,17),(6,18),(7,19),(4,16),(8,20),(9,21),(10,0),(11,0),(12,5)] d3 rfl spec_l1Add.tab5 spec_l1Add.bits5 ⟨((HB.out.cell (World.block_lt_of_cell? w _ hw104_0)).trans hw104_0),((HB.out.cell (World.block_lt_of_cell? w _ hw105_0)).trans hw105_0)⟩ (fun hHeld HT_ HW_=>?_)
        generalize wr.drew=w8 at HO_5 HB hx104_0 hx105_0 hHeld ⊢
        refine rR ?_
        refine rO (N:=some 22) HT_ rfl rfl d3 d8 (fun K hK=>?_)
        refine value_ (w1:=?_) (v:=?_) d20 rfl ?_ ?_
        rotate_left 2
        ·go_simp
         constructor
         ·rfl
         rfl
        refine hK.out _ _ ⟨(World.cell?_alloc_lt _ _ _ (World.block_lt_of_cell? _ _ (((HB.out.cell (World.block_lt_of_cell? w _ hw104_0)).trans hw104_0)))).trans (((HB.out.cell (World.block_lt_of_cell? w _ hw104_0)).trans hw104_0)),(World.cell?_alloc_lt _ _ _ (World.block_lt_of_cell? _ _ (((HB.out.cell (World.block_lt_of_cell? w _ hw105_0)).trans hw105_0)))).trans (((HB.out.cell (World.block_lt_of_cell? w _ hw105_0)).trans hw105_0))⟩ (fun hHeld=>?_)
        clear hK K
        refine rN (a':=?_) ?_ ?_
        rotate_left
        ·show Act.put _ (some 22) _=_
         simp only [Act.put,q1,q2,q3,i64_w,i32_w]
         rfl
        refine rO (N:=some 23) HT_ rfl rfl d3 d8 (fun K hK=>?_)
        refine Kd.R_append_step (Kd.int .u8) (w0:=w) w.heap.size d20 (.tmp 12) (.tmp 22) 57 5 (.int .u8 0) 1 rfl Try.underlying57 info5 rfl d8 d15 u5 x5_1 (Go.bits .xor .u8 (rd l0 x9_1) (rd l1 x9_1)) [.int .u8 (Go.bits .xor .u8 (rd l0 x9_1) (rd l1 x9_1))] (fun _=>True) (fun _=>False) rfl rfl ?aP (fun _ hk=>hk.elim) ?aF ?aO ?aB ?aS ?aL ?_
        (case aP=>exact rfl)
        (case aB=>exact d0)
        (case aF=>exact (fun _ _=>trivial))
        (case aO=>exact d21)
        (case aS=>exact (pz d0))
        (case aL=>have:=LMc7.out;omega)
        intro v107 w9 ho hb hg hat
        rw [← Ny106.out] at ho
        have n0_:=am (hb)
        have n1_:=am (ho)
        clear HB
        clear HO_5
        have HB:=n0_
        have HO108:=n1_
        clear n0_ n1_
        clear ho hb hg hat
        refine hK.out _ _ ⟨((HB.out.cell (World.block_lt_of_cell? w _ hw104_0)).trans hw104_0),((HB.out.cell (World.block_lt_of_cell? w _ hw105_0)).trans hw105_0)⟩ (fun hHeld=>?_)
        clear hK K
        refine rN (a':=?_) ?_ ?_
        rotate_left
        ·show Act.put _ (some 23) _=_
         simp only [Act.put,q1,q2,q3,i64_w,i32_w]
         rfl
        refine rR ?_
        refine rD HT_ d3 ?_
        try go_wp2
        go_roundg k1
        case measure=>have:=HK1.out;omega
        case rel=>exact ⟨(y106),(wrap64 (x9_1+1)),d4,H',⟨d30⟩,⟨by (with_reducible repeat (first|apply Kd.R_alloc|apply Kd.R_drewN|apply Kd.R_drew));exact HO108.out⟩,⟨d0⟩⟩
       rw [if_neg c7] at H
       exact absurd H d31
      rw [if_neg c6] at H
      exact absurd H d31
     rw [if_neg c5] at H
     exact absurd H d31
    rw [if_neg c4] at H
    exact absurd H d31
   rw [if_neg c3] at H
   have c3b0:decide (x9_1 < (l0.length:Int))=false:=decide_eq_false c3
   clear c3
   obtain rfl:=Option.some.inj H
   go_wp2
   go_ret
   exact ⟨_,d5,d21,d0⟩

def spec_l1Times.l0:Nat→Int→Int→Int→Option (Int)
 | 0,_,_,_=>none
 | k+1,x5,x6,x7=>if x7 > 0 then (if (Go.bits .and .i64 x7 1)=1 then (if (wrap64 (x6*2)) > 255 then (spec_l1Times.l0 k (Go.bits .xor .i64 x5 x6) (Go.bits .xor .i64 (wrap64 (x6*2)) 283) (x7 / 2)) else (spec_l1Times.l0 k (Go.bits .xor .i64 x5 x6) (wrap64 (x6*2)) (x7 / 2))) else (if (wrap64 (x6*2)) > 255 then (spec_l1Times.l0 k x5 (Go.bits .xor .i64 (wrap64 (x6*2)) 283) (x7 / 2)) else (spec_l1Times.l0 k x5 (wrap64 (x6*2)) (x7 / 2)))) else (some ((x5) % 256))
def spec_l1Times.f (k:Nat) (a0:Int) (a1:Int):Option (Int):=spec_l1Times.l0 k 0 (wrap64 (a0)) (wrap64 (a1))
theorem spec_l1Times.mono_l:∀ k,(∀ y0 y1 y2,LeO (spec_l1Times.l0 k y0 y1 y2) (spec_l1Times.l0 (k+1) y0 y1 y2))
 | 0=>fun _ _ _ r h=>by simp [spec_l1Times.l0] at h
 | k+1=>by
  have ih0:=spec_l1Times.mono_l k
  intro y0 y1 y2
  unfold spec_l1Times.l0
  repeat' first
  | (with_reducible exact ih0 _ _ _)
  |(with_reducible exact LeO.refl _)|(with_reducible exact LeO.none _)|(with_reducible refine LeO.ite ?_ ?_)|(with_reducible refine LeO.bind ?_ (fun _=>?_))|exact ih0 _ _ _|exact LeO.none _|refine LeO.ite ?_ ?_|refine LeO.bind ?_ (fun _=>?_)
theorem spec_l1Times.mono:∀ a0 a1 k,LeO (spec_l1Times.f k a0 a1) (spec_l1Times.f (k+1) a0 a1):=by
 intro a0 a1 k
 have ih0:=spec_l1Times.mono_l k
 unfold spec_l1Times.f
 repeat' first
   | (with_reducible exact ih0 _ _ _)
   |(with_reducible exact LeO.refl _)|(with_reducible exact LeO.none _)|(with_reducible refine LeO.ite ?_ ?_)|(with_reducible refine LeO.bind ?_ (fun _=>?_))|exact ih0 _ _ _|exact LeO.none _|refine LeO.ite ?_ ?_|refine LeO.bind ?_ (fun _=>?_)
theorem spec_l1Times.calls (k:Nat) (a0:Int) (a1:Int) (r:Int) (w:World) (h:spec_l1Times.f k a0 a1=some r) :
  Calls Try.prog 174 #[.int .u8 a0, .int .u8 a1] w fun e w'=>e = .returned (.int .u8 r)∧Drawn0 w w':=by
 have H:(spec_l1Times.l0 k 0 (wrap64 (a0)) (wrap64 (a1)))=some r:=h
 clear h
 have H':=am H
 clear H
 go_enter Try.func174,Try.ntmps174
 go_wp2
 go_loopg [5,6,7] k (fun kq v5 v6 v7 w'=>∃ (x5_1:Int) (x6_1:Int) (x7_1:Int),v5 = .int .i64 x5_1∧v6 = .int .i64 x6_1∧v7 = .int .i64 x7_1∧Aside0 (spec_l1Times.l0 kq x5_1 x6_1 x7_1=some r)∧Aside0 (kq≤k)∧Drawn0 w w')
 case atStart=>exact ⟨(0),(wrap64 (a0)),(wrap64 (a1)),d4,d4,d4,H',⟨Nat.le_refl _⟩,d9⟩
 case round =>
  clear H'
  try clear c1
  try clear p2
  obtain ⟨x5_1,x6_1,x7_1,rfl,rfl,rfl,HA,HK1,⟨m1,rfl⟩⟩:=hrel
  cases gk with
  | zero=>exact absurd HA.out (by simp [spec_l1Times.l0])
  | succ k1 =>
   have H:=HA.out
   clear HA
   simp only [spec_l1Times.l0] at H
   by_cases c3:x7_1 > 0
   ·rw [if_pos c3] at H
    have c3b0:decide (0 < x7_1)=true:=decide_eq_true c3
    clear c3
    by_cases c4:(Go.bits .and .i64 x7_1 1)=1
    ·rw [if_pos c4] at H
     have c4b0:((Go.bits .and .i64 x7_1 1) == 1)=true:=beq_iff_eq.mpr c4
     have c4b1:((Go.bits .and .i64 x7_1 1) != 1)=false:=bne_eq_false_iff_eq.mpr c4
     clear c4
     by_cases c5:(wrap64 (x6_1*2)) > 255
     ·rw [if_pos c5] at H
      have c5b0:decide (255 < (wrap64 (x6_1*2)))=true:=decide_eq_true c5
      clear c5
      have H':=am H
      clear H
      go_wp2
      go_roundg k1
      case measure=>have:=HK1.out;omega
      case rel=>exact ⟨(Go.bits .xor .i64 x5_1 x6_1),(Go.bits .xor .i64 (wrap64 (x6_1*2)) 283),(x7_1 / 2),d4,d4,d4,H',⟨d30⟩,d9⟩
     rw [if_neg c5] at H
     have c5b0:decide (255 < (wrap64 (x6_1*2)))=false:=decide_eq_false c5
     clear c5
     have H':=am H
     clear H
     go_wp2
     go_roundg k1
     case measure=>have:=HK1.out;omega
     case rel=>exact ⟨(Go.bits .xor .i64 x5_1 x6_1),(wrap64 (x6_1*2)),(x7_1 / 2),d4,d4,d4,H',⟨d30⟩,d9⟩
    rw [if_neg c4] at H
    have c4b0:((Go.bits .and .i64 x7_1 1) == 1)=false:=beq_eq_false_iff_ne.mpr c4
    have c4b1:((Go.bits .and .i64 x7_1 1) != 1)=true:=bne_iff_ne.mpr c4
    by_cases c6:(wrap64 (x6_1*2)) > 255
    ·rw [if_pos c6] at H
     have c6b0:decide (255 < (wrap64 (x6_1*2)))=true:=decide_eq_true c6
     clear c6
     have H':=am H
     clear H
     go_wp2
     go_roundg k1
     case measure=>have:=HK1.out;omega
     case rel=>exact ⟨(x5_1),(Go.bits .xor .i64 (wrap64 (x6_1*2)) 283),(x7_1 / 2),d4,d4,d4,H',⟨d30⟩,d9⟩
    rw [if_neg c6] at H
    have c6b0:decide (255 < (wrap64 (x6_1*2)))=false:=decide_eq_false c6
    clear c6
    have H':=am H
    clear H
    go_wp2
    go_roundg k1
    case measure=>have:=HK1.out;omega
    case rel=>exact ⟨(x5_1),(wrap64 (x6_1*2)),(x7_1 / 2),d4,d4,d4,H',⟨d30⟩,d9⟩
   rw [if_neg c3] at H
   have c3b0:decide (0 < x7_1)=false:=decide_eq_false c3
   clear c3
   obtain rfl:=Option.some.inj H
   go_wp2
   go_ret
   exact ⟨d4,d9⟩

def spec_l1Scale.l0:Nat→Int→List Int→List Int→Int→Int→Option (List Int)
 | 0,_,_,_,_,_=>none
 | k+1,x0,x5,x8,x9,x10=>if x10 < x9 then (if 0≤x10 then (if x10 < (x8.length:Int) then ((spec_l1Times.f k x0 (rd x8 x10)).bind fun t110=>(if x5.length < 140737488355328 then (spec_l1Scale.l0 k x0 (x5 ++ [t110]) x8 x9 (wrap64 (x10+1))) else (none))) else (none)) else (none)) else (some x5)
def spec_l1Scale.f (k:Nat) (a0:Int) (l1:List Int):Option (List Int):=spec_l1Scale.l0 k a0 ([]:List Int) l1 (l1.length:Int) 0
theorem spec_l1Scale.mono_l:∀ k,(∀ y0 y1 y2 y3 y4,LeO (spec_l1Scale.l0 k y0 y1 y2 y3 y4) (spec_l1Scale.l0 (k+1) y0 y1 y2 y3 y4))
 | 0=>fun _ _ _ _ _ r h=>by simp [spec_l1Scale.l0] at h
 | k+1=>by
  have ih0:=spec_l1Scale.mono_l k
  intro y0 y1 y2 y3 y4
  unfold spec_l1Scale.l0
  repeat' first
  | (with_reducible exact ih0 _ _ _ _ _)
  | (with_reducible exact spec_l1Times.mono _ _ _)
  |(with_reducible exact LeO.refl _)|(with_reducible exact LeO.none _)|(with_reducible refine LeO.ite ?_ ?_)|(with_reducible refine LeO.bind ?_ (fun _=>?_))|exact ih0 _ _ _ _ _|exact spec_l1Times.mono _ _ _|exact LeO.none _|refine LeO.ite ?_ ?_|refine LeO.bind ?_ (fun _=>?_)
theorem spec_l1Scale.mono:∀ a0 a1 k,LeO (spec_l1Scale.f k a0 a1) (spec_l1Scale.f (k+1) a0 a1):=by
 intro a0 a1 k
 have ih0:=spec_l1Scale.mono_l k
 unfold spec_l1Scale.f
 repeat' first
   | (with_reducible exact ih0 _ _ _ _ _)
   | (with_reducible exact spec_l1Times.mono _ _ _)
   |(with_reducible exact LeO.refl _)|(with_reducible exact LeO.none _)|(with_reducible refine LeO.ite ?_ ?_)|(with_reducible refine LeO.bind ?_ (fun _=>?_))|exact ih0 _ _ _ _ _|exact spec_l1Times.mono _ _ _|exact LeO.none _|refine LeO.ite ?_ ?_|refine LeO.bind ?_ (fun _=>?_)
theorem spec_l1Scale.calls (k:Nat) (a0:Int) (A1:Option Addr) (c1:Nat) (l1:List Int) (r:List Int) (w:World) (hr1:Kd.C (Kd.int .u8) w A1 l1.length l1) (hc1:l1.length≤c1) (h:spec_l1Scale.f k a0 l1=some r) :
  Calls Try.prog 124 #[.int .u8 a0, .slice A1 l1.length c1] w fun e w'=>∃ v0_:Value,e = .returned (v0_)∧Kd.R (Kd.int .u8) 5 w' w.heap.size (fun _=>True) v0_ r∧Below w.heap.size w w':=by
 have HR1:=am hr1
 have HC1:=am hc1
 clear hr1 hc1
 have HB:=am (Below.refl w.heap.size w)
 have H:(spec_l1Scale.l0 k a0 ([]:List Int) l1 (l1.length:Int) 0)=some r:=h
 clear h
 have H':=am H
 clear H
 go_enter Try.func124,Try.ntmps124
 go_wp2
 go_loopg [5,10] k (fun kq v5 v10 w'=>∃ (x5_1:List Int) (x10_1:Int),v10 = .int .i64 x10_1∧Aside0 (spec_l1Scale.l0 kq a0 x5_1 l1 (l1.length:Int) x10_1=some r)∧Aside0 (kq≤k)∧Aside0 (Kd.R (Kd.int .u8) 5 w' w.heap.size (fun _=>True) v5 x5_1)∧Aside0 (Below w.heap.size w w'))
 case atStart=>exact ⟨(([]:List Int)),(0),d4,H',⟨Nat.le_refl _⟩,⟨d14⟩,⟨d0⟩⟩
 case round =>
  clear H'
  try clear c1
  try clear p2
  obtain ⟨x5_1,x10_1,rfl,HA,HK1,HO_5,HB⟩:=hrel
  cases gk with
  | zero=>exact absurd HA.out (by simp [spec_l1Scale.l0])
  | succ k1 =>
   have H:=HA.out
   clear HA
   simp only [spec_l1Scale.l0] at H
   by_cases c3:x10_1 < (l1.length:Int)
   ·rw [if_pos c3] at H
    have c3b0:decide (x10_1 < (l1.length:Int))=true:=decide_eq_true c3
    clear c3
    by_cases c4:0≤x10_1
    ·rw [if_pos c4] at H
     have c4b0:decide (0≤x10_1)=true:=decide_eq_true c4
     clear c4
     by_cases c5:x10_1 < (l1.length:Int)
     ·rw [if_pos c5] at H
      have c5b0:decide (x10_1 < (l1.length:Int))=true:=decide_eq_true c5
      clear c5
      replace H:=Option.bind_eq_some_iff.mp H
      obtain ⟨t110,A60,H⟩:=H
      replace H:(if x5_1.length < 140737488355328 then (spec_l1Scale.l0 k1 a0 (x5_1 ++ [t110]) l1 (l1.length:Int) (wrap64 (x10_1+1))) else (none))=some r:=H
      have A6:=am A60
      clear A60
      by_cases c7:x5_1.length < 140737488355328
      ·rw [if_pos c7] at H
       have LMc7:=am c7
       clear c7
       obtain ⟨y111,hy111⟩:∃ y_:List Int,y_=(x5_1 ++ [t110]):=⟨_,rfl⟩
       replace H:(spec_l1Scale.l0 k1 a0 y111 l1 (l1.length:Int) (wrap64 (x10_1+1)))=some r:=by first|(rw [hy111];with_reducible exact H)|(have H2_:=(Option.bind_some _ _).symm.trans H;rw [hy111];with_reducible exact H2_)|(have H2_:=(Option.bind_some _ _).symm.trans H;with_reducible exact H2_)|with_reducible exact H|(rw [hy111];exact H)|exact H
       have Ny111:=am hy111
       clear hy111
       have H':=am H
       clear H
       have p109:0≤(x10_1:Int):=od d2
       have q109:x10_1 < (l1.length:Int):=od d2
       obtain ⟨ad109,e109,hx109_0⟩:=Kd.at_int HR1.out x10_1 p109 q109
       cases e109
       replace hx109_0:=(HB.out.cell (World.block_lt_of_cell? w _ hx109_0)).trans hx109_0
       replace p109:=eq_true p109
       replace q109:=eq_true q109
       go_wp2_with (first|((with_reducible refine gate_callee (f:=174) rfl ?_);refine goesL_ (some 17) rfl rfl Try.func174 d3 rfl #[.int .u8 a0, .int .u8 (rd l1 x10_1)] rfl d1 ?_;(with_reducible refine (spec_l1Times.calls k1 a0 (rd l1 x10_1) t110 _ A6.out).mono ?_);rintro e w' ⟨rfl,⟨nd,rfl⟩⟩;refine ⟨_,rfl,?_⟩)|((with_reducible refine gate_builtin (b:=.append) (xs:=#[.tmp 14, .tmp 18]) rfl ?_);at_builtin;refine Kd.R_append (Kd.int .u8) (w0:=w) w.heap.size rfl (.tmp 14) (.tmp 18) 57 5 (.int .u8 0) 1 rfl Try.underlying57 info5 rfl d8 d15 u5 x5_1 t110 [.int .u8 t110] (fun _=>True) (fun _=>False) rfl rfl ?aP (fun _ hk=>hk.elim) ?aF ?aO ?aB ?aS ?aL ?_;(case aP=>exact rfl);(case aB=>exact d0);(case aF=>exact (fun _ _=>trivial));(case aO=>exact d21);(case aS=>exact (pz d0));(case aL=>have:=LMc7.out;omega);intro v112 w8 ho hb hg hat;rw [← Ny111.out] at ho;have n0_:=am (hb);have n1_:=am (ho);clear HB;clear HO_5;have HB:=n0_;have HO113:=n1_;clear n0_ n1_;clear ho hb hg hat))
       go_roundg k1
       case measure=>have:=HK1.out;omega
       case rel=>exact ⟨(y111),(wrap64 (x10_1+1)),d4,H',⟨d30⟩,⟨by (with_reducible repeat (first|apply Kd.R_alloc|apply Kd.R_drewN|apply Kd.R_drew));exact HO113.out⟩,⟨d0⟩⟩
      rw [if_neg c7] at H
      exact absurd H d31
     rw [if_neg c5] at H
     exact absurd H d31
    rw [if_neg c4] at H
    exact absurd H d31
   rw [if_neg c3] at H
   have c3b0:decide (x10_1 < (l1.length:Int))=false:=decide_eq_false c3
   clear c3
   obtain rfl:=Option.some.inj H
   go_wp2
   go_ret
   exact ⟨_,d5,d21,d0⟩

end Go.Proofs.Ytajikfnpcobnpaa.PFnExactRegeneratePiece
-- HALVED
-- SQUEEZED
-- SQUEEZED2
-- SQUEEZED3
-- SQUEEZED4
-- SQUEEZED5
-- SQUEEZED6
