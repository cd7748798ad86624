-- Laid by a program of this session.
import Derived.Test.YtajikfnpcobnpaaPFnExactDecodeMsrx0
namespace Go.Proofs.Ytajikfnpcobnpaa.PFnExactDecodeMsr
open Go.RowKit Go.Proofs.YtajikfnpcobnpaaW.PrintWords Go.Proofs.YtajikfnpcobnpaaW.PrintLast Go.Proofs.YtajikfnpcobnpaaW.PrintMore
attribute [local go_sem] max2_int min2_int max_two min_two max_three min_three max_four min_four   -- for this text's walks alone
set_option linter.unusedVariables false
set_option maxHeartbeats 8000000
set_option maxRecDepth 100000
set_option linter.unusedSimpArgs false

def impl_Times.l0:Nat→Int→Int→Int→Int→Option (Int)
 | 0,_,_,_,_=>none
 | k+1,x1,x5,x6,x7=>if x6 < 8 then (if 0≤x6 then (if (Go.bits .and .u8 (shr .u8 x1 x6) 1)=1 then (if (wrap64 (x7*2)) > 255 then (impl_Times.l0 k x1 (Go.bits .xor .i64 x5 x7) (wrap64 (x6+1)) (Go.bits .xor .i64 (wrap64 (x7*2)) 283)) else (impl_Times.l0 k x1 (Go.bits .xor .i64 x5 x7) (wrap64 (x6+1)) (wrap64 (x7*2)))) else (if (wrap64 (x7*2)) > 255 then (impl_Times.l0 k x1 x5 (wrap64 (x6+1)) (Go.bits .xor .i64 (wrap64 (x7*2)) 283)) else (impl_Times.l0 k x1 x5 (wrap64 (x6+1)) (wrap64 (x7*2))))) else (none)) else (some ((x5) % 256))
def impl_Times.f (k:Nat) (a0:Int) (a1:Int):Option (Int):=impl_Times.l0 k a1 0 0 (wrap64 (a0))
theorem impl_Times.mono_l:∀ k,(∀ y0 y1 y2 y3,LeO (impl_Times.l0 k y0 y1 y2 y3) (impl_Times.l0 (k+1) y0 y1 y2 y3))
 | 0=>fun _ _ _ _ r h=>by simp [impl_Times.l0] at h
 | k+1=>by
  have ih0:=impl_Times.mono_l k
  intro y0 y1 y2 y3
  unfold impl_Times.l0
  repeat' first
  | (with_reducible exact ih0 _ _ _ _)
  |(with_reducible exact LeO.refl _)|(with_reducible exact LeO.none _)|(with_reducible refine LeO.ite ?_ ?_)|(with_reducible refine LeO.bind ?_ (fun _=>?_))|exact ih0 _ _ _ _|exact LeO.none _|refine LeO.ite ?_ ?_|refine LeO.bind ?_ (fun _=>?_)
theorem impl_Times.mono:∀ a0 a1 k,LeO (impl_Times.f k a0 a1) (impl_Times.f (k+1) a0 a1):=by
 intro a0 a1 k
 have ih0:=impl_Times.mono_l k
 unfold impl_Times.f
 repeat' first
   | (with_reducible exact ih0 _ _ _ _)
   |(with_reducible exact LeO.refl _)|(with_reducible exact LeO.none _)|(with_reducible refine LeO.ite ?_ ?_)|(with_reducible refine LeO.bind ?_ (fun _=>?_))|exact ih0 _ _ _ _|exact LeO.none _|refine LeO.ite ?_ ?_|refine LeO.bind ?_ (fun _=>?_)
theorem impl_Times.calls (k:Nat) (a0:Int) (a1:Int) (r:Int) (w:World) (h:impl_Times.f k a0 a1=some r) :
  Calls Try.prog 192 #[.int .u8 a0, .int .u8 a1] w fun e w'=>e = .returned (.int .u8 r)∧Drawn0 w w':=by
 have H:(impl_Times.l0 k a1 0 0 (wrap64 (a0)))=some r:=h
 clear h
 have H':=am H
 clear H
 go_enter Try.func192,Try.ntmps192
 go_wp2
 go_loopg [5,6,7] k (fun kq v5 v6 v7 w'=>∃ (x5_1:Int) (x6_1:Int) (x7_1:Int),v5 = .int .i64 x5_1∧v6 = .int .i64 x6_1∧v7 = .int .i64 x7_1∧Aside0 (impl_Times.l0 kq a1 x5_1 x6_1 x7_1=some r)∧Aside0 (kq≤k)∧Drawn0 w w')
 case atStart=>exact ⟨(0),(0),(wrap64 (a0)),d2,d2,d2,H',⟨Nat.le_refl _⟩,d12⟩
 case round =>
  clear H'
  try clear c1
  try clear p2
  obtain ⟨x5_1,x6_1,x7_1,rfl,rfl,rfl,HA,HK1,⟨m1,rfl⟩⟩:=hrel
  cases gk with
  | zero=>exact absurd HA.out (by simp [impl_Times.l0])
  | succ k1 =>
   have H:=HA.out
   clear HA
   simp only [impl_Times.l0] at H
   by_cases c3:x6_1 < 8
   ·rw [if_pos c3] at H
    have c3b0:decide (x6_1 < 8)=true:=decide_eq_true c3
    clear c3
    by_cases c4:0≤x6_1
    ·rw [if_pos c4] at H
     have c4b0:=eq_true c4
     have c4b1:decide (0≤x6_1)=true:=decide_eq_true c4
     clear c4
     obtain ⟨ji5,hji5⟩:∃ j_:Int,(shr .u8 a1 x6_1)=j_:=⟨_,rfl⟩
     replace H:(if (Go.bits .and .u8 (ji5) 1)=1 then (if (wrap64 (x7_1*2)) > 255 then (impl_Times.l0 k1 a1 (Go.bits .xor .i64 x5_1 x7_1) (wrap64 (x6_1+1)) (Go.bits .xor .i64 (wrap64 (x7_1*2)) 283)) else (impl_Times.l0 k1 a1 (Go.bits .xor .i64 x5_1 x7_1) (wrap64 (x6_1+1)) (wrap64 (x7_1*2)))) else (if (wrap64 (x7_1*2)) > 255 then (impl_Times.l0 k1 a1 x5_1 (wrap64 (x6_1+1)) (Go.bits .xor .i64 (wrap64 (x7_1*2)) 283)) else (impl_Times.l0 k1 a1 x5_1 (wrap64 (x6_1+1)) (wrap64 (x7_1*2)))))=some r:=by first|(rw [hji5] at H;exact H)|(simp only [hji5] at H ⊢;exact H)
     have hji5_:(a1 / 2 ^ min x6_1.toNat 8)=ji5:=hji5
     have hji5z:x6_1≤8→(a1 / 2 ^ x6_1.toNat)=ji5:=shr_small hji5
     by_cases c6:(Go.bits .and .u8 (ji5) 1)=1
     ·rw [if_pos c6] at H
      have c6b0:((Go.bits .and .u8 (ji5) 1) == 1)=true:=beq_iff_eq.mpr c6
      have c6b1:((Go.bits .and .u8 (ji5) 1) != 1)=false:=bne_eq_false_iff_eq.mpr c6
      clear c6
      by_cases c7:(wrap64 (x7_1*2)) > 255
      ·rw [if_pos c7] at H
       have c7b0:decide (255 < (wrap64 (x7_1*2)))=true:=decide_eq_true c7
       clear c7
       have H':=am H
       clear H
       go_wp2
       go_roundg k1
       case measure=>have:=HK1.out;omega
       case rel=>exact ⟨(Go.bits .xor .i64 x5_1 x7_1),(wrap64 (x6_1+1)),(Go.bits .xor .i64 (wrap64 (x7_1*2)) 283),d2,d2,d2,H',⟨d30⟩,d12⟩
      rw [if_neg c7] at H
      have c7b0:decide (255 < (wrap64 (x7_1*2)))=false:=decide_eq_false c7
      clear c7
      have H':=am H
      clear H
      go_wp2
      go_roundg k1
      case measure=>have:=HK1.out;omega
      case rel=>exact ⟨(Go.bits .xor .i64 x5_1 x7_1),(wrap64 (x6_1+1)),(wrap64 (x7_1*2)),d2,d2,d2,H',⟨d30⟩,d12⟩
     rw [if_neg c6] at H
     have c6b0:((Go.bits .and .u8 (ji5) 1) == 1)=false:=beq_eq_false_iff_ne.mpr c6
     have c6b1:((Go.bits .and .u8 (ji5) 1) != 1)=true:=bne_iff_ne.mpr c6
     by_cases c8:(wrap64 (x7_1*2)) > 255
     ·rw [if_pos c8] at H
      have c8b0:decide (255 < (wrap64 (x7_1*2)))=true:=decide_eq_true c8
      clear c8
      have H':=am H
      clear H
      go_wp2
      go_roundg k1
      case measure=>have:=HK1.out;omega
      case rel=>exact ⟨(x5_1),(wrap64 (x6_1+1)),(Go.bits .xor .i64 (wrap64 (x7_1*2)) 283),d2,d2,d2,H',⟨d30⟩,d12⟩
     rw [if_neg c8] at H
     have c8b0:decide (255 < (wrap64 (x7_1*2)))=false:=decide_eq_false c8
     clear c8
     have H':=am H
     clear H
     go_wp2
     go_roundg k1
     case measure=>have:=HK1.out;omega
     case rel=>exact ⟨(x5_1),(wrap64 (x6_1+1)),(wrap64 (x7_1*2)),d2,d2,d2,H',⟨d30⟩,d12⟩
    rw [if_neg c4] at H
    exact absurd H d20
   rw [if_neg c3] at H
   have c3b0:decide (x6_1 < 8)=false:=decide_eq_false c3
   clear c3
   obtain rfl:=Option.some.inj H
   go_wp2
   go_ret
   exact ⟨d2,d12⟩

def impl_power.l0:Nat→Int→Int→Int→Option (Int)
 | 0,_,_,_=>none
 | k+1,x0,x1,x5=>if x1 > 0 then (if (Go.bits .and .i64 x1 1)=1 then ((impl_Times.f k x5 x0).bind fun t101=>((impl_Times.f k x0 x0).bind fun t102=>(impl_power.l0 k t102 (x1 / 2) t101))) else ((impl_Times.f k x0 x0).bind fun t103=>(impl_power.l0 k t103 (x1 / 2) x5))) else (some x5)
def impl_power.f (k:Nat) (a0:Int) (a1:Int):Option (Int):=impl_power.l0 k a0 a1 1
theorem impl_power.mono_l:∀ k,(∀ y0 y1 y2,LeO (impl_power.l0 k y0 y1 y2) (impl_power.l0 (k+1) y0 y1 y2))
 | 0=>fun _ _ _ r h=>by simp [impl_power.l0] at h
 | k+1=>by
  have ih0:=impl_power.mono_l k
  intro y0 y1 y2
  unfold impl_power.l0
  repeat' first
  | (with_reducible exact ih0 _ _ _)
  | (with_reducible exact impl_Times.mono _ _ _)
  |(with_reducible exact LeO.refl _)|(with_reducible exact LeO.none _)|(with_reducible refine LeO.ite ?_ ?_)|(with_reducible refine LeO.bind ?_ (fun _=>?_))|exact ih0 _ _ _|exact impl_Times.mono _ _ _|exact LeO.none _|refine LeO.ite ?_ ?_|refine LeO.bind ?_ (fun _=>?_)
theorem impl_power.mono:∀ a0 a1 k,LeO (impl_power.f k a0 a1) (impl_power.f (k+1) a0 a1):=by
 intro a0 a1 k
 have ih0:=impl_power.mono_l k
 unfold impl_power.f
 repeat' first
   | (with_reducible exact ih0 _ _ _)
   | (with_reducible exact impl_Times.mono _ _ _)
   |(with_reducible exact LeO.refl _)|(with_reducible exact LeO.none _)|(with_reducible refine LeO.ite ?_ ?_)|(with_reducible refine LeO.bind ?_ (fun _=>?_))|exact ih0 _ _ _|exact impl_Times.mono _ _ _|exact LeO.none _|refine LeO.ite ?_ ?_|refine LeO.bind ?_ (fun _=>?_)
theorem impl_power.calls (k:Nat) (a0:Int) (a1:Int) (r:Int) (w:World) (h:impl_power.f k a0 a1=some r) :
  Calls Try.prog 180 #[.int .u8 a0, .int .i64 a1] w fun e w'=>e = .returned (.int .u8 r)∧Drawn0 w w':=by
 have H:(impl_power.l0 k a0 a1 1)=some r:=h
 clear h
 have H':=am H
 clear H
 go_enter Try.func180,Try.ntmps180
 go_wp2
 go_loopg [0,1,5] k (fun kq v0 v1 v5 w'=>∃ (x0_1:Int) (x1_1:Int) (x5_1:Int),v0 = .int .u8 x0_1∧v1 = .int .i64 x1_1∧v5 = .int .u8 x5_1∧Aside0 (impl_power.l0 kq x0_1 x1_1 x5_1=some r)∧Aside0 (kq≤k)∧Drawn0 w w')
 case atStart=>exact ⟨(a0),(a1),(1),d2,d2,d2,H',⟨Nat.le_refl _⟩,d12⟩
 case round =>
  clear H'
  try clear c1
  try clear p2
  obtain ⟨x0_1,x1_1,x5_1,rfl,rfl,rfl,HA,HK1,⟨m1,rfl⟩⟩:=hrel
  cases gk with
  | zero=>exact absurd HA.out (by simp [impl_power.l0])
  | succ k1 =>
   have H:=HA.out
   clear HA
   simp only [impl_power.l0] at H
   by_cases c3:x1_1 > 0
   ·rw [if_pos c3] at H
    have c3b0:decide (0 < x1_1)=true:=decide_eq_true c3
    clear c3
    by_cases c4:(Go.bits .and .i64 x1_1 1)=1
    ·rw [if_pos c4] at H
     have c4b0:((Go.bits .and .i64 x1_1 1) == 1)=true:=beq_iff_eq.mpr c4
     have c4b1:((Go.bits .and .i64 x1_1 1) != 1)=false:=bne_eq_false_iff_eq.mpr c4
     clear c4
     replace H:=Option.bind_eq_some_iff.mp H
     obtain ⟨t101,A50,H⟩:=H
     replace H:((impl_Times.f k1 x0_1 x0_1).bind fun t102=>(impl_power.l0 k1 t102 (x1_1 / 2) t101))=some r:=H
     have A5:=am A50
     clear A50
     replace H:=Option.bind_eq_some_iff.mp H
     obtain ⟨t102,A60,H⟩:=H
     replace H:(impl_power.l0 k1 t102 (x1_1 / 2) t101)=some r:=H
     have A6:=am A60
     clear A60
     have H':=am H
     clear H
     go_wp2_with (first|((with_reducible refine gate_callee (f:=192) rfl ?_);refine goesL_ (some 15) rfl rfl Try.func192 d3 rfl #[.int .u8 x5_1, .int .u8 x0_1] rfl d5 ?_;(with_reducible refine (impl_Times.calls k1 x5_1 x0_1 t101 _ A5.out).mono ?_);rintro e w' ⟨rfl,⟨nd,rfl⟩⟩;refine ⟨_,rfl,?_⟩)|((with_reducible refine gate_callee (f:=192) rfl ?_);refine goesL_ (some 18) rfl rfl Try.func192 d3 rfl #[.int .u8 x0_1, .int .u8 x0_1] rfl d5 ?_;(with_reducible refine (impl_Times.calls k1 x0_1 x0_1 t102 _ A6.out).mono ?_);rintro e w' ⟨rfl,⟨nd,rfl⟩⟩;refine ⟨_,rfl,?_⟩))
     go_roundg k1
     case measure=>have:=HK1.out;omega
     case rel=>exact ⟨(t102),(x1_1 / 2),(t101),d2,d2,d2,H',⟨d30⟩,d12⟩
    rw [if_neg c4] at H
    have c4b0:((Go.bits .and .i64 x1_1 1) == 1)=false:=beq_eq_false_iff_ne.mpr c4
    have c4b1:((Go.bits .and .i64 x1_1 1) != 1)=true:=bne_iff_ne.mpr c4
    replace H:=Option.bind_eq_some_iff.mp H
    obtain ⟨t103,A70,H⟩:=H
    replace H:(impl_power.l0 k1 t103 (x1_1 / 2) x5_1)=some r:=H
    have A7:=am A70
    clear A70
    have H':=am H
    clear H
    go_wp2_with (first|((with_reducible refine gate_callee (f:=192) rfl ?_);refine goesL_ (some 18) rfl rfl Try.func192 d3 rfl #[.int .u8 x0_1, .int .u8 x0_1] rfl d5 ?_;(with_reducible refine (impl_Times.calls k1 x0_1 x0_1 t103 _ A7.out).mono ?_);rintro e w' ⟨rfl,⟨nd,rfl⟩⟩;refine ⟨_,rfl,?_⟩))
    go_roundg k1
    case measure=>have:=HK1.out;omega
    case rel=>exact ⟨(t103),(x1_1 / 2),(x5_1),d2,d2,d2,H',⟨d30⟩,d12⟩
   rw [if_neg c3] at H
   have c3b0:decide (0 < x1_1)=false:=decide_eq_false c3
   clear c3
   obtain rfl:=Option.some.inj H
   go_wp2
   go_ret
   exact ⟨d2,d12⟩

def laws_eqByteS.l0:Nat→List Int→List Int→Int→Option (Bool)
 | 0,_,_,_=>none
 | k+1,x0,x1,x5=>if x5 < (x0.length:Int) then (if 0≤x5 then (if x5 < (x1.length:Int) then (if (rd x0 x5)=(rd x1 x5) then (laws_eqByteS.l0 k x0 x1 (wrap64 (x5+1))) else (some false)) else (none)) else (none)) else (some true)
def laws_eqByteS.f (k:Nat) (l0:List Int) (l1:List Int):Option (Bool):=if (l0.length:Int)=(l1.length:Int) then (laws_eqByteS.l0 k l0 l1 0) else (some false)
theorem laws_eqByteS.mono_l:∀ k,(∀ y0 y1 y2,LeO (laws_eqByteS.l0 k y0 y1 y2) (laws_eqByteS.l0 (k+1) y0 y1 y2))
 | 0=>fun _ _ _ r h=>by simp [laws_eqByteS.l0] at h
 | k+1=>by
  have ih0:=laws_eqByteS.mono_l k
  intro y0 y1 y2
  unfold laws_eqByteS.l0
  repeat' first
  | (with_reducible exact ih0 _ _ _)
  |(with_reducible exact LeO.refl _)|(with_reducible exact LeO.none _)|(with_reducible refine LeO.ite ?_ ?_)|(with_reducible refine LeO.bind ?_ (fun _=>?_))|exact ih0 _ _ _|exact LeO.none _|refine LeO.ite ?_ ?_|refine LeO.bind ?_ (fun _=>?_)
theorem laws_eqByteS.mono:∀ a0 a1 k,LeO (laws_eqByteS.f k a0 a1) (laws_eqByteS.f (k+1) a0 a1):=by
 intro a0 a1 k
 have ih0:=laws_eqByteS.mono_l k
 unfold laws_eqByteS.f
 repeat' first
   | (with_reducible exact ih0 _ _ _)
   |(with_reducible exact LeO.refl _)|(with_reducible exact LeO.none _)|(with_reducible refine LeO.ite ?_ ?_)|(with_reducible refine LeO.bind ?_ (fun _=>?_))|exact ih0 _ _ _|exact LeO.none _|refine LeO.ite ?_ ?_|refine LeO.bind ?_ (fun _=>?_)
theorem laws_eqByteS.calls (k:Nat) (A0:Option Addr) (c0:Nat) (l0:List Int) (A1:Option Addr) (c1:Nat) (l1:List Int) (r:Bool) (w:World) (hr0:Kd.C (Kd.int .u8) w A0 l0.length l0) (hc0:l0.length≤c0) (hr1:Kd.C (Kd.int .u8) w A1 l1.length l1) (hc1:l1.length≤c1) (h:laws_eqByteS.f k l0 l1=some r) :
  Calls Try.prog 40 #[.slice A0 l0.length c0, .slice A1 l1.length c1] w fun e w'=>e = .returned (.bool r)∧Drawn0 w w':=by
 have HR0:=am hr0
 have HC0:=am hc0
 clear hr0 hc0
 have HR1:=am hr1
 have HC1:=am hc1
 clear hr1 hc1
 have H:(if (l0.length:Int)=(l1.length:Int) then (laws_eqByteS.l0 k l0 l1 0) else (some false))=some r:=h
 clear h
 by_cases c3:(l0.length:Int)=(l1.length:Int)
 ·rw [if_pos c3] at H
  have c3b0:((l0.length:Int) == (l1.length:Int))=true:=beq_iff_eq.mpr c3
  have c3b1:((l0.length:Int) != (l1.length:Int))=false:=bne_eq_false_iff_eq.mpr c3
  have c3b2:(l0.length == l1.length)=true:=by first|simpa using c3|(simp at c3 ⊢;omega)
  clear c3
  have H':=am H
  clear H
  go_enter Try.func40,Try.ntmps40
  go_wp2
  repeat (go_quiet (fail);try go_wp2)
  go_loopg [5] k (fun kq v5 w'=>∃ (x5_1:Int),v5 = .int .i64 x5_1∧Aside0 (laws_eqByteS.l0 kq l0 l1 x5_1=some r)∧Aside0 (kq≤k)∧Drawn0 w w')
  case atStart=>exact ⟨(0),d2,H',⟨Nat.le_refl _⟩,d12⟩
  case round =>
   clear H'
   try clear c1
   try clear p2
   try clear c3
   try clear c3b0
   try clear c3b1
   try clear c3b2
   obtain ⟨x5_1,rfl,HA,HK1,⟨m1,rfl⟩⟩:=hrel
   cases gk with
   | zero=>exact absurd HA.out (by simp [laws_eqByteS.l0])
   | succ k1 =>
    have H:=HA.out
    clear HA
    simp only [laws_eqByteS.l0] at H
    by_cases c4:x5_1 < (l0.length:Int)
    ·rw [if_pos c4] at H
     have c4b0:decide (x5_1 < (l0.length:Int))=true:=decide_eq_true c4
     clear c4
     by_cases c5:0≤x5_1
     ·rw [if_pos c5] at H
      have c5b0:decide (0≤x5_1)=true:=decide_eq_true c5
      clear c5
      by_cases c6:x5_1 < (l1.length:Int)
      ·rw [if_pos c6] at H
       have c6b0:decide (x5_1 < (l1.length:Int))=true:=decide_eq_true c6
       clear c6
       by_cases c7:(rd l0 x5_1)=(rd l1 x5_1)
       ·rw [if_pos c7] at H
        have c7b0:((rd l0 x5_1) == (rd l1 x5_1))=true:=beq_iff_eq.mpr c7
        have c7b1:((rd l0 x5_1) != (rd l1 x5_1))=false:=bne_eq_false_iff_eq.mpr c7
        clear c7
        have H':=am H
        clear H
        have p104:0≤(x5_1:Int):=od d1
        have q104:x5_1 < (l0.length:Int):=od d1
        obtain ⟨ad104,e104,hx104_0⟩:=Kd.at_int HR0.out x5_1 p104 q104
        cases e104
        replace p104:=eq_true p104
        replace q104:=eq_true q104
        have p105:0≤(x5_1:Int):=od d1
        have q105:x5_1 < (l1.length:Int):=od d1
        obtain ⟨ad105,e105,hx105_0⟩:=Kd.at_int HR1.out x5_1 p105 q105
        cases e105
        replace p105:=eq_true p105
        replace q105:=eq_true q105
        go_wp2
        repeat (go_quiet (fail);try go_wp2)
        go_roundg k1
        case measure=>have:=HK1.out;omega
        case rel=>exact ⟨(wrap64 (x5_1+1)),d2,H',⟨d30⟩,d12⟩
       rw [if_neg c7] at H
       have c7b0:((rd l0 x5_1) == (rd l1 x5_1))=false:=beq_eq_false_iff_ne.mpr c7
       have c7b1:((rd l0 x5_1) != (rd l1 x5_1))=true:=bne_iff_ne.mpr c7
       obtain rfl:=Option.some.inj H
       have p104:0≤(x5_1:Int):=od d1
       have q104:x5_1 < (l0.length:Int):=od d1
       obtain ⟨ad104,e104,hx104_0⟩:=Kd.at_int HR0.out x5_1 p104 q104
       cases e104
       replace p104:=eq_true p104
       replace q104:=eq_true q104
       have p105:0≤(x5_1:Int):=od d1
       have q105:x5_1 < (l1.length:Int):=od d1
       obtain ⟨ad105,e105,hx105_0⟩:=Kd.at_int HR1.out x5_1 p105 q105
       cases e105
       replace p105:=eq_true p105
       replace q105:=eq_true q105
       go_wp2
       repeat (go_quiet (fail);try go_wp2)
       go_ret
       exact ⟨d2,d12⟩
      rw [if_neg c6] at H
      exact absurd H d20
     rw [if_neg c5] at H
     exact absurd H d20
    rw [if_neg c4] at H
    have c4b0:decide (x5_1 < (l0.length:Int))=false:=decide_eq_false c4
    clear c4
    obtain rfl:=Option.some.inj H
    go_wp2
    repeat (go_quiet (fail);try go_wp2)
    go_ret
    exact ⟨d2,d12⟩
 rw [if_neg c3] at H
 have c3b0:((l0.length:Int) == (l1.length:Int))=false:=beq_eq_false_iff_ne.mpr c3
 have c3b1:((l0.length:Int) != (l1.length:Int))=true:=bne_iff_ne.mpr c3
 have c3b2:(l0.length == l1.length)=false:=by first|simpa using c3|(simp at c3 ⊢;omega)
 obtain rfl:=Option.some.inj H
 go_enter Try.func40,Try.ntmps40
 go_wp2
 repeat (go_quiet (fail);try go_wp2)
 go_ret
 exact ⟨d2,d12⟩

def laws_markByteS.l0:Nat→List Int→Int→Int→Option (Int × List Int)
 | 0,_,_,_=>none
 | k+1,x0,x1,x5=>if x5 < (x0.length:Int) then (if 0≤x5 then (laws_markByteS.l0 k (x0.set (x5:Int).toNat ((x1) % 256)) (wrap64 (x1+1)) (wrap64 (x5+1))) else (none)) else (some (x1,x0))
def laws_markByteS.f (k:Nat) (l0:List Int) (a1:Int):Option (Int × List Int):=laws_markByteS.l0 k l0 a1 0
theorem laws_markByteS.mono_l:∀ k,(∀ y0 y1 y2,LeO (laws_markByteS.l0 k y0 y1 y2) (laws_markByteS.l0 (k+1) y0 y1 y2))
 | 0=>fun _ _ _ r h=>by simp [laws_markByteS.l0] at h
 | k+1=>by
  have ih0:=laws_markByteS.mono_l k
  intro y0 y1 y2
  unfold laws_markByteS.l0
  repeat' first
  | (with_reducible exact ih0 _ _ _)
  |(with_reducible exact LeO.refl _)|(with_reducible exact LeO.none _)|(with_reducible refine LeO.ite ?_ ?_)|(with_reducible refine LeO.bind ?_ (fun _=>?_))|exact ih0 _ _ _|exact LeO.none _|refine LeO.ite ?_ ?_|refine LeO.bind ?_ (fun _=>?_)
theorem laws_markByteS.mono:∀ a0 a1 k,LeO (laws_markByteS.f k a0 a1) (laws_markByteS.f (k+1) a0 a1):=by
 intro a0 a1 k
 have ih0:=laws_markByteS.mono_l k
 unfold laws_markByteS.f
 repeat' first
   | (with_reducible exact ih0 _ _ _)
   |(with_reducible exact LeO.refl _)|(with_reducible exact LeO.none _)|(with_reducible refine LeO.ite ?_ ?_)|(with_reducible refine LeO.bind ?_ (fun _=>?_))|exact ih0 _ _ _|exact LeO.none _|refine LeO.ite ?_ ?_|refine LeO.bind ?_ (fun _=>?_)
theorem laws_markByteS.calls (k:Nat) (P0_:Nat→Prop) (u9000_:Value) (l0:List Int) (a1:Int) (r1:Int) (r2:List Int) (w0 w:World) (hB:Below w0.heap.size w0 w) (ho0:Kd.R (Kd.int .u8) 5 w w0.heap.size P0_ u9000_ l0) (h:laws_markByteS.f k l0 a1=some (r1,r2)) :
  Calls Try.prog 41 #[u9000_, .int .i64 a1] w fun e w'=>e = .returned (.int .i64 r1)∧Kd.R (Kd.int .u8) 5 w' w0.heap.size (fun k_=>(P0_ k_∨w.heap.size≤k_)) u9000_ r2∧Below w0.heap.size w0 w'∧Kept w w' (fun k_=>P0_ k_):=by
 have HO0:=am (show Kd.R (Kd.int .u8) 5 w w0.heap.size (fun k_=>(P0_ k_∨w.heap.size≤k_)) u9000_ l0 from Kd.R_mono ho0 (fun k_ hk=>(.inl hk)))
 have HK:=am (Kept.refl w (fun k_=>P0_ k_))
 have HW0:=am hB.size
 have HB:=am hB
 clear hB
 have H:(laws_markByteS.l0 k l0 a1 0)=some (r1,r2):=h
 clear h
 have H':=am H
 clear H
 go_enter Try.func41,Try.ntmps41
 go_wp2
 go_loopg [1,5] k (fun kq v1 v5 w'=>∃ (x0_1:List Int) (x1_1:Int) (x5_1:Int),v1 = .int .i64 x1_1∧v5 = .int .i64 x5_1∧Aside0 (laws_markByteS.l0 kq x0_1 x1_1 x5_1=some (r1,r2))∧Aside0 (kq≤k)∧Aside0 (Kd.R (Kd.int .u8) 5 w' w0.heap.size (fun k_=>(P0_ k_∨w.heap.size≤k_)) u9000_ x0_1)∧Aside0 (Kept w w' (fun k_=>P0_ k_))∧Aside0 (Below w0.heap.size w0 w'))
 case atStart=>exact ⟨(l0),(a1),(0),d2,d2,H',⟨Nat.le_refl _⟩,⟨by (with_reducible repeat (first|apply Kd.R_alloc|apply Kd.R_drewN|apply Kd.R_drew));exact HO0.out⟩,⟨d36⟩,⟨d0⟩⟩
 case round =>
  clear H'
  try clear p2
  obtain ⟨x0_1,x1_1,x5_1,rfl,rfl,HA,HK1,HO_0,HK,HB⟩:=hrel
  cases gk with
  | zero=>exact absurd HA.out (by simp [laws_markByteS.l0])
  | succ k1 =>
   have H:=HA.out
   clear HA
   simp only [laws_markByteS.l0] at H
   by_cases c3:x5_1 < (x0_1.length:Int)
   ·rw [if_pos c3] at H
    have c3b0:decide (x5_1 < (x0_1.length:Int))=true:=decide_eq_true c3
    clear c3
    by_cases c4:0≤x5_1
    ·rw [if_pos c4] at H
     have c4b0:decide (0≤x5_1)=true:=decide_eq_true c4
     clear c4
     obtain ⟨y106,hy106⟩:∃ y_:List Int,y_=(x0_1.set (x5_1:Int).toNat ((x1_1) % 256)):=⟨_,rfl⟩
     replace H:(laws_markByteS.l0 k1 y106 (wrap64 (x1_1+1)) (wrap64 (x5_1+1)))=some (r1,r2):=by first|(rw [hy106];with_reducible exact H)|(have H2_:=(Option.bind_some _ _).symm.trans H;rw [hy106];with_reducible exact H2_)|(have H2_:=(Option.bind_some _ _).symm.trans H;with_reducible exact H2_)|with_reducible exact H|(rw [hy106];exact H)|exact H
     have Ny106:=am hy106
     clear hy106
     have H':=am H
     clear H
     obtain ⟨Ao6,co6,eo6⟩:=Kd.R_slice HO_0.out
     subst eo6
     have p5:0≤(x5_1:Int):=od d1
     have q5:(x5_1:Int) < ((x0_1.length:Int):Int):=od d1
     obtain ⟨go5,co5,eo5,gb5,gl5,cl5,HG5⟩:=Kd.R_form HO_0.out d10
     (first|cases eo5|(injection eo5 with ea_ en_ ec_;(first|subst ea_|(injection ea_ with ea_;subst ea_));subst ec_;clear en_))
     have GB5:=am gb5
     have GG5:=am HG5
     clear gb5 gl5 HG5
     have HMgo5:=am (show (P0_ go5∨w.heap.size≤go5) from (HO_0.out.1 _ rfl))
     obtain ⟨hx5_0,hf5_0⟩:=Kd.R_celln 0 HO_0.out (x5_1:Int) p5 q5
     replace p5:=eq_true p5
     replace q5:=eq_true q5
     have HP7:=Kd.R_putg HO_0.out (x5_1:Int) ((x1_1) % 256)
     go_wp2_with (first|((with_reducible refine gate_store (t:=5) (p:=16) rfl ?_);refine store_event (t:=5) (p:=16) (v:=?vo_w8) (w1:=(wr.setCell ⟨go5,(x5_1:Int).toNat,none⟩ (.int .u8 ((x1_1) % 256)))) ?hg ?ho ?hn ?hr ?_;(case ho=>rfl);(case hg=>rfl);(case hn=>rfl);(case hr=>first|(go_simp;done)|(go_simp;rfl));intro w8 hw;have hg:wr.grownBy w8 (some go5):=(by rw [hw];exact HP7.2);have hp_:Kd.R (Kd.int .u8) 5 w8 w0.heap.size (fun k_=>(P0_ k_∨w.heap.size≤k_)) (.slice (some ⟨go5,0,none⟩) x0_1.length co6) y106:=(by rw [hw,Ny106.out];exact HP7.1);clear HP7;have n0_:=am (hp_);have n1_:=am ((by rw [hw];exact pt (HB.out) GB5.out:Below w0.heap.size w0 w8));have n2_:=am (Kept.of_grown (S:=(fun k_=>P0_ k_)) hg d36 (fun k_ e_=>(HO_0.out.1 k_ e_)));clear HO_0;clear HB;clear HK;have HO_0:=n0_;have HB:=n1_;have HK:=n2_;clear n0_ n1_ n2_;clear hg hw hp_))
     go_roundg k1
     case measure=>have:=HK1.out;omega
     case rel=>exact ⟨(y106),(wrap64 (x1_1+1)),(wrap64 (x5_1+1)),d2,d2,H',⟨d30⟩,⟨by (with_reducible repeat (first|apply Kd.R_alloc|apply Kd.R_drewN|apply Kd.R_drew));exact HO_0.out⟩,⟨d36⟩,⟨d0⟩⟩
    rw [if_neg c4] at H
    exact absurd H d20
   rw [if_neg c3] at H
   have c3b0:decide (x5_1 < (x0_1.length:Int))=false:=decide_eq_false c3
   clear c3
   simp only [Option.some.injEq,Prod.mk.injEq] at H
   obtain ⟨rfl,rfl⟩:=H
   obtain ⟨Ao9,co9,eo9⟩:=Kd.R_slice HO_0.out
   subst eo9
   go_wp2
   go_ret
   exact ⟨d4,by (with_reducible repeat (first|apply Kd.R_alloc|apply Kd.R_drewN|apply Kd.R_drew));exact HO_0.out,d0,d36⟩

def laws_heldByteS.l0:Nat→List Int→Int→Int→Option (Int)
 | 0,_,_,_=>none
 | k+1,x0,x1,x5=>if x5 < (x0.length:Int) then (if 0≤x5 then (if (rd x0 x5)=((x1) % 256) then (laws_heldByteS.l0 k x0 (wrap64 (x1+1)) (wrap64 (x5+1))) else (some (-1))) else (none)) else (some x1)
def laws_heldByteS.f (k:Nat) (l0:List Int) (a1:Int):Option (Int):=laws_heldByteS.l0 k l0 a1 0
theorem laws_heldByteS.mono_l:∀ k,(∀ y0 y1 y2,LeO (laws_heldByteS.l0 k y0 y1 y2) (laws_heldByteS.l0 (k+1) y0 y1 y2))
 | 0=>fun _ _ _ r h=>by simp [laws_heldByteS.l0] at h
 | k+1=>by
  have ih0:=laws_heldByteS.mono_l k
  intro y0 y1 y2
  unfold laws_heldByteS.l0
  repeat' first
  | (with_reducible exact ih0 _ _ _)
  |(with_reducible exact LeO.refl _)|(with_reducible exact LeO.none _)|(with_reducible refine LeO.ite ?_ ?_)|(with_reducible refine LeO.bind ?_ (fun _=>?_))|exact ih0 _ _ _|exact LeO.none _|refine LeO.ite ?_ ?_|refine LeO.bind ?_ (fun _=>?_)
theorem laws_heldByteS.mono:∀ a0 a1 k,LeO (laws_heldByteS.f k a0 a1) (laws_heldByteS.f (k+1) a0 a1):=by
 intro a0 a1 k
 have ih0:=laws_heldByteS.mono_l k
 unfold laws_heldByteS.f
 repeat' first
   | (with_reducible exact ih0 _ _ _)
   |(with_reducible exact LeO.refl _)|(with_reducible exact LeO.none _)|(with_reducible refine LeO.ite ?_ ?_)|(with_reducible refine LeO.bind ?_ (fun _=>?_))|exact ih0 _ _ _|exact LeO.none _|refine LeO.ite ?_ ?_|refine LeO.bind ?_ (fun _=>?_)
theorem laws_heldByteS.calls (k:Nat) (A0:Option Addr) (c0:Nat) (l0:List Int) (a1:Int) (r:Int) (w:World) (hr0:Kd.C (Kd.int .u8) w A0 l0.length l0) (hc0:l0.length≤c0) (h:laws_heldByteS.f k l0 a1=some r) :
  Calls Try.prog 42 #[.slice A0 l0.length c0, .int .i64 a1] w fun e w'=>e = .returned (.int .i64 r)∧Drawn0 w w':=by
 have HR0:=am hr0
 have HC0:=am hc0
 clear hr0 hc0
 have H:(laws_heldByteS.l0 k l0 a1 0)=some r:=h
 clear h
 have H':=am H
 clear H
 go_enter Try.func42,Try.ntmps42
 go_wp2
 go_loopg [1,5] k (fun kq v1 v5 w'=>∃ (x1_1:Int) (x5_1:Int),v1 = .int .i64 x1_1∧v5 = .int .i64 x5_1∧Aside0 (laws_heldByteS.l0 kq l0 x1_1 x5_1=some r)∧Aside0 (kq≤k)∧Drawn0 w w')
 case atStart=>exact ⟨(a1),(0),d2,d2,H',⟨Nat.le_refl _⟩,d12⟩
 case round =>
  clear H'
  try clear p2
  obtain ⟨x1_1,x5_1,rfl,rfl,HA,HK1,⟨m1,rfl⟩⟩:=hrel
  cases gk with
  | zero=>exact absurd HA.out (by simp [laws_heldByteS.l0])
  | succ k1 =>
   have H:=HA.out
   clear HA
   simp only [laws_heldByteS.l0] at H
   by_cases c3:x5_1 < (l0.length:Int)
   ·rw [if_pos c3] at H
    have c3b0:decide (x5_1 < (l0.length:Int))=true:=decide_eq_true c3
    clear c3
    by_cases c4:0≤x5_1
    ·rw [if_pos c4] at H
     have c4b0:decide (0≤x5_1)=true:=decide_eq_true c4
     clear c4
     by_cases c5:(rd l0 x5_1)=((x1_1) % 256)
     ·rw [if_pos c5] at H
      have c5b0:((rd l0 x5_1) == ((x1_1) % 256))=true:=beq_iff_eq.mpr c5
      have c5b1:((rd l0 x5_1) != ((x1_1) % 256))=false:=bne_eq_false_iff_eq.mpr c5
      clear c5
      have H':=am H
      clear H
      have p107:0≤(x5_1:Int):=od d1
      have q107:x5_1 < (l0.length:Int):=od d1
      obtain ⟨ad107,e107,hx107_0⟩:=Kd.at_int HR0.out x5_1 p107 q107
      cases e107
      replace p107:=eq_true p107
      replace q107:=eq_true q107
      go_wp2
      go_roundg k1
      case measure=>have:=HK1.out;omega
      case rel=>exact ⟨(wrap64 (x1_1+1)),(wrap64 (x5_1+1)),d2,d2,H',⟨d30⟩,d12⟩
     rw [if_neg c5] at H
     have c5b0:((rd l0 x5_1) == ((x1_1) % 256))=false:=beq_eq_false_iff_ne.mpr c5
     have c5b1:((rd l0 x5_1) != ((x1_1) % 256))=true:=bne_iff_ne.mpr c5
     obtain rfl:=Option.some.inj H
     have p107:0≤(x5_1:Int):=od d1
     have q107:x5_1 < (l0.length:Int):=od d1
     obtain ⟨ad107,e107,hx107_0⟩:=Kd.at_int HR0.out x5_1 p107 q107
     cases e107
     replace p107:=eq_true p107
     replace q107:=eq_true q107
     go_wp2
     go_ret
     exact ⟨d2,d12⟩
    rw [if_neg c4] at H
    exact absurd H d20
   rw [if_neg c3] at H
   have c3b0:decide (x5_1 < (l0.length:Int))=false:=decide_eq_false c3
   clear c3
   obtain rfl:=Option.some.inj H
   go_wp2
   go_ret
   exact ⟨d2,d12⟩

def laws_toMsr.f (a0_0:Int) (a0_1:Int):Option (Int × Int):=some (a0_0,a0_1)
theorem laws_toMsr.calls (a0_0:Int) (a0_1:Int) (r1:Int) (r2:Int) (w:World) (h:laws_toMsr.f a0_0 a0_1=some (r1,r2)) :
  Calls Try.prog 45 #[.agg #[.int .i64 a0_0, .int .i64 a0_1]] w fun e w'=>e = .returned (.agg #[.int .i64 r1, .int .i64 r2])∧Below w.heap.size w w':=by
 have hu65:=Try.underlying65
 have hu72:=Try.underlying72
 have HB:=am (Below.refl w.heap.size w)
 have H:(some (a0_0,a0_1))=some (r1,r2):=h
 clear h
 simp only [Option.some.injEq,Prod.mk.injEq] at H
 obtain ⟨rfl,rfl⟩:=H
 go_enter Try.func45,Try.ntmps45
 go_wp2_with (first|((with_reducible refine gate_dst (N:=1) rfl ?_);refine box_event ?hg (N:=1) ?hd (cs:=#[.int .i64 a0_0, .int .i64 a0_1]) (t:=65) ?hr ?_;(case hd=>rfl);(case hg=>rfl);(case hr=>first|(go_simp;done)|(go_simp;rfl));intro gb108 hg w2 hbox hb;have n0_:=am (pu d0 hb);have n1_:=am (hbox);have n2_:=am ((by rw [hg];exact (pz d0):w.heap.size≤gb108));have n3_:=n2_;clear HB;have HB:=n0_;have BK108:=n1_;have GW108:=n2_;have GE108:=n3_;clear n0_ n1_ n2_ n3_;clear hb hbox hg)|((with_reducible refine gate_dst (N:=2) rfl ?_);refine box_event ?hg (N:=2) ?hd (cs:=#[.int .i64 0, .int .i64 0]) (t:=72) ?hr ?_;(case hd=>rfl);(case hg=>rfl);(case hr=>first|(go_simp;done)|(go_simp;rfl));intro gb109 hg w3 hbox hb;have n0_:=am (qb (g:=gb108) (o:=.cells #[.int .i64 a0_0, .int .i64 a0_1] 65 (0,0)) (by (with_reducible repeat (first|refine qn ?_ _|refine qd ?_|refine qa ?_ _));exact BK108.out) hb);have n1_:=am (pu (by repeat (first|(with_reducible first|exact HB.out|apply pa|apply pb|apply pd|refine pt ?_ GE108.out)|exact HB.out)) hb);have n2_:=am (hbox);have n3_:=am ((by rw [hg];exact (pz (by repeat (first|(with_reducible first|exact HB.out|apply pa|apply pb|apply pd|refine pt ?_ GE108.out)|exact HB.out))):w.heap.size≤gb109));have n4_:=n3_;have n5_:=am ((by rw [hg];exact Nat.ne_of_lt (blk_lt (g:=gb108) (o:=.cells #[.int .i64 a0_0, .int .i64 a0_1] 65 (0,0)) (by (with_reducible repeat (first|refine qn ?_ _|refine qd ?_|refine qa ?_ _));exact BK108.out)):gb108 ≠ gb109));have n6_:=am ((by rw [hg];exact Nat.ne_of_gt (blk_lt (g:=gb108) (o:=.cells #[.int .i64 a0_0, .int .i64 a0_1] 65 (0,0)) (by (with_reducible repeat (first|refine qn ?_ _|refine qd ?_|refine qa ?_ _));exact BK108.out)):gb109 ≠ gb108));clear BK108;clear HB;have BK108:=n0_;have HB:=n1_;have BK109:=n2_;have GW109:=n3_;have GE109:=n4_;have NB108_109:=n5_;have NB109_108:=n6_;clear n0_ n1_ n2_ n3_ n4_ n5_ n6_;clear hb hbox hg)|((with_reducible refine gate_dst (N:=3) rfl ?_);refine box_event ?hg (N:=3) ?hd (cs:=#[.int .i64 0, .int .i64 0]) (t:=72) ?hr ?_;(case hd=>rfl);(case hg=>rfl);(case hr=>first|(go_simp;done)|(go_simp;rfl));intro gb110 hg w4 hbox hb;have n0_:=am (qb (g:=gb108) (o:=.cells #[.int .i64 a0_0, .int .i64 a0_1] 65 (0,0)) (by (with_reducible repeat (first|refine qn ?_ _|refine qd ?_|refine qa ?_ _));exact BK108.out) hb);have n1_:=am (qb (g:=gb109) (o:=.cells #[.int .i64 0, .int .i64 0] 72 (0,0)) (by (with_reducible repeat (first|refine qn ?_ _|refine qd ?_|refine qa ?_ _));exact BK109.out) hb);have n2_:=am (pu (by repeat (first|(with_reducible first|exact HB.out|apply pa|apply pb|apply pd|refine pt ?_ GE108.out|refine pt ?_ GE109.out)|exact HB.out)) hb);have n3_:=am (hbox);have n4_:=am ((by rw [hg];exact (pz (by repeat (first|(with_reducible first|exact HB.out|apply pa|apply pb|apply pd|refine pt ?_ GE108.out|refine pt ?_ GE109.out)|exact HB.out))):w.heap.size≤gb110));have n5_:=n4_;have n6_:=am ((by rw [hg];exact Nat.ne_of_lt (blk_lt (g:=gb108) (o:=.cells #[.int .i64 a0_0, .int .i64 a0_1] 65 (0,0)) (by (with_reducible repeat (first|refine qn ?_ _|refine qd ?_|refine qa ?_ _));exact BK108.out)):gb108 ≠ gb110));have n7_:=am ((by rw [hg];exact Nat.ne_of_gt (blk_lt (g:=gb108) (o:=.cells #[.int .i64 a0_0, .int .i64 a0_1] 65 (0,0)) (by (with_reducible repeat (first|refine qn ?_ _|refine qd ?_|refine qa ?_ _));exact BK108.out)):gb110 ≠ gb108));have n8_:=am ((by rw [hg];exact Nat.ne_of_lt (blk_lt (g:=gb109) (o:=.cells #[.int .i64 0, .int .i64 0] 72 (0,0)) (by (with_reducible repeat (first|refine qn ?_ _|refine qd ?_|refine qa ?_ _));exact BK109.out)):gb109 ≠ gb110));have n9_:=am ((by rw [hg];exact Nat.ne_of_gt (blk_lt (g:=gb109) (o:=.cells #[.int .i64 0, .int .i64 0] 72 (0,0)) (by (with_reducible repeat (first|refine qn ?_ _|refine qd ?_|refine qa ?_ _));exact BK109.out)):gb110 ≠ gb109));clear BK108;clear BK109;clear HB;have BK108:=n0_;have BK109:=n1_;have HB:=n2_;have BK110:=n3_;have GW110:=n4_;have GE110:=n5_;have NB108_110:=n6_;have NB110_108:=n7_;have NB109_110:=n8_;have NB110_109:=n9_;clear n0_ n1_ n2_ n3_ n4_ n5_ n6_ n7_ n8_ n9_;clear hb hbox hg;have hnb5:=NB108_109.out;have hnc5:=NB109_108.out;have hnb6:=NB108_110.out;have hnc6:=NB110_108.out;have hcz7_0:w4.cell? ⟨gb108,0,none⟩=some (.int .i64 a0_0):=(blk_cell BK108.out 0).trans rfl;have hcz7_1:w4.cell? ⟨gb108,1,none⟩=some (.int .i64 a0_1):=(blk_cell BK108.out 1).trans rfl;have hfz7_0:=blk_frozen BK108.out 0;have hfz7_1:=blk_frozen BK108.out 1;have hnb8:=NB110_109.out;have hnc8:=NB109_110.out;have hcz9_0:w4.cell? ⟨gb110,0,none⟩=some (.int .i64 0):=(blk_cell BK110.out 0).trans rfl;have hcz9_1:w4.cell? ⟨gb110,1,none⟩=some (.int .i64 0):=(blk_cell BK110.out 1).trans rfl;have hfz9_0:=blk_frozen BK110.out 0;have hfz9_1:=blk_frozen BK110.out 1;have hcz10_0:w4.cell? ⟨gb109,0,none⟩=some (.int .i64 0):=(blk_cell BK109.out 0).trans rfl;have hcz10_1:w4.cell? ⟨gb109,1,none⟩=some (.int .i64 0):=(blk_cell BK109.out 1).trans rfl;have hfz10_0:=blk_frozen BK109.out 0;have hfz10_1:=blk_frozen BK109.out 1))
 refine bodyPost_ret (results_cell_row rfl _ _ gb109 72 #[.int .i64 a0_0, .int .i64 a0_1] (0,0) _ rfl (by (with_reducible repeat (first|refine qn ?_ _|refine qd ?_|refine qa ?_ _));refine blk_put (cs:=#[.int .i64 a0_0, .int .i64 0]) ?_ 1 _ rfl;(with_reducible repeat (first|refine qn ?_ _|refine qd ?_|refine qa ?_ _));refine blk_put (cs:=#[.int .i64 0, .int .i64 0]) ?_ 0 _ rfl;(with_reducible repeat (first|refine qn ?_ _|refine qd ?_|refine qa ?_ _));refine blk_far ?_ NB109_110.out _;(with_reducible repeat (first|refine qn ?_ _|refine qd ?_|refine qa ?_ _));refine blk_far ?_ NB109_110.out _;(with_reducible repeat (first|refine qn ?_ _|refine qd ?_|refine qa ?_ _));exact BK109.out) Try.underlying72 rfl d3) rfl ?_
 exact ⟨d4,by repeat (first|(with_reducible first|exact HB.out|apply pa|apply pb|apply pd|refine pt ?_ GE108.out|refine pt ?_ GE109.out|refine pt ?_ GE110.out)|exact HB.out)⟩

def laws_szByteS.f (l0:List Int) (a1:Int):Option (Int):=if (wrap64 (a1 - (l0.length:Int))) < 0 then (some (-1)) else (some (wrap64 (a1 - (l0.length:Int))))
theorem laws_szByteS.calls (A0:Option Addr) (c0:Nat) (l0:List Int) (a1:Int) (r:Int) (w:World) (hr0:Kd.C (Kd.int .u8) w A0 l0.length l0) (hc0:l0.length≤c0) (h:laws_szByteS.f l0 a1=some r) :
  Calls Try.prog 185 #[.slice A0 l0.length c0, .int .i64 a1] w fun e w'=>e = .returned (.int .i64 r)∧Drawn0 w w':=by
 have HR0:=am hr0
 have HC0:=am hc0
 clear hr0 hc0
 have H:(if (wrap64 (a1 - (l0.length:Int))) < 0 then (some (-1)) else (some (wrap64 (a1 - (l0.length:Int)))))=some r:=h
 clear h
 by_cases c3:(wrap64 (a1 - (l0.length:Int))) < 0
 ·rw [if_pos c3] at H
  have c3b0:decide ((wrap64 (a1 - (l0.length:Int))) < 0)=true:=decide_eq_true c3
  clear c3
  obtain rfl:=Option.some.inj H
  go_enter Try.func185,Try.ntmps185
  go_wp2
  go_ret
  exact ⟨d2,d12⟩
 rw [if_neg c3] at H
 have c3b0:decide ((wrap64 (a1 - (l0.length:Int))) < 0)=false:=decide_eq_false c3
 clear c3
 obtain rfl:=Option.some.inj H
 go_enter Try.func185,Try.ntmps185
 go_wp2
 go_ret
 exact ⟨d2,d12⟩

def laws_szPiece.f (a0_0:Int) (l0_1:List Int) (a1:Int):Option (Int):=(laws_szByteS.f l0_1 a1).bind fun t112=>(if t112 < 0 then (some (-1)) else (some t112))
theorem laws_szPiece.calls (a0_0:Int) (A0_1:Option Addr) (c0_1:Nat) (l0_1:List Int) (a1:Int) (r:Int) (w:World) (hr0_1:Kd.C (Kd.int .u8) w A0_1 l0_1.length l0_1) (hc0_1:l0_1.length≤c0_1) (h:laws_szPiece.f a0_0 l0_1 a1=some r) :
  Calls Try.prog 148 #[.agg #[.int .i64 a0_0, .slice A0_1 l0_1.length c0_1], .int .i64 a1] w fun e w'=>e = .returned (.int .i64 r)∧Below w.heap.size w w':=by
 have hu169:=Try.underlying169
 have HR0_1:=am hr0_1
 have HC0_1:=am hc0_1
 clear hr0_1 hc0_1
 have HB:=am (Below.refl w.heap.size w)
 have H:((laws_szByteS.f l0_1 a1).bind fun t112=>(if t112 < 0 then (some (-1)) else (some t112)))=some r:=h
 clear h
 replace H:=Option.bind_eq_some_iff.mp H
 obtain ⟨t112,A30,H⟩:=H
 replace H:(if t112 < 0 then (some (-1)) else (some t112))=some r:=H
 have A3:=am A30
 clear A30
 by_cases c4:t112 < 0
 ·rw [if_pos c4] at H
  have c4b0:decide (t112 < 0)=true:=decide_eq_true c4
  clear c4
  obtain rfl:=Option.some.inj H
  go_enter Try.func148,Try.ntmps148
  go_wp2_with (first|((with_reducible refine gate_dst (N:=2) rfl ?_);refine box_event ?hg (N:=2) ?hd (cs:=#[.int .i64 a0_0, .slice A0_1 l0_1.length c0_1]) (t:=169) ?hr ?_;(case hd=>rfl);(case hg=>rfl);(case hr=>first|(go_simp;done)|(go_simp;rfl));intro gb111 hg w5 hbox hb;have n0_:=am (pu d0 hb);have n1_:=am (hbox);have n2_:=am ((by rw [hg];exact (pz d0):w.heap.size≤gb111));have n3_:=n2_;clear HB;have HB:=n0_;have BK111:=n1_;have GW111:=n2_;have GE111:=n3_;clear n0_ n1_ n2_ n3_;clear hb hbox hg;have hcz6_0:w5.cell? ⟨gb111,0,none⟩=some (.int .i64 a0_0):=(blk_cell BK111.out 0).trans rfl;have hcz6_1:w5.cell? ⟨gb111,1,none⟩=some (.slice A0_1 l0_1.length c0_1):=(blk_cell BK111.out 1).trans rfl;have hfz6_0:=blk_frozen BK111.out 0;have hfz6_1:=blk_frozen BK111.out 1)|((with_reducible refine gate_callee (f:=185) rfl ?_);refine goesL_ (some 8) rfl rfl Try.func185 d3 rfl #[.slice A0_1 l0_1.length c0_1, .int .i64 a1] rfl d5 ?_;(with_reducible refine (laws_szByteS.calls _ _ l0_1 a1 t112 _ ?side1 ?side2 A3.out).mono ?_);(case side1=>repeat (first|exact (Kd.C_below HR0_1.out HB.out)|(with_reducible refine Kd.C_alloc ?_ _)|(with_reducible refine Kd.C_drewN ?_ _)|(with_reducible refine Kd.C_drew ?_)));(case side2=>exact HC0_1.out);rintro e w' ⟨rfl,⟨nd,rfl⟩⟩;refine ⟨_,rfl,?_⟩))
  go_ret
  exact ⟨d4,by repeat (first|(with_reducible first|exact HB.out|apply pa|apply pb|apply pd|refine pt ?_ GE111.out)|exact HB.out)⟩
 rw [if_neg c4] at H
 have c4b0:decide (t112 < 0)=false:=decide_eq_false c4
 clear c4
 obtain rfl:=Option.some.inj H
 go_enter Try.func148,Try.ntmps148
 go_wp2_with (first|((with_reducible refine gate_dst (N:=2) rfl ?_);refine box_event ?hg (N:=2) ?hd (cs:=#[.int .i64 a0_0, .slice A0_1 l0_1.length c0_1]) (t:=169) ?hr ?_;(case hd=>rfl);(case hg=>rfl);(case hr=>first|(go_simp;done)|(go_simp;rfl));intro gb111 hg w7 hbox hb;have n0_:=am (pu d0 hb);have n1_:=am (hbox);have n2_:=am ((by rw [hg];exact (pz d0):w.heap.size≤gb111));have n3_:=n2_;clear HB;have HB:=n0_;have BK111:=n1_;have GW111:=n2_;have GE111:=n3_;clear n0_ n1_ n2_ n3_;clear hb hbox hg;have hcz8_0:w7.cell? ⟨gb111,0,none⟩=some (.int .i64 a0_0):=(blk_cell BK111.out 0).trans rfl;have hcz8_1:w7.cell? ⟨gb111,1,none⟩=some (.slice A0_1 l0_1.length c0_1):=(blk_cell BK111.out 1).trans rfl;have hfz8_0:=blk_frozen BK111.out 0;have hfz8_1:=blk_frozen BK111.out 1)|((with_reducible refine gate_callee (f:=185) rfl ?_);refine goesL_ (some 8) rfl rfl Try.func185 d3 rfl #[.slice A0_1 l0_1.length c0_1, .int .i64 a1] rfl d5 ?_;(with_reducible refine (laws_szByteS.calls _ _ l0_1 a1 t112 _ ?side1 ?side2 A3.out).mono ?_);(case side1=>repeat (first|exact (Kd.C_below HR0_1.out HB.out)|(with_reducible refine Kd.C_alloc ?_ _)|(with_reducible refine Kd.C_drewN ?_ _)|(with_reducible refine Kd.C_drew ?_)));(case side2=>exact HC0_1.out);rintro e w' ⟨rfl,⟨nd,rfl⟩⟩;refine ⟨_,rfl,?_⟩))
 go_ret
 exact ⟨d4,by repeat (first|(with_reducible first|exact HB.out|apply pa|apply pb|apply pd|refine pt ?_ GE111.out)|exact HB.out)⟩

def laws_szPieceS.l0:Nat→List (S169)→Int→Int→Option (Int)
 | 0,_,_,_=>none
 | k+1,x0,x1,x5=>if x5 < (x0.length:Int) then (if 0≤x5 then ((laws_szPiece.f ((rd_T169 x0 x5).f0) ((rd_T169 x0 x5).f1) x1).bind fun t114=>(if t114 < 0 then (some (-1)) else (laws_szPieceS.l0 k x0 t114 (wrap64 (x5+1))))) else (none)) else (some x1)
def laws_szPieceS.f (k:Nat) (l0:List (S169)) (a1:Int):Option (Int):=if (wrap64 (a1 - (l0.length:Int))) < 0 then (some (-1)) else (laws_szPieceS.l0 k l0 (wrap64 (a1 - (l0.length:Int))) 0)
theorem laws_szPieceS.mono_l:∀ k,(∀ y0 y1 y2,LeO (laws_szPieceS.l0 k y0 y1 y2) (laws_szPieceS.l0 (k+1) y0 y1 y2))
 | 0=>fun _ _ _ r h=>by simp [laws_szPieceS.l0] at h
 | k+1=>by
  have ih0:=laws_szPieceS.mono_l k
  intro y0 y1 y2
  unfold laws_szPieceS.l0
  repeat' first
  | (with_reducible exact ih0 _ _ _)
  |(with_reducible exact LeO.refl _)|(with_reducible exact LeO.none _)|(with_reducible refine LeO.ite ?_ ?_)|(with_reducible refine LeO.bind ?_ (fun _=>?_))|exact ih0 _ _ _|exact LeO.none _|refine LeO.ite ?_ ?_|refine LeO.bind ?_ (fun _=>?_)
theorem laws_szPieceS.mono:∀ a0 a1 k,LeO (laws_szPieceS.f k a0 a1) (laws_szPieceS.f (k+1) a0 a1):=by
 intro a0 a1 k
 have ih0:=laws_szPieceS.mono_l k
 unfold laws_szPieceS.f
 repeat' first
   | (with_reducible exact ih0 _ _ _)
   |(with_reducible exact LeO.refl _)|(with_reducible exact LeO.none _)|(with_reducible refine LeO.ite ?_ ?_)|(with_reducible refine LeO.bind ?_ (fun _=>?_))|exact ih0 _ _ _|exact LeO.none _|refine LeO.ite ?_ ?_|refine LeO.bind ?_ (fun _=>?_)
theorem laws_szPieceS.calls (k:Nat) (A0:Option Addr) (c0:Nat) (l0:List (S169)) (a1:Int) (r:Int) (w:World) (hr0:Kd.C k169 w A0 l0.length l0) (hc0:l0.length≤c0) (h:laws_szPieceS.f k l0 a1=some r) :
  Calls Try.prog 67 #[.slice A0 l0.length c0, .int .i64 a1] w fun e w'=>e = .returned (.int .i64 r)∧Below w.heap.size w w':=by
 have hu169:=Try.underlying169
 have HR0:=am hr0
 have HC0:=am hc0
 clear hr0 hc0
 have HB:=am (Below.refl w.heap.size w)
 have H:(if (wrap64 (a1 - (l0.length:Int))) < 0 then (some (-1)) else (laws_szPieceS.l0 k l0 (wrap64 (a1 - (l0.length:Int))) 0))=some r:=h
 clear h
 by_cases c3:(wrap64 (a1 - (l0.length:Int))) < 0
 ·rw [if_pos c3] at H
  have c3b0:decide ((wrap64 (a1 - (l0.length:Int))) < 0)=true:=decide_eq_true c3
  clear c3
  obtain rfl:=Option.some.inj H
  go_enter Try.func67,Try.ntmps67
  go_wp2
  go_ret
  exact ⟨d4,d0⟩
 rw [if_neg c3] at H
 have c3b0:decide ((wrap64 (a1 - (l0.length:Int))) < 0)=false:=decide_eq_false c3
 clear c3
 have H':=am H
 clear H
 go_enter Try.func67,Try.ntmps67
 go_wp2
 go_loopg [1,5] k (fun kq v1 v5 w'=>∃ (x1_1:Int) (x5_1:Int),v1 = .int .i64 x1_1∧v5 = .int .i64 x5_1∧Aside0 (laws_szPieceS.l0 kq l0 x1_1 x5_1=some r)∧Aside0 (kq≤k)∧Aside0 (Below w.heap.size w w'))
 case atStart=>exact ⟨(wrap64 (a1 - (l0.length:Int))),(0),d2,d2,H',⟨Nat.le_refl _⟩,⟨d0⟩⟩
 case round =>
  clear H'
  try clear p2
  try clear c3
  try clear c3b0
  obtain ⟨x1_1,x5_1,rfl,rfl,HA,HK1,HB⟩:=hrel
  cases gk with
  | zero=>exact absurd HA.out (by simp [laws_szPieceS.l0])
  | succ k1 =>
   have H:=HA.out
   clear HA
   simp only [laws_szPieceS.l0] at H
   by_cases c4:x5_1 < (l0.length:Int)
   ·rw [if_pos c4] at H
    have c4b0:decide (x5_1 < (l0.length:Int))=true:=decide_eq_true c4
    clear c4
    by_cases c5:0≤x5_1
    ·rw [if_pos c5] at H
     have c5b0:decide (0≤x5_1)=true:=decide_eq_true c5
     clear c5
     replace H:=Option.bind_eq_some_iff.mp H
     obtain ⟨t114,A60,H⟩:=H
     replace H:(if t114 < 0 then (some (-1)) else (laws_szPieceS.l0 k1 l0 t114 (wrap64 (x5_1+1))))=some r:=H
     have A6:=am A60
     clear A60
     by_cases c7:t114 < 0
     ·rw [if_pos c7] at H
      have c7b0:decide (t114 < 0)=true:=decide_eq_true c7
      clear c7
      obtain rfl:=Option.some.inj H
      have p113:0≤(x5_1:Int):=od d1
      have q113:x5_1 < (l0.length:Int):=od d1
      obtain ⟨ad113,A113_1,c113_1,e113,hx113_0,hx113_1,hl113_1,hi113_1⟩:=at_T169 HR0.out x5_1 p113 q113
      cases e113
      replace hx113_0:=(HB.out.cell (World.block_lt_of_cell? w _ hx113_0)).trans hx113_0
      replace hx113_1:=(HB.out.cell (World.block_lt_of_cell? w _ hx113_1)).trans hx113_1
      have HR113_1:=am hi113_1
      have HC113_1:=am hl113_1
      clear hi113_1 hl113_1
      replace p113:=eq_true p113
      replace q113:=eq_true q113
      go_wp2_with (first|((with_reducible refine gate_callee (f:=148) rfl ?_);refine goesL_ (some 23) rfl rfl Try.func148 d3 rfl #[.agg #[.int .i64 ((rd_T169 l0 x5_1).f0), .slice A113_1 ((rd_T169 l0 x5_1).f1).length c113_1], .int .i64 x1_1] rfl d5 ?_;(with_reducible refine (laws_szPiece.calls ((rd_T169 l0 x5_1).f0) _ _ ((rd_T169 l0 x5_1).f1) x1_1 t114 _ ?side1 ?side2 A6.out).mono ?_);(case side1=>repeat (first|exact (Kd.C_below HR113_1.out HB.out)|(with_reducible refine Kd.C_alloc ?_ _)|(with_reducible refine Kd.C_drewN ?_ _)|(with_reducible refine Kd.C_drew ?_)));(case side2=>exact HC113_1.out);rintro e w8 ⟨rfl,hb⟩;refine ⟨_,rfl,?_⟩;have n0_:=am (pu d0 hb);clear HB;have HB:=n0_;clear n0_;(try clear hb);(try clear hb2);(try clear hk);(try clear hi)))
      go_ret
      exact ⟨d4,d0⟩
     rw [if_neg c7] at H
     have c7b0:decide (t114 < 0)=false:=decide_eq_false c7
     clear c7
     have H':=am H
     clear H
     have p113:0≤(x5_1:Int):=od d1
     have q113:x5_1 < (l0.length:Int):=od d1
     obtain ⟨ad113,A113_1,c113_1,e113,hx113_0,hx113_1,hl113_1,hi113_1⟩:=at_T169 HR0.out x5_1 p113 q113
     cases e113
     replace hx113_0:=(HB.out.cell (World.block_lt_of_cell? w _ hx113_0)).trans hx113_0
     replace hx113_1:=(HB.out.cell (World.block_lt_of_cell? w _ hx113_1)).trans hx113_1
     have HR113_1:=am hi113_1
     have HC113_1:=am hl113_1
     clear hi113_1 hl113_1
     replace p113:=eq_true p113
     replace q113:=eq_true q113
     go_wp2_with (first|((with_reducible refine gate_callee (f:=148) rfl ?_);refine goesL_ (some 23) rfl rfl Try.func148 d3 rfl #[.agg #[.int .i64 ((rd_T169 l0 x5_1).f0), .slice A113_1 ((rd_T169 l0 x5_1).f1).length c113_1], .int .i64 x1_1] rfl d5 ?_;(with_reducible refine (laws_szPiece.calls ((rd_T169 l0 x5_1).f0) _ _ ((rd_T169 l0 x5_1).f1) x1_1 t114 _ ?side1 ?side2 A6.out).mono ?_);(case side1=>repeat (first|exact (Kd.C_below HR113_1.out HB.out)|(with_reducible refine Kd.C_alloc ?_ _)|(with_reducible refine Kd.C_drewN ?_ _)|(with_reducible refine Kd.C_drew ?_)));(case side2=>exact HC113_1.out);rintro e w9 ⟨rfl,hb⟩;refine ⟨_,rfl,?_⟩;have n0_:=am (pu d0 hb);clear HB;have HB:=n0_;clear n0_;(try clear hb);(try clear hb2);(try clear hk);(try clear hi)))
     go_roundg k1
     case measure=>have:=HK1.out;omega
     case rel=>exact ⟨(t114),(wrap64 (x5_1+1)),d2,d2,H',⟨d30⟩,⟨d0⟩⟩
    rw [if_neg c5] at H
    exact absurd H d20
   rw [if_neg c4] at H
   have c4b0:decide (x5_1 < (l0.length:Int))=false:=decide_eq_false c4
   clear c4
   obtain rfl:=Option.some.inj H
   go_wp2
   go_ret
   exact ⟨d4,d0⟩

end Go.Proofs.Ytajikfnpcobnpaa.PFnExactDecodeMsr
-- HALVED
-- SQUEEZED
-- SQUEEZED2
-- SQUEEZED3
-- SQUEEZED4
-- SQUEEZED5
-- SQUEEZED6
