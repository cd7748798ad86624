-- Laid by a program of this session.
import Derived.Test.YtajikfnpcobnpaaPFnExactDecodeMsrx0
import Derived.Test.YtajikfnpcobnpaaPFnExactDecodeMsrx2
namespace Go.Proofs.Ytajikfnpcobnpaa.PFnExactDecodeMsr
open Go.RowKit Go.Proofs.YtajikfnpcobnpaaW.PrintWords Go.Proofs.YtajikfnpcobnpaaW.PrintLast Go.Proofs.YtajikfnpcobnpaaW.PrintMore
attribute [local go_sem] max2_int min2_int max_two min_two max_three min_three max_four min_four   -- for this text's walks alone
set_option linter.unusedVariables false
set_option maxHeartbeats 8000000
set_option maxRecDepth 100000
set_option linter.unusedSimpArgs false

def spec_l1Power.l0:Nat→Int→Int→Int→Option (Int)
 | 0,_,_,_=>none
 | k+1,x0,x1,x5=>if x1 > 0 then ((spec_l1Times.f k x5 x0).bind fun t138=>(spec_l1Power.l0 k x0 (wrap64 (x1 - 1)) t138)) else (some x5)
def spec_l1Power.f (k:Nat) (a0:Int) (a1:Int):Option (Int):=spec_l1Power.l0 k a0 a1 1
theorem spec_l1Power.mono_l:∀ k,(∀ y0 y1 y2,LeO (spec_l1Power.l0 k y0 y1 y2) (spec_l1Power.l0 (k+1) y0 y1 y2))
 | 0=>fun _ _ _ r h=>by simp [spec_l1Power.l0] at h
 | k+1=>by
  have ih0:=spec_l1Power.mono_l k
  intro y0 y1 y2
  unfold spec_l1Power.l0
  repeat' first
  | (with_reducible exact ih0 _ _ _)
  | (with_reducible exact spec_l1Times.mono _ _ _)
  |(with_reducible exact LeO.refl _)|(with_reducible exact LeO.none _)|(with_reducible refine LeO.ite ?_ ?_)|(with_reducible refine LeO.bind ?_ (fun _=>?_))|exact ih0 _ _ _|exact spec_l1Times.mono _ _ _|exact LeO.none _|refine LeO.ite ?_ ?_|refine LeO.bind ?_ (fun _=>?_)
theorem spec_l1Power.mono:∀ a0 a1 k,LeO (spec_l1Power.f k a0 a1) (spec_l1Power.f (k+1) a0 a1):=by
 intro a0 a1 k
 have ih0:=spec_l1Power.mono_l k
 unfold spec_l1Power.f
 repeat' first
   | (with_reducible exact ih0 _ _ _)
   | (with_reducible exact spec_l1Times.mono _ _ _)
   |(with_reducible exact LeO.refl _)|(with_reducible exact LeO.none _)|(with_reducible refine LeO.ite ?_ ?_)|(with_reducible refine LeO.bind ?_ (fun _=>?_))|exact ih0 _ _ _|exact spec_l1Times.mono _ _ _|exact LeO.none _|refine LeO.ite ?_ ?_|refine LeO.bind ?_ (fun _=>?_)
theorem spec_l1Power.calls (k:Nat) (a0:Int) (a1:Int) (r:Int) (w:World) (h:spec_l1Power.f k a0 a1=some r) :
  Calls Try.prog 173 #[.int .u8 a0, .int .i64 a1] w fun e w'=>e = .returned (.int .u8 r)∧Drawn0 w w':=by
 have H:(spec_l1Power.l0 k a0 a1 1)=some r:=h
 clear h
 have H':=am H
 clear H
 go_enter Try.func173,Try.ntmps173
 go_wp2
 go_loopg [1,5] k (fun kq v1 v5 w'=>∃ (x1_1:Int) (x5_1:Int),v1 = .int .i64 x1_1∧v5 = .int .u8 x5_1∧Aside0 (spec_l1Power.l0 kq a0 x1_1 x5_1=some r)∧Aside0 (kq≤k)∧Drawn0 w w')
 case atStart=>exact ⟨(a1),(1),d2,d2,H',⟨Nat.le_refl _⟩,d12⟩
 case round =>
  clear H'
  try clear c1
  try clear p2
  obtain ⟨x1_1,x5_1,rfl,rfl,HA,HK1,⟨m1,rfl⟩⟩:=hrel
  cases gk with
  | zero=>exact absurd HA.out (by simp [spec_l1Power.l0])
  | succ k1 =>
   have H:=HA.out
   clear HA
   simp only [spec_l1Power.l0] at H
   by_cases c3:x1_1 > 0
   ·rw [if_pos c3] at H
    have c3b0:decide (0 < x1_1)=true:=decide_eq_true c3
    clear c3
    replace H:=Option.bind_eq_some_iff.mp H
    obtain ⟨t138,A40,H⟩:=H
    replace H:(spec_l1Power.l0 k1 a0 (wrap64 (x1_1 - 1)) t138)=some r:=H
    have A4:=am A40
    clear A40
    have H':=am H
    clear H
    go_wp2_with (first|((with_reducible refine gate_callee (f:=174) rfl ?_);refine goesL_ (some 12) rfl rfl Try.func174 d3 rfl #[.int .u8 x5_1, .int .u8 a0] rfl d5 ?_;(with_reducible refine (spec_l1Times.calls k1 x5_1 a0 t138 _ A4.out).mono ?_);rintro e w' ⟨rfl,⟨nd,rfl⟩⟩;refine ⟨_,rfl,?_⟩))
    go_roundg k1
    case measure=>have:=HK1.out;omega
    case rel=>exact ⟨(wrap64 (x1_1 - 1)),(t138),d2,d2,H',⟨d30⟩,d12⟩
   rw [if_neg c3] at H
   have c3b0:decide (0 < x1_1)=false:=decide_eq_false c3
   clear c3
   obtain rfl:=Option.some.inj H
   go_wp2
   go_ret
   exact ⟨d2,d12⟩

def spec_l1Inverse.f (k:Nat) (a0:Int):Option (Int):=if a0=0 then (some 0) else ((spec_l1Power.f k a0 254).bind fun t139=>(some t139))
theorem spec_l1Inverse.mono:∀ a0 k,LeO (spec_l1Inverse.f k a0) (spec_l1Inverse.f (k+1) a0):=by
 intro a0 k
 unfold spec_l1Inverse.f
 repeat' first
   | (with_reducible exact spec_l1Power.mono _ _ _)
   |(with_reducible exact LeO.refl _)|(with_reducible exact LeO.none _)|(with_reducible refine LeO.ite ?_ ?_)|(with_reducible refine LeO.bind ?_ (fun _=>?_))|exact spec_l1Power.mono _ _ _|exact LeO.none _|refine LeO.ite ?_ ?_|refine LeO.bind ?_ (fun _=>?_)
theorem spec_l1Inverse.calls (k:Nat) (a0:Int) (r:Int) (w:World) (h:spec_l1Inverse.f k a0=some r) :
  Calls Try.prog 203 #[.int .u8 a0] w fun e w'=>e = .returned (.int .u8 r)∧Drawn0 w w':=by
 have H:(if a0=0 then (some 0) else ((spec_l1Power.f k a0 254).bind fun t139=>(some t139)))=some r:=h
 clear h
 by_cases c2:a0=0
 ·rw [if_pos c2] at H
  have c2b0:(a0 == 0)=true:=beq_iff_eq.mpr c2
  have c2b1:(a0 != 0)=false:=bne_eq_false_iff_eq.mpr c2
  clear c2
  obtain rfl:=Option.some.inj H
  go_enter Try.func203,Try.ntmps203
  go_wp2
  go_ret
  exact ⟨d2,d12⟩
 rw [if_neg c2] at H
 have c2b0:(a0 == 0)=false:=beq_eq_false_iff_ne.mpr c2
 have c2b1:(a0 != 0)=true:=bne_iff_ne.mpr c2
 replace H:=Option.bind_eq_some_iff.mp H
 obtain ⟨t139,A30,H⟩:=H
 replace H:(some t139)=some r:=H
 have A3:=am A30
 clear A30
 obtain rfl:=Option.some.inj H
 go_enter Try.func203,Try.ntmps203
 go_wp2_with (first|((with_reducible refine gate_callee (f:=173) rfl ?_);refine goesL_ (some 6) rfl rfl Try.func173 d3 rfl #[.int .u8 a0, .int .i64 254] rfl d5 ?_;(with_reducible refine (spec_l1Power.calls k a0 254 t139 _ A3.out).mono ?_);rintro e w' ⟨rfl,⟨nd,rfl⟩⟩;refine ⟨_,rfl,?_⟩))
 go_ret
 exact ⟨d2,d12⟩

end Go.Proofs.Ytajikfnpcobnpaa.PFnExactDecodeMsr
-- HALVED
-- SQUEEZED
-- SQUEEZED2
-- SQUEEZED3
-- SQUEEZED4
-- SQUEEZED5
-- SQUEEZED6
