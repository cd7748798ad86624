-- Laid by a program of this session.
import Derived.Test.YtajikfnpcobnpaaVMendStripeB
import Derived.Test.YtajikfnpcobnpaaPFnExactMendStripex0
namespace Go.Proofs.Ytajikfnpcobnpaa.PFnExactMendStripe
open Go.RowKit Go.Proofs.YtajikfnpcobnpaaW.PrintWords Go.Proofs.YtajikfnpcobnpaaW.PrintLast Go.Proofs.YtajikfnpcobnpaaW.PrintMore Go.Proofs.Ytajikfnpcobnpaa.KitS
attribute [local go_sem] max2_int min2_int max_two min_two max_three min_three max_four min_four   -- for this text's walks alone
set_option linter.unusedVariables false
set_option maxHeartbeats 8000000
set_option maxRecDepth 100000
set_option linter.unusedSimpArgs false

def impl_Times.l0:Nat→Int→Int→Int→Int→Option (Int)
 | 0,_,_,_,_=>none
 | k+1,x1,x5,x6,x7=>if x6 < 8 then (if 0≤x6 then (if (Go.bits .and .u8 (shr .u8 x1 x6) 1)=1 then (if (wrap64 (x7*2)) > 255 then (impl_Times.l0 k x1 (Go.bits .xor .i64 x5 x7) (wrap64 (x6+1)) (Go.bits .xor .i64 (wrap64 (x7*2)) 283)) else (impl_Times.l0 k x1 (Go.bits .xor .i64 x5 x7) (wrap64 (x6+1)) (wrap64 (x7*2)))) else (if (wrap64 (x7*2)) > 255 then (impl_Times.l0 k x1 x5 (wrap64 (x6+1)) (Go.bits .xor .i64 (wrap64 (x7*2)) 283)) else (impl_Times.l0 k x1 x5 (wrap64 (x6+1)) (wrap64 (x7*2))))) else (none)) else (some ((x5) % 256))
def impl_Times.f (k:Nat) (a0:Int) (a1:Int):Option (Int):=impl_Times.l0 k a1 0 0 (wrap64 (a0))
theorem impl_Times.mono_l:∀ k,(∀ y0 y1 y2 y3,LeO (impl_Times.l0 k y0 y1 y2 y3) (impl_Times.l0 (k+1) y0 y1 y2 y3))
 | 0=>fun _ _ _ _ r h=>by simp [impl_Times.l0] at h
 | k+1=>by
  have ih0:=impl_Times.mono_l k
  intro y0 y1 y2 y3
  unfold impl_Times.l0
  exact mm
theorem impl_Times.mono:∀ a0 a1 k,LeO (impl_Times.f k a0 a1) (impl_Times.f (k+1) a0 a1):=by
 intro a0 a1 k
 have ih0:=impl_Times.mono_l k
 unfold impl_Times.f
 exact mm
theorem impl_Times.calls (k:Nat) (a0:Int) (a1:Int) (r:Int) (w:World) (h:impl_Times.f k a0 a1=some r) :
  Calls Try.prog 192 #[.int .u8 a0, .int .u8 a1] w fun e w'=>e = .returned (.int .u8 r)∧Drawn0 w w':=by
 have H:=h
 unfold impl_Times.f at H
 clear h
 have H':=am H
 clear H
 go_enter Try.func192,Try.ntmps192
 go_wp2
 go_loopg [5,6,7] k (fun kq v5 v6 v7 w'=>∃ (x5_1:Int) (x6_1:Int) (x7_1:Int),v5 = .int .i64 x5_1∧v6 = .int .i64 x6_1∧v7 = .int .i64 x7_1∧Aside0 (impl_Times.l0 kq a1 x5_1 x6_1 x7_1=some r)∧Aside0 (kq≤k)∧Drawn0 w w')
 case atStart=>exact ⟨(0),(0),(wrap64 (a0)),D1,D1,D1,H',⟨Nat.le_refl _⟩,D5⟩
 case round =>
  clear H'
  try clear c1
  try clear p2
  obtain ⟨x5_1,x6_1,x7_1,rfl,rfl,rfl,HA,HK1,⟨m1,rfl⟩⟩:=hrel
  cases gk with
  | zero=>exact absurd HA.out (by simp [impl_Times.l0])
  | succ k1 =>
   have H:=HA.out
   clear HA
   simp only [impl_Times.l0] at H
   by_cases c3:x6_1 < 8
   ·rw [if_pos c3] at H
    have c3b0:=decide_eq_true c3
    clear c3
    obtain ⟨c4,H⟩:=yi H
    have c4b0:=eq_true c4
    have c4b1:decide (0≤x6_1)=true:=decide_eq_true c4
    clear c4
    generalize hji5:(shr .u8 a1 x6_1)=ji5 at H
    have hji5_:(a1 / 2 ^ min x6_1.toNat 8)=ji5:=hji5
    have hji5z:x6_1≤8→(a1 / 2 ^ x6_1.toNat)=ji5:=shr_small hji5
    by_cases c6:(Go.bits .and .u8 (ji5) 1)=1
    ·rw [if_pos c6] at H
     have c6b0:((Go.bits .and .u8 (ji5) 1) == 1)=true:=beq_iff_eq.mpr c6
     have c6b1:((Go.bits .and .u8 (ji5) 1) != 1)=false:=bne_eq_false_iff_eq.mpr c6
     clear c6
     by_cases c7:(wrap64 (x7_1*2)) > 255
     ·rw [if_pos c7] at H
      have c7b0:decide (255 < (wrap64 (x7_1*2)))=true:=decide_eq_true c7
      clear c7
      have H':=am H
      clear H
      go_wp2
      go_roundg k1
      case measure=>have:=HK1.out;omega
      case rel=>exact ⟨(Go.bits .xor .i64 x5_1 x7_1),(wrap64 (x6_1+1)),(Go.bits .xor .i64 (wrap64 (x7_1*2)) 283),D1,D1,D1,H',⟨D17⟩,D5⟩
     rw [if_neg c7] at H
     have c7b0:decide (255 < (wrap64 (x7_1*2)))=false:=decide_eq_false c7
     clear c7
     have H':=am H
     clear H
     go_wp2
     go_roundg k1
     case measure=>have:=HK1.out;omega
     case rel=>exact ⟨(Go.bits .xor .i64 x5_1 x7_1),(wrap64 (x6_1+1)),(wrap64 (x7_1*2)),D1,D1,D1,H',⟨D17⟩,D5⟩
    rw [if_neg c6] at H
    have c6b0:((Go.bits .and .u8 (ji5) 1) == 1)=false:=beq_eq_false_iff_ne.mpr c6
    have c6b1:((Go.bits .and .u8 (ji5) 1) != 1)=true:=bne_iff_ne.mpr c6
    by_cases c8:(wrap64 (x7_1*2)) > 255
    ·rw [if_pos c8] at H
     have c8b0:decide (255 < (wrap64 (x7_1*2)))=true:=decide_eq_true c8
     clear c8
     have H':=am H
     clear H
     go_wp2
     go_roundg k1
     case measure=>have:=HK1.out;omega
     case rel=>exact ⟨(x5_1),(wrap64 (x6_1+1)),(Go.bits .xor .i64 (wrap64 (x7_1*2)) 283),D1,D1,D1,H',⟨D17⟩,D5⟩
    rw [if_neg c8] at H
    have c8b0:decide (255 < (wrap64 (x7_1*2)))=false:=decide_eq_false c8
    clear c8
    have H':=am H
    clear H
    go_wp2
    go_roundg k1
    case measure=>have:=HK1.out;omega
    case rel=>exact ⟨(x5_1),(wrap64 (x6_1+1)),(wrap64 (x7_1*2)),D1,D1,D1,H',⟨D17⟩,D5⟩
   rw [if_neg c3] at H
   have c3b0:=decide_eq_false c3
   clear c3
   obtain rfl:=Option.some.inj H
   go_wp2
   go_ret
   exact ⟨D1,D5⟩

def impl_power.l0:Nat→Int→Int→Int→Option (Int)
 | 0,_,_,_=>none
 | k+1,x0,x1,x5=>if x1 > 0 then (if (Go.bits .and .i64 x1 1)=1 then ((impl_Times.f k x5 x0).bind fun t101=>((impl_Times.f k x0 x0).bind fun t102=>(impl_power.l0 k t102 (x1 / 2) t101))) else ((impl_Times.f k x0 x0).bind fun t103=>(impl_power.l0 k t103 (x1 / 2) x5))) else (some x5)
def impl_power.f (k:Nat) (a0:Int) (a1:Int):Option (Int):=impl_power.l0 k a0 a1 1
theorem impl_power.mono_l:∀ k,(∀ y0 y1 y2,LeO (impl_power.l0 k y0 y1 y2) (impl_power.l0 (k+1) y0 y1 y2))
 | 0=>fun _ _ _ r h=>by simp [impl_power.l0] at h
 | k+1=>by
  have ih0:=impl_power.mono_l k
  intro y0 y1 y2
  unfold impl_power.l0
  exact mm
theorem impl_power.mono:∀ a0 a1 k,LeO (impl_power.f k a0 a1) (impl_power.f (k+1) a0 a1):=by
 intro a0 a1 k
 have ih0:=impl_power.mono_l k
 unfold impl_power.f
 exact mm
theorem impl_power.calls (k:Nat) (a0:Int) (a1:Int) (r:Int) (w:World) (h:impl_power.f k a0 a1=some r) :
  Calls Try.prog 180 #[.int .u8 a0, .int .i64 a1] w fun e w'=>e = .returned (.int .u8 r)∧Drawn0 w w':=by
 have H:=h
 unfold impl_power.f at H
 clear h
 have H':=am H
 clear H
 go_enter Try.func180,Try.ntmps180
 go_wp2
 go_loopg [0,1,5] k (fun kq v0 v1 v5 w'=>∃ (x0_1:Int) (x1_1:Int) (x5_1:Int),v0 = .int .u8 x0_1∧v1 = .int .i64 x1_1∧v5 = .int .u8 x5_1∧Aside0 (impl_power.l0 kq x0_1 x1_1 x5_1=some r)∧Aside0 (kq≤k)∧Drawn0 w w')
 case atStart=>exact ⟨(a0),(a1),(1),D1,D1,D1,H',⟨Nat.le_refl _⟩,D5⟩
 case round =>
  clear H'
  try clear c1
  try clear p2
  obtain ⟨x0_1,x1_1,x5_1,rfl,rfl,rfl,HA,HK1,⟨m1,rfl⟩⟩:=hrel
  cases gk with
  | zero=>exact absurd HA.out (by simp [impl_power.l0])
  | succ k1 =>
   have H:=HA.out
   clear HA
   simp only [impl_power.l0] at H
   by_cases c3:x1_1 > 0
   ·rw [if_pos c3] at H
    have c3b0:decide (0 < x1_1)=true:=decide_eq_true c3
    clear c3
    by_cases c4:(Go.bits .and .i64 x1_1 1)=1
    ·rw [if_pos c4] at H
     have c4b0:((Go.bits .and .i64 x1_1 1) == 1)=true:=beq_iff_eq.mpr c4
     have c4b1:((Go.bits .and .i64 x1_1 1) != 1)=false:=bne_eq_false_iff_eq.mpr c4
     clear c4
     obtain ⟨t101,A5,H⟩:=yo H
     obtain ⟨t102,A6,H⟩:=yo H
     have H':=am H
     clear H
     go_wp2_with (first|(refine gC 192 ?_;refine gM (some 15) Try.func192 (args:=#[.int .u8 x5_1, .int .u8 x0_1]) (impl_Times.calls k1 x5_1 x0_1 t101 _ A5.out) ?_;rintro e w' ⟨rfl,⟨nd,rfl⟩⟩;refine ⟨_,rfl,?_⟩)|(refine gC 192 ?_;refine gM (some 18) Try.func192 (args:=#[.int .u8 x0_1, .int .u8 x0_1]) (impl_Times.calls k1 x0_1 x0_1 t102 _ A6.out) ?_;rintro e w' ⟨rfl,⟨nd,rfl⟩⟩;refine ⟨_,rfl,?_⟩))
     go_roundg k1
     case measure=>have:=HK1.out;omega
     case rel=>exact ⟨(t102),(x1_1 / 2),(t101),D1,D1,D1,H',⟨D17⟩,D5⟩
    rw [if_neg c4] at H
    have c4b0:((Go.bits .and .i64 x1_1 1) == 1)=false:=beq_eq_false_iff_ne.mpr c4
    have c4b1:((Go.bits .and .i64 x1_1 1) != 1)=true:=bne_iff_ne.mpr c4
    obtain ⟨t103,A7,H⟩:=yo H
    have H':=am H
    clear H
    go_wp2_with (first|(refine gC 192 ?_;refine gM (some 18) Try.func192 (args:=#[.int .u8 x0_1, .int .u8 x0_1]) (impl_Times.calls k1 x0_1 x0_1 t103 _ A7.out) ?_;rintro e w' ⟨rfl,⟨nd,rfl⟩⟩;refine ⟨_,rfl,?_⟩))
    go_roundg k1
    case measure=>have:=HK1.out;omega
    case rel=>exact ⟨(t103),(x1_1 / 2),(x5_1),D1,D1,D1,H',⟨D17⟩,D5⟩
   rw [if_neg c3] at H
   have c3b0:decide (0 < x1_1)=false:=decide_eq_false c3
   clear c3
   obtain rfl:=Option.some.inj H
   go_wp2
   go_ret
   exact ⟨D1,D5⟩

def laws_szStringS.l0:Nat→List ByteArray→Int→Int→Option (Int)
 | 0,_,_,_=>none
 | k+1,x0,x1,x5=>if x5 < (x0.length:Int) then (if 0≤x5 then (if (wrap64 (x1 - ((rdOf ByteArray.empty x0 x5).size:Int))) < 0 then (some (-1)) else (laws_szStringS.l0 k x0 (wrap64 (x1 - ((rdOf ByteArray.empty x0 x5).size:Int))) (wrap64 (x5+1)))) else (none)) else (some x1)
def laws_szStringS.f (k:Nat) (l0:List ByteArray) (a1:Int):Option (Int):=if (wrap64 (a1 - (l0.length:Int))) < 0 then (some (-1)) else (laws_szStringS.l0 k l0 (wrap64 (a1 - (l0.length:Int))) 0)
theorem laws_szStringS.mono_l:∀ k,(∀ y0 y1 y2,LeO (laws_szStringS.l0 k y0 y1 y2) (laws_szStringS.l0 (k+1) y0 y1 y2))
 | 0=>fun _ _ _ r h=>by simp [laws_szStringS.l0] at h
 | k+1=>by
  have ih0:=laws_szStringS.mono_l k
  intro y0 y1 y2
  unfold laws_szStringS.l0
  exact mm
theorem laws_szStringS.mono:∀ a0 a1 k,LeO (laws_szStringS.f k a0 a1) (laws_szStringS.f (k+1) a0 a1):=by
 intro a0 a1 k
 have ih0:=laws_szStringS.mono_l k
 unfold laws_szStringS.f
 exact mm
theorem laws_szStringS.calls (k:Nat) (A0:Option Addr) (c0:Nat) (l0:List ByteArray) (a1:Int) (r:Int) (w:World) (hr0:Kd.C Kd.string w A0 l0.length l0) (hc0:l0.length≤c0) (h:laws_szStringS.f k l0 a1=some r) :
  Calls Try.prog 84 #[.slice A0 l0.length c0, .int .i64 a1] w fun e w'=>e = .returned (.int .i64 r)∧Drawn0 w w':=by
 have HR0:=am hr0
 have HC0:=am hc0
 clear hr0 hc0
 have H:=h
 unfold laws_szStringS.f at H
 clear h
 by_cases c3:(wrap64 (a1 - (l0.length:Int))) < 0
 ·rw [if_pos c3] at H
  have c3b0:=decide_eq_true c3
  clear c3
  obtain rfl:=Option.some.inj H
  go_enter Try.func84,Try.ntmps84
  go_wp2
  go_ret
  exact ⟨D1,D5⟩
 rw [if_neg c3] at H
 have c3b0:=decide_eq_false c3
 clear c3
 have H':=am H
 clear H
 go_enter Try.func84,Try.ntmps84
 go_wp2
 go_loopg [1,5] k (fun kq v1 v5 w'=>∃ (x1_1:Int) (x5_1:Int),v1 = .int .i64 x1_1∧v5 = .int .i64 x5_1∧Aside0 (laws_szStringS.l0 kq l0 x1_1 x5_1=some r)∧Aside0 (kq≤k)∧Drawn0 w w')
 case atStart=>exact ⟨(wrap64 (a1 - (l0.length:Int))),(0),D1,D1,H',⟨Nat.le_refl _⟩,D5⟩
 case round =>
  clear H'
  try clear p2
  try clear c3
  try clear c3b0
  obtain ⟨x1_1,x5_1,rfl,rfl,HA,HK1,⟨m1,rfl⟩⟩:=hrel
  cases gk with
  | zero=>exact absurd HA.out (by simp [laws_szStringS.l0])
  | succ k1 =>
   have H:=HA.out
   clear HA
   simp only [laws_szStringS.l0] at H
   by_cases c4:x5_1 < (l0.length:Int)
   ·rw [if_pos c4] at H
    have c4b0:=decide_eq_true c4
    clear c4
    obtain ⟨c5,H⟩:=yi H
    have c5b0:=decide_eq_true c5
    clear c5
    by_cases c6:(wrap64 (x1_1 - ((rdOf ByteArray.empty l0 x5_1).size:Int))) < 0
    ·rw [if_pos c6] at H
     have c6b0:=decide_eq_true c6
     clear c6
     obtain rfl:=Option.some.inj H
     have p104:0≤(x5_1:Int):=od D0
     have q104:x5_1 < (l0.length:Int):=od D0
     obtain ⟨ad104,e104,hx104_0⟩:=Kd.at_string HR0.out x5_1 p104 q104
     cases e104
     replace p104:=eq_true p104
     replace q104:=eq_true q104
     go_wp2
     go_ret
     exact ⟨D1,D5⟩
    rw [if_neg c6] at H
    have c6b0:=decide_eq_false c6
    clear c6
    have H':=am H
    clear H
    have p104:0≤(x5_1:Int):=od D0
    have q104:x5_1 < (l0.length:Int):=od D0
    obtain ⟨ad104,e104,hx104_0⟩:=Kd.at_string HR0.out x5_1 p104 q104
    cases e104
    replace p104:=eq_true p104
    replace q104:=eq_true q104
    go_wp2
    go_roundg k1
    case measure=>have:=HK1.out;omega
    case rel=>exact ⟨(wrap64 (x1_1 - ((rdOf ByteArray.empty l0 x5_1).size:Int))),(wrap64 (x5_1+1)),D1,D1,H',⟨D17⟩,D5⟩
   rw [if_neg c4] at H
   have c4b0:=decide_eq_false c4
   clear c4
   obtain rfl:=Option.some.inj H
   go_wp2
   go_ret
   exact ⟨D1,D5⟩

def laws_szStripe.f (k:Nat) (l0_0:List ByteArray) (l0_1:List ByteArray) (a1:Int):Option (Int):=(laws_szStringS.f k l0_0 a1).bind fun t106=>(if t106 < 0 then (some (-1)) else ((laws_szStringS.f k l0_1 t106).bind fun t107=>(if t107 < 0 then (some (-1)) else (some t107))))
theorem laws_szStripe.mono:∀ a0 a1 a2 k,LeO (laws_szStripe.f k a0 a1 a2) (laws_szStripe.f (k+1) a0 a1 a2):=by
 intro a0 a1 a2 k
 unfold laws_szStripe.f
 exact mm
theorem laws_szStripe.calls (k:Nat) (A0_0:Option Addr) (c0_0:Nat) (l0_0:List ByteArray) (A0_1:Option Addr) (c0_1:Nat) (l0_1:List ByteArray) (a1:Int) (r:Int) (w:World) (hr0_0:Kd.C Kd.string w A0_0 l0_0.length l0_0) (hc0_0:l0_0.length≤c0_0) (hr0_1:Kd.C Kd.string w A0_1 l0_1.length l0_1) (hc0_1:l0_1.length≤c0_1) (h:laws_szStripe.f k l0_0 l0_1 a1=some r) :
  Calls Try.prog 15 #[.agg #[.slice A0_0 l0_0.length c0_0, .slice A0_1 l0_1.length c0_1], .int .i64 a1] w fun e w'=>e = .returned (.int .i64 r)∧Below w.heap.size w w':=by
 have hu24:=Try.underlying24
 have HR0_0:=am hr0_0
 have HC0_0:=am hc0_0
 clear hr0_0 hc0_0
 have HR0_1:=am hr0_1
 have HC0_1:=am hc0_1
 clear hr0_1 hc0_1
 have HB:=am (Below.refl w.heap.size w)
 have H:=h
 unfold laws_szStripe.f at H
 clear h
 obtain ⟨t106,A3,H⟩:=yo H
 by_cases c4:t106 < 0
 ·rw [if_pos c4] at H
  have c4b0:=decide_eq_true c4
  clear c4
  obtain rfl:=Option.some.inj H
  go_enter Try.func15,Try.ntmps15
  go_wp2_with (first|(refine gD 2 ?_;refine gB (cs:=#[.slice A0_0 l0_0.length c0_0, .slice A0_1 l0_1.length c0_1]) 24 ?_;intro gb105 hg w5 hbox hb;have BK105:=am (hbox);have GW105:=ye HB hg;replace HB:=yH HB hb;have GE105:=GW105;clear hb hbox hg;obtain ⟨hcz6_0,hcz6_1,hfz6_0,hfz6_1⟩:=yk2 BK105)|(refine gC 84 ?_;refine gM (some 8) Try.func84 (args:=#[.slice A0_0 l0_0.length c0_0, .int .i64 a1]) (laws_szStringS.calls k _ _ l0_0 a1 t106 _ (yc (Kd.C_below HR0_0.out HB.out)) HC0_0.out A3.out) ?_;rintro e w' ⟨rfl,⟨nd,rfl⟩⟩;refine ⟨_,rfl,?_⟩))
  go_ret
  exact ⟨D3,yW HB⟩
 rw [if_neg c4] at H
 have c4b0:=decide_eq_false c4
 clear c4
 obtain ⟨t107,A7,H⟩:=yo H
 by_cases c8:t107 < 0
 ·rw [if_pos c8] at H
  have c8b0:=decide_eq_true c8
  clear c8
  obtain rfl:=Option.some.inj H
  go_enter Try.func15,Try.ntmps15
  go_wp2_with (first|(refine gD 2 ?_;refine gB (cs:=#[.slice A0_0 l0_0.length c0_0, .slice A0_1 l0_1.length c0_1]) 24 ?_;intro gb105 hg w9 hbox hb;have BK105:=am (hbox);have GW105:=ye HB hg;replace HB:=yH HB hb;have GE105:=GW105;clear hb hbox hg;obtain ⟨hcz10_0,hcz10_1,hfz10_0,hfz10_1⟩:=yk2 BK105)|(refine gC 84 ?_;refine gM (some 8) Try.func84 (args:=#[.slice A0_0 l0_0.length c0_0, .int .i64 a1]) (laws_szStringS.calls k _ _ l0_0 a1 t106 _ (yc (Kd.C_below HR0_0.out HB.out)) HC0_0.out A3.out) ?_;rintro e w' ⟨rfl,⟨nd,rfl⟩⟩;refine ⟨_,rfl,?_⟩)|(refine gC 84 ?_;refine gM (some 14) Try.func84 (args:=#[.slice A0_1 l0_1.length c0_1, .int .i64 t106]) (laws_szStringS.calls k _ _ l0_1 t106 t107 _ (yc (Kd.C_below HR0_1.out (yW HB))) HC0_1.out A7.out) ?_;rintro e w' ⟨rfl,⟨nd,rfl⟩⟩;refine ⟨_,rfl,?_⟩))
  go_ret
  exact ⟨D3,yW HB⟩
 rw [if_neg c8] at H
 have c8b0:=decide_eq_false c8
 clear c8
 obtain rfl:=Option.some.inj H
 go_enter Try.func15,Try.ntmps15
 go_wp2_with (first|(refine gD 2 ?_;refine gB (cs:=#[.slice A0_0 l0_0.length c0_0, .slice A0_1 l0_1.length c0_1]) 24 ?_;intro gb105 hg w11 hbox hb;have BK105:=am (hbox);have GW105:=ye HB hg;replace HB:=yH HB hb;have GE105:=GW105;clear hb hbox hg;obtain ⟨hcz12_0,hcz12_1,hfz12_0,hfz12_1⟩:=yk2 BK105)|(refine gC 84 ?_;refine gM (some 8) Try.func84 (args:=#[.slice A0_0 l0_0.length c0_0, .int .i64 a1]) (laws_szStringS.calls k _ _ l0_0 a1 t106 _ (yc (Kd.C_below HR0_0.out HB.out)) HC0_0.out A3.out) ?_;rintro e w' ⟨rfl,⟨nd,rfl⟩⟩;refine ⟨_,rfl,?_⟩)|(refine gC 84 ?_;refine gM (some 14) Try.func84 (args:=#[.slice A0_1 l0_1.length c0_1, .int .i64 t106]) (laws_szStringS.calls k _ _ l0_1 t106 t107 _ (yc (Kd.C_below HR0_1.out (yW HB))) HC0_1.out A7.out) ?_;rintro e w' ⟨rfl,⟨nd,rfl⟩⟩;refine ⟨_,rfl,?_⟩))
 go_ret
 exact ⟨D3,yW HB⟩

def spec_l1In.f (a0:Int) (a1:Int) (a2:Int):Option (Bool):=if a0 ≥ a1 then (some (decide (a0≤a2))) else (some false)
theorem spec_l1In.calls (a0:Int) (a1:Int) (a2:Int) (r:Bool) (w:World) (h:spec_l1In.f a0 a1 a2=some r) :
  Calls Try.prog 121 #[.int .i64 a0, .int .i64 a1, .int .i64 a2] w fun e w'=>e = .returned (.bool r)∧Drawn0 w w':=by
 have H:=h
 unfold spec_l1In.f at H
 clear h
 by_cases c4:a0 ≥ a1
 ·rw [if_pos c4] at H
  have c4b0:decide (a1≤a0)=true:=decide_eq_true c4
  clear c4
  obtain rfl:=Option.some.inj H
  go_enter Try.func121,Try.ntmps121
  go_wp2
  go_ret
  exact ⟨D1,D5⟩
 rw [if_neg c4] at H
 have c4b0:decide (a1≤a0)=false:=decide_eq_false c4
 clear c4
 obtain rfl:=Option.some.inj H
 go_enter Try.func121,Try.ntmps121
 go_wp2
 go_ret
 exact ⟨D1,D5⟩

def spec_l3Texts.l0:Nat→List ByteArray→List ByteArray→Int→Int→Option (Bool)
 | 0,_,_,_,_=>none
 | k+1,x0,x5,x6,x7=>if x7 < x6 then (if 0≤x7 then (if x7 < (x5.length:Int) then (if 0 < (x0.length:Int) then (if ((rdOf ByteArray.empty x5 x7).size:Int)=((rdOf ByteArray.empty x0 0).size:Int) then (if ((rdOf ByteArray.empty x5 x7).size:Int) > 40 then (some false) else (spec_l3Texts.l0 k x0 x5 x6 (wrap64 (x7+1)))) else (some false)) else (none)) else (none)) else (none)) else (some true)
def spec_l3Texts.f (k:Nat) (l0:List ByteArray):Option (Bool):=spec_l3Texts.l0 k l0 l0 (l0.length:Int) 0
theorem spec_l3Texts.mono_l:∀ k,(∀ y0 y1 y2 y3,LeO (spec_l3Texts.l0 k y0 y1 y2 y3) (spec_l3Texts.l0 (k+1) y0 y1 y2 y3))
 | 0=>fun _ _ _ _ r h=>by simp [spec_l3Texts.l0] at h
 | k+1=>by
  have ih0:=spec_l3Texts.mono_l k
  intro y0 y1 y2 y3
  unfold spec_l3Texts.l0
  exact mm
theorem spec_l3Texts.mono:∀ a0 k,LeO (spec_l3Texts.f k a0) (spec_l3Texts.f (k+1) a0):=by
 intro a0 k
 have ih0:=spec_l3Texts.mono_l k
 unfold spec_l3Texts.f
 exact mm
theorem spec_l3Texts.calls (k:Nat) (A0:Option Addr) (c0:Nat) (l0:List ByteArray) (r:Bool) (w:World) (hr0:Kd.C Kd.string w A0 l0.length l0) (hc0:l0.length≤c0) (h:spec_l3Texts.f k l0=some r) :
  Calls Try.prog 171 #[.slice A0 l0.length c0] w fun e w'=>e = .returned (.bool r)∧Drawn0 w w':=by
 have HR0:=am hr0
 have HC0:=am hc0
 clear hr0 hc0
 have H:=h
 unfold spec_l3Texts.f at H
 clear h
 have H':=am H
 clear H
 go_enter Try.func171,Try.ntmps171
 go_wp2
 go_loopg [7] k (fun kq v7 w'=>∃ (x7_1:Int),v7 = .int .i64 x7_1∧Aside0 (spec_l3Texts.l0 kq l0 l0 (l0.length:Int) x7_1=some r)∧Aside0 (kq≤k)∧Drawn0 w w')
 case atStart=>exact ⟨(0),D1,H',⟨Nat.le_refl _⟩,D5⟩
 case round =>
  clear H'
  try clear c1
  obtain ⟨x7_1,rfl,HA,HK1,⟨m1,rfl⟩⟩:=hrel
  cases gk with
  | zero=>exact absurd HA.out (by simp [spec_l3Texts.l0])
  | succ k1 =>
   have H:=HA.out
   clear HA
   simp only [spec_l3Texts.l0] at H
   by_cases c2:x7_1 < (l0.length:Int)
   ·rw [if_pos c2] at H
    have c2b0:=decide_eq_true c2
    clear c2
    obtain ⟨c3,H⟩:=yi H
    have c3b0:=decide_eq_true c3
    clear c3
    obtain ⟨c4,H⟩:=yi H
    have c4b0:=decide_eq_true c4
    clear c4
    obtain ⟨c5,H⟩:=yi H
    have c5b0:=decide_eq_true c5
    have c5b1:decide (0 < l0.length)=true:=decide_eq_true D8
    clear c5
    by_cases c6:((rdOf ByteArray.empty l0 x7_1).size:Int)=((rdOf ByteArray.empty l0 0).size:Int)
    ·rw [if_pos c6] at H
     have c6b0:(((rdOf ByteArray.empty l0 x7_1).size:Int) == ((rdOf ByteArray.empty l0 0).size:Int))=true:=beq_iff_eq.mpr c6
     have c6b1:(((rdOf ByteArray.empty l0 x7_1).size:Int) != ((rdOf ByteArray.empty l0 0).size:Int))=false:=bne_eq_false_iff_eq.mpr c6
     have c6b2:((rdOf ByteArray.empty l0 x7_1).size == (rdOf ByteArray.empty l0 0).size)=true:=by first|simpa using c6|(simp at c6 ⊢;omega)
     clear c6
     by_cases c7:((rdOf ByteArray.empty l0 x7_1).size:Int) > 40
     ·rw [if_pos c7] at H
      have c7b0:decide (40 < ((rdOf ByteArray.empty l0 x7_1).size:Int))=true:=decide_eq_true c7
      have c7b1:decide (40 < (rdOf ByteArray.empty l0 x7_1).size)=true:=decide_eq_true D8
      clear c7
      obtain rfl:=Option.some.inj H
      have p108:0≤(x7_1:Int):=od D0
      have q108:x7_1 < (l0.length:Int):=od D0
      obtain ⟨ad108,e108,hx108_0⟩:=Kd.at_string HR0.out x7_1 p108 q108
      cases e108
      replace p108:=eq_true p108
      replace q108:=eq_true q108
      have p109:0≤(0:Int):=D8
      have q109:0 < (l0.length:Int):=od D0
      obtain ⟨ad109,e109,hx109_0⟩:=Kd.at_string HR0.out 0 p109 q109
      obtain rfl:ad108=ad109:=(by injection e109)
      have qi109:(0 < l0.length)=True:=eq_true D8
      (try rw [show ((0:Int)).toNat=0 from rfl] at hx109_0)
      (try rw [Addr.add_zero'] at hx109_0)
      replace p109:=eq_true p109
      replace q109:=eq_true q109
      go_wp2
      go_ret
      exact ⟨D1,D5⟩
     rw [if_neg c7] at H
     have c7b0:decide (40 < ((rdOf ByteArray.empty l0 x7_1).size:Int))=false:=decide_eq_false c7
     have c7b1:decide (40 < (rdOf ByteArray.empty l0 x7_1).size)=false:=decide_eq_false D8
     clear c7
     have H':=am H
     clear H
     have p108:0≤(x7_1:Int):=od D0
     have q108:x7_1 < (l0.length:Int):=od D0
     obtain ⟨ad108,e108,hx108_0⟩:=Kd.at_string HR0.out x7_1 p108 q108
     cases e108
     replace p108:=eq_true p108
     replace q108:=eq_true q108
     have p109:0≤(0:Int):=D8
     have q109:0 < (l0.length:Int):=od D0
     obtain ⟨ad109,e109,hx109_0⟩:=Kd.at_string HR0.out 0 p109 q109
     obtain rfl:ad108=ad109:=(by injection e109)
     have qi109:(0 < l0.length)=True:=eq_true D8
     (try rw [show ((0:Int)).toNat=0 from rfl] at hx109_0)
     (try rw [Addr.add_zero'] at hx109_0)
     replace p109:=eq_true p109
     replace q109:=eq_true q109
     go_wp2
     go_roundg k1
     case measure=>have:=HK1.out;omega
     case rel=>exact ⟨(wrap64 (x7_1+1)),D1,H',⟨D17⟩,D5⟩
    rw [if_neg c6] at H
    have c6b0:(((rdOf ByteArray.empty l0 x7_1).size:Int) == ((rdOf ByteArray.empty l0 0).size:Int))=false:=beq_eq_false_iff_ne.mpr c6
    have c6b1:(((rdOf ByteArray.empty l0 x7_1).size:Int) != ((rdOf ByteArray.empty l0 0).size:Int))=true:=bne_iff_ne.mpr c6
    have c6b2:((rdOf ByteArray.empty l0 x7_1).size == (rdOf ByteArray.empty l0 0).size)=false:=by first|simpa using c6|(simp at c6 ⊢;omega)
    obtain rfl:=Option.some.inj H
    have p108:0≤(x7_1:Int):=od D0
    have q108:x7_1 < (l0.length:Int):=od D0
    obtain ⟨ad108,e108,hx108_0⟩:=Kd.at_string HR0.out x7_1 p108 q108
    cases e108
    replace p108:=eq_true p108
    replace q108:=eq_true q108
    have p109:0≤(0:Int):=D8
    have q109:0 < (l0.length:Int):=od D0
    obtain ⟨ad109,e109,hx109_0⟩:=Kd.at_string HR0.out 0 p109 q109
    obtain rfl:ad108=ad109:=(by injection e109)
    have qi109:(0 < l0.length)=True:=eq_true D8
    (try rw [show ((0:Int)).toNat=0 from rfl] at hx109_0)
    (try rw [Addr.add_zero'] at hx109_0)
    replace p109:=eq_true p109
    replace q109:=eq_true q109
    go_wp2
    go_ret
    exact ⟨D1,D5⟩
   rw [if_neg c2] at H
   have c2b0:=decide_eq_false c2
   clear c2
   obtain rfl:=Option.some.inj H
   go_wp2
   go_ret
   exact ⟨D1,D5⟩

end Go.Proofs.Ytajikfnpcobnpaa.PFnExactMendStripe
-- SHRUNK
-- HALVED
-- SQUEEZED
-- SQUEEZED2
-- SQUEEZED3
-- SQUEEZED4
-- SQUEEZED5
-- SQUEEZED6
