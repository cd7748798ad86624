import Derived.Test.YteflgifmdojahaaVFnRegeneratedB
import Derived.Test.YteflgifmdojahaaPFnRegeneratedx0
import Derived.Test.YteflgifmdojahaaPFnRegeneratedx1
namespace Go.Proofs.Yteflgifmdojahaa.PFnRegenerated
open Go.RowKit Go.Proofs.YteflgifmdojahaaW.PrintWords Go.Proofs.YteflgifmdojahaaW.PrintLast Go.Proofs.YteflgifmdojahaaW.PrintMore Go.Proofs.Yteflgifmdojahaa.KitS
attribute [local go_sem] max2_int min2_int max_two min_two max_three min_three max_four min_four
set_option linter.unusedVariables false
set_option maxHeartbeats 8000000
set_option maxRecDepth 100000
set_option linter.unusedSimpArgs false
def impl_dot.l0:Nat→List Int→Int→List Int→Int→Int→Option (Int)
 | 0,_,_,_,_,_=>none
 | k+1,x1,x5,x8,x9,x10=>if x10 < x9 then (if 0≤x10 then (if x10 < (x8.length:Int) then (if x10 < (x1.length:Int) then ((impl_Times.f k (rd x8 x10) (rd x1 x10)).bind fun t214=>(impl_dot.l0 k x1 (Go.bits .xor .u8 x5 t214) x8 x9 (wrap64 (x10+1)))) else (none)) else (none)) else (none)) else (some x5)
def impl_dot.f (k:Nat) (l0:List Int) (l1:List Int):Option (Int):=impl_dot.l0 k l1 0 l0 (l0.length:Int) 0
theorem impl_dot.mono_l:∀ k,(∀ y0 y1 y2 y3 y4,LeO (impl_dot.l0 k y0 y1 y2 y3 y4) (impl_dot.l0 (k+1) y0 y1 y2 y3 y4))
 | 0=>fun _ _ _ _ _ r h=>by simp [impl_dot.l0] at h
 | k+1=>by
  have ih0:=impl_dot.mono_l k
  intro y0 y1 y2 y3 y4
  unfold impl_dot.l0
  exact mm
theorem impl_dot.mono:∀ a0 a1 k,LeO (impl_dot.f k a0 a1) (impl_dot.f (k+1) a0 a1):=by
 intro a0 a1 k
 have ih0:=impl_dot.mono_l k
 unfold impl_dot.f
 exact mm
theorem impl_dot.calls (k:Nat) (A0:Option Addr) (c0:Nat) (l0:List Int) (A1:Option Addr) (c1:Nat) (l1:List Int) (r:Int) (w:World) (hr0:Kd.C (Kd.int .u8) w A0 l0.length l0) (hc0:l0.length≤c0) (hr1:Kd.C (Kd.int .u8) w A1 l1.length l1) (hc1:l1.length≤c1) (h:impl_dot.f k l0 l1=some r) :
  Calls Try.prog 117 #[.slice A0 l0.length c0, .slice A1 l1.length c1] w fun e w'=>e = .returned (.int .u8 r)∧Drawn0 w w':=by
 have HR0:=am hr0
 have HC0:=am hc0
 clear hr0 hc0
 have HR1:=am hr1
 have HC1:=am hc1
 clear hr1 hc1
 have H:=h
 unfold impl_dot.f at H
 clear h
 have H':=am H
 clear H
 go_enter Try.func117,Try.ntmps117
 go_wp2
 go_loopg [5,10] k (fun kq v5 v10 w'=>∃ (x5_1:Int) (x10_1:Int),v5 = .int .u8 x5_1∧v10 = .int .i64 x10_1∧Aside0 (impl_dot.l0 kq l1 x5_1 l0 (l0.length:Int) x10_1=some r)∧Aside0 (kq≤k)∧Drawn0 w w')
 case atStart=>exact ⟨(0),(0),D1,D1,H',⟨Nat.le_refl _⟩,D15⟩
 case round =>
  clear H'
  try clear c1
  try clear p2
  obtain ⟨x5_1,x10_1,rfl,rfl,HA,HK1,⟨m1,rfl⟩⟩:=hrel
  cases gk with
  | zero=>exact absurd HA.out (by simp [impl_dot.l0])
  | succ k1 =>
   have H:=HA.out
   clear HA
   simp only [impl_dot.l0] at H
   by_cases c3:x10_1 < (l0.length:Int)
   ·rw [if_pos c3] at H
    have c3b0:=decide_eq_true c3
    clear c3
    obtain ⟨c4,H⟩:=yi H
    have c4b0:=decide_eq_true c4
    clear c4
    obtain ⟨c5,H⟩:=yi H
    have c5b0:=decide_eq_true c5
    clear c5
    obtain ⟨c6,H⟩:=yi H
    have c6b0:=decide_eq_true c6
    clear c6
    obtain ⟨t214,A7,H⟩:=yo H
    have H':=am H
    clear H
    have p212:0≤(x10_1:Int):=od D0
    have q212:x10_1 < (l0.length:Int):=od D0
    obtain ⟨ad212,e212,hx212_0⟩:=Kd.at_int HR0.out x10_1 p212 q212
    cases e212
    replace p212:=eq_true p212
    replace q212:=eq_true q212
    have p213:0≤(x10_1:Int):=od D0
    have q213:x10_1 < (l1.length:Int):=od D0
    obtain ⟨ad213,e213,hx213_0⟩:=Kd.at_int HR1.out x10_1 p213 q213
    cases e213
    replace p213:=eq_true p213
    replace q213:=eq_true q213
    go_wp2_with (first|((with_reducible refine gC 51 ?_);refine gM (some 21) Try.func51 (args:=#[.int .u8 (rd l0 x10_1), .int .u8 (rd l1 x10_1)]) (impl_Times.calls k1 (rd l0 x10_1) (rd l1 x10_1) t214 _ A7.out) ?_;rintro e w' ⟨rfl,⟨nd,rfl⟩⟩;refine ⟨_,rfl,?_⟩))
    go_roundg k1
    case measure=>have:=HK1.out;omega
    case rel=>exact ⟨(Go.bits .xor .u8 x5_1 t214),(wrap64 (x10_1+1)),D1,D1,H',⟨D38⟩,D15⟩
   rw [if_neg c3] at H
   have c3b0:=decide_eq_false c3
   clear c3
   obtain rfl:=Option.some.inj H
   go_wp2
   go_ret
   exact ⟨D1,D15⟩

def impl_column.l0:Nat→Int→List Int→List (List Int)→Int→Int→Option (List Int)
 | 0,_,_,_,_,_=>none
 | k+1,x1,x5,x9,x10,x11=>if x11 < x10 then (if 0≤x11 then (if x11 < (x9.length:Int) then (if 0≤x1 then (if x1 < ((rd_L1 x9 x11).length:Int) then (if x5.length < 140737488355328 then (impl_column.l0 k x1 (x5 ++ [rd (rd_L1 x9 x11) x1]) x9 x10 (wrap64 (x11+1))) else (none)) else (none)) else (none)) else (none)) else (none)) else (some x5)
def impl_column.f (k:Nat) (l0:List (List Int)) (a1:Int):Option (List Int):=impl_column.l0 k a1 (([]:List Int)) l0 (l0.length:Int) 0
theorem impl_column.mono_l:∀ k,(∀ y0 y1 y2 y3 y4,LeO (impl_column.l0 k y0 y1 y2 y3 y4) (impl_column.l0 (k+1) y0 y1 y2 y3 y4))
 | 0=>fun _ _ _ _ _ r h=>by simp [impl_column.l0] at h
 | k+1=>by
  have ih0:=impl_column.mono_l k
  intro y0 y1 y2 y3 y4
  unfold impl_column.l0
  exact mm
theorem impl_column.mono:∀ a0 a1 k,LeO (impl_column.f k a0 a1) (impl_column.f (k+1) a0 a1):=by
 intro a0 a1 k
 have ih0:=impl_column.mono_l k
 unfold impl_column.f
 exact mm
theorem impl_column.calls (k:Nat) (A0:Option Addr) (c0:Nat) (l0:List (List Int)) (a1:Int) (r:List Int) (w:World) (hr0:Kd.C (Kd.slice 5 (Kd.int .u8)) w A0 l0.length l0) (hc0:l0.length≤c0) (h:impl_column.f k l0 a1=some r) :
  Calls Try.prog 154 #[.slice A0 l0.length c0, .int .i64 a1] w fun e w'=>∃ v0_:Value,e = .returned (v0_)∧Kd.R (Kd.int .u8) 5 w' w.heap.size (fun _=>True) v0_ r∧Below w.heap.size w w':=by
 have HR0:=am hr0
 have HC0:=am hc0
 clear hr0 hc0
 have HB:=am (Below.refl w.heap.size w)
 have H:=h
 unfold impl_column.f at H
 clear h
 generalize hy215:(([]:List Int):List Int)=y215 at H
 have Ny215:=am hy215.symm
 clear hy215
 have H':=am H
 clear H
 go_enter Try.func154,Try.ntmps154
 go_wp2_with (first|((with_reducible refine gD 8 ?_);refine Kd.R_lit (Kd.int .u8) _ 5 D16 (N:=8) D16 (xs:=([]:List Int)) (inner:=[]) (ok:=fun _=>True) (okp:=fun _=>True) D33 D65 (fun _ hk=>hk) trivial (Below.refl _ _) (Nat.le_refl _) D44 ?_;intro v216 w3 ho4 hb hg_ hnew_;clear hg_ hnew_;(first|rw [← Ny215.out] at ho4|(simp only [Int.reduceToNat] at ho4;rw [← Ny215.out] at ho4));have HO217:=am (Kd.R_lower ho4 (pz (yW HB)));replace HB:=yH HB hb;clear hb ho4))
 go_loopg [5,11] k (fun kq v5 v11 w'=>∃ (x5_1:List Int) (x11_1:Int),v11 = .int .i64 x11_1∧Aside0 (impl_column.l0 kq a1 x5_1 l0 (l0.length:Int) x11_1=some r)∧Aside0 (kq≤k)∧Aside0 (Kd.R (Kd.int .u8) 5 w' w.heap.size (fun _=>True) v5 x5_1)∧Aside0 (Below w.heap.size w w'))
 case atStart=>exact ⟨(y215),(0),D1,H',⟨Nat.le_refl _⟩,⟨yR HO217⟩,⟨yW HB⟩⟩
 case round =>
  clear H'
  try clear c1
  try clear p2
  obtain ⟨x5_1,x11_1,rfl,HA,HK1,HO_5,HB⟩:=hrel
  cases gk with
  | zero=>exact absurd HA.out (by simp [impl_column.l0])
  | succ k1 =>
   have H:=HA.out
   clear HA
   simp only [impl_column.l0] at H
   by_cases c5:x11_1 < (l0.length:Int)
   ·rw [if_pos c5] at H
    have c5b0:=decide_eq_true c5
    clear c5
    obtain ⟨c6,H⟩:=yi H
    have c6b0:=decide_eq_true c6
    clear c6
    obtain ⟨c7,H⟩:=yi H
    have c7b0:=decide_eq_true c7
    clear c7
    obtain ⟨c8,H⟩:=yi H
    have c8b0:=decide_eq_true c8
    clear c8
    obtain ⟨c9,H⟩:=yi H
    have c9b0:=decide_eq_true c9
    clear c9
    obtain ⟨c10,H⟩:=yi H
    have LMc10:=am c10
    clear c10
    generalize hy220:(x5_1 ++ [rd (rd_L1 l0 x11_1) a1]:List Int)=y220 at H
    have Ny220:=am hy220.symm
    clear hy220
    have H':=am H
    clear H
    have p218:0≤(x11_1:Int):=od D0
    have q218:x11_1 < (l0.length:Int):=od D0
    obtain ⟨ad218,A218_0,c218_0,e218,hx218_0,hl218_0,hi218_0⟩:=at_L1 HR0.out x11_1 p218 q218
    cases e218
    replace hx218_0:=(HB.out.cell (World.block_lt_of_cell? w _ hx218_0)).trans hx218_0
    have HR218_0:=am hi218_0
    have HC218_0:=am hl218_0
    clear hi218_0 hl218_0
    replace p218:=eq_true p218
    replace q218:=eq_true q218
    have p219:0≤(a1:Int):=od D0
    have q219:a1 < ((rd_L1 l0 x11_1).length:Int):=od D0
    obtain ⟨ad219,e219,hx219_0⟩:=Kd.at_int HR218_0.out a1 p219 q219
    cases e219
    replace hx219_0:=(HB.out.cell (World.block_lt_of_cell? w _ hx219_0)).trans hx219_0
    replace p219:=eq_true p219
    replace q219:=eq_true q219
    go_wp2_with (first|((with_reducible refine gate_builtin (b:=.append) (xs:=#[.tmp 15, .tmp 20]) rfl ?_);at_builtin;refine Kd.R_append (Kd.int .u8) (w0:=w) w.heap.size rfl (.tmp 15) (.tmp 20) 24 5 (.int .u8 0) 1 rfl Try.underlying24 info5 rfl D5 D13 u5 x5_1 (rd (rd_L1 l0 x11_1) a1) [.int .u8 (rd (rd_L1 l0 x11_1) a1)] (fun _=>True) (fun _=>False) rfl rfl D98 (fun _ hk=>hk.elim) D43 (by exact (yR HO_5)) D64 D47 (by have:=LMc10.out;omega) ?_;intro v221 w11 ho hb hg hat;rw [← Ny220.out] at ho;have n0_:=am (hb);have n1_:=am (ho);clear HB HO_5;have HB:=n0_;have HO222:=n1_;clear n0_ n1_ ho hb hg hat))
    go_roundg k1
    case measure=>have:=HK1.out;omega
    case rel=>exact ⟨(y220),(wrap64 (x11_1+1)),D1,H',⟨D38⟩,⟨yR HO222⟩,⟨yW HB⟩⟩
   rw [if_neg c5] at H
   have c5b0:=decide_eq_false c5
   clear c5
   obtain rfl:=Option.some.inj H
   go_wp2
   go_ret
   exact ⟨_,D3,yR HO_5,yW HB⟩

def impl_transposed.l0:Nat→List (List Int)→List (List Int)→Int→Int→Option ((List (List Int)))
 | 0,_,_,_,_=>none
 | k+1,x0,x3,x9,x10=>if x10 < x9 then ((impl_column.f k x0 x10).bind fun t227=>(if x3.length < 5864062014805 then (impl_transposed.l0 k x0 (x3 ++ [t227]) x9 (wrap64 (x10+1))) else (none))) else (some x3)
def impl_transposed.f (k:Nat) (l0:List (List Int)):Option ((List (List Int))):=if 0 < (l0.length:Int) then (impl_transposed.l0 k l0 (([]:List (List Int))) ((rd_L1 l0 0).length:Int) 0) else (none)
theorem impl_transposed.mono_l:∀ k,(∀ y0 y1 y2 y3,LeO (impl_transposed.l0 k y0 y1 y2 y3) (impl_transposed.l0 (k+1) y0 y1 y2 y3))
 | 0=>fun _ _ _ _ r h=>by simp [impl_transposed.l0] at h
 | k+1=>by
  have ih0:=impl_transposed.mono_l k
  intro y0 y1 y2 y3
  unfold impl_transposed.l0
  exact mm
theorem impl_transposed.mono:∀ a0 k,LeO (impl_transposed.f k a0) (impl_transposed.f (k+1) a0):=by
 intro a0 k
 have ih0:=impl_transposed.mono_l k
 unfold impl_transposed.f
 exact mm
theorem impl_transposed.calls (k:Nat) (A0:Option Addr) (c0:Nat) (l0:List (List Int)) (r:List (List Int)) (w:World) (hr0:Kd.C (Kd.slice 5 (Kd.int .u8)) w A0 l0.length l0) (hc0:l0.length≤c0) (h:impl_transposed.f k l0=some r) :
  Calls Try.prog 127 #[.slice A0 l0.length c0] w fun e w'=>∃ v0_:Value,e = .returned (v0_)∧Kd.S (Kd.slice 5 (Kd.int .u8)) 24 w' w.heap.size (fun _=>True) v0_ r∧Below w.heap.size w w':=by
 have HR0:=am hr0
 have HC0:=am hc0
 clear hr0 hc0
 have HB:=am (Below.refl w.heap.size w)
 have H:=h
 unfold impl_transposed.f at H
 clear h
 generalize hy223:(([]:List (List Int)):List (List Int))=y223 at H
 have Ny223:=am hy223.symm
 clear hy223
 by_cases c2:0 < (l0.length:Int)
 ·rw [if_pos c2] at H
  have c2b0:=decide_eq_true c2
  have c2b1:decide (0 < l0.length)=true:=decide_eq_true D13
  clear c2
  have H':=am H
  clear H
  go_enter Try.func127,Try.ntmps127
  go_wp2_with (first|((with_reducible refine gD 5 ?_);refine Kd.S_lit (Kd.slice 5 (Kd.int .u8)) _ 24 D16 (N:=5) D16 (xs:=([]:List (List Int))) (inner:=[]) (ok:=fun _=>True) (okp:=fun _=>True) D33 D65 (fun _ hk=>hk) trivial (Below.refl _ _) (Nat.le_refl _) D44 ?_;intro v224 w3 ho4 hb hg_ hnew_;clear hg_ hnew_;(first|rw [← Ny223.out] at ho4|(simp only [Int.reduceToNat] at ho4;rw [← Ny223.out] at ho4));have HO225:=am (Kd.S_lower ho4 (pz (yW HB)));replace HB:=yH HB hb;clear hb ho4;have p226:0≤(0:Int):=D13;have q226:0 < (l0.length:Int):=od D0;obtain ⟨ad226,A226_0,c226_0,e226,hx226_0,hl226_0,hi226_0⟩:=at_L1 HR0.out 0 p226 q226;cases e226;have qi226:(0 < l0.length)=True:=eq_true D13;(try rw [show ((0:Int)).toNat=0 from rfl] at hx226_0);(try rw [Addr.add_zero'] at hx226_0);replace hx226_0:=(HB.out.cell (World.block_lt_of_cell? w _ hx226_0)).trans hx226_0;have HR226_0:=am hi226_0;have HC226_0:=am hl226_0;clear hi226_0 hl226_0;replace p226:=eq_true p226;replace q226:=eq_true q226))
  go_loopg [3,10] k (fun kq v3 v10 w'=>∃ (x3_1:List (List Int)) (x10_1:Int),v10 = .int .i64 x10_1∧Aside0 (impl_transposed.l0 kq l0 x3_1 ((rd_L1 l0 0).length:Int) x10_1=some r)∧Aside0 (kq≤k)∧Aside0 (Kd.S (Kd.slice 5 (Kd.int .u8)) 24 w' w.heap.size (fun _=>True) v3 x3_1)∧Aside0 (Below w.heap.size w w'))
  case atStart=>exact ⟨(y223),(0),D1,H',⟨Nat.le_refl _⟩,⟨yS HO225⟩,⟨yW HB⟩⟩
  case round =>
   clear H'
   try clear c1
   try clear c2
   try clear c2b0
   try clear c2b1
   try clear p2
   try clear q2
   try clear hx2
   try clear qi2
   try clear hx226_0
   try clear p226
   try clear q226
   obtain ⟨x3_1,x10_1,rfl,HA,HK1,HO_3,HB⟩:=hrel
   cases gk with
   | zero=>exact absurd HA.out (by simp [impl_transposed.l0])
   | succ k1 =>
    have H:=HA.out
    clear HA
    simp only [impl_transposed.l0] at H
    by_cases c5:x10_1 < ((rd_L1 l0 0).length:Int)
    ·rw [if_pos c5] at H
     have c5b0:=decide_eq_true c5
     clear c5
     obtain ⟨t227,A6,H⟩:=yo H
     obtain ⟨c7,H⟩:=yi H
     have LMc7:=am c7
     clear c7
     generalize hy230:(x3_1 ++ [t227]:List (List Int))=y230 at H
     have Ny230:=am hy230.symm
     clear hy230
     have H':=am H
     clear H
     go_wp2_with (first|((with_reducible refine gC 154 ?_);refine gM (some 16) Try.func154 (args:=#[.slice (some ad226) l0.length c0, .int .i64 x10_1]) (impl_column.calls k1 _ _ l0 x10_1 t227 _ (yc (Kd.C_below HR0.out HB.out)) HC0.out A6.out) ?_;rintro e w8 ⟨v228,rfl,ho0,hb⟩;refine ⟨_,rfl,?_⟩;replace HO_3:=eS HO_3 (Kd.R_base ho0) hb;have HO229:=am (Kd.R_lower ho0 (pz (yW HB)));replace HB:=yH HB hb;clear hb ho0;obtain ⟨Ao10,co10,eo10⟩:=Kd.R_slice HO229.out;subst eo10)|((with_reducible refine gate_builtin (b:=.append) (xs:=#[.tmp 13, .tmp 17]) rfl ?_);at_builtin;refine Kd.S_append (Kd.slice 5 (Kd.int .u8)) (w0:=w) w.heap.size rfl (.tmp 13) (.tmp 17) 25 24 (.slice none 0 0) 24 rfl Try.underlying25 info24 rfl D5 D13 u3 x3_1 t227 [.slice Ao10 t227.length co10] (fun _=>True) (fun k_=>some k_=(.slice Ao10 t227.length co10:Value).ownBlock) rfl rfl (by exact Kd.M_row (Kd.R_mono (Kd.R_tight rfl (Kd.R_mono (ok':=fun k_=>((fun _=>True)) k_∧some k_ ≠ (u3:Value).ownBlock) (Kd.R_apart' (HO229.out) (Kd.S_typed HO_3.out) D5) (fun k_ hk=>⟨trivial,hk.2⟩))) (fun _ h_=>h_))) (fun k_ hk_=>((Kd.R_mono (ok':=fun k_=>((fun _=>True)) k_∧some k_ ≠ (u3:Value).ownBlock) (Kd.R_apart' (HO229.out) (Kd.S_typed HO_3.out) D5) (fun k_ hk=>⟨trivial,hk.2⟩))).1 k_ hk_.symm) D43 (by exact (by refine sS ?_;exact Kd.S_mono HO_3.out (fun k_ hk=>⟨trivial,fun e_=>hk.2 e_⟩))) D64 D47 (by have:=LMc7.out;omega) ?_;intro v231 w9 ho hb hg hat;rw [← Ny230.out] at ho;have n0_:=am (hb);have n1_:=am (ho);clear HB HO_3 HO229;have HB:=n0_;have HO232:=n1_;clear n0_ n1_ ho hb hg hat))
     go_roundg k1
     case measure=>have:=HK1.out;omega
     case rel=>exact ⟨(y230),(wrap64 (x10_1+1)),D1,H',⟨D38⟩,⟨yS HO232⟩,⟨yW HB⟩⟩
    rw [if_neg c5] at H
    have c5b0:=decide_eq_false c5
    clear c5
    obtain rfl:=Option.some.inj H
    go_wp2
    go_ret
    exact ⟨_,D3,yS HO_3,yW HB⟩
 rw [if_neg c2] at H
 exact absurd H D44

mutual
def impl_product.l0:Nat→List (List Int)→List (List Int)→List (List Int)→Int→Int→Option ((List (List Int)))
 | 0,_,_,_,_,_=>none
 | k+1,x5,x6,x15,x16,x17=>if x17 < x16 then (if 0≤x17 then (if x17 < (x15.length:Int) then (impl_product.l1 k x5 x6 (rd_L1 x15 x17) (([]:List Int)) x15 x16 x17 x5 (x5.length:Int) 0) else (none)) else (none)) else (some x6)
def impl_product.l1:Nat→List (List Int)→List (List Int)→List Int→List Int→List (List Int)→Int→Int→List (List Int)→Int→Int→Option ((List (List Int)))
 | 0,_,_,_,_,_,_,_,_,_,_=>none
 | k+1,x5,x6,x8,x9,x15,x16,x17,x22,x23,x24=>if x24 < x23 then (if 0≤x24 then (if x24 < (x22.length:Int) then ((impl_dot.f k x8 (rd_L1 x22 x24)).bind fun t244=>(if x9.length < 140737488355328 then (impl_product.l1 k x5 x6 x8 (x9 ++ [t244]) x15 x16 x17 x22 x23 (wrap64 (x24+1))) else (none))) else (none)) else (none)) else (if x6.length < 5864062014805 then (impl_product.l0 k x5 (x6 ++ [x9]) x15 x16 (wrap64 (x17+1))) else (none))
end
def impl_product.f (k:Nat) (l0:List (List Int)) (l1:List (List Int)):Option ((List (List Int))):=(impl_transposed.f k l1).bind fun t233=>(impl_product.l0 k t233 (([]:List (List Int))) l0 (l0.length:Int) 0)
theorem impl_product.mono_l:∀ k,(∀ y0 y1 y2 y3 y4,LeO (impl_product.l0 k y0 y1 y2 y3 y4) (impl_product.l0 (k+1) y0 y1 y2 y3 y4))∧(∀ y0 y1 y2 y3 y4 y5 y6 y7 y8 y9,LeO (impl_product.l1 k y0 y1 y2 y3 y4 y5 y6 y7 y8 y9) (impl_product.l1 (k+1) y0 y1 y2 y3 y4 y5 y6 y7 y8 y9))
 | 0=>⟨fun _ _ _ _ _ r h=>by simp [impl_product.l0] at h,fun _ _ _ _ _ _ _ _ _ _ r h=>by simp [impl_product.l1] at h⟩
 | k+1=>by
  obtain ⟨ih0,ih1⟩:=impl_product.mono_l k
  refine ⟨?_,?_⟩
  ·intro y0 y1 y2 y3 y4
   unfold impl_product.l0
   exact mm
  intro y0 y1 y2 y3 y4 y5 y6 y7 y8 y9
  unfold impl_product.l1
  exact mm
theorem impl_product.mono:∀ a0 a1 k,LeO (impl_product.f k a0 a1) (impl_product.f (k+1) a0 a1):=by
 intro a0 a1 k
 obtain ⟨ih0,ih1⟩:=impl_product.mono_l k
 unfold impl_product.f
 exact mm
theorem impl_product.calls (k:Nat) (A0:Option Addr) (c0:Nat) (l0:List (List Int)) (A1:Option Addr) (c1:Nat) (l1:List (List Int)) (r:List (List Int)) (w:World) (hr0:Kd.C (Kd.slice 5 (Kd.int .u8)) w A0 l0.length l0) (hc0:l0.length≤c0) (hr1:Kd.C (Kd.slice 5 (Kd.int .u8)) w A1 l1.length l1) (hc1:l1.length≤c1) (h:impl_product.f k l0 l1=some r) :
  Calls Try.prog 65 #[.slice A0 l0.length c0, .slice A1 l1.length c1] w fun e w'=>∃ v0_:Value,e = .returned (v0_)∧Kd.S (Kd.slice 5 (Kd.int .u8)) 24 w' w.heap.size (fun _=>True) v0_ r∧Below w.heap.size w w':=by
 have HR0:=am hr0
 have HC0:=am hc0
 clear hr0 hc0
 have HR1:=am hr1
 have HC1:=am hc1
 clear hr1 hc1
 have HB:=am (Below.refl w.heap.size w)
 have H:=h
 unfold impl_product.f at H
 clear h
 obtain ⟨t233,A3,H⟩:=yo H
 generalize hy236:(([]:List (List Int)):List (List Int))=y236 at H
 have Ny236:=am hy236.symm
 clear hy236
 have H':=am H
 clear H
 go_enter Try.func65,Try.ntmps65
 go_wp2_with (first|((with_reducible refine gC 127 ?_);refine gM (some 13) Try.func127 (args:=#[.slice A1 l1.length c1]) (impl_transposed.calls k _ _ l1 t233 _ (yc HR1.out) HC1.out A3.out) ?_;rintro e w4 ⟨v234,rfl,ho0,hb⟩;refine ⟨_,rfl,?_⟩;have HO235:=am (Kd.S_lower ho0 (pz (yW HB)));replace HB:=yH HB hb;clear hb ho0)|((with_reducible refine gD 14 ?_);refine Kd.S_lit (Kd.slice 5 (Kd.int .u8)) _ 24 D16 (N:=14) D16 (xs:=([]:List (List Int))) (inner:=[]) (ok:=fun _=>True) (okp:=fun _=>True) D33 D65 (fun _ hk=>hk) trivial (Below.refl _ _) (Nat.le_refl _) D44 ?_;intro v237 w5 ho6 hb hg_ hnew_;clear hg_ hnew_;(first|rw [← Ny236.out] at ho6|(simp only [Int.reduceToNat] at ho6;rw [← Ny236.out] at ho6));have HO238:=am (Kd.S_lower (Kd.S_new' ho6 (Kd.S_lt (yS HO235))) (pz (yW HB)));replace HO235:=eS HO235 (Kd.S_base ho6) hb;replace HB:=yH HB hb;clear hb ho6))
 go_loopg [6,17] k (fun kq v6 v17 w'=>∃ (x6_1:List (List Int)) (x17_1:Int),v17 = .int .i64 x17_1∧Aside0 (impl_product.l0 kq t233 x6_1 l0 (l0.length:Int) x17_1=some r)∧Aside0 (kq≤k)∧Aside0 (Kd.S (Kd.slice 5 (Kd.int .u8)) 24 w' w.heap.size (fun k_=>some k_ ≠ (v6:Value).ownBlock) v234 t233)∧Aside0 (Kd.S (Kd.slice 5 (Kd.int .u8)) 24 w' w.heap.size (fun k_=>some k_ ≠ (v234:Value).ownBlock) v6 x6_1)∧Aside0 (Below w.heap.size w w'))
 case atStart=>exact ⟨(y236),(0),D1,H',⟨Nat.le_refl _⟩,⟨by refine sS ?_;exact Kd.S_mono HO235.out (fun _ hk=>hk.2)⟩,⟨by refine sS ?_;exact Kd.S_mono HO238.out (fun _ hk=>hk.2)⟩,⟨yW HB⟩⟩
 case round =>
  clear H'
  try clear c1
  try clear p2
  try clear c6
  obtain ⟨x6_1,x17_1,rfl,HA,HK1,HO_5,HO_6,HB⟩:=hrel
  cases gk with
  | zero=>exact absurd HA.out (by simp [impl_product.l0])
  | succ k1 =>
   have H:=HA.out
   clear HA
   simp only [impl_product.l0] at H
   by_cases c7:x17_1 < (l0.length:Int)
   ·rw [if_pos c7] at H
    have c7b0:=decide_eq_true c7
    clear c7
    obtain ⟨c8,H⟩:=yi H
    have c8b0:=decide_eq_true c8
    clear c8
    obtain ⟨c9,H⟩:=yi H
    have c9b0:=decide_eq_true c9
    clear c9
    generalize hy240:(([]:List Int):List Int)=y240 at H
    have Ny240:=am hy240.symm
    clear hy240
    have H':=am H
    clear H
    have p239:0≤(x17_1:Int):=od D0
    have q239:x17_1 < (l0.length:Int):=od D0
    obtain ⟨ad239,A239_0,c239_0,e239,hx239_0,hl239_0,hi239_0⟩:=at_L1 HR0.out x17_1 p239 q239
    cases e239
    replace hx239_0:=(HB.out.cell (World.block_lt_of_cell? w _ hx239_0)).trans hx239_0
    have HR239_0:=am hi239_0
    have HC239_0:=am hl239_0
    clear hi239_0 hl239_0
    replace p239:=eq_true p239
    replace q239:=eq_true q239
    go_wp2_with (first|((with_reducible refine gD 21 ?_);refine Kd.R_lit (Kd.int .u8) _ 5 D16 (N:=21) D16 (xs:=([]:List Int)) (inner:=[]) (ok:=fun _=>True) (okp:=fun _=>True) D33 D65 (fun _ hk=>hk) trivial (Below.refl _ _) (Nat.le_refl _) D44 ?_;intro v241 w10 ho11 hb hg_ hnew_;clear hg_ hnew_;(first|rw [← Ny240.out] at ho11|(simp only [Int.reduceToNat] at ho11;rw [← Ny240.out] at ho11));replace HO_5:=eS HO_5 (Kd.R_base ho11) hb;replace HO_6:=eS HO_6 (Kd.R_base ho11) hb;have HO242:=am (Kd.R_lower ho11 (pz (yW HB)));replace HB:=yH HB hb;clear hb ho11;obtain ⟨Ao12,co12,eo12⟩:=Kd.S_slice HO_5.out;subst eo12))
    go_loopg [9,24] k1 (fun kq v9 v24 w'=>∃ (x9_2:List Int) (x24_2:Int),v24 = .int .i64 x24_2∧Aside0 (impl_product.l1 kq t233 x6_1 (rd_L1 l0 x17_1) x9_2 l0 (l0.length:Int) x17_1 t233 (t233.length:Int) x24_2=some r)∧Aside0 (kq≤k1)∧Aside0 (Kd.S (Kd.slice 5 (Kd.int .u8)) 24 w' w.heap.size (fun k_=>some k_ ≠ (u6:Value).ownBlock∧some k_ ≠ (v9:Value).ownBlock) (.slice Ao12 t233.length co12) t233)∧Aside0 (Kd.S (Kd.slice 5 (Kd.int .u8)) 24 w' w.heap.size (fun k_=>some k_ ≠ ((.slice Ao12 t233.length co12):Value).ownBlock∧some k_ ≠ (v9:Value).ownBlock∧some k_ ≠ ((.slice Ao12 t233.length co12):Value).ownBlock) u6 x6_1)∧Aside0 (Kd.R (Kd.int .u8) 5 w' w.heap.size (fun _=>True) v9 x9_2)∧Aside0 (Kd.S (Kd.slice 5 (Kd.int .u8)) 24 w' w.heap.size (fun k_=>some k_ ≠ (u6:Value).ownBlock∧some k_ ≠ (v9:Value).ownBlock) (.slice Ao12 t233.length co12) t233)∧Aside0 (Below w.heap.size w w'))
    case atStart=>exact ⟨(y240),(0),D1,H',⟨Nat.le_refl _⟩,⟨yS HO_5⟩,⟨by refine sS ?_;exact Kd.S_mono HO_6.out (fun _ hk=>⟨hk.1,⟨hk.2,hk.1⟩⟩)⟩,⟨yR HO242⟩,⟨yS HO_5⟩,⟨yW HB⟩⟩
    case round =>
     clear H'
     try clear c1
     try clear c2
     try clear p2
     try clear q2
     try clear hx2
     try clear c6
     try clear c7
     try clear c7b0
     try clear c8
     try clear c8b0
     try clear c9
     try clear c9b0
     try clear c12
     try clear hx239_0
     try clear p2
     try clear p239
     try clear q239
     obtain ⟨x9_2,x24_2,rfl,HA,HK2,HO_5,HO_6,HO_9,HO_22,HB⟩:=hrel
     cases gk with
     | zero=>exact absurd HA.out (by simp [impl_product.l1])
     | succ k2 =>
      have H:=HA.out
      clear HA
      simp only [impl_product.l1] at H
      by_cases c13:x24_2 < (t233.length:Int)
      ·rw [if_pos c13] at H
       have c13b0:=decide_eq_true c13
       clear c13
       obtain ⟨c14,H⟩:=yi H
       have c14b0:=decide_eq_true c14
       clear c14
       obtain ⟨c15,H⟩:=yi H
       have c15b0:=decide_eq_true c15
       clear c15
       obtain ⟨t244,A16,H⟩:=yo H
       obtain ⟨c17,H⟩:=yi H
       have LMc17:=am c17
       clear c17
       generalize hy245:(x9_2 ++ [t244]:List Int)=y245 at H
       have Ny245:=am hy245.symm
       clear hy245
       have H':=am H
       clear H
       have p243:0≤(x24_2:Int):=od D0
       have q243:x24_2 < (t233.length:Int):=od D0
       obtain ⟨ad243,A243_0,c243_0,e243,hx243_0,hl243_0,hi243_0⟩:=at_L1 (Kd.S_reads' HO_22.out).2.2 x24_2 p243 q243
       cases e243
       obtain ⟨ce243,hce243,hMe243,hcc243⟩:=Kd.S_get HO_22.out [] x24_2 p243 (by first|exact q243|exact od D0|(have e_:=(Kd.S_reads' HO_22.out).1;omega))
       obtain ⟨ve243_0,rfl,ge243_0⟩:=hMe243
       have hv243_0:=hcc243 0 _ rfl
       rw [Nat.add_zero,show ((Kd.slice 5 (Kd.int .u8))).sz=1 from rfl,Nat.mul_one] at hv243_0
       replace hv243_0:=Option.some.inj (hv243_0.symm.trans hx243_0)
       rw [hv243_0] at ge243_0
       have HL243_0:=am (show Kd.R (Kd.int .u8) 5 _ _ _ _ (rd_L1 t233 x24_2) from ge243_0)
       clear hv243_0 ge243_0
       clear hcc243 hce243
       have HR243_0:=am hi243_0
       have HC243_0:=am hl243_0
       clear hi243_0 hl243_0
       replace p243:=eq_true p243
       replace q243:=eq_true q243
       go_wp2_with (first|((with_reducible refine gC 117 ?_);refine gM (some 31) Try.func117 (args:=#[.slice A239_0 (rd_L1 l0 x17_1).length c239_0, .slice A243_0 (rd_L1 t233 x24_2).length c243_0]) (impl_dot.calls k2 _ _ (rd_L1 l0 x17_1) _ _ (rd_L1 t233 x24_2) t244 _ ?side1 ?side2 ?side3 ?side4 A16.out) ?_;(case side1=>repeat (first|exact (Kd.C_below HR239_0.out HB.out)|(with_reducible refine Kd.C_alloc ?_ _)|(with_reducible refine Kd.C_drewN ?_ _)|(with_reducible refine Kd.C_drew ?_)));(case side2=>exact HC239_0.out);(case side3=>repeat (first|exact (by repeat (first|(with_reducible exact HR243_0.out)|(with_reducible refine Kd.C_alloc ?_ _)|(with_reducible refine Kd.C_drewN ?_ _)|(with_reducible refine Kd.C_drew ?_)|exact HR243_0.out))|(with_reducible refine Kd.C_alloc ?_ _)|(with_reducible refine Kd.C_drewN ?_ _)|(with_reducible refine Kd.C_drew ?_)));(case side4=>exact HC243_0.out);rintro e w' ⟨rfl,⟨nd,rfl⟩⟩;refine ⟨_,rfl,?_⟩)|((with_reducible refine gate_builtin (b:=.append) (xs:=#[.tmp 28, .tmp 32]) rfl ?_);at_builtin;refine Kd.R_append (Kd.int .u8) (w0:=w) w.heap.size rfl (.tmp 28) (.tmp 32) 24 5 (.int .u8 0) 1 rfl Try.underlying24 info5 rfl D5 D13 u9 x9_2 t244 [.int .u8 t244] (fun _=>True) (fun _=>False) rfl rfl D98 (fun _ hk=>hk.elim) D43 (by exact (yR HO_9)) D64 D47 (by have:=LMc17.out;omega) ?_;intro v246 w18 ho hb hg hat;rw [← Ny245.out] at ho;have n0_:=am (Kd.S_after (ok:=(fun k_=>some k_ ≠ (u6:Value).ownBlock)) (yS HO_5) hg hat);have n1_:=am (Kd.S_after (ok:=(fun k_=>some k_ ≠ (.slice (some ad243) t233.length co12:Value).ownBlock∧some k_ ≠ (.slice (some ad243) t233.length co12:Value).ownBlock)) (by refine sS ?_;exact Kd.S_mono HO_6.out (fun _ hk=>⟨⟨hk.1,hk.2.2⟩,hk.2.1⟩)) hg hat);have n2_:=am (Kd.S_after (ok:=(fun k_=>some k_ ≠ (u6:Value).ownBlock)) (yS HO_22) hg hat);have n3_:=am (Kd.R_after (ok:=(fun k_=>some k_ ≠ (u6:Value).ownBlock∧some k_ ≠ (.slice (some ad243) t233.length co12:Value).ownBlock)) (by refine sR ?_;exact Kd.R_mono HL243_0.out (fun _ hk=>⟨⟨hk.1.1,hk.2⟩,hk.1.2⟩)) hg hat);have n4_:=am (hb);have n5_:=am (ho);clear HO_5 HO_6 HO_22 HL243_0 HB HO_9;have HO_5:=n0_;have HO_6:=n1_;have HO_22:=n2_;have HL243_0:=n3_;have HB:=n4_;have HO247:=n5_;clear n0_ n1_ n2_ n3_ n4_ n5_ ho hb hg hat))
       go_roundg k2
       case measure=>have:=HK1.out;have:=HK2.out;omega
       case rel=>exact ⟨(y245),(wrap64 (x24_2+1)),D1,H',⟨D93⟩,⟨yS HO_5⟩,⟨by refine sS ?_;exact Kd.S_mono HO_6.out (fun _ hk=>⟨hk.1.1,⟨hk.2,hk.1.2⟩⟩)⟩,⟨yR HO247⟩,⟨yS HO_22⟩,⟨yW HB⟩⟩
      rw [if_neg c13] at H
      have c13b0:=decide_eq_false c13
      clear c13
      obtain ⟨c19,H⟩:=yi H
      have LMc19:=am c19
      clear c19
      generalize hy248:(x6_1 ++ [x9_2]:List (List Int))=y248 at H
      have Ny248:=am hy248.symm
      clear hy248
      have H':=am H
      clear H
      obtain ⟨Ao21,co21,eo21⟩:=Kd.R_slice HO_9.out
      subst eo21
      go_wp2_with (first|((with_reducible refine gate_builtin (b:=.append) (xs:=#[.tmp 35, .tmp 37]) rfl ?_);at_builtin;refine Kd.S_append (Kd.slice 5 (Kd.int .u8)) (w0:=w) w.heap.size rfl (.tmp 35) (.tmp 37) 25 24 (.slice none 0 0) 24 rfl Try.underlying25 info24 rfl D5 D13 u6 x6_1 x9_2 [.slice Ao21 x9_2.length co21] (fun k_=>some k_ ≠ (.slice Ao12 t233.length co12:Value).ownBlock∧some k_ ≠ (.slice Ao12 t233.length co12:Value).ownBlock) (fun k_=>some k_=(.slice Ao21 x9_2.length co21:Value).ownBlock) rfl rfl (by exact Kd.M_row (Kd.R_mono (Kd.R_tight rfl (Kd.R_mono (ok':=fun k_=>((fun k_=>some k_ ≠ (.slice Ao12 t233.length co12:Value).ownBlock∧some k_ ≠ (.slice Ao12 t233.length co12:Value).ownBlock)) k_∧some k_ ≠ (u6:Value).ownBlock) (Kd.R_apart' (Kd.R_apart' (Kd.R_apart' (HO_9.out) (Kd.S_typed HO_5.out) D5) (Kd.S_typed HO_22.out) D5) (Kd.S_typed HO_6.out) D5) (fun k_ hk=>⟨⟨hk.1.1.2,hk.1.2⟩,hk.2⟩))) (fun _ h_=>h_))) (fun k_ hk_=>((Kd.R_mono (ok':=fun k_=>((fun k_=>some k_ ≠ (.slice Ao12 t233.length co12:Value).ownBlock∧some k_ ≠ (.slice Ao12 t233.length co12:Value).ownBlock)) k_∧some k_ ≠ (u6:Value).ownBlock) (Kd.R_apart' (Kd.R_apart' (Kd.R_apart' (HO_9.out) (Kd.S_typed HO_5.out) D5) (Kd.S_typed HO_22.out) D5) (Kd.S_typed HO_6.out) D5) (fun k_ hk=>⟨⟨hk.1.1.2,hk.1.2⟩,hk.2⟩))).1 k_ hk_.symm) (by exact (fun k_ hk=>⟨Kd.fresh' (Kd.S_lt (yS HO_5)) k_ hk,Kd.fresh' (Kd.S_lt (yS HO_22)) k_ hk⟩)) (by exact (by refine sS ?_;exact Kd.S_mono HO_6.out (fun k_ hk=>⟨⟨hk.1,hk.2.2⟩,fun e_=>hk.2.1 e_⟩))) D64 D47 (by have:=LMc19.out;omega) ?_;intro v249 w20 ho hb hg hat;rw [← Ny248.out] at ho;have n0_:=am (Kd.S_after (ok:=(fun k_=>some k_ ≠ (.slice Ao21 x9_2.length co21:Value).ownBlock)) (by refine sS ?_;exact Kd.S_mono HO_5.out (fun _ hk=>⟨hk.2,hk.1⟩)) hg hat);have n1_:=am (Kd.S_after (ok:=(fun k_=>some k_ ≠ (.slice Ao21 x9_2.length co21:Value).ownBlock)) (by refine sS ?_;exact Kd.S_mono HO_22.out (fun _ hk=>⟨hk.2,hk.1⟩)) hg hat);have n2_:=am (hb);have n3_:=am (ho);clear HO_5 HO_22 HB HO_6 HO_9;have HO_5:=n0_;have HO_22:=n1_;have HB:=n2_;have HO250:=n3_;clear n0_ n1_ n2_ n3_ ho hb hg hat))
      go_roundg k2
      case measure=>have:=HK1.out;have:=HK2.out;omega
      case rel=>exact ⟨(y248),(wrap64 (x17_1+1)),D1,H',⟨D93⟩,⟨by refine sS ?_;exact Kd.S_mono HO_5.out (fun _ hk=>hk.2)⟩,⟨by refine sS ?_;exact Kd.S_mono HO250.out (fun _ hk=>hk.1)⟩,⟨yW HB⟩⟩
   rw [if_neg c7] at H
   have c7b0:=decide_eq_false c7
   clear c7
   obtain rfl:=Option.some.inj H
   go_wp2
   go_ret
   exact ⟨_,D3,by refine sS ?_;exact Kd.S_mono HO_6.out (fun _ hk=>trivial),yW HB⟩

def impl_Msr_powers.l0:Nat→Int→List Int→Int→Int→Int→Int→Option (List Int × Int)
 | 0,_,_,_,_,_,_=>none
 | k+1,x6,x7,x14,x15,x252000,x252001=>if x15 < x14 then ((impl_power.f k x6 x15).bind fun t257=>(if x7.length < 140737488355328 then (impl_Msr_powers.l0 k x6 (x7 ++ [t257]) x14 (wrap64 (x15+1)) x252000 x252001) else (none))) else ((impl_Msr_alpha.f x252000 x252001).bind fun t261=>((impl_power.f k x6 t261).bind fun t262=>(some (x7,t262))))
def impl_Msr_powers.f (k:Nat) (a0_0:Int) (a0_1:Int) (a1:Int):Option (List Int × Int):=(impl_power.f k 3 (wrap64 (a1+1))).bind fun t252=>((impl_Msr_alpha.f a0_0 a0_1).bind fun t256=>(impl_Msr_powers.l0 k t252 (([]:List Int)) t256 0 a0_0 a0_1))
theorem impl_Msr_powers.mono_l:∀ k,(∀ y0 y1 y2 y3 y4 y5,LeO (impl_Msr_powers.l0 k y0 y1 y2 y3 y4 y5) (impl_Msr_powers.l0 (k+1) y0 y1 y2 y3 y4 y5))
 | 0=>fun _ _ _ _ _ _ r h=>by simp [impl_Msr_powers.l0] at h
 | k+1=>by
  have ih0:=impl_Msr_powers.mono_l k
  intro y0 y1 y2 y3 y4 y5
  unfold impl_Msr_powers.l0
  exact mm
theorem impl_Msr_powers.mono:∀ a0 a1 a2 k,LeO (impl_Msr_powers.f k a0 a1 a2) (impl_Msr_powers.f (k+1) a0 a1 a2):=by
 intro a0 a1 a2 k
 have ih0:=impl_Msr_powers.mono_l k
 unfold impl_Msr_powers.f
 exact mm
theorem impl_Msr_powers.calls (k:Nat) (a0_0:Int) (a0_1:Int) (a1:Int) (r1:List Int) (r2:Int) (w:World) (h:impl_Msr_powers.f k a0_0 a0_1 a1=some (r1,r2)) :
  Calls Try.prog 116 #[.agg #[.int .i64 a0_0, .int .i64 a0_1], .int .i64 a1] w fun e w'=>∃ v0_:Value,e = .returned (.tuple #[v0_, .int .u8 r2])∧Kd.R (Kd.int .u8) 5 w' w.heap.size (fun _=>True) v0_ r1∧Below w.heap.size w w':=by
 have hu30:=Try.underlying30
 have HB:=am (Below.refl w.heap.size w)
 have H:=h
 unfold impl_Msr_powers.f at H
 clear h
 obtain ⟨t252,A3,H⟩:=yo H
 generalize hy253:(([]:List Int):List Int)=y253 at H
 have Ny253:=am hy253.symm
 clear hy253
 obtain ⟨t256,A4,H⟩:=yo H
 have H':=am H
 clear H
 go_enter Try.func116,Try.ntmps116
 go_wp2_with (first|((with_reducible refine gD 2 ?_);refine gB (cs:=#[.int .i64 a0_0, .int .i64 a0_1]) 30 ?_;intro gb251 hg w5 hbox hb;have BK251:=am (hbox);have GW251:=ye HB hg;replace HB:=yH HB hb;have GE251:=GW251;clear hb hbox hg)|((with_reducible refine gC 88 ?_);refine gM (some 11) Try.func88 (args:=#[.int .u8 3, .int .i64 (wrap64 (a1+1))]) (impl_power.calls k 3 (wrap64 (a1+1)) t252 _ A3.out) ?_;rintro e w' ⟨rfl,⟨nd,rfl⟩⟩;refine ⟨_,rfl,?_⟩)|((with_reducible refine gD 12 ?_);refine Kd.R_lit (Kd.int .u8) _ 5 D16 (N:=12) D16 (xs:=([]:List Int)) (inner:=[]) (ok:=fun _=>True) (okp:=fun _=>True) D33 D65 (fun _ hk=>hk) trivial (Below.refl _ _) (Nat.le_refl _) D44 ?_;intro v254 w6 ho7 hb hg_ hnew_;clear hg_ hnew_;(first|rw [← Ny253.out] at ho7|(simp only [Int.reduceToNat] at ho7;rw [← Ny253.out] at ho7));have HO255:=am (Kd.R_lower ho7 (pz (yW HB)));replace BK251:=yb BK251 hb;replace HB:=yH HB hb;clear hb ho7;obtain ⟨hcz8_0,hcz8_1,hfz8_0,hfz8_1⟩:=yk2 BK251)|((with_reducible refine gC 103 ?_);refine gM (some 14) Try.func103 (args:=#[.agg #[.int .i64 a0_0, .int .i64 a0_1]]) (impl_Msr_alpha.calls a0_0 a0_1 t256 _ A4.out) ?_;rintro e w9 ⟨rfl,hb⟩;refine ⟨_,rfl,?_⟩;replace HO255:=bR HO255 hb;replace BK251:=yb BK251 hb;replace HB:=yH HB hb;clear hb))
 go_loopg [7,15] k (fun kq v7 v15 w'=>∃ (x7_1:List Int) (x15_1:Int),v15 = .int .i64 x15_1∧Aside0 (impl_Msr_powers.l0 kq t252 x7_1 t256 x15_1 a0_0 a0_1=some (r1,r2))∧Aside0 (kq≤k)∧Aside0 (Kd.R (Kd.int .u8) 5 w' w.heap.size (fun _=>True) v7 x7_1)∧Aside0 (w'.heap[gb251]? = some (.cells #[.int .i64 a0_0, .int .i64 a0_1] 30 (0,0)))∧Aside0 (Below w.heap.size w w'))
 case atStart=>exact ⟨(y253),(0),D1,H',⟨Nat.le_refl _⟩,⟨yR HO255⟩,⟨yB BK251⟩,⟨yW HB⟩⟩
 case round =>
  clear H'
  try clear c1
  try clear p2
  try clear p6
  try clear c8
  try clear hcz8_0
  try clear hcz8_1
  try clear hfz8_0
  try clear hfz8_1
  obtain ⟨x7_1,x15_1,rfl,HA,HK1,HO_7,BK251,HB⟩:=hrel
  cases gk with
  | zero=>exact absurd HA.out (by simp [impl_Msr_powers.l0])
  | succ k1 =>
   have H:=HA.out
   clear HA
   simp only [impl_Msr_powers.l0] at H
   by_cases c10:x15_1 < t256
   ·rw [if_pos c10] at H
    have c10b0:=decide_eq_true c10
    clear c10
    obtain ⟨t257,A11,H⟩:=yo H
    obtain ⟨c12,H⟩:=yi H
    have LMc12:=am c12
    clear c12
    generalize hy258:(x7_1 ++ [t257]:List Int)=y258 at H
    have Ny258:=am hy258.symm
    clear hy258
    have H':=am H
    clear H
    go_wp2_with (first|((with_reducible refine gC 88 ?_);refine gM (some 21) Try.func88 (args:=#[.int .u8 t252, .int .i64 x15_1]) (impl_power.calls k1 t252 x15_1 t257 _ A11.out) ?_;rintro e w' ⟨rfl,⟨nd,rfl⟩⟩;refine ⟨_,rfl,?_⟩)|((with_reducible refine gate_builtin (b:=.append) (xs:=#[.tmp 18, .tmp 22]) rfl ?_);at_builtin;refine Kd.R_append (Kd.int .u8) (w0:=w) w.heap.size rfl (.tmp 18) (.tmp 22) 24 5 (.int .u8 0) 1 rfl Try.underlying24 info5 rfl D5 D13 u7 x7_1 t257 [.int .u8 t257] (fun _=>True) (fun _=>False) rfl rfl D98 (fun _ hk=>hk.elim) D43 (by exact (yR HO_7)) D64 D47 (by have:=LMc12.out;omega) ?_;intro v259 w13 ho hb hg hat;rw [← Ny258.out] at ho;have n0_:=am (blk_grown (g:=gb251) (o:=.cells #[.int .i64 a0_0, .int .i64 a0_1] 30 (0,0)) (yB BK251) hg (Kd.R_ne HO_7.out BK251.out D5));have n1_:=am (hb);have n2_:=am (ho);clear BK251 HB HO_7;have BK251:=n0_;have HB:=n1_;have HO260:=n2_;clear n0_ n1_ n2_ ho hb hg hat))
    go_roundg k1
    case measure=>have:=HK1.out;omega
    case rel=>exact ⟨(y258),(wrap64 (x15_1+1)),D1,H',⟨D38⟩,⟨yR HO260⟩,⟨yB BK251⟩,⟨yW HB⟩⟩
   rw [if_neg c10] at H
   have c10b0:=decide_eq_false c10
   clear c10
   obtain ⟨t261,A14,H⟩:=yo H
   obtain ⟨t262,A15,H⟩:=yo H
   simp only [Option.some.injEq,Prod.mk.injEq] at H
   obtain ⟨rfl,rfl⟩:=H
   obtain ⟨hcz16_0,hcz16_1,hfz16_0,hfz16_1⟩:=yk2 BK251
   go_wp2_with (first|((with_reducible refine gC 103 ?_);refine gM (some 28) Try.func103 (args:=#[.agg #[.int .i64 a0_0, .int .i64 a0_1]]) (impl_Msr_alpha.calls a0_0 a0_1 t261 _ A14.out) ?_;rintro e w17 ⟨rfl,hb⟩;refine ⟨_,rfl,?_⟩;replace HO_7:=bR HO_7 hb;replace BK251:=yb BK251 hb;replace HB:=yH HB hb;clear hb)|((with_reducible refine gC 88 ?_);refine gM (some 29) Try.func88 (args:=#[.int .u8 t252, .int .i64 t261]) (impl_power.calls k1 t252 t261 t262 _ A15.out) ?_;rintro e w' ⟨rfl,⟨nd,rfl⟩⟩;refine ⟨_,rfl,?_⟩))
   go_ret2
   exact ⟨_,D3,yR HO_7,yW HB⟩

def impl_scaled.l0:Nat→Int→List Int→List Int→Int→Int→Option (List Int)
 | 0,_,_,_,_,_=>none
 | k+1,x0,x5,x9,x10,x11=>if x11 < x10 then (if 0≤x11 then (if x11 < (x9.length:Int) then ((impl_Times.f k x0 (rd x9 x11)).bind fun t267=>(if x5.length < 140737488355328 then (impl_scaled.l0 k x0 (x5 ++ [t267]) x9 x10 (wrap64 (x11+1))) else (none))) else (none)) else (none)) else (some x5)
def impl_scaled.f (k:Nat) (a0:Int) (l1:List Int):Option (List Int):=impl_scaled.l0 k a0 (([]:List Int)) l1 (l1.length:Int) 0
theorem impl_scaled.mono_l:∀ k,(∀ y0 y1 y2 y3 y4,LeO (impl_scaled.l0 k y0 y1 y2 y3 y4) (impl_scaled.l0 (k+1) y0 y1 y2 y3 y4))
 | 0=>fun _ _ _ _ _ r h=>by simp [impl_scaled.l0] at h
 | k+1=>by
  have ih0:=impl_scaled.mono_l k
  intro y0 y1 y2 y3 y4
  unfold impl_scaled.l0
  exact mm
theorem impl_scaled.mono:∀ a0 a1 k,LeO (impl_scaled.f k a0 a1) (impl_scaled.f (k+1) a0 a1):=by
 intro a0 a1 k
 have ih0:=impl_scaled.mono_l k
 unfold impl_scaled.f
 exact mm
theorem impl_scaled.calls (k:Nat) (a0:Int) (A1:Option Addr) (c1:Nat) (l1:List Int) (r:List Int) (w:World) (hr1:Kd.C (Kd.int .u8) w A1 l1.length l1) (hc1:l1.length≤c1) (h:impl_scaled.f k a0 l1=some r) :
  Calls Try.prog 119 #[.int .u8 a0, .slice A1 l1.length c1] w fun e w'=>∃ v0_:Value,e = .returned (v0_)∧Kd.R (Kd.int .u8) 5 w' w.heap.size (fun _=>True) v0_ r∧Below w.heap.size w w':=by
 have HR1:=am hr1
 have HC1:=am hc1
 clear hr1 hc1
 have HB:=am (Below.refl w.heap.size w)
 have H:=h
 unfold impl_scaled.f at H
 clear h
 generalize hy263:(([]:List Int):List Int)=y263 at H
 have Ny263:=am hy263.symm
 clear hy263
 have H':=am H
 clear H
 go_enter Try.func119,Try.ntmps119
 go_wp2_with (first|((with_reducible refine gD 8 ?_);refine Kd.R_lit (Kd.int .u8) _ 5 D16 (N:=8) D16 (xs:=([]:List Int)) (inner:=[]) (ok:=fun _=>True) (okp:=fun _=>True) D33 D65 (fun _ hk=>hk) trivial (Below.refl _ _) (Nat.le_refl _) D44 ?_;intro v264 w3 ho4 hb hg_ hnew_;clear hg_ hnew_;(first|rw [← Ny263.out] at ho4|(simp only [Int.reduceToNat] at ho4;rw [← Ny263.out] at ho4));have HO265:=am (Kd.R_lower ho4 (pz (yW HB)));replace HB:=yH HB hb;clear hb ho4))
 go_loopg [5,11] k (fun kq v5 v11 w'=>∃ (x5_1:List Int) (x11_1:Int),v11 = .int .i64 x11_1∧Aside0 (impl_scaled.l0 kq a0 x5_1 l1 (l1.length:Int) x11_1=some r)∧Aside0 (kq≤k)∧Aside0 (Kd.R (Kd.int .u8) 5 w' w.heap.size (fun _=>True) v5 x5_1)∧Aside0 (Below w.heap.size w w'))
 case atStart=>exact ⟨(y263),(0),D1,H',⟨Nat.le_refl _⟩,⟨yR HO265⟩,⟨yW HB⟩⟩
 case round =>
  clear H'
  try clear c1
  try clear p2
  obtain ⟨x5_1,x11_1,rfl,HA,HK1,HO_5,HB⟩:=hrel
  cases gk with
  | zero=>exact absurd HA.out (by simp [impl_scaled.l0])
  | succ k1 =>
   have H:=HA.out
   clear HA
   simp only [impl_scaled.l0] at H
   by_cases c5:x11_1 < (l1.length:Int)
   ·rw [if_pos c5] at H
    have c5b0:=decide_eq_true c5
    clear c5
    obtain ⟨c6,H⟩:=yi H
    have c6b0:=decide_eq_true c6
    clear c6
    obtain ⟨c7,H⟩:=yi H
    have c7b0:=decide_eq_true c7
    clear c7
    obtain ⟨t267,A8,H⟩:=yo H
    obtain ⟨c9,H⟩:=yi H
    have LMc9:=am c9
    clear c9
    generalize hy268:(x5_1 ++ [t267]:List Int)=y268 at H
    have Ny268:=am hy268.symm
    clear hy268
    have H':=am H
    clear H
    have p266:0≤(x11_1:Int):=od D0
    have q266:x11_1 < (l1.length:Int):=od D0
    obtain ⟨ad266,e266,hx266_0⟩:=Kd.at_int HR1.out x11_1 p266 q266
    cases e266
    replace hx266_0:=(HB.out.cell (World.block_lt_of_cell? w _ hx266_0)).trans hx266_0
    replace p266:=eq_true p266
    replace q266:=eq_true q266
    go_wp2_with (first|((with_reducible refine gC 51 ?_);refine gM (some 18) Try.func51 (args:=#[.int .u8 a0, .int .u8 (rd l1 x11_1)]) (impl_Times.calls k1 a0 (rd l1 x11_1) t267 _ A8.out) ?_;rintro e w' ⟨rfl,⟨nd,rfl⟩⟩;refine ⟨_,rfl,?_⟩)|((with_reducible refine gate_builtin (b:=.append) (xs:=#[.tmp 15, .tmp 19]) rfl ?_);at_builtin;refine Kd.R_append (Kd.int .u8) (w0:=w) w.heap.size rfl (.tmp 15) (.tmp 19) 24 5 (.int .u8 0) 1 rfl Try.underlying24 info5 rfl D5 D13 u5 x5_1 t267 [.int .u8 t267] (fun _=>True) (fun _=>False) rfl rfl D98 (fun _ hk=>hk.elim) D43 (by exact (yR HO_5)) D64 D47 (by have:=LMc9.out;omega) ?_;intro v269 w10 ho hb hg hat;rw [← Ny268.out] at ho;have n0_:=am (hb);have n1_:=am (ho);clear HB HO_5;have HB:=n0_;have HO270:=n1_;clear n0_ n1_ ho hb hg hat))
    go_roundg k1
    case measure=>have:=HK1.out;omega
    case rel=>exact ⟨(y268),(wrap64 (x11_1+1)),D1,H',⟨D38⟩,⟨yR HO270⟩,⟨yW HB⟩⟩
   rw [if_neg c5] at H
   have c5b0:=decide_eq_false c5
   clear c5
   obtain rfl:=Option.some.inj H
   go_wp2
   go_ret
   exact ⟨_,D3,yR HO_5,yW HB⟩
def impl_Msr_row.f (k:Nat) (a0_0:Int) (a0_1:Int) (a1:Int):Option (List Int):=(impl_Msr_powers.f k a0_0 a0_1 a1).bind fun bt272=>((impl_scaled.f k bt272.2 bt272.1).bind fun t276=>(if bt272.1.length+t276.length < 140737488355328 then (some (bt272.1 ++ t276)) else (none)))
theorem impl_Msr_row.mono:∀ a0 a1 a2 k,LeO (impl_Msr_row.f k a0 a1 a2) (impl_Msr_row.f (k+1) a0 a1 a2):=by
 intro a0 a1 a2 k
 unfold impl_Msr_row.f
 exact mm
theorem impl_Msr_row.calls (k:Nat) (a0_0:Int) (a0_1:Int) (a1:Int) (r:List Int) (w:World) (h:impl_Msr_row.f k a0_0 a0_1 a1=some r) :
  Calls Try.prog 66 #[.agg #[.int .i64 a0_0, .int .i64 a0_1], .int .i64 a1] w fun e w'=>∃ v0_:Value,e = .returned (v0_)∧Kd.R (Kd.int .u8) 5 w' w.heap.size (fun _=>True) v0_ r∧Below w.heap.size w w':=by
 have hu30:=Try.underlying30
 have HB:=am (Below.refl w.heap.size w)
 have H:=h
 unfold impl_Msr_row.f at H
 clear h
 obtain ⟨⟨t272,t275⟩,A3,H⟩:=yo H
 try dsimp only at H
 obtain ⟨t276,A4,H⟩:=yo H
 by_cases c5:t272.length+t276.length < 140737488355328
 ·rw [if_pos c5] at H
  have LMc5:=am c5
  clear c5
  generalize hy279:(t272 ++ t276:List Int)=y279 at H
  have Ny279:=am hy279.symm
  clear hy279
  obtain rfl:=Option.some.inj H
  go_enter Try.func66,Try.ntmps66
  go_wp2_with (first|((with_reducible refine gD 2 ?_);refine gB (cs:=#[.int .i64 a0_0, .int .i64 a0_1]) 30 ?_;intro gb271 hg w6 hbox hb;have BK271:=am (hbox);have GW271:=ye HB hg;replace HB:=yH HB hb;have GE271:=GW271;clear hb hbox hg;obtain ⟨hcz7_0,hcz7_1,hfz7_0,hfz7_1⟩:=yk2 BK271)|((with_reducible refine gC 116 ?_);refine gM (some 10) Try.func116 (args:=#[.agg #[.int .i64 a0_0, .int .i64 a0_1], .int .i64 a1]) (impl_Msr_powers.calls k a0_0 a0_1 a1 t272 t275 _ A3.out) ?_;rintro e w8 ⟨v273,rfl,ho0,hb⟩;refine ⟨_,rfl,?_⟩;have HO274:=am (Kd.R_lower ho0 (pz (yW HB)));replace BK271:=yb BK271 hb;replace HB:=yH HB hb;clear hb ho0;obtain ⟨Ao9,co9,eo9⟩:=Kd.R_slice HO274.out;subst eo9)|((with_reducible refine gC 119 ?_);refine gM (some 16) Try.func119 (args:=#[.int .u8 t275, .slice Ao9 t272.length co9]) (impl_scaled.calls k t275 _ _ t272 t276 _ (yc (Kd.R_reads' HO274.out).2.2) (Kd.R_reads' HO274.out).2.1 A4.out) ?_;rintro e w10 ⟨v277,rfl,ho0,hb⟩;refine ⟨_,rfl,?_⟩;have HO278:=am (Kd.R_lower (Kd.R_new' ho0 (Kd.R_lt (yR HO274))) (pz (yW HB)));replace HO274:=eR HO274 (Kd.R_base ho0) hb;replace BK271:=yb BK271 hb;replace HB:=yH HB hb;clear hb ho0;obtain ⟨Ao12,co12,eo12⟩:=Kd.R_slice HO278.out;subst eo12)|((with_reducible refine gate_builtin (b:=.append) (xs:=#[.tmp 13, .tmp 16]) rfl ?_);at_builtin;refine Kd.R_append_rows (Kd.int .u8) (w0:=w) w.heap.size rfl (.tmp 13) (.tmp 16) 24 5 (.int .u8 0) 1 rfl Try.underlying24 info5 rfl D5 D13 (.slice Ao9 t272.length co9) t272 t276 _ _ _ (fun k_=>some k_ ≠ (.slice Ao12 t276.length co12:Value).ownBlock) (fun _=>False) rfl rfl (by exact (by refine sR ?_;exact Kd.R_mono HO274.out (fun _ hk=>hk.2))) (by repeat (first|exact (Kd.R_reads' HO278.out).2.2|(with_reducible refine Kd.C_alloc ?_ _)|(with_reducible refine Kd.C_drewN ?_ _)|(with_reducible refine Kd.C_drew ?_))) (fun _ _ h=>h) (fun _ h=>h.elim) (by exact (fun k_ hk=>Kd.fresh' (Kd.R_lt (yR HO278)) k_ hk)) D64 D47 (by have:=LMc5.out;omega) ?_;intro v280 w11 ho hb hg hat;rw [← Ny279.out] at ho;have n0_:=am (blk_grown (g:=gb271) (o:=.cells #[.int .i64 a0_0, .int .i64 a0_1] 30 (0,0)) (yB BK271) hg (Kd.R_ne HO274.out BK271.out D5));have n1_:=am (Kd.R_after (ok:=(fun _=>True)) (yR HO278) hg hat);have n2_:=am (hb);have n3_:=am (ho);clear BK271 HO278 HB HO274;have BK271:=n0_;have HO278:=n1_;have HB:=n2_;have HO281:=n3_;clear n0_ n1_ n2_ n3_ ho hb hg hat))
  go_ret
  exact ⟨_,D3,by refine sR ?_;exact Kd.R_mono HO281.out (fun _ hk=>trivial),yW HB⟩
 rw [if_neg c5] at H
 exact absurd H D44

mutual
def impl_EncodeMsr.j0:Nat→List Int→Bool→Int→Int→Option ((List (S76)) × Bool)
 | 0,_,_,_,_=>none
 | k+1,x1,x18,x294000,x294001=>if x18=true then (some (([]:List (S76)),false)) else ((impl_Msr_message.f k x294000 x294001 x1).bind fun t296=>(impl_EncodeMsr.l0 k t296 (([]:List (S76))) x294000 0 x294000 x294001))
def impl_EncodeMsr.l0:Nat→List (List Int)→List (S76)→Int→Int→Int→Int→Option ((List (S76)) × Bool)
 | 0,_,_,_,_,_,_=>none
 | k+1,x6,x7,x24,x25,x294000,x294001=>if x25 < x24 then ((impl_Msr_row.f k x294000 x294001 x25).bind fun t302=>((impl_product.f k (([t302]:List (List Int))) x6).bind fun t308=>(if 0 < (t308.length:Int) then (if x7.length < 4398046511104 then (impl_EncodeMsr.l0 k x6 (x7 ++ [(⟨x25,t308.getD 0 []⟩:S76)]) x24 (wrap64 (x25+1)) x294000 x294001) else (none)) else (none)))) else (some (x7,true))
end
def impl_EncodeMsr.f (k:Nat) (a0_0:Int) (a0_1:Int) (l1:List Int):Option ((List (S76)) × Bool):=(impl_GoodMsr.f a0_0 a0_1).bind fun t294=>(if t294=true then ((impl_Msr_size.f a0_0 a0_1).bind fun t295=>(impl_EncodeMsr.j0 k l1 ((l1.length:Int) != t295) a0_0 a0_1)) else (impl_EncodeMsr.j0 k l1 true a0_0 a0_1))
theorem impl_EncodeMsr.mono_l:∀ k,(∀ y0 y1 y2 y3,LeO (impl_EncodeMsr.j0 k y0 y1 y2 y3) (impl_EncodeMsr.j0 (k+1) y0 y1 y2 y3))∧(∀ y0 y1 y2 y3 y4 y5,LeO (impl_EncodeMsr.l0 k y0 y1 y2 y3 y4 y5) (impl_EncodeMsr.l0 (k+1) y0 y1 y2 y3 y4 y5))
 | 0=>⟨fun _ _ _ _ r h=>by simp [impl_EncodeMsr.j0] at h,fun _ _ _ _ _ _ r h=>by simp [impl_EncodeMsr.l0] at h⟩
 | k+1=>by
  obtain ⟨ih0,ih1⟩:=impl_EncodeMsr.mono_l k
  refine ⟨?_,?_⟩
  ·intro y0 y1 y2 y3
   unfold impl_EncodeMsr.j0
   exact mm
  intro y0 y1 y2 y3 y4 y5
  unfold impl_EncodeMsr.l0
  exact mm
theorem impl_EncodeMsr.mono:∀ a0 a1 a2 k,LeO (impl_EncodeMsr.f k a0 a1 a2) (impl_EncodeMsr.f (k+1) a0 a1 a2):=by
 intro a0 a1 a2 k
 obtain ⟨ih0,ih1⟩:=impl_EncodeMsr.mono_l k
 unfold impl_EncodeMsr.f
 exact mm
theorem impl_EncodeMsr.calls (k:Nat) (a0_0:Int) (a0_1:Int) (A1:Option Addr) (c1:Nat) (l1:List Int) (r1:List (S76)) (r2:Bool) (w:World) (hr1:Kd.C (Kd.int .u8) w A1 l1.length l1) (hc1:l1.length≤c1) (h:impl_EncodeMsr.f k a0_0 a0_1 l1=some (r1,r2)) :
  Calls Try.prog 19 #[.agg #[.int .i64 a0_0, .int .i64 a0_1], .slice A1 l1.length c1] w fun e w'=>∃ v0_:Value,e = .returned (.tuple #[v0_, .bool r2])∧Kd.S k76 76 w' w.heap.size (fun _=>True) v0_ r1∧Below w.heap.size w w':=by
 have hu30:=Try.underlying30
 have hu76:=Try.underlying76
 have HR1:=am hr1
 have HC1:=am hc1
 clear hr1 hc1
 have HB:=am (Below.refl w.heap.size w)
 have H:=h
 unfold impl_EncodeMsr.f at H
 clear h
 have HC3:=am H
 clear H
 go_enter Try.func19,Try.ntmps19
 go_upto_region 1 with (first|((with_reducible refine gD 2 ?_);(try (refine gate_guard D16 ?_;dsimp only));refine gB (cs:=#[.int .i64 a0_0, .int .i64 a0_1]) 30 ?_;intro gb293 hg w4 hbox hb;have BK293:=am (hbox);have GW293:=ye HB hg;replace HB:=yH HB hb;have GE293:=GW293;clear hb hbox hg))
 (try simp only [Act.put,q1,q2,q3])
 go_cut [18] (fun v18 wc=>∃ (kq:Nat) (x18_2:Bool),v18 = .bool x18_2∧Aside0 (impl_EncodeMsr.j0 kq l1 x18_2 a0_0 a0_1=some (r1,r2))∧Aside0 (kq≤k)∧Aside0 (wc.heap[gb293]? = some (.cells #[.int .i64 a0_0, .int .i64 a0_1] 30 (0,0)))∧Aside0 (Below w.heap.size w wc))
 case first =>
  have H:=HC3.out
  clear HC3
  obtain ⟨t294,A5,H⟩:=yo H
  by_cases c6:t294=true
  ·subst c6
   replace H:=yt H
   obtain ⟨t295,A7,H⟩:=yo H
   have H':=am H
   clear H
   obtain ⟨hcz8_0,hcz8_1,hfz8_0,hfz8_1⟩:=yk2 BK293
   go_wp2_with (first|((with_reducible refine gC 46 ?_);refine gM (some 10) Try.func46 (args:=#[.agg #[.int .i64 a0_0, .int .i64 a0_1]]) (impl_GoodMsr.calls a0_0 a0_1 true _ A5.out) ?_;rintro e w9 ⟨rfl,hb⟩;refine ⟨_,rfl,?_⟩;replace BK293:=yb BK293 hb;replace HB:=yH HB hb;clear hb;obtain ⟨hcz10_0,hcz10_1,hfz10_0,hfz10_1⟩:=yk2 BK293)|(go_at_call 59;(with_reducible refine (impl_Msr_size.calls a0_0 a0_1 t295 _ A7.out).mono ?_);rintro e w11 ⟨rfl,hb⟩;replace BK293:=yb BK293 hb;replace HB:=yH HB hb;clear hb))
   go_meet
   case rel=>exact ⟨_,(((l1.length:Int) != t295)),D1,H',⟨D57⟩,⟨yB BK293⟩,⟨yW HB⟩⟩
  replace c6:=Bool.eq_false_iff.mpr c6
  subst c6
  replace H:=yn H
  have H':=am H
  clear H
  obtain ⟨hcz12_0,hcz12_1,hfz12_0,hfz12_1⟩:=yk2 BK293
  go_wp2_with (first|((with_reducible refine gC 46 ?_);refine gM (some 10) Try.func46 (args:=#[.agg #[.int .i64 a0_0, .int .i64 a0_1]]) (impl_GoodMsr.calls a0_0 a0_1 false _ A5.out) ?_;rintro e w13 ⟨rfl,hb⟩;refine ⟨_,rfl,?_⟩;replace BK293:=yb BK293 hb;replace HB:=yH HB hb;clear hb))
  go_meet
  case rel=>exact ⟨_,(true),D1,H',⟨D57⟩,⟨yB BK293⟩,⟨yW HB⟩⟩
 case rest =>
  clear HC3
  try clear c1
  try clear p2
  try clear c4
  try clear c6
  try clear hcz10_0
  try clear hcz10_1
  try clear hcz12_0
  try clear hcz12_1
  try clear hcz8_0
  try clear hcz8_1
  try clear hfz10_0
  try clear hfz10_1
  try clear hfz12_0
  try clear hfz12_1
  try clear hfz8_0
  try clear hfz8_1
  obtain ⟨kq,x18_2,rfl,HA,HJ2,BK293,HB⟩:=hcut
  cases kq with
  | zero=>exact absurd HA.out (by simp [impl_EncodeMsr.j0])
  | succ kj2 =>
   have H:=HA.out
   clear HA
   simp only [impl_EncodeMsr.j0] at H
   by_cases c14:x18_2=true
   ·subst c14
    replace H:=yt H
    simp only [Option.some.injEq,Prod.mk.injEq] at H
    obtain ⟨rfl,rfl⟩:=H
    go_wp2
    go_ret2
    exact ⟨_,D3,D34,yW HB⟩
   replace c14:=Bool.eq_false_iff.mpr c14
   subst c14
   replace H:=yn H
   obtain ⟨t296,A15,H⟩:=yo H
   generalize hy299:(([]:List (S76)):List (S76))=y299 at H
   have Ny299:=am hy299.symm
   clear hy299
   have H':=am H
   clear H
   obtain ⟨hcz16_0,hcz16_1,hfz16_0,hfz16_1⟩:=yk2 BK293
   go_wp2_with (first|((with_reducible refine gC 60 ?_);refine gM (some 21) Try.func60 (args:=#[.agg #[.int .i64 a0_0, .int .i64 a0_1], .slice A1 l1.length c1]) (impl_Msr_message.calls kj2 a0_0 a0_1 _ _ l1 t296 _ (yc (Kd.C_below HR1.out HB.out)) HC1.out A15.out) ?_;rintro e w17 ⟨v297,rfl,ho0,hb⟩;refine ⟨_,rfl,?_⟩;have HO298:=am (Kd.N_lower (Kd.N_mono (ok':=fun k_=>(w.heap.size≤k_)∧k_ ≠ gb293) (Kd.S_N (Kd.S_bound ho0)) (fun k_ hk_=>⟨(Nat.le_trans (pz (yW HB)) hk_.2.1),(yz BK293 k_ hk_.2.1)⟩)) (pz (yW HB)));replace BK293:=yb BK293 hb;replace HB:=yH HB hb;clear hb ho0)|((with_reducible refine gD 22 ?_);(try (refine gate_guard D16 ?_;dsimp only));refine Kd.S_lit k76 _ 76 D16 (N:=22) D16 (xs:=([]:List (S76))) (inner:=[]) (ok:=fun _=>True) (okp:=fun _=>True) D33 D65 (fun _ hk=>hk) trivial (Below.refl _ _) (Nat.le_refl _) D44 ?_;intro v300 w18 ho19 hb hg_ hnew_;clear hg_ hnew_;(first|rw [← Ny299.out] at ho19|(simp only [Int.reduceToNat] at ho19;rw [← Ny299.out] at ho19));replace HO298:=eN HO298 (Kd.S_base ho19) hb;have HO301:=am (Kd.S_lower ho19 (pz (yW HB)));replace BK293:=yb BK293 hb;replace HB:=yH HB hb;clear hb ho19;obtain ⟨hcz20_0,hcz20_1,hfz20_0,hfz20_1⟩:=yk2 BK293))
   go_loopg [7,25] kj2 (fun kq v7 v25 w'=>∃ (x7_2:List (S76)) (x25_2:Int),v25 = .int .i64 x25_2∧Aside0 (impl_EncodeMsr.l0 kq t296 x7_2 a0_0 x25_2 a0_0 a0_1=some (r1,r2))∧Aside0 (kq≤kj2)∧Aside0 (Kd.N (Kd.slice 5 (Kd.int .u8)) 24 w' w.heap.size (fun k_=>(w.heap.size≤k_)∧some k_ ≠ (v7:Value).ownBlock∧k_ ≠ gb293) v297 t296)∧Aside0 (Kd.S k76 76 w' w.heap.size (fun _=>True) v7 x7_2)∧Aside0 (w'.heap[gb293]? = some (.cells #[.int .i64 a0_0, .int .i64 a0_1] 30 (0,0)))∧Aside0 (Below w.heap.size w w'))
   case atStart=>exact ⟨(y299),(0),D1,H',⟨Nat.le_refl _⟩,⟨by refine sN ?_;exact Kd.N_mono HO298.out (fun _ hk=>⟨hk.1.1,⟨hk.2,hk.1.2⟩⟩)⟩,⟨yS HO301⟩,⟨yB BK293⟩,⟨yW HB⟩⟩
   case round =>
    clear H'
    try clear c1
    try clear p2
    try clear c4
    try clear c6
    try clear c14
    try clear c19
    try clear hcz10_0
    try clear hcz10_1
    try clear hcz12_0
    try clear hcz12_1
    try clear hcz16_0
    try clear hcz16_1
    try clear hcz20_0
    try clear hcz20_1
    try clear hcz8_0
    try clear hcz8_1
    try clear hfz10_0
    try clear hfz10_1
    try clear hfz12_0
    try clear hfz12_1
    try clear hfz16_0
    try clear hfz16_1
    try clear hfz20_0
    try clear hfz20_1
    try clear hfz8_0
    try clear hfz8_1
    try clear p2
    obtain ⟨x7_2,x25_2,rfl,HA,HK2,HO_6,HO_7,BK293,HB⟩:=hrel
    cases gk with
    | zero=>exact absurd HA.out (by simp [impl_EncodeMsr.l0])
    | succ k2 =>
     have H:=HA.out
     clear HA
     simp only [impl_EncodeMsr.l0] at H
     by_cases c21:x25_2 < a0_0
     ·rw [if_pos c21] at H
      have c21b0:=decide_eq_true c21
      clear c21
      obtain ⟨t302,A22,H⟩:=yo H
      generalize hy305:(([t302]:List (List Int)):List (List Int))=y305 at H
      have Ny305:=am hy305.symm
      clear hy305
      obtain ⟨t308,A23,H⟩:=yo H
      obtain ⟨c24,H⟩:=yi H
      have c24b0:=decide_eq_true c24
      have c24b1:decide (0 < t308.length)=true:=decide_eq_true D13
      clear c24
      obtain ⟨c25,H⟩:=yi H
      have LMc25:=am c25
      clear c25
      generalize hy312:(x7_2 ++ [(⟨x25_2,t308.getD 0 []⟩:S76)]:List (S76))=y312 at H
      have Ny312:=am hy312.symm
      clear hy312
      have H':=am H
      clear H
      obtain ⟨hcz26_0,hcz26_1,hfz26_0,hfz26_1⟩:=yk2 BK293
      go_wp2_with (first|((with_reducible refine gC 66 ?_);refine gM (some 32) Try.func66 (args:=#[.agg #[.int .i64 a0_0, .int .i64 a0_1], .int .i64 x25_2]) (impl_Msr_row.calls k2 a0_0 a0_1 x25_2 t302 _ A22.out) ?_;rintro e w27 ⟨v303,rfl,ho0,hb⟩;refine ⟨_,rfl,?_⟩;replace HO_6:=eN HO_6 (Kd.R_base ho0) hb;replace HO_7:=eS HO_7 (Kd.R_base ho0) hb;have HO304:=am (Kd.R_lower (Kd.R_newM (M:=fun k_=>(w.heap.size≤k_)) ho0 (pz (yW HB)) (fun k_ h_=>h_)) (pz (yW HB)));replace BK293:=yb BK293 hb;replace HB:=yH HB hb;clear hb ho0;obtain ⟨Ao28,co28,eo28⟩:=Kd.R_slice HO304.out;subst eo28)|((with_reducible refine gD 33 ?_);(try (refine gate_guard D16 ?_;dsimp only));refine Kd.N_lit (Kd.slice 5 (Kd.int .u8)) _ 24 D16 (N':=33) D16 (xs:=([t302]:List (List Int))) (inner:=[.slice Ao28 t302.length co28]) (ok:=(fun k_=>(w.heap.size≤k_)∧some k_ ≠ (v297:Value).ownBlock∧some k_ ≠ (u7:Value).ownBlock∧k_ ≠ gb293)) (okp:=(fun k_=>(w.heap.size≤k_)∧some k_ ≠ (v297:Value).ownBlock∧some k_ ≠ (u7:Value).ownBlock∧k_ ≠ gb293)) D33 (by exact (Reps.one (show Kd.FK (Kd.slice 5 (Kd.int .u8)) _ _ t302 [.slice Ao28 t302.length co28] from (Kd.FK_slice_mk (Kd.R_reads' (Kd.R_mono (ok':=(fun k_=>(w.heap.size≤k_)∧some k_ ≠ (v297:Value).ownBlock∧some k_ ≠ (u7:Value).ownBlock∧k_ ≠ gb293)) (Kd.R_types (Kd.R_apart' (Kd.R_apart' (HO304.out) (Kd.N_typed HO_6.out) D5) (Kd.S_typed HO_7.out) D5) BK293.out D5) (fun k_ hk=>⟨hk.1.1.1.1,⟨hk.1.1.2,⟨hk.1.2,hk.2⟩⟩⟩))).2.1 (Kd.R_F (Kd.R_mono (ok':=(fun k_=>(w.heap.size≤k_)∧some k_ ≠ (v297:Value).ownBlock∧some k_ ≠ (u7:Value).ownBlock∧k_ ≠ gb293)) (Kd.R_types (Kd.R_apart' (Kd.R_apart' (HO304.out) (Kd.N_typed HO_6.out) D5) (Kd.S_typed HO_7.out) D5) BK293.out D5) (fun k_ hk=>⟨hk.1.1.1.1,⟨hk.1.1.2,⟨hk.1.2,hk.2⟩⟩⟩))))) (Reps.none _ _))) (fun _ hk=>hk) ((show ∀ k_,w27.heap.size≤k_→(fun k_=>(w.heap.size≤k_)∧some k_ ≠ (v297:Value).ownBlock∧some k_ ≠ (u7:Value).ownBlock∧k_ ≠ gb293) k_ from fun k_ hk=>⟨(Nat.le_trans (pz (yW HB)) hk),Kd.fresh' (Kd.N_lt (yN HO_6)) k_ hk,Kd.fresh' (Kd.S_lt (yS HO_7)) k_ hk,yz BK293 k_ hk⟩) _ (Nat.le_refl _)) (Below.refl _ _) (Nat.le_refl _) D44 ?_;intro v306 w29 ho30 hb hg_ hnew_;clear hg_ hnew_;(first|rw [← Ny305.out] at ho30|(simp only [Int.reduceToNat] at ho30;rw [← Ny305.out] at ho30));have n0_:=eN HO_6 (Kd.N_base ho30) hb;have n1_:=eS HO_7 (Kd.N_base ho30) hb;have n2_:=am (Kd.N_lower ho30 (pz (yW HB)));have n3_:=yb BK293 hb;have n4_:=yH HB hb;clear HO_6 HO_7 BK293 HB HO304;have HO_6:=n0_;have HO_7:=n1_;have HO307:=n2_;have BK293:=n3_;have HB:=n4_;clear n0_ n1_ n2_ n3_ n4_ hb ho30;obtain ⟨Ao31,co31,eo31⟩:=Kd.N_slice HO307.out;subst eo31;obtain ⟨Ao32,co32,eo32⟩:=Kd.N_slice HO_6.out;subst eo32)|((with_reducible refine gC 65 ?_);refine gM (some 35) Try.func65 (args:=#[.slice Ao31 y305.length co31, .slice Ao32 t296.length co32]) (impl_product.calls k2 _ _ y305 _ _ t296 t308 _ (yc (Kd.N_reads' HO307.out).2.2) (Kd.N_reads' HO307.out).2.1 (yc (Kd.N_reads' HO_6.out).2.2) (Kd.N_reads' HO_6.out).2.1 A23.out) ?_;have HBQ:=HB;rintro e w33 ⟨v309,rfl,ho0,hb⟩;refine ⟨_,rfl,?_⟩;have HO310:=am (Kd.N_lower (Kd.N_mono (ok':=fun k_=>(w.heap.size≤k_)∧some k_ ≠ (.slice Ao32 t296.length co32:Value).ownBlock∧some k_ ≠ (u7:Value).ownBlock∧some k_ ≠ (.slice Ao31 y305.length co31:Value).ownBlock∧k_ ≠ gb293) (Kd.S_N (Kd.S_bound ho0)) (fun k_ hk_=>⟨(Nat.le_trans (pz (yW HB)) hk_.2.1),(Kd.fresh' (Kd.N_lt (yN HO_6)) k_ hk_.2.1),(Kd.fresh' (Kd.S_lt (yS HO_7)) k_ hk_.2.1),(Kd.fresh' (Kd.N_lt (yN HO307)) k_ hk_.2.1),(yz BK293 k_ hk_.2.1)⟩)) (pz (yW HB)));replace HO_6:=eN HO_6 D101 hb;replace HO_7:=am (Kd.S_below (Kd.S_mono (Kd.S_bound (yS HO_7)) (ok':=fun k=>k < w29.heap.size) (fun k hk=>hk.2.2.1)) hb);replace HO307:=eN HO307 D101 hb;replace BK293:=yb BK293 hb;replace HB:=yH HB hb;clear hb;have HOS:=am (Kd.S_lower (Kd.S_mono (Kd.S_bound ho0) (ok':=fun k=>w29.heap.size≤k) (fun k hk=>hk.2.1)) (pz (by first|exact HBQ.out)));(try clear ho0);obtain ⟨Ao34,co34,eo34⟩:=Kd.N_slice HO310.out;subst eo34;have p311:0≤(0:Int):=D13;have q311:0 < (t308.length:Int):=od D0;obtain ⟨g311,cap311,eg311,_,_,_⟩:=Kd.S_form HOS.out D13;obtain ⟨ad311,rfl⟩:∃ ad,Ao34=some ad:=⟨_,(Value.slice.inj eg311).1⟩;clear eg311;obtain ⟨ce311,hce311,hMe311,hcc311⟩:=Kd.S_get HOS.out [] 0 p311 (by first|exact q311|omega);obtain ⟨uv311,rfl,hRe311⟩:=hMe311;rw [show ((0:Int)).toNat=0 from rfl] at hRe311;obtain ⟨dd311,hd311⟩:∃ d,d=t308.getD 0 []:=⟨_,rfl⟩;rw [← hd311] at hRe311;replace Ny312:=am (Ny312.out.trans (by rw [← hd311]));replace hd311:=am hd311;obtain ⟨A311_0,c311_0,rfl⟩:=Kd.R_slice hRe311;have hx311_0:=hcc311 0 _ rfl;rw [Nat.add_zero,show ((Kd.slice 5 (Kd.int .u8))).sz=1 from rfl,Nat.mul_one] at hx311_0;have HL311_0:=am (Kd.R_mono hRe311 (fun _ hk=>hk.1));clear hRe311 hcc311 hce311;have qi311:(0 < t308.length)=True:=eq_true D13;(try rw [show ((0:Int)).toNat=0 from rfl] at hx311_0);(try rw [Addr.add_zero'] at hx311_0);replace p311:=eq_true p311;replace q311:=eq_true q311)|((with_reducible refine gate_builtin (b:=.append) (xs:=#[.tmp 28, .tmp 39]) rfl ?_);(try (refine gate_guard D16 ?_;dsimp only));at_builtin;refine Kd.S_append k76 (w0:=w) w.heap.size rfl (.tmp 28) (.tmp 39) 38 76 (.agg #[(.int .i64 0),(.slice none 0 0)]) 32 rfl Try.underlying38 info76 rfl D5 D13 u7 x7_2 (⟨x25_2,dd311⟩:S76) [.int .i64 x25_2, .slice A311_0 dd311.length c311_0] (fun _=>True) (fun k=>w29.heap.size≤k) rfl rfl (by exact k76_mkM _ _ _ (⟨x25_2,dd311⟩:S76) (HL311_0.out)) (fun k hk=>⟨trivial,fun e=>absurd ((Kd.S_R HO_7.out).1 k e.symm) D13⟩) D43 (by exact (Kd.S_mono HO_7.out (fun k hk=>⟨trivial,D13⟩))) (by exact HB.out) (by exact (pz HB.out)) (by have:=LMc25.out;omega) ?_;intro v313 w35 ho hb hg hat;rw [← Ny312.out] at ho;have n0_:=am (Kd.N_afterv (ok:=(fun k_=>(w.heap.size≤k_)∧some k_ ≠ (.slice Ao31 y305.length co31:Value).ownBlock∧some k_ ≠ (.slice (some ad311) t308.length co34:Value).ownBlock∧k_ ≠ gb293)) (by refine sN ?_;exact Kd.N_mono HO_6.out (fun _ hk=>⟨⟨hk.1.1.1.1,⟨hk.1.2,⟨hk.2,hk.1.1.1.2.2⟩⟩⟩,hk.1.1.1.2.1⟩)) hg hat);have n1_:=am (blk_grown (g:=gb293) (o:=.cells #[.int .i64 a0_0, .int .i64 a0_1] 30 (0,0)) (yB BK293) hg (Kd.S_ne HO_7.out BK293.out D5));have n2_:=am (Kd.N_afterv (ok:=(fun k_=>(w.heap.size≤k_)∧some k_ ≠ (.slice Ao32 t296.length co32:Value).ownBlock∧some k_ ≠ (.slice (some ad311) t308.length co34:Value).ownBlock∧k_ ≠ gb293)) (by refine sN ?_;exact Kd.N_mono HO307.out (fun _ hk=>⟨⟨hk.1.1,⟨hk.1.2.1,⟨hk.2,hk.1.2.2.2⟩⟩⟩,hk.1.2.2.1⟩)) hg hat);have n3_:=am (Kd.N_afterv (ok:=(fun k_=>(w.heap.size≤k_)∧some k_ ≠ (.slice Ao32 t296.length co32:Value).ownBlock∧some k_ ≠ (.slice Ao31 y305.length co31:Value).ownBlock∧k_ ≠ gb293)) (by refine sN ?_;exact Kd.N_mono HO310.out (fun _ hk=>⟨⟨hk.1,⟨hk.2.1,⟨hk.2.2.2.1,hk.2.2.2.2⟩⟩⟩,hk.2.2.1⟩)) hg hat);have n5_:=am (hb);have n6_:=am (ho);clear HO_6 BK293 HO307 HO310 HL311_0 HB HO_7;have HO_6:=n0_;have BK293:=n1_;have HO307:=n2_;have HO310:=n3_;have HB:=n5_;have HO314:=n6_;clear n0_ n1_ n2_ n3_ n5_ n6_ ho hb hg hat))
      go_roundg k2
      case measure=>have:=HJ2.out;have:=HK2.out;omega
      case rel=>exact ⟨(y312),(wrap64 (x25_2+1)),D1,H',⟨by have:=HJ2.out;have:=HK2.out;omega⟩,⟨by refine sN ?_;exact Kd.N_mono HO_6.out (fun _ hk=>⟨hk.1.1,⟨hk.2,hk.1.2.2.2⟩⟩)⟩,⟨yS HO314⟩,⟨yB BK293⟩,⟨yW HB⟩⟩
     rw [if_neg c21] at H
     have c21b0:=decide_eq_false c21
     clear c21
     simp only [Option.some.injEq,Prod.mk.injEq] at H
     obtain ⟨rfl,rfl⟩:=H
     go_wp2
     go_ret2
     exact ⟨_,D3,yS HO_7,yW HB⟩

def laws_numberOf.l0:Nat→Int→List Int→Int→Int→Option (Int)
 | 0,_,_,_,_=>none
 | k+1,x3,x6,x7,x8=>if x8 < x7 then (if 0≤x8 then (if x8 < (x6.length:Int) then (laws_numberOf.l0 k (Int.tmod (wrap64 ((wrap64 (31*x3))+(wrap64 (rd x6 x8)))) 1000003) x6 x7 (wrap64 (x8+1))) else (none)) else (none)) else (some x3)
def laws_numberOf.f (k:Nat) (l0:List Int):Option (Int):=laws_numberOf.l0 k 0 l0 (l0.length:Int) 0
theorem laws_numberOf.mono_l:∀ k,(∀ y0 y1 y2 y3,LeO (laws_numberOf.l0 k y0 y1 y2 y3) (laws_numberOf.l0 (k+1) y0 y1 y2 y3))
 | 0=>fun _ _ _ _ r h=>by simp [laws_numberOf.l0] at h
 | k+1=>by
  have ih0:=laws_numberOf.mono_l k
  intro y0 y1 y2 y3
  unfold laws_numberOf.l0
  exact mm
theorem laws_numberOf.mono:∀ a0 k,LeO (laws_numberOf.f k a0) (laws_numberOf.f (k+1) a0):=by
 intro a0 k
 have ih0:=laws_numberOf.mono_l k
 unfold laws_numberOf.f
 exact mm
theorem laws_numberOf.calls (k:Nat) (A0:Option Addr) (c0:Nat) (l0:List Int) (r:Int) (w:World) (hr0:Kd.C (Kd.int .u8) w A0 l0.length l0) (hc0:l0.length≤c0) (h:laws_numberOf.f k l0=some r) :
  Calls Try.prog 36 #[.slice A0 l0.length c0] w fun e w'=>e = .returned (.int .i64 r)∧Drawn0 w w':=by
 have HR0:=am hr0
 have HC0:=am hc0
 clear hr0 hc0
 have H:=h
 unfold laws_numberOf.f at H
 clear h
 have H':=am H
 clear H
 go_enter Try.func36,Try.ntmps36
 go_wp2
 go_loopg [3,8] k (fun kq v3 v8 w'=>∃ (x3_1:Int) (x8_1:Int),v3 = .int .i64 x3_1∧v8 = .int .i64 x8_1∧Aside0 (laws_numberOf.l0 kq x3_1 l0 (l0.length:Int) x8_1=some r)∧Aside0 (kq≤k)∧Drawn0 w w')
 case atStart=>exact ⟨(0),(0),D1,D1,H',⟨Nat.le_refl _⟩,D15⟩
 case round =>
  clear H'
  obtain ⟨x3_1,x8_1,rfl,rfl,HA,HK1,⟨m1,rfl⟩⟩:=hrel
  cases gk with
  | zero=>exact absurd HA.out (by simp [laws_numberOf.l0])
  | succ k1 =>
   have H:=HA.out
   clear HA
   simp only [laws_numberOf.l0] at H
   by_cases c2:x8_1 < (l0.length:Int)
   ·rw [if_pos c2] at H
    have c2b0:=decide_eq_true c2
    clear c2
    obtain ⟨c3,H⟩:=yi H
    have c3b0:=decide_eq_true c3
    clear c3
    obtain ⟨c4,H⟩:=yi H
    have c4b0:=decide_eq_true c4
    clear c4
    have H':=am H
    clear H
    have p282:0≤(x8_1:Int):=od D0
    have q282:x8_1 < (l0.length:Int):=od D0
    obtain ⟨ad282,e282,hx282_0⟩:=Kd.at_int HR0.out x8_1 p282 q282
    cases e282
    replace p282:=eq_true p282
    replace q282:=eq_true q282
    go_wp2
    go_roundg k1
    case measure=>have:=HK1.out;omega
    case rel=>exact ⟨(Int.tmod (wrap64 ((wrap64 (31*x3_1))+(wrap64 (rd l0 x8_1)))) 1000003),(wrap64 (x8_1+1)),D1,D1,H',⟨D38⟩,D15⟩
   rw [if_neg c2] at H
   have c2b0:=decide_eq_false c2
   clear c2
   obtain rfl:=Option.some.inj H
   go_wp2
   go_ret
   exact ⟨D1,D15⟩

def laws_someOf.l0:Nat→Int→Int→List Int→List Int→Int→Option (List Int)
 | 0,_,_,_,_,_=>none
 | k+1,x0,x1,x2,x7,x8=>if x8 < x0 then (if x8 < (x2.length:Int) then (if 0≤x8 then (if (wrap64 (x0 - x8))≤(wrap64 (x1 - (x7.length:Int))) then (if x7.length < 17592186044416 then (laws_someOf.l0 k x0 x1 x2 (x7 ++ [x8]) (wrap64 (x8+1))) else (none)) else (if (Int.tmod (wrap64 (rd x2 x8)) 2)=0 then (if x7.length < 17592186044416 then (laws_someOf.l0 k x0 x1 x2 (x7 ++ [x8]) (wrap64 (x8+1))) else (none)) else (laws_someOf.l0 k x0 x1 x2 x7 (wrap64 (x8+1))))) else (none)) else (if (wrap64 (x0 - x8))≤(wrap64 (x1 - (x7.length:Int))) then (if x7.length < 17592186044416 then (laws_someOf.l0 k x0 x1 x2 (x7 ++ [x8]) (wrap64 (x8+1))) else (none)) else (if ((0:Int) % 2)=0 then (if x7.length < 17592186044416 then (laws_someOf.l0 k x0 x1 x2 (x7 ++ [x8]) (wrap64 (x8+1))) else (none)) else (laws_someOf.l0 k x0 x1 x2 x7 (wrap64 (x8+1)))))) else (some x7)
def laws_someOf.f (k:Nat) (a0:Int) (a1:Int) (l2:List Int):Option (List Int):=laws_someOf.l0 k a0 a1 l2 ([]:List Int) 0
theorem laws_someOf.mono_l:∀ k,(∀ y0 y1 y2 y3 y4,LeO (laws_someOf.l0 k y0 y1 y2 y3 y4) (laws_someOf.l0 (k+1) y0 y1 y2 y3 y4))
 | 0=>fun _ _ _ _ _ r h=>by simp [laws_someOf.l0] at h
 | k+1=>by
  have ih0:=laws_someOf.mono_l k
  intro y0 y1 y2 y3 y4
  unfold laws_someOf.l0
  exact mm
theorem laws_someOf.mono:∀ a0 a1 a2 k,LeO (laws_someOf.f k a0 a1 a2) (laws_someOf.f (k+1) a0 a1 a2):=by
 intro a0 a1 a2 k
 have ih0:=laws_someOf.mono_l k
 unfold laws_someOf.f
 exact mm
theorem laws_someOf.calls (k:Nat) (a0:Int) (a1:Int) (A2:Option Addr) (c2:Nat) (l2:List Int) (r:List Int) (w:World) (hr2:Kd.C (Kd.int .u8) w A2 l2.length l2) (hc2:l2.length≤c2) (h:laws_someOf.f k a0 a1 l2=some r) :
  Calls Try.prog 37 #[.int .i64 a0, .int .i64 a1, .slice A2 l2.length c2] w fun e w'=>∃ v0_:Value,e = .returned (v0_)∧Kd.R (Kd.int .i64) 3 w' w.heap.size (fun _=>True) v0_ r∧Below w.heap.size w w':=by
 have HR2:=am hr2
 have HC2:=am hc2
 clear hr2 hc2
 have HB:=am (Below.refl w.heap.size w)
 have H:=h
 unfold laws_someOf.f at H
 clear h
 have H':=am H
 clear H
 go_enter Try.func37,Try.ntmps37
 go_wp2
 go_loopg [7,8] k (fun kq v7 v8 w'=>∃ (x7_1:List Int) (x8_1:Int),v8 = .int .i64 x8_1∧Aside0 (laws_someOf.l0 kq a0 a1 l2 x7_1 x8_1=some r)∧Aside0 (kq≤k)∧Aside0 (Kd.R (Kd.int .i64) 3 w' w.heap.size (fun _=>True) v7 x7_1)∧Aside0 (Below w.heap.size w w'))
 case atStart=>exact ⟨(([]:List Int)),(0),D1,H',⟨Nat.le_refl _⟩,⟨D10⟩,⟨yW HB⟩⟩
 case round =>
  clear H'
  try clear c2
  try clear p2
  try clear c3
  obtain ⟨x7_1,x8_1,rfl,HA,HK1,HO_7,HB⟩:=hrel
  cases gk with
  | zero=>exact absurd HA.out (by simp [laws_someOf.l0])
  | succ k1 =>
   have H:=HA.out
   clear HA
   simp only [laws_someOf.l0] at H
   by_cases c4:x8_1 < a0
   ·rw [if_pos c4] at H
    have c4b0:=decide_eq_true c4
    clear c4
    by_cases c5:x8_1 < (l2.length:Int)
    ·rw [if_pos c5] at H
     have c5b0:=decide_eq_true c5
     clear c5
     obtain ⟨c6,H⟩:=yi H
     have c6b0:=decide_eq_true c6
     clear c6
     by_cases c7:(wrap64 (a0 - x8_1))≤(wrap64 (a1 - (x7_1.length:Int)))
     ·rw [if_pos c7] at H
      have c7b0:=decide_eq_true c7
      clear c7
      obtain ⟨c8,H⟩:=yi H
      have LMc8:=am c8
      clear c8
      generalize hy284:(x7_1 ++ [x8_1]:List Int)=y284 at H
      have Ny284:=am hy284.symm
      clear hy284
      have H':=am H
      clear H
      have p283:0≤(x8_1:Int):=od D0
      have q283:x8_1 < (l2.length:Int):=od D0
      obtain ⟨ad283,e283,hx283_0⟩:=Kd.at_int HR2.out x8_1 p283 q283
      cases e283
      replace hx283_0:=(HB.out.cell (World.block_lt_of_cell? w _ hx283_0)).trans hx283_0
      replace p283:=eq_true p283
      replace q283:=eq_true q283
      obtain ⟨Ao9,co9,eo9⟩:=Kd.R_slice HO_7.out
      subst eo9
      go_wp2_with (first|((with_reducible refine gate_builtin (b:=.append) (xs:=#[.tmp 37, .tmp 39]) rfl ?_);at_builtin;refine Kd.R_append (Kd.int .i64) (w0:=w) w.heap.size rfl (.tmp 37) (.tmp 39) 62 3 (.int .i64 0) 8 rfl Try.underlying62 info3 rfl D5 D13 (.slice Ao9 x7_1.length co9) x7_1 x8_1 [.int .i64 x8_1] (fun _=>True) (fun _=>False) rfl rfl D98 (fun _ hk=>hk.elim) D43 (by exact (yR HO_7)) D64 D47 (by have:=LMc8.out;omega) ?_;intro v285 w10 ho hb hg hat;rw [← Ny284.out] at ho;have n0_:=am (hb);have n1_:=am (ho);clear HB HO_7;have HB:=n0_;have HO286:=n1_;clear n0_ n1_ ho hb hg hat))
      go_roundg k1
      case measure=>have:=HK1.out;omega
      case rel=>exact ⟨(y284),(wrap64 (x8_1+1)),D1,H',⟨D38⟩,⟨yR HO286⟩,⟨yW HB⟩⟩
     rw [if_neg c7] at H
     have c7b0:=decide_eq_false c7
     clear c7
     by_cases c11:(Int.tmod (wrap64 (rd l2 x8_1)) 2)=0
     ·rw [if_pos c11] at H
      have c11b0:((Int.tmod (wrap64 (rd l2 x8_1)) 2) == 0)=true:=beq_iff_eq.mpr c11
      have c11b1:((Int.tmod (wrap64 (rd l2 x8_1)) 2) != 0)=false:=bne_eq_false_iff_eq.mpr c11
      clear c11
      obtain ⟨c12,H⟩:=yi H
      have LMc12:=am c12
      clear c12
      generalize hy287:(x7_1 ++ [x8_1]:List Int)=y287 at H
      have Ny287:=am hy287.symm
      clear hy287
      have H':=am H
      clear H
      have p283:0≤(x8_1:Int):=od D0
      have q283:x8_1 < (l2.length:Int):=od D0
      obtain ⟨ad283,e283,hx283_0⟩:=Kd.at_int HR2.out x8_1 p283 q283
      cases e283
      replace hx283_0:=(HB.out.cell (World.block_lt_of_cell? w _ hx283_0)).trans hx283_0
      replace p283:=eq_true p283
      replace q283:=eq_true q283
      obtain ⟨Ao13,co13,eo13⟩:=Kd.R_slice HO_7.out
      subst eo13
      go_wp2_with (first|((with_reducible refine gate_builtin (b:=.append) (xs:=#[.tmp 37, .tmp 39]) rfl ?_);at_builtin;refine Kd.R_append (Kd.int .i64) (w0:=w) w.heap.size rfl (.tmp 37) (.tmp 39) 62 3 (.int .i64 0) 8 rfl Try.underlying62 info3 rfl D5 D13 (.slice Ao13 x7_1.length co13) x7_1 x8_1 [.int .i64 x8_1] (fun _=>True) (fun _=>False) rfl rfl D98 (fun _ hk=>hk.elim) D43 (by exact (yR HO_7)) D64 D47 (by have:=LMc12.out;omega) ?_;intro v288 w14 ho hb hg hat;rw [← Ny287.out] at ho;have n0_:=am (hb);have n1_:=am (ho);clear HB HO_7;have HB:=n0_;have HO289:=n1_;clear n0_ n1_ ho hb hg hat))
      go_roundg k1
      case measure=>have:=HK1.out;omega
      case rel=>exact ⟨(y287),(wrap64 (x8_1+1)),D1,H',⟨D38⟩,⟨yR HO289⟩,⟨yW HB⟩⟩
     rw [if_neg c11] at H
     have c11b0:((Int.tmod (wrap64 (rd l2 x8_1)) 2) == 0)=false:=beq_eq_false_iff_ne.mpr c11
     have c11b1:((Int.tmod (wrap64 (rd l2 x8_1)) 2) != 0)=true:=bne_iff_ne.mpr c11
     have H':=am H
     clear H
     have p283:0≤(x8_1:Int):=od D0
     have q283:x8_1 < (l2.length:Int):=od D0
     obtain ⟨ad283,e283,hx283_0⟩:=Kd.at_int HR2.out x8_1 p283 q283
     cases e283
     replace hx283_0:=(HB.out.cell (World.block_lt_of_cell? w _ hx283_0)).trans hx283_0
     replace p283:=eq_true p283
     replace q283:=eq_true q283
     obtain ⟨Ao15,co15,eo15⟩:=Kd.R_slice HO_7.out
     subst eo15
     go_wp2
     go_roundg k1
     case measure=>have:=HK1.out;omega
     case rel=>exact ⟨(x7_1),(wrap64 (x8_1+1)),D1,H',⟨D38⟩,⟨yR HO_7⟩,⟨yW HB⟩⟩
    rw [if_neg c5] at H
    have c5b0:=decide_eq_false c5
    clear c5
    by_cases c16:(wrap64 (a0 - x8_1))≤(wrap64 (a1 - (x7_1.length:Int)))
    ·rw [if_pos c16] at H
     have c16b0:=decide_eq_true c16
     clear c16
     obtain ⟨c17,H⟩:=yi H
     have LMc17:=am c17
     clear c17
     generalize hy290:(x7_1 ++ [x8_1]:List Int)=y290 at H
     have Ny290:=am hy290.symm
     clear hy290
     have H':=am H
     clear H
     obtain ⟨Ao18,co18,eo18⟩:=Kd.R_slice HO_7.out
     subst eo18
     go_wp2_with (first|((with_reducible refine gate_builtin (b:=.append) (xs:=#[.tmp 37, .tmp 39]) rfl ?_);at_builtin;refine Kd.R_append (Kd.int .i64) (w0:=w) w.heap.size rfl (.tmp 37) (.tmp 39) 62 3 (.int .i64 0) 8 rfl Try.underlying62 info3 rfl D5 D13 (.slice Ao18 x7_1.length co18) x7_1 x8_1 [.int .i64 x8_1] (fun _=>True) (fun _=>False) rfl rfl D98 (fun _ hk=>hk.elim) D43 (by exact (yR HO_7)) D64 D47 (by have:=LMc17.out;omega) ?_;intro v291 w19 ho hb hg hat;rw [← Ny290.out] at ho;have n0_:=am (hb);have n1_:=am (ho);clear HB HO_7;have HB:=n0_;have HO292:=n1_;clear n0_ n1_ ho hb hg hat))
     go_roundg k1
     case measure=>have:=HK1.out;omega
     case rel=>exact ⟨(y290),(wrap64 (x8_1+1)),D1,H',⟨D38⟩,⟨yR HO292⟩,⟨yW HB⟩⟩
    rw [if_neg c16] at H
    have c16b0:=decide_eq_false c16
    clear c16
    by_cases c20:((0:Int) % 2)=0
    ·rw [if_pos c20] at H
     have c20b0:(((0:Int) % 2) == 0)=true:=beq_iff_eq.mpr c20
     have c20b1:(((0:Int) % 2) != 0)=false:=bne_eq_false_iff_eq.mpr c20
     clear c20
     obtain ⟨c21,H⟩:=yi H
     have LMc21:=am c21
     clear c21
     generalize hy293:(x7_1 ++ [x8_1]:List Int)=y293 at H
     have Ny293:=am hy293.symm
     clear hy293
     have H':=am H
     clear H
     obtain ⟨Ao22,co22,eo22⟩:=Kd.R_slice HO_7.out
     subst eo22
     go_wp2_with (first|((with_reducible refine gate_builtin (b:=.append) (xs:=#[.tmp 37, .tmp 39]) rfl ?_);at_builtin;refine Kd.R_append (Kd.int .i64) (w0:=w) w.heap.size rfl (.tmp 37) (.tmp 39) 62 3 (.int .i64 0) 8 rfl Try.underlying62 info3 rfl D5 D13 (.slice Ao22 x7_1.length co22) x7_1 x8_1 [.int .i64 x8_1] (fun _=>True) (fun _=>False) rfl rfl D98 (fun _ hk=>hk.elim) D43 (by exact (yR HO_7)) D64 D47 (by have:=LMc21.out;omega) ?_;intro v294 w23 ho hb hg hat;rw [← Ny293.out] at ho;have n0_:=am (hb);have n1_:=am (ho);clear HB HO_7;have HB:=n0_;have HO295:=n1_;clear n0_ n1_ ho hb hg hat))
     go_roundg k1
     case measure=>have:=HK1.out;omega
     case rel=>exact ⟨(y293),(wrap64 (x8_1+1)),D1,H',⟨D38⟩,⟨yR HO295⟩,⟨yW HB⟩⟩
    rw [if_neg c20] at H
    exact absurd D5 c20
   rw [if_neg c4] at H
   have c4b0:=decide_eq_false c4
   clear c4
   obtain rfl:=Option.some.inj H
   go_wp2
   go_ret
   exact ⟨_,D3,yR HO_7,yW HB⟩

/-- A state of type 127 at block g of W; what its slices lead to came in by w0. -/
def IsS127 (w0 W:World) (g:Nat) (f0:List Int) (f1:Int) (f2:Int):Prop:=∃ A0 c0,W.heap[g]? = some (.cells #[.slice A0 f0.length c0, .int .i64 f1, .int .u64 f2] 127 (0,0))∧w0.heap.size≤g∧Kd.C (Kd.int .u8) w0 A0 f0.length f0
theorem IsS127.grown {w0 W:World} {g:Nat} {f0:List Int} {f1:Int} {f2:Int} {W1:World} {row:Option Nat} (h:IsS127 w0 W g f0 f1 f2) (hw:W.grownBy W1 row) (hne:some g ≠ row):IsS127 w0 W1 g f0 f1 f2:=by
 obtain ⟨A0,c0,hb,hg,hr0⟩:=h
 exact ⟨A0,c0,blk_grown hb hw hne,hg,hr0⟩
theorem IsS127.fresh {w0 W:World} {g:Nat} {f0:List Int} {f1:Int} {f2:Int} (h:IsS127 w0 W g f0 f1 f2):∀ k,W.heap.size≤k→k ≠ g:=by
 obtain ⟨A0,c0,hb,hg,hr0⟩:=h
 exact Kd.freshB hb
theorem IsS127.kept {w0 W:World} {g:Nat} {f0:List Int} {f1:Int} {f2:Int} {W1:World} {S:Nat→Prop} (h:IsS127 w0 W g f0 f1 f2) (hk:Kept W W1 S) (hne:¬ S g):IsS127 w0 W1 g f0 f1 f2:=by
 obtain ⟨A0,c0,hb,hg,hr0⟩:=h
 exact ⟨A0,c0,blk_kept hb hk hne,hg,hr0⟩
theorem IsS127.below {w0 W:World} {g:Nat} {f0:List Int} {f1:Int} {f2:Int} {W1:World} (h:IsS127 w0 W g f0 f1 f2) (hw:Below W.heap.size W W1):IsS127 w0 W1 g f0 f1 f2:=h.grown (grown_of_below hw none) D44
theorem IsS127.alloc {w0 W:World} {g:Nat} {f0:List Int} {f1:Int} {f2:Int} (h:IsS127 w0 W g f0 f1 f2) (o:Obj):IsS127 w0 (W.alloc o) g f0 f1 f2:=h.below (pa (Below.refl _ _) o)
theorem IsS127.drewN {w0 W:World} {g:Nat} {f0:List Int} {f1:Int} {f2:Int} (h:IsS127 w0 W g f0 f1 f2) (m:Nat):IsS127 w0 (W.drewN m) g f0 f1 f2:=h
theorem IsS127.drew {w0 W:World} {g:Nat} {f0:List Int} {f1:Int} {f2:Int} (h:IsS127 w0 W g f0 f1 f2):IsS127 w0 W.drew g f0 f1 f2:=h
theorem IsS127.at_ {w0 W:World} {g:Nat} {f0:List Int} {f1:Int} {f2:Int} {w':World} {m:Nat} (hq:W.drewN m=w') (h:IsS127 w0 W g f0 f1 f2):IsS127 w0 w' g f0 f1 f2:=by subst hq;exact IsS127.drewN h m
theorem IsS127.apart {w0 W:World} {g:Nat} {f0:List Int} {f1:Int} {f2:Int} {α:Type} {d:Kd α} {e:Nat} {base:Nat} {ok:Nat→Prop} {v:Value} {xs:List α} (h:IsS127 w0 W g f0 f1 f2) (ho:d.R e W base ok v xs) (ht:∀ q,q ∈ e :: d.E→q ≠ 127):d.R e W base (fun k=>ok k∧k ≠ g) v xs:=by
 obtain ⟨A0,c0,hb,hg,hr0⟩:=h
 exact Kd.R_types ho hb ht
theorem IsS127.own_ne {w0 W:World} {g:Nat} {f0:List Int} {f1:Int} {f2:Int} {α:Type} {d:Kd α} {e:Nat} {base:Nat} {ok:Nat→Prop} {v:Value} {xs:List α} (h:IsS127 w0 W g f0 f1 f2) (ho:d.R e W base ok v xs) (ht:e ≠ 127):some g ≠ v.ownBlock:=by
 obtain ⟨A0,c0,hb,hg,hr0⟩:=h
 exact Kd.R_ne ho hb ht
theorem IsS127.apartS {w0 W:World} {g:Nat} {f0:List Int} {f1:Int} {f2:Int} {α:Type} {d:Kd α} {e:Nat} {base:Nat} {ok:Nat→Prop} {v:Value} {xs:List α} (h:IsS127 w0 W g f0 f1 f2) (ho:d.S e W base ok v xs) (ht:∀ q,q ∈ e :: d.E→q ≠ 127):d.S e W base (fun k=>ok k∧k ≠ g) v xs:=by
 obtain ⟨A0,c0,hb,hg,hr0⟩:=h
 exact Kd.S_types ho hb ht
theorem IsS127.lt {w0 W:World} {g:Nat} {f0:List Int} {f1:Int} {f2:Int} (h:IsS127 w0 W g f0 f1 f2):g < W.heap.size:=by
 obtain ⟨A0,c0,hb,hg,hr0⟩:=h
 exact blk_lt hb
theorem IsS127.ge {w0 W:World} {g:Nat} {f0:List Int} {f1:Int} {f2:Int} (h:IsS127 w0 W g f0 f1 f2):w0.heap.size≤g:=by
 obtain ⟨A0,c0,hb,hg,hr0⟩:=h
 exact hg
theorem IsS127.far {w0 W:World} {g:Nat} {f0:List Int} {f1:Int} {f2:Int} {p:Addr} (h:IsS127 w0 W g f0 f1 f2) (hne:g ≠ p.block) (u:Value):IsS127 w0 (W.setCell p u) g f0 f1 f2:=by
 obtain ⟨A0,c0,hb,hg,hr0⟩:=h
 exact ⟨A0,c0,blk_far hb hne u,hg,hr0⟩
theorem cellS127_0 {W:World} {g:Nat} {A0:Option Addr} {c0:Nat} {f0:List Int} {f1:Int} {f2:Int} (h:W.heap[g]? = some (.cells #[.slice A0 f0.length c0, .int .i64 f1, .int .u64 f2] 127 (0,0))):W.cell? ⟨g,0,none⟩=some (.slice A0 f0.length c0):=(blk_cell h 0).trans rfl
theorem cellS127_1 {W:World} {g:Nat} {A0:Option Addr} {c0:Nat} {f0:List Int} {f1:Int} {f2:Int} (h:W.heap[g]? = some (.cells #[.slice A0 f0.length c0, .int .i64 f1, .int .u64 f2] 127 (0,0))):W.cell? ⟨g,1,none⟩=some (.int .i64 f1):=(blk_cell h 1).trans rfl
theorem IsS127.set_1 {w0 W:World} {g:Nat} {f0:List Int} {f1:Int} {f2:Int} (h:IsS127 w0 W g f0 f1 f2) (x:Int):IsS127 w0 (W.setCell ⟨g,1,none⟩ (.int .i64 x)) g f0 x f2:=by
 obtain ⟨A0,c0,hb,hg,hr0⟩:=h
 exact ⟨A0,c0,by simpa using blk_set hb 1 (.int .i64 x),hg,hr0⟩
theorem cellS127_2 {W:World} {g:Nat} {A0:Option Addr} {c0:Nat} {f0:List Int} {f1:Int} {f2:Int} (h:W.heap[g]? = some (.cells #[.slice A0 f0.length c0, .int .i64 f1, .int .u64 f2] 127 (0,0))):W.cell? ⟨g,2,none⟩=some (.int .u64 f2):=(blk_cell h 2).trans rfl
theorem IsS127.set_2 {w0 W:World} {g:Nat} {f0:List Int} {f1:Int} {f2:Int} (h:IsS127 w0 W g f0 f1 f2) (x:Int):IsS127 w0 (W.setCell ⟨g,2,none⟩ (.int .u64 x)) g f0 f1 x:=by
 obtain ⟨A0,c0,hb,hg,hr0⟩:=h
 exact ⟨A0,c0,by simpa using blk_set hb 2 (.int .u64 x),hg,hr0⟩
def spec_l1Cur_next.f (s0_0:List Int) (s0_1:Int) (s0_2:Int):Option (Int × Int × Int):=if s0_1 < (s0_0.length:Int) then (if 0≤s0_1 then (if (wrap64 (s0_1+1))≤(s0_0.length:Int) then (some (wrap64 (rd s0_0 s0_1),wrap64 (s0_1+1),IntKind.u64.wrap ((IntKind.u64.wrap ((IntKind.u64.wrap (s0_2*6364136223846793005))+(IntKind.u64.wrap (wrap64 (rd s0_0 s0_1)))))+1442695040888963407))) else (some (wrap64 (Go.bits .and .u64 ((IntKind.u64.wrap ((IntKind.u64.wrap ((IntKind.u64.wrap (s0_2*6364136223846793005))+(IntKind.u64.wrap (wrap64 (rd s0_0 s0_1)))))+1442695040888963407)) / 1099511627776) 255),wrap64 (s0_1+1),IntKind.u64.wrap ((IntKind.u64.wrap ((IntKind.u64.wrap (s0_2*6364136223846793005))+(IntKind.u64.wrap (wrap64 (rd s0_0 s0_1)))))+1442695040888963407)))) else (none)) else (if (wrap64 (s0_1+1))≤(s0_0.length:Int) then (some (0,wrap64 (s0_1+1),IntKind.u64.wrap ((IntKind.u64.wrap (IntKind.u64.wrap (s0_2*6364136223846793005)))+1442695040888963407))) else (some (wrap64 (Go.bits .and .u64 ((IntKind.u64.wrap ((IntKind.u64.wrap (IntKind.u64.wrap (s0_2*6364136223846793005)))+1442695040888963407)) / 1099511627776) 255),wrap64 (s0_1+1),IntKind.u64.wrap ((IntKind.u64.wrap (IntKind.u64.wrap (s0_2*6364136223846793005)))+1442695040888963407))))
theorem spec_l1Cur_next.calls (g:Nat) (s0_0:List Int) (s0_1:Int) (s0_2:Int) (r1:Int) (r2:Int) (r3:Int) (w0 w:World) (hI:IsS127 w0 w g s0_0 s0_1 s0_2) (hB:Below w0.heap.size w0 w) (h:spec_l1Cur_next.f s0_0 s0_1 s0_2=some (r1,r2,r3)) :
  Calls Try.prog 145 #[.pointer (some ⟨g,0,none⟩)] w fun e w'=>e = .returned (.int .i64 r1)∧IsS127 w0 w' g s0_0 r2 r3∧Below w0.heap.size w0 w'∧KeepBut w w' g none:=by
 have HI0:=am hI
 have HK:=am (KeepBut.refl w g none)
 have HL:=am hB.size
 clear hI
 have HW0:=am hB.size
 have HB:=am hB
 clear hB
 have H:=h
 unfold spec_l1Cur_next.f at H
 clear h
 by_cases c2:s0_1 < (s0_0.length:Int)
 ·rw [if_pos c2] at H
  have c2b0:=decide_eq_true c2
  clear c2
  obtain ⟨c3,H⟩:=yi H
  have c3b0:=decide_eq_true c3
  clear c3
  by_cases c4:(wrap64 (s0_1+1))≤(s0_0.length:Int)
  ·rw [if_pos c4] at H
   have c4b0:=decide_eq_true c4
   clear c4
   simp only [Option.some.injEq,Prod.mk.injEq] at H
   obtain ⟨rfl,rfl,rfl⟩:=H
   obtain ⟨ASz5_0,cSz5_0,HGz5,hgz5,HSz5_0⟩:=HI0.out
   have hcz5_0:=cellS127_0 HGz5
   have hcz5_1:=cellS127_1 HGz5
   have hcz5_2:=cellS127_2 HGz5
   have hfz5_1:=blk_frozen HGz5 1
   have hfz5_2:=blk_frozen HGz5 2
   clear HGz5 hgz5
   have p296:0≤(s0_1:Int):=od D0
   have q296:s0_1 < (s0_0.length:Int):=od D0
   obtain ⟨ad296,e296,hx296_0⟩:=Kd.at_int HSz5_0 s0_1 p296 q296
   cases e296
   replace hx296_0:=pw_cell_below HB.out hx296_0
   replace p296:=eq_true p296
   replace q296:=eq_true q296
   go_enter Try.func145,Try.ntmps145
   go_wp2
   repeat (go_quiet (fail);try go_wp2)
   go_ret
   exact ⟨D3,D9,D12,D4⟩
  rw [if_neg c4] at H
  have c4b0:=decide_eq_false c4
  clear c4
  simp only [Option.some.injEq,Prod.mk.injEq] at H
  obtain ⟨rfl,rfl,rfl⟩:=H
  obtain ⟨ASz6_0,cSz6_0,HGz6,hgz6,HSz6_0⟩:=HI0.out
  have hcz6_0:=cellS127_0 HGz6
  have hcz6_1:=cellS127_1 HGz6
  have hcz6_2:=cellS127_2 HGz6
  have hfz6_1:=blk_frozen HGz6 1
  have hfz6_2:=blk_frozen HGz6 2
  clear HGz6 hgz6
  have p296:0≤(s0_1:Int):=od D0
  have q296:s0_1 < (s0_0.length:Int):=od D0
  obtain ⟨ad296,e296,hx296_0⟩:=Kd.at_int HSz6_0 s0_1 p296 q296
  cases e296
  replace hx296_0:=pw_cell_below HB.out hx296_0
  replace p296:=eq_true p296
  replace q296:=eq_true q296
  go_enter Try.func145,Try.ntmps145
  go_wp2
  repeat (go_quiet (fail);try go_wp2)
  go_ret
  exact ⟨D3,D9,D12,D4⟩
 rw [if_neg c2] at H
 have c2b0:=decide_eq_false c2
 clear c2
 by_cases c7:(wrap64 (s0_1+1))≤(s0_0.length:Int)
 ·rw [if_pos c7] at H
  have c7b0:=decide_eq_true c7
  clear c7
  simp only [Option.some.injEq,Prod.mk.injEq] at H
  obtain ⟨rfl,rfl,rfl⟩:=H
  obtain ⟨ASz8_0,cSz8_0,HGz8,hgz8,HSz8_0⟩:=HI0.out
  have hcz8_0:=cellS127_0 HGz8
  have hcz8_1:=cellS127_1 HGz8
  have hcz8_2:=cellS127_2 HGz8
  have hfz8_1:=blk_frozen HGz8 1
  have hfz8_2:=blk_frozen HGz8 2
  clear HGz8 hgz8
  go_enter Try.func145,Try.ntmps145
  go_wp2
  repeat (go_quiet (fail);try go_wp2)
  go_ret
  exact ⟨D3,D9,D12,D4⟩
 rw [if_neg c7] at H
 have c7b0:=decide_eq_false c7
 clear c7
 simp only [Option.some.injEq,Prod.mk.injEq] at H
 obtain ⟨rfl,rfl,rfl⟩:=H
 obtain ⟨ASz9_0,cSz9_0,HGz9,hgz9,HSz9_0⟩:=HI0.out
 have hcz9_0:=cellS127_0 HGz9
 have hcz9_1:=cellS127_1 HGz9
 have hcz9_2:=cellS127_2 HGz9
 have hfz9_1:=blk_frozen HGz9 1
 have hfz9_2:=blk_frozen HGz9 2
 clear HGz9 hgz9
 go_enter Try.func145,Try.ntmps145
 go_wp2
 repeat (go_quiet (fail);try go_wp2)
 go_ret
 exact ⟨D3,D9,D12,D4⟩
def spec_l1Cur_pick.f (s0_0:List Int) (s0_1:Int) (s0_2:Int) (a1:Int):Option (Int × Int × Int):=if a1≤1 then (some (0,s0_1,s0_2)) else ((spec_l1Cur_next.f s0_0 s0_1 s0_2).bind fun bt297=>(if a1 > 200 then ((spec_l1Cur_next.f s0_0 bt297.2.1 bt297.2.2).bind fun bt300=>(if a1=0 then (none) else (some (Int.tmod (wrap64 ((wrap64 (bt297.1*256))+bt300.1)) a1,bt300.2.1,bt300.2.2)))) else (if a1=0 then (none) else (some (Int.tmod bt297.1 a1,bt297.2.1,bt297.2.2)))))
theorem spec_l1Cur_pick.calls (g:Nat) (s0_0:List Int) (s0_1:Int) (s0_2:Int) (a1:Int) (r1:Int) (r2:Int) (r3:Int) (w0 w:World) (hI:IsS127 w0 w g s0_0 s0_1 s0_2) (hB:Below w0.heap.size w0 w) (h:spec_l1Cur_pick.f s0_0 s0_1 s0_2 a1=some (r1,r2,r3)) :
  Calls Try.prog 95 #[.pointer (some ⟨g,0,none⟩), .int .i64 a1] w fun e w'=>e = .returned (.int .i64 r1)∧IsS127 w0 w' g s0_0 r2 r3∧Below w0.heap.size w0 w'∧KeepBut w w' g none:=by
 have HI0:=am hI
 have HK:=am (KeepBut.refl w g none)
 have HL:=am hB.size
 clear hI
 have HW0:=am hB.size
 have HB:=am hB
 clear hB
 have H:=h
 unfold spec_l1Cur_pick.f at H
 clear h
 by_cases c3:a1≤1
 ·rw [if_pos c3] at H
  have c3b0:=decide_eq_true c3
  clear c3
  simp only [Option.some.injEq,Prod.mk.injEq] at H
  obtain ⟨rfl,rfl,rfl⟩:=H
  go_enter Try.func95,Try.ntmps95
  go_wp2
  go_ret
  exact ⟨D3,D9,D12,D4⟩
 rw [if_neg c3] at H
 have c3b0:=decide_eq_false c3
 clear c3
 obtain ⟨⟨t297,t298,t299⟩,A4,H⟩:=yo H
 try dsimp only at H
 by_cases c5:a1 > 200
 ·rw [if_pos c5] at H
  have c5b0:decide (200 < a1)=true:=decide_eq_true c5
  clear c5
  obtain ⟨⟨t300,t301,t302⟩,A6,H⟩:=yo H
  try dsimp only at H
  by_cases c7:a1=0
  ·rw [if_pos c7] at H
   exact absurd H D44
  rw [if_neg c7] at H
  have c7b0:(a1 == 0)=false:=beq_eq_false_iff_ne.mpr c7
  have c7b1:(a1 != 0)=true:=bne_iff_ne.mpr c7
  simp only [Option.some.injEq,Prod.mk.injEq] at H
  obtain ⟨rfl,rfl,rfl⟩:=H
  go_enter Try.func95,Try.ntmps95
  go_wp2_with (first|((with_reducible refine gC 145 ?_);refine gM (some 9) Try.func145 (args:=#[.pointer (some ⟨g,0,none⟩)]) (spec_l1Cur_next.calls g s0_0 s0_1 s0_2 t297 t298 t299 w0 _ ?side1 ?side2 A4.out) ?_;(case side1=>repeat (first|(with_reducible first|exact HI0.out|apply IsS127.alloc|apply IsS127.drewN|apply IsS127.drew|apply IsS127.set_1|apply IsS127.set_2)|exact HI0.out));(case side2=>repeat (first|(with_reducible first|exact HB.out|apply pa|apply pb|apply pd|refine pt ?_ (IsS127.ge HI0.out))|exact HB.out));rintro e w8 ⟨rfl,hi,hb,hk⟩;refine ⟨_,rfl,?_⟩;replace HK:=am (KeepBut.trans D4 hk (.inl rfl));replace HB:=am (hb);replace HI0:=am (hi);clear hb hk hi)|((with_reducible refine gC 145 ?_);refine gM (some 15) Try.func145 (args:=#[.pointer (some ⟨g,0,none⟩)]) (spec_l1Cur_next.calls g s0_0 t298 t299 t300 t301 t302 w0 _ ?side1 ?side2 A6.out) ?_;(case side1=>repeat (first|(with_reducible first|exact HI0.out|apply IsS127.alloc|apply IsS127.drewN|apply IsS127.drew|apply IsS127.set_1|apply IsS127.set_2)|exact HI0.out));(case side2=>repeat (first|(with_reducible first|exact HB.out|apply pa|apply pb|apply pd|refine pt ?_ (IsS127.ge HI0.out))|exact HB.out));rintro e w9 ⟨rfl,hi,hb,hk⟩;refine ⟨_,rfl,?_⟩;replace HK:=am (KeepBut.trans D4 hk (.inl rfl));replace HB:=am (hb);replace HI0:=am (hi);clear hb hk hi))
  go_ret
  exact ⟨D3,D9,D12,D4⟩
 rw [if_neg c5] at H
 have c5b0:decide (200 < a1)=false:=decide_eq_false c5
 clear c5
 by_cases c10:a1=0
 ·rw [if_pos c10] at H
  exact absurd H D44
 rw [if_neg c10] at H
 have c10b0:(a1 == 0)=false:=beq_eq_false_iff_ne.mpr c10
 have c10b1:(a1 != 0)=true:=bne_iff_ne.mpr c10
 simp only [Option.some.injEq,Prod.mk.injEq] at H
 obtain ⟨rfl,rfl,rfl⟩:=H
 go_enter Try.func95,Try.ntmps95
 go_wp2_with (first|((with_reducible refine gC 145 ?_);refine gM (some 9) Try.func145 (args:=#[.pointer (some ⟨g,0,none⟩)]) (spec_l1Cur_next.calls g s0_0 s0_1 s0_2 t297 t298 t299 w0 _ ?side1 ?side2 A4.out) ?_;(case side1=>repeat (first|(with_reducible first|exact HI0.out|apply IsS127.alloc|apply IsS127.drewN|apply IsS127.drew|apply IsS127.set_1|apply IsS127.set_2)|exact HI0.out));(case side2=>repeat (first|(with_reducible first|exact HB.out|apply pa|apply pb|apply pd|refine pt ?_ (IsS127.ge HI0.out))|exact HB.out));rintro e w11 ⟨rfl,hi,hb,hk⟩;refine ⟨_,rfl,?_⟩;replace HK:=am (KeepBut.trans D4 hk (.inl rfl));replace HB:=am (hb);replace HI0:=am (hi);clear hb hk hi))
 go_ret
 exact ⟨D3,D9,D12,D4⟩

def spec_l1Cur_one.f (s0_0:List Int) (s0_1:Int) (s0_2:Int) (a1:Int):Option (Bool × Int × Int):=(spec_l1Cur_pick.f s0_0 s0_1 s0_2 a1).bind fun bt303=>(some ((bt303.1 == 0),bt303.2.1,bt303.2.2))
theorem spec_l1Cur_one.calls (g:Nat) (s0_0:List Int) (s0_1:Int) (s0_2:Int) (a1:Int) (r1:Bool) (r2:Int) (r3:Int) (w0 w:World) (hI:IsS127 w0 w g s0_0 s0_1 s0_2) (hB:Below w0.heap.size w0 w) (h:spec_l1Cur_one.f s0_0 s0_1 s0_2 a1=some (r1,r2,r3)) :
  Calls Try.prog 101 #[.pointer (some ⟨g,0,none⟩), .int .i64 a1] w fun e w'=>e = .returned (.bool r1)∧IsS127 w0 w' g s0_0 r2 r3∧Below w0.heap.size w0 w'∧KeepBut w w' g none:=by
 have HI0:=am hI
 have HK:=am (KeepBut.refl w g none)
 have HL:=am hB.size
 clear hI
 have HW0:=am hB.size
 have HB:=am hB
 clear hB
 have H:=h
 unfold spec_l1Cur_one.f at H
 clear h
 obtain ⟨⟨t303,t304,t305⟩,A3,H⟩:=yo H
 try dsimp only at H
 simp only [Option.some.injEq,Prod.mk.injEq] at H
 obtain ⟨rfl,rfl,rfl⟩:=H
 go_enter Try.func101,Try.ntmps101
 go_wp2_with (first|((with_reducible refine gC 95 ?_);refine gM (some 7) Try.func95 (args:=#[.pointer (some ⟨g,0,none⟩), .int .i64 a1]) (spec_l1Cur_pick.calls g s0_0 s0_1 s0_2 a1 t303 t304 t305 w0 _ ?side1 ?side2 A3.out) ?_;(case side1=>repeat (first|(with_reducible first|exact HI0.out|apply IsS127.alloc|apply IsS127.drewN|apply IsS127.drew|apply IsS127.set_1|apply IsS127.set_2)|exact HI0.out));(case side2=>repeat (first|(with_reducible first|exact HB.out|apply pa|apply pb|apply pd|refine pt ?_ (IsS127.ge HI0.out))|exact HB.out));rintro e w4 ⟨rfl,hi,hb,hk⟩;refine ⟨_,rfl,?_⟩;replace HK:=am (KeepBut.trans D4 hk (.inl rfl));replace HB:=am (hb);replace HI0:=am (hi);clear hb hk hi))
 go_ret
 exact ⟨D3,D9,D12,D4⟩

def spec_l1Cur_msr.f (s0_0:List Int) (s0_1:Int) (s0_2:Int):Option (Int × Int × Int × Int):=(spec_l1Cur_pick.f s0_0 s0_1 s0_2 3).bind fun bt307=>((spec_l1Cur_pick.f s0_0 bt307.2.1 bt307.2.2 4).bind fun bt311=>((spec_l1Cur_one.f s0_0 bt311.2.1 bt311.2.2 20).bind fun bt314=>(if bt314.1=true then ((spec_l1Cur_pick.f s0_0 bt314.2.1 bt314.2.2 17).bind fun bt317=>((spec_l1Cur_pick.f s0_0 bt317.2.1 bt317.2.2 7).bind fun bt320=>(some (bt317.1,bt320.1,bt320.2.1,bt320.2.2)))) else (some (wrap64 ((wrap64 ((wrap64 (2*(wrap64 (2+bt307.1)))) - 1))+bt311.1),wrap64 (2+bt307.1),bt314.2.1,bt314.2.2)))))
def spec_l1Cur_msr.T2:Bool × List (List Nat × List Nat):=(true,[([],[]),([0],[0]),([1],[1]),([2],[2]),([],[]),([4],[4]),([3,5],[3,5]),([0,1,2,3,4,5,6],[]),([7,6,5,0,1,2,3,4,5,6],[6,7])])
def spec_l1Cur_msr.B2:List Nat:=[0,1,3,7,0,16,63,127,255]
theorem spec_l1Cur_msr.tab2:rtab .any (opsOf Try.f100 2)=spec_l1Cur_msr.T2:=by kernel_rfl
theorem spec_l1Cur_msr.bits2:waitsOk spec_l1Cur_msr.T2.2 spec_l1Cur_msr.B2=true:=by kernel_rfl
theorem spec_l1Cur_msr.calls (g:Nat) (s0_0:List Int) (s0_1:Int) (s0_2:Int) (r1:Int) (r2:Int) (r3:Int) (r4:Int) (w0 w:World) (hI:IsS127 w0 w g s0_0 s0_1 s0_2) (hB:Below w0.heap.size w0 w) (h:spec_l1Cur_msr.f s0_0 s0_1 s0_2=some (r1,r2,r3,r4)) :
  Calls Try.prog 100 #[.pointer (some ⟨g,0,none⟩)] w fun e w'=>e = .returned (.agg #[.int .i64 r1, .int .i64 r2])∧IsS127 w0 w' g s0_0 r3 r4∧Below w0.heap.size w0 w'∧KeepBut w w' g none:=by
 have hu30:=Try.underlying30
 have HI0:=am hI
 have HK:=am (KeepBut.refl w g none)
 have HL:=am hB.size
 clear hI
 have HW0:=am hB.size
 have HB:=am hB
 clear hB
 have H:=h
 unfold spec_l1Cur_msr.f at H
 clear h
 obtain ⟨⟨t307,t308,t309⟩,A2,H⟩:=yo H
 try dsimp only at H
 obtain ⟨⟨t311,t312,t313⟩,A3,H⟩:=yo H
 try dsimp only at H
 obtain ⟨⟨t314,t315,t316⟩,A4,H⟩:=yo H
 try dsimp only at H
 by_cases c5:t314=true
 ·subst c5
  replace H:=yt H
  obtain ⟨⟨t317,t318,t319⟩,A6,H⟩:=yo H
  try dsimp only at H
  obtain ⟨⟨t320,t321,t322⟩,A7,H⟩:=yo H
  try dsimp only at H
  simp only [Option.some.injEq,Prod.mk.injEq] at H
  obtain ⟨rfl,rfl,rfl,rfl⟩:=H
  go_enter Try.func100,Try.ntmps100
  try go_wp2_with (first|((with_reducible refine gD 2 ?_);refine gB (cs:=#[.int .i64 0, .int .i64 0]) 30 ?_;intro gb306 hg w8 hbox hb;replace HB:=am (pu D12 hb);have BK306:=am (hbox);have GW306:=am ((by rw [hg];exact (keep_size (w:=w) (g:=g) (row:=none) D4):w.heap.size≤gb306));have GE306:=am ((Nat.le_trans HW0.out (by rw [hg];exact (keep_size (w:=w) (g:=g) (row:=none) D4):w.heap.size≤gb306):w0.heap.size≤gb306));replace HK:=am (KeepBut.trans D4 (KeepBut.of_below hb g none) (.inl rfl));have NB0_306:=am ((by rw [hg];exact Nat.ne_of_lt (IsS127.lt (show IsS127 w0 _ g s0_0 s0_1 s0_2 from by repeat (first|(with_reducible first|exact HI0.out|apply IsS127.alloc|apply IsS127.drewN|apply IsS127.drew|apply IsS127.set_1|apply IsS127.set_2)|exact HI0.out))):g ≠ gb306));have NB306_0:=am ((by rw [hg];exact Nat.ne_of_gt (IsS127.lt (show IsS127 w0 _ g s0_0 s0_1 s0_2 from by repeat (first|(with_reducible first|exact HI0.out|apply IsS127.alloc|apply IsS127.drewN|apply IsS127.drew|apply IsS127.set_1|apply IsS127.set_2)|exact HI0.out))):gb306 ≠ g));replace HI0:=am (IsS127.below D9 hb);clear hb hbox hg)|((with_reducible refine gC 95 ?_);refine gM (some 5) Try.func95 (args:=#[.pointer (some ⟨g,0,none⟩), .int .i64 3]) (spec_l1Cur_pick.calls g s0_0 s0_1 s0_2 3 t307 t308 t309 w0 _ ?side1 ?side2 A2.out) ?_;(case side1=>repeat (first|(with_reducible first|exact HI0.out|apply IsS127.alloc|apply IsS127.drewN|apply IsS127.drew|apply IsS127.set_1|apply IsS127.set_2|refine IsS127.far ?_ NB0_306.out _)|exact HI0.out));(case side2=>repeat (first|(with_reducible first|exact HB.out|apply pa|apply pb|apply pd|refine pt ?_ (IsS127.ge HI0.out)|refine pt ?_ GE306.out)|exact HB.out));rintro e w9 ⟨rfl,hi,hb,hk⟩;refine ⟨_,rfl,?_⟩;replace BK306:=am (KeepBut.blk hk (g':=gb306) (o:=.cells #[.int .i64 0, .int .i64 0] 30 (0,0)) (yB BK306) NB306_0.out D44);replace HK:=am (KeepBut.trans D24 hk (.inl rfl));replace HB:=am (hb);replace HI0:=am (hi);clear hb hk hi)|((with_reducible refine gD 3 ?_);refine gB (cs:=#[.int .i64 0, .int .i64 0]) 30 ?_;intro gb310 hg w10 hbox hb;replace HB:=am (pu D114 hb);have BK310:=am (hbox);have GW310:=am ((by rw [hg];exact (keep_size (w:=w) (g:=g) (row:=none) D24):w.heap.size≤gb310));have GE310:=am ((Nat.le_trans HW0.out (by rw [hg];exact (keep_size (w:=w) (g:=g) (row:=none) D24):w.heap.size≤gb310):w0.heap.size≤gb310));replace HK:=am (KeepBut.trans D24 (KeepBut.of_below hb g none) (.inl rfl));have NB306_310:=yl BK306 hg;have NB310_306:=yg BK306 hg;replace BK306:=yb BK306 hb;have NB0_310:=am ((by rw [hg];exact Nat.ne_of_lt (IsS127.lt (show IsS127 w0 _ g s0_0 t308 t309 from by repeat (first|(with_reducible first|exact HI0.out|apply IsS127.alloc|apply IsS127.drewN|apply IsS127.drew|apply IsS127.set_1|apply IsS127.set_2|refine IsS127.far ?_ NB0_306.out _)|exact HI0.out))):g ≠ gb310));have NB310_0:=am ((by rw [hg];exact Nat.ne_of_gt (IsS127.lt (show IsS127 w0 _ g s0_0 t308 t309 from by repeat (first|(with_reducible first|exact HI0.out|apply IsS127.alloc|apply IsS127.drewN|apply IsS127.drew|apply IsS127.set_1|apply IsS127.set_2|refine IsS127.far ?_ NB0_306.out _)|exact HI0.out))):gb310 ≠ g));replace HI0:=am (IsS127.below D102 hb);clear hb hbox hg;have hnb11:=NB310_306.out;have hnc11:=NB306_310.out;have hnb12:=NB310_0.out;have hnc12:=NB0_310.out;obtain ⟨hcz13_0,hcz13_1,hfz13_0,hfz13_1⟩:=yk2 BK310))
  generalize hw_:((w10.setCell ⟨gb310,0,none⟩ (.int .i64 0)).setCell ⟨gb310,1,none⟩ (.int .i64 (wrap64 (2+t307))))=w14
  replace BK306:Aside0 (w14.heap[gb306]? = some (.cells #[.int .i64 0, .int .i64 0] 30 (0,0))):=⟨by rw [← hw_];exact yF BK306⟩
  replace BK310:Aside0 (w14.heap[gb310]? = some (.cells #[.int .i64 0, .int .i64 (wrap64 (2+t307))] 30 (0,0))):=⟨D107⟩
  replace HK:Aside0 (KeepBut w w14 g none):=⟨D99⟩
  replace HB:Aside0 (Below w0.heap.size w0 w14):=⟨D106⟩
  replace HI0:Aside0 (IsS127 w0 w14 g s0_0 t308 t309):=⟨D86⟩
  clear hw_
  replace BK306:=am (qd BK306.out)
  replace BK310:=am (qd BK310.out)
  replace HI0:=am (IsS127.drew HI0.out)
  replace HK:=am (keep_drew HK.out)
  replace HB:=am (pd HB.out)
  refine rS (n:=9) (S:=fun w'=>w'.cell? ⟨gb310,0,none⟩=some (.int .i64 0)∧w'.cell? ⟨gb310,1,none⟩=some (.int .i64 (wrap64 (2+t307)))) (ds:=[8]) [(0,8),(4,12),(1,9),(2,10),(3,11),(5,0),(6,14),(7,15),(8,0)] D2 rfl spec_l1Cur_msr.tab2 spec_l1Cur_msr.bits2 ⟨yk BK310 0,yk BK310 1⟩ (fun hHeld HT_ HW_=>?_)
  generalize w14.drew=w15 at BK306 BK310 HI0 HK HB hHeld ⊢
  refine rR ?_
  refine rO (N:=some 13) HT_ rfl rfl D2 D5 (fun K hK=>?_)
  refine goes_ Try.func95 D2 rfl #[.pointer (some ⟨g,0,none⟩), .int .i64 4] D16 rfl rfl D8 ?_
  with_reducible refine (spec_l1Cur_pick.calls g s0_0 t308 t309 4 t311 t312 t313 w0 _ ?side1 ?side2 A3.out).mono ?_
  (case side1=>repeat (first|(with_reducible first|exact HI0.out|apply IsS127.alloc|apply IsS127.drewN|apply IsS127.drew|apply IsS127.set_1|apply IsS127.set_2|refine IsS127.far ?_ NB0_306.out _|refine IsS127.far ?_ NB0_310.out _)|exact HI0.out))
  (case side2=>repeat (first|(with_reducible first|exact HB.out|apply pa|apply pb|apply pd|refine pt ?_ (IsS127.ge HI0.out)|refine pt ?_ GE306.out|refine pt ?_ GE310.out)|exact HB.out))
  rintro e w16 ⟨rfl,hi,hb,hk⟩
  refine ⟨_,rfl,?_⟩
  replace BK306:=am (KeepBut.blk hk (g':=gb306) (o:=.cells #[.int .i64 0, .int .i64 0] 30 (0,0)) (yB BK306) NB306_0.out D44)
  replace BK310:=am (KeepBut.blk hk (g':=gb310) (o:=.cells #[.int .i64 0, .int .i64 (wrap64 (2+t307))] 30 (0,0)) (yB BK310) NB310_0.out D44)
  replace HK:=am (KeepBut.trans D22 hk (.inl rfl))
  replace HB:=am (hb)
  replace HI0:=am (hi)
  (try clear hb)
  (try clear hb2)
  (try clear hk)
  (try clear hi)
  refine hK.out _ _ ⟨yk BK310 0,yk BK310 1⟩ (fun hHeld=>?_)
  clear hK K
  refine rN (nA 13) ?_
  refine rR ?_
  refine rL (N:=none) HT_ rfl rfl D2 D5 (fun K hK=>?_)
  have hs17:w16.cell? ⟨gb310,0,none⟩=some (.int .i64 0):=(blk_cell BK310.out 0).trans rfl
  have hfs17:=blk_frozen BK310.out 0
  have hns17_0:=NB306_310.out
  have hms17_0:=NB310_306.out
  refine skip_ (w1:=?_) D16 rfl ?_ ?_
  rotate_left
  ·go_simp
   rfl
  refine hK.out _ _ ?_
  clear hK K
  refine rD HT_ D2 ?_
  try go_wp2_with (first|((with_reducible refine gC 101 ?_);refine gM (some 17) Try.func101 (args:=#[.pointer (some ⟨g,0,none⟩), .int .i64 20]) (spec_l1Cur_one.calls g s0_0 t312 t313 20 true t315 t316 w0 _ ?side1 ?side2 A4.out) ?_;(case side1=>repeat (first|(with_reducible first|exact HI0.out|apply IsS127.alloc|apply IsS127.drewN|apply IsS127.drew|apply IsS127.set_1|apply IsS127.set_2|refine IsS127.far ?_ NB0_306.out _|refine IsS127.far ?_ NB0_310.out _)|exact HI0.out));(case side2=>repeat (first|(with_reducible first|exact HB.out|apply pa|apply pb|apply pd|refine pt ?_ (IsS127.ge HI0.out)|refine pt ?_ GE306.out|refine pt ?_ GE310.out)|exact HB.out));rintro e w18 ⟨rfl,hi,hb,hk⟩;refine ⟨_,rfl,?_⟩;replace BK306:=am (KeepBut.blk hk (g':=gb306) (o:=.cells #[.int .i64 0, .int .i64 0] 30 (0,0)) (yF BK306) NB306_0.out D44);replace BK310:=am (KeepBut.blk hk (g':=gb310) (o:=.cells #[.int .i64 (wrap64 ((wrap64 ((wrap64 (2*(wrap64 (2+t307)))) - 1))+t311)), .int .i64 (wrap64 (2+t307))] 30 (0,0)) (by refine sB ?_;refine blk_put (cs:=#[.int .i64 0, .int .i64 (wrap64 (2+t307))]) ?_ 0 _ rfl;exact yB BK310) NB310_0.out D44);replace HK:=am (KeepBut.trans D22 hk (.inl rfl));replace HB:=am (hb);replace HI0:=am (hi);clear hb hk hi)|((with_reducible refine gC 95 ?_);refine gM (some 19) Try.func95 (args:=#[.pointer (some ⟨g,0,none⟩), .int .i64 17]) (spec_l1Cur_pick.calls g s0_0 t315 t316 17 t317 t318 t319 w0 _ ?side1 ?side2 A6.out) ?_;(case side1=>repeat (first|(with_reducible first|exact HI0.out|apply IsS127.alloc|apply IsS127.drewN|apply IsS127.drew|apply IsS127.set_1|apply IsS127.set_2|refine IsS127.far ?_ NB0_306.out _|refine IsS127.far ?_ NB0_310.out _)|exact HI0.out));(case side2=>repeat (first|(with_reducible first|exact HB.out|apply pa|apply pb|apply pd|refine pt ?_ (IsS127.ge HI0.out)|refine pt ?_ GE306.out|refine pt ?_ GE310.out)|exact HB.out));rintro e w19 ⟨rfl,hi,hb,hk⟩;refine ⟨_,rfl,?_⟩;replace BK306:=am (KeepBut.blk hk (g':=gb306) (o:=.cells #[.int .i64 0, .int .i64 0] 30 (0,0)) (yB BK306) NB306_0.out D44);replace BK310:=am (KeepBut.blk hk (g':=gb310) (o:=.cells #[.int .i64 (wrap64 ((wrap64 ((wrap64 (2*(wrap64 (2+t307)))) - 1))+t311)), .int .i64 (wrap64 (2+t307))] 30 (0,0)) (yB BK310) NB310_0.out D44);replace HK:=am (KeepBut.trans D22 hk (.inl rfl));replace HB:=am (hb);replace HI0:=am (hi);clear hb hk hi)|((with_reducible refine gC 95 ?_);refine gM (some 21) Try.func95 (args:=#[.pointer (some ⟨g,0,none⟩), .int .i64 7]) (spec_l1Cur_pick.calls g s0_0 t318 t319 7 t320 t321 t322 w0 _ ?side1 ?side2 A7.out) ?_;(case side1=>repeat (first|(with_reducible first|exact HI0.out|apply IsS127.alloc|apply IsS127.drewN|apply IsS127.drew|apply IsS127.set_1|apply IsS127.set_2|refine IsS127.far ?_ NB0_306.out _|refine IsS127.far ?_ NB0_310.out _)|exact HI0.out));(case side2=>repeat (first|(with_reducible first|exact HB.out|apply pa|apply pb|apply pd|refine pt ?_ (IsS127.ge HI0.out)|refine pt ?_ GE306.out|refine pt ?_ GE310.out)|exact HB.out));rintro e w20 ⟨rfl,hi,hb,hk⟩;refine ⟨_,rfl,?_⟩;replace BK306:=am (KeepBut.blk hk (g':=gb306) (o:=.cells #[.int .i64 0, .int .i64 0] 30 (0,0)) (yB BK306) NB306_0.out D44);replace BK310:=am (KeepBut.blk hk (g':=gb310) (o:=.cells #[.int .i64 (wrap64 ((wrap64 ((wrap64 (2*(wrap64 (2+t307)))) - 1))+t311)), .int .i64 (wrap64 (2+t307))] 30 (0,0)) (yB BK310) NB310_0.out D44);replace HK:=am (KeepBut.trans D22 hk (.inl rfl));replace HB:=am (hb);replace HI0:=am (hi);clear hb hk hi;obtain ⟨hcz21_0,hcz21_1,hfz21_0,hfz21_1⟩:=yk2 BK310;have hnb22:=NB306_0.out;have hnc22:=NB0_306.out;obtain ⟨hcz23_0,hcz23_1,hfz23_0,hfz23_1⟩:=yk2 BK306))
  refine bodyPost_ret (results_cell_row rfl _ _ gb306 30 #[.int .i64 t317, .int .i64 t320] (0,0) _ rfl (by refine sB ?_;refine blk_put (cs:=#[.int .i64 t317, .int .i64 0]) ?_ 1 _ rfl;refine sB ?_;refine blk_put (cs:=#[.int .i64 0, .int .i64 0]) ?_ 0 _ rfl;exact yF BK306) Try.underlying30 rfl D2) rfl ?_
  exact ⟨D3,D94,D108,D22⟩
 replace c5:=Bool.eq_false_iff.mpr c5
 subst c5
 replace H:=yn H
 simp only [Option.some.injEq,Prod.mk.injEq] at H
 obtain ⟨rfl,rfl,rfl,rfl⟩:=H
 go_enter Try.func100,Try.ntmps100
 try go_wp2_with (first|((with_reducible refine gD 2 ?_);refine gB (cs:=#[.int .i64 0, .int .i64 0]) 30 ?_;intro gb306 hg w24 hbox hb;replace HB:=am (pu D12 hb);have BK306:=am (hbox);have GW306:=am ((by rw [hg];exact (keep_size (w:=w) (g:=g) (row:=none) D4):w.heap.size≤gb306));have GE306:=am ((Nat.le_trans HW0.out (by rw [hg];exact (keep_size (w:=w) (g:=g) (row:=none) D4):w.heap.size≤gb306):w0.heap.size≤gb306));replace HK:=am (KeepBut.trans D4 (KeepBut.of_below hb g none) (.inl rfl));have NB0_306:=am ((by rw [hg];exact Nat.ne_of_lt (IsS127.lt (show IsS127 w0 _ g s0_0 s0_1 s0_2 from by repeat (first|(with_reducible first|exact HI0.out|apply IsS127.alloc|apply IsS127.drewN|apply IsS127.drew|apply IsS127.set_1|apply IsS127.set_2)|exact HI0.out))):g ≠ gb306));have NB306_0:=am ((by rw [hg];exact Nat.ne_of_gt (IsS127.lt (show IsS127 w0 _ g s0_0 s0_1 s0_2 from by repeat (first|(with_reducible first|exact HI0.out|apply IsS127.alloc|apply IsS127.drewN|apply IsS127.drew|apply IsS127.set_1|apply IsS127.set_2)|exact HI0.out))):gb306 ≠ g));replace HI0:=am (IsS127.below D9 hb);clear hb hbox hg)|((with_reducible refine gC 95 ?_);refine gM (some 5) Try.func95 (args:=#[.pointer (some ⟨g,0,none⟩), .int .i64 3]) (spec_l1Cur_pick.calls g s0_0 s0_1 s0_2 3 t307 t308 t309 w0 _ ?side1 ?side2 A2.out) ?_;(case side1=>repeat (first|(with_reducible first|exact HI0.out|apply IsS127.alloc|apply IsS127.drewN|apply IsS127.drew|apply IsS127.set_1|apply IsS127.set_2|refine IsS127.far ?_ NB0_306.out _)|exact HI0.out));(case side2=>repeat (first|(with_reducible first|exact HB.out|apply pa|apply pb|apply pd|refine pt ?_ (IsS127.ge HI0.out)|refine pt ?_ GE306.out)|exact HB.out));rintro e w25 ⟨rfl,hi,hb,hk⟩;refine ⟨_,rfl,?_⟩;replace BK306:=am (KeepBut.blk hk (g':=gb306) (o:=.cells #[.int .i64 0, .int .i64 0] 30 (0,0)) (yB BK306) NB306_0.out D44);replace HK:=am (KeepBut.trans D24 hk (.inl rfl));replace HB:=am (hb);replace HI0:=am (hi);clear hb hk hi)|((with_reducible refine gD 3 ?_);refine gB (cs:=#[.int .i64 0, .int .i64 0]) 30 ?_;intro gb310 hg w26 hbox hb;replace HB:=am (pu D114 hb);have BK310:=am (hbox);have GW310:=am ((by rw [hg];exact (keep_size (w:=w) (g:=g) (row:=none) D24):w.heap.size≤gb310));have GE310:=am ((Nat.le_trans HW0.out (by rw [hg];exact (keep_size (w:=w) (g:=g) (row:=none) D24):w.heap.size≤gb310):w0.heap.size≤gb310));replace HK:=am (KeepBut.trans D24 (KeepBut.of_below hb g none) (.inl rfl));have NB306_310:=yl BK306 hg;have NB310_306:=yg BK306 hg;replace BK306:=yb BK306 hb;have NB0_310:=am ((by rw [hg];exact Nat.ne_of_lt (IsS127.lt (show IsS127 w0 _ g s0_0 t308 t309 from by repeat (first|(with_reducible first|exact HI0.out|apply IsS127.alloc|apply IsS127.drewN|apply IsS127.drew|apply IsS127.set_1|apply IsS127.set_2|refine IsS127.far ?_ NB0_306.out _)|exact HI0.out))):g ≠ gb310));have NB310_0:=am ((by rw [hg];exact Nat.ne_of_gt (IsS127.lt (show IsS127 w0 _ g s0_0 t308 t309 from by repeat (first|(with_reducible first|exact HI0.out|apply IsS127.alloc|apply IsS127.drewN|apply IsS127.drew|apply IsS127.set_1|apply IsS127.set_2|refine IsS127.far ?_ NB0_306.out _)|exact HI0.out))):gb310 ≠ g));replace HI0:=am (IsS127.below D102 hb);clear hb hbox hg;have hnb27:=NB310_306.out;have hnc27:=NB306_310.out;have hnb28:=NB310_0.out;have hnc28:=NB0_310.out;obtain ⟨hcz29_0,hcz29_1,hfz29_0,hfz29_1⟩:=yk2 BK310))
 generalize hw_:((w26.setCell ⟨gb310,0,none⟩ (.int .i64 0)).setCell ⟨gb310,1,none⟩ (.int .i64 (wrap64 (2+t307))))=w30
 replace BK306:Aside0 (w30.heap[gb306]? = some (.cells #[.int .i64 0, .int .i64 0] 30 (0,0))):=⟨by rw [← hw_];exact yF BK306⟩
 replace BK310:Aside0 (w30.heap[gb310]? = some (.cells #[.int .i64 0, .int .i64 (wrap64 (2+t307))] 30 (0,0))):=⟨D107⟩
 replace HK:Aside0 (KeepBut w w30 g none):=⟨D99⟩
 replace HB:Aside0 (Below w0.heap.size w0 w30):=⟨D106⟩
 replace HI0:Aside0 (IsS127 w0 w30 g s0_0 t308 t309):=⟨D86⟩
 clear hw_
 replace BK306:=am (qd BK306.out)
 replace BK310:=am (qd BK310.out)
 replace HI0:=am (IsS127.drew HI0.out)
 replace HK:=am (keep_drew HK.out)
 replace HB:=am (pd HB.out)
 refine rS (n:=9) (S:=fun w'=>w'.cell? ⟨gb310,0,none⟩=some (.int .i64 0)∧w'.cell? ⟨gb310,1,none⟩=some (.int .i64 (wrap64 (2+t307)))) (ds:=[8]) [(0,8),(4,12),(1,9),(2,10),(3,11),(5,0),(6,14),(7,15),(8,0)] D2 rfl spec_l1Cur_msr.tab2 spec_l1Cur_msr.bits2 ⟨yk BK310 0,yk BK310 1⟩ (fun hHeld HT_ HW_=>?_)
 generalize w30.drew=w31 at BK306 BK310 HI0 HK HB hHeld ⊢
 refine rR ?_
 refine rO (N:=some 13) HT_ rfl rfl D2 D5 (fun K hK=>?_)
 refine goes_ Try.func95 D2 rfl #[.pointer (some ⟨g,0,none⟩), .int .i64 4] D16 rfl rfl D8 ?_
 with_reducible refine (spec_l1Cur_pick.calls g s0_0 t308 t309 4 t311 t312 t313 w0 _ ?side1 ?side2 A3.out).mono ?_
 (case side1=>repeat (first|(with_reducible first|exact HI0.out|apply IsS127.alloc|apply IsS127.drewN|apply IsS127.drew|apply IsS127.set_1|apply IsS127.set_2|refine IsS127.far ?_ NB0_306.out _|refine IsS127.far ?_ NB0_310.out _)|exact HI0.out))
 (case side2=>repeat (first|(with_reducible first|exact HB.out|apply pa|apply pb|apply pd|refine pt ?_ (IsS127.ge HI0.out)|refine pt ?_ GE306.out|refine pt ?_ GE310.out)|exact HB.out))
 rintro e w32 ⟨rfl,hi,hb,hk⟩
 refine ⟨_,rfl,?_⟩
 replace BK306:=am (KeepBut.blk hk (g':=gb306) (o:=.cells #[.int .i64 0, .int .i64 0] 30 (0,0)) (yB BK306) NB306_0.out D44)
 replace BK310:=am (KeepBut.blk hk (g':=gb310) (o:=.cells #[.int .i64 0, .int .i64 (wrap64 (2+t307))] 30 (0,0)) (yB BK310) NB310_0.out D44)
 replace HK:=am (KeepBut.trans D22 hk (.inl rfl))
 replace HB:=am (hb)
 replace HI0:=am (hi)
 (try clear hb)
 (try clear hb2)
 (try clear hk)
 (try clear hi)
 refine hK.out _ _ ⟨yk BK310 0,yk BK310 1⟩ (fun hHeld=>?_)
 clear hK K
 refine rN (nA 13) ?_
 refine rR ?_
 refine rL (N:=none) HT_ rfl rfl D2 D5 (fun K hK=>?_)
 have hs33:w32.cell? ⟨gb310,0,none⟩=some (.int .i64 0):=(blk_cell BK310.out 0).trans rfl
 have hfs33:=blk_frozen BK310.out 0
 have hns33_0:=NB306_310.out
 have hms33_0:=NB310_306.out
 refine skip_ (w1:=?_) D16 rfl ?_ ?_
 rotate_left
 ·go_simp
  rfl
 refine hK.out _ _ ?_
 clear hK K
 refine rD HT_ D2 ?_
 try go_wp2_with (first|((with_reducible refine gC 101 ?_);refine gM (some 17) Try.func101 (args:=#[.pointer (some ⟨g,0,none⟩), .int .i64 20]) (spec_l1Cur_one.calls g s0_0 t312 t313 20 false t315 t316 w0 _ ?side1 ?side2 A4.out) ?_;(case side1=>repeat (first|(with_reducible first|exact HI0.out|apply IsS127.alloc|apply IsS127.drewN|apply IsS127.drew|apply IsS127.set_1|apply IsS127.set_2|refine IsS127.far ?_ NB0_306.out _|refine IsS127.far ?_ NB0_310.out _)|exact HI0.out));(case side2=>repeat (first|(with_reducible first|exact HB.out|apply pa|apply pb|apply pd|refine pt ?_ (IsS127.ge HI0.out)|refine pt ?_ GE306.out|refine pt ?_ GE310.out)|exact HB.out));rintro e w34 ⟨rfl,hi,hb,hk⟩;refine ⟨_,rfl,?_⟩;replace BK306:=am (KeepBut.blk hk (g':=gb306) (o:=.cells #[.int .i64 0, .int .i64 0] 30 (0,0)) (yF BK306) NB306_0.out D44);replace BK310:=am (KeepBut.blk hk (g':=gb310) (o:=.cells #[.int .i64 (wrap64 ((wrap64 ((wrap64 (2*(wrap64 (2+t307)))) - 1))+t311)), .int .i64 (wrap64 (2+t307))] 30 (0,0)) (by refine sB ?_;refine blk_put (cs:=#[.int .i64 0, .int .i64 (wrap64 (2+t307))]) ?_ 0 _ rfl;exact yB BK310) NB310_0.out D44);replace HK:=am (KeepBut.trans D22 hk (.inl rfl));replace HB:=am (hb);replace HI0:=am (hi);clear hb hk hi;obtain ⟨hcz35_0,hcz35_1,hfz35_0,hfz35_1⟩:=yk2 BK310;have hnb36:=NB306_0.out;have hnc36:=NB0_306.out;obtain ⟨hcz37_0,hcz37_1,hfz37_0,hfz37_1⟩:=yk2 BK306))
 refine bodyPost_ret (results_cell_row rfl _ _ gb306 30 #[.int .i64 (wrap64 ((wrap64 ((wrap64 (2*(wrap64 (2+t307)))) - 1))+t311)), .int .i64 (wrap64 (2+t307))] (0,0) _ rfl (by refine sB ?_;refine blk_put (cs:=#[.int .i64 (wrap64 ((wrap64 ((wrap64 (2*(wrap64 (2+t307)))) - 1))+t311)), .int .i64 0]) ?_ 1 _ rfl;refine sB ?_;refine blk_put (cs:=#[.int .i64 0, .int .i64 0]) ?_ 0 _ rfl;exact yB BK306) Try.underlying30 rfl D2) rfl ?_
 exact ⟨D3,D94,D108,D22⟩

def spec_l1Cur_among.f (s0_0:List Int) (s0_1:Int) (s0_2:Int) (l1:List Int):Option (Int × Int × Int):=(spec_l1Cur_pick.f s0_0 s0_1 s0_2 (l1.length:Int)).bind fun bt323=>(if 0≤bt323.1 then (if bt323.1 < (l1.length:Int) then (some (rd l1 bt323.1,bt323.2.1,bt323.2.2)) else (none)) else (none))
theorem spec_l1Cur_among.calls (g:Nat) (s0_0:List Int) (s0_1:Int) (s0_2:Int) (A1:Option Addr) (c1:Nat) (l1:List Int) (r1:Int) (r2:Int) (r3:Int) (w0 w:World) (hI:IsS127 w0 w g s0_0 s0_1 s0_2) (hB:Below w0.heap.size w0 w) (hr1:Kd.C (Kd.int .i64) w A1 l1.length l1) (hc1:l1.length≤c1) (hf1:∀ ad,A1=some ad→0 < l1.length→ad.block ≠ g) (h:spec_l1Cur_among.f s0_0 s0_1 s0_2 l1=some (r1,r2,r3)) :
  Calls Try.prog 158 #[.pointer (some ⟨g,0,none⟩), .slice A1 l1.length c1] w fun e w'=>e = .returned (.int .i64 r1)∧IsS127 w0 w' g s0_0 r2 r3∧Below w0.heap.size w0 w'∧KeepBut w w' g none:=by
 have HR1:=am hr1
 have HC1:=am hc1
 clear hr1 hc1
 have HI0:=am hI
 have HK:=am (KeepBut.refl w g none)
 have HL:=am hB.size
 clear hI
 have HW0:=am hB.size
 have HB:=am hB
 clear hB
 have H:=h
 unfold spec_l1Cur_among.f at H
 clear h
 obtain ⟨⟨t323,t324,t325⟩,A3,H⟩:=yo H
 try dsimp only at H
 by_cases c4:0≤t323
 ·rw [if_pos c4] at H
  have c4b0:=decide_eq_true c4
  clear c4
  obtain ⟨c5,H⟩:=yi H
  have c5b0:=decide_eq_true c5
  clear c5
  simp only [Option.some.injEq,Prod.mk.injEq] at H
  obtain ⟨rfl,rfl,rfl⟩:=H
  go_enter Try.func158,Try.ntmps158
  go_wp2_with (first|((with_reducible refine gC 95 ?_);refine gM (some 9) Try.func95 (args:=#[.pointer (some ⟨g,0,none⟩), .int .i64 (l1.length:Int)]) (spec_l1Cur_pick.calls g s0_0 s0_1 s0_2 (l1.length:Int) t323 t324 t325 w0 _ ?side1 ?side2 A3.out) ?_;(case side1=>repeat (first|(with_reducible first|exact HI0.out|apply IsS127.alloc|apply IsS127.drewN|apply IsS127.drew|apply IsS127.set_1|apply IsS127.set_2)|exact HI0.out));(case side2=>repeat (first|(with_reducible first|exact HB.out|apply pa|apply pb|apply pd|refine pt ?_ (IsS127.ge HI0.out))|exact HB.out));rintro e w6 ⟨rfl,hi,hb,hk⟩;refine ⟨_,rfl,?_⟩;replace HK:=am (KeepBut.trans D4 hk (.inl rfl));replace HB:=am (hb);replace HI0:=am (hi);clear hb hk hi;have p326:0≤(t323:Int):=od D0;have q326:t323 < (l1.length:Int):=od D0;obtain ⟨ad326,e326,hx326_0⟩:=Kd.at_int HR1.out t323 p326 q326;cases e326;replace hx326_0:=keep_cell HK.out hx326_0 (by first|(rw [add_block];exact hf1 _ rfl D13)|exact hf1 _ rfl D13|exact hf1 ad326 rfl D13);replace p326:=eq_true p326;replace q326:=eq_true q326))
  go_ret
  exact ⟨D3,D9,D12,D4⟩
 rw [if_neg c4] at H
 exact absurd H D44

def spec_l1Cur_byte.f (s0_0:List Int) (s0_1:Int) (s0_2:Int):Option (Int × Int × Int):=(spec_l1Cur_one.f s0_0 s0_1 s0_2 5).bind fun bt327=>(if bt327.1=true then ((spec_l1Cur_among.f s0_0 bt327.2.1 bt327.2.2 (([0,1,2,3,255,27]:List Int))).bind fun bt333=>(some ((bt333.1) % 256,bt333.2.1,bt333.2.2))) else ((spec_l1Cur_pick.f s0_0 bt327.2.1 bt327.2.2 256).bind fun bt336=>(some ((bt336.1) % 256,bt336.2.1,bt336.2.2))))
theorem spec_l1Cur_byte.calls (g:Nat) (s0_0:List Int) (s0_1:Int) (s0_2:Int) (r1:Int) (r2:Int) (r3:Int) (w0 w:World) (hI:IsS127 w0 w g s0_0 s0_1 s0_2) (hB:Below w0.heap.size w0 w) (h:spec_l1Cur_byte.f s0_0 s0_1 s0_2=some (r1,r2,r3)) :
  Calls Try.prog 146 #[.pointer (some ⟨g,0,none⟩)] w fun e w'=>e = .returned (.int .u8 r1)∧IsS127 w0 w' g s0_0 r2 r3∧Below w0.heap.size w0 w'∧KeepBut w w' g none:=by
 have HI0:=am hI
 have HK:=am (KeepBut.refl w g none)
 have HL:=am hB.size
 clear hI
 have HW0:=am hB.size
 have HB:=am hB
 clear hB
 have H:=h
 unfold spec_l1Cur_byte.f at H
 clear h
 obtain ⟨⟨t327,t328,t329⟩,A2,H⟩:=yo H
 try dsimp only at H
 by_cases c3:t327=true
 ·subst c3
  replace H:=yt H
  generalize hy330:(([0,1,2,3,255,27]:List Int):List Int)=y330 at H
  have Ny330:=am hy330.symm
  clear hy330
  obtain ⟨⟨t333,t334,t335⟩,A4,H⟩:=yo H
  try dsimp only at H
  simp only [Option.some.injEq,Prod.mk.injEq] at H
  obtain ⟨rfl,rfl,rfl⟩:=H
  go_enter Try.func146,Try.ntmps146
  go_wp2_with (first|((with_reducible refine gC 101 ?_);refine gM (some 4) Try.func101 (args:=#[.pointer (some ⟨g,0,none⟩), .int .i64 5]) (spec_l1Cur_one.calls g s0_0 s0_1 s0_2 5 true t328 t329 w0 _ ?side1 ?side2 A2.out) ?_;(case side1=>repeat (first|(with_reducible first|exact HI0.out|apply IsS127.alloc|apply IsS127.drewN|apply IsS127.drew|apply IsS127.set_1|apply IsS127.set_2)|exact HI0.out));(case side2=>repeat (first|(with_reducible first|exact HB.out|apply pa|apply pb|apply pd|refine pt ?_ (IsS127.ge HI0.out))|exact HB.out));rintro e w5 ⟨rfl,hi,hb,hk⟩;refine ⟨_,rfl,?_⟩;replace HK:=am (KeepBut.trans D4 hk (.inl rfl));replace HB:=am (hb);replace HI0:=am (hi);clear hb hk hi)|((with_reducible refine gD 6 ?_);refine Kd.R_lit (Kd.int .i64) _ 3 D16 (N:=6) D16 (xs:=([0,1,2,3,255,27]:List Int)) (inner:=[.int .i64 0, .int .i64 1, .int .i64 2, .int .i64 3, .int .i64 255, .int .i64 27]) (ok:=fun _=>True) (okp:=fun _=>True) D33 (by exact (Reps.one (show Kd.M (Kd.int .i64) _ _ _ 0 [.int .i64 0] from rfl) (Reps.one (show Kd.M (Kd.int .i64) _ _ _ 1 [.int .i64 1] from rfl) (Reps.one (show Kd.M (Kd.int .i64) _ _ _ 2 [.int .i64 2] from rfl) (Reps.one (show Kd.M (Kd.int .i64) _ _ _ 3 [.int .i64 3] from rfl) (Reps.one (show Kd.M (Kd.int .i64) _ _ _ 255 [.int .i64 255] from rfl) (Reps.one (show Kd.M (Kd.int .i64) _ _ _ 27 [.int .i64 27] from rfl) (Reps.none _ _)))))))) (fun _ hk=>hk) trivial (Below.refl _ _) (Nat.le_refl _) D44 ?_;intro v331 w6 ho7 hb hg_ hnew_;clear hg_ hnew_;(first|rw [← Ny330.out] at ho7|(simp only [Int.reduceToNat] at ho7;rw [← Ny330.out] at ho7));have HO332:=am (Kd.R_lower ho7 (keep_size (w:=w) (g:=g) (row:=none) D4));replace HK:=am (KeepBut.trans D4 (KeepBut.of_below hb g none) (.inl rfl));replace HB:=am (pu D12 hb);replace HI0:=am (IsS127.below D9 hb);clear hb ho7;obtain ⟨Ao8,co8,eo8⟩:=Kd.R_slice HO332.out;subst eo8)|((with_reducible refine gC 158 ?_);refine gM (some 7) Try.func158 (args:=#[.pointer (some ⟨g,0,none⟩), .slice Ao8 y330.length co8]) (spec_l1Cur_among.calls g s0_0 t328 t329 _ _ y330 t333 t334 t335 w0 _ ?side1 ?side2 ?side3 ?side4 ?side5 A4.out) ?_;(case side1=>repeat (first|(with_reducible first|exact HI0.out|apply IsS127.alloc|apply IsS127.drewN|apply IsS127.drew|apply IsS127.set_1|apply IsS127.set_2)|exact HI0.out));(case side2=>repeat (first|(with_reducible first|exact HB.out|apply pa|apply pb|apply pd|refine pt ?_ (IsS127.ge HI0.out))|exact HB.out));(case side3=>repeat (first|exact (Kd.R_reads' HO332.out).2.2|(with_reducible refine Kd.C_alloc ?_ _)|(with_reducible refine Kd.C_drewN ?_ _)|(with_reducible refine Kd.C_drew ?_)));(case side4=>exact (Kd.R_reads' HO332.out).2.1);(case side5=>exact far_slice (IsS127.own_ne HI0.out HO332.out D5));rintro e w9 ⟨rfl,hi,hb,hk⟩;refine ⟨_,rfl,?_⟩;replace HO332:=am (Kd.R_mono (Kd.R_keep (IsS127.apart (show IsS127 w0 _ g s0_0 t328 t329 from by repeat (first|(with_reducible first|exact HI0.out|apply IsS127.alloc|apply IsS127.drewN|apply IsS127.drew|apply IsS127.set_1|apply IsS127.set_2)|exact HI0.out)) (yR HO332) D5) hk (fun _ h=>h.2)) (fun _ h=>h.1));replace HK:=am (KeepBut.trans D4 hk (.inl rfl));replace HB:=am (hb);replace HI0:=am (hi);clear hb hk hi))
  go_ret
  exact ⟨D3,D9,D12,D4⟩
 replace c3:=Bool.eq_false_iff.mpr c3
 subst c3
 replace H:=yn H
 obtain ⟨⟨t336,t337,t338⟩,A10,H⟩:=yo H
 try dsimp only at H
 simp only [Option.some.injEq,Prod.mk.injEq] at H
 obtain ⟨rfl,rfl,rfl⟩:=H
 go_enter Try.func146,Try.ntmps146
 go_wp2_with (first|((with_reducible refine gC 101 ?_);refine gM (some 4) Try.func101 (args:=#[.pointer (some ⟨g,0,none⟩), .int .i64 5]) (spec_l1Cur_one.calls g s0_0 s0_1 s0_2 5 false t328 t329 w0 _ ?side1 ?side2 A2.out) ?_;(case side1=>repeat (first|(with_reducible first|exact HI0.out|apply IsS127.alloc|apply IsS127.drewN|apply IsS127.drew|apply IsS127.set_1|apply IsS127.set_2)|exact HI0.out));(case side2=>repeat (first|(with_reducible first|exact HB.out|apply pa|apply pb|apply pd|refine pt ?_ (IsS127.ge HI0.out))|exact HB.out));rintro e w11 ⟨rfl,hi,hb,hk⟩;refine ⟨_,rfl,?_⟩;replace HK:=am (KeepBut.trans D4 hk (.inl rfl));replace HB:=am (hb);replace HI0:=am (hi);clear hb hk hi)|((with_reducible refine gC 95 ?_);refine gM (some 10) Try.func95 (args:=#[.pointer (some ⟨g,0,none⟩), .int .i64 256]) (spec_l1Cur_pick.calls g s0_0 t328 t329 256 t336 t337 t338 w0 _ ?side1 ?side2 A10.out) ?_;(case side1=>repeat (first|(with_reducible first|exact HI0.out|apply IsS127.alloc|apply IsS127.drewN|apply IsS127.drew|apply IsS127.set_1|apply IsS127.set_2)|exact HI0.out));(case side2=>repeat (first|(with_reducible first|exact HB.out|apply pa|apply pb|apply pd|refine pt ?_ (IsS127.ge HI0.out))|exact HB.out));rintro e w12 ⟨rfl,hi,hb,hk⟩;refine ⟨_,rfl,?_⟩;replace HK:=am (KeepBut.trans D4 hk (.inl rfl));replace HB:=am (hb);replace HI0:=am (hi);clear hb hk hi))
 go_ret
 exact ⟨D3,D9,D12,D4⟩

def spec_l1Cur_vector.l0:Nat→Int→List Int→List Int→Int→Int→Option (List Int × Int × Int)
 | 0,_,_,_,_,_=>none
 | k+1,x1,x5,x1000,x1001,x1002=>if x1 > 0 then ((spec_l1Cur_byte.f x1000 x1001 x1002).bind fun bt339=>(if x5.length < 140737488355328 then (spec_l1Cur_vector.l0 k (wrap64 (x1 - 1)) (x5 ++ [bt339.1]) x1000 bt339.2.1 bt339.2.2) else (none))) else (some (x5,x1001,x1002))
def spec_l1Cur_vector.f (k:Nat) (s0_0:List Int) (s0_1:Int) (s0_2:Int) (a1:Int):Option (List Int × Int × Int):=spec_l1Cur_vector.l0 k a1 ([]:List Int) s0_0 s0_1 s0_2
theorem spec_l1Cur_vector.mono_l:∀ k,(∀ y0 y1 y2 y3 y4,LeO (spec_l1Cur_vector.l0 k y0 y1 y2 y3 y4) (spec_l1Cur_vector.l0 (k+1) y0 y1 y2 y3 y4))
 | 0=>fun _ _ _ _ _ r h=>by simp [spec_l1Cur_vector.l0] at h
 | k+1=>by
  have ih0:=spec_l1Cur_vector.mono_l k
  intro y0 y1 y2 y3 y4
  unfold spec_l1Cur_vector.l0
  exact mm
theorem spec_l1Cur_vector.mono:∀ a0 a1 a2 a3 k,LeO (spec_l1Cur_vector.f k a0 a1 a2 a3) (spec_l1Cur_vector.f (k+1) a0 a1 a2 a3):=by
 intro a0 a1 a2 a3 k
 have ih0:=spec_l1Cur_vector.mono_l k
 unfold spec_l1Cur_vector.f
 exact mm
theorem spec_l1Cur_vector.calls (k:Nat) (g:Nat) (s0_0:List Int) (s0_1:Int) (s0_2:Int) (a1:Int) (r1:List Int) (r2:Int) (r3:Int) (w0 w:World) (hI:IsS127 w0 w g s0_0 s0_1 s0_2) (hB:Below w0.heap.size w0 w) (h:spec_l1Cur_vector.f k s0_0 s0_1 s0_2 a1=some (r1,r2,r3)) :
  Calls Try.prog 102 #[.pointer (some ⟨g,0,none⟩), .int .i64 a1] w fun e w'=>∃ v0_:Value,e = .returned (v0_)∧Kd.R (Kd.int .u8) 5 w' w.heap.size (fun _=>True) v0_ r1∧IsS127 w0 w' g s0_0 r2 r3∧Below w0.heap.size w0 w'∧KeepBut w w' g none:=by
 have HI0:=am hI
 have HK:=am (KeepBut.refl w g none)
 have HL:=am hB.size
 clear hI
 have HW0:=am hB.size
 have HB:=am hB
 clear hB
 have H:=h
 unfold spec_l1Cur_vector.f at H
 clear h
 have H':=am H
 clear H
 go_enter Try.func102,Try.ntmps102
 go_wp2
 go_loopg [1,5] k (fun kq v1 v5 w'=>∃ (x1_1:Int) (x5_1:List Int) (x1001_1:Int) (x1002_1:Int),v1 = .int .i64 x1_1∧Aside0 (spec_l1Cur_vector.l0 kq x1_1 x5_1 s0_0 x1001_1 x1002_1=some (r1,r2,r3))∧Aside0 (kq≤k)∧Aside0 (Kd.R (Kd.int .u8) 5 w' w.heap.size (fun _=>True) v5 x5_1)∧Aside0 (IsS127 w0 w' g s0_0 x1001_1 x1002_1)∧Aside0 (KeepBut w w' g none)∧Aside0 (Below w0.heap.size w0 w'))
 case atStart=>exact ⟨(a1),(([]:List Int)),(s0_1),(s0_2),D1,H',⟨Nat.le_refl _⟩,⟨D10⟩,⟨D9⟩,⟨D4⟩,⟨D12⟩⟩
 case round =>
  clear H'
  try clear c1
  try clear p2
  obtain ⟨x1_1,x5_1,x1001_1,x1002_1,rfl,HA,HK1,HO_5,HI0,HK,HB⟩:=hrel
  cases gk with
  | zero=>exact absurd HA.out (by simp [spec_l1Cur_vector.l0])
  | succ k1 =>
   have H:=HA.out
   clear HA
   simp only [spec_l1Cur_vector.l0] at H
   by_cases c3:x1_1 > 0
   ·rw [if_pos c3] at H
    have c3b0:decide (0 < x1_1)=true:=decide_eq_true c3
    clear c3
    obtain ⟨⟨t339,t340,t341⟩,A4,H⟩:=yo H
    try dsimp only at H
    obtain ⟨c5,H⟩:=yi H
    have LMc5:=am c5
    clear c5
    generalize hy342:(x5_1 ++ [t339]:List Int)=y342 at H
    have Ny342:=am hy342.symm
    clear hy342
    have H':=am H
    clear H
    go_wp2_with (first|((with_reducible refine gC 146 ?_);refine gM (some 12) Try.func146 (args:=#[.pointer (some ⟨g,0,none⟩)]) (spec_l1Cur_byte.calls g s0_0 x1001_1 x1002_1 t339 t340 t341 w0 _ ?side1 ?side2 A4.out) ?_;(case side1=>repeat (first|(with_reducible first|exact HI0.out|apply IsS127.alloc|apply IsS127.drewN|apply IsS127.drew|apply IsS127.set_1|apply IsS127.set_2)|exact HI0.out));(case side2=>repeat (first|(with_reducible first|exact HB.out|apply pa|apply pb|apply pd|refine pt ?_ (IsS127.ge HI0.out))|exact HB.out));rintro e w6 ⟨rfl,hi,hb,hk⟩;refine ⟨_,rfl,?_⟩;replace HO_5:=am (Kd.R_mono (Kd.R_keep (IsS127.apart (show IsS127 w0 _ g s0_0 x1001_1 x1002_1 from by repeat (first|(with_reducible first|exact HI0.out|apply IsS127.alloc|apply IsS127.drewN|apply IsS127.drew|apply IsS127.set_1|apply IsS127.set_2)|exact HI0.out)) (yR HO_5) D5) hk (fun _ h=>h.2)) (fun _ h=>h.1));replace HK:=am (KeepBut.trans D4 hk (.inl rfl));replace HB:=am (hb);replace HI0:=am (hi);clear hb hk hi)|((with_reducible refine gate_builtin (b:=.append) (xs:=#[.tmp 10, .tmp 13]) rfl ?_);at_builtin;refine Kd.R_append (Kd.int .u8) w.heap.size rfl (.tmp 10) (.tmp 13) 24 5 (.int .u8 0) 1 rfl Try.underlying24 info5 rfl D5 D13 u5 x5_1 t339 [.int .u8 t339] (fun _=>True) (fun _=>False) rfl rfl D98 (fun _ hk=>hk.elim) D43 (by exact (yR HO_5)) (Below.refl _ _) (by exact (keep_size (w:=w) (g:=g) (row:=none) D4)) (by have:=LMc5.out;omega) ?_;intro v343 w7 ho hb hg hat;rw [← Ny342.out] at ho;have n0_:=am (IsS127.grown D9 hg (IsS127.own_ne HI0.out HO_5.out D5));have n1_:=am (below_weaken D12 HL.out hb);have n2_:=am (KeepBut.trans D4 (KeepBut.of_grown hg g) (Kd.R_base2 HO_5.out));have n3_:=am (ho);clear HI0 HB HK HO_5;have HI0:=n0_;have HB:=n1_;have HK:=n2_;have HO344:=n3_;clear n0_ n1_ n2_ n3_ ho hb hg hat))
    go_roundg k1
    case measure=>have:=HK1.out;omega
    case rel=>exact ⟨(wrap64 (x1_1 - 1)),(y342),(t340),(t341),D1,H',⟨D38⟩,⟨yR HO344⟩,⟨D9⟩,⟨D4⟩,⟨D12⟩⟩
   rw [if_neg c3] at H
   have c3b0:decide (0 < x1_1)=false:=decide_eq_false c3
   clear c3
   simp only [Option.some.injEq,Prod.mk.injEq] at H
   obtain ⟨rfl,rfl,rfl⟩:=H
   go_wp2
   go_ret
   exact ⟨_,D3,yR HO_5,D9,D12,D4⟩
end Go.Proofs.Yteflgifmdojahaa.PFnRegenerated
-- SQUEEZED
