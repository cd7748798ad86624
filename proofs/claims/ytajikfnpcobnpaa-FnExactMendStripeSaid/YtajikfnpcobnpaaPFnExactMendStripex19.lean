-- Laid by a program of this session.
import Derived.Test.YtajikfnpcobnpaaVMendStripeB
import Derived.Test.YtajikfnpcobnpaaPFnExactMendStripex0
namespace Go.Proofs.Ytajikfnpcobnpaa.PFnExactMendStripe
open Go.RowKit Go.Proofs.YtajikfnpcobnpaaW.PrintWords Go.Proofs.YtajikfnpcobnpaaW.PrintLast Go.Proofs.YtajikfnpcobnpaaW.PrintMore Go.Proofs.Ytajikfnpcobnpaa.KitS
attribute [local go_sem] max2_int min2_int max_two min_two max_three min_three max_four min_four   -- for this text's walks alone
set_option linter.unusedVariables false
set_option maxHeartbeats 8000000
set_option maxRecDepth 100000
set_option linter.unusedSimpArgs false

def laws_eqStringS.l0:Nat→List ByteArray→List ByteArray→Int→Option (Bool)
 | 0,_,_,_=>none
 | k+1,x0,x1,x5=>if x5 < (x0.length:Int) then (if 0≤x5 then (if x5 < (x1.length:Int) then (if (rdOf ByteArray.empty x0 x5).toList=(rdOf ByteArray.empty x1 x5).toList then (laws_eqStringS.l0 k x0 x1 (wrap64 (x5+1))) else (some false)) else (none)) else (none)) else (some true)
def laws_eqStringS.f (k:Nat) (l0:List ByteArray) (l1:List ByteArray):Option (Bool):=if (l0.length:Int)=(l1.length:Int) then (laws_eqStringS.l0 k l0 l1 0) else (some false)
theorem laws_eqStringS.mono_l:∀ k,(∀ y0 y1 y2,LeO (laws_eqStringS.l0 k y0 y1 y2) (laws_eqStringS.l0 (k+1) y0 y1 y2))
 | 0=>fun _ _ _ r h=>by simp [laws_eqStringS.l0] at h
 | k+1=>by
  have ih0:=laws_eqStringS.mono_l k
  intro y0 y1 y2
  unfold laws_eqStringS.l0
  exact mm
theorem laws_eqStringS.mono:∀ a0 a1 k,LeO (laws_eqStringS.f k a0 a1) (laws_eqStringS.f (k+1) a0 a1):=by
 intro a0 a1 k
 have ih0:=laws_eqStringS.mono_l k
 unfold laws_eqStringS.f
 exact mm
theorem laws_eqStringS.calls (k:Nat) (A0:Option Addr) (c0:Nat) (l0:List ByteArray) (A1:Option Addr) (c1:Nat) (l1:List ByteArray) (r:Bool) (w:World) (hr0:Kd.C Kd.string w A0 l0.length l0) (hc0:l0.length≤c0) (hr1:Kd.C Kd.string w A1 l1.length l1) (hc1:l1.length≤c1) (h:laws_eqStringS.f k l0 l1=some r) :
  Calls Try.prog 63 #[.slice A0 l0.length c0, .slice A1 l1.length c1] w fun e w'=>e = .returned (.bool r)∧Drawn0 w w':=by
 have HR0:=am hr0
 have HC0:=am hc0
 clear hr0 hc0
 have HR1:=am hr1
 have HC1:=am hc1
 clear hr1 hc1
 have H:=h
 unfold laws_eqStringS.f at H
 clear h
 by_cases c3:(l0.length:Int)=(l1.length:Int)
 ·rw [if_pos c3] at H
  have c3b0:((l0.length:Int) == (l1.length:Int))=true:=beq_iff_eq.mpr c3
  have c3b1:((l0.length:Int) != (l1.length:Int))=false:=bne_eq_false_iff_eq.mpr c3
  have c3b2:(l0.length == l1.length)=true:=by first|simpa using c3|(simp at c3 ⊢;omega)
  clear c3
  have H':=am H
  clear H
  go_enter Try.func63,Try.ntmps63
  go_wp2
  repeat (go_quiet (fail);try go_wp2)
  go_loopg [5] k (fun kq v5 w'=>∃ (x5_1:Int),v5 = .int .i64 x5_1∧Aside0 (laws_eqStringS.l0 kq l0 l1 x5_1=some r)∧Aside0 (kq≤k)∧Drawn0 w w')
  case atStart=>exact ⟨(0),D1,H',⟨Nat.le_refl _⟩,D5⟩
  case round =>
   clear H'
   try clear c1
   try clear p2
   try clear c3
   try clear c3b0
   try clear c3b1
   try clear c3b2
   obtain ⟨x5_1,rfl,HA,HK1,⟨m1,rfl⟩⟩:=hrel
   cases gk with
   | zero=>exact absurd HA.out (by simp [laws_eqStringS.l0])
   | succ k1 =>
    have H:=HA.out
    clear HA
    simp only [laws_eqStringS.l0] at H
    by_cases c4:x5_1 < (l0.length:Int)
    ·rw [if_pos c4] at H
     have c4b0:=decide_eq_true c4
     clear c4
     obtain ⟨c5,H⟩:=yi H
     have c5b0:=decide_eq_true c5
     clear c5
     obtain ⟨c6,H⟩:=yi H
     have c6b0:=decide_eq_true c6
     clear c6
     by_cases c7:(rdOf ByteArray.empty l0 x5_1).toList=(rdOf ByteArray.empty l1 x5_1).toList
     ·rw [if_pos c7] at H
      have c7b0:((rdOf ByteArray.empty l0 x5_1).toList == (rdOf ByteArray.empty l1 x5_1).toList)=true:=beq_iff_eq.mpr c7
      have c7b1:((rdOf ByteArray.empty l0 x5_1).toList != (rdOf ByteArray.empty l1 x5_1).toList)=false:=bne_eq_false_iff_eq.mpr c7
      clear c7
      have H':=am H
      clear H
      have p360:0≤(x5_1:Int):=od D0
      have q360:x5_1 < (l0.length:Int):=od D0
      obtain ⟨ad360,e360,hx360_0⟩:=Kd.at_string HR0.out x5_1 p360 q360
      cases e360
      replace p360:=eq_true p360
      replace q360:=eq_true q360
      have p361:0≤(x5_1:Int):=od D0
      have q361:x5_1 < (l1.length:Int):=od D0
      obtain ⟨ad361,e361,hx361_0⟩:=Kd.at_string HR1.out x5_1 p361 q361
      cases e361
      replace p361:=eq_true p361
      replace q361:=eq_true q361
      go_wp2
      repeat (go_quiet (fail);try go_wp2)
      go_roundg k1
      case measure=>have:=HK1.out;omega
      case rel=>exact ⟨(wrap64 (x5_1+1)),D1,H',⟨D17⟩,D5⟩
     rw [if_neg c7] at H
     have c7b0:((rdOf ByteArray.empty l0 x5_1).toList == (rdOf ByteArray.empty l1 x5_1).toList)=false:=beq_eq_false_iff_ne.mpr c7
     have c7b1:((rdOf ByteArray.empty l0 x5_1).toList != (rdOf ByteArray.empty l1 x5_1).toList)=true:=bne_iff_ne.mpr c7
     obtain rfl:=Option.some.inj H
     have p360:0≤(x5_1:Int):=od D0
     have q360:x5_1 < (l0.length:Int):=od D0
     obtain ⟨ad360,e360,hx360_0⟩:=Kd.at_string HR0.out x5_1 p360 q360
     cases e360
     replace p360:=eq_true p360
     replace q360:=eq_true q360
     have p361:0≤(x5_1:Int):=od D0
     have q361:x5_1 < (l1.length:Int):=od D0
     obtain ⟨ad361,e361,hx361_0⟩:=Kd.at_string HR1.out x5_1 p361 q361
     cases e361
     replace p361:=eq_true p361
     replace q361:=eq_true q361
     go_wp2
     repeat (go_quiet (fail);try go_wp2)
     go_ret
     exact ⟨D1,D5⟩
    rw [if_neg c4] at H
    have c4b0:=decide_eq_false c4
    clear c4
    obtain rfl:=Option.some.inj H
    go_wp2
    repeat (go_quiet (fail);try go_wp2)
    go_ret
    exact ⟨D1,D5⟩
 rw [if_neg c3] at H
 have c3b0:((l0.length:Int) == (l1.length:Int))=false:=beq_eq_false_iff_ne.mpr c3
 have c3b1:((l0.length:Int) != (l1.length:Int))=true:=bne_iff_ne.mpr c3
 have c3b2:(l0.length == l1.length)=false:=by first|simpa using c3|(simp at c3 ⊢;omega)
 obtain rfl:=Option.some.inj H
 go_enter Try.func63,Try.ntmps63
 go_wp2
 repeat (go_quiet (fail);try go_wp2)
 go_ret
 exact ⟨D1,D5⟩

def laws_eqStripe.f (k:Nat) (l0_0:List ByteArray) (l0_1:List ByteArray) (l1_0:List ByteArray) (l1_1:List ByteArray):Option (Bool):=(laws_eqStringS.f k l0_0 l1_0).bind fun t364=>(if t364=true then ((laws_eqStringS.f k l0_1 l1_1).bind fun t365=>(if t365=true then (some true) else (some false))) else (some false))
theorem laws_eqStripe.mono:∀ a0 a1 a2 a3 k,LeO (laws_eqStripe.f k a0 a1 a2 a3) (laws_eqStripe.f (k+1) a0 a1 a2 a3):=by
 intro a0 a1 a2 a3 k
 unfold laws_eqStripe.f
 exact mm
theorem laws_eqStripe.calls (k:Nat) (A0_0:Option Addr) (c0_0:Nat) (l0_0:List ByteArray) (A0_1:Option Addr) (c0_1:Nat) (l0_1:List ByteArray) (A1_0:Option Addr) (c1_0:Nat) (l1_0:List ByteArray) (A1_1:Option Addr) (c1_1:Nat) (l1_1:List ByteArray) (r:Bool) (w:World) (hr0_0:Kd.C Kd.string w A0_0 l0_0.length l0_0) (hc0_0:l0_0.length≤c0_0) (hr0_1:Kd.C Kd.string w A0_1 l0_1.length l0_1) (hc0_1:l0_1.length≤c0_1) (hr1_0:Kd.C Kd.string w A1_0 l1_0.length l1_0) (hc1_0:l1_0.length≤c1_0) (hr1_1:Kd.C Kd.string w A1_1 l1_1.length l1_1) (hc1_1:l1_1.length≤c1_1) (h:laws_eqStripe.f k l0_0 l0_1 l1_0 l1_1=some r) :
  Calls Try.prog 20 #[.agg #[.slice A0_0 l0_0.length c0_0, .slice A0_1 l0_1.length c0_1], .agg #[.slice A1_0 l1_0.length c1_0, .slice A1_1 l1_1.length c1_1]] w fun e w'=>e = .returned (.bool r)∧Below w.heap.size w w':=by
 have hu27:=Try.underlying27
 have HR0_0:=am hr0_0
 have HC0_0:=am hc0_0
 clear hr0_0 hc0_0
 have HR0_1:=am hr0_1
 have HC0_1:=am hc0_1
 clear hr0_1 hc0_1
 have HR1_0:=am hr1_0
 have HC1_0:=am hc1_0
 clear hr1_0 hc1_0
 have HR1_1:=am hr1_1
 have HC1_1:=am hc1_1
 clear hr1_1 hc1_1
 have HB:=am (Below.refl w.heap.size w)
 have H:=h
 unfold laws_eqStripe.f at H
 clear h
 obtain ⟨t364,A3,H⟩:=yo H
 by_cases c4:t364=true
 ·subst c4
  replace H:=yt H
  obtain ⟨t365,A5,H⟩:=yo H
  by_cases c6:t365=true
  ·subst c6
   replace H:=yt H
   obtain rfl:=Option.some.inj H
   go_enter Try.func20,Try.ntmps20
   go_wp2_with (first|(refine gD 2 ?_;refine gB (cs:=#[.slice A0_0 l0_0.length c0_0, .slice A0_1 l0_1.length c0_1]) 27 ?_;intro gb362 hg w7 hbox hb;have BK362:=am (hbox);have GW362:=ye HB hg;replace HB:=yH HB hb;have GE362:=GW362;clear hb hbox hg)|(refine gD 3 ?_;refine gB (cs:=#[.slice A1_0 l1_0.length c1_0, .slice A1_1 l1_1.length c1_1]) 27 ?_;intro gb363 hg w8 hbox hb;have BK363:=am (hbox);have GW363:=ye HB hg;replace HB:=yH HB hb;have NB362_363:=yl BK362 hg;have NB363_362:=yg BK362 hg;replace BK362:=yb BK362 hb;have GE363:=GW363;clear hb hbox hg;have hnb9:=NB362_363.out;have hnc9:=NB363_362.out;obtain ⟨hcz10_0,hcz10_1,hfz10_0,hfz10_1⟩:=yk2 BK362;obtain ⟨hcz11_0,hcz11_1,hfz11_0,hfz11_1⟩:=yk2 BK363)|(refine gC 63 ?_;refine gM (some 9) Try.func63 (args:=#[.slice A0_0 l0_0.length c0_0, .slice A1_0 l1_0.length c1_0]) (laws_eqStringS.calls k _ _ l0_0 _ _ l1_0 true _ (yc (Kd.C_below HR0_0.out HB.out)) HC0_0.out (yc (Kd.C_below HR1_0.out HB.out)) HC1_0.out A3.out) ?_;rintro e w' ⟨rfl,⟨nd,rfl⟩⟩;refine ⟨_,rfl,?_⟩)|(refine gC 63 ?_;refine gM (some 15) Try.func63 (args:=#[.slice A0_1 l0_1.length c0_1, .slice A1_1 l1_1.length c1_1]) (laws_eqStringS.calls k _ _ l0_1 _ _ l1_1 true _ (yc (Kd.C_below HR0_1.out (yW HB))) HC0_1.out (yc (Kd.C_below HR1_1.out (yW HB))) HC1_1.out A5.out) ?_;rintro e w' ⟨rfl,⟨nd,rfl⟩⟩;refine ⟨_,rfl,?_⟩))
   go_ret
   exact ⟨D3,yW HB⟩
  replace c6:=Bool.eq_false_iff.mpr c6
  subst c6
  replace H:=yn H
  obtain rfl:=Option.some.inj H
  go_enter Try.func20,Try.ntmps20
  go_wp2_with (first|(refine gD 2 ?_;refine gB (cs:=#[.slice A0_0 l0_0.length c0_0, .slice A0_1 l0_1.length c0_1]) 27 ?_;intro gb362 hg w12 hbox hb;have BK362:=am (hbox);have GW362:=ye HB hg;replace HB:=yH HB hb;have GE362:=GW362;clear hb hbox hg)|(refine gD 3 ?_;refine gB (cs:=#[.slice A1_0 l1_0.length c1_0, .slice A1_1 l1_1.length c1_1]) 27 ?_;intro gb363 hg w13 hbox hb;have BK363:=am (hbox);have GW363:=ye HB hg;replace HB:=yH HB hb;have NB362_363:=yl BK362 hg;have NB363_362:=yg BK362 hg;replace BK362:=yb BK362 hb;have GE363:=GW363;clear hb hbox hg;have hnb14:=NB362_363.out;have hnc14:=NB363_362.out;obtain ⟨hcz15_0,hcz15_1,hfz15_0,hfz15_1⟩:=yk2 BK362;obtain ⟨hcz16_0,hcz16_1,hfz16_0,hfz16_1⟩:=yk2 BK363)|(refine gC 63 ?_;refine gM (some 9) Try.func63 (args:=#[.slice A0_0 l0_0.length c0_0, .slice A1_0 l1_0.length c1_0]) (laws_eqStringS.calls k _ _ l0_0 _ _ l1_0 true _ (yc (Kd.C_below HR0_0.out HB.out)) HC0_0.out (yc (Kd.C_below HR1_0.out HB.out)) HC1_0.out A3.out) ?_;rintro e w' ⟨rfl,⟨nd,rfl⟩⟩;refine ⟨_,rfl,?_⟩)|(refine gC 63 ?_;refine gM (some 15) Try.func63 (args:=#[.slice A0_1 l0_1.length c0_1, .slice A1_1 l1_1.length c1_1]) (laws_eqStringS.calls k _ _ l0_1 _ _ l1_1 false _ (yc (Kd.C_below HR0_1.out (yW HB))) HC0_1.out (yc (Kd.C_below HR1_1.out (yW HB))) HC1_1.out A5.out) ?_;rintro e w' ⟨rfl,⟨nd,rfl⟩⟩;refine ⟨_,rfl,?_⟩))
  go_ret
  exact ⟨D3,yW HB⟩
 replace c4:=Bool.eq_false_iff.mpr c4
 subst c4
 replace H:=yn H
 obtain rfl:=Option.some.inj H
 go_enter Try.func20,Try.ntmps20
 go_wp2_with (first|(refine gD 2 ?_;refine gB (cs:=#[.slice A0_0 l0_0.length c0_0, .slice A0_1 l0_1.length c0_1]) 27 ?_;intro gb362 hg w17 hbox hb;have BK362:=am (hbox);have GW362:=ye HB hg;replace HB:=yH HB hb;have GE362:=GW362;clear hb hbox hg)|(refine gD 3 ?_;refine gB (cs:=#[.slice A1_0 l1_0.length c1_0, .slice A1_1 l1_1.length c1_1]) 27 ?_;intro gb363 hg w18 hbox hb;have BK363:=am (hbox);have GW363:=ye HB hg;replace HB:=yH HB hb;have NB362_363:=yl BK362 hg;have NB363_362:=yg BK362 hg;replace BK362:=yb BK362 hb;have GE363:=GW363;clear hb hbox hg;have hnb19:=NB362_363.out;have hnc19:=NB363_362.out;obtain ⟨hcz20_0,hcz20_1,hfz20_0,hfz20_1⟩:=yk2 BK362;obtain ⟨hcz21_0,hcz21_1,hfz21_0,hfz21_1⟩:=yk2 BK363)|(refine gC 63 ?_;refine gM (some 9) Try.func63 (args:=#[.slice A0_0 l0_0.length c0_0, .slice A1_0 l1_0.length c1_0]) (laws_eqStringS.calls k _ _ l0_0 _ _ l1_0 false _ (yc (Kd.C_below HR0_0.out HB.out)) HC0_0.out (yc (Kd.C_below HR1_0.out HB.out)) HC1_0.out A3.out) ?_;rintro e w' ⟨rfl,⟨nd,rfl⟩⟩;refine ⟨_,rfl,?_⟩))
 go_ret
 exact ⟨D3,yW HB⟩

def laws_eqIntS.l0:Nat→List Int→List Int→Int→Option (Bool)
 | 0,_,_,_=>none
 | k+1,x0,x1,x5=>if x5 < (x0.length:Int) then (if 0≤x5 then (if x5 < (x1.length:Int) then (if (rd x0 x5)=(rd x1 x5) then (laws_eqIntS.l0 k x0 x1 (wrap64 (x5+1))) else (some false)) else (none)) else (none)) else (some true)
def laws_eqIntS.f (k:Nat) (l0:List Int) (l1:List Int):Option (Bool):=if (l0.length:Int)=(l1.length:Int) then (laws_eqIntS.l0 k l0 l1 0) else (some false)
theorem laws_eqIntS.mono_l:∀ k,(∀ y0 y1 y2,LeO (laws_eqIntS.l0 k y0 y1 y2) (laws_eqIntS.l0 (k+1) y0 y1 y2))
 | 0=>fun _ _ _ r h=>by simp [laws_eqIntS.l0] at h
 | k+1=>by
  have ih0:=laws_eqIntS.mono_l k
  intro y0 y1 y2
  unfold laws_eqIntS.l0
  exact mm
theorem laws_eqIntS.mono:∀ a0 a1 k,LeO (laws_eqIntS.f k a0 a1) (laws_eqIntS.f (k+1) a0 a1):=by
 intro a0 a1 k
 have ih0:=laws_eqIntS.mono_l k
 unfold laws_eqIntS.f
 exact mm
theorem laws_eqIntS.calls (k:Nat) (A0:Option Addr) (c0:Nat) (l0:List Int) (A1:Option Addr) (c1:Nat) (l1:List Int) (r:Bool) (w:World) (hr0:Kd.C (Kd.int .i64) w A0 l0.length l0) (hc0:l0.length≤c0) (hr1:Kd.C (Kd.int .i64) w A1 l1.length l1) (hc1:l1.length≤c1) (h:laws_eqIntS.f k l0 l1=some r) :
  Calls Try.prog 21 #[.slice A0 l0.length c0, .slice A1 l1.length c1] w fun e w'=>e = .returned (.bool r)∧Drawn0 w w':=by
 have HR0:=am hr0
 have HC0:=am hc0
 clear hr0 hc0
 have HR1:=am hr1
 have HC1:=am hc1
 clear hr1 hc1
 have H:=h
 unfold laws_eqIntS.f at H
 clear h
 by_cases c3:(l0.length:Int)=(l1.length:Int)
 ·rw [if_pos c3] at H
  have c3b0:((l0.length:Int) == (l1.length:Int))=true:=beq_iff_eq.mpr c3
  have c3b1:((l0.length:Int) != (l1.length:Int))=false:=bne_eq_false_iff_eq.mpr c3
  have c3b2:(l0.length == l1.length)=true:=by first|simpa using c3|(simp at c3 ⊢;omega)
  clear c3
  have H':=am H
  clear H
  go_enter Try.func21,Try.ntmps21
  go_wp2
  repeat (go_quiet (fail);try go_wp2)
  go_loopg [5] k (fun kq v5 w'=>∃ (x5_1:Int),v5 = .int .i64 x5_1∧Aside0 (laws_eqIntS.l0 kq l0 l1 x5_1=some r)∧Aside0 (kq≤k)∧Drawn0 w w')
  case atStart=>exact ⟨(0),D1,H',⟨Nat.le_refl _⟩,D5⟩
  case round =>
   clear H'
   try clear c1
   try clear c2
   try clear p2
   try clear c3
   try clear c3b0
   try clear c3b1
   try clear c3b2
   obtain ⟨x5_1,rfl,HA,HK1,⟨m1,rfl⟩⟩:=hrel
   cases gk with
   | zero=>exact absurd HA.out (by simp [laws_eqIntS.l0])
   | succ k1 =>
    have H:=HA.out
    clear HA
    simp only [laws_eqIntS.l0] at H
    by_cases c4:x5_1 < (l0.length:Int)
    ·rw [if_pos c4] at H
     have c4b0:=decide_eq_true c4
     clear c4
     obtain ⟨c5,H⟩:=yi H
     have c5b0:=decide_eq_true c5
     clear c5
     obtain ⟨c6,H⟩:=yi H
     have c6b0:=decide_eq_true c6
     clear c6
     by_cases c7:(rd l0 x5_1)=(rd l1 x5_1)
     ·rw [if_pos c7] at H
      have c7b0:((rd l0 x5_1) == (rd l1 x5_1))=true:=beq_iff_eq.mpr c7
      have c7b1:((rd l0 x5_1) != (rd l1 x5_1))=false:=bne_eq_false_iff_eq.mpr c7
      clear c7
      have H':=am H
      clear H
      have p366:0≤(x5_1:Int):=od D0
      have q366:x5_1 < (l0.length:Int):=od D0
      obtain ⟨ad366,e366,hx366_0⟩:=Kd.at_int HR0.out x5_1 p366 q366
      cases e366
      replace p366:=eq_true p366
      replace q366:=eq_true q366
      have p367:0≤(x5_1:Int):=od D0
      have q367:x5_1 < (l1.length:Int):=od D0
      obtain ⟨ad367,e367,hx367_0⟩:=Kd.at_int HR1.out x5_1 p367 q367
      cases e367
      replace p367:=eq_true p367
      replace q367:=eq_true q367
      go_wp2
      repeat (go_quiet (fail);try go_wp2)
      go_roundg k1
      case measure=>have:=HK1.out;omega
      case rel=>exact ⟨(wrap64 (x5_1+1)),D1,H',⟨D17⟩,D5⟩
     rw [if_neg c7] at H
     have c7b0:((rd l0 x5_1) == (rd l1 x5_1))=false:=beq_eq_false_iff_ne.mpr c7
     have c7b1:((rd l0 x5_1) != (rd l1 x5_1))=true:=bne_iff_ne.mpr c7
     obtain rfl:=Option.some.inj H
     have p366:0≤(x5_1:Int):=od D0
     have q366:x5_1 < (l0.length:Int):=od D0
     obtain ⟨ad366,e366,hx366_0⟩:=Kd.at_int HR0.out x5_1 p366 q366
     cases e366
     replace p366:=eq_true p366
     replace q366:=eq_true q366
     have p367:0≤(x5_1:Int):=od D0
     have q367:x5_1 < (l1.length:Int):=od D0
     obtain ⟨ad367,e367,hx367_0⟩:=Kd.at_int HR1.out x5_1 p367 q367
     cases e367
     replace p367:=eq_true p367
     replace q367:=eq_true q367
     go_wp2
     repeat (go_quiet (fail);try go_wp2)
     go_ret
     exact ⟨D1,D5⟩
    rw [if_neg c4] at H
    have c4b0:=decide_eq_false c4
    clear c4
    obtain rfl:=Option.some.inj H
    go_wp2
    repeat (go_quiet (fail);try go_wp2)
    go_ret
    exact ⟨D1,D5⟩
 rw [if_neg c3] at H
 have c3b0:((l0.length:Int) == (l1.length:Int))=false:=beq_eq_false_iff_ne.mpr c3
 have c3b1:((l0.length:Int) != (l1.length:Int))=true:=bne_iff_ne.mpr c3
 have c3b2:(l0.length == l1.length)=false:=by first|simpa using c3|(simp at c3 ⊢;omega)
 obtain rfl:=Option.some.inj H
 go_enter Try.func21,Try.ntmps21
 go_wp2
 repeat (go_quiet (fail);try go_wp2)
 go_ret
 exact ⟨D1,D5⟩

def laws_markText.l0:Nat→Int→ByteArray→Option (ByteArray)
 | 0,_,_=>none
 | k+1,x0,x3=>if x0 > 0 then ((some (([(wrap64 (48+(Int.tmod x0 10))) % 256]:List Int):List Int)).bind fun y368=>(if (strOfNums y368).size+x3.size≤9223372036854775807 then (laws_markText.l0 k (wrap64 (Int.tdiv x0 10)) ((strOfNums y368) ++ x3)) else (none))) else (if 1+x3.size≤9223372036854775807 then (some ((⟨#[109]⟩:ByteArray) ++ x3)) else (none))
def laws_markText.f (k:Nat) (a0:Int):Option (ByteArray):=if a0≤0 then (some (⟨#[109,48]⟩:ByteArray)) else (laws_markText.l0 k a0 (⟨#[]⟩:ByteArray))
theorem laws_markText.mono_l:∀ k,(∀ y0 y1,LeO (laws_markText.l0 k y0 y1) (laws_markText.l0 (k+1) y0 y1))
 | 0=>fun _ _ r h=>by simp [laws_markText.l0] at h
 | k+1=>by
  have ih0:=laws_markText.mono_l k
  intro y0 y1
  unfold laws_markText.l0
  exact mm
theorem laws_markText.mono:∀ a0 k,LeO (laws_markText.f k a0) (laws_markText.f (k+1) a0):=by
 intro a0 k
 have ih0:=laws_markText.mono_l k
 unfold laws_markText.f
 exact mm
theorem laws_markText.calls (k:Nat) (a0:Int) (r:ByteArray) (w:World) (h:laws_markText.f k a0=some r) :
  Calls Try.prog 147 #[.int .i64 a0] w fun e w'=>e = .returned (.string r)∧Below w.heap.size w w':=by
 have HB:=am (Below.refl w.heap.size w)
 have H:=h
 unfold laws_markText.f at H
 clear h
 by_cases c2:a0≤0
 ·rw [if_pos c2] at H
  have c2b0:=decide_eq_true c2
  clear c2
  obtain rfl:=Option.some.inj H
  go_enter Try.func147,Try.ntmps147
  go_wp2
  go_ret
  exact ⟨D3,yW HB⟩
 rw [if_neg c2] at H
 have c2b0:=decide_eq_false c2
 clear c2
 have H':=am H
 clear H
 go_enter Try.func147,Try.ntmps147
 go_wp2
 go_loopg [0,3] k (fun kq v0 v3 w'=>∃ (x0_1:Int) (x3_1:ByteArray),v0 = .int .i64 x0_1∧v3 = .string x3_1∧Aside0 (laws_markText.l0 kq x0_1 x3_1=some r)∧Aside0 (kq≤k)∧Aside0 (Below w.heap.size w w'))
 case atStart=>exact ⟨(a0),((⟨#[]⟩:ByteArray)),D1,D1,H',⟨Nat.le_refl _⟩,⟨yW HB⟩⟩
 case round =>
  clear H'
  try clear c1
  try clear c2
  try clear c2b0
  try clear p2
  obtain ⟨x0_1,x3_1,rfl,rfl,HA,HK1,HB⟩:=hrel
  cases gk with
  | zero=>exact absurd HA.out (by simp [laws_markText.l0])
  | succ k1 =>
   have H:=HA.out
   clear HA
   simp only [laws_markText.l0] at H
   by_cases c3:x0_1 > 0
   ·rw [if_pos c3] at H
    have c3b0:decide (0 < x0_1)=true:=decide_eq_true c3
    clear c3
    obtain ⟨y368,hy368,H⟩:=ys H
    have Ny368:=am hy368
    clear hy368
    obtain ⟨c4,H⟩:=yi H
    have c4b0:=eq_true c4
    have c4b1:decide ((strOfNums y368).size+x3_1.size≤9223372036854775807)=true:=decide_eq_true c4
    try have c4b2:(9223372036854775807 < (strOfNums y368).size+x3_1.size)=False:=eq_false (Nat.not_lt.2 c4)
    have H':=am H
    clear H
    go_wp2_with (first|(refine gD 12 ?_;refine Kd.R_lit (Kd.int .u8) _ 5 D10 (N:=12) D10 (xs:=([(wrap64 (48+(Int.tmod x0_1 10))) % 256]:List Int)) (inner:=[.int .u8 ((wrap64 (48+(Int.tmod x0_1 10))) % 256)]) (ok:=fun _=>True) (okp:=fun _=>True) D19 (by exact (Reps.one (show Kd.M (Kd.int .u8) _ _ _ ((wrap64 (48+(Int.tmod x0_1 10))) % 256) [.int .u8 ((wrap64 (48+(Int.tmod x0_1 10))) % 256)] from rfl) (Reps.none _ _))) (fun _ hk=>hk) trivial (Below.refl _ _) (Nat.le_refl _) D38 ?_;intro v369 w5 ho6 hb hg_ hnew_;clear hg_ hnew_;(first|rw [← Ny368.out] at ho6|(simp only [Int.reduceToNat] at ho6;rw [← Ny368.out] at ho6));have HO370:=am (Kd.R_lower ho6 (pz (yW HB)));replace HB:=yH HB hb;clear hb ho6;have hcv7:=own_string (P:=Try.prog) Try.underlying57 Try.underlying5 Try.underlying9 (Kd.own_of_R HO370.out)))
    go_roundg k1
    case measure=>have:=HK1.out;omega
    case rel=>exact ⟨(wrap64 (Int.tdiv x0_1 10)),((strOfNums y368) ++ x3_1),D1,D1,H',⟨D17⟩,⟨yW HB⟩⟩
   rw [if_neg c3] at H
   have c3b0:decide (0 < x0_1)=false:=decide_eq_false c3
   clear c3
   by_cases c8:1+x3_1.size≤9223372036854775807
   ·rw [if_pos c8] at H
    have c8b0:=eq_true c8
    have c8b1:decide (1+x3_1.size≤9223372036854775807)=true:=decide_eq_true c8
    try have c8b2:(9223372036854775807 < 1+x3_1.size)=False:=eq_false (Nat.not_lt.2 c8)
    obtain rfl:=Option.some.inj H
    go_wp2
    go_ret
    exact ⟨D3,yW HB⟩
   rw [if_neg c8] at H
   exact absurd H D38

def laws_markStringS.l0:Nat→List ByteArray→Int→Int→Option (Int × List ByteArray)
 | 0,_,_,_=>none
 | k+1,x0,x1,x5=>if x5 < (x0.length:Int) then ((laws_markText.f k x1).bind fun t371=>(if 0≤x5 then (laws_markStringS.l0 k (x0.set (x5:Int).toNat t371) (wrap64 (x1+1)) (wrap64 (x5+1))) else (none))) else (some (x1,x0))
def laws_markStringS.f (k:Nat) (l0:List ByteArray) (a1:Int):Option (Int × List ByteArray):=laws_markStringS.l0 k l0 a1 0
theorem laws_markStringS.mono_l:∀ k,(∀ y0 y1 y2,LeO (laws_markStringS.l0 k y0 y1 y2) (laws_markStringS.l0 (k+1) y0 y1 y2))
 | 0=>fun _ _ _ r h=>by simp [laws_markStringS.l0] at h
 | k+1=>by
  have ih0:=laws_markStringS.mono_l k
  intro y0 y1 y2
  unfold laws_markStringS.l0
  exact mm
theorem laws_markStringS.mono:∀ a0 a1 k,LeO (laws_markStringS.f k a0 a1) (laws_markStringS.f (k+1) a0 a1):=by
 intro a0 a1 k
 have ih0:=laws_markStringS.mono_l k
 unfold laws_markStringS.f
 exact mm
theorem laws_markStringS.calls (k:Nat) (P0_:Nat→Prop) (u9000_:Value) (l0:List ByteArray) (a1:Int) (r1:Int) (r2:List ByteArray) (w0 w:World) (hB:Below w0.heap.size w0 w) (ho0:Kd.R Kd.string 9 w w0.heap.size P0_ u9000_ l0) (h:laws_markStringS.f k l0 a1=some (r1,r2)) :
  Calls Try.prog 65 #[u9000_, .int .i64 a1] w fun e w'=>e = .returned (.int .i64 r1)∧Kd.R Kd.string 9 w' w0.heap.size (fun k_=>(P0_ k_∨w.heap.size≤k_)) u9000_ r2∧Below w0.heap.size w0 w'∧Kept w w' (fun k_=>P0_ k_):=by
 have HO0:=am (show Kd.R Kd.string 9 w w0.heap.size (fun k_=>(P0_ k_∨w.heap.size≤k_)) u9000_ l0 from Kd.R_mono ho0 (fun k_ hk=>(.inl hk)))
 have HK:=am (Kept.refl w (fun k_=>P0_ k_))
 have HW0:=am hB.size
 have HB:=am hB
 clear hB
 have H:=h
 unfold laws_markStringS.f at H
 clear h
 have H':=am H
 clear H
 go_enter Try.func65,Try.ntmps65
 go_wp2
 go_loopg [1,5] k (fun kq v1 v5 w'=>∃ (x0_1:List ByteArray) (x1_1:Int) (x5_1:Int),v1 = .int .i64 x1_1∧v5 = .int .i64 x5_1∧Aside0 (laws_markStringS.l0 kq x0_1 x1_1 x5_1=some (r1,r2))∧Aside0 (kq≤k)∧Aside0 (Kd.R Kd.string 9 w' w0.heap.size (fun k_=>(P0_ k_∨w.heap.size≤k_)) u9000_ x0_1)∧Aside0 (Kept w w' (fun k_=>P0_ k_))∧Aside0 (Below w0.heap.size w0 w'))
 case atStart=>exact ⟨(l0),(a1),(0),D1,D1,H',⟨Nat.le_refl _⟩,⟨yR HO0⟩,⟨D12⟩,⟨yW HB⟩⟩
 case round =>
  clear H'
  try clear p2
  obtain ⟨x0_1,x1_1,x5_1,rfl,rfl,HA,HK1,HO_0,HK,HB⟩:=hrel
  cases gk with
  | zero=>exact absurd HA.out (by simp [laws_markStringS.l0])
  | succ k1 =>
   have H:=HA.out
   clear HA
   simp only [laws_markStringS.l0] at H
   by_cases c3:x5_1 < (x0_1.length:Int)
   ·rw [if_pos c3] at H
    have c3b0:=decide_eq_true c3
    clear c3
    obtain ⟨t371,A4,H⟩:=yo H
    obtain ⟨c5,H⟩:=yi H
    have c5b0:=decide_eq_true c5
    clear c5
    generalize hy372:(x0_1.set (x5_1:Int).toNat t371:List ByteArray)=y372 at H
    have Ny372:=am hy372.symm
    clear hy372
    have H':=am H
    clear H
    obtain ⟨Ao7,co7,eo7⟩:=Kd.R_slice HO_0.out
    subst eo7
    go_wp2_with (first|(refine gC 147 ?_;refine gM (some 15) Try.func147 (args:=#[.int .i64 x1_1]) (laws_markText.calls k1 x1_1 t371 _ A4.out) ?_;rintro e w8 ⟨rfl,hb⟩;refine ⟨_,rfl,?_⟩;replace HO_0:=bR HO_0 hb;replace HK:=am (Kept.below (S:=(fun k_=>P0_ k_)) D12 hb);replace HB:=yH HB hb;clear hb;have p6:0≤(x5_1:Int):=od D0;have q6:(x5_1:Int) < ((x0_1.length:Int):Int):=od D0;obtain ⟨go6,co6,eo6,gb6,gl6,cl6,HG6⟩:=Kd.R_form HO_0.out D8;(first|cases eo6|(injection eo6 with ea_ en_ ec_;(first|subst ea_|(injection ea_ with ea_;subst ea_));subst ec_;clear en_));have GB6:=am gb6;have GG6:=am HG6;clear gb6 gl6 HG6;have HMgo6:=am (show (P0_ go6∨w.heap.size≤go6) from (HO_0.out.1 _ rfl));obtain ⟨hx6_0,hf6_0⟩:=Kd.R_celln (⟨#[]⟩:ByteArray) HO_0.out (x5_1:Int) p6 q6;replace p6:=eq_true p6;replace q6:=eq_true q6;obtain ⟨hy9_,hz9_⟩:=Kd.R_celln (⟨#[]⟩:ByteArray) HO_0.out (x5_1:Int) (od D0) (od D0);have HP9:=Kd.R_putg HO_0.out (x5_1:Int) t371)|((with_reducible refine gate_store (t:=9) (p:=16) rfl ?_);refine store_event (t:=9) (p:=16) (v:=?vo_w10) (w1:=(w8.setCell ⟨go6,(x5_1:Int).toNat,none⟩ (.string t371))) ?hg ?ho ?hn ?hr ?_;(case ho=>rfl);(case hg=>rfl);(case hn=>rfl);(case hr=>first|(go_simp;done)|(go_simp;rfl));intro w10 hw;have hg:w8.grownBy w10 (some go6):=(by rw [hw];exact HP9.2);have hp_:Kd.R Kd.string 9 w10 w0.heap.size (fun k_=>(P0_ k_∨w.heap.size≤k_)) (.slice (some ⟨go6,0,none⟩) x0_1.length co7) y372:=(by rw [hw,Ny372.out];exact HP9.1);clear HP9;replace HB:=am ((by rw [hw];exact pt (HB.out) GB6.out:Below w0.heap.size w0 w10));replace HK:=am (Kept.of_grown (S:=(fun k_=>P0_ k_)) hg D12 (fun k_ e_=>(HO_0.out.1 k_ e_)));replace HO_0:=am (hp_);clear hg hw hp_))
    go_roundg k1
    case measure=>have:=HK1.out;omega
    case rel=>exact ⟨(y372),(wrap64 (x1_1+1)),(wrap64 (x5_1+1)),D1,D1,H',⟨D17⟩,⟨yR HO_0⟩,⟨D12⟩,⟨yW HB⟩⟩
   rw [if_neg c3] at H
   have c3b0:=decide_eq_false c3
   clear c3
   simp only [Option.some.injEq,Prod.mk.injEq] at H
   obtain ⟨rfl,rfl⟩:=H
   obtain ⟨Ao11,co11,eo11⟩:=Kd.R_slice HO_0.out
   subst eo11
   go_wp2
   go_ret
   exact ⟨D3,yR HO_0,yW HB,D12⟩

def laws_markStripe.f (k:Nat) (l0_0:List ByteArray) (l0_1:List ByteArray) (a1:Int):Option (Int × List ByteArray × List ByteArray):=(laws_markStringS.f k l0_0 a1).bind fun bt374=>((laws_markStringS.f k l0_1 bt374.1).bind fun bt376=>(some (bt376.1,bt374.2,bt376.2)))
theorem laws_markStripe.mono:∀ a0 a1 a2 k,LeO (laws_markStripe.f k a0 a1 a2) (laws_markStripe.f (k+1) a0 a1 a2):=by
 intro a0 a1 a2 k
 unfold laws_markStripe.f
 exact mm
theorem laws_markStripe.calls (k:Nat) (P0_0_:Nat→Prop) (u9000_:Value) (l0_0:List ByteArray) (P0_1_:Nat→Prop) (u9001_:Value) (l0_1:List ByteArray) (a1:Int) (r1:Int) (r2:List ByteArray) (r3:List ByteArray) (w0 w:World) (hB:Below w0.heap.size w0 w) (ho0_0:Kd.R Kd.string 9 w w0.heap.size P0_0_ u9000_ l0_0) (hp0_0_0_1:∀ k_,P0_0_ k_→¬ P0_1_ k_) (ho0_1:Kd.R Kd.string 9 w w0.heap.size P0_1_ u9001_ l0_1) (hp0_1_0_0:∀ k_,P0_1_ k_→¬ P0_0_ k_) (h:laws_markStripe.f k l0_0 l0_1 a1=some (r1,r2,r3)) :
  Calls Try.prog 22 #[.agg #[u9000_,u9001_], .int .i64 a1] w fun e w'=>e = .returned (.int .i64 r1)∧Kd.R Kd.string 9 w' w0.heap.size (fun k_=>((P0_0_ k_∨P0_1_ k_)∨w.heap.size≤k_)) u9000_ r2∧Kd.R Kd.string 9 w' w0.heap.size (fun k_=>((P0_0_ k_∨P0_1_ k_)∨w.heap.size≤k_)) u9001_ r3∧Below w0.heap.size w0 w'∧Kept w w' (fun k_=>P0_0_ k_∨P0_1_ k_):=by
 have hu27:=Try.underlying27
 have HO0_0:=am (show Kd.R Kd.string 9 w w0.heap.size (fun k_=>((P0_0_ k_∨P0_1_ k_)∨w.heap.size≤k_)∧some k_ ≠ (u9001_:Value).ownBlock) u9000_ l0_0 from Kd.R_mono ho0_0 (fun k_ hk=>⟨(.inl (.inl hk)),fun e_=>hp0_0_0_1 k_ hk (ho0_1.1 k_ e_.symm)⟩))
 have HO0_1:=am (show Kd.R Kd.string 9 w w0.heap.size (fun k_=>((P0_0_ k_∨P0_1_ k_)∨w.heap.size≤k_)∧some k_ ≠ (u9000_:Value).ownBlock) u9001_ l0_1 from Kd.R_mono ho0_1 (fun k_ hk=>⟨(.inl (.inr hk)),fun e_=>hp0_1_0_0 k_ hk (ho0_0.1 k_ e_.symm)⟩))
 have HK:=am (Kept.refl w (fun k_=>P0_0_ k_∨P0_1_ k_))
 have HW0:=am hB.size
 have HB:=am hB
 clear hB
 have H:=h
 unfold laws_markStripe.f at H
 clear h
 obtain ⟨⟨t374,t375⟩,A3,H⟩:=yo H
 try dsimp only at H
 obtain ⟨⟨t376,t377⟩,A4,H⟩:=yo H
 try dsimp only at H
 simp only [Option.some.injEq,Prod.mk.injEq] at H
 obtain ⟨rfl,rfl,rfl⟩:=H
 obtain ⟨Ao5,co5,eo5⟩:=Kd.R_slice HO0_0.out
 subst eo5
 obtain ⟨Ao6,co6,eo6⟩:=Kd.R_slice HO0_1.out
 subst eo6
 go_enter Try.func22,Try.ntmps22
 go_wp2_with (first|(refine gD 2 ?_;refine gB (cs:=#[.slice Ao5 l0_0.length co5, .slice Ao6 l0_1.length co6]) 27 ?_;intro gb373 hg w7 hbox hb;replace HO0_0:=bR HO0_0 hb;replace HO0_1:=bR HO0_1 hb;have BK373:=am (hbox);have GW373:=am ((by rw [hg];exact (by first|exact HK.out.1|exact (show Kept w _ (fun k_=>P0_0_ k_∨P0_1_ k_) from by repeat (first|(with_reducible first|exact HK.out|apply Kept.alloc|apply Kept.drewN|apply Kept.drew)|exact HK.out)).1):w.heap.size≤gb373));replace HK:=am (Kept.below (S:=(fun k_=>P0_0_ k_∨P0_1_ k_)) D12 hb);have GE373:=am ((by rw [hg];exact (pz (yW HB)):w0.heap.size≤gb373));replace HB:=yH HB hb;clear hb hbox hg;obtain ⟨hcz8_0,hcz8_1,hfz8_0,hfz8_1⟩:=yk2 BK373)|(refine gC 65 ?_;refine gM (some 8) Try.func65 (args:=#[.slice Ao5 l0_0.length co5, .int .i64 a1]) (laws_markStringS.calls k (fun k_=>some k_=(.slice Ao5 l0_0.length co5:Value).ownBlock) (.slice Ao5 l0_0.length co5) l0_0 a1 t374 t375 w0 _ ?side1 ?side2 A3.out) ?_;(case side1=>repeat (first|(with_reducible first|exact HB.out|apply pa|apply pb|apply pd|refine pt ?_ GE373.out)|exact HB.out));(case side2=>exact Kd.R_tight rfl HO0_0.out);rintro e w9 ⟨rfl,hy0,hb,hkp⟩;refine ⟨_,rfl,?_⟩;replace HO0_1:=am (Kd.R_mono (ok':=fun k_=>((P0_0_ k_∨P0_1_ k_)∨w.heap.size≤k_)∧some k_ ≠ (.slice Ao5 l0_0.length co5:Value).ownBlock) (Kd.R_keptB (HO0_1.out) hkp (fun k_ hk_ hs_=>(hk_.2) hs_)) (fun k_ hk_=>⟨hk_.1.1,hk_.1.2⟩));replace BK373:=am (blk_kept (yB BK373) hkp (fun hs_=>(fun e_=>(Kd.R_ne HO0_0.out BK373.out D6) e_) hs_));replace HK:=am (Kept.then_ (S:=(fun k_=>P0_0_ k_∨P0_1_ k_)) D26 hkp (fun k_ hs_=>(fun e_=>(HO0_0.out.1 k_ e_.symm).1) hs_));replace HO0_0:=am (Kd.R_reok rfl hy0 (fun k_ e_=>HO0_0.out.1 k_ e_));replace HB:=am (hb);clear hb hkp hy0;obtain ⟨hcz10_0,hcz10_1,hfz10_0,hfz10_1⟩:=yk2 BK373)|(refine gC 65 ?_;refine gM (some 12) Try.func65 (args:=#[.slice Ao6 l0_1.length co6, .int .i64 t374]) (laws_markStringS.calls k (fun k_=>some k_=(.slice Ao6 l0_1.length co6:Value).ownBlock) (.slice Ao6 l0_1.length co6) l0_1 t374 t376 t377 w0 _ ?side1 ?side2 A4.out) ?_;(case side1=>repeat (first|(with_reducible first|exact HB.out|apply pa|apply pb|apply pd|refine pt ?_ GE373.out)|exact HB.out));(case side2=>exact Kd.R_tight rfl HO0_1.out);rintro e w11 ⟨rfl,hy0,hb,hkp⟩;refine ⟨_,rfl,?_⟩;replace HO0_0:=am (Kd.R_mono (ok':=fun k_=>((P0_0_ k_∨P0_1_ k_)∨w.heap.size≤k_)∧some k_ ≠ (.slice Ao6 l0_1.length co6:Value).ownBlock) (Kd.R_keptB (HO0_0.out) hkp (fun k_ hk_ hs_=>(hk_.2) hs_)) (fun k_ hk_=>⟨hk_.1.1,hk_.1.2⟩));replace BK373:=am (blk_kept (yB BK373) hkp (fun hs_=>(fun e_=>(Kd.R_ne HO0_1.out BK373.out D6) e_) hs_));replace HK:=am (Kept.then_ (S:=(fun k_=>P0_0_ k_∨P0_1_ k_)) D26 hkp (fun k_ hs_=>(fun e_=>(HO0_1.out.1 k_ e_.symm).1) hs_));replace HO0_1:=am (Kd.R_reok rfl hy0 (fun k_ e_=>HO0_1.out.1 k_ e_));replace HB:=am (hb);clear hb hkp hy0))
 go_ret
 exact ⟨D3,by refine sR ?_;exact Kd.R_mono HO0_0.out (fun _ hk=>hk.1),by refine sR ?_;exact Kd.R_mono HO0_1.out (fun _ hk=>hk.1),yW HB,D26⟩

def laws_markIntS.l0:Nat→List Int→Int→Int→Option (Int × List Int)
 | 0,_,_,_=>none
 | k+1,x0,x1,x5=>if x5 < (x0.length:Int) then (if 0≤x5 then (laws_markIntS.l0 k (x0.set (x5:Int).toNat x1) (wrap64 (x1+1)) (wrap64 (x5+1))) else (none)) else (some (x1,x0))
def laws_markIntS.f (k:Nat) (l0:List Int) (a1:Int):Option (Int × List Int):=laws_markIntS.l0 k l0 a1 0
theorem laws_markIntS.mono_l:∀ k,(∀ y0 y1 y2,LeO (laws_markIntS.l0 k y0 y1 y2) (laws_markIntS.l0 (k+1) y0 y1 y2))
 | 0=>fun _ _ _ r h=>by simp [laws_markIntS.l0] at h
 | k+1=>by
  have ih0:=laws_markIntS.mono_l k
  intro y0 y1 y2
  unfold laws_markIntS.l0
  exact mm
theorem laws_markIntS.mono:∀ a0 a1 k,LeO (laws_markIntS.f k a0 a1) (laws_markIntS.f (k+1) a0 a1):=by
 intro a0 a1 k
 have ih0:=laws_markIntS.mono_l k
 unfold laws_markIntS.f
 exact mm
theorem laws_markIntS.calls (k:Nat) (P0_:Nat→Prop) (u9000_:Value) (l0:List Int) (a1:Int) (r1:Int) (r2:List Int) (w0 w:World) (hB:Below w0.heap.size w0 w) (ho0:Kd.R (Kd.int .i64) 3 w w0.heap.size P0_ u9000_ l0) (h:laws_markIntS.f k l0 a1=some (r1,r2)) :
  Calls Try.prog 23 #[u9000_, .int .i64 a1] w fun e w'=>e = .returned (.int .i64 r1)∧Kd.R (Kd.int .i64) 3 w' w0.heap.size (fun k_=>(P0_ k_∨w.heap.size≤k_)) u9000_ r2∧Below w0.heap.size w0 w'∧Kept w w' (fun k_=>P0_ k_):=by
 have HO0:=am (show Kd.R (Kd.int .i64) 3 w w0.heap.size (fun k_=>(P0_ k_∨w.heap.size≤k_)) u9000_ l0 from Kd.R_mono ho0 (fun k_ hk=>(.inl hk)))
 have HK:=am (Kept.refl w (fun k_=>P0_ k_))
 have HW0:=am hB.size
 have HB:=am hB
 clear hB
 have H:=h
 unfold laws_markIntS.f at H
 clear h
 have H':=am H
 clear H
 go_enter Try.func23,Try.ntmps23
 go_wp2
 go_loopg [1,5] k (fun kq v1 v5 w'=>∃ (x0_1:List Int) (x1_1:Int) (x5_1:Int),v1 = .int .i64 x1_1∧v5 = .int .i64 x5_1∧Aside0 (laws_markIntS.l0 kq x0_1 x1_1 x5_1=some (r1,r2))∧Aside0 (kq≤k)∧Aside0 (Kd.R (Kd.int .i64) 3 w' w0.heap.size (fun k_=>(P0_ k_∨w.heap.size≤k_)) u9000_ x0_1)∧Aside0 (Kept w w' (fun k_=>P0_ k_))∧Aside0 (Below w0.heap.size w0 w'))
 case atStart=>exact ⟨(l0),(a1),(0),D1,D1,H',⟨Nat.le_refl _⟩,⟨yR HO0⟩,⟨D12⟩,⟨yW HB⟩⟩
 case round =>
  clear H'
  try clear c2
  try clear p2
  obtain ⟨x0_1,x1_1,x5_1,rfl,rfl,HA,HK1,HO_0,HK,HB⟩:=hrel
  cases gk with
  | zero=>exact absurd HA.out (by simp [laws_markIntS.l0])
  | succ k1 =>
   have H:=HA.out
   clear HA
   simp only [laws_markIntS.l0] at H
   by_cases c3:x5_1 < (x0_1.length:Int)
   ·rw [if_pos c3] at H
    have c3b0:=decide_eq_true c3
    clear c3
    obtain ⟨c4,H⟩:=yi H
    have c4b0:=decide_eq_true c4
    clear c4
    generalize hy378:(x0_1.set (x5_1:Int).toNat x1_1:List Int)=y378 at H
    have Ny378:=am hy378.symm
    clear hy378
    have H':=am H
    clear H
    obtain ⟨Ao6,co6,eo6⟩:=Kd.R_slice HO_0.out
    subst eo6
    have p5:0≤(x5_1:Int):=od D0
    have q5:(x5_1:Int) < ((x0_1.length:Int):Int):=od D0
    obtain ⟨go5,co5,eo5,gb5,gl5,cl5,HG5⟩:=Kd.R_form HO_0.out D8
    (first|cases eo5|(injection eo5 with ea_ en_ ec_;(first|subst ea_|(injection ea_ with ea_;subst ea_));subst ec_;clear en_))
    have GB5:=am gb5
    have GG5:=am HG5
    clear gb5 gl5 HG5
    have HMgo5:=am (show (P0_ go5∨w.heap.size≤go5) from (HO_0.out.1 _ rfl))
    obtain ⟨hx5_0,hf5_0⟩:=Kd.R_celln 0 HO_0.out (x5_1:Int) p5 q5
    replace p5:=eq_true p5
    replace q5:=eq_true q5
    have HP7:=Kd.R_putg HO_0.out (x5_1:Int) x1_1
    go_wp2_with (first|((with_reducible refine gate_store (t:=3) (p:=15) rfl ?_);refine store_event (t:=3) (p:=15) (v:=?vo_w8) (w1:=(wr.setCell ⟨go5,(x5_1:Int).toNat,none⟩ (.int .i64 x1_1))) ?hg ?ho ?hn ?hr ?_;(case ho=>rfl);(case hg=>rfl);(case hn=>rfl);(case hr=>first|(go_simp;done)|(go_simp;rfl));intro w8 hw;have hg:wr.grownBy w8 (some go5):=(by rw [hw];exact HP7.2);have hp_:Kd.R (Kd.int .i64) 3 w8 w0.heap.size (fun k_=>(P0_ k_∨w.heap.size≤k_)) (.slice (some ⟨go5,0,none⟩) x0_1.length co6) y378:=(by rw [hw,Ny378.out];exact HP7.1);clear HP7;replace HB:=am ((by rw [hw];exact pt (HB.out) GB5.out:Below w0.heap.size w0 w8));replace HK:=am (Kept.of_grown (S:=(fun k_=>P0_ k_)) hg D12 (fun k_ e_=>(HO_0.out.1 k_ e_)));replace HO_0:=am (hp_);clear hg hw hp_))
    go_roundg k1
    case measure=>have:=HK1.out;omega
    case rel=>exact ⟨(y378),(wrap64 (x1_1+1)),(wrap64 (x5_1+1)),D1,D1,H',⟨D17⟩,⟨yR HO_0⟩,⟨D12⟩,⟨yW HB⟩⟩
   rw [if_neg c3] at H
   have c3b0:=decide_eq_false c3
   clear c3
   simp only [Option.some.injEq,Prod.mk.injEq] at H
   obtain ⟨rfl,rfl⟩:=H
   obtain ⟨Ao9,co9,eo9⟩:=Kd.R_slice HO_0.out
   subst eo9
   go_wp2
   go_ret
   exact ⟨D3,yR HO_0,yW HB,D12⟩

end Go.Proofs.Ytajikfnpcobnpaa.PFnExactMendStripe
-- SHRUNK
-- HALVED
-- SQUEEZED
-- SQUEEZED2
-- SQUEEZED3
-- SQUEEZED4
-- SQUEEZED5
-- SQUEEZED6
