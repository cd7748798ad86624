import Derived.Test.YteflgifmdojahaaVFnMsrB
import Derived.Test.YteflgifmdojahaaPFnMsrx0
import Derived.Test.YteflgifmdojahaaPFnMsrx2
import Derived.Test.YteflgifmdojahaaPFnMsrx1
namespace Go.Proofs.Yteflgifmdojahaa.PFnMsr
open Go.RowKit Go.Proofs.YteflgifmdojahaaW.PrintWords Go.Proofs.YteflgifmdojahaaW.PrintLast Go.Proofs.YteflgifmdojahaaW.PrintMore Go.Proofs.Yteflgifmdojahaa.KitS
attribute [local go_sem] max2_int min2_int max_two min_two max_three min_three max_four min_four
set_option linter.unusedVariables false
set_option maxHeartbeats 8000000
set_option maxRecDepth 100000
set_option linter.unusedSimpArgs false
def laws_samePieces.l0:Nat→List (S76)→List (S76)→Int→Int→Option (Bool)
 | 0,_,_,_,_=>none
 | k+1,x0,x1,x12,x13=>if x13 < x12 then (if 0≤x13 then (if x13 < (x0.length:Int) then (if x13 < (x1.length:Int) then (if ((rd_T76 x0 x13).f0)=((rd_T76 x1 x13).f0) then ((laws_sameBytes.f ((rd_T76 x0 x13).f1) ((rd_T76 x1 x13).f1)).bind fun t360=>(if t360=true then (laws_samePieces.l0 k x0 x1 x12 (wrap64 (x13+1))) else (some false))) else (some false)) else (none)) else (none)) else (none)) else (some true)
def laws_samePieces.f (k:Nat) (l0:List (S76)) (l1:List (S76)):Option (Bool):=if (l0.length:Int)=(l1.length:Int) then (laws_samePieces.l0 k l0 l1 (l0.length:Int) 0) else (some false)
theorem laws_samePieces.mono_l:∀ k,(∀ y0 y1 y2 y3,LeO (laws_samePieces.l0 k y0 y1 y2 y3) (laws_samePieces.l0 (k+1) y0 y1 y2 y3))
 | 0=>fun _ _ _ _ r h=>by simp [laws_samePieces.l0] at h
 | k+1=>by
  have ih0:=laws_samePieces.mono_l k
  intro y0 y1 y2 y3
  unfold laws_samePieces.l0
  exact mm
theorem laws_samePieces.mono:∀ a0 a1 k,LeO (laws_samePieces.f k a0 a1) (laws_samePieces.f (k+1) a0 a1):=by
 intro a0 a1 k
 have ih0:=laws_samePieces.mono_l k
 unfold laws_samePieces.f
 exact mm
theorem laws_samePieces.calls (k:Nat) (A0:Option Addr) (c0:Nat) (l0:List (S76)) (A1:Option Addr) (c1:Nat) (l1:List (S76)) (r:Bool) (w:World) (hr0:Kd.C k76 w A0 l0.length l0) (hc0:l0.length≤c0) (hr1:Kd.C k76 w A1 l1.length l1) (hc1:l1.length≤c1) (h:laws_samePieces.f k l0 l1=some r) :
  Calls Try.prog 45 #[.slice A0 l0.length c0, .slice A1 l1.length c1] w fun e w'=>e = .returned (.bool r)∧Drawn0 w w':=by
 have HR0:=am hr0
 have HC0:=am hc0
 clear hr0 hc0
 have HR1:=am hr1
 have HC1:=am hc1
 clear hr1 hc1
 have H:=h
 unfold laws_samePieces.f at H
 clear h
 by_cases c3:(l0.length:Int)=(l1.length:Int)
 ·rw [if_pos c3] at H
  have c3b0:((l0.length:Int) == (l1.length:Int))=true:=beq_iff_eq.mpr c3
  have c3b1:((l0.length:Int) != (l1.length:Int))=false:=bne_eq_false_iff_eq.mpr c3
  have c3b2:(l0.length == l1.length)=true:=by first|simpa using c3|(simp at c3 ⊢;omega)
  clear c3
  have H':=am H
  clear H
  go_enter Try.func45,Try.ntmps45
  go_wp2
  repeat (go_quiet (fail);try go_wp2)
  go_loopg [13] k (fun kq v13 w'=>∃ (x13_1:Int),v13 = .int .i64 x13_1∧Aside0 (laws_samePieces.l0 kq l0 l1 (l0.length:Int) x13_1=some r)∧Aside0 (kq≤k)∧Drawn0 w w')
  case atStart=>exact ⟨(0),D1,H',⟨Nat.le_refl _⟩,D12⟩
  case round =>
   clear H'
   try clear c1
   try clear p2
   try clear c3
   try clear c3b0
   try clear c3b1
   try clear c3b2
   obtain ⟨x13_1,rfl,HA,HK1,⟨m1,rfl⟩⟩:=hrel
   cases gk with
   | zero=>exact absurd HA.out (by simp [laws_samePieces.l0])
   | succ k1 =>
    have H:=HA.out
    clear HA
    simp only [laws_samePieces.l0] at H
    by_cases c4:x13_1 < (l0.length:Int)
    ·rw [if_pos c4] at H
     have c4b0:=decide_eq_true c4
     clear c4
     obtain ⟨c5,H⟩:=yi H
     have c5b0:=decide_eq_true c5
     clear c5
     obtain ⟨c6,H⟩:=yi H
     have c6b0:=decide_eq_true c6
     clear c6
     obtain ⟨c7,H⟩:=yi H
     have c7b0:=decide_eq_true c7
     clear c7
     by_cases c8:((rd_T76 l0 x13_1).f0)=((rd_T76 l1 x13_1).f0)
     ·rw [if_pos c8] at H
      have c8b0:(((rd_T76 l0 x13_1).f0) == ((rd_T76 l1 x13_1).f0))=true:=beq_iff_eq.mpr c8
      have c8b1:(((rd_T76 l0 x13_1).f0) != ((rd_T76 l1 x13_1).f0))=false:=bne_eq_false_iff_eq.mpr c8
      clear c8
      obtain ⟨t360,A9,H⟩:=yo H
      by_cases c10:t360=true
      ·subst c10
       replace H:=yt H
       have H':=am H
       clear H
       have p356:0≤(x13_1:Int):=od D0
       have q356:x13_1 < (l0.length:Int):=od D0
       obtain ⟨ad356,A356_1,c356_1,e356,hx356_0,hx356_1,hl356_1,hi356_1⟩:=at_T76 HR0.out x13_1 p356 q356
       cases e356
       have HR356_1:=am hi356_1
       have HC356_1:=am hl356_1
       clear hi356_1 hl356_1
       replace p356:=eq_true p356
       replace q356:=eq_true q356
       have p357:0≤(x13_1:Int):=od D0
       have q357:x13_1 < (l1.length:Int):=od D0
       obtain ⟨ad357,A357_1,c357_1,e357,hx357_0,hx357_1,hl357_1,hi357_1⟩:=at_T76 HR1.out x13_1 p357 q357
       cases e357
       have HR357_1:=am hi357_1
       have HC357_1:=am hl357_1
       clear hi357_1 hl357_1
       replace p357:=eq_true p357
       replace q357:=eq_true q357
       have p358:0≤(x13_1:Int):=od D0
       have q358:x13_1 < (l0.length:Int):=od D0
       obtain ⟨ad358,A358_1,c358_1,e358,hx358_0,hx358_1,hl358_1,hi358_1⟩:=at_T76 HR0.out x13_1 p358 q358
       obtain rfl:ad356=ad358:=(by injection e358)
       have HR358_1:=am hi358_1
       have HC358_1:=am hl358_1
       clear hi358_1 hl358_1
       replace p358:=eq_true p358
       replace q358:=eq_true q358
       have ea_:=Option.some.inj (hx356_1.symm.trans hx358_1)
       injection ea_ with ea_ en_ ec_
       subst ea_
       subst ec_
       clear en_
       have p359:0≤(x13_1:Int):=od D0
       have q359:x13_1 < (l1.length:Int):=od D0
       obtain ⟨ad359,A359_1,c359_1,e359,hx359_0,hx359_1,hl359_1,hi359_1⟩:=at_T76 HR1.out x13_1 p359 q359
       obtain rfl:ad357=ad359:=(by injection e359)
       have HR359_1:=am hi359_1
       have HC359_1:=am hl359_1
       clear hi359_1 hl359_1
       replace p359:=eq_true p359
       replace q359:=eq_true q359
       have ea_:=Option.some.inj (hx357_1.symm.trans hx359_1)
       injection ea_ with ea_ en_ ec_
       subst ea_
       subst ec_
       clear en_
       go_wp2_with (first|(go_at_call 49;(with_reducible refine (laws_sameBytes.calls _ _ ((rd_T76 l0 x13_1).f1) _ _ ((rd_T76 l1 x13_1).f1) true _ (yc HR358_1.out) HC358_1.out (yc HR359_1.out) HC359_1.out A9.out).mono ?_);rintro e w' ⟨rfl,⟨nd,rfl⟩⟩;(try first|exact ⟨rfl,_,World.drewN_drewN _ _ _⟩|exact ⟨rfl,_,Eq.trans (World.drewN_drewN _ _ _) (congrArg (World.drewN _) (Nat.add_assoc _ _ _))⟩)))
       repeat (go_quiet (first|(go_at_call 49;(with_reducible refine (laws_sameBytes.calls _ _ ((rd_T76 l0 x13_1).f1) _ _ ((rd_T76 l1 x13_1).f1) true _ (yc HR358_1.out) HC358_1.out (yc HR359_1.out) HC359_1.out A9.out).mono ?_);rintro e w' ⟨rfl,⟨nd,rfl⟩⟩;(try first|exact ⟨rfl,_,World.drewN_drewN _ _ _⟩|exact ⟨rfl,_,Eq.trans (World.drewN_drewN _ _ _) (congrArg (World.drewN _) (Nat.add_assoc _ _ _))⟩)));try go_wp2_with (first|(go_at_call 49;(with_reducible refine (laws_sameBytes.calls _ _ ((rd_T76 l0 x13_1).f1) _ _ ((rd_T76 l1 x13_1).f1) true _ (yc HR358_1.out) HC358_1.out (yc HR359_1.out) HC359_1.out A9.out).mono ?_);rintro e w' ⟨rfl,⟨nd,rfl⟩⟩;(try first|exact ⟨rfl,_,World.drewN_drewN _ _ _⟩|exact ⟨rfl,_,Eq.trans (World.drewN_drewN _ _ _) (congrArg (World.drewN _) (Nat.add_assoc _ _ _))⟩))))
       go_roundg k1
       case measure=>have:=HK1.out;omega
       case rel=>exact ⟨(wrap64 (x13_1+1)),D1,H',⟨D34⟩,D12⟩
      replace c10:=Bool.eq_false_iff.mpr c10
      subst c10
      replace H:=yn H
      obtain rfl:=Option.some.inj H
      have p356:0≤(x13_1:Int):=od D0
      have q356:x13_1 < (l0.length:Int):=od D0
      obtain ⟨ad356,A356_1,c356_1,e356,hx356_0,hx356_1,hl356_1,hi356_1⟩:=at_T76 HR0.out x13_1 p356 q356
      cases e356
      have HR356_1:=am hi356_1
      have HC356_1:=am hl356_1
      clear hi356_1 hl356_1
      replace p356:=eq_true p356
      replace q356:=eq_true q356
      have p357:0≤(x13_1:Int):=od D0
      have q357:x13_1 < (l1.length:Int):=od D0
      obtain ⟨ad357,A357_1,c357_1,e357,hx357_0,hx357_1,hl357_1,hi357_1⟩:=at_T76 HR1.out x13_1 p357 q357
      cases e357
      have HR357_1:=am hi357_1
      have HC357_1:=am hl357_1
      clear hi357_1 hl357_1
      replace p357:=eq_true p357
      replace q357:=eq_true q357
      have p358:0≤(x13_1:Int):=od D0
      have q358:x13_1 < (l0.length:Int):=od D0
      obtain ⟨ad358,A358_1,c358_1,e358,hx358_0,hx358_1,hl358_1,hi358_1⟩:=at_T76 HR0.out x13_1 p358 q358
      obtain rfl:ad356=ad358:=(by injection e358)
      have HR358_1:=am hi358_1
      have HC358_1:=am hl358_1
      clear hi358_1 hl358_1
      replace p358:=eq_true p358
      replace q358:=eq_true q358
      have ea_:=Option.some.inj (hx356_1.symm.trans hx358_1)
      injection ea_ with ea_ en_ ec_
      subst ea_
      subst ec_
      clear en_
      have p359:0≤(x13_1:Int):=od D0
      have q359:x13_1 < (l1.length:Int):=od D0
      obtain ⟨ad359,A359_1,c359_1,e359,hx359_0,hx359_1,hl359_1,hi359_1⟩:=at_T76 HR1.out x13_1 p359 q359
      obtain rfl:ad357=ad359:=(by injection e359)
      have HR359_1:=am hi359_1
      have HC359_1:=am hl359_1
      clear hi359_1 hl359_1
      replace p359:=eq_true p359
      replace q359:=eq_true q359
      have ea_:=Option.some.inj (hx357_1.symm.trans hx359_1)
      injection ea_ with ea_ en_ ec_
      subst ea_
      subst ec_
      clear en_
      go_wp2_with (first|(go_at_call 49;(with_reducible refine (laws_sameBytes.calls _ _ ((rd_T76 l0 x13_1).f1) _ _ ((rd_T76 l1 x13_1).f1) false _ (yc HR358_1.out) HC358_1.out (yc HR359_1.out) HC359_1.out A9.out).mono ?_);rintro e w' ⟨rfl,⟨nd,rfl⟩⟩;(try first|exact ⟨rfl,_,World.drewN_drewN _ _ _⟩|exact ⟨rfl,_,Eq.trans (World.drewN_drewN _ _ _) (congrArg (World.drewN _) (Nat.add_assoc _ _ _))⟩)))
      repeat (go_quiet (first|(go_at_call 49;(with_reducible refine (laws_sameBytes.calls _ _ ((rd_T76 l0 x13_1).f1) _ _ ((rd_T76 l1 x13_1).f1) false _ (yc HR358_1.out) HC358_1.out (yc HR359_1.out) HC359_1.out A9.out).mono ?_);rintro e w' ⟨rfl,⟨nd,rfl⟩⟩;(try first|exact ⟨rfl,_,World.drewN_drewN _ _ _⟩|exact ⟨rfl,_,Eq.trans (World.drewN_drewN _ _ _) (congrArg (World.drewN _) (Nat.add_assoc _ _ _))⟩)));try go_wp2_with (first|(go_at_call 49;(with_reducible refine (laws_sameBytes.calls _ _ ((rd_T76 l0 x13_1).f1) _ _ ((rd_T76 l1 x13_1).f1) false _ (yc HR358_1.out) HC358_1.out (yc HR359_1.out) HC359_1.out A9.out).mono ?_);rintro e w' ⟨rfl,⟨nd,rfl⟩⟩;(try first|exact ⟨rfl,_,World.drewN_drewN _ _ _⟩|exact ⟨rfl,_,Eq.trans (World.drewN_drewN _ _ _) (congrArg (World.drewN _) (Nat.add_assoc _ _ _))⟩))))
      go_ret
      exact ⟨D1,D12⟩
     rw [if_neg c8] at H
     have c8b0:(((rd_T76 l0 x13_1).f0) == ((rd_T76 l1 x13_1).f0))=false:=beq_eq_false_iff_ne.mpr c8
     have c8b1:(((rd_T76 l0 x13_1).f0) != ((rd_T76 l1 x13_1).f0))=true:=bne_iff_ne.mpr c8
     obtain rfl:=Option.some.inj H
     have p356:0≤(x13_1:Int):=od D0
     have q356:x13_1 < (l0.length:Int):=od D0
     obtain ⟨ad356,A356_1,c356_1,e356,hx356_0,hx356_1,hl356_1,hi356_1⟩:=at_T76 HR0.out x13_1 p356 q356
     cases e356
     have HR356_1:=am hi356_1
     have HC356_1:=am hl356_1
     clear hi356_1 hl356_1
     replace p356:=eq_true p356
     replace q356:=eq_true q356
     have p357:0≤(x13_1:Int):=od D0
     have q357:x13_1 < (l1.length:Int):=od D0
     obtain ⟨ad357,A357_1,c357_1,e357,hx357_0,hx357_1,hl357_1,hi357_1⟩:=at_T76 HR1.out x13_1 p357 q357
     cases e357
     have HR357_1:=am hi357_1
     have HC357_1:=am hl357_1
     clear hi357_1 hl357_1
     replace p357:=eq_true p357
     replace q357:=eq_true q357
     go_wp2
     repeat (go_quiet (fail);try go_wp2)
     go_ret
     exact ⟨D1,D12⟩
    rw [if_neg c4] at H
    have c4b0:=decide_eq_false c4
    clear c4
    obtain rfl:=Option.some.inj H
    go_wp2
    repeat (go_quiet (fail);try go_wp2)
    go_ret
    exact ⟨D1,D12⟩
 rw [if_neg c3] at H
 have c3b0:((l0.length:Int) == (l1.length:Int))=false:=beq_eq_false_iff_ne.mpr c3
 have c3b1:((l0.length:Int) != (l1.length:Int))=true:=bne_iff_ne.mpr c3
 have c3b2:(l0.length == l1.length)=false:=by first|simpa using c3|(simp at c3 ⊢;omega)
 obtain rfl:=Option.some.inj H
 go_enter Try.func45,Try.ntmps45
 go_wp2
 repeat (go_quiet (fail);try go_wp2)
 go_ret
 exact ⟨D1,D12⟩



def impl_identity.l0:Nat→Int→List (List Int)→Int→Int→Option ((List (List Int)))
 | 0,_,_,_,_=>none
 | k+1,x0,x3,x7,x8=>if x8 < x7 then (if 0≤x0 then (if (x0:Int).toNat≤281474976710656 then ((some (List.replicate (x0:Int).toNat 0:List Int)).bind fun y364=>(if 0≤x8 then (if x8 < (y364.length:Int) then (if x3.length < 5864062014805 then (impl_identity.l0 k x0 (x3 ++ [(y364.set (x8:Int).toNat 1)]) x7 (wrap64 (x8+1))) else (none)) else (none)) else (none))) else (none)) else (none)) else (some x3)
def impl_identity.f (k:Nat) (a0:Int):Option ((List (List Int))):=impl_identity.l0 k a0 (([]:List (List Int))) a0 0
theorem impl_identity.mono_l:∀ k,(∀ y0 y1 y2 y3,LeO (impl_identity.l0 k y0 y1 y2 y3) (impl_identity.l0 (k+1) y0 y1 y2 y3))
 | 0=>fun _ _ _ _ r h=>by simp [impl_identity.l0] at h
 | k+1=>by
  have ih0:=impl_identity.mono_l k
  intro y0 y1 y2 y3
  unfold impl_identity.l0
  exact mm
theorem impl_identity.mono:∀ a0 k,LeO (impl_identity.f k a0) (impl_identity.f (k+1) a0):=by
 intro a0 k
 have ih0:=impl_identity.mono_l k
 unfold impl_identity.f
 exact mm
theorem impl_identity.calls (k:Nat) (a0:Int) (r:List (List Int)) (w:World) (h:impl_identity.f k a0=some r) :
  Calls Try.prog 141 #[.int .i64 a0] w fun e w'=>∃ v0_:Value,e = .returned (v0_)∧Kd.S (Kd.slice 5 (Kd.int .u8)) 24 w' w.heap.size (fun _=>True) v0_ r∧Below w.heap.size w w':=by
 have HB:=am (Below.refl w.heap.size w)
 have H:=h
 unfold impl_identity.f at H
 clear h
 generalize hy361:(([]:List (List Int)):List (List Int))=y361 at H
 have Ny361:=am hy361.symm
 clear hy361
 have H':=am H
 clear H
 go_enter Try.func141,Try.ntmps141
 go_wp2_with (first|((with_reducible refine gD 6 ?_);refine Kd.S_lit (Kd.slice 5 (Kd.int .u8)) _ 24 D15 (N:=6) D15 (xs:=([]:List (List Int))) (inner:=[]) (ok:=fun _=>True) (okp:=fun _=>True) D33 D51 (fun _ hk=>hk) trivial (Below.refl _ _) (Nat.le_refl _) D43 ?_;intro v362 w2 ho3 hb hg_ hnew_;clear hg_ hnew_;(first|rw [← Ny361.out] at ho3|(simp only [Int.reduceToNat] at ho3;rw [← Ny361.out] at ho3));have HO363:=am (Kd.S_lower ho3 (pz (yW HB)));replace HB:=yH HB hb;clear hb ho3))
 go_loopg [3,8] k (fun kq v3 v8 w'=>∃ (x3_1:List (List Int)) (x8_1:Int),v8 = .int .i64 x8_1∧Aside0 (impl_identity.l0 kq a0 x3_1 a0 x8_1=some r)∧Aside0 (kq≤k)∧Aside0 (Kd.S (Kd.slice 5 (Kd.int .u8)) 24 w' w.heap.size (fun _=>True) v3 x3_1)∧Aside0 (Below w.heap.size w w'))
 case atStart=>exact ⟨(y361),(0),D1,H',⟨Nat.le_refl _⟩,⟨yS HO363⟩,⟨yW HB⟩⟩
 case round =>
  clear H'
  try clear c1
  try clear p2
  obtain ⟨x3_1,x8_1,rfl,HA,HK1,HO_3,HB⟩:=hrel
  cases gk with
  | zero=>exact absurd HA.out (by simp [impl_identity.l0])
  | succ k1 =>
   have H:=HA.out
   clear HA
   simp only [impl_identity.l0] at H
   by_cases c4:x8_1 < a0
   ·rw [if_pos c4] at H
    have c4b0:=decide_eq_true c4
    clear c4
    obtain ⟨c5,H⟩:=yi H
    have c5b0:=eq_true c5
    have c5b1:decide (0≤a0)=true:=decide_eq_true c5
    clear c5
    obtain ⟨c6,H⟩:=yi H
    have c6b0:=eq_true c6
    have c6b1:decide ((a0:Int).toNat≤281474976710656)=true:=decide_eq_true c6
    clear c6
    obtain ⟨y364,hy364,H⟩:=ys H
    have Ny364:=am hy364
    clear hy364
    obtain ⟨c7,H⟩:=yi H
    have c7b0:=decide_eq_true c7
    clear c7
    obtain ⟨c8,H⟩:=yi H
    have c8b0:=decide_eq_true c8
    clear c8
    generalize hy367:(y364.set (x8_1:Int).toNat 1:List Int)=y367 at H
    have Ny367:=am hy367.symm
    clear hy367
    obtain ⟨c10,H⟩:=yi H
    have LMc10:=am c10
    clear c10
    generalize hy368:(x3_1 ++ [y367]:List (List Int))=y368 at H
    have Ny368:=am hy368.symm
    clear hy368
    have H':=am H
    clear H
    go_wp2_with (first|((with_reducible refine gD 12 ?_);refine Kd.R_make (Kd.int .u8) _ 5 rfl (N:=12) rfl 24 _ _ rfl a0 rfl rfl Try.underlying24 (.int .u8 0) 1 info5 rfl D8 D11 0 (ok:=fun _=>True) (okp:=fun _=>True) rfl (fun _ hk=>hk) trivial (od D0) (Nat.le_trans (Nat.mul_le_mul_right _ (od D0:a0.toNat≤281474976710656)) D11) (Below.refl _ _) (Nat.le_refl _) ?_;intro v365 w11 ho12 hb hg_ hnew_;clear hg_ hnew_;(first|rw [← Ny364.out] at ho12|(simp only [Int.reduceToNat] at ho12;rw [← Ny364.out] at ho12));replace HO_3:=eS HO_3 (Kd.R_base ho12) hb;have HO366:=am (Kd.R_lower ho12 (pz (yW HB)));replace HB:=yH HB hb;clear hb ho12;have p9:0≤(x8_1:Int):=od D0;have q9:(x8_1:Int) < ((y364.length:Int):Int):=od D0;obtain ⟨go9,co9,eo9,gb9,gl9,cl9,HG9⟩:=Kd.R_form HO366.out D11;(first|cases eo9|(injection eo9 with ea_ en_ ec_;(first|subst ea_|(injection ea_ with ea_;subst ea_));subst ec_;clear en_));have GB9:=am gb9;have GG9:=am HG9;clear gb9 gl9 HG9;obtain ⟨hx9_0,hf9_0⟩:=Kd.R_celln 0 HO366.out (x8_1:Int) p9 q9;replace p9:=eq_true p9;replace q9:=eq_true q9;obtain ⟨hy13_,hz13_⟩:=Kd.R_celln 0 HO366.out (x8_1:Int) (od D0) (od D0);have HP13:=Kd.R_putg HO366.out (x8_1:Int) 1)|((with_reducible refine gate_store (t:=5) (p:=15) rfl ?_);refine store_event (t:=5) (p:=15) (v:=?vo_w14) (w1:=(w11.setCell ⟨go9,(x8_1:Int).toNat,none⟩ (.int .u8 1))) ?hg ?ho ?hn ?hr ?_;(case ho=>rfl);(case hg=>rfl);(case hn=>rfl);(case hr=>first|(go_simp;done)|(go_simp;rfl));intro w14 hw;have hg:w11.grownBy w14 (some go9):=(by rw [hw];exact HP13.2);have hp_:Kd.R (Kd.int .u8) 5 w14 w.heap.size (fun _=>True) (.slice (some ⟨go9,0,none⟩) y364.length co9) y367:=(by rw [hw,Ny367.out];exact HP13.1);clear HP13;replace HO_3:=am (Kd.S_after (v:=(.slice (some ⟨go9,0,none⟩) y364.length co9)) (v1:=(.slice (some ⟨go9,0,none⟩) y364.length co9)) (ok:=(fun _=>True)) (yS HO_3) hg (.inl rfl));replace HO366:=am (hp_);replace HB:=am ((by rw [hw];exact pt (HB.out) GB9.out:Below w.heap.size w w14));clear hg hw hp_)|((with_reducible refine gate_builtin (b:=.append) (xs:=#[.tmp 16, .tmp 18]) rfl ?_);at_builtin;refine Kd.S_append (Kd.slice 5 (Kd.int .u8)) (w0:=w) w.heap.size rfl (.tmp 16) (.tmp 18) 25 24 (.slice none 0 0) 24 rfl Try.underlying25 info24 rfl D8 D11 u3 x3_1 y367 [.slice (some ⟨go9,0,none⟩) y364.length co9] (fun _=>True) (fun k_=>some k_=(.slice (some ⟨go9,0,none⟩) y364.length co9:Value).ownBlock) rfl rfl (by exact Kd.M_row (Kd.R_mono (Kd.R_tight rfl (Kd.R_mono (ok':=fun k_=>((fun _=>True)) k_∧some k_ ≠ (u3:Value).ownBlock) (Kd.R_apart' (HO366.out) (Kd.S_typed HO_3.out) D8) (fun k_ hk=>⟨trivial,hk.2⟩))) (fun _ h_=>h_))) (fun k_ hk_=>((Kd.R_mono (ok':=fun k_=>((fun _=>True)) k_∧some k_ ≠ (u3:Value).ownBlock) (Kd.R_apart' (HO366.out) (Kd.S_typed HO_3.out) D8) (fun k_ hk=>⟨trivial,hk.2⟩))).1 k_ hk_.symm) D41 (by exact (by refine sS ?_;exact Kd.S_mono HO_3.out (fun k_ hk=>⟨trivial,fun e_=>hk.2 e_⟩))) D55 D47 (by have:=LMc10.out;omega) ?_;intro v369 w15 ho hb hg hat;rw [← Ny368.out] at ho;have n0_:=am (hb);have n1_:=am (ho);clear HB HO_3 HO366;have HB:=n0_;have HO370:=n1_;clear n0_ n1_ ho hb hg hat))
    go_roundg k1
    case measure=>have:=HK1.out;omega
    case rel=>exact ⟨(y368),(wrap64 (x8_1+1)),D1,H',⟨D34⟩,⟨yS HO370⟩,⟨yW HB⟩⟩
   rw [if_neg c4] at H
   have c4b0:=decide_eq_false c4
   clear c4
   obtain rfl:=Option.some.inj H
   go_wp2
   go_ret
   exact ⟨_,D2,yS HO_3,yW HB⟩

def slices_Clone_byte_byte.f (l0:List Int):Option (List Int):=(some (([]:List Int):List Int)).bind fun y181=>(if y181.length+l0.length < 140737488355328 then (some (y181 ++ l0)) else (none))
theorem slices_Clone_byte_byte.calls (A0:Option Addr) (c0:Nat) (l0:List Int) (r:List Int) (w:World) (hr0:Kd.C (Kd.int .u8) w A0 l0.length l0) (hc0:l0.length≤c0) (h:slices_Clone_byte_byte.f l0=some r) :
  Calls Try.prog 142 #[.slice A0 l0.length c0] w fun e w'=>∃ v0_:Value,e = .returned (v0_)∧Kd.R (Kd.int .u8) 5 w' w.heap.size (fun _=>True) v0_ r∧Below w.heap.size w w':=by
 have HR0:=am hr0
 have HC0:=am hc0
 clear hr0 hc0
 have HB:=am (Below.refl w.heap.size w)
 have H:=h
 unfold slices_Clone_byte_byte.f at H
 clear h
 obtain ⟨y181,hy181,H⟩:=ys H
 have Ny181:=am hy181
 clear hy181
 by_cases c2:y181.length+l0.length < 140737488355328
 ·rw [if_pos c2] at H
  have LMc2:=am c2
  clear c2
  generalize hy184:(y181 ++ l0:List Int)=y184 at H
  have Ny184:=am hy184.symm
  clear hy184
  obtain rfl:=Option.some.inj H
  have keq:=fun (W:World) (a:Option Addr) (n c:Nat)=>Lib.run_eql_slice_nil (P:=Try.prog) W 24 5 a n c 0 0 Try.underlying24
  cases A0 with
  | none =>
   have e0:l0=[]:=by
    have hc:=HR0.out
    by_cases hp:0 < l0.length
    ·obtain ⟨ad,h1,_⟩:=hc.2.2 hp
     cases h1
    exact List.eq_nil_of_length_eq_zero D11
   have ey:y184=[]:=by rw [Ny184.out,Ny181.out,e0];rfl
   subst ey
   go_enter Try.func142,Try.ntmps142
   go_wp2
   go_ret
   exact ⟨_,rfl,Kd.R_nil _ _ _ _ _,HB.out⟩
  | some ad0 =>
  go_enter Try.func142,Try.ntmps142
  go_wp2_with (first|((with_reducible refine gD 5 ?_);refine Kd.R_lit (Kd.int .u8) _ 5 D15 (N:=5) D15 (xs:=([]:List Int)) (inner:=[]) (ok:=fun _=>True) (okp:=fun _=>True) D33 D51 (fun _ hk=>hk) trivial (Below.refl _ _) (Nat.le_refl _) D43 ?_;intro v182 w3 ho4 hb hg_ hnew_;clear hg_ hnew_;(first|rw [← Ny181.out] at ho4|(simp only [Int.reduceToNat] at ho4;rw [← Ny181.out] at ho4));have HO183:=am (Kd.R_lower ho4 (pz (yW HB)));replace HB:=yH HB hb;clear hb ho4)|((with_reducible refine gate_builtin (b:=.append) (xs:=#[.tmp 5, .tmp 6]) rfl ?_);at_builtin;refine Kd.R_append_rows (Kd.int .u8) (w0:=w) w.heap.size rfl (.tmp 5) (.tmp 6) 24 5 (.int .u8 0) 1 rfl Try.underlying24 info5 rfl D8 D11 v182 y181 l0 _ _ _ (fun _=>True) (fun _=>False) rfl rfl (by exact (yR HO183)) (by repeat (first|exact (Kd.C_below HR0.out HB.out)|(with_reducible refine Kd.C_alloc ?_ _)|(with_reducible refine Kd.C_drewN ?_ _)|(with_reducible refine Kd.C_drew ?_))) (fun _ _ h=>h) (fun _ h=>h.elim) D41 D55 D47 (by have:=LMc2.out;omega) ?_;intro v185 w5 ho hb hg hat;rw [← Ny184.out] at ho;have n0_:=am (hb);have n1_:=am (ho);clear HB HO183;have HB:=n0_;have HO186:=n1_;clear n0_ n1_ ho hb hg hat))
  go_ret
  exact ⟨_,D2,yR HO186,yW HB⟩
 rw [if_neg c2] at H
 exact absurd H D43

def impl_added.l0:Nat→List Int→List Int→List Int→Int→Int→Option (List Int)
 | 0,_,_,_,_,_=>none
 | k+1,x1,x5,x9,x10,x11=>if x11 < x10 then (if 0≤x11 then (if x11 < (x9.length:Int) then (if x11 < (x1.length:Int) then (if x5.length < 140737488355328 then (impl_added.l0 k x1 (x5 ++ [Go.bits .xor .u8 (rd x9 x11) (rd x1 x11)]) x9 x10 (wrap64 (x11+1))) else (none)) else (none)) else (none)) else (none)) else (some x5)
def impl_added.f (k:Nat) (l0:List Int) (l1:List Int):Option (List Int):=impl_added.l0 k l1 (([]:List Int)) l0 (l0.length:Int) 0
theorem impl_added.mono_l:∀ k,(∀ y0 y1 y2 y3 y4,LeO (impl_added.l0 k y0 y1 y2 y3 y4) (impl_added.l0 (k+1) y0 y1 y2 y3 y4))
 | 0=>fun _ _ _ _ _ r h=>by simp [impl_added.l0] at h
 | k+1=>by
  have ih0:=impl_added.mono_l k
  intro y0 y1 y2 y3 y4
  unfold impl_added.l0
  exact mm
theorem impl_added.mono:∀ a0 a1 k,LeO (impl_added.f k a0 a1) (impl_added.f (k+1) a0 a1):=by
 intro a0 a1 k
 have ih0:=impl_added.mono_l k
 unfold impl_added.f
 exact mm
theorem impl_added.calls (k:Nat) (A0:Option Addr) (c0:Nat) (l0:List Int) (A1:Option Addr) (c1:Nat) (l1:List Int) (r:List Int) (w:World) (hr0:Kd.C (Kd.int .u8) w A0 l0.length l0) (hc0:l0.length≤c0) (hr1:Kd.C (Kd.int .u8) w A1 l1.length l1) (hc1:l1.length≤c1) (h:impl_added.f k l0 l1=some r) :
  Calls Try.prog 118 #[.slice A0 l0.length c0, .slice A1 l1.length c1] w fun e w'=>∃ v0_:Value,e = .returned (v0_)∧Kd.R (Kd.int .u8) 5 w' w.heap.size (fun _=>True) v0_ r∧Below w.heap.size w w':=by
 have HR0:=am hr0
 have HC0:=am hc0
 clear hr0 hc0
 have HR1:=am hr1
 have HC1:=am hc1
 clear hr1 hc1
 have HB:=am (Below.refl w.heap.size w)
 have H:=h
 unfold impl_added.f at H
 clear h
 generalize hy371:(([]:List Int):List Int)=y371 at H
 have Ny371:=am hy371.symm
 clear hy371
 have H':=am H
 clear H
 go_enter Try.func118,Try.ntmps118
 go_wp2_with (first|((with_reducible refine gD 8 ?_);refine Kd.R_lit (Kd.int .u8) _ 5 D15 (N:=8) D15 (xs:=([]:List Int)) (inner:=[]) (ok:=fun _=>True) (okp:=fun _=>True) D33 D51 (fun _ hk=>hk) trivial (Below.refl _ _) (Nat.le_refl _) D43 ?_;intro v372 w3 ho4 hb hg_ hnew_;clear hg_ hnew_;(first|rw [← Ny371.out] at ho4|(simp only [Int.reduceToNat] at ho4;rw [← Ny371.out] at ho4));have HO373:=am (Kd.R_lower ho4 (pz (yW HB)));replace HB:=yH HB hb;clear hb ho4))
 go_loopg [5,11] k (fun kq v5 v11 w'=>∃ (x5_1:List Int) (x11_1:Int),v11 = .int .i64 x11_1∧Aside0 (impl_added.l0 kq l1 x5_1 l0 (l0.length:Int) x11_1=some r)∧Aside0 (kq≤k)∧Aside0 (Kd.R (Kd.int .u8) 5 w' w.heap.size (fun _=>True) v5 x5_1)∧Aside0 (Below w.heap.size w w'))
 case atStart=>exact ⟨(y371),(0),D1,H',⟨Nat.le_refl _⟩,⟨yR HO373⟩,⟨yW HB⟩⟩
 case round =>
  clear H'
  try clear c1
  try clear p2
  obtain ⟨x5_1,x11_1,rfl,HA,HK1,HO_5,HB⟩:=hrel
  cases gk with
  | zero=>exact absurd HA.out (by simp [impl_added.l0])
  | succ k1 =>
   have H:=HA.out
   clear HA
   simp only [impl_added.l0] at H
   by_cases c5:x11_1 < (l0.length:Int)
   ·rw [if_pos c5] at H
    have c5b0:=decide_eq_true c5
    clear c5
    obtain ⟨c6,H⟩:=yi H
    have c6b0:=decide_eq_true c6
    clear c6
    obtain ⟨c7,H⟩:=yi H
    have c7b0:=decide_eq_true c7
    clear c7
    obtain ⟨c8,H⟩:=yi H
    have c8b0:=decide_eq_true c8
    clear c8
    obtain ⟨c9,H⟩:=yi H
    have LMc9:=am c9
    clear c9
    generalize hy376:(x5_1 ++ [Go.bits .xor .u8 (rd l0 x11_1) (rd l1 x11_1)]:List Int)=y376 at H
    have Ny376:=am hy376.symm
    clear hy376
    have H':=am H
    clear H
    have p374:0≤(x11_1:Int):=od D0
    have q374:x11_1 < (l0.length:Int):=od D0
    obtain ⟨ad374,e374,hx374_0⟩:=Kd.at_int HR0.out x11_1 p374 q374
    cases e374
    replace hx374_0:=(HB.out.cell (World.block_lt_of_cell? w _ hx374_0)).trans hx374_0
    replace p374:=eq_true p374
    replace q374:=eq_true q374
    have p375:0≤(x11_1:Int):=od D0
    have q375:x11_1 < (l1.length:Int):=od D0
    obtain ⟨ad375,e375,hx375_0⟩:=Kd.at_int HR1.out x11_1 p375 q375
    cases e375
    replace hx375_0:=(HB.out.cell (World.block_lt_of_cell? w _ hx375_0)).trans hx375_0
    replace p375:=eq_true p375
    replace q375:=eq_true q375
    go_wp2_with (first|((with_reducible refine gate_builtin (b:=.append) (xs:=#[.tmp 16, .tmp 23]) rfl ?_);at_builtin;refine Kd.R_append (Kd.int .u8) (w0:=w) w.heap.size rfl (.tmp 16) (.tmp 23) 24 5 (.int .u8 0) 1 rfl Try.underlying24 info5 rfl D8 D11 u5 x5_1 (Go.bits .xor .u8 (rd l0 x11_1) (rd l1 x11_1)) [.int .u8 (Go.bits .xor .u8 (rd l0 x11_1) (rd l1 x11_1))] (fun _=>True) (fun _=>False) rfl rfl D79 (fun _ hk=>hk.elim) D41 (by exact (yR HO_5)) D55 D47 (by have:=LMc9.out;omega) ?_;intro v377 w10 ho hb hg hat;rw [← Ny376.out] at ho;have n0_:=am (hb);have n1_:=am (ho);clear HB HO_5;have HB:=n0_;have HO378:=n1_;clear n0_ n1_ ho hb hg hat))
    go_roundg k1
    case measure=>have:=HK1.out;omega
    case rel=>exact ⟨(y376),(wrap64 (x11_1+1)),D1,H',⟨D34⟩,⟨yR HO378⟩,⟨yW HB⟩⟩
   rw [if_neg c5] at H
   have c5b0:=decide_eq_false c5
   clear c5
   obtain rfl:=Option.some.inj H
   go_wp2
   go_ret
   exact ⟨_,D2,yR HO_5,yW HB⟩

def impl_Inverse.f (k:Nat) (a0:Int):Option (Int):=(impl_power.f k a0 254).bind fun t379=>(some t379)
theorem impl_Inverse.mono:∀ a0 k,LeO (impl_Inverse.f k a0) (impl_Inverse.f (k+1) a0):=by
 intro a0 k
 unfold impl_Inverse.f
 exact mm
theorem impl_Inverse.calls (k:Nat) (a0:Int) (r:Int) (w:World) (h:impl_Inverse.f k a0=some r) :
  Calls Try.prog 136 #[.int .u8 a0] w fun e w'=>e = .returned (.int .u8 r)∧Drawn0 w w':=by
 have H:=h
 unfold impl_Inverse.f at H
 clear h
 obtain ⟨t379,A2,H⟩:=yo H
 obtain rfl:=Option.some.inj H
 go_enter Try.func136,Try.ntmps136
 go_wp2_with (first|((with_reducible refine gC 88 ?_);refine gM (some 4) Try.func88 (args:=#[.int .u8 a0, .int .i64 254]) (impl_power.calls k a0 254 t379 _ A2.out) ?_;rintro e w' ⟨rfl,⟨nd,rfl⟩⟩;refine ⟨_,rfl,?_⟩))
 go_ret
 exact ⟨D1,D12⟩
section
section
open Go.Proofs.Yteflgifmdojahaa.Gf Go.Proofs.Yteflgifmdojahaa.Kit Go.Proofs.Yteflgifmdojahaa.KitW Go.Proofs.Yteflgifmdojahaa.KitN
namespace ImplElim
theorem impl_Times.ev_l0 (b:Nat) (hb:b < 256):∀ (n i o x:Nat),i+n=8→o < 256→x < 256 →
  Ev (fun k=>impl_Times.l0 k (b:Int) (o:Int) (i:Int) (x:Int)) ((T n o x (b / 2 ^ i):Nat):Int)
 | 0,i,o,x,hi,ho,hx=>by
  refine Ev.step (fun k=>impl_Times.l0.eq_2 _ _ _ _ k) ?_
  refine ev_neg D11 (ev_now ?_)
  simp only [T]
  omega
 | n+1,i,o,x,hi,ho,hx=>by
  refine Ev.step (fun k=>impl_Times.l0.eq_2 _ _ _ _ k) ?_
  refine ev_pos D11 (ev_pos D11 ?_)
  have e1:shr .u8 (b:Int) (i:Int)=((b / 2 ^ i:Nat):Int):=by
   unfold shr
   rw [Nat.min_eq_left (by simp only [IntKind.bits];omega)]
   simp
  have hd:b / 2 ^ i < 256:=Nat.lt_of_le_of_lt (Nat.div_le_self _ _) hb
  have e2:wrap64 ((x:Int)*2)=((2*x:Nat):Int):=by rw [wrap_id D11 D11];omega
  have e3:wrap64 ((i:Int)+1)=((i+1:Nat):Int):=by rw [wrap_id D11 D11];omega
  rw [e1,and1_u8 hd,e2,e3]
  have e4:Go.bits .xor .i64 (o:Int) (x:Int)=((o ^^^ x:Nat):Int):=xor_i64 D11 D11
  have e5:Go.bits .xor .i64 ((2*x:Nat):Int) 283=((2*x ^^^ 283:Nat):Int):=xor_i64 (m:=2*x) (n:=283) D11 D11
  have e6:b / 2 ^ i / 2=b / 2 ^ (i+1):=by rw [Nat.div_div_eq_div_mul,Nat.pow_succ]
  rw [e4,e5]
  have hT:T (n+1) o x (b / 2 ^ i)=T n (if b / 2 ^ i % 2=1 then o ^^^ x else o) (xt x) (b / 2 ^ (i+1)):=by rw [T,e6]
  rw [hT]
  have hxt:=xt_lt hx
  have hox:=xor_lt ho hx
  by_cases h1:b / 2 ^ i % 2=1
  ·rw [if_pos h1]
   refine ev_pos D11 ?_
   by_cases h2:2*x > 255
   ·refine ev_pos D11 ?_
    have:xt x=2*x ^^^ 283:=by unfold xt;rw [if_pos h2]
    rw [this] at hxt ⊢
    exact impl_Times.ev_l0 b hb n (i+1) _ _ D11 hox hxt
   refine ev_neg D11 ?_
   have:xt x=2*x:=by unfold xt;rw [if_neg h2]
   rw [this] at hxt ⊢
   exact impl_Times.ev_l0 b hb n (i+1) _ _ D11 hox hxt
  rw [if_neg h1]
  refine ev_neg D11 ?_
  by_cases h2:2*x > 255
  ·refine ev_pos D11 ?_
   have:xt x=2*x ^^^ 283:=by unfold xt;rw [if_pos h2]
   rw [this] at hxt ⊢
   exact impl_Times.ev_l0 b hb n (i+1) _ _ D11 ho hxt
  refine ev_neg D11 ?_
  have:xt x=2*x:=by unfold xt;rw [if_neg h2]
  rw [this] at hxt ⊢
  exact impl_Times.ev_l0 b hb n (i+1) _ _ D11 ho hxt
theorem impl_Times.ev {a b:Int} (ha:Byte a) (hb:Byte b):Ev (fun k=>impl_Times.f k a b) (mul a b):=by
 obtain ⟨m,hm,rfl⟩:=ha.nat
 obtain ⟨n,hn,rfl⟩:=hb.nat
 unfold impl_Times.f
 rw [wrap_id D11 D11]
 have h:=impl_Times.ev_l0 n hn 8 0 0 m rfl D8 hm
 exact ev_eq h (by unfold Gf.mul gm;simp)
theorem impl_power.ev_l0:∀ (N n:Nat) (a o:Int),n≤N→n < 4294967296→Byte a→Byte o→Ev (fun k=>impl_power.l0 k a (n:Int) o) (mul o (pow a n)):=by
 intro N
 induction N with
 | zero =>
  intro n a o hN hn ha ho
  obtain rfl:n=0:=by omega
  refine Ev.step (fun k=>impl_power.l0.eq_2 _ _ _ k) ?_
  exact ev_neg D11 (ev_now (by rw [pow_zero,mul_one ho]))
 | succ N ih =>
  intro n a o hN hn ha ho
  refine Ev.step (fun k=>impl_power.l0.eq_2 _ _ _ k) ?_
  by_cases h0:n=0
  ·subst h0
   exact ev_neg D11 (ev_now (by rw [pow_zero,mul_one ho]))
  refine ev_pos D11 ?_
  have e:((n:Int) / 2)=((n / 2:Nat):Int):=by omega
  have haa:=Byte.mul ha a
  have hsq:pow (mul a a) (n / 2)=pow a (2*(n / 2)):=by rw [pow_mul ha,pow_two ha]
  rw [and1_i64 hn,e]
  by_cases h1:n % 2=1
  ·refine ev_pos D11 ?_
   refine ev_bind (impl_Times.ev ho ha) (ev_bind (impl_Times.ev ha ha) ?_)
   refine ev_eq (ih (n / 2) _ _ D11 D11 haa (Byte.mul ho a)) ?_
   have hn2:n=1+2*(n / 2):=by omega
   rw [hsq,mul_assoc ho ha (Byte.pow ha _)]
   conv=>rhs;rw [hn2,pow_add ha,pow_one ha]
  refine ev_neg D11 ?_
  refine ev_bind (impl_Times.ev ha ha) ?_
  refine ev_eq (ih (n / 2) _ _ D11 D11 haa ho) ?_
  have hn2:n=2*(n / 2):=by omega
  rw [hsq,← hn2]
theorem impl_power.ev {a:Int} (ha:Byte a) (n:Nat) (hn:n < 4294967296):Ev (fun k=>impl_power.f k a (n:Int)) (pow a n):=by
 unfold impl_power.f
 refine ev_eq (impl_power.ev_l0 n n a 1 (Nat.le_refl _) hn ha .one) ?_
 exact one_mul (Byte.pow ha n)
theorem impl_Inverse.ev {a:Int} (ha:Byte a):Ev (fun k=>impl_Inverse.f k a) (inv a):=by
 unfold impl_Inverse.f
 exact ev_bind (impl_power.ev ha 254 D8) (ev_now (inv_pow a).symm)
theorem impl_scaled.ev_l0 (a:Int) (ha:Byte a) (v:List Int) (hv:Bytes v) (hs:v.length < 140737488355328):∀ (n i:Nat) (o:List Int),i+n=v.length→o=(scale a v).take i →
  Ev (fun k=>impl_scaled.l0 k a o v (v.length:Int) (i:Int)) (scale a v)
 | 0,i,o,hi,ho=>by
  refine Ev.step (fun k=>impl_scaled.l0.eq_2 _ _ _ _ _ k) ?_
  refine ev_neg D11 (ev_now ?_)
  subst ho
  rw [List.take_of_length_le (by rw [scale_length];omega)]
 | n+1,i,o,hi,ho=>by
  have hz:=scale_length a v
  have hlen:o.length=i:=by rw [ho,List.length_take,hz];omega
  refine Ev.step (fun k=>impl_scaled.l0.eq_2 _ _ _ _ _ k) ?_
  refine ev_pos D11 (ev_pos D11 (ev_pos D11 ?_))
  refine ev_bind (impl_Times.ev ha (bytes_rd hv D11)) ?_
  refine ev_pos D11 ?_
  rw [inc D11,rd_get D11]
  refine impl_scaled.ev_l0 a ha v hv hs n (i+1) _ D11 ?_
  rw [List.take_succ_eq_append_getElem D11,← ho]
  simp [scale]
theorem impl_scaled.ev {a:Int} (ha:Byte a) {v:List Int} (hv:Bytes v) (hs:v.length < 140737488355328):Ev (fun k=>impl_scaled.f k a v) (scale a v):=by
 unfold impl_scaled.f
 exact impl_scaled.ev_l0 a ha v hv hs v.length 0 [] D11 rfl
theorem impl_added.ev_l0 (v w:List Int) (hv:Bytes v) (hw:Bytes w) (hl:v.length=w.length) (hs:v.length < 140737488355328):∀ (n i:Nat) (o:List Int),i+n=v.length→o=(addV v w).take i →
  Ev (fun k=>impl_added.l0 k w o v (v.length:Int) (i:Int)) (addV v w)
 | 0,i,o,hi,ho=>by
  refine Ev.step (fun k=>impl_added.l0.eq_2 _ _ _ _ _ k) ?_
  refine ev_neg D11 (ev_now ?_)
  subst ho
  rw [List.take_of_length_le (by rw [addV_length];omega)]
 | n+1,i,o,hi,ho=>by
  have hz:=addV_length v w
  have hlen:o.length=i:=by rw [ho,List.length_take,hz];omega
  refine Ev.step (fun k=>impl_added.l0.eq_2 _ _ _ _ _ k) ?_
  refine ev_pos D11 (ev_pos D11 (ev_pos D11 (ev_pos D11 (ev_pos D11 ?_))))
  rw [inc D11,xor_u8 (bytes_rd hv D11) (bytes_rd hw D11),rd_get D11,rd_get D11]
  refine impl_added.ev_l0 v w hv hw hl hs n (i+1) _ D11 ?_
  rw [List.take_succ_eq_append_getElem D11,← ho]
  simp [addV]
theorem impl_added.ev {v w:List Int} (hv:Bytes v) (hw:Bytes w) (hl:v.length=w.length) (hs:v.length < 140737488355328):Ev (fun k=>impl_added.f k v w) (addV v w):=by
 unfold impl_added.f
 exact impl_added.ev_l0 v w hv hw hl hs v.length 0 [] D11 rfl
end ImplElim
/-- The test of one row: has it something at k? -/
theorem el_test (gk:Nat) (k:Nat) (A:Option Addr) (c:Nat) (l:List Int) (okf:Nat→Prop) (hk:k < l.length) (W:World)
  (hbox:W.cell? ⟨gk,0,none⟩=some (.int .i64 k)) (hF:Kd.F (Kd.int .u8) W okf A l.length l) :
  Calls Try.prog 160 #[.slice A l.length c, .pointer (some ⟨gk,0,none⟩)] W fun e w'=>e = .returned (.bool (l.getD k 0 != 0))∧Drawn0 W w':=by
 obtain ⟨ad,rfl,hc⟩:=F_byte hF k hk
 clear hF
 obtain ⟨x,hx⟩:∃ x,x=l.getD k 0:=⟨_,rfl⟩
 rw [← hx] at hc ⊢
 obtain ⟨n,hn⟩:∃ n,n=l.length:=⟨_,rfl⟩
 rw [← hn] at hk ⊢
 clear hx hn
 have hkz:(k:Int) < (n:Int):=by omega
 go_enter Try.func160,Try.ntmps160
 go_wp2
 go_ret
 exact ⟨by first|rfl|(simp [bne];done),Drawn0.refl _⟩
set_option maxHeartbeats 4000000 in
theorem el_IndexFunc (g:Nat) (eg:∀ args w,(callFunc g args).run Try.prog w = .ok (.enter g args) w) (fv:Value) (p:Nat→Bool) (ad:Addr) (n c:Nat) (v:Nat→Value) (w:World) (hbig:n≤9223372036854775806)
  (hc:∀ i,i < n→w.cell? (ad.add i)=some (v i))
  (hp:∀ i,i < n→∀ W,Drawn0 w W→Calls Try.prog g #[v i,fv] W fun e w'=>e = .returned (.bool (p i))∧Drawn0 W w') :
  Calls Try.prog 159 #[.slice (some ad) n c, .func (.func g) #[] #[fv]] w fun e w'=>(∃ r,e = .returned (.int .i64 r)∧IdxOf p n r)∧Drawn0 w w':=by
 have HP:=am hp
 have HC:=am hc
 clear hp hc
 go_enter Try.func159,Try.ntmps159
 go_wp2
 go_loopg [5,8] n (fun gg _ s8 wr=>∃ kk:Nat,kk≤n∧n - kk≤gg∧s8 = .int .i64 kk∧Aside0 (Drawn0 w wr)∧Aside0 (∀ j,j < kk→p j=false))
 case atStart=>exact ⟨0,Nat.zero_le _,D11,rfl,⟨Drawn0.refl _⟩,⟨fun j hj=>absurd hj (Nat.not_lt_zero _)⟩⟩
 case round =>
  obtain ⟨kk,hkk,hg,rfl,HD,HA⟩:=hrel
  by_cases hlt:kk < n
  ·have hltz:(kk:Int) < (n:Int):=by omega
   have hcell:wr.cell? (ad.add kk)=some (v kk):=by
    obtain ⟨q,rfl⟩:=HD.out.out
    exact HC.out kk hlt
   have hcall:=HP.out kk hlt
   cases hq:p kk with
   | true =>
    rw [hq] at hcall
    have HQ:=am hq
    clear hq
    have HX:=am hcall
    clear hcall
    go_wp2_with (go_at_fn g;refine (HX.out _ ?dr).mono ?_;(case dr=>exact HD.out);rintro e w' ⟨rfl,hd⟩)
    go_ret
    exact ⟨⟨_,rfl, .inr ⟨kk,hlt,rfl,HQ.out,HA.out⟩⟩,drawn_trans HD.out hd⟩
   | false =>
    rw [hq] at hcall
    have HQ:=am hq
    clear hq
    have HX:=am hcall
    clear hcall
    go_wp2_with (go_at_fn g;refine (HX.out _ ?dr).mono ?_;(case dr=>exact HD.out);rintro e w' ⟨rfl,hd⟩)
    go_roundg (n - (kk+1))
    case measure=>omega
    case rel=>exact ⟨kk+1,D11,D11,by go_num,⟨drawn_trans HD.out hd⟩,⟨fun j hj=>by by_cases e:j=kk;exact e ▸ HQ.out;exact HA.out j D11⟩⟩
  have hltz:¬ (kk:Int) < (n:Int):=by omega
  have:kk=n:=by omega
  subst this
  go_wp2
  go_ret
  exact ⟨⟨_,rfl, .inl ⟨rfl,HA.out⟩⟩,HD.out⟩
section
theorem el_lift {R1:List (List Int)} {a p k:Nat} {r0 r1:List Int} (h0:R1.getD a []=r0) (h1:R1.getD p []=r1):((R1.set a r1).set p r0).set a (scale (inv (r1.getD k 0)) r1)=rowI.lift R1 k a p:=by
 show _=(R1.set p (R1.getD a [])).set a (scale (inv ((R1.getD p []).getD k 0)) (R1.getD p []))
 rw [h0,h1]
 by_cases e:a=p
 ·subst e;rw [List.set_set,List.set_set,List.set_set]
 rw [List.set_comm _ _ e,List.set_set]
theorem el_top {R1:List (List Int)} {a p:Nat} {r0 r1:List Int} (ha:a < R1.length) (h0:R1.getD a []=r0) (h1:R1.getD p []=r1):((R1.set a r1).set p r0).getD a []=r1:=by
 by_cases e:p=a
 ·subst e
  rw [List.set_set,List.getD_eq_getElem?_getD,List.getElem?_set_self ha,← h1,h0];rfl
 rw [List.getD_eq_getElem?_getD,List.getElem?_set_ne e,List.getElem?_set_self ha];rfl
theorem el_clr_skip {R:List (List Int)} {k a r:Nat} {x:List Int} (hx:(rowI.clr k a R r).getD r []=x) (h:r=a∨x.getD k 0=0):rowI.clr k a R (r+1)=rowI.clr k a R r:=by
 show (if r ≠ a∧((rowI.clr k a R r).getD r []).getD k 0 ≠ 0 then _ else rowI.clr k a R r)=_
 rw [hx,if_neg]
 intro z
 rcases h with e|e
 ·exact z.1 e
 exact z.2 e
theorem el_clr_do {R:List (List Int)} {k a r:Nat} {x y:List Int} (hx:(rowI.clr k a R r).getD r []=x) (hy:(rowI.clr k a R r).getD a []=y) (h:r ≠ a) (h2:x.getD k 0 ≠ 0):rowI.clr k a R (r+1)=(rowI.clr k a R r).set r (addV x (scale (x.getD k 0) y)):=by
 show (if r ≠ a∧((rowI.clr k a R r).getD r []).getD k 0 ≠ 0 then (rowI.clr k a R r).set r (addV ((rowI.clr k a R r).getD r []) (scale (((rowI.clr k a R r).getD r []).getD k 0) ((rowI.clr k a R r).getD a []))) else rowI.clr k a R r)=_
 rw [hx,hy,if_pos ⟨h,h2⟩]
end
theorem el_none {R R1:List (List Int)} {k a len:Nat} (hq:(R1,a)=rowI.red R k) (hl:R.length=len) (ha:a < len) (hl1:R1.length=len) (h:∀ i,i < len - a→((R1.getD (a+i) []).getD k 0 != 0)=false):rowI.red R (k+1)=(R1,a):=by
 show (if (rowI.red R k).2 < R.length then rowI.stp k (rowI.red R k) else rowI.red R k)=_
 rw [← hq,hl,if_pos ha]
 unfold RowK.stp
 have e:rowI.piv R1 k a=none:=RowK.piv_none (fun j h1 h2=>by
  have h3:=h (j - a) D11
  rw [show a+(j - a)=j by omega] at h3
  exact Decidable.of_not_not fun z=>by
   have z2:((R1.getD j []).getD k 0 != 0)=true:=bne_iff_ne.2 z
   rw [z2] at h3;cases h3)
 show (match rowI.piv R1 k a with|none=>(R1,a)|some i=>(rowI.clr k a (rowI.lift R1 k a i) R1.length,a+1))=_
 rw [e]
theorem el_some {R R1:List (List Int)} {k a len i:Nat} (hq:(R1,a)=rowI.red R k) (hl:R.length=len) (ha:a < len) (hl1:R1.length=len) (hi:i < len - a) (hp:((R1.getD (a+i) []).getD k 0 != 0)=true) (h:∀ j,j < i→((R1.getD (a+j) []).getD k 0 != 0)=false):rowI.red R (k+1)=(rowI.clr k a (rowI.lift R1 k a (a+i)) len,a+1):=by
 show (if (rowI.red R k).2 < R.length then rowI.stp k (rowI.red R k) else rowI.red R k)=_
 rw [← hq,hl,if_pos ha]
 unfold RowK.stp
 have e:rowI.piv R1 k a=some (a+i):=RowK.piv_some D11 D11 (bne_iff_ne.1 hp) (fun j h1 h2=>by
  have h3:=h (j - a) D11
  rw [show a+(j - a)=j by omega] at h3
  exact Decidable.of_not_not fun z=>by
   have z2:((R1.getD j []).getD k 0 != 0)=true:=bne_iff_ne.2 z
   rw [z2] at h3;cases h3)
 show (match rowI.piv R1 k a with|none=>(R1,a)|some i=>(rowI.clr k a (rowI.lift R1 k a i) R1.length,a+1))=_
 rw [e,← hl1]
structure EL (w0:World) (g cap len gb k m:Nat) (R:List (List Int)) (wr:World):Prop where
 N:Kd.N (Kd.slice 5 (Kd.int .u8)) 24 wr w0.heap.size (fun b=>b ≠ gb) (.slice (some ⟨g,0,none⟩) len cap) R
 box:wr.heap[gb]? = some (.cells #[.int .i64 k] 3 (0,0))
 B:Below w0.heap.size w0 wr
 low:w0.heap.size≤gb
 all:∀ r ∈ R,okI m r
section
variable {w0 wr w1:World} {g cap len gb k m:Nat} {R:List (List Int)}
theorem EL.ne (h:EL w0 g cap len gb k m R wr):gb ≠ g:=fun e=>Kd.N_ne h.N h.box D8 (by rw [e];simp [Value.ownBlock])
theorem EL.below (h:EL w0 g cap len gb k m R wr) (hb:Below wr.heap.size wr w1):EL w0 g cap len gb k m R w1 :=
 ⟨Kd.N_below h.N hb,qb h.box hb,pu h.B hb,h.low,h.all⟩
theorem EL.first {okn:Nat→Prop} (hN:Kd.N (Kd.slice 5 (Kd.int .u8)) 24 wr w0.heap.size okn (.slice (some ⟨g,0,none⟩) len cap) R) (hB:Below w0.heap.size w0 wr) (hR:∀ r ∈ R,okI m r) (k:Nat) :
  EL w0 g cap len wr.heap.size k m R (wr.alloc (.cells #[.int .i64 k] 3 (0,0))) :=
 ⟨Kd.N_mono (Kd.N_alloc (Kd.N_bound hN) _) (fun k hk=>by have:=hk.2;omega),heap_alloc_new wr _,pa hB _,hB.size,hR⟩
theorem EL.size (h:EL w0 g cap len gb k m R wr):R.length=len:=(N_len h.N).1.symm
theorem EL.row (h:EL w0 g cap len gb k m R wr) (i:Nat) (hi:i < len) :
  ∃ r A c,R.getD i []=r∧okI m r∧wr.cell? ⟨g,i,none⟩=some (.slice A m c)∧m≤c∧Kd.F (Kd.int .u8) wr (fun b=>b ≠ gb∧b ≠ g) A m r∧wr.frozen? ⟨g,i,none⟩=false:=by
 obtain ⟨A,c,h1,h2,h3,h4⟩:=N_row h.N i hi
 have hr:okI m (R.getD i []):=RowK.at_all (O:=rowI) h.all (by rw [h.size];exact hi)
 rw [hr.2] at h1 h2 h3
 exact ⟨_,A,c,rfl,hr,h1,h2,h3,h4⟩
theorem EL.put (h:EL w0 g cap len gb k m R wr) (i:Nat) (hi:i < len) {A:Option Addr} {c:Nat} {x:List Int} (hx:okI m x) (hc:m≤c) (hF:Kd.F (Kd.int .u8) wr (fun b=>b ≠ gb∧b ≠ g) A m x) :
  EL w0 g cap len gb k m (R.set i x) (wr.setCell ⟨g,i,none⟩ (.slice A m c)):=by
 obtain ⟨h1,h2⟩:=N_put h.N i hi (A:=A) (c:=c) (x:=x) (okp:=fun b=>b ≠ gb∧b ≠ g) (by rw [hx.2];exact hc) (by rw [hx.2];exact hF) (fun _ hk=>hk)
 rw [hx.2] at h1 h2
 exact ⟨h1,blk_grown h.box h2 (fun e=>h.ne (by injection e)),pt h.B (Kd.N_base h.N g D81),h.low,el_set_all h.all hx i⟩
theorem EL.fresh (h:EL w0 g cap len gb k m R wr) {A:Option Addr} {n c:Nat} {x:List Int} (ho:Kd.R (Kd.int .u8) 5 w1 wr.heap.size (fun _=>True) (.slice A n c) x) :
  Kd.F (Kd.int .u8) w1 (fun b=>b ≠ gb∧b ≠ g) A n x:=by
 have hg:=Kd.N_lt h.N g D81
 have hb:=blk_lt h.box
 exact Kd.R_F (Kd.R_mono (Kd.R_bound ho) (fun b hk=>by have:=hk.2.1;omega))
theorem EL.key (h:EL w0 g cap len gb k m R wr):wr.cell? ⟨gb,0,none⟩=some (.int .i64 k):=(blk_cell h.box 0).trans rfl
end
theorem impl_eliminate.calls (R:List (List Int)) (m n:Nat) (hR:∀ r ∈ R,okI m r) (hn:n≤m) (hm:m≤1000000) (hl:R.length≤1000) (g cap len:Nat) (hlen:R.length=len) (w0 w:World) (hB:Below w0.heap.size w0 w)
  (hN:Kd.N (Kd.slice 5 (Kd.int .u8)) 24 w w0.heap.size (fun _=>True) (.slice (some ⟨g,0,none⟩) len cap) R) :
  Calls Try.prog 143 #[.slice (some ⟨g,0,none⟩) len cap, .int .i64 n] w fun e w'=>e = .returned (.int .i64 ((rowI.red R n).2:Nat)) ∧
   Kd.N (Kd.slice 5 (Kd.int .u8)) 24 w' w0.heap.size (fun _=>True) (.slice (some ⟨g,0,none⟩) len cap) (rowI.red R n).1∧Below w0.heap.size w0 w':=by
 have hnc:len≤cap:=(N_len hN).2
 have hll:len≤1000:=by omega
 have HN:=am hN
 have HB:=am hB
 have HR:=am hR
 have HL:=am hlen
 clear hN hB hR hlen
 go_enter Try.func143,Try.ntmps143
 go_wp2_with fail
 go_loopg [5,6] (n+1) (fun fu v5 v6 wr=>∃ k gb:Nat,k≤n∧n - k < fu∧v5 = .int .i64 ((rowI.red R k).2:Nat)∧v6 = .pointer (some ⟨gb,0,none⟩)∧Aside0 (EL w0 g cap len gb k m (rowI.red R k).1 wr))
 case atStart=>exact ⟨0,w.heap.size,Nat.zero_le _,D11,rfl,rfl,⟨EL.first HN.out HB.out HR.out 0⟩⟩
 case round =>
  obtain ⟨k,gb,hk,hfu,rfl,rfl,HE⟩:=hrel
  have HA:=am (RowK.red_all (shutI m) HR.out k)
  obtain ⟨q,hq⟩:∃ q,q=rowI.red R k:=⟨_,rfl⟩
  rw [← hq] at HE HA ⊢
  have HQ:=am hq
  clear hq
  obtain ⟨R1,a⟩:=q
  have hlen1:R1.length=len:=by rw [show R1=(rowI.red R k).1 by rw [← HQ.out],RowK.red_length,HL.out]
  have ha:a≤len:=by
   have h2:=(RowK.red_rank (O:=rowI) R k).2
   rw [← HQ.out,HL.out] at h2
   exact h2
  have hbox:wr.cell? ⟨gb,0,none⟩=some (.int .i64 k):=(blk_cell HE.out.box 0).trans rfl
  by_cases hkn:k < n
  case neg =>
   have e:k=n:=by omega
   subst e
   have hkz:¬ (k:Int) < (k:Int):=by omega
   have hdk:decide ((k:Int) < (k:Int))=false:=decide_eq_false hkz
   go_wp2
   go_ret
   refine ⟨?_,?_,HE.out.B⟩
   ·rw [← HQ.out];rfl
   rw [← HQ.out];exact Kd.N_mono HE.out.N (fun _ _=>trivial)
  have hkz:(k:Int) < (n:Int):=by omega
  have hdk:decide ((k:Int) < (n:Int))=true:=decide_eq_true hkz
  by_cases hal:a < len
  case neg =>
   have e:a=len:=by omega
   subst e
   have haz:¬ (a:Int) < (a:Int):=by omega
   have hda:decide ((a:Int) < (a:Int))=false:=decide_eq_false haz
   go_wp2
   go_ret
   have hf:(rowI.red R k).2=R.length:=by rw [← HQ.out,HL.out]
   have e2:=RowK.red_full hf (n - k)
   rw [show k+(n - k)=n by omega] at e2
   rw [e2,← HQ.out]
   exact ⟨rfl,Kd.N_mono HE.out.N (fun _ _=>trivial),HE.out.B⟩
  have haz:(a:Int) < (len:Int):=by omega
  have hda:decide ((a:Int) < (len:Int))=true:=decide_eq_true haz
  have hac:(cap=a)=False:=eq_false D11
  have halc:a≤cap:=by omega
  go_wp2_with fail
  have hcell:∀ i,i < len - a→wr.cell? ⟨g,a+i,none⟩=some ((wr.cell? ⟨g,a+i,none⟩).getD undef):=fun i hi=>by
   obtain ⟨A,c,e,_⟩:=N_row HE.out.N (a+i) D11
   rw [e];rfl
  refine (el_IndexFunc 160 (enters_of Try.func160 rfl rfl) (.pointer (some ⟨gb,0,none⟩)) (fun i=>(R1.getD (a+i) []).getD k 0 != 0) ⟨g,a,none⟩ (len - a) (cap - a) (fun i=>(wr.cell? ⟨g,a+i,none⟩).getD undef) wr D11 (fun i hi=>by rw [add_at];exact hcell i hi) (fun i hi W hd=>?_)).mono ?_
  ·obtain ⟨A,c,e,hle,hF,_⟩:=N_row HE.out.N (a+i) D11
   obtain ⟨q,rfl⟩:=hd.out
   rw [e]
   have hlk:k < (R1.getD (a+i) []).length:=by
    have:=(RowK.at_all (O:=rowI) HA.out (i:=a+i) D11).2
    rw [show (rowI.nul:List Int)=[] from rfl] at this
    omega
   exact el_test gb k A c _ _ hlk _ hbox (Kd.F_drewN hF q)
  clear hcell
  rintro e w' ⟨⟨r,rfl,hr⟩,⟨q,rfl⟩⟩
  have hE1:=HE.out.below (w1:=wr.drewN q) (pb (Below.refl _ _) q)
  clear HE hbox
  have HE:=am hE1
  clear hE1
  generalize wr.drewN q=wr at HE ⊢
  have hbox:wr.cell? ⟨gb,0,none⟩=some (.int .i64 k):=(blk_cell HE.out.box 0).trans rfl
  rcases hr with ⟨rfl,hnone⟩ | ⟨i,hi,rfl,hp,hfirst⟩
  ·have hst:=el_none HQ.out HL.out hal hlen1 hnone
   have HS:=am hst
   clear hst
   go_wp2_with fail
   go_roundg (gk - 1)
   case measure=>omega
   case rel=>exact ⟨k+1,wr.heap.size,D11,D11,by rw [HS.out],by first|rfl|(simp;done),⟨by rw [HS.out];exact EL.first HE.out.N HE.out.B HE.out.all (k+1)⟩⟩
  have hst:=el_some HQ.out HL.out hal hlen1 hi hp hfirst
  have HS:=am hst
  clear hst
  replace hp:((R1.getD (a+i) []).getD k 0 != 0)=true:=hp
  have HP:=am hp
  clear hp hfirst
  have hneg:¬ ((i:Int) < 0):=by omega
  have hdn:decide ((i:Int) < 0)=false:=decide_eq_false hneg
  obtain ⟨p,hpe⟩:∃ p,p=a+i:=⟨_,rfl⟩
  have hpl:(p:Int) < (len:Int):=by omega
  have hp0:p < len:=by omega
  have hap:a≤p:=by omega
  rw [← hpe] at HP HS
  have hw:wrap64 ((a:Int)+(i:Int))=(p:Int):=by rw [hpe,wrap_id D11 D11];omega
  go_wp2_with fail
  clear hpe
  have hbm:k < m:=by omega
  replace HE:=am (HE.out.below (pd (Below.refl _ _)))
  obtain ⟨r1,A1,c1,hr1,hok1,hcell1,hle1,hF1,hfr1⟩:=HE.out.row p hp0
  obtain ⟨r0,A0,c0,hr0,hok0,hcell0,hle0,hF0,hfr0⟩:=HE.out.row a hal
  refine start_ (n:=20) (S:=fun w'=>w'.cell? ⟨g,p,none⟩=some (.slice A1 m c1)∧w'.cell? ⟨g,a,none⟩=some (.slice A0 m c0)) (ds:=[17,19]) #[Z,Z,Z,Z,Z,Z,Z,Z,Z,Z,Z,Z,Z,Z,Z,Z,Z,Z,Z,Z] D5 rfl rfl ⟨hcell1,hcell0⟩ (fun hHeld=>?_)
  generalize wr.drew=wr at HE hHeld hF1 hF0 hcell0 hcell1 hfr0 hfr1 ⊢
  have HF1:=am hF1
  have HF0:=am hF0
  clear hF1 hF0 hbox
  refine pure_ (i:=0) (N:=some 28) (v:=_) (a':=_) #[Y,Z,Z,Z,Z,Z,Z,Z,Z,Z,Z,Z,Z,Z,Z,Z,Z,Z,Z,Z] rfl rfl D5 hh (Or.inl ⟨D15,nP⟩) nQ ?_
  refine pure_ (i:=1) (N:=some 29) (v:=_) (a':=_) #[Y,Y,Z,Z,Z,Z,Z,Z,Z,Z,Z,Z,Z,Z,Z,Z,Z,Z,Z,Z] rfl rfl D5 hh (Or.inl ⟨D15,nP⟩) nQ ?_
  refine pure_ (i:=6) (N:=some 34) (v:=_) (a':=_) #[Y,Y,Z,Z,Z,Z,Y,Z,Z,Z,Z,Z,Z,Z,Z,Z,Z,Z,Z,Z] rfl rfl D5 hh (Or.inl ⟨D15,nP⟩) nQ ?_
  refine pure_ (i:=7) (N:=some 35) (v:=_) (a':=_) #[Y,Y,Z,Z,Z,Z,Y,Y,Z,Z,Z,Z,Z,Z,Z,Z,Z,Z,Z,Z] rfl rfl D5 hh (Or.inl ⟨D15,nP⟩) nQ ?_
  refine pure_ (i:=8) (N:=some 36) (v:=_) (a':=_) #[Y,Y,Z,Z,Z,Z,Y,Y,Y,Z,Z,Z,Z,Z,Z,Z,Z,Z,Z,Z] rfl rfl D5 hh (Or.inl ⟨D15,nP⟩) nQ ?_
  refine pure_ (i:=9) (N:=some 37) (v:=_) (a':=_) #[Y,Y,Z,Z,Z,Z,Y,Y,Y,Y,Z,Z,Z,Z,Z,Z,Z,Z,Z,Z] rfl rfl D5 hh (Or.inl ⟨D15,nP⟩) nQ ?_
  refine pure_ (i:=10) (N:=some 38) (v:=_) (a':=_) #[Y,Y,Z,Z,Z,Z,Y,Y,Y,Y,Y,Z,Z,Z,Z,Z,Z,Z,Z,Z] rfl rfl D5 hh (Or.inl ⟨D15,nP⟩) nQ ?_
  refine pure_ (i:=12) (N:=some 40) (v:=_) (a':=_) #[Y,Y,Z,Z,Z,Z,Y,Y,Y,Y,Y,Z,Y,Z,Z,Z,Z,Z,Z,Z] rfl rfl D5 hh (Or.inl ⟨D15,nP⟩) nQ ?_
  refine pure_ (i:=13) (N:=some 41) (v:=_) (a':=_) #[Y,Y,Z,Z,Z,Z,Y,Y,Y,Y,Y,Z,Y,Y,Z,Z,Z,Z,Z,Z] rfl rfl D5 hh (Or.inl ⟨D15,nP⟩) nQ ?_
  refine pure_ (i:=14) (N:=some 42) (v:=_) (a':=_) #[Y,Y,Z,Z,Z,Z,Y,Y,Y,Y,Y,Z,Y,Y,Y,Z,Z,Z,Z,Z] rfl rfl D5 hh (Or.inl ⟨D15,nP⟩) nQ ?_
  refine take_ (i:=11) (N:=some 39) (v:=?_) (a':=?_) #[Y,Y,Z,Z,Z,Z,Y,Y,Y,Y,Y,Y,Y,Y,Y,Z,Z,Z,Z,Z] rfl rfl D5 hh (Or.inl ⟨D15,?_⟩) hHeld ?_ ?_
  rotate_left
  ·rintro w' ⟨s0,s1⟩
   go_simp
   with_reducible rfl
  rotate_left
  ·simp only [Act.put,q1,q2,q3,i64_w,i32_w]
   rfl
  refine take_ (i:=15) (N:=some 43) (v:=?_) (a':=?_) #[Y,Y,Z,Z,Z,Z,Y,Y,Y,Y,Y,Y,Y,Y,Y,Y,Z,Z,Z,Z] rfl rfl D5 hh (Or.inl ⟨D15,?_⟩) hHeld ?_ ?_
  rotate_left
  ·rintro w' ⟨s0,s1⟩
   go_simp
   with_reducible rfl
  rotate_left
  ·simp only [Act.put,q1,q2,q3,i64_w,i32_w]
   rfl
  refine pure_ (i:=2) (N:=some 30) (v:=_) (a':=_) #[Y,Y,Y,Z,Z,Z,Y,Y,Y,Y,Y,Y,Y,Y,Y,Y,Z,Z,Z,Z] rfl rfl D5 hh (Or.inl ⟨D15,nP⟩) nQ ?_
  refine pure_ (i:=3) (N:=some 31) (v:=_) (a':=_) #[Y,Y,Y,Y,Z,Z,Y,Y,Y,Y,Y,Y,Y,Y,Y,Y,Z,Z,Z,Z] rfl rfl D5 hh (Or.inl ⟨D15,nP⟩) nQ ?_
  refine pure_ (i:=4) (N:=some 32) (v:=_) (a':=_) #[Y,Y,Y,Y,Y,Z,Y,Y,Y,Y,Y,Y,Y,Y,Y,Y,Z,Z,Z,Z] rfl rfl D5 hh (Or.inl ⟨D15,nP⟩) nQ ?_
  refine pure_ (i:=5) (N:=some 33) (v:=_) (a':=_) #[Y,Y,Y,Y,Y,Y,Y,Y,Y,Y,Y,Y,Y,Y,Y,Y,Z,Z,Z,Z] rfl rfl D5 hh (Or.inl ⟨D15,nP⟩) nQ ?_
  refine pure_ (i:=16) (N:=some 44) (v:=_) (a':=_) #[Y,Y,Y,Y,Y,Y,Y,Y,Y,Y,Y,Y,Y,Y,Y,Y,Y,Z,Z,Z] rfl rfl D5 hh (Or.inl ⟨D15,nP⟩) nQ ?_
  refine last_ (i:=17) (N:=none) #[Y,Y,Y,Y,Y,Y,Y,Y,Y,Y,Y,Y,Y,Y,Y,Y,Y,Y,Z,Z] rfl rfl D5 D8 (fun K hK=>?_)
  refine skip_ (w1:=?_) D15 rfl ?_ ?_
  rotate_left
  ·go_simp
   rfl
  refine hK.out _ _ ?_
  clear hK K
  have hE1:=HE.out.put a hal hok1 hle1 HF1.out
  have HF0':=am (Kd.F_far HF0.out (p:=⟨g,a,none⟩) (fun k hk=>hk.2) (.slice A1 m c1))
  clear HE HF0 HF1 hHeld hcell0 hcell1 hfr0 hfr1
  generalize wr.setCell ⟨g,a,none⟩ (.slice A1 m c1)=wr at hE1 HF0' ⊢
  have HE:=am hE1
  clear hE1
  obtain ⟨_,_,_,_,_,hcellp,_,_,hfrp⟩:=HE.out.row p hp0
  refine pure_ (i:=18) (N:=some 45) (v:=_) (a':=_) #[Y,Y,Y,Y,Y,Y,Y,Y,Y,Y,Y,Y,Y,Y,Y,Y,Y,Y,Y,Z] rfl rfl D5 hh (Or.inl ⟨D15,nP⟩) nQ ?_
  refine last_ (i:=19) (N:=none) #[Y,Y,Y,Y,Y,Y,Y,Y,Y,Y,Y,Y,Y,Y,Y,Y,Y,Y,Y,Y] rfl rfl D5 D8 (fun K hK=>?_)
  refine skip_ (w1:=?_) D15 rfl ?_ ?_
  rotate_left
  ·go_simp
   rfl
  refine hK.out _ _ ?_
  clear hK K
  refine done_ D5 ?_
  have hE1:=HE.out.put p hp0 hok0 hle0 HF0'.out
  clear HE HF0' hcellp hfrp
  generalize wr.setCell ⟨g,p,none⟩ (.slice A0 m c0)=wr at hE1 ⊢
  have HE:=am hE1
  clear hE1 hw
  go_wp2_with fail
  have htop:=el_top (by rw [hlen1];exact hal) hr0 hr1
  replace HE:=am (HE.out.below (pd (Below.refl _ _)))
  obtain ⟨r2,A2,c2,hr2,hok2,hcell2,hle2,hF2,hfr2⟩:=HE.out.row a hal
  rw [htop] at hr2
  subst hr2
  obtain ⟨ad2,rfl,hbyte⟩:=F_m hF2 hok2.2 k hbm
  obtain ⟨x,hx⟩:∃ x,x=r1.getD k 0:=⟨_,rfl⟩
  rw [← hx] at hbyte
  have hkey:=HE.out.key
  have hkm:(k:Int) < (m:Int):=by omega
  have hxb:Byte x:=by rw [hx];exact bytes_getD hok1.1 k
  obtain ⟨kI,hI⟩:=(ImplElim.impl_Inverse.ev hxb).rounds
  obtain ⟨kS,hS⟩:=(ImplElim.impl_scaled.ev hxb.inv hok1.1 (by rw [hok1.2];omega)).rounds
  have HI:=am hI
  have HSc:=am hS
  clear hI hS htop
  refine start_ (n:=17) (S:=fun w'=>w'.cell? ⟨g,a,none⟩=some (.slice (some ad2) m c2)∧w'.cell? ⟨gb,0,none⟩=some (.int .i64 k)∧w'.cell? (ad2.add k)=some (.int .u8 x)) (ds:=[16]) #[Z,Z,Z,Z,Z,Z,Z,Z,Z,Z,Z,Z,Z,Z,Z,Z,Z] D5 rfl rfl ⟨hcell2,hkey,hbyte⟩ (fun hHeld=>?_)
  generalize wr.drew=wr at HE hHeld hF2 hkey hbyte hcell2 hfr2 ⊢
  have HF2:=am hF2
  clear hF2 hkey hbyte hcell2 hfr2
  refine pure_ (i:=0) (N:=some 46) (v:=_) (a':=_) #[Y,Z,Z,Z,Z,Z,Z,Z,Z,Z,Z,Z,Z,Z,Z,Z,Z] rfl rfl D5 hh (Or.inl ⟨D15,nP⟩) nQ ?_
  refine pure_ (i:=1) (N:=some 47) (v:=_) (a':=_) #[Y,Y,Z,Z,Z,Z,Z,Z,Z,Z,Z,Z,Z,Z,Z,Z,Z] rfl rfl D5 hh (Or.inl ⟨D15,nP⟩) nQ ?_
  refine pure_ (i:=2) (N:=some 48) (v:=_) (a':=_) #[Y,Y,Y,Z,Z,Z,Z,Z,Z,Z,Z,Z,Z,Z,Z,Z,Z] rfl rfl D5 hh (Or.inl ⟨D15,nP⟩) nQ ?_
  refine pure_ (i:=3) (N:=some 49) (v:=_) (a':=_) #[Y,Y,Y,Y,Z,Z,Z,Z,Z,Z,Z,Z,Z,Z,Z,Z,Z] rfl rfl D5 hh (Or.inl ⟨D15,nP⟩) nQ ?_
  refine pure_ (i:=4) (N:=some 50) (v:=_) (a':=_) #[Y,Y,Y,Y,Y,Z,Z,Z,Z,Z,Z,Z,Z,Z,Z,Z,Z] rfl rfl D5 hh (Or.inl ⟨D15,nP⟩) nQ ?_
  refine take_ (i:=5) (N:=some 51) (v:=?_) (a':=?_) #[Y,Y,Y,Y,Y,Y,Z,Z,Z,Z,Z,Z,Z,Z,Z,Z,Z] rfl rfl D5 hh (Or.inl ⟨D15,?_⟩) hHeld ?_ ?_
  rotate_left
  ·rintro w' ⟨s0,s1,s2⟩
   go_simp
   with_reducible rfl
  rotate_left
  ·simp only [Act.put,q1,q2,q3,i64_w,i32_w]
   rfl
  refine take_ (i:=6) (N:=some 52) (v:=?_) (a':=?_) #[Y,Y,Y,Y,Y,Y,Y,Z,Z,Z,Z,Z,Z,Z,Z,Z,Z] rfl rfl D5 hh (Or.inl ⟨D15,?_⟩) hHeld ?_ ?_
  rotate_left
  ·rintro w' ⟨s0,s1,s2⟩
   go_simp
   with_reducible rfl
  rotate_left
  ·simp only [Act.put,q1,q2,q3,i64_w,i32_w]
   rfl
  refine pure_ (i:=7) (N:=some 53) (v:=_) (a':=_) #[Y,Y,Y,Y,Y,Y,Y,Y,Z,Z,Z,Z,Z,Z,Z,Z,Z] rfl rfl D5 hh (Or.inl ⟨D15,nP⟩) nQ ?_
  refine take_ (i:=8) (N:=some 54) (v:=?_) (a':=?_) #[Y,Y,Y,Y,Y,Y,Y,Y,Y,Z,Z,Z,Z,Z,Z,Z,Z] rfl rfl D5 hh (Or.inl ⟨D15,?_⟩) hHeld ?_ ?_
  rotate_left
  ·rintro w' ⟨s0,s1,s2⟩
   go_simp
   with_reducible rfl
  rotate_left
  ·simp only [Act.put,q1,q2,q3,i64_w,i32_w]
   rfl
  refine pure_ (i:=10) (N:=some 56) (v:=_) (a':=_) #[Y,Y,Y,Y,Y,Y,Y,Y,Y,Z,Y,Z,Z,Z,Z,Z,Z] rfl rfl D5 hh (Or.inl ⟨D15,nP⟩) nQ ?_
  refine pure_ (i:=11) (N:=some 57) (v:=_) (a':=_) #[Y,Y,Y,Y,Y,Y,Y,Y,Y,Z,Y,Y,Z,Z,Z,Z,Z] rfl rfl D5 hh (Or.inl ⟨D15,nP⟩) nQ ?_
  refine pure_ (i:=12) (N:=some 58) (v:=_) (a':=_) #[Y,Y,Y,Y,Y,Y,Y,Y,Y,Z,Y,Y,Y,Z,Z,Z,Z] rfl rfl D5 hh (Or.inl ⟨D15,nP⟩) nQ ?_
  refine take_ (i:=13) (N:=some 59) (v:=?_) (a':=?_) #[Y,Y,Y,Y,Y,Y,Y,Y,Y,Z,Y,Y,Y,Y,Z,Z,Z] rfl rfl D5 hh (Or.inl ⟨D15,?_⟩) hHeld ?_ ?_
  rotate_left
  ·rintro w' ⟨s0,s1,s2⟩
   go_simp
   with_reducible rfl
  rotate_left
  ·simp only [Act.put,q1,q2,q3,i64_w,i32_w]
   rfl
  refine one_ (i:=9) (N:=some 55) #[Y,Y,Y,Y,Y,Y,Y,Y,Y,Y,Y,Y,Y,Y,Z,Z,Z] rfl rfl D5 D8 (fun K hK=>?_)
  refine goes_ Try.func136 D5 rfl #[Value.int .u8 x] D15 rfl rfl D35 ?_
  refine (impl_Inverse.calls kI x (inv x) _ HI.out).mono ?_
  rintro e w4 ⟨rfl,⟨q4,rfl⟩⟩
  refine ⟨_,rfl,?_⟩
  replace HE:=am (HE.out.below (w1:=wr.drewN q4) (pb (Below.refl _ _) q4))
  replace HF2:=am (Kd.F_drewN HF2.out q4)
  refine hK.out _ _ ⟨hHeld.1,hHeld.2.1,hHeld.2.2⟩ (fun hHeld=>?_)
  clear hK K
  refine norm_ (nA 55) ?_
  refine one_ (i:=14) (N:=some 60) #[Y,Y,Y,Y,Y,Y,Y,Y,Y,Y,Y,Y,Y,Y,Y,Z,Z] rfl rfl D5 D8 (fun K hK=>?_)
  refine goes_ Try.func119 D5 rfl #[Value.int .u8 (inv x),Value.slice (some ad2) m c2] D15 rfl rfl D35 ?_
  have hS:=impl_scaled.calls kS (inv x) (some ad2) c2 r1 (scale (inv x) r1) (wr.drewN q4) (F_C HF2.out hok1.2) (by rw [hok1.2];exact hle2) HSc.out
  rw [hok1.2] at hS
  refine hS.mono ?_
  clear hS
  rintro e w5 ⟨v5,rfl,ho5,hb5⟩
  refine ⟨_,rfl,?_⟩
  obtain ⟨A5,c5,e5⟩:=Kd.R_slice ho5
  rw [scale_length,hok1.2] at e5
  subst e5
  have hle5:m≤c5:=(Kd.R_reads' ho5).2.1
  have HF5:=am (HE.out.fresh ho5)
  replace HE:=am (HE.out.below hb5)
  replace hHeld:=(show _∧_∧_ from ⟨pw_cell_below hb5 hHeld.1,pw_cell_below hb5 hHeld.2.1,pw_cell_below hb5 hHeld.2.2⟩)
  clear ho5 hb5 HF2
  refine hK.out _ _ ⟨hHeld.1,hHeld.2.1,hHeld.2.2⟩ (fun hHeld=>?_)
  clear hK K
  refine norm_ (nA 60) ?_
  refine pure_ (i:=15) (N:=some 61) (v:=_) (a':=_) #[Y,Y,Y,Y,Y,Y,Y,Y,Y,Y,Y,Y,Y,Y,Y,Y,Z] rfl rfl D5 hh (Or.inl ⟨D15,nP⟩) nQ ?_
  obtain ⟨_,_,_,_,_,hcell3,_,_,hfr3⟩:=HE.out.row a hal
  refine last_ (i:=16) (N:=none) #[Y,Y,Y,Y,Y,Y,Y,Y,Y,Y,Y,Y,Y,Y,Y,Y,Y] rfl rfl D5 D8 (fun K hK=>?_)
  refine skip_ (w1:=?_) D15 rfl ?_ ?_
  rotate_left
  ·go_simp
   rfl
  refine hK.out _ _ ?_
  clear hK K
  refine done_ D5 ?_
  have hokx:=el_scale hxb.inv hok1
  have hE1:=HE.out.put a hal hokx hle5 HF5.out
  rw [show scale (inv x) r1=scale (inv (r1.getD k 0)) r1 by rw [hx],el_lift hr0 hr1] at hE1
  clear hx
  clear HE HF5 hcell3 hfr3 hHeld
  generalize w5.setCell ⟨g,a,none⟩ (.slice A5 m c5)=wr at hE1 ⊢
  obtain ⟨R3,hR3⟩:∃ R3,R3=rowI.lift R1 k a p:=⟨_,rfl⟩
  rw [← hR3] at hE1 HS
  clear hR3
  have HE:=am hE1
  clear hE1
  go_wp2_with fail
  go_loopg [64] (len+1) (fun fu v64 wr=>∃ r:Nat,r≤len∧len - r < fu∧v64 = .int .i64 r∧Aside0 (EL w0 g cap len gb k m (rowI.clr k a R3 r) wr))
  case atStart=>exact ⟨0,Nat.zero_le _,D11,rfl,HE⟩
  case round =>
   clear HE
   obtain ⟨r,hr,hfr,rfl,HE⟩:=hrel
   by_cases hrl:r < len
   case neg =>
    have e:r=len:=by omega
    subst e
    have hrz:¬ (r:Int) < (r:Int):=by omega
    have hdr:decide ((r:Int) < (r:Int))=false:=decide_eq_false hrz
    have hkey:=HE.out.key
    go_wp2_with fail
    go_roundg (n - k)
    case measure=>omega
    case rel=>exact ⟨k+1,_,D11,D11,by rw [HS.out];go_num,by first|rfl|(simp;done),⟨by rw [HS.out];exact EL.first HE.out.N HE.out.B HE.out.all (k+1)⟩⟩
   have hrz:(r:Int) < (len:Int):=by omega
   have hkey:=HE.out.key
   have hdr:decide ((r:Int) < (len:Int))=true:=decide_eq_true hrz
   obtain ⟨rr,A6,c6,hr6,hok6,hcell6,hle6,hF6,hfr6⟩:=HE.out.row r hrl
   by_cases hra:r=a
   case pos =>
    have hS:=el_clr_skip hr6 (.inl hra)
    have HT:=am hS
    clear hS hF6
    subst hra
    go_wp2_with fail
    go_roundg (len - r)
    case measure=>omega
    case rel=>exact ⟨r+1,D11,D11,by go_num,⟨by rw [HT.out];exact HE.out⟩⟩
   have hraz:¬ (r:Int)=(a:Int):=by omega
   obtain ⟨ad6,rfl,hbyte6⟩:=F_m hF6 hok6.2 k hbm
   obtain ⟨y,hy⟩:∃ y,y=rr.getD k 0:=⟨_,rfl⟩
   rw [← hy] at hbyte6
   have HY:=am hy
   clear hy
   have hkm:(k:Int) < (m:Int):=by omega
   by_cases hy0:y=0
   case pos =>
    have hS:=el_clr_skip hr6 (.inr (HY.out.symm.trans hy0))
    have HT:=am hS
    clear hS hF6 HY
    subst hy0
    go_wp2_with fail
    go_roundg (len - r)
    case measure=>omega
    case rel=>exact ⟨r+1,D11,D11,by go_num,⟨by rw [HT.out];exact HE.out⟩⟩
   have hyb:Byte y:=by rw [HY.out];exact bytes_getD hok6.1 k
   replace HE:=am (HE.out.below (pd (Below.refl _ _)))
   replace hF6:=Kd.F_drew hF6
   obtain ⟨ry,A7,c7,hr7,hok7,hcell7,hle7,hF7,hfr7⟩:=HE.out.row a hal
   have hS:=el_clr_do hr6 hr7 hra (by rw [← HY.out];exact hy0)
   rw [← HY.out] at hS
   have HT:=am hS
   clear hS
   have hok8:=el_scale hyb hok7
   have hok9:=el_add hok6 hok8
   obtain ⟨kS,hS⟩:=(ImplElim.impl_scaled.ev hyb hok7.1 (by rw [hok7.2];omega)).rounds
   obtain ⟨kA,hA⟩:=(ImplElim.impl_added.ev hok6.1 hok8.1 (by rw [hok6.2,hok8.2]) (by rw [hok6.2];omega)).rounds
   have HSc:=am hS
   have HAd:=am hA
   clear hS hA
   have hb1:((r:Int) != (a:Int))=true:=bne_iff_ne.2 hraz
   have hb2:(y != 0)=true:=bne_iff_ne.2 hy0
   go_wp2_with fail
   refine start_ (n:=15) (S:=fun w'=>w'.cell? ⟨g,a,none⟩=some (.slice A7 m c7)∧w'.cell? ⟨gb,0,none⟩=some (.int .i64 k)∧w'.cell? (ad6.add k)=some (.int .u8 y)) (ds:=[14]) #[Z,Z,Z,Z,Z,Z,Z,Z,Z,Z,Z,Z,Z,Z,Z] D5 rfl rfl ⟨hcell7,hkey,hbyte6⟩ (fun hHeld=>?_)
   generalize wr.drew=wr at HE hHeld hF6 hF7 hcell6 hfr6 hkey hbyte6 hcell7 hfr7 ⊢
   have HF6:=am hF6
   have HF7:=am hF7
   clear hF6 hF7 hcell6 hfr6 hkey hbyte6 hcell7 hfr7
   refine pure_ (i:=0) (N:=some 79) (v:=_) (a':=_) #[Y,Z,Z,Z,Z,Z,Z,Z,Z,Z,Z,Z,Z,Z,Z] rfl rfl D5 hh (Or.inl ⟨D15,nP⟩) nQ ?_
   refine pure_ (i:=1) (N:=some 80) (v:=_) (a':=_) #[Y,Y,Z,Z,Z,Z,Z,Z,Z,Z,Z,Z,Z,Z,Z] rfl rfl D5 hh (Or.inl ⟨D15,nP⟩) nQ ?_
   refine pure_ (i:=2) (N:=some 81) (v:=_) (a':=_) #[Y,Y,Y,Z,Z,Z,Z,Z,Z,Z,Z,Z,Z,Z,Z] rfl rfl D5 hh (Or.inl ⟨D15,nP⟩) nQ ?_
   refine pure_ (i:=3) (N:=some 82) (v:=_) (a':=_) #[Y,Y,Y,Y,Z,Z,Z,Z,Z,Z,Z,Z,Z,Z,Z] rfl rfl D5 hh (Or.inl ⟨D15,nP⟩) nQ ?_
   refine take_ (i:=4) (N:=some 83) (v:=?_) (a':=?_) #[Y,Y,Y,Y,Y,Z,Z,Z,Z,Z,Z,Z,Z,Z,Z] rfl rfl D5 hh (Or.inl ⟨D15,?_⟩) hHeld ?_ ?_
   rotate_left
   ·rintro w' ⟨s0,s1,s2⟩
    go_simp
    with_reducible rfl
   rotate_left
   ·simp only [Act.put,q1,q2,q3,i64_w,i32_w]
    rfl
   refine pure_ (i:=5) (N:=some 84) (v:=_) (a':=_) #[Y,Y,Y,Y,Y,Y,Z,Z,Z,Z,Z,Z,Z,Z,Z] rfl rfl D5 hh (Or.inl ⟨D15,nP⟩) nQ ?_
   refine take_ (i:=6) (N:=some 85) (v:=?_) (a':=?_) #[Y,Y,Y,Y,Y,Y,Y,Z,Z,Z,Z,Z,Z,Z,Z] rfl rfl D5 hh (Or.inl ⟨D15,?_⟩) hHeld ?_ ?_
   rotate_left
   ·rintro w' ⟨s0,s1,s2⟩
    go_simp
    with_reducible rfl
   rotate_left
   ·simp only [Act.put,q1,q2,q3,i64_w,i32_w]
    rfl
   refine pure_ (i:=7) (N:=some 86) (v:=_) (a':=_) #[Y,Y,Y,Y,Y,Y,Y,Y,Z,Z,Z,Z,Z,Z,Z] rfl rfl D5 hh (Or.inl ⟨D15,nP⟩) nQ ?_
   refine pure_ (i:=8) (N:=some 87) (v:=_) (a':=_) #[Y,Y,Y,Y,Y,Y,Y,Y,Y,Z,Z,Z,Z,Z,Z] rfl rfl D5 hh (Or.inl ⟨D15,nP⟩) nQ ?_
   refine pure_ (i:=9) (N:=some 88) (v:=_) (a':=_) #[Y,Y,Y,Y,Y,Y,Y,Y,Y,Y,Z,Z,Z,Z,Z] rfl rfl D5 hh (Or.inl ⟨D15,nP⟩) nQ ?_
   refine take_ (i:=10) (N:=some 89) (v:=?_) (a':=?_) #[Y,Y,Y,Y,Y,Y,Y,Y,Y,Y,Y,Z,Z,Z,Z] rfl rfl D5 hh (Or.inl ⟨D15,?_⟩) hHeld ?_ ?_
   rotate_left
   ·rintro w' ⟨s0,s1,s2⟩
    go_simp
    with_reducible rfl
   rotate_left
   ·simp only [Act.put,q1,q2,q3,i64_w,i32_w]
    rfl
   refine one_ (i:=11) (N:=some 90) #[Y,Y,Y,Y,Y,Y,Y,Y,Y,Y,Y,Y,Z,Z,Z] rfl rfl D5 D8 (fun K hK=>?_)
   refine goes_ Try.func119 D5 rfl #[Value.int .u8 y,Value.slice A7 m c7] D15 rfl rfl D35 ?_
   have hS:=impl_scaled.calls kS y A7 c7 ry (scale y ry) wr (F_C HF7.out hok7.2) (by rw [hok7.2];exact hle7) HSc.out
   rw [hok7.2] at hS
   refine hS.mono ?_
   clear hS
   rintro e w5 ⟨v5,rfl,ho5,hb5⟩
   refine ⟨_,rfl,?_⟩
   obtain ⟨A8,c8,e8⟩:=Kd.R_slice ho5
   rw [scale_length,hok7.2] at e8
   subst e8
   have hle8:m≤c8:=(Kd.R_reads' ho5).2.1
   have HF8:=am (HE.out.fresh ho5)
   replace HE:=am (HE.out.below hb5)
   replace HF6:=am (Kd.F_below HF6.out hb5)
   replace hHeld:=(show _∧_∧_ from ⟨pw_cell_below hb5 hHeld.1,pw_cell_below hb5 hHeld.2.1,pw_cell_below hb5 hHeld.2.2⟩)
   clear ho5 hb5 HF7
   refine hK.out _ _ ⟨hHeld.1,hHeld.2.1,hHeld.2.2⟩ (fun hHeld=>?_)
   clear hK K
   refine norm_ (nA 90) ?_
   refine one_ (i:=12) (N:=some 91) #[Y,Y,Y,Y,Y,Y,Y,Y,Y,Y,Y,Y,Y,Z,Z] rfl rfl D5 D8 (fun K hK=>?_)
   refine goes_ Try.func118 D5 rfl #[Value.slice (some ad6) m c6,Value.slice A8 m c8] D15 rfl rfl D35 ?_
   have hS:=impl_added.calls kA (some ad6) c6 rr A8 c8 (scale y ry) (addV rr (scale y ry)) w5 (F_C HF6.out hok6.2) (by rw [hok6.2];exact hle6) (F_C HF8.out hok8.2) (by rw [hok8.2];exact hle8) HAd.out
   rw [hok6.2,hok8.2] at hS
   refine hS.mono ?_
   clear hS
   rintro e w6 ⟨v6,rfl,ho6,hb6⟩
   refine ⟨_,rfl,?_⟩
   obtain ⟨A9,c9,e9⟩:=Kd.R_slice ho6
   rw [hok9.2] at e9
   subst e9
   have hle9:m≤c9:=(Kd.R_reads' ho6).2.1
   have HF9:=am (HE.out.fresh ho6)
   replace HE:=am (HE.out.below hb6)
   replace hHeld:=(show _∧_∧_ from ⟨pw_cell_below hb6 hHeld.1,pw_cell_below hb6 hHeld.2.1,pw_cell_below hb6 hHeld.2.2⟩)
   clear ho6 hb6 HF6 HF8
   refine hK.out _ _ ⟨hHeld.1,hHeld.2.1,hHeld.2.2⟩ (fun hHeld=>?_)
   clear hK K
   refine norm_ (nA 91) ?_
   refine pure_ (i:=13) (N:=some 92) (v:=_) (a':=_) #[Y,Y,Y,Y,Y,Y,Y,Y,Y,Y,Y,Y,Y,Y,Z] rfl rfl D5 hh (Or.inl ⟨D15,nP⟩) nQ ?_
   obtain ⟨_,_,_,_,_,hcell3,_,_,hfr3⟩:=HE.out.row r hrl
   refine last_ (i:=14) (N:=none) #[Y,Y,Y,Y,Y,Y,Y,Y,Y,Y,Y,Y,Y,Y,Y] rfl rfl D5 D8 (fun K hK=>?_)
   refine skip_ (w1:=?_) D15 rfl ?_ ?_
   rotate_left
   ·go_simp
    rfl
   refine hK.out _ _ ?_
   clear hK K
   refine done_ D5 ?_
   have hE1:=HE.out.put r hrl hok9 hle9 HF9.out
   clear HE HF9 hcell3 hfr3 hHeld
   generalize w6.setCell ⟨g,r,none⟩ (.slice A9 m c9)=wr at hE1 ⊢
   rw [← HT.out] at hE1
   have HE:=am hE1
   clear hE1
   go_wp2_with fail
   go_roundg (len - r)
   case measure=>omega
   case rel=>exact ⟨r+1,D11,D11,by go_num,HE⟩
end
end
section
section
open Go.Proofs.Yteflgifmdojahaa.Gf Go.Proofs.Yteflgifmdojahaa.Kit Go.Proofs.Yteflgifmdojahaa.KitW Go.Proofs.Yteflgifmdojahaa.KitN
namespace ImplInv
theorem impl_identity.ev_l0 (n:Nat) (hn:n≤1048576):∀ (d i:Nat) (o:List (List Int)),i+d=n→o=(idM n).take i→Ev (fun k=>impl_identity.l0 k (n:Int) o (n:Int) (i:Int)) (idM n)
 | 0,i,o,hi,ho=>by
  refine Ev.step (fun k=>impl_identity.l0.eq_2 _ _ _ _ k) ?_
  refine ev_neg D11 (ev_now ?_)
  rw [ho,List.take_of_length_le (by simp [idM];omega)]
 | d+1,i,o,hi,ho=>by
  have hl:o.length=i:=by rw [ho,List.length_take];simp [idM];omega
  refine Ev.step (fun k=>impl_identity.l0.eq_2 _ _ _ _ k) ?_
  simp only [Option.bind_some,Int.toNat_natCast,List.length_replicate]
  refine ev_pos D11 (ev_pos D11 (ev_pos D11 (ev_pos D11 (ev_pos D11 (ev_pos D11 ?_)))))
  rw [inc D11]
  refine impl_identity.ev_l0 n hn d (i+1) _ D11 ?_
  rw [List.take_succ_eq_append_getElem (by simp [idM];omega),← ho]
  simp [idM]
theorem impl_identity.ev (n:Nat) (hn:n≤1048576):Ev (fun k=>impl_identity.f k (n:Int)) (idM n):=by
 unfold impl_identity.f
 exact impl_identity.ev_l0 n hn n 0 [] D11 rfl
end ImplInv
theorem iv_info8:(Try.prog.info? 5).map (fun i=>(i.zero,i.size,i.bytes))=some (some (.int .u8 0),1,1):=by kernel_rfl
theorem iv_info:(Try.prog.info? 24).map (fun i=>(i.zero,i.size,i.bytes))=some (some (.slice none 0 0),1,24):=by kernel_rfl
def impl_inverseOf.f (l0:List (List Int)):Option (List (List Int) × Bool):=if sqN l0=true then some (invM l0) else none
/-- The first loop: rows with the identity's beside them. -/
structure IV (w:World) (l0:List (List Int)) (ad15:Addr) (i:Nat) (v5:Value) (wr:World):Prop where
 N:Kd.N (Kd.slice 5 (Kd.int .u8)) 24 wr w.heap.size (fun _=>True) v5 ((catM l0).take i)
 F:Kd.F (Kd.slice 5 (Kd.int .u8)) wr (fun k=>True∧some k ≠ v5.ownBlock) (some ad15) l0.length (idM l0.length)
 B:Below w.heap.size w wr
theorem IV.below {w wr w1:World} {l0:List (List Int)} {ad15:Addr} {i:Nat} {v5:Value} (h:IV w l0 ad15 i v5 wr) (hb:Below wr.heap.size wr w1):IV w l0 ad15 i v5 w1:=⟨Kd.N_below h.N hb,Kd.F_below h.F hb,pu h.B hb⟩
theorem IV.row {w wr:World} {l0:List (List Int)} {ad15:Addr} {i:Nat} {v5:Value} (h:IV w l0 ad15 i v5 wr) (j:Nat) (hj:j < l0.length) :
  ∃ A c,wr.cell? (ad15.add j)=some (.slice A ((idM l0.length).getD j []).length c)∧((idM l0.length).getD j []).length≤c∧Kd.F (Kd.int .u8) wr (fun k=>True∧some k ≠ v5.ownBlock) A ((idM l0.length).getD j []).length ((idM l0.length).getD j []):=by
 obtain ⟨ad,c,e,_,hK,hcc,_⟩:=Kd.F_get h.F ([]:List Int) (j:Int) D11 D11
 injection e with e
 subst e
 rw [Int.toNat_natCast] at hK hcc
 obtain ⟨A,c1,rfl,hle,hF⟩:=Kd.FK_slice_open hK
 have h0:=hcc 0 _ rfl
 have hsz:(Kd.slice 5 (Kd.int .u8)).sz=1:=rfl
 rw [hsz,Nat.mul_one,Nat.add_zero] at h0
 exact ⟨A,c1,h0,hle,hF⟩
/-- The second loop: what stands beside is copied out. -/
structure IW (w:World) (D:List (List Int)) (n g cap len:Nat) (i:Nat) (v8:Value) (wr:World):Prop where
 N:Kd.N (Kd.slice 5 (Kd.int .u8)) 24 wr w.heap.size (fun k=>True∧some k ≠ v8.ownBlock) (.slice (some ⟨g,0,none⟩) len cap) D
 S:Kd.S (Kd.slice 5 (Kd.int .u8)) 24 wr w.heap.size (fun _=>True) v8 ((D.map (List.drop n)).take i)
 B:Below w.heap.size w wr
theorem impl_inverseOf.calls (A0:Option Addr) (c0:Nat) (l0:List (List Int)) (r1:List (List Int)) (r2:Bool) (w:World) (hr0:Kd.C (Kd.slice 5 (Kd.int .u8)) w A0 l0.length l0) (hc0:l0.length≤c0) (h:impl_inverseOf.f l0=some (r1,r2)) :
  Calls Try.prog 92 #[.slice A0 l0.length c0] w fun e w'=>∃ v0_:Value,e = .returned (.tuple #[v0_, .bool r2])∧Kd.S (Kd.slice 5 (Kd.int .u8)) 24 w' w.heap.size (fun _=>True) v0_ r1∧Below w.heap.size w w':=by
 unfold impl_inverseOf.f at h
 by_cases hs:sqN l0=true
 case neg=>rw [if_neg hs] at h;cases h
 rw [if_pos hs] at h
 have hrr:invM l0=(r1,r2):=Option.some.inj h
 clear h
 obtain ⟨h1,h2,h3⟩:=sqN_iff.1 hs
 clear hs
 obtain ⟨ad0,rfl,_⟩:=hr0.2.2 D11
 obtain ⟨n,hn⟩:∃ n,n=l0.length:=⟨_,rfl⟩
 obtain ⟨kI,hI⟩:=(ImplInv.impl_identity.ev l0.length D11).rounds
 have HI:=am hI
 have HN:=am hn
 have HR0:=am hr0
 have HO3:=am h3
 have HRR:=am hrr
 rw [← hn] at h1 h2 hc0 ⊢
 clear hI hn hr0 h3 hrr
 have HB:=am (Below.refl w.heap.size w)
 go_enter Try.func92,Try.ntmps92
 go_wp2_with (first|((with_reducible refine gD 13 ?_);refine Kd.N_lit (Kd.slice 5 (Kd.int .u8)) _ 24 D15 (N':=13) D15 (xs:=([]:List (List Int))) (inner:=[]) (ok:=fun _=>True) (okp:=fun _=>True) D33 D51 (fun _ hk=>hk) trivial (Below.refl _ _) (Nat.le_refl _) D43 ?_;intro v13 w3 ho4 hb hg_ hnew_;clear hg_ hnew_;have HO:=am ho4;clear HB;have HB:=am hb;clear hb ho4)|fail)
 have hI:impl_identity.f kI (n:Int)=some (idM l0.length):=by rw [HN.out];exact HI.out
 refine (impl_identity.calls kI (n:Int) (idM l0.length) _ hI).mono ?_
 clear hI
 rintro e w4 ⟨v15,rfl,ho,hb⟩
 obtain ⟨g15,c15,e15,_⟩:=Kd.S_form ho (by rw [idM_length];have:=HN.out;omega)
 rw [idM_length] at e15
 have hN4:=Kd.N_below HO.out hb
 have hlt:=Kd.N_lt HO.out
 have HX:=am (show IV w l0 ⟨g15,0,none⟩ 0 v13 w4 from ⟨by simpa using hN4,by
  have hS:=Kd.S_F (n:=l0.length) (by rw [e15] at ho;exact Kd.S_mono (Kd.S_bound ho) (ok':=fun k=>True∧some k ≠ v13.ownBlock) (fun k hk=>⟨trivial,fun e=>by have:=hlt k e.symm;have:=hk.2.1;omega⟩))
  exact hS,pu HB.out hb⟩)
 rw [← HN.out] at e15
 subst e15
 clear HO HB hb ho hN4 hlt
 go_wp2_with fail
 go_loopg [5,17] (n+1) (fun fu v5 v17 wr=>∃ i:Nat,i≤n∧n - i < fu∧v17 = .int .i64 i∧Aside0 (IV w l0 ⟨g15,0,none⟩ i v5 wr))
 case atStart=>exact ⟨0,Nat.zero_le _,D11,rfl,HX⟩
 case round =>
  clear HX
  obtain ⟨i,hi,hfu,rfl,HX⟩:=hrel
  by_cases hin:i < n
  case neg =>
   have e:i=n:=by omega
   subst e
   have hrz:¬ (i:Int) < (i:Int):=by omega
   have hdr:decide ((i:Int) < (i:Int))=false:=decide_eq_false hrz
   obtain ⟨g,cap,eg,_⟩:=Kd.N_form HX.out.N (by rw [List.length_take,catM_length];have:=HN.out;omega)
   rw [List.length_take,catM_length,← HN.out,Nat.min_self] at eg
   subst eg
   have hN:=HX.out.N
   rw [List.take_of_length_le (by rw [catM_length];have:=HN.out;omega)] at hN
   have HN1:=am hN
   have HB:=am HX.out.B
   clear hN HX
   obtain ⟨D,hD⟩:∃ D,D=(rowI.red (catM l0) l0.length).1:=⟨_,rfl⟩
   obtain ⟨z,hz⟩:∃ z,z=(redP l0 (idM l0.length) l0.length).2:=⟨_,rfl⟩
   have HD:=am hD
   have HZ:=am hz
   have HE:=am (impl_eliminate.calls (catM l0) (l0.length+l0.length) l0.length (catM_ok HO3.out) D11 (by have:=HN.out;omega) (by rw [catM_length];have:=HN.out;omega) g cap i (by rw [catM_length];exact HN.out.symm) w wr HB.out HN1.out)
   rw [← HN.out,HN.out,← hD,show (rowI.red (catM l0) l0.length).2=z by rw [hz,catM_red HO3.out],← HN.out] at HE
   clear hD hz HN1 HB
   go_wp2_with fail
   refine HE.out.mono ?_
   clear HE
   rintro e w5 ⟨rfl,hN,hB⟩
   have HN1:=am hN
   have HB:=am hB
   have HDA:=am (show ∀ r ∈ D,okI (i+i) r by rw [HD.out];have z:=RowK.red_all (shutI (l0.length+l0.length)) (catM_ok HO3.out) l0.length;rw [← HN.out] at z ⊢;exact z)
   have HDL:=am (show D.length=i by rw [HD.out,RowK.red_length,catM_length];exact HN.out.symm)
   clear hN hB
   by_cases hzi:z < i
   case pos =>
    have hzz:(z:Int) < (i:Int):=by omega
    have hdz:decide ((z:Int) < (i:Int))=true:=decide_eq_true hzz
    go_wp2_with fail
    go_ret2
    have e:=HRR.out
    unfold invM at e
    rw [← HZ.out,← HN.out,if_pos hzi] at e
    injection e with e1 e2
    subst e1 e2
    exact ⟨_,rfl,Kd.S_nil _ _ _ _ _,HB.out⟩
   have hzz:¬ (z:Int) < (i:Int):=by omega
   have hdz:decide ((z:Int) < (i:Int))=false:=decide_eq_false hzz
   have HRE:=am (show D.map (List.drop i)=r1∧r2=true by
    have e:=HRR.out
    unfold invM at e
    rw [← HZ.out,if_neg (by have:=HN.out;omega),← catM_out HO3.out,← HD.out,← HN.out] at e
    injection e with e1 e2
    exact ⟨e1,e2.symm⟩)
   obtain ⟨_,rfl⟩:=HRE.out
   go_wp2_with (first|((with_reducible refine gD 38 ?_);refine Kd.S_lit (Kd.slice 5 (Kd.int .u8)) _ 24 D15 (N:=38) D15 (xs:=([]:List (List Int))) (inner:=[]) (ok:=fun _=>True) (okp:=fun _=>True) D33 D51 (fun _ hk=>hk) trivial (Below.refl _ _) (Nat.le_refl _) D43 ?_;intro v38 w6 ho6 hb6 hg6 hnew6;clear hg6 hnew6;have HX:=am (show IW w D i g cap i 0 v38 w6 from ⟨Kd.N_elder' HN1.out (Kd.S_base ho6) hb6,by rw [List.take_zero];exact Kd.S_lower ho6 HB.out.size,pu HB.out hb6⟩);clear HN1 HB ho6 hb6)|fail)
   go_loopg [8,41] (i+1) (fun fu v8 v41 wr=>∃ j:Nat,j≤i∧i - j < fu∧v41 = .int .i64 j∧Aside0 (IW w D i g cap i j v8 wr))
   case atStart=>exact ⟨0,Nat.zero_le _,D11,rfl,HX⟩
   case round =>
    clear HX
    obtain ⟨j,hj,hfu2,rfl,HX⟩:=hrel
    by_cases hji:j < i
    case neg =>
     have e:j=i:=by omega
     subst e
     have hrz:¬ (j:Int) < (j:Int):=by omega
     have hdr:decide ((j:Int) < (j:Int))=false:=decide_eq_false hrz
     go_wp2_with fail
     go_ret2
     have hS:=HX.out.S
     rw [List.take_of_length_le (by rw [List.length_map,HDL.out];omega),HRE.out.1] at hS
     exact ⟨_,rfl,hS,HX.out.B⟩
    have hrz:(j:Int) < (i:Int):=by omega
    have hdr:decide ((j:Int) < (i:Int))=true:=decide_eq_true hrz
    obtain ⟨A44,c44,hcell44,hle44,hF44,_⟩:=N_row HX.out.N j hji
    obtain ⟨dj,hdj⟩:∃ x,x=D.getD j []:=⟨_,rfl⟩
    rw [← hdj] at hcell44 hle44 hF44
    have hok:okI (i+i) dj:=by rw [hdj];exact RowK.at_all (O:=rowI) HDA.out (by rw [HDL.out];exact hji)
    have hdl:=hok.2
    obtain ⟨ad44,rfl,_⟩:=F_byte hF44 0 D11
    have hCd:=Kd.F_now (Kd.F_cut (m:=i) hF44 D11 hle44)
    rw [hdl] at hcell44 hle44
    have hcn:(c44=i)=False:=eq_false D11
    have hci:i≤c44:=by omega
    rw [if_neg D11,show (some ad44).map (fun x=>x.add (i*(Kd.int .u8).sz))=some (ad44.add i) from by show some (ad44.add (i*1))=_;rw [Nat.mul_one]] at hCd
    have hdd:(dj.drop i).length=i:=by rw [List.length_drop];omega
    have hcl:=slices_Clone_byte_byte.calls _ (c44 - i) (dj.drop i) (dj.drop i) wr hCd D11 (by unfold slices_Clone_byte_byte.f;simp;omega)
    rw [hdd] at hcl
    have HDJ:=am hdj
    have HCL:=am hcl
    clear hcl hCd hF44 hok hdj
    go_wp2_with fail
    refine HCL.out.mono ?_
    clear HCL
    rintro e w6 ⟨v49,rfl,ho,hb⟩
    obtain ⟨A49,c49,e49⟩:=Kd.R_slice ho
    rw [hdd] at e49
    subst e49
    have HO:=am (Kd.R_lower (Kd.R_mono (Kd.R_bound ho) (ok':=fun k=>wr.heap.size≤k) (fun k hk=>hk.2.1)) HX.out.B.size)
    have HLT:=am (Kd.S_lt HX.out.S)
    have HS:=am (Kd.S_mono (Kd.S_below (Kd.S_bound HX.out.S) hb) (ok':=fun k=>True∧¬ wr.heap.size≤k) (fun k hk=>⟨trivial,by have:=hk.2.2.1;omega⟩))
    have HN1:=am (Kd.N_below HX.out.N hb)
    have HB:=am (pu HX.out.B hb)
    clear HX ho hb
    go_wp2_with (first|((with_reducible refine gate_builtin (b:=.append) (xs:=#[.tmp 45, .tmp 50]) rfl ?_);at_builtin;refine Kd.S_append (Kd.slice 5 (Kd.int .u8)) (w0:=w) w.heap.size rfl (.tmp 45) (.tmp 50) 25 24 (.slice none 0 0) 24 rfl Try.underlying25 iv_info rfl D8 D11 u8 ((D.map (List.drop i)).take j) (dj.drop i) [.slice A49 i c49] (fun _=>True) (fun k=>wr.heap.size≤k) rfl rfl (Kd.M_row HO.out) (fun k hk=>⟨trivial,fun e=>by have:=HLT.out k e.symm;omega⟩) (fun _ _=>trivial) HS.out HB.out HB.out.size (by rw [List.length_take];omega) ?_;intro v51 w7 ho7 hb7 hg7 hat7;have HX:=am (show IW w D i g cap i (j+1) v51 w7 from ⟨Kd.N_after HN1.out hg7 hat7,by rw [List.take_succ_eq_append_getElem (by rw [List.length_map,HDL.out];exact hji),List.getElem_map,show D[j]'(by rw [HDL.out];exact hji)=dj from by rw [HDJ.out,List.getD_eq_getElem?_getD,List.getElem?_eq_getElem (by rw [HDL.out];exact hji)];rfl];exact ho7,hb7⟩);clear HO HLT HS HN1 HB ho7 hb7 hg7 hat7)|fail)
    go_roundg (i - j)
    case measure=>omega
    case rel=>exact ⟨j+1,D11,D11,by go_num,HX⟩
  have hrz:(i:Int) < (n:Int):=by omega
  have hdr:decide ((i:Int) < (n:Int))=true:=decide_eq_true hrz
  obtain ⟨A21,c21,hcell21,hle21,hF21⟩:=HX.out.row i (by have:=HN.out;omega)
  obtain ⟨ad,A26,c26,e26,hcell26,hle26,hC26⟩:=C_row (Kd.C_below HR0.out HX.out.B) i (by have:=HN.out;omega)
  injection e26 with e26
  subst e26
  obtain ⟨li,hli⟩:∃ x,x=l0.getD i []:=⟨_,rfl⟩
  obtain ⟨di,hdi⟩:∃ x,x=(idM l0.length).getD i []:=⟨_,rfl⟩
  rw [← hdi] at hcell21 hle21 hF21
  rw [add_plain] at hcell21
  rw [← hli] at hcell26 hle26 hC26
  have HLI:=am hli
  have HDI:=am hdi
  clear hli hdi
  have hil:i < n:=hin
  have hl1:li.length=n:=by rw [HLI.out,HN.out];exact (RowK.at_all (O:=rowI) HO3.out (i:=i) (by have:=HN.out;omega)).2
  have hd1:di.length=n:=by rw [HDI.out,HN.out];exact (RowK.at_all (O:=rowI) (idM_ok l0.length) (i:=i) (by rw [idM_length];have:=HN.out;omega)).2
  have hcl:=slices_Clone_byte_byte.calls A26 c26 li li wr hC26 hle26 (by unfold slices_Clone_byte_byte.f;simp;omega)
  rw [hl1] at hcell26 hcl
  rw [hd1] at hcell21
  go_wp2_with fail
  refine hcl.mono ?_
  clear hcl
  rintro e w5 ⟨v27,rfl,ho,hb⟩
  have HX5:=HX.out.below hb
  have hF5:=am (Kd.F_below hF21 hb)
  have HO:=am ho
  have HB5:=am hb
  clear ho hb hF21 hcell21 hcell26 hC26 HX5
  go_wp2_with (first|((with_reducible refine gate_builtin (b:=.append) (xs:=#[.tmp 27, .tmp 28]) rfl ?_);at_builtin;refine Kd.R_append_rows (Kd.int .u8) (w0:=wr) wr.heap.size rfl (.tmp 27) (.tmp 28) 24 5 (.int .u8 0) 1 rfl Try.underlying24 iv_info8 rfl D8 D11 v27 li di A21 n c21 (fun _=>True) (fun _=>False) rfl rfl HO.out (by have z:=Kd.F_now hF5.out;rwa [hd1] at z) (fun _ _ h=>h) (fun _ h=>h.elim) (fun _ _=>trivial) HB5.out HB5.out.size (by rw [hl1];omega) ?_;intro v29 w6 ho6 hb6 hg6 hat6;obtain ⟨A29,c29,e29⟩:=Kd.R_slice ho6;rw [List.length_append,hl1,hd1] at e29;subst e29;have HX6:=am (HX.out.below hb6);have HO6:=am ho6;clear HO HB5 hF5 ho6 hb6 hg6 hat6)|((with_reducible refine gate_builtin (b:=.append) (xs:=#[.tmp 22, .tmp 30]) rfl ?_);at_builtin;refine Kd.N_append (Kd.slice 5 (Kd.int .u8)) (w0:=w) w.heap.size rfl (.tmp 22) (.tmp 30) 25 24 (.slice none 0 0) 24 rfl Try.underlying25 iv_info rfl D8 D11 u5 ((catM l0).take i) (li ++ di) [.slice A29 (n+n) c29] (fun _=>True) (fun k=>wr.heap.size≤k) rfl rfl (FK_of_R (Kd.R_mono (Kd.R_bound HO6.out) (ok':=fun k=>wr.heap.size≤k) (fun k hk=>hk.2.1))) (fun k hk=>⟨trivial,fun e=>by have:=Kd.N_lt HX.out.N k e.symm;omega⟩) (fun _ _=>trivial) HX6.out.N HX6.out.B HX6.out.B.size (by rw [List.length_take];omega) ?_;intro v31 w7 ho7 hb7 hg7 hat7;rw [HLI.out,HDI.out,← catM_succ (by have:=HN.out;omega)] at ho7;have HX7:=am (IV.mk ho7 (Kd.F_after HX6.out.F hg7 hat7) hb7);clear HX HX6 HO6 ho7 hb7 hg7 hat7))
  go_roundg (n - i)
  case measure=>omega
  case rel=>exact ⟨i+1,D11,D11,by go_num,HX7⟩
end

def impl_solve.l0:Nat→List Int→List Int→List (List Int)→Int→Int→Option (List Int × Bool)
 | 0,_,_,_,_,_=>none
 | k+1,x1,x8,x19,x20,x21=>if x21 < x20 then (if 0≤x21 then (if x21 < (x19.length:Int) then ((impl_dot.f k (rd_L3 x19 x21) x1).bind fun t388=>(if x8.length < 140737488355328 then (impl_solve.l0 k x1 (x8 ++ [t388]) x19 x20 (wrap64 (x21+1))) else (none))) else (none)) else (none)) else (some (x8,true))
def impl_solve.f (k:Nat) (l0:List (List Int)) (l1:List Int):Option (List Int × Bool):=(impl_inverseOf.f l0).bind fun bt380=>(if bt380.2=true then (impl_solve.l0 k l1 (([]:List Int)) bt380.1 (bt380.1.length:Int) 0) else (some (([]:List Int),false)))
theorem impl_solve.mono_l:∀ k,(∀ y0 y1 y2 y3 y4,LeO (impl_solve.l0 k y0 y1 y2 y3 y4) (impl_solve.l0 (k+1) y0 y1 y2 y3 y4))
 | 0=>fun _ _ _ _ _ r h=>by simp [impl_solve.l0] at h
 | k+1=>by
  have ih0:=impl_solve.mono_l k
  intro y0 y1 y2 y3 y4
  unfold impl_solve.l0
  exact mm
theorem impl_solve.mono:∀ a0 a1 k,LeO (impl_solve.f k a0 a1) (impl_solve.f (k+1) a0 a1):=by
 intro a0 a1 k
 have ih0:=impl_solve.mono_l k
 unfold impl_solve.f
 exact mm
theorem impl_solve.calls (k:Nat) (A0:Option Addr) (c0:Nat) (l0:List (List Int)) (A1:Option Addr) (c1:Nat) (l1:List Int) (r1:List Int) (r2:Bool) (w:World) (hr0:Kd.C (Kd.slice 5 (Kd.int .u8)) w A0 l0.length l0) (hc0:l0.length≤c0) (hr1:Kd.C (Kd.int .u8) w A1 l1.length l1) (hc1:l1.length≤c1) (h:impl_solve.f k l0 l1=some (r1,r2)) :
  Calls Try.prog 109 #[.slice A0 l0.length c0, .slice A1 l1.length c1] w fun e w'=>∃ v0_:Value,e = .returned (.tuple #[v0_, .bool r2])∧Kd.R (Kd.int .u8) 5 w' w.heap.size (fun _=>True) v0_ r1∧Below w.heap.size w w':=by
 have HR0:=am hr0
 have HC0:=am hc0
 clear hr0 hc0
 have HR1:=am hr1
 have HC1:=am hc1
 clear hr1 hc1
 have HB:=am (Below.refl w.heap.size w)
 have H:=h
 unfold impl_solve.f at H
 clear h
 obtain ⟨⟨t380,t381⟩,A3,H⟩:=yo H
 try dsimp only at H
 by_cases c4:t381=true
 ·subst c4
  replace H:=yt H
  generalize hy384:(([]:List Int):List Int)=y384 at H
  have Ny384:=am hy384.symm
  clear hy384
  have H':=am H
  clear H
  go_enter Try.func109,Try.ntmps109
  go_wp2_with (first|((with_reducible refine gC 92 ?_);refine gM (some 13) Try.func92 (args:=#[.slice A0 l0.length c0]) (impl_inverseOf.calls _ _ l0 t380 true _ (yc HR0.out) HC0.out A3.out) ?_;rintro e w5 ⟨v382,rfl,ho0,hb⟩;refine ⟨_,rfl,?_⟩;have HO383:=am (Kd.S_lower ho0 (pz (yW HB)));replace HB:=yH HB hb;clear hb ho0)|((with_reducible refine gD 18 ?_);refine Kd.R_lit (Kd.int .u8) _ 5 D15 (N:=18) D15 (xs:=([]:List Int)) (inner:=[]) (ok:=fun _=>True) (okp:=fun _=>True) D33 D51 (fun _ hk=>hk) trivial (Below.refl _ _) (Nat.le_refl _) D43 ?_;intro v385 w6 ho7 hb hg_ hnew_;clear hg_ hnew_;(first|rw [← Ny384.out] at ho7|(simp only [Int.reduceToNat] at ho7;rw [← Ny384.out] at ho7));replace HO383:=eS HO383 (Kd.R_base ho7) hb;have HO386:=am (Kd.R_lower ho7 (pz (yW HB)));replace HB:=yH HB hb;clear hb ho7;obtain ⟨Ao8,co8,eo8⟩:=Kd.S_slice HO383.out;subst eo8))
  go_loopg [8,21] k (fun kq v8 v21 w'=>∃ (x8_1:List Int) (x21_1:Int),v21 = .int .i64 x21_1∧Aside0 (impl_solve.l0 kq l1 x8_1 t380 (t380.length:Int) x21_1=some (r1,r2))∧Aside0 (kq≤k)∧Aside0 (Kd.R (Kd.int .u8) 5 w' w.heap.size (fun _=>True) v8 x8_1)∧Aside0 (Kd.S (Kd.slice 5 (Kd.int .u8)) 24 w' w.heap.size (fun k_=>some k_ ≠ (v8:Value).ownBlock) (.slice Ao8 t380.length co8) t380)∧Aside0 (Below w.heap.size w w'))
  case atStart=>exact ⟨(y384),(0),D1,H',⟨Nat.le_refl _⟩,⟨yR HO386⟩,⟨by refine sS ?_;exact Kd.S_mono HO383.out (fun _ hk=>hk.2)⟩,⟨yW HB⟩⟩
  case round =>
   clear H'
   try clear c1
   try clear p2
   try clear c4
   obtain ⟨x8_1,x21_1,rfl,HA,HK1,HO_8,HO_19,HB⟩:=hrel
   cases gk with
   | zero=>exact absurd HA.out (by simp [impl_solve.l0])
   | succ k1 =>
    have H:=HA.out
    clear HA
    simp only [impl_solve.l0] at H
    by_cases c9:x21_1 < (t380.length:Int)
    ·rw [if_pos c9] at H
     have c9b0:=decide_eq_true c9
     clear c9
     obtain ⟨c10,H⟩:=yi H
     have c10b0:=decide_eq_true c10
     clear c10
     obtain ⟨c11,H⟩:=yi H
     have c11b0:=decide_eq_true c11
     clear c11
     obtain ⟨t388,A12,H⟩:=yo H
     obtain ⟨c13,H⟩:=yi H
     have LMc13:=am c13
     clear c13
     generalize hy389:(x8_1 ++ [t388]:List Int)=y389 at H
     have Ny389:=am hy389.symm
     clear hy389
     have H':=am H
     clear H
     have p387:0≤(x21_1:Int):=od D0
     have q387:x21_1 < (t380.length:Int):=od D0
     obtain ⟨ad387,A387_0,c387_0,e387,hx387_0,hl387_0,hi387_0⟩:=at_L3 (Kd.S_reads' HO_19.out).2.2 x21_1 p387 q387
     cases e387
     obtain ⟨ce387,hce387,hMe387,hcc387⟩:=Kd.S_get HO_19.out [] x21_1 p387 (by first|exact q387|exact od D0|(have e_:=(Kd.S_reads' HO_19.out).1;omega))
     obtain ⟨ve387_0,rfl,ge387_0⟩:=hMe387
     have hv387_0:=hcc387 0 _ rfl
     rw [Nat.add_zero,show ((Kd.slice 5 (Kd.int .u8))).sz=1 from rfl,Nat.mul_one] at hv387_0
     replace hv387_0:=Option.some.inj (hv387_0.symm.trans hx387_0)
     rw [hv387_0] at ge387_0
     have HL387_0:=am (show Kd.R (Kd.int .u8) 5 _ _ _ _ (rd_L3 t380 x21_1) from ge387_0)
     clear hv387_0 ge387_0
     clear hcc387 hce387
     have HR387_0:=am hi387_0
     have HC387_0:=am hl387_0
     clear hi387_0 hl387_0
     replace p387:=eq_true p387
     replace q387:=eq_true q387
     go_wp2_with (first|((with_reducible refine gC 117 ?_);refine gM (some 28) Try.func117 (args:=#[.slice A387_0 (rd_L3 t380 x21_1).length c387_0, .slice A1 l1.length c1]) (impl_dot.calls k1 _ _ (rd_L3 t380 x21_1) _ _ l1 t388 _ ?side1 ?side2 ?side3 ?side4 A12.out) ?_;(case side1=>repeat (first|exact (by repeat (first|(with_reducible exact HR387_0.out)|(with_reducible refine Kd.C_alloc ?_ _)|(with_reducible refine Kd.C_drewN ?_ _)|(with_reducible refine Kd.C_drew ?_)|exact HR387_0.out))|(with_reducible refine Kd.C_alloc ?_ _)|(with_reducible refine Kd.C_drewN ?_ _)|(with_reducible refine Kd.C_drew ?_)));(case side2=>exact HC387_0.out);(case side3=>repeat (first|exact (Kd.C_below HR1.out HB.out)|(with_reducible refine Kd.C_alloc ?_ _)|(with_reducible refine Kd.C_drewN ?_ _)|(with_reducible refine Kd.C_drew ?_)));(case side4=>exact HC1.out);rintro e w' ⟨rfl,⟨nd,rfl⟩⟩;refine ⟨_,rfl,?_⟩)|((with_reducible refine gate_builtin (b:=.append) (xs:=#[.tmp 25, .tmp 29]) rfl ?_);at_builtin;refine Kd.R_append (Kd.int .u8) (w0:=w) w.heap.size rfl (.tmp 25) (.tmp 29) 24 5 (.int .u8 0) 1 rfl Try.underlying24 info5 rfl D8 D11 u8 x8_1 t388 [.int .u8 t388] (fun _=>True) (fun _=>False) rfl rfl D79 (fun _ hk=>hk.elim) D41 (by exact (yR HO_8)) D55 D47 (by have:=LMc13.out;omega) ?_;intro v390 w14 ho hb hg hat;rw [← Ny389.out] at ho;have n0_:=am (Kd.S_after (ok:=(fun _=>True)) (by refine sS ?_;exact Kd.S_mono HO_19.out (fun _ hk=>⟨trivial,hk⟩)) hg hat);have n1_:=am (Kd.R_after (ok:=(fun k_=>some k_ ≠ (.slice (some ad387) t380.length co8:Value).ownBlock)) (by refine sR ?_;exact Kd.R_mono HL387_0.out (fun _ hk=>⟨hk.2,hk.1⟩)) hg hat);have n2_:=am (hb);have n3_:=am (ho);clear HO_19 HL387_0 HB HO_8;have HO_19:=n0_;have HL387_0:=n1_;have HB:=n2_;have HO391:=n3_;clear n0_ n1_ n2_ n3_ ho hb hg hat))
     go_roundg k1
     case measure=>have:=HK1.out;omega
     case rel=>exact ⟨(y389),(wrap64 (x21_1+1)),D1,H',⟨D34⟩,⟨yR HO391⟩,⟨by refine sS ?_;exact Kd.S_mono HO_19.out (fun _ hk=>hk.2)⟩,⟨yW HB⟩⟩
    rw [if_neg c9] at H
    have c9b0:=decide_eq_false c9
    clear c9
    simp only [Option.some.injEq,Prod.mk.injEq] at H
    obtain ⟨rfl,rfl⟩:=H
    go_wp2
    go_ret2
    exact ⟨_,D2,yR HO_8,yW HB⟩
 replace c4:=Bool.eq_false_iff.mpr c4
 subst c4
 replace H:=yn H
 simp only [Option.some.injEq,Prod.mk.injEq] at H
 obtain ⟨rfl,rfl⟩:=H
 go_enter Try.func109,Try.ntmps109
 go_wp2_with (first|((with_reducible refine gC 92 ?_);refine gM (some 13) Try.func92 (args:=#[.slice A0 l0.length c0]) (impl_inverseOf.calls _ _ l0 t380 false _ (yc HR0.out) HC0.out A3.out) ?_;rintro e w15 ⟨v382,rfl,ho0,hb⟩;refine ⟨_,rfl,?_⟩;have HO383:=am (Kd.S_lower ho0 (pz (yW HB)));replace HB:=yH HB hb;clear hb ho0))
 go_ret2
 exact ⟨_,D2,D14,yW HB⟩
end
end Go.Proofs.Yteflgifmdojahaa.PFnMsr
-- SQUEEZED
