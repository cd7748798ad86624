-- Laid by a program of this session.
import Derived.Test.YtajikfnpcobnpaaPFnExactDecodeShardsx0
import Derived.Test.YtajikfnpcobnpaaPFnExactDecodeShardsx10
namespace Go.Proofs.Ytajikfnpcobnpaa.PFnExactDecodeShards
open Go.RowKit Go.Proofs.YtajikfnpcobnpaaW.PrintWords Go.Proofs.YtajikfnpcobnpaaW.PrintLast Go.Proofs.YtajikfnpcobnpaaW.PrintMore
attribute [local go_sem] max2_int min2_int max_two min_two max_three min_three max_four min_four   -- for this text's walks alone
set_option linter.unusedVariables false
set_option maxHeartbeats 8000000
set_option maxRecDepth 100000
set_option linter.unusedSimpArgs false

section
open Go.Proofs.Ytajikfnpcobnpaa.KitX
theorem info_row_:(Try.prog.info? 57).map (fun i=>(i.zero,i.size,i.bytes))=some (some (.slice none 0 0),1,24):=by kernel_rfl
def impl_codeRows.f (k:Nat) (a0:Int) (a1:Int):Option ((List (List Int))):=(impl_identity.f k a0).bind fun x=>((impl_cauchy.f k a1 a0).bind fun y=>(if x.length+y.length < 5864062014805 then (some (x ++ y)) else (none)))
theorem impl_codeRows.mono:∀ a0 a1 k,LeO (impl_codeRows.f k a0 a1) (impl_codeRows.f (k+1) a0 a1):=fun a0 a1 k=>by
 unfold impl_codeRows.f
 exact LeO.bind (impl_identity.mono _ _) (fun _=>LeO.bind (impl_cauchy.mono _ _ _) (fun _=>LeO.refl _))
set_option maxHeartbeats 4000000 in
theorem impl_codeRows.calls (k:Nat) (a0:Int) (a1:Int) (r:List (List Int)) (w:World) (h:impl_codeRows.f k a0 a1=some r) :
  Calls Try.prog 138 #[.int .i64 a0, .int .i64 a1] w fun e w'=>∃ v0_:Value,e = .returned (v0_)∧Kd.S (Kd.slice 5 (Kd.int .u8)) 57 w' w.heap.size (fun _=>True) v0_ r∧Below w.heap.size w w':=by
 unfold impl_codeRows.f at h
 replace h:=Option.bind_eq_some_iff.mp h
 obtain ⟨x,hx,h⟩:=h
 replace h:=Option.bind_eq_some_iff.mp h
 obtain ⟨y,hy,h⟩:=h
 by_cases hl:x.length+y.length < 5864062014805
 ·rw [if_pos hl] at h
  obtain rfl:=Option.some.inj h
  clear h
  have HX:=am hx
  have HY:=am hy
  have HL:=am hl
  clear hx hy hl
  go_enter Try.func138,Try.ntmps138
  go_wp2_with fail
  refine (impl_identity.calls k a0 x _ HX.out).mono ?_
  rintro e w1 ⟨v1,rfl,ho1,hb1⟩
  have HO1:=am ho1
  have HB1:=am hb1
  clear ho1 hb1
  go_wp2_with fail
  refine (impl_cauchy.calls k a1 a0 y _ HY.out).mono ?_
  rintro e w2 ⟨v2,rfl,ho2,hb2⟩
  obtain ⟨A2,c2,rfl⟩:=Kd.S_slice ho2
  have HB2:=am (pu HB1.out hb2:Below w.heap.size w w2)
  have H1:=am (Kd.S_mono (Kd.S_below (Kd.S_bound HO1.out) hb2) (ok':=fun k=>True∧¬ w1.heap.size≤k) (fun k hk=>⟨trivial,by have:=hk.2.2.1;omega⟩))
  have H2:=am (Kd.S_lower (Kd.S_mono (Kd.S_bound ho2) (ok':=fun k=>w1.heap.size≤k) (fun k hk=>hk.2.1)) HB1.out.size)
  have HN:=am (fun k (hk:w1.heap.size≤k) (he:some k=v1.ownBlock)=>by have:=Kd.S_lt HO1.out k he.symm;omega:∀ k,w1.heap.size≤k→some k=v1.ownBlock→False)
  clear ho2 hb2 HO1 HB1
  go_wp2_with (at_builtin;refine S_append_rows (Kd.slice 5 (Kd.int .u8)) (w0:=w) w.heap.size rfl (.tmp 6) (.tmp 9) 37 57 (.slice none 0 0) 24 rfl Try.underlying37 info_row_ rfl (by decide) (by omega) v1 x y A2 y.length c2 (fun _=>True) (fun k=>w1.heap.size≤k) rfl rfl H1.out H2.out (fun k hk=>⟨trivial,fun he=>HN.out k hk he⟩) (fun _ _=>trivial) HB2.out HB2.out.size (by have:=HL.out;omega) ?_;intro v3 w3 ho3 hb3 hg hat;clear hg hat)
  go_ret
  exact ⟨_,rfl,ho3,hb3⟩
 ·rw [if_neg hl] at h
  cases h
end

def impl_within.f (a0:Int) (a1:Int) (a2:Int):Option (Bool):=if a0 ≥ a1 then (some (decide (a0≤a2))) else (some false)
theorem impl_within.calls (a0:Int) (a1:Int) (a2:Int) (r:Bool) (w:World) (h:impl_within.f a0 a1 a2=some r) :
  Calls Try.prog 137 #[.int .i64 a0, .int .i64 a1, .int .i64 a2] w fun e w'=>e = .returned (.bool r)∧Drawn0 w w':=by
 have H:(if a0 ≥ a1 then (some (decide (a0≤a2))) else (some false))=some r:=h
 clear h
 by_cases c4:a0 ≥ a1
 ·rw [if_pos c4] at H
  have c4b0:decide (a1≤a0)=true:=decide_eq_true c4
  clear c4
  obtain rfl:=Option.some.inj H
  go_enter Try.func137,Try.ntmps137
  go_wp2
  go_ret
  exact ⟨by first|rfl|(simp;done)|(simp [*];done),by repeat (first|exact Drawn0.refl _|apply Drawn0.step)⟩
 ·rw [if_neg c4] at H
  have c4b0:decide (a1≤a0)=false:=decide_eq_false c4
  clear c4
  obtain rfl:=Option.some.inj H
  go_enter Try.func137,Try.ntmps137
  go_wp2
  go_ret
  exact ⟨by first|rfl|(simp;done)|(simp [*];done),by repeat (first|exact Drawn0.refl _|apply Drawn0.step)⟩

def impl_GoodShape.f (a0:Int) (a1:Int):Option (Bool):=(impl_within.f a0 1 8).bind fun t270=>(if t270=true then ((impl_within.f a1 1 6).bind fun t271=>(some t271)) else (some false))
theorem impl_GoodShape.calls (a0:Int) (a1:Int) (r:Bool) (w:World) (h:impl_GoodShape.f a0 a1=some r) :
  Calls Try.prog 144 #[.int .i64 a0, .int .i64 a1] w fun e w'=>e = .returned (.bool r)∧Drawn0 w w':=by
 have H:((impl_within.f a0 1 8).bind fun t270=>(if t270=true then ((impl_within.f a1 1 6).bind fun t271=>(some t271)) else (some false)))=some r:=h
 clear h
 replace H:=Option.bind_eq_some_iff.mp H
 obtain ⟨t270,A30,H⟩:=H
 replace H:(if t270=true then ((impl_within.f a1 1 6).bind fun t271=>(some t271)) else (some false))=some r:=H
 have A3:=am A30
 clear A30
 by_cases c4:t270=true
 ·subst c4
  have H1:((impl_within.f a1 1 6).bind fun t271=>(some t271))=some r:=by rw [if_pos rfl] at H;exact H
  clear H
  have H:=H1
  clear H1
  replace H:=Option.bind_eq_some_iff.mp H
  obtain ⟨t271,A50,H⟩:=H
  replace H:(some t271)=some r:=H
  have A5:=am A50
  clear A50
  obtain rfl:=Option.some.inj H
  go_enter Try.func144,Try.ntmps144
  go_wp2_with (first|((with_reducible refine gate_callee (f:=137) rfl ?_);refine goesL_ (some 6) rfl rfl Try.func137 (by kernel_rfl) rfl #[.int .i64 a0, .int .i64 1, .int .i64 8] rfl (by (try simp only [q4,q5,q6]);first|done|rfl|(simp only [q7,q8];rfl)) ?_;(with_reducible refine (impl_within.calls a0 1 8 true _ A3.out).mono ?_);rintro e w' ⟨rfl,⟨nd,rfl⟩⟩;refine ⟨_,rfl,?_⟩)|(go_at_call 137;(with_reducible refine (impl_within.calls a1 1 6 t271 _ A5.out).mono ?_);rintro e w' ⟨rfl,⟨nd,rfl⟩⟩))
  go_ret
  exact ⟨by first|rfl|(simp;done)|(simp [*];done),by repeat (first|exact Drawn0.refl _|apply Drawn0.step)⟩
 ·replace c4:=Bool.eq_false_iff.mpr c4
  subst c4
  have H1:(some false)=some r:=by rw [if_neg (show ¬ (false=true) by decide)] at H;exact H
  clear H
  have H:=H1
  clear H1
  obtain rfl:=Option.some.inj H
  go_enter Try.func144,Try.ntmps144
  go_wp2_with (first|((with_reducible refine gate_callee (f:=137) rfl ?_);refine goesL_ (some 6) rfl rfl Try.func137 (by kernel_rfl) rfl #[.int .i64 a0, .int .i64 1, .int .i64 8] rfl (by (try simp only [q4,q5,q6]);first|done|rfl|(simp only [q7,q8];rfl)) ?_;(with_reducible refine (impl_within.calls a0 1 8 false _ A3.out).mono ?_);rintro e w' ⟨rfl,⟨nd,rfl⟩⟩;refine ⟨_,rfl,?_⟩))
  go_ret
  exact ⟨by first|rfl|(simp;done)|(simp [*];done),by repeat (first|exact Drawn0.refl _|apply Drawn0.step)⟩

def impl_isIncreasing.l0:Nat→List Int→Int→List Int→Int→Int→Option (Bool)
 | 0,_,_,_,_,_=>none
 | k+1,x0,x1,x7,x8,x9=>if x9 < x8 then (if 0≤x9 then (if x9 < (x7.length:Int) then ((impl_within.f (rd x7 x9) 0 (wrap64 (x1 - 1))).bind fun t273=>(if t273=true then (if x9 > 0 then (if 0≤(wrap64 (x9 - 1)) then (if (wrap64 (x9 - 1)) < (x0.length:Int) then (if (rd x7 x9)≤(rd x0 (wrap64 (x9 - 1))) then (some false) else (impl_isIncreasing.l0 k x0 x1 x7 x8 (wrap64 (x9+1)))) else (none)) else (none)) else (impl_isIncreasing.l0 k x0 x1 x7 x8 (wrap64 (x9+1)))) else (some false))) else (none)) else (none)) else (some true)
def impl_isIncreasing.f (k:Nat) (l0:List Int) (a1:Int):Option (Bool):=impl_isIncreasing.l0 k l0 a1 l0 (l0.length:Int) 0
theorem impl_isIncreasing.mono_l:∀ k,(∀ y0 y1 y2 y3 y4,LeO (impl_isIncreasing.l0 k y0 y1 y2 y3 y4) (impl_isIncreasing.l0 (k+1) y0 y1 y2 y3 y4))
 | 0=>fun _ _ _ _ _ r h=>by simp [impl_isIncreasing.l0] at h
 | k+1=>by
  have ih0:=impl_isIncreasing.mono_l k
  ·intro y0 y1 y2 y3 y4
   unfold impl_isIncreasing.l0
   repeat' first
   | (with_reducible exact ih0 _ _ _ _ _)
   |(with_reducible exact LeO.refl _)|(with_reducible exact LeO.none _)|(with_reducible refine LeO.ite ?_ ?_)|(with_reducible refine LeO.bind ?_ (fun _=>?_))|exact ih0 _ _ _ _ _|exact LeO.none _|refine LeO.ite ?_ ?_|refine LeO.bind ?_ (fun _=>?_)
theorem impl_isIncreasing.mono:∀ a0 a1 k,LeO (impl_isIncreasing.f k a0 a1) (impl_isIncreasing.f (k+1) a0 a1):=by
 intro a0 a1 k
 have ih0:=impl_isIncreasing.mono_l k
 unfold impl_isIncreasing.f
 repeat' first
   | (with_reducible exact ih0 _ _ _ _ _)
   |(with_reducible exact LeO.refl _)|(with_reducible exact LeO.none _)|(with_reducible refine LeO.ite ?_ ?_)|(with_reducible refine LeO.bind ?_ (fun _=>?_))|exact ih0 _ _ _ _ _|exact LeO.none _|refine LeO.ite ?_ ?_|refine LeO.bind ?_ (fun _=>?_)
theorem impl_isIncreasing.calls (k:Nat) (A0:Option Addr) (c0:Nat) (l0:List Int) (a1:Int) (r:Bool) (w:World) (hr0:Kd.C (Kd.int .i64) w A0 l0.length l0) (hc0:l0.length≤c0) (h:impl_isIncreasing.f k l0 a1=some r) :
  Calls Try.prog 96 #[.slice A0 l0.length c0, .int .i64 a1] w fun e w'=>e = .returned (.bool r)∧Drawn0 w w':=by
 have HR0:=am hr0
 have HC0:=am hc0
 clear hr0 hc0
 have H:(impl_isIncreasing.l0 k l0 a1 l0 (l0.length:Int) 0)=some r:=h
 clear h
 have H':=am H
 clear H
 go_enter Try.func96,Try.ntmps96
 go_wp2
 go_loopg [9] k (fun kq v9 w'=>∃ (x9_1:Int),v9 = .int .i64 x9_1∧Aside0 (impl_isIncreasing.l0 kq l0 a1 l0 (l0.length:Int) x9_1=some r)∧Aside0 (kq≤k)∧Drawn0 w w')
 case atStart=>exact ⟨(0),(by first|rfl|(simp;done)|(simp [*];done)),H',⟨Nat.le_refl _⟩,by repeat (first|exact Drawn0.refl _|apply Drawn0.step)⟩
 case round =>
  clear H'
  try clear p2
  obtain ⟨x9_1,rfl,HA,HK1,⟨m1,rfl⟩⟩:=hrel
  cases gk with
  | zero=>exact absurd HA.out (by simp [impl_isIncreasing.l0])
  | succ k1 =>
   have H:=HA.out
   clear HA
   simp only [impl_isIncreasing.l0] at H
   by_cases c3:x9_1 < (l0.length:Int)
   ·rw [if_pos c3] at H
    have c3b0:decide (x9_1 < (l0.length:Int))=true:=decide_eq_true c3
    clear c3
    by_cases c4:0≤x9_1
    ·rw [if_pos c4] at H
     have c4b0:decide (0≤x9_1)=true:=decide_eq_true c4
     clear c4
     by_cases c5:x9_1 < (l0.length:Int)
     ·rw [if_pos c5] at H
      have c5b0:decide (x9_1 < (l0.length:Int))=true:=decide_eq_true c5
      clear c5
      replace H:=Option.bind_eq_some_iff.mp H
      obtain ⟨t273,A60,H⟩:=H
      replace H:(if t273=true then (if x9_1 > 0 then (if 0≤(wrap64 (x9_1 - 1)) then (if (wrap64 (x9_1 - 1)) < (l0.length:Int) then (if (rd l0 x9_1)≤(rd l0 (wrap64 (x9_1 - 1))) then (some false) else (impl_isIncreasing.l0 k1 l0 a1 l0 (l0.length:Int) (wrap64 (x9_1+1)))) else (none)) else (none)) else (impl_isIncreasing.l0 k1 l0 a1 l0 (l0.length:Int) (wrap64 (x9_1+1)))) else (some false))=some r:=H
      have A6:=am A60
      clear A60
      by_cases c7:t273=true
      ·subst c7
       have H1:(if x9_1 > 0 then (if 0≤(wrap64 (x9_1 - 1)) then (if (wrap64 (x9_1 - 1)) < (l0.length:Int) then (if (rd l0 x9_1)≤(rd l0 (wrap64 (x9_1 - 1))) then (some false) else (impl_isIncreasing.l0 k1 l0 a1 l0 (l0.length:Int) (wrap64 (x9_1+1)))) else (none)) else (none)) else (impl_isIncreasing.l0 k1 l0 a1 l0 (l0.length:Int) (wrap64 (x9_1+1))))=some r:=by rw [if_pos rfl] at H;exact H
       clear H
       have H:=H1
       clear H1
       by_cases c8:x9_1 > 0
       ·rw [if_pos c8] at H
        have c8b0:decide (0 < x9_1)=true:=decide_eq_true c8
        clear c8
        obtain ⟨ji9,hji9⟩:∃ j_:Int,(wrap64 (x9_1 - 1))=j_:=⟨_,rfl⟩
        replace H:(if 0≤(ji9) then (if (ji9) < (l0.length:Int) then (if (rd l0 x9_1)≤(rd l0 (ji9)) then (some false) else (impl_isIncreasing.l0 k1 l0 a1 l0 (l0.length:Int) (wrap64 (x9_1+1)))) else (none)) else (none))=some r:=by first|(rw [hji9] at H;exact H)|(simp only [hji9] at H ⊢;exact H)
        (try rw [hji9] at A6)
        have hji9w:(IntKind.i64.wrap (x9_1 - 1))=ji9:=(i64_w _).trans hji9
        by_cases c10:0≤(ji9)
        ·rw [if_pos c10] at H
         have c10b0:decide (0≤(ji9))=true:=decide_eq_true c10
         clear c10
         by_cases c11:(ji9) < (l0.length:Int)
         ·rw [if_pos c11] at H
          have c11b0:decide ((ji9) < (l0.length:Int))=true:=decide_eq_true c11
          clear c11
          by_cases c12:(rd l0 x9_1)≤(rd l0 (ji9))
          ·rw [if_pos c12] at H
           have c12b0:decide ((rd l0 x9_1)≤(rd l0 (ji9)))=true:=decide_eq_true c12
           clear c12
           obtain rfl:=Option.some.inj H
           have p272:0≤(x9_1:Int):=od (by first|(with_reducible assumption)|assumption)
           have q272:x9_1 < (l0.length:Int):=od (by first|(with_reducible assumption)|assumption)
           obtain ⟨ad272,e272,hx272_0⟩:=Kd.at_int HR0.out x9_1 p272 q272
           cases e272
           replace p272:=eq_true p272
           replace q272:=eq_true q272
           go_wp2_with (first|((with_reducible refine gate_callee (f:=137) rfl ?_);refine goesL_ (some 17) rfl rfl Try.func137 (by kernel_rfl) rfl #[.int .i64 (rd l0 x9_1), .int .i64 0, .int .i64 (wrap64 (a1 - 1))] rfl (by (try simp only [q4,q5,q6]);first|done|rfl|(simp only [q7,q8];rfl)) ?_;(with_reducible refine (impl_within.calls (rd l0 x9_1) 0 (wrap64 (a1 - 1)) true _ A6.out).mono ?_);rintro e w' ⟨rfl,⟨nd,rfl⟩⟩;refine ⟨_,rfl,?_⟩;have p274:0≤((ji9):Int):=od (by first|(with_reducible assumption)|assumption);have q274:(ji9) < (l0.length:Int):=od (by first|(with_reducible assumption)|assumption);obtain ⟨ad274,e274,hx274_0⟩:=Kd.at_int HR0.out (ji9) p274 q274;obtain rfl:ad272=ad274:=(by injection e274);replace p274:=eq_true p274;replace q274:=eq_true q274))
           go_ret
           exact ⟨by first|rfl|(simp;done)|(simp only [← hji9] <;> (first|rfl|simp))|(simp [*];done),by repeat (first|exact Drawn0.refl _|apply Drawn0.step)⟩
          ·rw [if_neg c12] at H
           have c12b0:decide ((rd l0 x9_1)≤(rd l0 (ji9)))=false:=decide_eq_false c12
           clear c12
           have H':=am H
           clear H
           have p272:0≤(x9_1:Int):=od (by first|(with_reducible assumption)|assumption)
           have q272:x9_1 < (l0.length:Int):=od (by first|(with_reducible assumption)|assumption)
           obtain ⟨ad272,e272,hx272_0⟩:=Kd.at_int HR0.out x9_1 p272 q272
           cases e272
           replace p272:=eq_true p272
           replace q272:=eq_true q272
           go_wp2_with (first|((with_reducible refine gate_callee (f:=137) rfl ?_);refine goesL_ (some 17) rfl rfl Try.func137 (by kernel_rfl) rfl #[.int .i64 (rd l0 x9_1), .int .i64 0, .int .i64 (wrap64 (a1 - 1))] rfl (by (try simp only [q4,q5,q6]);first|done|rfl|(simp only [q7,q8];rfl)) ?_;(with_reducible refine (impl_within.calls (rd l0 x9_1) 0 (wrap64 (a1 - 1)) true _ A6.out).mono ?_);rintro e w' ⟨rfl,⟨nd,rfl⟩⟩;refine ⟨_,rfl,?_⟩;have p274:0≤((ji9):Int):=od (by first|(with_reducible assumption)|assumption);have q274:(ji9) < (l0.length:Int):=od (by first|(with_reducible assumption)|assumption);obtain ⟨ad274,e274,hx274_0⟩:=Kd.at_int HR0.out (ji9) p274 q274;obtain rfl:ad272=ad274:=(by injection e274);replace p274:=eq_true p274;replace q274:=eq_true q274))
           go_roundg k1
           case measure=>have:=HK1.out;omega
           case rel=>exact ⟨(wrap64 (x9_1+1)),(by first|rfl|(simp;done)|(simp [*];done)),H',⟨by have:=HK1.out;omega⟩,by repeat (first|exact Drawn0.refl _|apply Drawn0.step)⟩
         ·rw [if_neg c11] at H
          exact absurd H (by simp)
        ·rw [if_neg c10] at H
         exact absurd H (by simp)
       ·rw [if_neg c8] at H
        have c8b0:decide (0 < x9_1)=false:=decide_eq_false c8
        clear c8
        have H':=am H
        clear H
        have p272:0≤(x9_1:Int):=od (by first|(with_reducible assumption)|assumption)
        have q272:x9_1 < (l0.length:Int):=od (by first|(with_reducible assumption)|assumption)
        obtain ⟨ad272,e272,hx272_0⟩:=Kd.at_int HR0.out x9_1 p272 q272
        cases e272
        replace p272:=eq_true p272
        replace q272:=eq_true q272
        go_wp2_with (first|((with_reducible refine gate_callee (f:=137) rfl ?_);refine goesL_ (some 17) rfl rfl Try.func137 (by kernel_rfl) rfl #[.int .i64 (rd l0 x9_1), .int .i64 0, .int .i64 (wrap64 (a1 - 1))] rfl (by (try simp only [q4,q5,q6]);first|done|rfl|(simp only [q7,q8];rfl)) ?_;(with_reducible refine (impl_within.calls (rd l0 x9_1) 0 (wrap64 (a1 - 1)) true _ A6.out).mono ?_);rintro e w' ⟨rfl,⟨nd,rfl⟩⟩;refine ⟨_,rfl,?_⟩))
        go_roundg k1
        case measure=>have:=HK1.out;omega
        case rel=>exact ⟨(wrap64 (x9_1+1)),(by first|rfl|(simp;done)|(simp [*];done)),H',⟨by have:=HK1.out;omega⟩,by repeat (first|exact Drawn0.refl _|apply Drawn0.step)⟩
      ·replace c7:=Bool.eq_false_iff.mpr c7
       subst c7
       have H1:(some false)=some r:=by rw [if_neg (show ¬ (false=true) by decide)] at H;exact H
       clear H
       have H:=H1
       clear H1
       obtain rfl:=Option.some.inj H
       have p272:0≤(x9_1:Int):=od (by first|(with_reducible assumption)|assumption)
       have q272:x9_1 < (l0.length:Int):=od (by first|(with_reducible assumption)|assumption)
       obtain ⟨ad272,e272,hx272_0⟩:=Kd.at_int HR0.out x9_1 p272 q272
       cases e272
       replace p272:=eq_true p272
       replace q272:=eq_true q272
       go_wp2_with (first|((with_reducible refine gate_callee (f:=137) rfl ?_);refine goesL_ (some 17) rfl rfl Try.func137 (by kernel_rfl) rfl #[.int .i64 (rd l0 x9_1), .int .i64 0, .int .i64 (wrap64 (a1 - 1))] rfl (by (try simp only [q4,q5,q6]);first|done|rfl|(simp only [q7,q8];rfl)) ?_;(with_reducible refine (impl_within.calls (rd l0 x9_1) 0 (wrap64 (a1 - 1)) false _ A6.out).mono ?_);rintro e w' ⟨rfl,⟨nd,rfl⟩⟩;refine ⟨_,rfl,?_⟩))
       go_ret
       exact ⟨by first|rfl|(simp;done)|(simp [*];done),by repeat (first|exact Drawn0.refl _|apply Drawn0.step)⟩
     ·rw [if_neg c5] at H
      exact absurd H (by simp)
    ·rw [if_neg c4] at H
     exact absurd H (by simp)
   ·rw [if_neg c3] at H
    have c3b0:decide (x9_1 < (l0.length:Int))=false:=decide_eq_false c3
    clear c3
    obtain rfl:=Option.some.inj H
    go_wp2
    go_ret
    exact ⟨by first|rfl|(simp;done)|(simp [*];done),by repeat (first|exact Drawn0.refl _|apply Drawn0.step)⟩

-- NOT PRINTED: function 210 (slices_IndexFunc_string_string)

-- NOT PRINTED: function 204 (slices_ContainsFunc_string_string)

section
open Go.Proofs.Ytajikfnpcobnpaa.KitW
set_option maxHeartbeats 4000000 in
theorem texts_IndexFunc (g:Nat) (eg:∀ args w,(callFunc g args).run Try.prog w = .ok (.enter g args) w) (fv:Value) (p:Nat→Bool) (ad:Addr) (n c:Nat) (v:Nat→Value) (w:World) (hbig:n≤9223372036854775806)
  (hc:∀ i,i < n→w.cell? (ad.add i)=some (v i))
  (hp:∀ i,i < n→∀ W,Drawn0 w W→Calls Try.prog g #[v i,fv] W fun e w'=>e = .returned (.bool (p i))∧Drawn0 W w') :
  Calls Try.prog 210 #[.slice (some ad) n c, .func (.func g) #[] #[fv]] w fun e w'=>(∃ r,e = .returned (.int .i64 r)∧IdxOf p n r)∧Drawn0 w w':=by
 have HP:=am hp
 have HC:=am hc
 clear hp hc
 go_enter Try.func210,Try.ntmps210
 go_wp2
 go_loopg [5,8] n (fun gg _ s8 wr=>∃ kk:Nat,kk≤n∧n - kk≤gg∧s8 = .int .i64 kk∧Aside0 (Drawn0 w wr)∧Aside0 (∀ j,j < kk→p j=false))
 case atStart=>exact ⟨0,Nat.zero_le _,by omega,rfl,⟨Drawn0.refl _⟩,⟨fun j hj=>absurd hj (Nat.not_lt_zero _)⟩⟩
 case round =>
  obtain ⟨kk,hkk,hg,rfl,HD,HA⟩:=hrel
  by_cases hlt:kk < n
  ·have hltz:(kk:Int) < (n:Int):=by omega
   have hcell:wr.cell? (ad.add kk)=some (v kk):=by
    obtain ⟨q,rfl⟩:=HD.out.out
    exact HC.out kk hlt
   have hcall:=HP.out kk hlt
   cases hq:p kk with
   | true =>
    rw [hq] at hcall
    have HQ:=am hq
    clear hq
    have HX:=am hcall
    clear hcall
    go_wp2_with (go_at_fn g;refine (HX.out _ ?dr).mono ?_;(case dr=>exact HD.out);rintro e w' ⟨rfl,hd⟩)
    go_ret
    exact ⟨⟨_,rfl, .inr ⟨kk,hlt,rfl,HQ.out,HA.out⟩⟩,drawn_trans HD.out hd⟩
   | false =>
    rw [hq] at hcall
    have HQ:=am hq
    clear hq
    have HX:=am hcall
    clear hcall
    go_wp2_with (go_at_fn g;refine (HX.out _ ?dr).mono ?_;(case dr=>exact HD.out);rintro e w' ⟨rfl,hd⟩)
    go_roundg (n - (kk+1))
    case measure=>omega
    case rel=>exact ⟨kk+1,by omega,by omega,by go_num,⟨drawn_trans HD.out hd⟩,⟨fun j hj=>by by_cases e:j=kk;exact e ▸ HQ.out;exact HA.out j (by omega)⟩⟩
  ·have hltz:¬ (kk:Int) < (n:Int):=by omega
   have:kk=n:=by omega
   subst this
   go_wp2
   go_ret
   exact ⟨⟨_,rfl, .inl ⟨rfl,HA.out⟩⟩,HD.out⟩
set_option maxHeartbeats 4000000 in
theorem texts_ContainsFunc (g:Nat) (eg:∀ args w,(callFunc g args).run Try.prog w = .ok (.enter g args) w) (fv:Value) (p:Nat→Bool) (ad:Addr) (n c:Nat) (v:Nat→Value) (w:World) (hbig:n≤9223372036854775806)
  (hc:∀ i,i < n→w.cell? (ad.add i)=some (v i))
  (hp:∀ i,i < n→∀ W,Drawn0 w W→Calls Try.prog g #[v i,fv] W fun e w'=>e = .returned (.bool (p i))∧Drawn0 W w') :
  Calls Try.prog 204 #[.slice (some ad) n c, .func (.func g) #[] #[fv]] w fun e w'=>e = .returned (.bool ((List.range n).any p))∧Drawn0 w w':=by
 have HX:=am (texts_IndexFunc g eg fv p ad n c v w hbig hc hp)
 clear hp hc
 go_enter Try.func204,Try.ntmps204
 go_wp2_with (go_at_call 210;refine HX.out.mono ?_;rintro e w' ⟨⟨r,rfl,hr⟩,hd⟩)
 go_ret
 refine ⟨?_,hd⟩
 rw [← idxOf_nonneg hr]
 first|rfl|(simp;done)
/-- No text at all: nothing is looked at. -/
theorem texts_none (A:Option Addr) (c:Nat) (fv:Value) (w:World) :
  Calls Try.prog 204 #[.slice A 0 c,fv] w fun e w'=>e = .returned (.bool false)∧w=w':=by
 have HX:∀ w:World,Calls Try.prog 210 #[.slice A 0 c,fv] w fun e w'=>e = .returned (.int .i64 (-1))∧w=w':=by
  intro w
  go_enter Try.func210,Try.ntmps210
  go_wp2
  go_loopg [5,8] 0 (fun gg _ s8 wr=>s8 = .int .i64 0∧w=wr)
  case atStart=>exact ⟨rfl,rfl⟩
  case round =>
   obtain ⟨rfl,rfl⟩:=hrel
   go_wp2
   go_ret
   exact ⟨rfl,rfl⟩
 go_enter Try.func204,Try.ntmps204
 go_wp2_with (go_at_call 210;refine (HX _).mono ?_;rintro e w' ⟨rfl,rfl⟩)
 go_ret
 exact ⟨rfl,rfl⟩
/-- The test of one text. -/
theorem texts_test (gb:Nat) (ad:Addr) (n c:Nat) (hn:0 < n) (s0 s:ByteArray) (hs:s.size≤140737488355328) (h0s:s0.size≤140737488355328) (W:World)
  (hbox:W.cell? ⟨gb,0,none⟩=some (.slice (some ad) n c)) (h0:W.cell? (ad.add 0)=some (.string s0)) :
  Calls Try.prog 205 #[.string s, .pointer (some ⟨gb,0,none⟩)] W fun e w'=>e = .returned (.bool (decide (40 < s.size) ||s.size != s0.size))∧Drawn0 W w':=by
 rw [Addr.add_zero'] at h0
 have hn':(0 < n)=True:=eq_true hn
 by_cases h1:40 < s.size
 ·have h1z:decide ((s.size:Int) > 40)=true:=decide_eq_true (by omega)
  have h1n:decide (40 < s.size)=true:=decide_eq_true h1
  go_enter Try.func205,Try.ntmps205
  go_wp2
  go_ret
  refine ⟨?_,Drawn0.refl _⟩
  rw [h1n];rfl
 ·have h1z:decide ((s.size:Int) > 40)=false:=decide_eq_false (by omega)
  have h1n:decide (40 < s.size)=false:=decide_eq_false h1
  go_enter Try.func205,Try.ntmps205
  go_wp2
  go_ret
  refine ⟨?_,Drawn0.refl _⟩
  rw [h1n,Bool.false_or]
  by_cases e:s.size=s0.size
  ·rw [e];simp
  ·have e2:¬ ((s.size:Int)=(s0.size:Int)):=by omega
   simp only [bne]
   rw [show ((s.size:Int) == (s0.size:Int))=false by simpa using e2,show (s.size == s0.size)=false by simpa using e]
   rfl
def impl_areEqual.f (l0:List ByteArray):Option (Bool):=if l0.length≤140737488355328∧∀ s ∈ l0,s.size≤140737488355328 then some (textsOk l0) else none
set_option maxHeartbeats 4000000 in
theorem impl_areEqual.calls (A0:Option Addr) (c0:Nat) (l0:List ByteArray) (r:Bool) (w:World) (hr0:Kd.C Kd.string w A0 l0.length l0) (hc0:l0.length≤c0) (h:impl_areEqual.f l0=some r) :
  Calls Try.prog 177 #[.slice A0 l0.length c0] w fun e w'=>e = .returned (.bool r)∧Below w.heap.size w w':=by
 unfold impl_areEqual.f at h
 by_cases hs:l0.length≤140737488355328∧∀ s ∈ l0,s.size≤140737488355328
 ·rw [if_pos hs] at h
  obtain rfl:=Option.some.inj h
  clear h
  have HS:=am hs
  clear hs
  by_cases hp:0 < l0.length
  ·obtain ⟨ad,rfl,_⟩:=hr0.2.2 hp
   have hb9:l0.length≤9223372036854775806:=by have:=HS.out.1;omega
   have hcell:∀ i,i < l0.length→w.cell? (ad.add i)=some (.string (l0.getD i ByteArray.empty)):=fun i hi=>by
    obtain ⟨ad',e,h⟩:=Kd.at_string hr0 (i:Int) (by omega) (by omega)
    injection e with e
    subst e
    rw [Int.toNat_natCast] at h
    rw [h]
    unfold rdOf
    rw [Int.toNat_natCast]
   have HC:=am hcell
   have HP:=am hp
   have H9:=am hb9
   clear hcell hr0 hp hb9
   go_enter Try.func177,Try.ntmps177
   go_wp2_with fail
   obtain ⟨W,hW⟩:∃ W:World,W=w.alloc (.cells #[.slice (some ad) l0.length c0] 22 (0,0)):=⟨_,rfl⟩
   have hb:Below w.heap.size w W:=by rw [hW];exact pa (Below.refl _ _) _
   have hc1:W.cell? ⟨w.heap.size,0,none⟩=some (.slice (some ad) l0.length c0):=by rw [hW];go_simp
   rw [← hW]
   clear hW
   have hcell:∀ i,i < l0.length→W.cell? (ad.add i)=some (.string (l0.getD i ByteArray.empty)):=fun i hi=>(hb.cell (World.block_lt_of_cell? w _ (HC.out i hi))).trans (HC.out i hi)
   have hsz:∀ i,(l0.getD i ByteArray.empty).size≤140737488355328:=fun i=>by
    rw [List.getD_eq_getElem?_getD]
    by_cases hi:i < l0.length
    ·rw [List.getElem?_eq_getElem hi];exact HS.out.2 _ (List.getElem_mem hi)
    ·rw [List.getElem?_eq_none (by omega)];decide
   have hcf:=texts_ContainsFunc 205 (enters_of Try.func205 rfl rfl) (.pointer (some ⟨w.heap.size,0,none⟩)) (fun i=>decide (40 < (l0.getD i ByteArray.empty).size) ||(l0.getD i ByteArray.empty).size != (l0.getD 0 ByteArray.empty).size) ad l0.length c0 (fun i=>.string (l0.getD i ByteArray.empty)) W H9.out hcell
    (fun i hi W1 hd=>by
     obtain ⟨q3,rfl⟩:=hd.out
     exact texts_test w.heap.size ad l0.length c0 HP.out (l0.getD 0 ByteArray.empty) (l0.getD i ByteArray.empty) (hsz i) (hsz 0) _ hc1 (hcell 0 HP.out))
   have HB:=am hb
   clear hb hcell hsz
   refine hcf.mono ?_
   clear hcf
   rintro e w' ⟨rfl,⟨q3,rfl⟩⟩
   go_wp2
   go_ret
   exact ⟨rfl,pb HB.out _⟩
  ·have e0:l0=[]:=List.eq_nil_of_length_eq_zero (by omega)
   subst e0
   clear hp hr0 HS hc0
   go_enter Try.func177,Try.ntmps177
   go_wp2_with (go_at_call 204;refine (texts_none _ _ _ _).mono ?_;rintro e w' ⟨rfl,rfl⟩)
   go_ret
   exact ⟨rfl,pa (Below.refl _ _) _⟩
 ·rw [if_neg hs] at h
  cases h
end

def impl_areShards.l0:Nat→Int→List Int→List ByteArray→List (S84)→Int→Int→Option (Bool)
 | 0,_,_,_,_,_,_=>none
 | k+1,x1,x5,x6,x11,x12,x13=>if x13 < x12 then (if 0≤x13 then (if x13 < (x11.length:Int) then (if x5.length < 17592186044416 then (if x6.length < 8796093022208 then (impl_areShards.l0 k x1 (x5 ++ [(rd_T84 x11 x13).f0]) (x6 ++ [(rd_T84 x11 x13).f1]) x11 x12 (wrap64 (x13+1))) else (none)) else (none)) else (none)) else (none)) else ((impl_isIncreasing.f k x5 x1).bind fun t289=>(if t289=true then ((impl_areEqual.f x6).bind fun t290=>(some t290)) else (some false)))
def impl_areShards.f (k:Nat) (l0:List (S84)) (a1:Int):Option (Bool):=impl_areShards.l0 k a1 (([]:List Int)) (([]:List ByteArray)) l0 (l0.length:Int) 0
theorem impl_areShards.mono_l:∀ k,(∀ y0 y1 y2 y3 y4 y5,LeO (impl_areShards.l0 k y0 y1 y2 y3 y4 y5) (impl_areShards.l0 (k+1) y0 y1 y2 y3 y4 y5))
 | 0=>fun _ _ _ _ _ _ r h=>by simp [impl_areShards.l0] at h
 | k+1=>by
  have ih0:=impl_areShards.mono_l k
  ·intro y0 y1 y2 y3 y4 y5
   unfold impl_areShards.l0
   repeat' first
   | (with_reducible exact ih0 _ _ _ _ _ _)
   | (with_reducible exact impl_isIncreasing.mono _ _ _)
   |(with_reducible exact LeO.refl _)|(with_reducible exact LeO.none _)|(with_reducible refine LeO.ite ?_ ?_)|(with_reducible refine LeO.bind ?_ (fun _=>?_))|exact ih0 _ _ _ _ _ _|exact impl_isIncreasing.mono _ _ _|exact LeO.none _|refine LeO.ite ?_ ?_|refine LeO.bind ?_ (fun _=>?_)
theorem impl_areShards.mono:∀ a0 a1 k,LeO (impl_areShards.f k a0 a1) (impl_areShards.f (k+1) a0 a1):=by
 intro a0 a1 k
 have ih0:=impl_areShards.mono_l k
 unfold impl_areShards.f
 repeat' first
   | (with_reducible exact ih0 _ _ _ _ _ _)
   | (with_reducible exact impl_isIncreasing.mono _ _ _)
   |(with_reducible exact LeO.refl _)|(with_reducible exact LeO.none _)|(with_reducible refine LeO.ite ?_ ?_)|(with_reducible refine LeO.bind ?_ (fun _=>?_))|exact ih0 _ _ _ _ _ _|exact impl_isIncreasing.mono _ _ _|exact LeO.none _|refine LeO.ite ?_ ?_|refine LeO.bind ?_ (fun _=>?_)
theorem impl_areShards.calls (k:Nat) (A0:Option Addr) (c0:Nat) (l0:List (S84)) (a1:Int) (r:Bool) (w:World) (hr0:Kd.C k84 w A0 l0.length l0) (hc0:l0.length≤c0) (h:impl_areShards.f k l0 a1=some r) :
  Calls Try.prog 145 #[.slice A0 l0.length c0, .int .i64 a1] w fun e w'=>e = .returned (.bool r)∧Below w.heap.size w w':=by
 have hu84:=Try.underlying84
 have HR0:=am hr0
 have HC0:=am hc0
 clear hr0 hc0
 have HB:=am (Below.refl w.heap.size w)
 have H:(impl_areShards.l0 k a1 (([]:List Int)) (([]:List ByteArray)) l0 (l0.length:Int) 0)=some r:=h
 clear h
 obtain ⟨y275,hy275⟩:∃ y_:List Int,y_=(([]:List Int)):=⟨_,rfl⟩
 replace H:(impl_areShards.l0 k a1 y275 (([]:List ByteArray)) l0 (l0.length:Int) 0)=some r:=by first|(rw [hy275];with_reducible exact H)|(have H2_:=(Option.bind_some _ _).symm.trans H;rw [hy275];with_reducible exact H2_)|(have H2_:=(Option.bind_some _ _).symm.trans H;with_reducible exact H2_)|with_reducible exact H|(rw [hy275];exact H)|exact H
 have Ny275:=am hy275
 clear hy275
 obtain ⟨y278,hy278⟩:∃ y_:List ByteArray,y_=(([]:List ByteArray)):=⟨_,rfl⟩
 replace H:(impl_areShards.l0 k a1 y275 y278 l0 (l0.length:Int) 0)=some r:=by first|(rw [hy278];with_reducible exact H)|(have H2_:=(Option.bind_some _ _).symm.trans H;rw [hy278];with_reducible exact H2_)|(have H2_:=(Option.bind_some _ _).symm.trans H;with_reducible exact H2_)|with_reducible exact H|(rw [hy278];exact H)|exact H
 have Ny278:=am hy278
 clear hy278
 have H':=am H
 clear H
 go_enter Try.func145,Try.ntmps145
 go_wp2_with (first|((with_reducible refine gate_dst (N:=9) rfl ?_);refine Kd.R_lit (Kd.int .i64) _ 3 ?hg (N:=9) ?hd (xs:=([]:List Int)) (inner:=[]) (ok:=fun _=>True) (okp:=fun _=>True) ?hr ?hp (fun _ hk=>hk) trivial (Below.refl _ _) (Nat.le_refl _) (by simp) ?_;(case hd=>rfl);(case hg=>rfl);(case hr=>first|(go_simp;done)|(go_simp;rfl));(case hp=>exact (Reps.none _ _));intro v276 w3 ho4 hb hg_ hnew_;clear hg_ hnew_;(first|rw [← Ny275.out] at ho4|(simp only [Int.reduceToNat] at ho4;rw [← Ny275.out] at ho4));have n0_:=am (Kd.R_lower ho4 (pz (by repeat (first|(with_reducible first|exact HB.out|apply pa|apply pb|apply pd)|exact HB.out))));have n1_:=am (pu (by repeat (first|(with_reducible first|exact HB.out|apply pa|apply pb|apply pd)|exact HB.out)) hb);clear HB;have HO277:=n0_;have HB:=n1_;clear n0_ n1_;clear hb ho4)|((with_reducible refine gate_dst (N:=10) rfl ?_);refine Kd.R_lit Kd.string _ 9 ?hg (N:=10) ?hd (xs:=([]:List ByteArray)) (inner:=[]) (ok:=fun _=>True) (okp:=fun _=>True) ?hr ?hp (fun _ hk=>hk) trivial (Below.refl _ _) (Nat.le_refl _) (by simp) ?_;(case hd=>rfl);(case hg=>rfl);(case hr=>first|(go_simp;done)|(go_simp;rfl));(case hp=>exact (Reps.none _ _));intro v279 w5 ho6 hb hg_ hnew_;clear hg_ hnew_;(first|rw [← Ny278.out] at ho6|(simp only [Int.reduceToNat] at ho6;rw [← Ny278.out] at ho6));have n0_:=am (Kd.R_below (by (with_reducible repeat (first|apply Kd.R_alloc|apply Kd.R_drewN|apply Kd.R_drew));exact HO277.out) hb);have n1_:=am (Kd.R_lower ho6 (pz (by repeat (first|(with_reducible first|exact HB.out|apply pa|apply pb|apply pd)|exact HB.out))));have n2_:=am (pu (by repeat (first|(with_reducible first|exact HB.out|apply pa|apply pb|apply pd)|exact HB.out)) hb);clear HO277;clear HB;have HO277:=n0_;have HO280:=n1_;have HB:=n2_;clear n0_ n1_ n2_;clear hb ho6))
 go_loopg [5,6,13] k (fun kq v5 v6 v13 w'=>∃ (x5_1:List Int) (x6_1:List ByteArray) (x13_1:Int),v13 = .int .i64 x13_1∧Aside0 (impl_areShards.l0 kq a1 x5_1 x6_1 l0 (l0.length:Int) x13_1=some r)∧Aside0 (kq≤k)∧Aside0 (Kd.R (Kd.int .i64) 3 w' w.heap.size (fun _=>True) v5 x5_1)∧Aside0 (Kd.R Kd.string 9 w' w.heap.size (fun _=>True) v6 x6_1)∧Aside0 (Below w.heap.size w w'))
 case atStart=>exact ⟨(y275),(y278),(0),(by first|rfl|(simp;done)|(simp [*];done)),H',⟨Nat.le_refl _⟩,⟨by (with_reducible repeat (first|apply Kd.R_alloc|apply Kd.R_drewN|apply Kd.R_drew));exact HO277.out⟩,⟨by (with_reducible repeat (first|apply Kd.R_alloc|apply Kd.R_drewN|apply Kd.R_drew));exact HO280.out⟩,⟨by repeat (first|(with_reducible first|exact HB.out|apply pa|apply pb|apply pd)|exact HB.out)⟩⟩
 case round =>
  clear H'
  try clear c1
  try clear p2
  obtain ⟨x5_1,x6_1,x13_1,rfl,HA,HK1,HO_5,HO_6,HB⟩:=hrel
  cases gk with
  | zero=>exact absurd HA.out (by simp [impl_areShards.l0])
  | succ k1 =>
   have H:=HA.out
   clear HA
   simp only [impl_areShards.l0] at H
   by_cases c7:x13_1 < (l0.length:Int)
   ·rw [if_pos c7] at H
    have c7b0:decide (x13_1 < (l0.length:Int))=true:=decide_eq_true c7
    clear c7
    by_cases c8:0≤x13_1
    ·rw [if_pos c8] at H
     have c8b0:decide (0≤x13_1)=true:=decide_eq_true c8
     clear c8
     by_cases c9:x13_1 < (l0.length:Int)
     ·rw [if_pos c9] at H
      have c9b0:decide (x13_1 < (l0.length:Int))=true:=decide_eq_true c9
      clear c9
      by_cases c10:x5_1.length < 17592186044416
      ·rw [if_pos c10] at H
       have LMc10:=am c10
       clear c10
       obtain ⟨y283,hy283⟩:∃ y_:List Int,y_=(x5_1 ++ [(rd_T84 l0 x13_1).f0]):=⟨_,rfl⟩
       replace H:(if x6_1.length < 8796093022208 then (impl_areShards.l0 k1 a1 y283 (x6_1 ++ [(rd_T84 l0 x13_1).f1]) l0 (l0.length:Int) (wrap64 (x13_1+1))) else (none))=some r:=by first|(rw [hy283];with_reducible exact H)|(have H2_:=(Option.bind_some _ _).symm.trans H;rw [hy283];with_reducible exact H2_)|(have H2_:=(Option.bind_some _ _).symm.trans H;with_reducible exact H2_)|with_reducible exact H|(rw [hy283];exact H)|exact H
       have Ny283:=am hy283
       clear hy283
       by_cases c11:x6_1.length < 8796093022208
       ·rw [if_pos c11] at H
        have LMc11:=am c11
        clear c11
        obtain ⟨y286,hy286⟩:∃ y_:List ByteArray,y_=(x6_1 ++ [(rd_T84 l0 x13_1).f1]):=⟨_,rfl⟩
        replace H:(impl_areShards.l0 k1 a1 y283 y286 l0 (l0.length:Int) (wrap64 (x13_1+1)))=some r:=by first|(rw [hy286];with_reducible exact H)|(have H2_:=(Option.bind_some _ _).symm.trans H;rw [hy286];with_reducible exact H2_)|(have H2_:=(Option.bind_some _ _).symm.trans H;with_reducible exact H2_)|with_reducible exact H|(rw [hy286];exact H)|exact H
        have Ny286:=am hy286
        clear hy286
        have H':=am H
        clear H
        have p281:0≤(x13_1:Int):=od (by first|(with_reducible assumption)|assumption)
        have q281:x13_1 < (l0.length:Int):=od (by first|(with_reducible assumption)|assumption)
        obtain ⟨ad281,e281,hx281_0,hx281_1⟩:=at_T84 HR0.out x13_1 p281 q281
        cases e281
        replace hx281_0:=(HB.out.cell (World.block_lt_of_cell? w _ hx281_0)).trans hx281_0
        replace hx281_1:=(HB.out.cell (World.block_lt_of_cell? w _ hx281_1)).trans hx281_1
        replace p281:=eq_true p281
        replace q281:=eq_true q281
        go_wp2_with (first|((with_reducible refine gate_dst (N:=8) rfl ?_);refine box_event ?hg (N:=8) ?hd (cs:=#[.int .i64 0, .string (⟨#[]⟩:ByteArray)]) (t:=84) ?hr ?_;(case hd=>rfl);(case hg=>rfl);(case hr=>first|(go_simp;done)|(go_simp;rfl));intro gb282 hg w12 hbox hb;have n0_:=am (Kd.R_below (by (with_reducible repeat (first|apply Kd.R_alloc|apply Kd.R_drewN|apply Kd.R_drew));exact HO_5.out) hb);have n1_:=am (Kd.R_below (by (with_reducible repeat (first|apply Kd.R_alloc|apply Kd.R_drewN|apply Kd.R_drew));exact HO_6.out) hb);have n2_:=am (pu (by repeat (first|(with_reducible first|exact HB.out|apply pa|apply pb|apply pd)|exact HB.out)) hb);have n3_:=am (hbox);have n4_:=am ((by rw [hg];exact (pz (by repeat (first|(with_reducible first|exact HB.out|apply pa|apply pb|apply pd)|exact HB.out))):w.heap.size≤gb282));have n5_:=n4_;clear HO_5;clear HO_6;clear HB;have HO_5:=n0_;have HO_6:=n1_;have HB:=n2_;have BK282:=n3_;have GW282:=n4_;have GE282:=n5_;clear n0_ n1_ n2_ n3_ n4_ n5_;clear hb hbox hg;have hcz13_0:w12.cell? ⟨gb282,0,none⟩=some (.int .i64 0):=(blk_cell BK282.out 0).trans rfl;have hcz13_1:w12.cell? ⟨gb282,1,none⟩=some (.string (⟨#[]⟩:ByteArray)):=(blk_cell BK282.out 1).trans rfl;have hfz13_0:=blk_frozen BK282.out 0;have hfz13_1:=blk_frozen BK282.out 1)|((with_reducible refine gate_builtin (b:=.append) (xs:=#[.tmp 17, .tmp 20]) rfl ?_);at_builtin;refine Kd.R_append (Kd.int .i64) (w0:=w) w.heap.size rfl (.tmp 17) (.tmp 20) 25 3 (.int .i64 0) 8 rfl Try.underlying25 info3 rfl (by decide) (by omega) u5 x5_1 ((rd_T84 l0 x13_1).f0) [.int .i64 ((rd_T84 l0 x13_1).f0)] (fun _=>True) (fun _=>False) rfl (by first|(go_simp;done)|(go_simp;rfl)) ?aP (fun _ hk=>hk.elim) ?aF ?aO ?aB ?aS ?aL ?_;(case aP=>exact rfl);(case aB=>exact (by repeat (first|(with_reducible first|exact HB.out|apply pa|apply pb|apply pd|refine pt ?_ GE282.out)|exact HB.out)));(case aF=>exact (fun _ _=>trivial));(case aO=>exact (by (with_reducible repeat (first|apply Kd.R_alloc|apply Kd.R_drewN|apply Kd.R_drew));exact Kd.R_mono (Kd.R_far (p:=⟨gb282,1,none⟩) (Kd.R_far (p:=⟨gb282,0,none⟩) (Kd.R_types HO_5.out BK282.out (by decide)) (fun _ hk=>hk.2) (.int .i64 ((rd_T84 l0 x13_1).f0))) (fun _ hk=>hk.2) (.string ((rd_T84 l0 x13_1).f1))) (fun _ hk=>trivial)));(case aS=>exact (pz (by repeat (first|(with_reducible first|exact HB.out|apply pa|apply pb|apply pd|refine pt ?_ GE282.out)|exact HB.out))));(case aL=>have:=LMc10.out;omega);intro v284 w14 ho hb hg hat;rw [← Ny283.out] at ho;have n0_:=am (Kd.R_over' (by (with_reducible repeat (first|apply Kd.R_alloc|apply Kd.R_drewN|apply Kd.R_drew));exact (Kd.R_mono (Kd.R_far (p:=⟨gb282,1,none⟩) (Kd.R_far (p:=⟨gb282,0,none⟩) (Kd.R_types HO_6.out BK282.out (by decide)) (fun _ hk=>hk.2) (.int .i64 ((rd_T84 l0 x13_1).f0))) (fun _ hk=>hk.2) (.string ((rd_T84 l0 x13_1).f1))) (fun _ h_=>h_.1))) (Kd.R_typed (by (with_reducible repeat (first|apply Kd.R_alloc|apply Kd.R_drewN|apply Kd.R_drew));exact (Kd.R_mono (Kd.R_far (p:=⟨gb282,1,none⟩) (Kd.R_far (p:=⟨gb282,0,none⟩) (Kd.R_types HO_5.out BK282.out (by decide)) (fun _ hk=>hk.2) (.int .i64 ((rd_T84 l0 x13_1).f0))) (fun _ hk=>hk.2) (.string ((rd_T84 l0 x13_1).f1))) (fun _ h_=>h_.1)))) (by decide) hg);have n1_:=am (blk_grown (g:=gb282) (o:=.cells #[.int .i64 ((rd_T84 l0 x13_1).f0), .string ((rd_T84 l0 x13_1).f1)] 84 (0,0)) (by (with_reducible repeat (first|refine qn ?_ _|refine qd ?_|refine qa ?_ _));refine blk_put (cs:=#[.int .i64 ((rd_T84 l0 x13_1).f0), .string (⟨#[]⟩:ByteArray)]) ?_ 1 _ rfl;(with_reducible repeat (first|refine qn ?_ _|refine qd ?_|refine qa ?_ _));refine blk_put (cs:=#[.int .i64 0, .string (⟨#[]⟩:ByteArray)]) ?_ 0 _ rfl;(with_reducible repeat (first|refine qn ?_ _|refine qd ?_|refine qa ?_ _));exact BK282.out) hg (Kd.R_ne HO_5.out BK282.out (by decide)));have n2_:=am (hb);have n3_:=am (ho);clear HO_6;clear BK282;clear HB;clear HO_5;have HO_6:=n0_;have BK282:=n1_;have HB:=n2_;have HO285:=n3_;clear n0_ n1_ n2_ n3_;clear ho hb hg hat;have hcz15_0:w14.cell? ⟨gb282,0,none⟩=some (.int .i64 ((rd_T84 l0 x13_1).f0)):=(blk_cell BK282.out 0).trans rfl;have hcz15_1:w14.cell? ⟨gb282,1,none⟩=some (.string ((rd_T84 l0 x13_1).f1)):=(blk_cell BK282.out 1).trans rfl;have hfz15_0:=blk_frozen BK282.out 0;have hfz15_1:=blk_frozen BK282.out 1)|((with_reducible refine gate_builtin (b:=.append) (xs:=#[.tmp 22, .tmp 25]) rfl ?_);at_builtin;refine Kd.R_append Kd.string (w0:=w) w.heap.size rfl (.tmp 22) (.tmp 25) 22 9 (.string ⟨#[]⟩) 16 rfl Try.underlying22 info9 rfl (by decide) (by omega) u6 x6_1 ((rd_T84 l0 x13_1).f1) [.string ((rd_T84 l0 x13_1).f1)] (fun _=>True) (fun _=>False) rfl rfl ?aP (fun _ hk=>hk.elim) ?aF ?aO ?aB ?aS ?aL ?_;(case aP=>exact rfl);(case aB=>exact (by repeat (first|(with_reducible first|exact HB.out|apply pa|apply pb|apply pd|refine pt ?_ GE282.out)|exact HB.out)));(case aF=>exact (fun _ _=>trivial));(case aO=>exact (by (with_reducible repeat (first|apply Kd.R_alloc|apply Kd.R_drewN|apply Kd.R_drew));exact HO_6.out));(case aS=>exact (pz (by repeat (first|(with_reducible first|exact HB.out|apply pa|apply pb|apply pd|refine pt ?_ GE282.out)|exact HB.out))));(case aL=>have:=LMc11.out;omega);intro v287 w16 ho hb hg hat;rw [← Ny286.out] at ho;have n0_:=am (blk_grown (g:=gb282) (o:=.cells #[.int .i64 ((rd_T84 l0 x13_1).f0), .string ((rd_T84 l0 x13_1).f1)] 84 (0,0)) (by (with_reducible repeat (first|refine qn ?_ _|refine qd ?_|refine qa ?_ _));exact BK282.out) hg (Kd.R_ne HO_6.out BK282.out (by decide)));have n1_:=am (Kd.R_over' (by (with_reducible repeat (first|apply Kd.R_alloc|apply Kd.R_drewN|apply Kd.R_drew));exact HO285.out) (Kd.R_typed (by (with_reducible repeat (first|apply Kd.R_alloc|apply Kd.R_drewN|apply Kd.R_drew));exact HO_6.out)) (by decide) hg);have n2_:=am (hb);have n3_:=am (ho);clear BK282;clear HO285;clear HB;clear HO_6;have BK282:=n0_;have HO285:=n1_;have HB:=n2_;have HO288:=n3_;clear n0_ n1_ n2_ n3_;clear ho hb hg hat))
        go_roundg k1
        case measure=>have:=HK1.out;omega
        case rel=>exact ⟨(y283),(y286),(wrap64 (x13_1+1)),(by first|rfl|(simp;done)|(simp [*];done)),H',⟨by have:=HK1.out;omega⟩,⟨by (with_reducible repeat (first|apply Kd.R_alloc|apply Kd.R_drewN|apply Kd.R_drew));exact HO285.out⟩,⟨by (with_reducible repeat (first|apply Kd.R_alloc|apply Kd.R_drewN|apply Kd.R_drew));exact HO288.out⟩,⟨by repeat (first|(with_reducible first|exact HB.out|apply pa|apply pb|apply pd|refine pt ?_ GE282.out)|exact HB.out)⟩⟩
       ·rw [if_neg c11] at H
        exact absurd H (by simp)
      ·rw [if_neg c10] at H
       exact absurd H (by simp)
     ·rw [if_neg c9] at H
      exact absurd H (by simp)
    ·rw [if_neg c8] at H
     exact absurd H (by simp)
   ·rw [if_neg c7] at H
    have c7b0:decide (x13_1 < (l0.length:Int))=false:=decide_eq_false c7
    clear c7
    replace H:=Option.bind_eq_some_iff.mp H
    obtain ⟨t289,A170,H⟩:=H
    replace H:(if t289=true then ((impl_areEqual.f x6_1).bind fun t290=>(some t290)) else (some false))=some r:=H
    have A17:=am A170
    clear A170
    by_cases c18:t289=true
    ·subst c18
     have H1:((impl_areEqual.f x6_1).bind fun t290=>(some t290))=some r:=by rw [if_pos rfl] at H;exact H
     clear H
     have H:=H1
     clear H1
     replace H:=Option.bind_eq_some_iff.mp H
     obtain ⟨t290,A190,H⟩:=H
     replace H:(some t290)=some r:=H
     have A19:=am A190
     clear A190
     obtain rfl:=Option.some.inj H
     obtain ⟨Ao20,co20,eo20⟩:=Kd.R_slice HO_5.out
     subst eo20
     go_wp2_with (first|((with_reducible refine gate_callee (f:=96) rfl ?_);refine goesL_ (some 30) rfl rfl Try.func96 (by kernel_rfl) rfl #[.slice Ao20 x5_1.length co20, .int .i64 a1] rfl (by (try simp only [q4,q5,q6]);first|done|rfl|(simp only [q7,q8];rfl)) ?_;(with_reducible refine (impl_isIncreasing.calls k1 _ _ x5_1 a1 true _ ?side1 ?side2 A17.out).mono ?_);(case side1=>repeat (first|exact (Kd.R_reads' HO_5.out).2.2|(with_reducible refine Kd.C_alloc ?_ _)|(with_reducible refine Kd.C_drewN ?_ _)|(with_reducible refine Kd.C_drew ?_)));(case side2=>exact (Kd.R_reads' HO_5.out).2.1);rintro e w' ⟨rfl,⟨nd,rfl⟩⟩;refine ⟨_,rfl,?_⟩;obtain ⟨Ao21,co21,eo21⟩:=Kd.R_slice HO_6.out;subst eo21)|(go_at_call 177;(with_reducible refine (impl_areEqual.calls _ _ x6_1 t290 _ ?side1 ?side2 A19.out).mono ?_);(case side1=>repeat (first|exact (Kd.R_reads' HO_6.out).2.2|(with_reducible refine Kd.C_alloc ?_ _)|(with_reducible refine Kd.C_drewN ?_ _)|(with_reducible refine Kd.C_drew ?_)));(case side2=>exact (Kd.R_reads' HO_6.out).2.1);rintro e w22 ⟨rfl,hb⟩;have n0_:=am (Kd.R_below (by (with_reducible repeat (first|apply Kd.R_alloc|apply Kd.R_drewN|apply Kd.R_drew));exact HO_5.out) hb);have n1_:=am (Kd.R_below (by (with_reducible repeat (first|apply Kd.R_alloc|apply Kd.R_drewN|apply Kd.R_drew));exact HO_6.out) hb);have n2_:=am (pu (by repeat (first|(with_reducible first|exact HB.out|apply pa|apply pb|apply pd)|exact HB.out)) hb);clear HO_5;clear HO_6;clear HB;have HO_5:=n0_;have HO_6:=n1_;have HB:=n2_;clear n0_ n1_ n2_;(try clear hb);(try clear hb2);(try clear hk);(try clear hi)))
     go_ret
     exact ⟨by first|rfl|(simp [errW_none,errW_some] <;> rfl)|(simp [*,errW_none,errW_some] <;> rfl),by repeat (first|(with_reducible first|exact HB.out|apply pa|apply pb|apply pd)|exact HB.out)⟩
    ·replace c18:=Bool.eq_false_iff.mpr c18
     subst c18
     have H1:(some false)=some r:=by rw [if_neg (show ¬ (false=true) by decide)] at H;exact H
     clear H
     have H:=H1
     clear H1
     obtain rfl:=Option.some.inj H
     obtain ⟨Ao23,co23,eo23⟩:=Kd.R_slice HO_5.out
     subst eo23
     go_wp2_with (first|((with_reducible refine gate_callee (f:=96) rfl ?_);refine goesL_ (some 30) rfl rfl Try.func96 (by kernel_rfl) rfl #[.slice Ao23 x5_1.length co23, .int .i64 a1] rfl (by (try simp only [q4,q5,q6]);first|done|rfl|(simp only [q7,q8];rfl)) ?_;(with_reducible refine (impl_isIncreasing.calls k1 _ _ x5_1 a1 false _ ?side1 ?side2 A17.out).mono ?_);(case side1=>repeat (first|exact (Kd.R_reads' HO_5.out).2.2|(with_reducible refine Kd.C_alloc ?_ _)|(with_reducible refine Kd.C_drewN ?_ _)|(with_reducible refine Kd.C_drew ?_)));(case side2=>exact (Kd.R_reads' HO_5.out).2.1);rintro e w' ⟨rfl,⟨nd,rfl⟩⟩;refine ⟨_,rfl,?_⟩))
     go_ret
     exact ⟨by first|rfl|(simp [errW_none,errW_some] <;> rfl)|(simp [*,errW_none,errW_some] <;> rfl),by repeat (first|(with_reducible first|exact HB.out|apply pa|apply pb|apply pd)|exact HB.out)⟩

def impl_added.l0:Nat→List Int→List Int→List Int→Int→Int→Option (List Int)
 | 0,_,_,_,_,_=>none
 | k+1,x1,x5,x9,x10,x11=>if x11 < x10 then (if 0≤x11 then (if x11 < (x9.length:Int) then (if x11 < (x1.length:Int) then (if x5.length < 140737488355328 then (impl_added.l0 k x1 (x5 ++ [Go.bits .xor .u8 (rd x9 x11) (rd x1 x11)]) x9 x10 (wrap64 (x11+1))) else (none)) else (none)) else (none)) else (none)) else (some x5)
def impl_added.f (k:Nat) (l0:List Int) (l1:List Int):Option (List Int):=impl_added.l0 k l1 (([]:List Int)) l0 (l0.length:Int) 0
theorem impl_added.mono_l:∀ k,(∀ y0 y1 y2 y3 y4,LeO (impl_added.l0 k y0 y1 y2 y3 y4) (impl_added.l0 (k+1) y0 y1 y2 y3 y4))
 | 0=>fun _ _ _ _ _ r h=>by simp [impl_added.l0] at h
 | k+1=>by
  have ih0:=impl_added.mono_l k
  ·intro y0 y1 y2 y3 y4
   unfold impl_added.l0
   repeat' first
   | (with_reducible exact ih0 _ _ _ _ _)
   |(with_reducible exact LeO.refl _)|(with_reducible exact LeO.none _)|(with_reducible refine LeO.ite ?_ ?_)|(with_reducible refine LeO.bind ?_ (fun _=>?_))|exact ih0 _ _ _ _ _|exact LeO.none _|refine LeO.ite ?_ ?_|refine LeO.bind ?_ (fun _=>?_)
theorem impl_added.mono:∀ a0 a1 k,LeO (impl_added.f k a0 a1) (impl_added.f (k+1) a0 a1):=by
 intro a0 a1 k
 have ih0:=impl_added.mono_l k
 unfold impl_added.f
 repeat' first
   | (with_reducible exact ih0 _ _ _ _ _)
   |(with_reducible exact LeO.refl _)|(with_reducible exact LeO.none _)|(with_reducible refine LeO.ite ?_ ?_)|(with_reducible refine LeO.bind ?_ (fun _=>?_))|exact ih0 _ _ _ _ _|exact LeO.none _|refine LeO.ite ?_ ?_|refine LeO.bind ?_ (fun _=>?_)
theorem impl_added.calls (k:Nat) (A0:Option Addr) (c0:Nat) (l0:List Int) (A1:Option Addr) (c1:Nat) (l1:List Int) (r:List Int) (w:World) (hr0:Kd.C (Kd.int .u8) w A0 l0.length l0) (hc0:l0.length≤c0) (hr1:Kd.C (Kd.int .u8) w A1 l1.length l1) (hc1:l1.length≤c1) (h:impl_added.f k l0 l1=some r) :
  Calls Try.prog 131 #[.slice A0 l0.length c0, .slice A1 l1.length c1] w fun e w'=>∃ v0_:Value,e = .returned (v0_)∧Kd.R (Kd.int .u8) 5 w' w.heap.size (fun _=>True) v0_ r∧Below w.heap.size w w':=by
 have HR0:=am hr0
 have HC0:=am hc0
 clear hr0 hc0
 have HR1:=am hr1
 have HC1:=am hc1
 clear hr1 hc1
 have HB:=am (Below.refl w.heap.size w)
 have H:(impl_added.l0 k l1 (([]:List Int)) l0 (l0.length:Int) 0)=some r:=h
 clear h
 obtain ⟨y291,hy291⟩:∃ y_:List Int,y_=(([]:List Int)):=⟨_,rfl⟩
 replace H:(impl_added.l0 k l1 y291 l0 (l0.length:Int) 0)=some r:=by first|(rw [hy291];with_reducible exact H)|(have H2_:=(Option.bind_some _ _).symm.trans H;rw [hy291];with_reducible exact H2_)|(have H2_:=(Option.bind_some _ _).symm.trans H;with_reducible exact H2_)|with_reducible exact H|(rw [hy291];exact H)|exact H
 have Ny291:=am hy291
 clear hy291
 have H':=am H
 clear H
 go_enter Try.func131,Try.ntmps131
 go_wp2_with (first|((with_reducible refine gate_dst (N:=8) rfl ?_);refine Kd.R_lit (Kd.int .u8) _ 5 ?hg (N:=8) ?hd (xs:=([]:List Int)) (inner:=[]) (ok:=fun _=>True) (okp:=fun _=>True) ?hr ?hp (fun _ hk=>hk) trivial (Below.refl _ _) (Nat.le_refl _) (by simp) ?_;(case hd=>rfl);(case hg=>rfl);(case hr=>first|(go_simp;done)|(go_simp;rfl));(case hp=>exact (Reps.none _ _));intro v292 w3 ho4 hb hg_ hnew_;clear hg_ hnew_;(first|rw [← Ny291.out] at ho4|(simp only [Int.reduceToNat] at ho4;rw [← Ny291.out] at ho4));have n0_:=am (Kd.R_lower ho4 (pz (by repeat (first|(with_reducible first|exact HB.out|apply pa|apply pb|apply pd)|exact HB.out))));have n1_:=am (pu (by repeat (first|(with_reducible first|exact HB.out|apply pa|apply pb|apply pd)|exact HB.out)) hb);clear HB;have HO293:=n0_;have HB:=n1_;clear n0_ n1_;clear hb ho4))
 go_loopg [5,11] k (fun kq v5 v11 w'=>∃ (x5_1:List Int) (x11_1:Int),v11 = .int .i64 x11_1∧Aside0 (impl_added.l0 kq l1 x5_1 l0 (l0.length:Int) x11_1=some r)∧Aside0 (kq≤k)∧Aside0 (Kd.R (Kd.int .u8) 5 w' w.heap.size (fun _=>True) v5 x5_1)∧Aside0 (Below w.heap.size w w'))
 case atStart=>exact ⟨(y291),(0),(by first|rfl|(simp;done)|(simp [*];done)),H',⟨Nat.le_refl _⟩,⟨by (with_reducible repeat (first|apply Kd.R_alloc|apply Kd.R_drewN|apply Kd.R_drew));exact HO293.out⟩,⟨by repeat (first|(with_reducible first|exact HB.out|apply pa|apply pb|apply pd)|exact HB.out)⟩⟩
 case round =>
  clear H'
  try clear c1
  try clear p2
  obtain ⟨x5_1,x11_1,rfl,HA,HK1,HO_5,HB⟩:=hrel
  cases gk with
  | zero=>exact absurd HA.out (by simp [impl_added.l0])
  | succ k1 =>
   have H:=HA.out
   clear HA
   simp only [impl_added.l0] at H
   by_cases c5:x11_1 < (l0.length:Int)
   ·rw [if_pos c5] at H
    have c5b0:decide (x11_1 < (l0.length:Int))=true:=decide_eq_true c5
    clear c5
    by_cases c6:0≤x11_1
    ·rw [if_pos c6] at H
     have c6b0:decide (0≤x11_1)=true:=decide_eq_true c6
     clear c6
     by_cases c7:x11_1 < (l0.length:Int)
     ·rw [if_pos c7] at H
      have c7b0:decide (x11_1 < (l0.length:Int))=true:=decide_eq_true c7
      clear c7
      by_cases c8:x11_1 < (l1.length:Int)
      ·rw [if_pos c8] at H
       have c8b0:decide (x11_1 < (l1.length:Int))=true:=decide_eq_true c8
       clear c8
       by_cases c9:x5_1.length < 140737488355328
       ·rw [if_pos c9] at H
        have LMc9:=am c9
        clear c9
        obtain ⟨y296,hy296⟩:∃ y_:List Int,y_=(x5_1 ++ [Go.bits .xor .u8 (rd l0 x11_1) (rd l1 x11_1)]):=⟨_,rfl⟩
        replace H:(impl_added.l0 k1 l1 y296 l0 (l0.length:Int) (wrap64 (x11_1+1)))=some r:=by first|(rw [hy296];with_reducible exact H)|(have H2_:=(Option.bind_some _ _).symm.trans H;rw [hy296];with_reducible exact H2_)|(have H2_:=(Option.bind_some _ _).symm.trans H;with_reducible exact H2_)|with_reducible exact H|(rw [hy296];exact H)|exact H
        have Ny296:=am hy296
        clear hy296
        have H':=am H
        clear H
        have p294:0≤(x11_1:Int):=od (by first|(with_reducible assumption)|assumption)
        have q294:x11_1 < (l0.length:Int):=od (by first|(with_reducible assumption)|assumption)
        obtain ⟨ad294,e294,hx294_0⟩:=Kd.at_int HR0.out x11_1 p294 q294
        cases e294
        replace hx294_0:=(HB.out.cell (World.block_lt_of_cell? w _ hx294_0)).trans hx294_0
        replace p294:=eq_true p294
        replace q294:=eq_true q294
        have p295:0≤(x11_1:Int):=od (by first|(with_reducible assumption)|assumption)
        have q295:x11_1 < (l1.length:Int):=od (by first|(with_reducible assumption)|assumption)
        obtain ⟨ad295,e295,hx295_0⟩:=Kd.at_int HR1.out x11_1 p295 q295
        cases e295
        replace hx295_0:=(HB.out.cell (World.block_lt_of_cell? w _ hx295_0)).trans hx295_0
        replace p295:=eq_true p295
        replace q295:=eq_true q295
        go_wp2_with (first|((with_reducible refine gate_builtin (b:=.append) (xs:=#[.tmp 16, .tmp 23]) rfl ?_);at_builtin;refine Kd.R_append (Kd.int .u8) (w0:=w) w.heap.size rfl (.tmp 16) (.tmp 23) 57 5 (.int .u8 0) 1 rfl Try.underlying57 info5 rfl (by decide) (by omega) u5 x5_1 (Go.bits .xor .u8 (rd l0 x11_1) (rd l1 x11_1)) [.int .u8 (Go.bits .xor .u8 (rd l0 x11_1) (rd l1 x11_1))] (fun _=>True) (fun _=>False) rfl rfl ?aP (fun _ hk=>hk.elim) ?aF ?aO ?aB ?aS ?aL ?_;(case aP=>exact rfl);(case aB=>exact (by repeat (first|(with_reducible first|exact HB.out|apply pa|apply pb|apply pd)|exact HB.out)));(case aF=>exact (fun _ _=>trivial));(case aO=>exact (by (with_reducible repeat (first|apply Kd.R_alloc|apply Kd.R_drewN|apply Kd.R_drew));exact HO_5.out));(case aS=>exact (pz (by repeat (first|(with_reducible first|exact HB.out|apply pa|apply pb|apply pd)|exact HB.out))));(case aL=>have:=LMc9.out;omega);intro v297 w10 ho hb hg hat;rw [← Ny296.out] at ho;have n0_:=am (hb);have n1_:=am (ho);clear HB;clear HO_5;have HB:=n0_;have HO298:=n1_;clear n0_ n1_;clear ho hb hg hat))
        go_roundg k1
        case measure=>have:=HK1.out;omega
        case rel=>exact ⟨(y296),(wrap64 (x11_1+1)),(by first|rfl|(simp;done)|(simp [*];done)),H',⟨by have:=HK1.out;omega⟩,⟨by (with_reducible repeat (first|apply Kd.R_alloc|apply Kd.R_drewN|apply Kd.R_drew));exact HO298.out⟩,⟨by repeat (first|(with_reducible first|exact HB.out|apply pa|apply pb|apply pd)|exact HB.out)⟩⟩
       ·rw [if_neg c9] at H
        exact absurd H (by simp)
      ·rw [if_neg c8] at H
       exact absurd H (by simp)
     ·rw [if_neg c7] at H
      exact absurd H (by simp)
    ·rw [if_neg c6] at H
     exact absurd H (by simp)
   ·rw [if_neg c5] at H
    have c5b0:decide (x11_1 < (l0.length:Int))=false:=decide_eq_false c5
    clear c5
    obtain rfl:=Option.some.inj H
    go_wp2
    go_ret
    exact ⟨_,by first|rfl|(simp [errW_none,errW_some] <;> rfl)|(simp [*,errW_none,errW_some] <;> rfl),by (with_reducible repeat (first|apply Kd.R_alloc|apply Kd.R_drewN|apply Kd.R_drew));exact HO_5.out,by repeat (first|(with_reducible first|exact HB.out|apply pa|apply pb|apply pd)|exact HB.out)⟩

section
open Go.Proofs.Ytajikfnpcobnpaa.KitW
def impl_sumOf.f (k:Nat) (a0:ByteArray) (a1:ByteArray):Option ByteArray:=if a0.size≤140737488355328∧a1.size≤140737488355328 then (impl_added.f k (bytesOf a0) (bytesOf a1)).bind fun t=>some (strOfNums t) else none
theorem impl_sumOf.mono:∀ a0 a1 k,LeO (impl_sumOf.f k a0 a1) (impl_sumOf.f (k+1) a0 a1):=by
 intro a0 a1 k
 unfold impl_sumOf.f
 exact LeO.ite (LeO.bind (impl_added.mono _ _ _) (fun _=>LeO.refl _)) (LeO.refl _)
set_option maxHeartbeats 4000000 in
theorem impl_sumOf.calls (k:Nat) (a0:ByteArray) (a1:ByteArray) (r:ByteArray) (w:World) (h:impl_sumOf.f k a0 a1=some r) :
  Calls Try.prog 181 #[.string a0, .string a1] w fun e w'=>e = .returned (.string r)∧Below w.heap.size w w':=by
 unfold impl_sumOf.f at h
 by_cases hs:a0.size≤140737488355328∧a1.size≤140737488355328
 ·rw [if_pos hs] at h
  replace h:=Option.bind_eq_some_iff.mp h
  obtain ⟨x,hx,h⟩:=h
  obtain rfl:=Option.some.inj h
  clear h
  have HX:=am hx
  have HS:=am hs
  clear hx hs
  have kb0:=fun W=>print_bytes (P:=Try.prog) 9 57 5 Try.underlying9 Try.underlying57 Try.underlying5 a0 W
  have kb1:=fun W=>print_bytes (P:=Try.prog) 9 57 5 Try.underlying9 Try.underlying57 Try.underlying5 a1 W
  go_enter Try.func181,Try.ntmps181
  go_wp2_with fail
  have e0:=bytesOf_length a0
  have e1:=bytesOf_length a1
  rw [← e0,← e1]
  have h0:=bytes_C w 5 a0 HS.out.1
  have h1:=bytes_C (Lib.bytesWorld w 5 a0) 5 a1 HS.out.2
  have b1:Below (Lib.bytesWorld w 5 a0).heap.size (Lib.bytesWorld w 5 a0) (Lib.bytesWorld (Lib.bytesWorld w 5 a0) 5 a1):=bytes_below (Below.refl _ _) (Nat.le_refl _) _ _
  have b0:Below w.heap.size w (Lib.bytesWorld w 5 a0):=bytes_below (Below.refl _ _) (Nat.le_refl _) _ _
  refine (impl_added.calls k _ _ (bytesOf a0) _ _ (bytesOf a1) x _ (Kd.C_below h0 b1) ?c0 h1 ?c1 HX.out).mono ?_
  case c0=>rw [e0];exact bytes_cap _ _ _
  case c1=>rw [e1];exact bytes_cap _ _ _
  clear kb0 kb1 e0 e1 h0 h1
  rintro e w' ⟨v0,rfl,ho,hb⟩
  have HO:=am ho
  have HB:=am (pu b0 (below_weaken b1 b1.size hb):Below w.heap.size w w')
  clear ho hb b0 b1
  obtain ⟨A,c,rfl⟩:=Kd.R_slice HO.out
  have hk:=Kd.C_string (P:=Try.prog) Try.underlying57 Try.underlying5 Try.underlying9 (Kd.R_reads' HO.out).2.2 (src:=57) (dst:=9) (c:=c)
  go_wp2
  go_ret
  exact ⟨rfl,HB.out⟩
 ·rw [if_neg hs] at h
  cases h
end

end Go.Proofs.Ytajikfnpcobnpaa.PFnExactDecodeShards
-- HALVED
-- SQUEEZED
-- SQUEEZED2
-- SQUEEZED3
