-- Laid by a program of this session.
import Derived.Test.YtajikfnpcobnpaaPFnExactCheckShardsx0
import Derived.Test.YtajikfnpcobnpaaPFnExactCheckShardsx1
namespace Go.Proofs.Ytajikfnpcobnpaa.PFnExactCheckShards
open Go.RowKit Go.Proofs.YtajikfnpcobnpaaW.PrintWords Go.Proofs.YtajikfnpcobnpaaW.PrintLast Go.Proofs.YtajikfnpcobnpaaW.PrintMore
attribute [local go_sem] max2_int min2_int max_two min_two max_three min_three max_four min_four   -- for this text's walks alone
set_option linter.unusedVariables false
set_option maxHeartbeats 8000000
set_option maxRecDepth 100000
set_option linter.unusedSimpArgs false

def laws_eqShardS.l0:Nat→List (S84)→List (S84)→Int→Option (Bool)
 | 0,_,_,_=>none
 | k+1,x0,x1,x5=>if x5 < (x0.length:Int) then (if 0≤x5 then (if x5 < (x1.length:Int) then ((laws_eqShard.f ((rd_T84 x0 x5).f0) ((rd_T84 x0 x5).f1) ((rd_T84 x1 x5).f0) ((rd_T84 x1 x5).f1)).bind fun t121=>(if t121=true then (laws_eqShardS.l0 k x0 x1 (wrap64 (x5+1))) else (some false))) else (none)) else (none)) else (some true)
def laws_eqShardS.f (k:Nat) (l0:List (S84)) (l1:List (S84)):Option (Bool):=if (l0.length:Int)=(l1.length:Int) then (laws_eqShardS.l0 k l0 l1 0) else (some false)
theorem laws_eqShardS.mono_l:∀ k,(∀ y0 y1 y2,LeO (laws_eqShardS.l0 k y0 y1 y2) (laws_eqShardS.l0 (k+1) y0 y1 y2))
 | 0=>fun _ _ _ r h=>by simp [laws_eqShardS.l0] at h
 | k+1=>by
  have ih0:=laws_eqShardS.mono_l k
  intro y0 y1 y2
  unfold laws_eqShardS.l0
  repeat' first
  | (with_reducible exact ih0 _ _ _)
  |(with_reducible exact LeO.refl _)|(with_reducible exact LeO.none _)|(with_reducible refine LeO.ite ?_ ?_)|(with_reducible refine LeO.bind ?_ (fun _=>?_))|exact ih0 _ _ _|exact LeO.none _|refine LeO.ite ?_ ?_|refine LeO.bind ?_ (fun _=>?_)
theorem laws_eqShardS.mono:∀ a0 a1 k,LeO (laws_eqShardS.f k a0 a1) (laws_eqShardS.f (k+1) a0 a1):=by
 intro a0 a1 k
 have ih0:=laws_eqShardS.mono_l k
 unfold laws_eqShardS.f
 repeat' first
   | (with_reducible exact ih0 _ _ _)
   |(with_reducible exact LeO.refl _)|(with_reducible exact LeO.none _)|(with_reducible refine LeO.ite ?_ ?_)|(with_reducible refine LeO.bind ?_ (fun _=>?_))|exact ih0 _ _ _|exact LeO.none _|refine LeO.ite ?_ ?_|refine LeO.bind ?_ (fun _=>?_)
def laws_eqShardS.T6:Bool × List (List Nat × List Nat):=(true,[([],[]),([],[]),([0,1],[0,1]),([2],[2]),([],[]),([],[]),([4,5],[4,5]),([6],[6]),([3,7],[3,7]),([8],[8])])
def laws_eqShardS.B6:List Nat:=[0,0,3,7,0,0,48,112,255,511]
theorem laws_eqShardS.tab6:rtab .any (opsOf Try.f58 6)=laws_eqShardS.T6:=by kernel_rfl
theorem laws_eqShardS.bits6:waitsOk laws_eqShardS.T6.2 laws_eqShardS.B6=true:=by kernel_rfl
theorem laws_eqShardS.calls (k:Nat) (A0:Option Addr) (c0:Nat) (l0:List (S84)) (A1:Option Addr) (c1:Nat) (l1:List (S84)) (r:Bool) (w:World) (hr0:Kd.C k84 w A0 l0.length l0) (hc0:l0.length≤c0) (hr1:Kd.C k84 w A1 l1.length l1) (hc1:l1.length≤c1) (h:laws_eqShardS.f k l0 l1=some r) :
  Calls Try.prog 58 #[.slice A0 l0.length c0, .slice A1 l1.length c1] w fun e w'=>e = .returned (.bool r)∧Below w.heap.size w w':=by
 have hu84:=Try.underlying84
 have HR0:=am hr0
 have HC0:=am hc0
 clear hr0 hc0
 have HR1:=am hr1
 have HC1:=am hc1
 clear hr1 hc1
 have HB:=am (Below.refl w.heap.size w)
 have H:(if (l0.length:Int)=(l1.length:Int) then (laws_eqShardS.l0 k l0 l1 0) else (some false))=some r:=h
 clear h
 by_cases c3:(l0.length:Int)=(l1.length:Int)
 ·rw [if_pos c3] at H
  have c3b0:((l0.length:Int) == (l1.length:Int))=true:=beq_iff_eq.mpr c3
  have c3b1:((l0.length:Int) != (l1.length:Int))=false:=bne_eq_false_iff_eq.mpr c3
  have c3b2:(l0.length == l1.length)=true:=by first|simpa using c3|(simp at c3 ⊢;omega)
  clear c3
  have H':=am H
  clear H
  go_enter Try.func58,Try.ntmps58
  go_wp2
  go_loopg [5] k (fun kq v5 w'=>∃ (x5_1:Int),v5 = .int .i64 x5_1∧Aside0 (laws_eqShardS.l0 kq l0 l1 x5_1=some r)∧Aside0 (kq≤k)∧Aside0 (Below w.heap.size w w'))
  case atStart=>exact ⟨(0),d2,H',⟨Nat.le_refl _⟩,⟨d0⟩⟩
  case round =>
   clear H'
   try clear c1
   try clear p2
   try clear c3
   try clear c3b0
   try clear c3b1
   try clear c3b2
   obtain ⟨x5_1,rfl,HA,HK1,HB⟩:=hrel
   cases gk with
   | zero=>exact absurd HA.out (by simp [laws_eqShardS.l0])
   | succ k1 =>
    have H:=HA.out
    clear HA
    simp only [laws_eqShardS.l0] at H
    by_cases c4:x5_1 < (l0.length:Int)
    ·rw [if_pos c4] at H
     have c4b0:decide (x5_1 < (l0.length:Int))=true:=decide_eq_true c4
     clear c4
     by_cases c5:0≤x5_1
     ·rw [if_pos c5] at H
      have c5b0:decide (0≤x5_1)=true:=decide_eq_true c5
      clear c5
      by_cases c6:x5_1 < (l1.length:Int)
      ·rw [if_pos c6] at H
       have c6b0:decide (x5_1 < (l1.length:Int))=true:=decide_eq_true c6
       clear c6
       replace H:=Option.bind_eq_some_iff.mp H
       obtain ⟨t121,A70,H⟩:=H
       replace H:(if t121=true then (laws_eqShardS.l0 k1 l0 l1 (wrap64 (x5_1+1))) else (some false))=some r:=H
       have A7:=am A70
       clear A70
       by_cases c8:t121=true
       ·subst c8
        have H1:(laws_eqShardS.l0 k1 l0 l1 (wrap64 (x5_1+1)))=some r:=by rw [if_pos rfl] at H;exact H
        clear H
        have H:=H1
        clear H1
        have H':=am H
        clear H
        try go_wp2
        have n0_:=am (pd HB.out)
        clear HB
        have HB:=n0_
        clear n0_
        have p119:0≤(x5_1:Int):=od d1
        have q119:x5_1 < (l0.length:Int):=od d1
        obtain ⟨ad119,e119,hx119_0,hx119_1⟩:=at_T84 HR0.out x5_1 p119 q119
        have hw119_1:=hx119_1
        have hw119_0:=hx119_0
        cases e119
        replace hx119_0:=(HB.out.cell (World.block_lt_of_cell? w _ hx119_0)).trans hx119_0
        replace hx119_1:=(HB.out.cell (World.block_lt_of_cell? w _ hx119_1)).trans hx119_1
        replace p119:=eq_true p119
        replace q119:=eq_true q119
        have p120:0≤(x5_1:Int):=od d1
        have q120:x5_1 < (l1.length:Int):=od d1
        obtain ⟨ad120,e120,hx120_0,hx120_1⟩:=at_T84 HR1.out x5_1 p120 q120
        have hw120_1:=hx120_1
        have hw120_0:=hx120_0
        cases e120
        replace hx120_0:=(HB.out.cell (World.block_lt_of_cell? w _ hx120_0)).trans hx120_0
        replace hx120_1:=(HB.out.cell (World.block_lt_of_cell? w _ hx120_1)).trans hx120_1
        replace p120:=eq_true p120
        replace q120:=eq_true q120
        refine rS (n:=10) (S:=fun w'=>w'.cell? (ad119.add ((x5_1).toNat*2))=some (.int .i64 ((rd_T84 l0 x5_1).f0))∧w'.cell? ⟨(ad119.add ((x5_1).toNat*2)).block,(ad119.add ((x5_1).toNat*2)).off+1,none⟩=some (.string ((rd_T84 l0 x5_1).f1))∧w'.cell? (ad120.add ((x5_1).toNat*2))=some (.int .i64 ((rd_T84 l1 x5_1).f0))∧w'.cell? ⟨(ad120.add ((x5_1).toNat*2)).block,(ad120.add ((x5_1).toNat*2)).off+1,none⟩=some (.string ((rd_T84 l1 x5_1).f1))) (ds:=[]) [(0,17),(1,18),(2,19),(4,21),(5,22),(6,23),(3,20),(7,24),(8,0),(9,26)] d3 rfl laws_eqShardS.tab6 laws_eqShardS.bits6 ⟨((HB.out.cell (World.block_lt_of_cell? w _ hw119_0)).trans hw119_0),((HB.out.cell (World.block_lt_of_cell? w _ hw119_1)).trans hw119_1),((HB.out.cell (World.block_lt_of_cell? w _ hw120_0)).trans hw120_0),((HB.out.cell (World.block_lt_of_cell? w _ hw120_1)).trans hw120_1)⟩ (fun hHeld HT_ HW_=>?_)
        generalize wr.drew=w9 at HB hx119_0 hx119_1 hx120_0 hx120_1 hHeld ⊢
        refine rR ?_
        refine rO (N:=some 25) HT_ rfl rfl d3 d11 (fun K hK=>?_)
        refine goes_ Try.func57 d3 rfl #[.agg #[.int .i64 ((rd_T84 l0 x5_1).f0), .string ((rd_T84 l0 x5_1).f1)], .agg #[.int .i64 ((rd_T84 l1 x5_1).f0), .string ((rd_T84 l1 x5_1).f1)]] d16 rfl rfl d4 ?_
        with_reducible refine (laws_eqShard.calls ((rd_T84 l0 x5_1).f0) ((rd_T84 l0 x5_1).f1) ((rd_T84 l1 x5_1).f0) ((rd_T84 l1 x5_1).f1) true _ A7.out).mono ?_
        rintro e w10 ⟨rfl,hb⟩
        refine ⟨_,rfl,?_⟩
        have n0_:=am (pu d0 hb)
        clear HB
        have HB:=n0_
        clear n0_
        (try clear hb)
        (try clear hb2)
        (try clear hk)
        (try clear hi)
        refine hK.out _ _ ⟨((HB.out.cell (World.block_lt_of_cell? w _ hw119_0)).trans hw119_0),((HB.out.cell (World.block_lt_of_cell? w _ hw119_1)).trans hw119_1),((HB.out.cell (World.block_lt_of_cell? w _ hw120_0)).trans hw120_0),((HB.out.cell (World.block_lt_of_cell? w _ hw120_1)).trans hw120_1)⟩ (fun hHeld=>?_)
        clear hK K
        refine rN (a':=?_) ?_ ?_
        rotate_left
        ·show Act.put _ (some 25) _=_
         simp only [Act.put,q1,q2,q3,i64_w,i32_w]
         rfl
        refine rR ?_
        refine rD HT_ d3 ?_
        try go_wp2
        go_roundg k1
        case measure=>have:=HK1.out;omega
        case rel=>exact ⟨(wrap64 (x5_1+1)),d2,H',⟨d26⟩,⟨d0⟩⟩
       replace c8:=Bool.eq_false_iff.mpr c8
       subst c8
       have H1:(some false)=some r:=by rw [if_neg (show ¬ (false=true) by decide)] at H;exact H
       clear H
       have H:=H1
       clear H1
       obtain rfl:=Option.some.inj H
       try go_wp2
       have n0_:=am (pd HB.out)
       clear HB
       have HB:=n0_
       clear n0_
       have p119:0≤(x5_1:Int):=od d1
       have q119:x5_1 < (l0.length:Int):=od d1
       obtain ⟨ad119,e119,hx119_0,hx119_1⟩:=at_T84 HR0.out x5_1 p119 q119
       have hw119_1:=hx119_1
       have hw119_0:=hx119_0
       cases e119
       replace hx119_0:=(HB.out.cell (World.block_lt_of_cell? w _ hx119_0)).trans hx119_0
       replace hx119_1:=(HB.out.cell (World.block_lt_of_cell? w _ hx119_1)).trans hx119_1
       replace p119:=eq_true p119
       replace q119:=eq_true q119
       have p120:0≤(x5_1:Int):=od d1
       have q120:x5_1 < (l1.length:Int):=od d1
       obtain ⟨ad120,e120,hx120_0,hx120_1⟩:=at_T84 HR1.out x5_1 p120 q120
       have hw120_1:=hx120_1
       have hw120_0:=hx120_0
       cases e120
       replace hx120_0:=(HB.out.cell (World.block_lt_of_cell? w _ hx120_0)).trans hx120_0
       replace hx120_1:=(HB.out.cell (World.block_lt_of_cell? w _ hx120_1)).trans hx120_1
       replace p120:=eq_true p120
       replace q120:=eq_true q120
       refine rS (n:=10) (S:=fun w'=>w'.cell? (ad119.add ((x5_1).toNat*2))=some (.int .i64 ((rd_T84 l0 x5_1).f0))∧w'.cell? ⟨(ad119.add ((x5_1).toNat*2)).block,(ad119.add ((x5_1).toNat*2)).off+1,none⟩=some (.string ((rd_T84 l0 x5_1).f1))∧w'.cell? (ad120.add ((x5_1).toNat*2))=some (.int .i64 ((rd_T84 l1 x5_1).f0))∧w'.cell? ⟨(ad120.add ((x5_1).toNat*2)).block,(ad120.add ((x5_1).toNat*2)).off+1,none⟩=some (.string ((rd_T84 l1 x5_1).f1))) (ds:=[]) [(0,17),(1,18),(2,19),(4,21),(5,22),(6,23),(3,20),(7,24),(8,0),(9,26)] d3 rfl laws_eqShardS.tab6 laws_eqShardS.bits6 ⟨((HB.out.cell (World.block_lt_of_cell? w _ hw119_0)).trans hw119_0),((HB.out.cell (World.block_lt_of_cell? w _ hw119_1)).trans hw119_1),((HB.out.cell (World.block_lt_of_cell? w _ hw120_0)).trans hw120_0),((HB.out.cell (World.block_lt_of_cell? w _ hw120_1)).trans hw120_1)⟩ (fun hHeld HT_ HW_=>?_)
       generalize wr.drew=w11 at HB hx119_0 hx119_1 hx120_0 hx120_1 hHeld ⊢
       refine rR ?_
       refine rO (N:=some 25) HT_ rfl rfl d3 d11 (fun K hK=>?_)
       refine goes_ Try.func57 d3 rfl #[.agg #[.int .i64 ((rd_T84 l0 x5_1).f0), .string ((rd_T84 l0 x5_1).f1)], .agg #[.int .i64 ((rd_T84 l1 x5_1).f0), .string ((rd_T84 l1 x5_1).f1)]] d16 rfl rfl d4 ?_
       with_reducible refine (laws_eqShard.calls ((rd_T84 l0 x5_1).f0) ((rd_T84 l0 x5_1).f1) ((rd_T84 l1 x5_1).f0) ((rd_T84 l1 x5_1).f1) false _ A7.out).mono ?_
       rintro e w12 ⟨rfl,hb⟩
       refine ⟨_,rfl,?_⟩
       have n0_:=am (pu d0 hb)
       clear HB
       have HB:=n0_
       clear n0_
       (try clear hb)
       (try clear hb2)
       (try clear hk)
       (try clear hi)
       refine hK.out _ _ ⟨((HB.out.cell (World.block_lt_of_cell? w _ hw119_0)).trans hw119_0),((HB.out.cell (World.block_lt_of_cell? w _ hw119_1)).trans hw119_1),((HB.out.cell (World.block_lt_of_cell? w _ hw120_0)).trans hw120_0),((HB.out.cell (World.block_lt_of_cell? w _ hw120_1)).trans hw120_1)⟩ (fun hHeld=>?_)
       clear hK K
       refine rN (a':=?_) ?_ ?_
       rotate_left
       ·show Act.put _ (some 25) _=_
        simp only [Act.put,q1,q2,q3,i64_w,i32_w]
        rfl
       refine rR ?_
       refine rD HT_ d3 ?_
       try go_wp2
       go_ret
       exact ⟨d5,d0⟩
      rw [if_neg c6] at H
      exact absurd H d20
     rw [if_neg c5] at H
     exact absurd H d20
    rw [if_neg c4] at H
    have c4b0:decide (x5_1 < (l0.length:Int))=false:=decide_eq_false c4
    clear c4
    obtain rfl:=Option.some.inj H
    go_wp2
    go_ret
    exact ⟨d5,d0⟩
 rw [if_neg c3] at H
 have c3b0:((l0.length:Int) == (l1.length:Int))=false:=beq_eq_false_iff_ne.mpr c3
 have c3b1:((l0.length:Int) != (l1.length:Int))=true:=bne_iff_ne.mpr c3
 have c3b2:(l0.length == l1.length)=false:=by first|simpa using c3|(simp at c3 ⊢;omega)
 obtain rfl:=Option.some.inj H
 go_enter Try.func58,Try.ntmps58
 go_wp2
 go_ret
 exact ⟨d5,d0⟩

def spec_l1In.f (a0:Int) (a1:Int) (a2:Int):Option (Bool):=if a0 ≥ a1 then (some (decide (a0≤a2))) else (some false)
theorem spec_l1In.calls (a0:Int) (a1:Int) (a2:Int) (r:Bool) (w:World) (h:spec_l1In.f a0 a1 a2=some r) :
  Calls Try.prog 121 #[.int .i64 a0, .int .i64 a1, .int .i64 a2] w fun e w'=>e = .returned (.bool r)∧Drawn0 w w':=by
 have H:(if a0 ≥ a1 then (some (decide (a0≤a2))) else (some false))=some r:=h
 clear h
 by_cases c4:a0 ≥ a1
 ·rw [if_pos c4] at H
  have c4b0:decide (a1≤a0)=true:=decide_eq_true c4
  clear c4
  obtain rfl:=Option.some.inj H
  go_enter Try.func121,Try.ntmps121
  go_wp2
  go_ret
  exact ⟨d2,d10⟩
 rw [if_neg c4] at H
 have c4b0:decide (a1≤a0)=false:=decide_eq_false c4
 clear c4
 obtain rfl:=Option.some.inj H
 go_enter Try.func121,Try.ntmps121
 go_wp2
 go_ret
 exact ⟨d2,d10⟩

def spec_GoodShape.f (a0:Int) (a1:Int):Option (Bool):=(spec_l1In.f a0 1 8).bind fun t122=>(if t122=true then ((spec_l1In.f a1 1 6).bind fun t123=>(some t123)) else (some false))
theorem spec_GoodShape.calls (a0:Int) (a1:Int) (r:Bool) (w:World) (h:spec_GoodShape.f a0 a1=some r) :
  Calls Try.prog 141 #[.int .i64 a0, .int .i64 a1] w fun e w'=>e = .returned (.bool r)∧Drawn0 w w':=by
 have H:((spec_l1In.f a0 1 8).bind fun t122=>(if t122=true then ((spec_l1In.f a1 1 6).bind fun t123=>(some t123)) else (some false)))=some r:=h
 clear h
 replace H:=Option.bind_eq_some_iff.mp H
 obtain ⟨t122,A30,H⟩:=H
 replace H:(if t122=true then ((spec_l1In.f a1 1 6).bind fun t123=>(some t123)) else (some false))=some r:=H
 have A3:=am A30
 clear A30
 by_cases c4:t122=true
 ·subst c4
  have H1:((spec_l1In.f a1 1 6).bind fun t123=>(some t123))=some r:=by rw [if_pos rfl] at H;exact H
  clear H
  have H:=H1
  clear H1
  replace H:=Option.bind_eq_some_iff.mp H
  obtain ⟨t123,A50,H⟩:=H
  replace H:(some t123)=some r:=H
  have A5:=am A50
  clear A50
  obtain rfl:=Option.some.inj H
  go_enter Try.func141,Try.ntmps141
  go_wp2_with (first|((with_reducible refine gate_callee (f:=121) rfl ?_);refine goesL_ (some 6) rfl rfl Try.func121 d3 rfl #[.int .i64 a0, .int .i64 1, .int .i64 8] rfl d4 ?_;(with_reducible refine (spec_l1In.calls a0 1 8 true _ A3.out).mono ?_);rintro e w' ⟨rfl,⟨nd,rfl⟩⟩;refine ⟨_,rfl,?_⟩)|(go_at_call 121;(with_reducible refine (spec_l1In.calls a1 1 6 t123 _ A5.out).mono ?_);rintro e w' ⟨rfl,⟨nd,rfl⟩⟩))
  go_ret
  exact ⟨d2,d10⟩
 replace c4:=Bool.eq_false_iff.mpr c4
 subst c4
 have H1:(some false)=some r:=by rw [if_neg (show ¬ (false=true) by decide)] at H;exact H
 clear H
 have H:=H1
 clear H1
 obtain rfl:=Option.some.inj H
 go_enter Try.func141,Try.ntmps141
 go_wp2_with (first|((with_reducible refine gate_callee (f:=121) rfl ?_);refine goesL_ (some 6) rfl rfl Try.func121 d3 rfl #[.int .i64 a0, .int .i64 1, .int .i64 8] rfl d4 ?_;(with_reducible refine (spec_l1In.calls a0 1 8 false _ A3.out).mono ?_);rintro e w' ⟨rfl,⟨nd,rfl⟩⟩;refine ⟨_,rfl,?_⟩))
 go_ret
 exact ⟨d2,d10⟩

end Go.Proofs.Ytajikfnpcobnpaa.PFnExactCheckShards
-- HALVED
-- SQUEEZED
-- SQUEEZED2
-- SQUEEZED3
-- SQUEEZED4
-- SQUEEZED5
-- SQUEEZED6
