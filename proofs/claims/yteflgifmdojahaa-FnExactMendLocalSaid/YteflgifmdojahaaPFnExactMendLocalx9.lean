-- Laid by a program of this session.
import Derived.Test.YteflgifmdojahaaPFnExactMendLocalx0
import Derived.Test.YteflgifmdojahaaPFnExactMendLocalx1
import Derived.Test.YteflgifmdojahaaPFnExactMendLocalx4
import Derived.Test.YteflgifmdojahaaPFnExactMendLocalx5
import Derived.Test.YteflgifmdojahaaPFnExactMendLocalx8
namespace Go.Proofs.Yteflgifmdojahaa.PFnExactMendLocal
open Go.RowKit Go.Proofs.YteflgifmdojahaaW.PrintWords Go.Proofs.YteflgifmdojahaaW.PrintLast Go.Proofs.YteflgifmdojahaaW.PrintMore
attribute [local go_sem] max2_int min2_int max_two min_two max_three min_three max_four min_four   -- for this text's walks alone
set_option linter.unusedVariables false
set_option maxHeartbeats 8000000
set_option maxRecDepth 100000
set_option linter.unusedSimpArgs false

def laws_eqShardS.l0:Nat→List (S48)→List (S48)→Int→Option (Bool)
 | 0,_,_,_=>none
 | k+1,x0,x1,x5=>if x5 < (x0.length:Int) then (if 0≤x5 then (if x5 < (x1.length:Int) then ((laws_eqShard.f ((rd_T48 x0 x5).f0) ((rd_T48 x0 x5).f1) ((rd_T48 x1 x5).f0) ((rd_T48 x1 x5).f1)).bind fun t204=>(if t204=true then (laws_eqShardS.l0 k x0 x1 (wrap64 (x5+1))) else (some false))) else (none)) else (none)) else (some true)
def laws_eqShardS.f (k:Nat) (l0:List (S48)) (l1:List (S48)):Option (Bool):=if (l0.length:Int)=(l1.length:Int) then (laws_eqShardS.l0 k l0 l1 0) else (some false)
theorem laws_eqShardS.mono_l:∀ k,(∀ y0 y1 y2,LeO (laws_eqShardS.l0 k y0 y1 y2) (laws_eqShardS.l0 (k+1) y0 y1 y2))
 | 0=>fun _ _ _ r h=>by simp [laws_eqShardS.l0] at h
 | k+1=>by
  have ih0:=laws_eqShardS.mono_l k
  intro y0 y1 y2
  unfold laws_eqShardS.l0
  repeat' first
  | (with_reducible exact ih0 _ _ _)
  |(with_reducible exact LeO.refl _)|(with_reducible exact LeO.none _)|(with_reducible refine LeO.ite ?_ ?_)|(with_reducible refine LeO.bind ?_ (fun _=>?_))|exact ih0 _ _ _|exact LeO.none _|refine LeO.ite ?_ ?_|refine LeO.bind ?_ (fun _=>?_)
theorem laws_eqShardS.mono:∀ a0 a1 k,LeO (laws_eqShardS.f k a0 a1) (laws_eqShardS.f (k+1) a0 a1):=by
 intro a0 a1 k
 have ih0:=laws_eqShardS.mono_l k
 unfold laws_eqShardS.f
 repeat' first
   | (with_reducible exact ih0 _ _ _)
   |(with_reducible exact LeO.refl _)|(with_reducible exact LeO.none _)|(with_reducible refine LeO.ite ?_ ?_)|(with_reducible refine LeO.bind ?_ (fun _=>?_))|exact ih0 _ _ _|exact LeO.none _|refine LeO.ite ?_ ?_|refine LeO.bind ?_ (fun _=>?_)
def laws_eqShardS.T6:Bool × List (List Nat × List Nat):=(true,[([],[]),([],[]),([0,1],[0,1]),([2],[2]),([],[]),([],[]),([4,5],[4,5]),([6],[6]),([3,7],[3,7]),([8],[8])])
def laws_eqShardS.B6:List Nat:=[0,0,3,7,0,0,48,112,255,511]
theorem laws_eqShardS.tab6:rtab .any (opsOf Try.f29 6)=laws_eqShardS.T6:=by kernel_rfl
theorem laws_eqShardS.bits6:waitsOk laws_eqShardS.T6.2 laws_eqShardS.B6=true:=by kernel_rfl
theorem laws_eqShardS.calls (k:Nat) (A0:Option Addr) (c0:Nat) (l0:List (S48)) (A1:Option Addr) (c1:Nat) (l1:List (S48)) (r:Bool) (w:World) (hr0:Kd.C k48 w A0 l0.length l0) (hc0:l0.length≤c0) (hr1:Kd.C k48 w A1 l1.length l1) (hc1:l1.length≤c1) (h:laws_eqShardS.f k l0 l1=some r) :
  Calls Try.prog 29 #[.slice A0 l0.length c0, .slice A1 l1.length c1] w fun e w'=>e = .returned (.bool r)∧Below w.heap.size w w':=by
 have hu48:=Try.underlying48
 have HR0:=am hr0
 have HC0:=am hc0
 clear hr0 hc0
 have HR1:=am hr1
 have HC1:=am hc1
 clear hr1 hc1
 have HB:=am (Below.refl w.heap.size w)
 have H:(if (l0.length:Int)=(l1.length:Int) then (laws_eqShardS.l0 k l0 l1 0) else (some false))=some r:=h
 clear h
 by_cases c3:(l0.length:Int)=(l1.length:Int)
 ·rw [if_pos c3] at H
  have c3b0:((l0.length:Int) == (l1.length:Int))=true:=beq_iff_eq.mpr c3
  have c3b1:((l0.length:Int) != (l1.length:Int))=false:=bne_eq_false_iff_eq.mpr c3
  have c3b2:(l0.length == l1.length)=true:=by first|simpa using c3|(simp at c3 ⊢;omega)
  clear c3
  have H':=am H
  clear H
  go_enter Try.func29,Try.ntmps29
  go_wp2
  go_loopg [5] k (fun kq v5 w'=>∃ (x5_1:Int),v5 = .int .i64 x5_1∧Aside0 (laws_eqShardS.l0 kq l0 l1 x5_1=some r)∧Aside0 (kq≤k)∧Aside0 (Below w.heap.size w w'))
  case atStart=>exact ⟨(0),d4,H',⟨Nat.le_refl _⟩,⟨d0⟩⟩
  case round =>
   clear H'
   try clear c1
   try clear c2
   try clear p2
   try clear c3
   try clear c3b0
   try clear c3b1
   try clear c3b2
   obtain ⟨x5_1,rfl,HA,HK1,HB⟩:=hrel
   cases gk with
   | zero=>exact absurd HA.out (by simp [laws_eqShardS.l0])
   | succ k1 =>
    have H:=HA.out
    clear HA
    simp only [laws_eqShardS.l0] at H
    by_cases c4:x5_1 < (l0.length:Int)
    ·rw [if_pos c4] at H
     have c4b0:decide (x5_1 < (l0.length:Int))=true:=decide_eq_true c4
     clear c4
     by_cases c5:0≤x5_1
     ·rw [if_pos c5] at H
      have c5b0:decide (0≤x5_1)=true:=decide_eq_true c5
      clear c5
      by_cases c6:x5_1 < (l1.length:Int)
      ·rw [if_pos c6] at H
       have c6b0:decide (x5_1 < (l1.length:Int))=true:=decide_eq_true c6
       clear c6
       replace H:=Option.bind_eq_some_iff.mp H
       obtain ⟨t204,A70,H⟩:=H
       replace H:(if t204=true then (laws_eqShardS.l0 k1 l0 l1 (wrap64 (x5_1+1))) else (some false))=some r:=H
       have A7:=am A70
       clear A70
       by_cases c8:t204=true
       ·subst c8
        have H1:(laws_eqShardS.l0 k1 l0 l1 (wrap64 (x5_1+1)))=some r:=by rw [if_pos rfl] at H;exact H
        clear H
        have H:=H1
        clear H1
        have H':=am H
        clear H
        try go_wp2
        have n0_:=am (pd HB.out)
        clear HB
        have HB:=n0_
        clear n0_
        have p202:0≤(x5_1:Int):=od d3
        have q202:x5_1 < (l0.length:Int):=od d3
        obtain ⟨ad202,e202,hx202_0,hx202_1⟩:=at_T48 HR0.out x5_1 p202 q202
        have hw202_1:=hx202_1
        have hw202_0:=hx202_0
        cases e202
        replace hx202_0:=(HB.out.cell (World.block_lt_of_cell? w _ hx202_0)).trans hx202_0
        replace hx202_1:=(HB.out.cell (World.block_lt_of_cell? w _ hx202_1)).trans hx202_1
        replace p202:=eq_true p202
        replace q202:=eq_true q202
        have p203:0≤(x5_1:Int):=od d3
        have q203:x5_1 < (l1.length:Int):=od d3
        obtain ⟨ad203,e203,hx203_0,hx203_1⟩:=at_T48 HR1.out x5_1 p203 q203
        have hw203_1:=hx203_1
        have hw203_0:=hx203_0
        cases e203
        replace hx203_0:=(HB.out.cell (World.block_lt_of_cell? w _ hx203_0)).trans hx203_0
        replace hx203_1:=(HB.out.cell (World.block_lt_of_cell? w _ hx203_1)).trans hx203_1
        replace p203:=eq_true p203
        replace q203:=eq_true q203
        refine rS (n:=10) (S:=fun w'=>w'.cell? (ad202.add ((x5_1).toNat*2))=some (.int .i64 ((rd_T48 l0 x5_1).f0))∧w'.cell? ⟨(ad202.add ((x5_1).toNat*2)).block,(ad202.add ((x5_1).toNat*2)).off+1,none⟩=some (.string ((rd_T48 l0 x5_1).f1))∧w'.cell? (ad203.add ((x5_1).toNat*2))=some (.int .i64 ((rd_T48 l1 x5_1).f0))∧w'.cell? ⟨(ad203.add ((x5_1).toNat*2)).block,(ad203.add ((x5_1).toNat*2)).off+1,none⟩=some (.string ((rd_T48 l1 x5_1).f1))) (ds:=[]) [(0,17),(1,18),(2,19),(4,21),(5,22),(6,23),(3,20),(7,24),(8,0),(9,26)] d5 rfl laws_eqShardS.tab6 laws_eqShardS.bits6 ⟨((HB.out.cell (World.block_lt_of_cell? w _ hw202_0)).trans hw202_0),((HB.out.cell (World.block_lt_of_cell? w _ hw202_1)).trans hw202_1),((HB.out.cell (World.block_lt_of_cell? w _ hw203_0)).trans hw203_0),((HB.out.cell (World.block_lt_of_cell? w _ hw203_1)).trans hw203_1)⟩ (fun hHeld HT_ HW_=>?_)
        generalize wr.drew=w9 at HB hx202_0 hx202_1 hx203_0 hx203_1 hHeld ⊢
        refine rR ?_
        refine rO (N:=some 25) HT_ rfl rfl d5 d12 (fun K hK=>?_)
        refine goes_ Try.func28 d5 rfl #[.agg #[.int .i64 ((rd_T48 l0 x5_1).f0), .string ((rd_T48 l0 x5_1).f1)], .agg #[.int .i64 ((rd_T48 l1 x5_1).f0), .string ((rd_T48 l1 x5_1).f1)]] d28 rfl rfl d1 ?_
        with_reducible refine (laws_eqShard.calls ((rd_T48 l0 x5_1).f0) ((rd_T48 l0 x5_1).f1) ((rd_T48 l1 x5_1).f0) ((rd_T48 l1 x5_1).f1) true _ A7.out).mono ?_
        rintro e w10 ⟨rfl,hb⟩
        refine ⟨_,rfl,?_⟩
        have n0_:=am (pu d0 hb)
        clear HB
        have HB:=n0_
        clear n0_
        (try clear hb)
        (try clear hb2)
        (try clear hk)
        (try clear hi)
        refine hK.out _ _ ⟨((HB.out.cell (World.block_lt_of_cell? w _ hw202_0)).trans hw202_0),((HB.out.cell (World.block_lt_of_cell? w _ hw202_1)).trans hw202_1),((HB.out.cell (World.block_lt_of_cell? w _ hw203_0)).trans hw203_0),((HB.out.cell (World.block_lt_of_cell? w _ hw203_1)).trans hw203_1)⟩ (fun hHeld=>?_)
        clear hK K
        refine rN (a':=?_) ?_ ?_
        rotate_left
        ·show Act.put _ (some 25) _=_
         simp only [Act.put,q1,q2,q3,i64_w,i32_w]
         rfl
        refine rR ?_
        refine rD HT_ d5 ?_
        try go_wp2
        go_roundg k1
        case measure=>have:=HK1.out;omega
        case rel=>exact ⟨(wrap64 (x5_1+1)),d4,H',⟨d26⟩,⟨d0⟩⟩
       replace c8:=Bool.eq_false_iff.mpr c8
       subst c8
       have H1:(some false)=some r:=by rw [if_neg (show ¬ (false=true) by decide)] at H;exact H
       clear H
       have H:=H1
       clear H1
       obtain rfl:=Option.some.inj H
       try go_wp2
       have n0_:=am (pd HB.out)
       clear HB
       have HB:=n0_
       clear n0_
       have p202:0≤(x5_1:Int):=od d3
       have q202:x5_1 < (l0.length:Int):=od d3
       obtain ⟨ad202,e202,hx202_0,hx202_1⟩:=at_T48 HR0.out x5_1 p202 q202
       have hw202_1:=hx202_1
       have hw202_0:=hx202_0
       cases e202
       replace hx202_0:=(HB.out.cell (World.block_lt_of_cell? w _ hx202_0)).trans hx202_0
       replace hx202_1:=(HB.out.cell (World.block_lt_of_cell? w _ hx202_1)).trans hx202_1
       replace p202:=eq_true p202
       replace q202:=eq_true q202
       have p203:0≤(x5_1:Int):=od d3
       have q203:x5_1 < (l1.length:Int):=od d3
       obtain ⟨ad203,e203,hx203_0,hx203_1⟩:=at_T48 HR1.out x5_1 p203 q203
       have hw203_1:=hx203_1
       have hw203_0:=hx203_0
       cases e203
       replace hx203_0:=(HB.out.cell (World.block_lt_of_cell? w _ hx203_0)).trans hx203_0
       replace hx203_1:=(HB.out.cell (World.block_lt_of_cell? w _ hx203_1)).trans hx203_1
       replace p203:=eq_true p203
       replace q203:=eq_true q203
       refine rS (n:=10) (S:=fun w'=>w'.cell? (ad202.add ((x5_1).toNat*2))=some (.int .i64 ((rd_T48 l0 x5_1).f0))∧w'.cell? ⟨(ad202.add ((x5_1).toNat*2)).block,(ad202.add ((x5_1).toNat*2)).off+1,none⟩=some (.string ((rd_T48 l0 x5_1).f1))∧w'.cell? (ad203.add ((x5_1).toNat*2))=some (.int .i64 ((rd_T48 l1 x5_1).f0))∧w'.cell? ⟨(ad203.add ((x5_1).toNat*2)).block,(ad203.add ((x5_1).toNat*2)).off+1,none⟩=some (.string ((rd_T48 l1 x5_1).f1))) (ds:=[]) [(0,17),(1,18),(2,19),(4,21),(5,22),(6,23),(3,20),(7,24),(8,0),(9,26)] d5 rfl laws_eqShardS.tab6 laws_eqShardS.bits6 ⟨((HB.out.cell (World.block_lt_of_cell? w _ hw202_0)).trans hw202_0),((HB.out.cell (World.block_lt_of_cell? w _ hw202_1)).trans hw202_1),((HB.out.cell (World.block_lt_of_cell? w _ hw203_0)).trans hw203_0),((HB.out.cell (World.block_lt_of_cell? w _ hw203_1)).trans hw203_1)⟩ (fun hHeld HT_ HW_=>?_)
       generalize wr.drew=w11 at HB hx202_0 hx202_1 hx203_0 hx203_1 hHeld ⊢
       refine rR ?_
       refine rO (N:=some 25) HT_ rfl rfl d5 d12 (fun K hK=>?_)
       refine goes_ Try.func28 d5 rfl #[.agg #[.int .i64 ((rd_T48 l0 x5_1).f0), .string ((rd_T48 l0 x5_1).f1)], .agg #[.int .i64 ((rd_T48 l1 x5_1).f0), .string ((rd_T48 l1 x5_1).f1)]] d28 rfl rfl d1 ?_
       with_reducible refine (laws_eqShard.calls ((rd_T48 l0 x5_1).f0) ((rd_T48 l0 x5_1).f1) ((rd_T48 l1 x5_1).f0) ((rd_T48 l1 x5_1).f1) false _ A7.out).mono ?_
       rintro e w12 ⟨rfl,hb⟩
       refine ⟨_,rfl,?_⟩
       have n0_:=am (pu d0 hb)
       clear HB
       have HB:=n0_
       clear n0_
       (try clear hb)
       (try clear hb2)
       (try clear hk)
       (try clear hi)
       refine hK.out _ _ ⟨((HB.out.cell (World.block_lt_of_cell? w _ hw202_0)).trans hw202_0),((HB.out.cell (World.block_lt_of_cell? w _ hw202_1)).trans hw202_1),((HB.out.cell (World.block_lt_of_cell? w _ hw203_0)).trans hw203_0),((HB.out.cell (World.block_lt_of_cell? w _ hw203_1)).trans hw203_1)⟩ (fun hHeld=>?_)
       clear hK K
       refine rN (a':=?_) ?_ ?_
       rotate_left
       ·show Act.put _ (some 25) _=_
        simp only [Act.put,q1,q2,q3,i64_w,i32_w]
        rfl
       refine rR ?_
       refine rD HT_ d5 ?_
       try go_wp2
       go_ret
       exact ⟨d2,d0⟩
      rw [if_neg c6] at H
      exact absurd H d24
     rw [if_neg c5] at H
     exact absurd H d24
    rw [if_neg c4] at H
    have c4b0:decide (x5_1 < (l0.length:Int))=false:=decide_eq_false c4
    clear c4
    obtain rfl:=Option.some.inj H
    go_wp2
    go_ret
    exact ⟨d2,d0⟩
 rw [if_neg c3] at H
 have c3b0:((l0.length:Int) == (l1.length:Int))=false:=beq_eq_false_iff_ne.mpr c3
 have c3b1:((l0.length:Int) != (l1.length:Int))=true:=bne_iff_ne.mpr c3
 have c3b2:(l0.length == l1.length)=false:=by first|simpa using c3|(simp at c3 ⊢;omega)
 obtain rfl:=Option.some.inj H
 go_enter Try.func29,Try.ntmps29
 go_wp2
 go_ret
 exact ⟨d2,d0⟩

def laws_FnExactMendLocal.j0:Nat→List (S102)→List (S48)→Bool→Option (Bool)
 | 0,_,_,_=>none
 | k+1,x1,x10,x45=>if x45=true then (some false) else ((laws_toShardS.f k x1).bind fun t228=>((laws_eqShardS.f k x10 t228).bind fun t231=>(if t231=true then (some true) else (some false))))
def laws_FnExactMendLocal.f (k:Nat) (a0_0:Int) (a0_1:Int) (a0_2:Int) (l1:List (S102)) (a2:Int):Option (Bool):=(laws_szShardS.f k l1 1048576).bind fun t206=>(if t206 < 0 then (some true) else ((laws_toLocal.f a0_0 a0_1 a0_2).bind fun bt207=>((laws_toShardS.f k l1).bind fun t210=>((spec_MendLocal.f k bt207.1 bt207.2.1 bt207.2.2 t210 a2).bind fun bt213=>((laws_toShardS.f k l1).bind fun t217=>((laws_toLocal.f a0_0 a0_1 a0_2).bind fun bt220=>((impl_MendLocal.f k bt220.1 bt220.2.1 bt220.2.2 t217 a2).bind fun bt223=>((laws_eqShard.f bt223.1 bt223.2.1 bt213.1 bt213.2.1).bind fun t227=>(if t227=true then (laws_FnExactMendLocal.j0 k l1 t217 (bt223.2.2 != bt213.2.2)) else (laws_FnExactMendLocal.j0 k l1 t217 true))))))))))
theorem laws_FnExactMendLocal.mono_l:∀ k,(∀ y0 y1 y2,LeO (laws_FnExactMendLocal.j0 k y0 y1 y2) (laws_FnExactMendLocal.j0 (k+1) y0 y1 y2))
 | 0=>fun _ _ _ r h=>by simp [laws_FnExactMendLocal.j0] at h
 | k+1=>by
  have ih0:=laws_FnExactMendLocal.mono_l k
  intro y0 y1 y2
  unfold laws_FnExactMendLocal.j0
  repeat' first
  | (with_reducible exact ih0 _ _ _)
  | (with_reducible exact impl_MendLocal.mono _ _ _ _ _ _)
  | (with_reducible exact laws_eqShardS.mono _ _ _)
  | (with_reducible exact laws_szShardS.mono _ _ _)
  | (with_reducible exact laws_toShardS.mono _ _)
  | (with_reducible exact spec_MendLocal.mono _ _ _ _ _ _)
  |(with_reducible exact LeO.refl _)|(with_reducible exact LeO.none _)|(with_reducible refine LeO.ite ?_ ?_)|(with_reducible refine LeO.bind ?_ (fun _=>?_))|exact ih0 _ _ _|exact impl_MendLocal.mono _ _ _ _ _ _|exact laws_eqShardS.mono _ _ _|exact laws_szShardS.mono _ _ _|exact laws_toShardS.mono _ _|exact spec_MendLocal.mono _ _ _ _ _ _|exact LeO.none _|refine LeO.ite ?_ ?_|refine LeO.bind ?_ (fun _=>?_)
theorem laws_FnExactMendLocal.mono:∀ a0 a1 a2 a3 a4 k,LeO (laws_FnExactMendLocal.f k a0 a1 a2 a3 a4) (laws_FnExactMendLocal.f (k+1) a0 a1 a2 a3 a4):=by
 intro a0 a1 a2 a3 a4 k
 have ih0:=laws_FnExactMendLocal.mono_l k
 unfold laws_FnExactMendLocal.f
 repeat' first
   | (with_reducible exact ih0 _ _ _)
   | (with_reducible exact impl_MendLocal.mono _ _ _ _ _ _)
   | (with_reducible exact laws_eqShardS.mono _ _ _)
   | (with_reducible exact laws_szShardS.mono _ _ _)
   | (with_reducible exact laws_toShardS.mono _ _)
   | (with_reducible exact spec_MendLocal.mono _ _ _ _ _ _)
   |(with_reducible exact LeO.refl _)|(with_reducible exact LeO.none _)|(with_reducible refine LeO.ite ?_ ?_)|(with_reducible refine LeO.bind ?_ (fun _=>?_))|exact ih0 _ _ _|exact impl_MendLocal.mono _ _ _ _ _ _|exact laws_eqShardS.mono _ _ _|exact laws_szShardS.mono _ _ _|exact laws_toShardS.mono _ _|exact spec_MendLocal.mono _ _ _ _ _ _|exact LeO.none _|refine LeO.ite ?_ ?_|refine LeO.bind ?_ (fun _=>?_)
theorem laws_FnExactMendLocal.calls (k:Nat) (a0_0:Int) (a0_1:Int) (a0_2:Int) (A1:Option Addr) (c1:Nat) (l1:List (S102)) (a2:Int) (r:Bool) (w:World) (hr1:Kd.C k102 w A1 l1.length l1) (hc1:l1.length≤c1) (h:laws_FnExactMendLocal.f k a0_0 a0_1 a0_2 l1 a2=some r) :
  Calls Try.prog 5 #[.agg #[.int .i64 a0_0, .int .i64 a0_1, .int .i64 a0_2], .slice A1 l1.length c1, .int .i64 a2] w fun e w'=>e = .returned (.bool r)∧Below w.heap.size w w':=by
 have hu44:=Try.underlying44
 have hu48:=Try.underlying48
 have HR1:=am hr1
 have HC1:=am hc1
 clear hr1 hc1
 have HB:=am (Below.refl w.heap.size w)
 have H:((laws_szShardS.f k l1 1048576).bind fun t206=>(if t206 < 0 then (some true) else ((laws_toLocal.f a0_0 a0_1 a0_2).bind fun bt207=>((laws_toShardS.f k l1).bind fun t210=>((spec_MendLocal.f k bt207.1 bt207.2.1 bt207.2.2 t210 a2).bind fun bt213=>((laws_toShardS.f k l1).bind fun t217=>((laws_toLocal.f a0_0 a0_1 a0_2).bind fun bt220=>((impl_MendLocal.f k bt220.1 bt220.2.1 bt220.2.2 t217 a2).bind fun bt223=>((laws_eqShard.f bt223.1 bt223.2.1 bt213.1 bt213.2.1).bind fun t227=>(if t227=true then (laws_FnExactMendLocal.j0 k l1 t217 (bt223.2.2 != bt213.2.2)) else (laws_FnExactMendLocal.j0 k l1 t217 true)))))))))))=some r:=h
 clear h
 replace H:=Option.bind_eq_some_iff.mp H
 obtain ⟨t206,A40,H⟩:=H
 replace H:(if t206 < 0 then (some true) else ((laws_toLocal.f a0_0 a0_1 a0_2).bind fun bt207=>((laws_toShardS.f k l1).bind fun t210=>((spec_MendLocal.f k bt207.1 bt207.2.1 bt207.2.2 t210 a2).bind fun bt213=>((laws_toShardS.f k l1).bind fun t217=>((laws_toLocal.f a0_0 a0_1 a0_2).bind fun bt220=>((impl_MendLocal.f k bt220.1 bt220.2.1 bt220.2.2 t217 a2).bind fun bt223=>((laws_eqShard.f bt223.1 bt223.2.1 bt213.1 bt213.2.1).bind fun t227=>(if t227=true then (laws_FnExactMendLocal.j0 k l1 t217 (bt223.2.2 != bt213.2.2)) else (laws_FnExactMendLocal.j0 k l1 t217 true))))))))))=some r:=H
 have A4:=am A40
 clear A40
 by_cases c5:t206 < 0
 ·rw [if_pos c5] at H
  have c5b0:decide (t206 < 0)=true:=decide_eq_true c5
  clear c5
  obtain rfl:=Option.some.inj H
  go_enter Try.func5,Try.ntmps5
  go_wp2_with (first|((with_reducible refine gate_dst (N:=3) rfl ?_);refine box_event ?hg (N:=3) ?hd (cs:=#[.int .i64 a0_0, .int .i64 a0_1, .int .i64 a0_2]) (t:=44) ?hr ?_;(case hd=>rfl);(case hg=>rfl);(case hr=>first|(go_simp;done)|(go_simp;rfl));intro gb205 hg w6 hbox hb;have n0_:=am (pu d0 hb);have n1_:=am (hbox);have n2_:=am ((by rw [hg];exact (pz d0):w.heap.size≤gb205));have n3_:=n2_;clear HB;have HB:=n0_;have BK205:=n1_;have GW205:=n2_;have GE205:=n3_;clear n0_ n1_ n2_ n3_;clear hb hbox hg)|((with_reducible refine gate_callee (f:=23) rfl ?_);refine goesL_ (some 15) rfl rfl Try.func23 d5 rfl #[.slice A1 l1.length c1, .int .i64 1048576] rfl d1 ?_;(with_reducible refine (laws_szShardS.calls k _ _ l1 1048576 t206 _ ?side1 ?side2 A4.out).mono ?_);(case side1=>repeat (first|exact (Kd.C_below HR1.out HB.out)|(with_reducible refine Kd.C_alloc ?_ _)|(with_reducible refine Kd.C_drewN ?_ _)|(with_reducible refine Kd.C_drew ?_)));(case side2=>exact HC1.out);rintro e w7 ⟨rfl,hb⟩;refine ⟨_,rfl,?_⟩;have n0_:=am (qb (g:=gb205) (o:=.cells #[.int .i64 a0_0, .int .i64 a0_1, .int .i64 a0_2] 44 (0,0)) (by (with_reducible repeat (first|refine qn ?_ _|refine qd ?_|refine qa ?_ _));exact BK205.out) hb);have n1_:=am (pu (by repeat (first|(with_reducible first|exact HB.out|apply pa|apply pb|apply pd|refine pt ?_ GE205.out)|exact HB.out)) hb);clear BK205;clear HB;have BK205:=n0_;have HB:=n1_;clear n0_ n1_;(try clear hb);(try clear hb2);(try clear hk);(try clear hi)))
  go_ret
  exact ⟨d2,by repeat (first|(with_reducible first|exact HB.out|apply pa|apply pb|apply pd|refine pt ?_ GE205.out)|exact HB.out)⟩
 rw [if_neg c5] at H
 have c5b0:decide (t206 < 0)=false:=decide_eq_false c5
 clear c5
 replace H:=Option.bind_eq_some_iff.mp H
 obtain ⟨⟨t207,t208,t209⟩,A80,H⟩:=H
 replace H:((laws_toShardS.f k l1).bind fun t210=>((spec_MendLocal.f k t207 t208 t209 t210 a2).bind fun bt213=>((laws_toShardS.f k l1).bind fun t217=>((laws_toLocal.f a0_0 a0_1 a0_2).bind fun bt220=>((impl_MendLocal.f k bt220.1 bt220.2.1 bt220.2.2 t217 a2).bind fun bt223=>((laws_eqShard.f bt223.1 bt223.2.1 bt213.1 bt213.2.1).bind fun t227=>(if t227=true then (laws_FnExactMendLocal.j0 k l1 t217 (bt223.2.2 != bt213.2.2)) else (laws_FnExactMendLocal.j0 k l1 t217 true))))))))=some r:=H
 have A8:=am A80
 clear A80
 replace H:=Option.bind_eq_some_iff.mp H
 obtain ⟨t210,A90,H⟩:=H
 replace H:((spec_MendLocal.f k t207 t208 t209 t210 a2).bind fun bt213=>((laws_toShardS.f k l1).bind fun t217=>((laws_toLocal.f a0_0 a0_1 a0_2).bind fun bt220=>((impl_MendLocal.f k bt220.1 bt220.2.1 bt220.2.2 t217 a2).bind fun bt223=>((laws_eqShard.f bt223.1 bt223.2.1 bt213.1 bt213.2.1).bind fun t227=>(if t227=true then (laws_FnExactMendLocal.j0 k l1 t217 (bt223.2.2 != bt213.2.2)) else (laws_FnExactMendLocal.j0 k l1 t217 true)))))))=some r:=H
 have A9:=am A90
 clear A90
 replace H:=Option.bind_eq_some_iff.mp H
 obtain ⟨⟨t213,t214,t215⟩,A100,H⟩:=H
 replace H:((laws_toShardS.f k l1).bind fun t217=>((laws_toLocal.f a0_0 a0_1 a0_2).bind fun bt220=>((impl_MendLocal.f k bt220.1 bt220.2.1 bt220.2.2 t217 a2).bind fun bt223=>((laws_eqShard.f bt223.1 bt223.2.1 t213 t214).bind fun t227=>(if t227=true then (laws_FnExactMendLocal.j0 k l1 t217 (bt223.2.2 != t215)) else (laws_FnExactMendLocal.j0 k l1 t217 true))))))=some r:=H
 have A10:=am A100
 clear A100
 replace H:=Option.bind_eq_some_iff.mp H
 obtain ⟨t217,A110,H⟩:=H
 replace H:((laws_toLocal.f a0_0 a0_1 a0_2).bind fun bt220=>((impl_MendLocal.f k bt220.1 bt220.2.1 bt220.2.2 t217 a2).bind fun bt223=>((laws_eqShard.f bt223.1 bt223.2.1 t213 t214).bind fun t227=>(if t227=true then (laws_FnExactMendLocal.j0 k l1 t217 (bt223.2.2 != t215)) else (laws_FnExactMendLocal.j0 k l1 t217 true)))))=some r:=H
 have A11:=am A110
 clear A110
 replace H:=Option.bind_eq_some_iff.mp H
 obtain ⟨⟨t220,t221,t222⟩,A120,H⟩:=H
 replace H:((impl_MendLocal.f k t220 t221 t222 t217 a2).bind fun bt223=>((laws_eqShard.f bt223.1 bt223.2.1 t213 t214).bind fun t227=>(if t227=true then (laws_FnExactMendLocal.j0 k l1 t217 (bt223.2.2 != t215)) else (laws_FnExactMendLocal.j0 k l1 t217 true))))=some r:=H
 have A12:=am A120
 clear A120
 replace H:=Option.bind_eq_some_iff.mp H
 obtain ⟨⟨t223,t224,t225⟩,A130,H⟩:=H
 replace H:((laws_eqShard.f t223 t224 t213 t214).bind fun t227=>(if t227=true then (laws_FnExactMendLocal.j0 k l1 t217 (t225 != t215)) else (laws_FnExactMendLocal.j0 k l1 t217 true)))=some r:=H
 have A13:=am A130
 clear A130
 have HC14:=am H
 clear H
 go_enter Try.func5,Try.ntmps5
 go_upto_region 8 with (first|((with_reducible refine gate_dst (N:=3) rfl ?_);refine box_event ?hg (N:=3) ?hd (cs:=#[.int .i64 a0_0, .int .i64 a0_1, .int .i64 a0_2]) (t:=44) ?hr ?_;(case hd=>rfl);(case hg=>rfl);(case hr=>first|(go_simp;done)|(go_simp;rfl));intro gb205 hg w15 hbox hb;have n0_:=am (pu d0 hb);have n1_:=am (hbox);have n2_:=am ((by rw [hg];exact (pz d0):w.heap.size≤gb205));have n3_:=n2_;clear HB;have HB:=n0_;have BK205:=n1_;have GW205:=n2_;have GE205:=n3_;clear n0_ n1_ n2_ n3_;clear hb hbox hg)|((with_reducible refine gate_callee (f:=23) rfl ?_);refine goesL_ (some 15) rfl rfl Try.func23 d5 rfl #[.slice A1 l1.length c1, .int .i64 1048576] rfl d1 ?_;(with_reducible refine (laws_szShardS.calls k _ _ l1 1048576 t206 _ ?side1 ?side2 A4.out).mono ?_);(case side1=>repeat (first|exact (Kd.C_below HR1.out HB.out)|(with_reducible refine Kd.C_alloc ?_ _)|(with_reducible refine Kd.C_drewN ?_ _)|(with_reducible refine Kd.C_drew ?_)));(case side2=>exact HC1.out);rintro e w16 ⟨rfl,hb⟩;refine ⟨_,rfl,?_⟩;have n0_:=am (qb (g:=gb205) (o:=.cells #[.int .i64 a0_0, .int .i64 a0_1, .int .i64 a0_2] 44 (0,0)) (by (with_reducible repeat (first|refine qn ?_ _|refine qd ?_|refine qa ?_ _));exact BK205.out) hb);have n1_:=am (pu (by repeat (first|(with_reducible first|exact HB.out|apply pa|apply pb|apply pd|refine pt ?_ GE205.out)|exact HB.out)) hb);clear BK205;clear HB;have BK205:=n0_;have HB:=n1_;clear n0_ n1_;(try clear hb);(try clear hb2);(try clear hk);(try clear hi);have hcz17_0:w16.cell? ⟨gb205,0,none⟩=some (.int .i64 a0_0):=(blk_cell BK205.out 0).trans rfl;have hcz17_1:w16.cell? ⟨gb205,1,none⟩=some (.int .i64 a0_1):=(blk_cell BK205.out 1).trans rfl;have hcz17_2:w16.cell? ⟨gb205,2,none⟩=some (.int .i64 a0_2):=(blk_cell BK205.out 2).trans rfl;have hfz17_0:=blk_frozen BK205.out 0;have hfz17_1:=blk_frozen BK205.out 1;have hfz17_2:=blk_frozen BK205.out 2)|((with_reducible refine gate_callee (f:=25) rfl ?_);refine goesL_ (some 20) rfl rfl Try.func25 d5 rfl #[.agg #[.int .i64 a0_0, .int .i64 a0_1, .int .i64 a0_2]] rfl d1 ?_;(with_reducible refine (laws_toLocal.calls a0_0 a0_1 a0_2 t207 t208 t209 _ A8.out).mono ?_);rintro e w18 ⟨rfl,hb⟩;refine ⟨_,rfl,?_⟩;have n0_:=am (qb (g:=gb205) (o:=.cells #[.int .i64 a0_0, .int .i64 a0_1, .int .i64 a0_2] 44 (0,0)) (by (with_reducible repeat (first|refine qn ?_ _|refine qd ?_|refine qa ?_ _));exact BK205.out) hb);have n1_:=am (pu (by repeat (first|(with_reducible first|exact HB.out|apply pa|apply pb|apply pd|refine pt ?_ GE205.out)|exact HB.out)) hb);clear BK205;clear HB;have BK205:=n0_;have HB:=n1_;clear n0_ n1_;(try clear hb);(try clear hb2);(try clear hk);(try clear hi))|((with_reducible refine gate_callee (f:=26) rfl ?_);refine goesL_ (some 22) rfl rfl Try.func26 d5 rfl #[.slice A1 l1.length c1] rfl d1 ?_;(with_reducible refine (laws_toShardS.calls k _ _ l1 t210 _ ?side1 ?side2 A9.out).mono ?_);(case side1=>repeat (first|exact (Kd.C_below HR1.out HB.out)|(with_reducible refine Kd.C_alloc ?_ _)|(with_reducible refine Kd.C_drewN ?_ _)|(with_reducible refine Kd.C_drew ?_)));(case side2=>exact HC1.out);rintro e w19 ⟨v211,rfl,ho0,hb⟩;refine ⟨_,rfl,?_⟩;have n0_:=am (Kd.R_lower ho0 (pz (by repeat (first|(with_reducible first|exact HB.out|apply pa|apply pb|apply pd|refine pt ?_ GE205.out)|exact HB.out))));have n1_:=am (qb (g:=gb205) (o:=.cells #[.int .i64 a0_0, .int .i64 a0_1, .int .i64 a0_2] 44 (0,0)) (by (with_reducible repeat (first|refine qn ?_ _|refine qd ?_|refine qa ?_ _));exact BK205.out) hb);have n2_:=am (pu (by repeat (first|(with_reducible first|exact HB.out|apply pa|apply pb|apply pd|refine pt ?_ GE205.out)|exact HB.out)) hb);clear BK205;clear HB;have HO212:=n0_;have BK205:=n1_;have HB:=n2_;clear n0_ n1_ n2_;(try clear hb);(try clear hb2);(try clear hk);(try clear hi);(try clear ho0);obtain ⟨Ao20,co20,eo20⟩:=Kd.R_slice HO212.out;subst eo20)|((with_reducible refine gate_callee (f:=24) rfl ?_);refine goesL_ (some 24) rfl rfl Try.func24 d5 rfl #[.agg #[.int .i64 t207, .int .i64 t208, .int .i64 t209], .slice Ao20 t210.length co20, .int .i64 a2] rfl d1 ?_;(with_reducible refine (spec_MendLocal.calls k t207 t208 t209 _ _ t210 a2 t213 t214 t215 _ ?side1 ?side2 A10.out).mono ?_);(case side1=>repeat (first|exact (Kd.R_reads' HO212.out).2.2|(with_reducible refine Kd.C_alloc ?_ _)|(with_reducible refine Kd.C_drewN ?_ _)|(with_reducible refine Kd.C_drew ?_)));(case side2=>exact (Kd.R_reads' HO212.out).2.1);rintro e w21 ⟨rfl,hb⟩;refine ⟨_,rfl,?_⟩;have n0_:=am (Kd.R_below d13 hb);have n1_:=am (qb (g:=gb205) (o:=.cells #[.int .i64 a0_0, .int .i64 a0_1, .int .i64 a0_2] 44 (0,0)) (by (with_reducible repeat (first|refine qn ?_ _|refine qd ?_|refine qa ?_ _));exact BK205.out) hb);have n2_:=am (pu (by repeat (first|(with_reducible first|exact HB.out|apply pa|apply pb|apply pd|refine pt ?_ GE205.out)|exact HB.out)) hb);clear HO212;clear BK205;clear HB;have HO212:=n0_;have BK205:=n1_;have HB:=n2_;clear n0_ n1_ n2_;(try clear hb);(try clear hb2);(try clear hk);(try clear hi))|((with_reducible refine gate_dst (N:=8) rfl ?_);refine box_event ?hg (N:=8) ?hd (cs:=#[.int .i64 0, .string (⟨#[]⟩:ByteArray)]) (t:=48) ?hr ?_;(case hd=>rfl);(case hg=>rfl);(case hr=>first|(go_simp;done)|(go_simp;rfl));intro gb216 hg w22 hbox hb;have n0_:=am (Kd.R_below (Kd.R_elderB d13 gb216 (Nat.le_of_eq hg.symm)) hb);have n1_:=am (qb (g:=gb205) (o:=.cells #[.int .i64 a0_0, .int .i64 a0_1, .int .i64 a0_2] 44 (0,0)) (by (with_reducible repeat (first|refine qn ?_ _|refine qd ?_|refine qa ?_ _));exact BK205.out) hb);have n2_:=am (pu (by repeat (first|(with_reducible first|exact HB.out|apply pa|apply pb|apply pd|refine pt ?_ GE205.out)|exact HB.out)) hb);have n3_:=am (hbox);have n4_:=am ((by rw [hg];exact (pz (by repeat (first|(with_reducible first|exact HB.out|apply pa|apply pb|apply pd|refine pt ?_ GE205.out)|exact HB.out))):w.heap.size≤gb216));have n5_:=n4_;have n6_:=am ((by rw [hg];exact Nat.ne_of_lt (blk_lt (g:=gb205) (o:=.cells #[.int .i64 a0_0, .int .i64 a0_1, .int .i64 a0_2] 44 (0,0)) (by (with_reducible repeat (first|refine qn ?_ _|refine qd ?_|refine qa ?_ _));exact BK205.out)):gb205 ≠ gb216));have n7_:=am ((by rw [hg];exact Nat.ne_of_gt (blk_lt (g:=gb205) (o:=.cells #[.int .i64 a0_0, .int .i64 a0_1, .int .i64 a0_2] 44 (0,0)) (by (with_reducible repeat (first|refine qn ?_ _|refine qd ?_|refine qa ?_ _));exact BK205.out)):gb216 ≠ gb205));clear HO212;clear BK205;clear HB;have HO212:=n0_;have BK205:=n1_;have HB:=n2_;have BK216:=n3_;have GW216:=n4_;have GE216:=n5_;have NB205_216:=n6_;have NB216_205:=n7_;clear n0_ n1_ n2_ n3_ n4_ n5_ n6_ n7_;clear hb hbox hg;have hnb23:=NB216_205.out;have hnc23:=NB205_216.out;have hcz24_0:w22.cell? ⟨gb216,0,none⟩=some (.int .i64 0):=(blk_cell BK216.out 0).trans rfl;have hcz24_1:w22.cell? ⟨gb216,1,none⟩=some (.string (⟨#[]⟩:ByteArray)):=(blk_cell BK216.out 1).trans rfl;have hfz24_0:=blk_frozen BK216.out 0;have hfz24_1:=blk_frozen BK216.out 1)|((with_reducible refine gate_callee (f:=26) rfl ?_);refine goesL_ (some 28) rfl rfl Try.func26 d5 rfl #[.slice A1 l1.length c1] rfl d1 ?_;(with_reducible refine (laws_toShardS.calls k _ _ l1 t217 _ ?side1 ?side2 A11.out).mono ?_);(case side1=>exact Kd.C_below HR1.out (by repeat (first|(with_reducible first|exact HB.out|apply pa|apply pb|apply pd|refine pt ?_ GE205.out|refine pt ?_ GE216.out)|exact HB.out)));(case side2=>exact HC1.out);rintro e w25 ⟨v218,rfl,ho0,hb⟩;refine ⟨_,rfl,?_⟩;have n0_:=am (Kd.R_elder' d19 (Kd.R_base ho0) hb);have n1_:=am (Kd.R_lower (Kd.R_newB (Kd.R_new' ho0 (Kd.R_lt d19)) (g:=gb216) (o:=.cells #[.int .i64 t213, .string t214] 48 (0,0)) (by (with_reducible repeat (first|refine qn ?_ _|refine qd ?_|refine qa ?_ _));refine blk_put (cs:=#[.int .i64 t213, .string (⟨#[]⟩:ByteArray)]) ?_ 1 _ rfl;(with_reducible repeat (first|refine qn ?_ _|refine qd ?_|refine qa ?_ _));refine blk_put (cs:=#[.int .i64 0, .string (⟨#[]⟩:ByteArray)]) ?_ 0 _ rfl;(with_reducible repeat (first|refine qn ?_ _|refine qd ?_|refine qa ?_ _));exact BK216.out)) (pz (by repeat (first|(with_reducible first|exact HB.out|apply pa|apply pb|apply pd|refine pt ?_ GE205.out|refine pt ?_ GE216.out)|exact HB.out))));have n2_:=am (qb (g:=gb205) (o:=.cells #[.int .i64 a0_0, .int .i64 a0_1, .int .i64 a0_2] 44 (0,0)) (by (with_reducible repeat (first|refine qn ?_ _|refine qd ?_|refine qa ?_ _));refine blk_far ?_ NB205_216.out _;(with_reducible repeat (first|refine qn ?_ _|refine qd ?_|refine qa ?_ _));refine blk_far ?_ NB205_216.out _;(with_reducible repeat (first|refine qn ?_ _|refine qd ?_|refine qa ?_ _));exact BK205.out) hb);have n3_:=am (qb (g:=gb216) (o:=.cells #[.int .i64 t213, .string t214] 48 (0,0)) (by (with_reducible repeat (first|refine qn ?_ _|refine qd ?_|refine qa ?_ _));refine blk_put (cs:=#[.int .i64 t213, .string (⟨#[]⟩:ByteArray)]) ?_ 1 _ rfl;(with_reducible repeat (first|refine qn ?_ _|refine qd ?_|refine qa ?_ _));refine blk_put (cs:=#[.int .i64 0, .string (⟨#[]⟩:ByteArray)]) ?_ 0 _ rfl;(with_reducible repeat (first|refine qn ?_ _|refine qd ?_|refine qa ?_ _));exact BK216.out) hb);have n4_:=am (pu (by repeat (first|(with_reducible first|exact HB.out|apply pa|apply pb|apply pd|refine pt ?_ GE205.out|refine pt ?_ GE216.out)|exact HB.out)) hb);clear HO212;clear BK205;clear BK216;clear HB;have HO212:=n0_;have HO219:=n1_;have BK205:=n2_;have BK216:=n3_;have HB:=n4_;clear n0_ n1_ n2_ n3_ n4_;(try clear hb);(try clear hb2);(try clear hk);(try clear hi);(try clear ho0);have hcz26_0:w25.cell? ⟨gb205,0,none⟩=some (.int .i64 a0_0):=(blk_cell BK205.out 0).trans rfl;have hcz26_1:w25.cell? ⟨gb205,1,none⟩=some (.int .i64 a0_1):=(blk_cell BK205.out 1).trans rfl;have hcz26_2:w25.cell? ⟨gb205,2,none⟩=some (.int .i64 a0_2):=(blk_cell BK205.out 2).trans rfl;have hfz26_0:=blk_frozen BK205.out 0;have hfz26_1:=blk_frozen BK205.out 1;have hfz26_2:=blk_frozen BK205.out 2)|((with_reducible refine gate_callee (f:=25) rfl ?_);refine goesL_ (some 31) rfl rfl Try.func25 d5 rfl #[.agg #[.int .i64 a0_0, .int .i64 a0_1, .int .i64 a0_2]] rfl d1 ?_;(with_reducible refine (laws_toLocal.calls a0_0 a0_1 a0_2 t220 t221 t222 _ A12.out).mono ?_);rintro e w27 ⟨rfl,hb⟩;refine ⟨_,rfl,?_⟩;have n0_:=am (Kd.R_below d13 hb);have n1_:=am (Kd.R_below d27 hb);have n2_:=am (qb (g:=gb205) (o:=.cells #[.int .i64 a0_0, .int .i64 a0_1, .int .i64 a0_2] 44 (0,0)) (by (with_reducible repeat (first|refine qn ?_ _|refine qd ?_|refine qa ?_ _));exact BK205.out) hb);have n3_:=am (qb (g:=gb216) (o:=.cells #[.int .i64 t213, .string t214] 48 (0,0)) (by (with_reducible repeat (first|refine qn ?_ _|refine qd ?_|refine qa ?_ _));exact BK216.out) hb);have n4_:=am (pu (by repeat (first|(with_reducible first|exact HB.out|apply pa|apply pb|apply pd|refine pt ?_ GE205.out|refine pt ?_ GE216.out)|exact HB.out)) hb);clear HO212;clear HO219;clear BK205;clear BK216;clear HB;have HO212:=n0_;have HO219:=n1_;have BK205:=n2_;have BK216:=n3_;have HB:=n4_;clear n0_ n1_ n2_ n3_ n4_;(try clear hb);(try clear hb2);(try clear hk);(try clear hi);obtain ⟨Ao28,co28,eo28⟩:=Kd.R_slice HO219.out;subst eo28)|((with_reducible refine gate_callee (f:=27) rfl ?_);refine goesL_ (some 34) rfl rfl Try.func27 d5 rfl #[.agg #[.int .i64 t220, .int .i64 t221, .int .i64 t222], .slice Ao28 t217.length co28, .int .i64 a2] rfl d1 ?_;(with_reducible refine (impl_MendLocal.calls k t220 t221 t222 _ _ t217 a2 t223 t224 t225 _ ?side1 ?side2 A13.out).mono ?_);(case side1=>repeat (first|exact (Kd.R_reads' HO219.out).2.2|(with_reducible refine Kd.C_alloc ?_ _)|(with_reducible refine Kd.C_drewN ?_ _)|(with_reducible refine Kd.C_drew ?_)));(case side2=>exact (Kd.R_reads' HO219.out).2.1);rintro e w29 ⟨rfl,hb⟩;refine ⟨_,rfl,?_⟩;have n0_:=am (Kd.R_below d13 hb);have n1_:=am (Kd.R_below d27 hb);have n2_:=am (qb (g:=gb205) (o:=.cells #[.int .i64 a0_0, .int .i64 a0_1, .int .i64 a0_2] 44 (0,0)) (by (with_reducible repeat (first|refine qn ?_ _|refine qd ?_|refine qa ?_ _));exact BK205.out) hb);have n3_:=am (qb (g:=gb216) (o:=.cells #[.int .i64 t213, .string t214] 48 (0,0)) (by (with_reducible repeat (first|refine qn ?_ _|refine qd ?_|refine qa ?_ _));exact BK216.out) hb);have n4_:=am (pu (by repeat (first|(with_reducible first|exact HB.out|apply pa|apply pb|apply pd|refine pt ?_ GE205.out|refine pt ?_ GE216.out)|exact HB.out)) hb);clear HO212;clear HO219;clear BK205;clear BK216;clear HB;have HO212:=n0_;have HO219:=n1_;have BK205:=n2_;have BK216:=n3_;have HB:=n4_;clear n0_ n1_ n2_ n3_ n4_;(try clear hb);(try clear hb2);(try clear hk);(try clear hi))|((with_reducible refine gate_dst (N:=11) rfl ?_);refine box_event ?hg (N:=11) ?hd (cs:=#[.int .i64 0, .string (⟨#[]⟩:ByteArray)]) (t:=48) ?hr ?_;(case hd=>rfl);(case hg=>rfl);(case hr=>first|(go_simp;done)|(go_simp;rfl));intro gb226 hg w30 hbox hb;have n0_:=am (Kd.R_below (Kd.R_elderB d13 gb226 (Nat.le_of_eq hg.symm)) hb);have n1_:=am (Kd.R_below (Kd.R_elderB d27 gb226 (Nat.le_of_eq hg.symm)) hb);have n2_:=am (qb (g:=gb205) (o:=.cells #[.int .i64 a0_0, .int .i64 a0_1, .int .i64 a0_2] 44 (0,0)) (by (with_reducible repeat (first|refine qn ?_ _|refine qd ?_|refine qa ?_ _));exact BK205.out) hb);have n3_:=am (qb (g:=gb216) (o:=.cells #[.int .i64 t213, .string t214] 48 (0,0)) (by (with_reducible repeat (first|refine qn ?_ _|refine qd ?_|refine qa ?_ _));exact BK216.out) hb);have n4_:=am (pu (by repeat (first|(with_reducible first|exact HB.out|apply pa|apply pb|apply pd|refine pt ?_ GE205.out|refine pt ?_ GE216.out)|exact HB.out)) hb);have n5_:=am (hbox);have n6_:=am ((by rw [hg];exact (pz (by repeat (first|(with_reducible first|exact HB.out|apply pa|apply pb|apply pd|refine pt ?_ GE205.out|refine pt ?_ GE216.out)|exact HB.out))):w.heap.size≤gb226));have n7_:=n6_;have n8_:=am ((by rw [hg];exact Nat.ne_of_lt (blk_lt (g:=gb205) (o:=.cells #[.int .i64 a0_0, .int .i64 a0_1, .int .i64 a0_2] 44 (0,0)) (by (with_reducible repeat (first|refine qn ?_ _|refine qd ?_|refine qa ?_ _));exact BK205.out)):gb205 ≠ gb226));have n9_:=am ((by rw [hg];exact Nat.ne_of_gt (blk_lt (g:=gb205) (o:=.cells #[.int .i64 a0_0, .int .i64 a0_1, .int .i64 a0_2] 44 (0,0)) (by (with_reducible repeat (first|refine qn ?_ _|refine qd ?_|refine qa ?_ _));exact BK205.out)):gb226 ≠ gb205));have n10_:=am ((by rw [hg];exact Nat.ne_of_lt (blk_lt (g:=gb216) (o:=.cells #[.int .i64 t213, .string t214] 48 (0,0)) (by (with_reducible repeat (first|refine qn ?_ _|refine qd ?_|refine qa ?_ _));exact BK216.out)):gb216 ≠ gb226));have n11_:=am ((by rw [hg];exact Nat.ne_of_gt (blk_lt (g:=gb216) (o:=.cells #[.int .i64 t213, .string t214] 48 (0,0)) (by (with_reducible repeat (first|refine qn ?_ _|refine qd ?_|refine qa ?_ _));exact BK216.out)):gb226 ≠ gb216));clear HO212;clear HO219;clear BK205;clear BK216;clear HB;have HO212:=n0_;have HO219:=n1_;have BK205:=n2_;have BK216:=n3_;have HB:=n4_;have BK226:=n5_;have GW226:=n6_;have GE226:=n7_;have NB205_226:=n8_;have NB226_205:=n9_;have NB216_226:=n10_;have NB226_216:=n11_;clear n0_ n1_ n2_ n3_ n4_ n5_ n6_ n7_ n8_ n9_ n10_ n11_;clear hb hbox hg;have hnb31:=NB226_205.out;have hnc31:=NB205_226.out;have hnb32:=NB226_216.out;have hnc32:=NB216_226.out;have hcz33_0:w30.cell? ⟨gb226,0,none⟩=some (.int .i64 0):=(blk_cell BK226.out 0).trans rfl;have hcz33_1:w30.cell? ⟨gb226,1,none⟩=some (.string (⟨#[]⟩:ByteArray)):=(blk_cell BK226.out 1).trans rfl;have hfz33_0:=blk_frozen BK226.out 0;have hfz33_1:=blk_frozen BK226.out 1))
 (try simp only [Act.put,q1,q2,q3])
 go_cut [45] (fun v45 wc=>∃ (kq:Nat) (x45_13:Bool),v45 = .bool x45_13∧Aside0 (laws_FnExactMendLocal.j0 kq l1 t217 x45_13=some r)∧Aside0 (kq≤k)∧Aside0 (Kd.R k48 48 wc w.heap.size (fun k_=>k_ ≠ gb216∧k_ ≠ gb226) (.slice Ao28 t217.length co28) t217)∧Aside0 (wc.heap[gb205]? = some (.cells #[.int .i64 a0_0, .int .i64 a0_1, .int .i64 a0_2] 44 (0,0)))∧Aside0 (wc.heap[gb216]? = some (.cells #[.int .i64 t213, .string t214] 48 (0,0)))∧Aside0 (wc.heap[gb226]? = some (.cells #[.int .i64 t223, .string t224] 48 (0,0)))∧Aside0 (Below w.heap.size w wc))
 case first =>
  have H:=HC14.out
  clear HC14
  replace H:=Option.bind_eq_some_iff.mp H
  obtain ⟨t227,A340,H⟩:=H
  replace H:(if t227=true then (laws_FnExactMendLocal.j0 k l1 t217 (t225 != t215)) else (laws_FnExactMendLocal.j0 k l1 t217 true))=some r:=H
  have A34:=am A340
  clear A340
  by_cases c35:t227=true
  ·subst c35
   have H1:(laws_FnExactMendLocal.j0 k l1 t217 (t225 != t215))=some r:=by rw [if_pos rfl] at H;exact H
   clear H
   have H:=H1
   clear H1
   have H':=am H
   clear H
   have hnb36:=NB226_205.out
   have hnc36:=NB205_226.out
   have hnb37:=NB226_216.out
   have hnc37:=NB216_226.out
   have hcz38_0:w30.cell? ⟨gb226,0,none⟩=some (.int .i64 0):=(blk_cell BK226.out 0).trans rfl
   have hcz38_1:w30.cell? ⟨gb226,1,none⟩=some (.string (⟨#[]⟩:ByteArray)):=(blk_cell BK226.out 1).trans rfl
   have hfz38_0:=blk_frozen BK226.out 0
   have hfz38_1:=blk_frozen BK226.out 1
   have hnb39:=NB216_205.out
   have hnc39:=NB205_216.out
   have hcz40_0:w30.cell? ⟨gb216,0,none⟩=some (.int .i64 t213):=(blk_cell BK216.out 0).trans rfl
   have hcz40_1:w30.cell? ⟨gb216,1,none⟩=some (.string t214):=(blk_cell BK216.out 1).trans rfl
   have hfz40_0:=blk_frozen BK216.out 0
   have hfz40_1:=blk_frozen BK216.out 1
   go_wp2_with (first|((with_reducible refine gate_callee (f:=28) rfl ?_);refine goesL_ (some 39) rfl rfl Try.func28 d5 rfl #[.agg #[.int .i64 t223, .string t224], .agg #[.int .i64 t213, .string t214]] rfl d1 ?_;(with_reducible refine (laws_eqShard.calls t223 t224 t213 t214 true _ A34.out).mono ?_);rintro e w41 ⟨rfl,hb⟩;refine ⟨_,rfl,?_⟩;have n0_:=am (Kd.R_below d18 hb);have n1_:=am (Kd.R_below d17 hb);have n2_:=am (qb (g:=gb205) (o:=.cells #[.int .i64 a0_0, .int .i64 a0_1, .int .i64 a0_2] 44 (0,0)) (by (with_reducible repeat (first|refine qn ?_ _|refine qd ?_|refine qa ?_ _));refine blk_far ?_ NB205_226.out _;(with_reducible repeat (first|refine qn ?_ _|refine qd ?_|refine qa ?_ _));refine blk_far ?_ NB205_226.out _;(with_reducible repeat (first|refine qn ?_ _|refine qd ?_|refine qa ?_ _));exact BK205.out) hb);have n3_:=am (qb (g:=gb216) (o:=.cells #[.int .i64 t213, .string t214] 48 (0,0)) (by (with_reducible repeat (first|refine qn ?_ _|refine qd ?_|refine qa ?_ _));refine blk_far ?_ NB216_226.out _;(with_reducible repeat (first|refine qn ?_ _|refine qd ?_|refine qa ?_ _));refine blk_far ?_ NB216_226.out _;(with_reducible repeat (first|refine qn ?_ _|refine qd ?_|refine qa ?_ _));exact BK216.out) hb);have n4_:=am (qb (g:=gb226) (o:=.cells #[.int .i64 t223, .string t224] 48 (0,0)) (by (with_reducible repeat (first|refine qn ?_ _|refine qd ?_|refine qa ?_ _));refine blk_put (cs:=#[.int .i64 t223, .string (⟨#[]⟩:ByteArray)]) ?_ 1 _ rfl;(with_reducible repeat (first|refine qn ?_ _|refine qd ?_|refine qa ?_ _));refine blk_put (cs:=#[.int .i64 0, .string (⟨#[]⟩:ByteArray)]) ?_ 0 _ rfl;(with_reducible repeat (first|refine qn ?_ _|refine qd ?_|refine qa ?_ _));exact BK226.out) hb);have n5_:=am (pu (by repeat (first|(with_reducible first|exact HB.out|apply pa|apply pb|apply pd|refine pt ?_ GE205.out|refine pt ?_ GE216.out|refine pt ?_ GE226.out)|exact HB.out)) hb);clear HO212;clear HO219;clear BK205;clear BK216;clear BK226;clear HB;have HO212:=n0_;have HO219:=n1_;have BK205:=n2_;have BK216:=n3_;have BK226:=n4_;have HB:=n5_;clear n0_ n1_ n2_ n3_ n4_ n5_;(try clear hb);(try clear hb2);(try clear hk);(try clear hi)))
   go_meet
   case rel=>exact ⟨_,((t225 != t215)),d4,H',⟨d25⟩,⟨d30⟩,⟨by (with_reducible repeat (first|refine qn ?_ _|refine qd ?_|refine qa ?_ _));exact BK205.out⟩,⟨by (with_reducible repeat (first|refine qn ?_ _|refine qd ?_|refine qa ?_ _));exact BK216.out⟩,⟨by (with_reducible repeat (first|refine qn ?_ _|refine qd ?_|refine qa ?_ _));exact BK226.out⟩,⟨by repeat (first|(with_reducible first|exact HB.out|apply pa|apply pb|apply pd|refine pt ?_ GE205.out|refine pt ?_ GE216.out|refine pt ?_ GE226.out)|exact HB.out)⟩⟩
  replace c35:=Bool.eq_false_iff.mpr c35
  subst c35
  have H1:(laws_FnExactMendLocal.j0 k l1 t217 true)=some r:=by rw [if_neg (show ¬ (false=true) by decide)] at H;exact H
  clear H
  have H:=H1
  clear H1
  have H':=am H
  clear H
  have hnb42:=NB226_205.out
  have hnc42:=NB205_226.out
  have hnb43:=NB226_216.out
  have hnc43:=NB216_226.out
  have hcz44_0:w30.cell? ⟨gb226,0,none⟩=some (.int .i64 0):=(blk_cell BK226.out 0).trans rfl
  have hcz44_1:w30.cell? ⟨gb226,1,none⟩=some (.string (⟨#[]⟩:ByteArray)):=(blk_cell BK226.out 1).trans rfl
  have hfz44_0:=blk_frozen BK226.out 0
  have hfz44_1:=blk_frozen BK226.out 1
  have hnb45:=NB216_205.out
  have hnc45:=NB205_216.out
  have hcz46_0:w30.cell? ⟨gb216,0,none⟩=some (.int .i64 t213):=(blk_cell BK216.out 0).trans rfl
  have hcz46_1:w30.cell? ⟨gb216,1,none⟩=some (.string t214):=(blk_cell BK216.out 1).trans rfl
  have hfz46_0:=blk_frozen BK216.out 0
  have hfz46_1:=blk_frozen BK216.out 1
  go_wp2_with (first|((with_reducible refine gate_callee (f:=28) rfl ?_);refine goesL_ (some 39) rfl rfl Try.func28 d5 rfl #[.agg #[.int .i64 t223, .string t224], .agg #[.int .i64 t213, .string t214]] rfl d1 ?_;(with_reducible refine (laws_eqShard.calls t223 t224 t213 t214 false _ A34.out).mono ?_);rintro e w47 ⟨rfl,hb⟩;refine ⟨_,rfl,?_⟩;have n0_:=am (Kd.R_below d18 hb);have n1_:=am (Kd.R_below d17 hb);have n2_:=am (qb (g:=gb205) (o:=.cells #[.int .i64 a0_0, .int .i64 a0_1, .int .i64 a0_2] 44 (0,0)) (by (with_reducible repeat (first|refine qn ?_ _|refine qd ?_|refine qa ?_ _));refine blk_far ?_ NB205_226.out _;(with_reducible repeat (first|refine qn ?_ _|refine qd ?_|refine qa ?_ _));refine blk_far ?_ NB205_226.out _;(with_reducible repeat (first|refine qn ?_ _|refine qd ?_|refine qa ?_ _));exact BK205.out) hb);have n3_:=am (qb (g:=gb216) (o:=.cells #[.int .i64 t213, .string t214] 48 (0,0)) (by (with_reducible repeat (first|refine qn ?_ _|refine qd ?_|refine qa ?_ _));refine blk_far ?_ NB216_226.out _;(with_reducible repeat (first|refine qn ?_ _|refine qd ?_|refine qa ?_ _));refine blk_far ?_ NB216_226.out _;(with_reducible repeat (first|refine qn ?_ _|refine qd ?_|refine qa ?_ _));exact BK216.out) hb);have n4_:=am (qb (g:=gb226) (o:=.cells #[.int .i64 t223, .string t224] 48 (0,0)) (by (with_reducible repeat (first|refine qn ?_ _|refine qd ?_|refine qa ?_ _));refine blk_put (cs:=#[.int .i64 t223, .string (⟨#[]⟩:ByteArray)]) ?_ 1 _ rfl;(with_reducible repeat (first|refine qn ?_ _|refine qd ?_|refine qa ?_ _));refine blk_put (cs:=#[.int .i64 0, .string (⟨#[]⟩:ByteArray)]) ?_ 0 _ rfl;(with_reducible repeat (first|refine qn ?_ _|refine qd ?_|refine qa ?_ _));exact BK226.out) hb);have n5_:=am (pu (by repeat (first|(with_reducible first|exact HB.out|apply pa|apply pb|apply pd|refine pt ?_ GE205.out|refine pt ?_ GE216.out|refine pt ?_ GE226.out)|exact HB.out)) hb);clear HO212;clear HO219;clear BK205;clear BK216;clear BK226;clear HB;have HO212:=n0_;have HO219:=n1_;have BK205:=n2_;have BK216:=n3_;have BK226:=n4_;have HB:=n5_;clear n0_ n1_ n2_ n3_ n4_ n5_;(try clear hb);(try clear hb2);(try clear hk);(try clear hi)))
  go_meet
  case rel=>exact ⟨_,(true),d4,H',⟨d25⟩,⟨d30⟩,⟨by (with_reducible repeat (first|refine qn ?_ _|refine qd ?_|refine qa ?_ _));exact BK205.out⟩,⟨by (with_reducible repeat (first|refine qn ?_ _|refine qd ?_|refine qa ?_ _));exact BK216.out⟩,⟨by (with_reducible repeat (first|refine qn ?_ _|refine qd ?_|refine qa ?_ _));exact BK226.out⟩,⟨by repeat (first|(with_reducible first|exact HB.out|apply pa|apply pb|apply pd|refine pt ?_ GE205.out|refine pt ?_ GE216.out|refine pt ?_ GE226.out)|exact HB.out)⟩⟩
 case rest =>
  clear HC14
  try clear c1
  try clear c2
  try clear p2
  try clear c3
  try clear c4
  try clear c5
  try clear c5b0
  try clear c23
  try clear c24
  try clear c25
  try clear c26
  try clear c27
  try clear c28
  try clear c31
  try clear c32
  try clear c35
  try clear c36
  try clear c37
  try clear c39
  try clear c42
  try clear c43
  try clear c45
  try clear hcz17_0
  try clear hcz17_1
  try clear hcz17_2
  try clear hcz24_0
  try clear hcz24_1
  try clear hcz26_0
  try clear hcz26_1
  try clear hcz26_2
  try clear hcz33_0
  try clear hcz33_1
  try clear hcz38_0
  try clear hcz38_1
  try clear hcz40_0
  try clear hcz40_1
  try clear hcz44_0
  try clear hcz44_1
  try clear hcz46_0
  try clear hcz46_1
  try clear hfz17_0
  try clear hfz17_1
  try clear hfz17_2
  try clear hfz24_0
  try clear hfz24_1
  try clear hfz26_0
  try clear hfz26_1
  try clear hfz26_2
  try clear hfz33_0
  try clear hfz33_1
  try clear hfz38_0
  try clear hfz38_1
  try clear hfz40_0
  try clear hfz40_1
  try clear hfz44_0
  try clear hfz44_1
  try clear hfz46_0
  try clear hfz46_1
  obtain ⟨kq,x45_13,rfl,HA,HJ13,HO_10,BK205,BK216,BK226,HB⟩:=hcut
  cases kq with
  | zero=>exact absurd HA.out (by simp [laws_FnExactMendLocal.j0])
  | succ kj13 =>
   have H:=HA.out
   clear HA
   simp only [laws_FnExactMendLocal.j0] at H
   by_cases c48:x45_13=true
   ·subst c48
    have H1:(some false)=some r:=by rw [if_pos rfl] at H;exact H
    clear H
    have H:=H1
    clear H1
    obtain rfl:=Option.some.inj H
    go_wp2
    go_ret
    exact ⟨d2,by repeat (first|(with_reducible first|exact HB.out|apply pa|apply pb|apply pd|refine pt ?_ GE205.out|refine pt ?_ GE216.out|refine pt ?_ GE226.out)|exact HB.out)⟩
   replace c48:=Bool.eq_false_iff.mpr c48
   subst c48
   have H1:((laws_toShardS.f kj13 l1).bind fun t228=>((laws_eqShardS.f kj13 t217 t228).bind fun t231=>(if t231=true then (some true) else (some false))))=some r:=by rw [if_neg (show ¬ (false=true) by decide)] at H;exact H
   clear H
   have H:=H1
   clear H1
   replace H:=Option.bind_eq_some_iff.mp H
   obtain ⟨t228,A490,H⟩:=H
   replace H:((laws_eqShardS.f kj13 t217 t228).bind fun t231=>(if t231=true then (some true) else (some false)))=some r:=H
   have A49:=am A490
   clear A490
   replace H:=Option.bind_eq_some_iff.mp H
   obtain ⟨t231,A500,H⟩:=H
   replace H:(if t231=true then (some true) else (some false))=some r:=H
   have A50:=am A500
   clear A500
   by_cases c51:t231=true
   ·subst c51
    have H1:(some true)=some r:=by rw [if_pos rfl] at H;exact H
    clear H
    have H:=H1
    clear H1
    obtain rfl:=Option.some.inj H
    go_wp2_with (first|((with_reducible refine gate_callee (f:=26) rfl ?_);refine goesL_ (some 48) rfl rfl Try.func26 d5 rfl #[.slice A1 l1.length c1] rfl d1 ?_;(with_reducible refine (laws_toShardS.calls kj13 _ _ l1 t228 _ ?side1 ?side2 A49.out).mono ?_);(case side1=>repeat (first|exact (Kd.C_below HR1.out HB.out)|(with_reducible refine Kd.C_alloc ?_ _)|(with_reducible refine Kd.C_drewN ?_ _)|(with_reducible refine Kd.C_drew ?_)));(case side2=>exact HC1.out);rintro e w52 ⟨v229,rfl,ho0,hb⟩;refine ⟨_,rfl,?_⟩;have n0_:=am (Kd.R_elder' d9 (Kd.R_base ho0) hb);have n1_:=am (Kd.R_lower (Kd.R_newB (Kd.R_newB (Kd.R_new' ho0 (Kd.R_lt d9)) (g:=gb216) (o:=.cells #[.int .i64 t213, .string t214] 48 (0,0)) (by (with_reducible repeat (first|refine qn ?_ _|refine qd ?_|refine qa ?_ _));exact BK216.out)) (g:=gb226) (o:=.cells #[.int .i64 t223, .string t224] 48 (0,0)) (by (with_reducible repeat (first|refine qn ?_ _|refine qd ?_|refine qa ?_ _));exact BK226.out)) (pz (by repeat (first|(with_reducible first|exact HB.out|apply pa|apply pb|apply pd|refine pt ?_ GE205.out|refine pt ?_ GE216.out|refine pt ?_ GE226.out)|exact HB.out))));have n2_:=am (qb (g:=gb205) (o:=.cells #[.int .i64 a0_0, .int .i64 a0_1, .int .i64 a0_2] 44 (0,0)) (by (with_reducible repeat (first|refine qn ?_ _|refine qd ?_|refine qa ?_ _));exact BK205.out) hb);have n3_:=am (qb (g:=gb216) (o:=.cells #[.int .i64 t213, .string t214] 48 (0,0)) (by (with_reducible repeat (first|refine qn ?_ _|refine qd ?_|refine qa ?_ _));exact BK216.out) hb);have n4_:=am (qb (g:=gb226) (o:=.cells #[.int .i64 t223, .string t224] 48 (0,0)) (by (with_reducible repeat (first|refine qn ?_ _|refine qd ?_|refine qa ?_ _));exact BK226.out) hb);have n5_:=am (pu (by repeat (first|(with_reducible first|exact HB.out|apply pa|apply pb|apply pd|refine pt ?_ GE205.out|refine pt ?_ GE216.out|refine pt ?_ GE226.out)|exact HB.out)) hb);clear HO_10;clear BK205;clear BK216;clear BK226;clear HB;have HO_10:=n0_;have HO230:=n1_;have BK205:=n2_;have BK216:=n3_;have BK226:=n4_;have HB:=n5_;clear n0_ n1_ n2_ n3_ n4_ n5_;(try clear hb);(try clear hb2);(try clear hk);(try clear hi);(try clear ho0);obtain ⟨Ao53,co53,eo53⟩:=Kd.R_slice HO230.out;subst eo53)|((with_reducible refine gate_callee (f:=29) rfl ?_);refine goesL_ (some 49) rfl rfl Try.func29 d5 rfl #[.slice Ao28 t217.length co28, .slice Ao53 t228.length co53] rfl d1 ?_;(with_reducible refine (laws_eqShardS.calls kj13 _ _ t217 _ _ t228 true _ ?side1 ?side2 ?side3 ?side4 A50.out).mono ?_);(case side1=>repeat (first|exact (Kd.R_reads' HO_10.out).2.2|(with_reducible refine Kd.C_alloc ?_ _)|(with_reducible refine Kd.C_drewN ?_ _)|(with_reducible refine Kd.C_drew ?_)));(case side2=>exact (Kd.R_reads' HO_10.out).2.1);(case side3=>repeat (first|exact (Kd.R_reads' HO230.out).2.2|(with_reducible refine Kd.C_alloc ?_ _)|(with_reducible refine Kd.C_drewN ?_ _)|(with_reducible refine Kd.C_drew ?_)));(case side4=>exact (Kd.R_reads' HO230.out).2.1);rintro e w54 ⟨rfl,hb⟩;refine ⟨_,rfl,?_⟩;have n0_:=am (Kd.R_below d9 hb);have n1_:=am (Kd.R_below (by (with_reducible repeat (first|apply Kd.R_alloc|apply Kd.R_drewN|apply Kd.R_drew));exact HO230.out) hb);have n2_:=am (qb (g:=gb205) (o:=.cells #[.int .i64 a0_0, .int .i64 a0_1, .int .i64 a0_2] 44 (0,0)) (by (with_reducible repeat (first|refine qn ?_ _|refine qd ?_|refine qa ?_ _));exact BK205.out) hb);have n3_:=am (qb (g:=gb216) (o:=.cells #[.int .i64 t213, .string t214] 48 (0,0)) (by (with_reducible repeat (first|refine qn ?_ _|refine qd ?_|refine qa ?_ _));exact BK216.out) hb);have n4_:=am (qb (g:=gb226) (o:=.cells #[.int .i64 t223, .string t224] 48 (0,0)) (by (with_reducible repeat (first|refine qn ?_ _|refine qd ?_|refine qa ?_ _));exact BK226.out) hb);have n5_:=am (pu (by repeat (first|(with_reducible first|exact HB.out|apply pa|apply pb|apply pd|refine pt ?_ GE205.out|refine pt ?_ GE216.out|refine pt ?_ GE226.out)|exact HB.out)) hb);clear HO_10;clear HO230;clear BK205;clear BK216;clear BK226;clear HB;have HO_10:=n0_;have HO230:=n1_;have BK205:=n2_;have BK216:=n3_;have BK226:=n4_;have HB:=n5_;clear n0_ n1_ n2_ n3_ n4_ n5_;(try clear hb);(try clear hb2);(try clear hk);(try clear hi)))
    go_ret
    exact ⟨d2,by repeat (first|(with_reducible first|exact HB.out|apply pa|apply pb|apply pd|refine pt ?_ GE205.out|refine pt ?_ GE216.out|refine pt ?_ GE226.out)|exact HB.out)⟩
   replace c51:=Bool.eq_false_iff.mpr c51
   subst c51
   have H1:(some false)=some r:=by rw [if_neg (show ¬ (false=true) by decide)] at H;exact H
   clear H
   have H:=H1
   clear H1
   obtain rfl:=Option.some.inj H
   go_wp2_with (first|((with_reducible refine gate_callee (f:=26) rfl ?_);refine goesL_ (some 48) rfl rfl Try.func26 d5 rfl #[.slice A1 l1.length c1] rfl d1 ?_;(with_reducible refine (laws_toShardS.calls kj13 _ _ l1 t228 _ ?side1 ?side2 A49.out).mono ?_);(case side1=>repeat (first|exact (Kd.C_below HR1.out HB.out)|(with_reducible refine Kd.C_alloc ?_ _)|(with_reducible refine Kd.C_drewN ?_ _)|(with_reducible refine Kd.C_drew ?_)));(case side2=>exact HC1.out);rintro e w55 ⟨v229,rfl,ho0,hb⟩;refine ⟨_,rfl,?_⟩;have n0_:=am (Kd.R_elder' d9 (Kd.R_base ho0) hb);have n1_:=am (Kd.R_lower (Kd.R_newB (Kd.R_newB (Kd.R_new' ho0 (Kd.R_lt d9)) (g:=gb216) (o:=.cells #[.int .i64 t213, .string t214] 48 (0,0)) (by (with_reducible repeat (first|refine qn ?_ _|refine qd ?_|refine qa ?_ _));exact BK216.out)) (g:=gb226) (o:=.cells #[.int .i64 t223, .string t224] 48 (0,0)) (by (with_reducible repeat (first|refine qn ?_ _|refine qd ?_|refine qa ?_ _));exact BK226.out)) (pz (by repeat (first|(with_reducible first|exact HB.out|apply pa|apply pb|apply pd|refine pt ?_ GE205.out|refine pt ?_ GE216.out|refine pt ?_ GE226.out)|exact HB.out))));have n2_:=am (qb (g:=gb205) (o:=.cells #[.int .i64 a0_0, .int .i64 a0_1, .int .i64 a0_2] 44 (0,0)) (by (with_reducible repeat (first|refine qn ?_ _|refine qd ?_|refine qa ?_ _));exact BK205.out) hb);have n3_:=am (qb (g:=gb216) (o:=.cells #[.int .i64 t213, .string t214] 48 (0,0)) (by (with_reducible repeat (first|refine qn ?_ _|refine qd ?_|refine qa ?_ _));exact BK216.out) hb);have n4_:=am (qb (g:=gb226) (o:=.cells #[.int .i64 t223, .string t224] 48 (0,0)) (by (with_reducible repeat (first|refine qn ?_ _|refine qd ?_|refine qa ?_ _));exact BK226.out) hb);have n5_:=am (pu (by repeat (first|(with_reducible first|exact HB.out|apply pa|apply pb|apply pd|refine pt ?_ GE205.out|refine pt ?_ GE216.out|refine pt ?_ GE226.out)|exact HB.out)) hb);clear HO_10;clear BK205;clear BK216;clear BK226;clear HB;have HO_10:=n0_;have HO230:=n1_;have BK205:=n2_;have BK216:=n3_;have BK226:=n4_;have HB:=n5_;clear n0_ n1_ n2_ n3_ n4_ n5_;(try clear hb);(try clear hb2);(try clear hk);(try clear hi);(try clear ho0);obtain ⟨Ao56,co56,eo56⟩:=Kd.R_slice HO230.out;subst eo56)|((with_reducible refine gate_callee (f:=29) rfl ?_);refine goesL_ (some 49) rfl rfl Try.func29 d5 rfl #[.slice Ao28 t217.length co28, .slice Ao56 t228.length co56] rfl d1 ?_;(with_reducible refine (laws_eqShardS.calls kj13 _ _ t217 _ _ t228 false _ ?side1 ?side2 ?side3 ?side4 A50.out).mono ?_);(case side1=>repeat (first|exact (Kd.R_reads' HO_10.out).2.2|(with_reducible refine Kd.C_alloc ?_ _)|(with_reducible refine Kd.C_drewN ?_ _)|(with_reducible refine Kd.C_drew ?_)));(case side2=>exact (Kd.R_reads' HO_10.out).2.1);(case side3=>repeat (first|exact (Kd.R_reads' HO230.out).2.2|(with_reducible refine Kd.C_alloc ?_ _)|(with_reducible refine Kd.C_drewN ?_ _)|(with_reducible refine Kd.C_drew ?_)));(case side4=>exact (Kd.R_reads' HO230.out).2.1);rintro e w57 ⟨rfl,hb⟩;refine ⟨_,rfl,?_⟩;have n0_:=am (Kd.R_below d9 hb);have n1_:=am (Kd.R_below (by (with_reducible repeat (first|apply Kd.R_alloc|apply Kd.R_drewN|apply Kd.R_drew));exact HO230.out) hb);have n2_:=am (qb (g:=gb205) (o:=.cells #[.int .i64 a0_0, .int .i64 a0_1, .int .i64 a0_2] 44 (0,0)) (by (with_reducible repeat (first|refine qn ?_ _|refine qd ?_|refine qa ?_ _));exact BK205.out) hb);have n3_:=am (qb (g:=gb216) (o:=.cells #[.int .i64 t213, .string t214] 48 (0,0)) (by (with_reducible repeat (first|refine qn ?_ _|refine qd ?_|refine qa ?_ _));exact BK216.out) hb);have n4_:=am (qb (g:=gb226) (o:=.cells #[.int .i64 t223, .string t224] 48 (0,0)) (by (with_reducible repeat (first|refine qn ?_ _|refine qd ?_|refine qa ?_ _));exact BK226.out) hb);have n5_:=am (pu (by repeat (first|(with_reducible first|exact HB.out|apply pa|apply pb|apply pd|refine pt ?_ GE205.out|refine pt ?_ GE216.out|refine pt ?_ GE226.out)|exact HB.out)) hb);clear HO_10;clear HO230;clear BK205;clear BK216;clear BK226;clear HB;have HO_10:=n0_;have HO230:=n1_;have BK205:=n2_;have BK216:=n3_;have BK226:=n4_;have HB:=n5_;clear n0_ n1_ n2_ n3_ n4_ n5_;(try clear hb);(try clear hb2);(try clear hk);(try clear hi)))
   go_ret
   exact ⟨d2,by repeat (first|(with_reducible first|exact HB.out|apply pa|apply pb|apply pd|refine pt ?_ GE205.out|refine pt ?_ GE216.out|refine pt ?_ GE226.out)|exact HB.out)⟩

end Go.Proofs.Yteflgifmdojahaa.PFnExactMendLocal
-- HALVED
-- SQUEEZED
-- SQUEEZED2
-- SQUEEZED3
-- SQUEEZED4
-- SQUEEZED5
-- SQUEEZED6
