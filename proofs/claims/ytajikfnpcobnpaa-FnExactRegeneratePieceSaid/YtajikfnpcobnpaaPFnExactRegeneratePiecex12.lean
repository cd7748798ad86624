-- Laid by a program of this session.
import Derived.Test.YtajikfnpcobnpaaPFnExactRegeneratePiecex0
namespace Go.Proofs.Ytajikfnpcobnpaa.PFnExactRegeneratePiece
open Go.RowKit Go.Proofs.YtajikfnpcobnpaaW.PrintWords Go.Proofs.YtajikfnpcobnpaaW.PrintLast Go.Proofs.YtajikfnpcobnpaaW.PrintMore
attribute [local go_sem] max2_int min2_int max_two min_two max_three min_three max_four min_four   -- for this text's walks alone
set_option linter.unusedVariables false
set_option maxHeartbeats 8000000
set_option maxRecDepth 100000
set_option linter.unusedSimpArgs false

def laws_eqByteS.l0:Nat→List Int→List Int→Int→Option (Bool)
 | 0,_,_,_=>none
 | k+1,x0,x1,x5=>if x5 < (x0.length:Int) then (if 0≤x5 then (if x5 < (x1.length:Int) then (if (rd x0 x5)=(rd x1 x5) then (laws_eqByteS.l0 k x0 x1 (wrap64 (x5+1))) else (some false)) else (none)) else (none)) else (some true)
def laws_eqByteS.f (k:Nat) (l0:List Int) (l1:List Int):Option (Bool):=if (l0.length:Int)=(l1.length:Int) then (laws_eqByteS.l0 k l0 l1 0) else (some false)
theorem laws_eqByteS.mono_l:∀ k,(∀ y0 y1 y2,LeO (laws_eqByteS.l0 k y0 y1 y2) (laws_eqByteS.l0 (k+1) y0 y1 y2))
 | 0=>fun _ _ _ r h=>by simp [laws_eqByteS.l0] at h
 | k+1=>by
  have ih0:=laws_eqByteS.mono_l k
  intro y0 y1 y2
  unfold laws_eqByteS.l0
  repeat' first
  | (with_reducible exact ih0 _ _ _)
  |(with_reducible exact LeO.refl _)|(with_reducible exact LeO.none _)|(with_reducible refine LeO.ite ?_ ?_)|(with_reducible refine LeO.bind ?_ (fun _=>?_))|exact ih0 _ _ _|exact LeO.none _|refine LeO.ite ?_ ?_|refine LeO.bind ?_ (fun _=>?_)
theorem laws_eqByteS.mono:∀ a0 a1 k,LeO (laws_eqByteS.f k a0 a1) (laws_eqByteS.f (k+1) a0 a1):=by
 intro a0 a1 k
 have ih0:=laws_eqByteS.mono_l k
 unfold laws_eqByteS.f
 repeat' first
   | (with_reducible exact ih0 _ _ _)
   |(with_reducible exact LeO.refl _)|(with_reducible exact LeO.none _)|(with_reducible refine LeO.ite ?_ ?_)|(with_reducible refine LeO.bind ?_ (fun _=>?_))|exact ih0 _ _ _|exact LeO.none _|refine LeO.ite ?_ ?_|refine LeO.bind ?_ (fun _=>?_)
theorem laws_eqByteS.calls (k:Nat) (A0:Option Addr) (c0:Nat) (l0:List Int) (A1:Option Addr) (c1:Nat) (l1:List Int) (r:Bool) (w:World) (hr0:Kd.C (Kd.int .u8) w A0 l0.length l0) (hc0:l0.length≤c0) (hr1:Kd.C (Kd.int .u8) w A1 l1.length l1) (hc1:l1.length≤c1) (h:laws_eqByteS.f k l0 l1=some r) :
  Calls Try.prog 40 #[.slice A0 l0.length c0, .slice A1 l1.length c1] w fun e w'=>e = .returned (.bool r)∧Drawn0 w w':=by
 have HR0:=am hr0
 have HC0:=am hc0
 clear hr0 hc0
 have HR1:=am hr1
 have HC1:=am hc1
 clear hr1 hc1
 have H:(if (l0.length:Int)=(l1.length:Int) then (laws_eqByteS.l0 k l0 l1 0) else (some false))=some r:=h
 clear h
 by_cases c3:(l0.length:Int)=(l1.length:Int)
 ·rw [if_pos c3] at H
  have c3b0:((l0.length:Int) == (l1.length:Int))=true:=beq_iff_eq.mpr c3
  have c3b1:((l0.length:Int) != (l1.length:Int))=false:=bne_eq_false_iff_eq.mpr c3
  have c3b2:(l0.length == l1.length)=true:=by first|simpa using c3|(simp at c3 ⊢;omega)
  clear c3
  have H':=am H
  clear H
  go_enter Try.func40,Try.ntmps40
  go_wp2
  repeat (go_quiet (fail);try go_wp2)
  go_loopg [5] k (fun kq v5 w'=>∃ (x5_1:Int),v5 = .int .i64 x5_1∧Aside0 (laws_eqByteS.l0 kq l0 l1 x5_1=some r)∧Aside0 (kq≤k)∧Drawn0 w w')
  case atStart=>exact ⟨(0),d4,H',⟨Nat.le_refl _⟩,d9⟩
  case round =>
   clear H'
   try clear c1
   try clear p2
   try clear c3
   try clear c3b0
   try clear c3b1
   try clear c3b2
   obtain ⟨x5_1,rfl,HA,HK1,⟨m1,rfl⟩⟩:=hrel
   cases gk with
   | zero=>exact absurd HA.out (by simp [laws_eqByteS.l0])
   | succ k1 =>
    have H:=HA.out
    clear HA
    simp only [laws_eqByteS.l0] at H
    by_cases c4:x5_1 < (l0.length:Int)
    ·rw [if_pos c4] at H
     have c4b0:decide (x5_1 < (l0.length:Int))=true:=decide_eq_true c4
     clear c4
     by_cases c5:0≤x5_1
     ·rw [if_pos c5] at H
      have c5b0:decide (0≤x5_1)=true:=decide_eq_true c5
      clear c5
      by_cases c6:x5_1 < (l1.length:Int)
      ·rw [if_pos c6] at H
       have c6b0:decide (x5_1 < (l1.length:Int))=true:=decide_eq_true c6
       clear c6
       by_cases c7:(rd l0 x5_1)=(rd l1 x5_1)
       ·rw [if_pos c7] at H
        have c7b0:((rd l0 x5_1) == (rd l1 x5_1))=true:=beq_iff_eq.mpr c7
        have c7b1:((rd l0 x5_1) != (rd l1 x5_1))=false:=bne_eq_false_iff_eq.mpr c7
        clear c7
        have H':=am H
        clear H
        have p376:0≤(x5_1:Int):=od d2
        have q376:x5_1 < (l0.length:Int):=od d2
        obtain ⟨ad376,e376,hx376_0⟩:=Kd.at_int HR0.out x5_1 p376 q376
        cases e376
        replace p376:=eq_true p376
        replace q376:=eq_true q376
        have p377:0≤(x5_1:Int):=od d2
        have q377:x5_1 < (l1.length:Int):=od d2
        obtain ⟨ad377,e377,hx377_0⟩:=Kd.at_int HR1.out x5_1 p377 q377
        cases e377
        replace p377:=eq_true p377
        replace q377:=eq_true q377
        go_wp2
        repeat (go_quiet (fail);try go_wp2)
        go_roundg k1
        case measure=>have:=HK1.out;omega
        case rel=>exact ⟨(wrap64 (x5_1+1)),d4,H',⟨d30⟩,d9⟩
       rw [if_neg c7] at H
       have c7b0:((rd l0 x5_1) == (rd l1 x5_1))=false:=beq_eq_false_iff_ne.mpr c7
       have c7b1:((rd l0 x5_1) != (rd l1 x5_1))=true:=bne_iff_ne.mpr c7
       obtain rfl:=Option.some.inj H
       have p376:0≤(x5_1:Int):=od d2
       have q376:x5_1 < (l0.length:Int):=od d2
       obtain ⟨ad376,e376,hx376_0⟩:=Kd.at_int HR0.out x5_1 p376 q376
       cases e376
       replace p376:=eq_true p376
       replace q376:=eq_true q376
       have p377:0≤(x5_1:Int):=od d2
       have q377:x5_1 < (l1.length:Int):=od d2
       obtain ⟨ad377,e377,hx377_0⟩:=Kd.at_int HR1.out x5_1 p377 q377
       cases e377
       replace p377:=eq_true p377
       replace q377:=eq_true q377
       go_wp2
       repeat (go_quiet (fail);try go_wp2)
       go_ret
       exact ⟨d4,d9⟩
      rw [if_neg c6] at H
      exact absurd H d31
     rw [if_neg c5] at H
     exact absurd H d31
    rw [if_neg c4] at H
    have c4b0:decide (x5_1 < (l0.length:Int))=false:=decide_eq_false c4
    clear c4
    obtain rfl:=Option.some.inj H
    go_wp2
    repeat (go_quiet (fail);try go_wp2)
    go_ret
    exact ⟨d4,d9⟩
 rw [if_neg c3] at H
 have c3b0:((l0.length:Int) == (l1.length:Int))=false:=beq_eq_false_iff_ne.mpr c3
 have c3b1:((l0.length:Int) != (l1.length:Int))=true:=bne_iff_ne.mpr c3
 have c3b2:(l0.length == l1.length)=false:=by first|simpa using c3|(simp at c3 ⊢;omega)
 obtain rfl:=Option.some.inj H
 go_enter Try.func40,Try.ntmps40
 go_wp2
 repeat (go_quiet (fail);try go_wp2)
 go_ret
 exact ⟨d4,d9⟩

def laws_eqPiece.f (k:Nat) (a0_0:Int) (l0_1:List Int) (a1_0:Int) (l1_1:List Int):Option (Bool):=if a0_0=a1_0 then ((laws_eqByteS.f k l0_1 l1_1).bind fun t380=>(if t380=true then (some true) else (some false))) else (some false)
theorem laws_eqPiece.mono:∀ a0 a1 a2 a3 k,LeO (laws_eqPiece.f k a0 a1 a2 a3) (laws_eqPiece.f (k+1) a0 a1 a2 a3):=by
 intro a0 a1 a2 a3 k
 unfold laws_eqPiece.f
 repeat' first
   | (with_reducible exact laws_eqByteS.mono _ _ _)
   |(with_reducible exact LeO.refl _)|(with_reducible exact LeO.none _)|(with_reducible refine LeO.ite ?_ ?_)|(with_reducible refine LeO.bind ?_ (fun _=>?_))|exact laws_eqByteS.mono _ _ _|exact LeO.none _|refine LeO.ite ?_ ?_|refine LeO.bind ?_ (fun _=>?_)
theorem laws_eqPiece.calls (k:Nat) (a0_0:Int) (A0_1:Option Addr) (c0_1:Nat) (l0_1:List Int) (a1_0:Int) (A1_1:Option Addr) (c1_1:Nat) (l1_1:List Int) (r:Bool) (w:World) (hr0_1:Kd.C (Kd.int .u8) w A0_1 l0_1.length l0_1) (hc0_1:l0_1.length≤c0_1) (hr1_1:Kd.C (Kd.int .u8) w A1_1 l1_1.length l1_1) (hc1_1:l1_1.length≤c1_1) (h:laws_eqPiece.f k a0_0 l0_1 a1_0 l1_1=some r) :
  Calls Try.prog 48 #[.agg #[.int .i64 a0_0, .slice A0_1 l0_1.length c0_1], .agg #[.int .i64 a1_0, .slice A1_1 l1_1.length c1_1]] w fun e w'=>e = .returned (.bool r)∧Below w.heap.size w w':=by
 have hu69:=Try.underlying69
 have HR0_1:=am hr0_1
 have HC0_1:=am hc0_1
 clear hr0_1 hc0_1
 have HR1_1:=am hr1_1
 have HC1_1:=am hc1_1
 clear hr1_1 hc1_1
 have HB:=am (Below.refl w.heap.size w)
 have H:(if a0_0=a1_0 then ((laws_eqByteS.f k l0_1 l1_1).bind fun t380=>(if t380=true then (some true) else (some false))) else (some false))=some r:=h
 clear h
 by_cases c3:a0_0=a1_0
 ·rw [if_pos c3] at H
  have c3b0:(a0_0 == a1_0)=true:=beq_iff_eq.mpr c3
  have c3b1:(a0_0 != a1_0)=false:=bne_eq_false_iff_eq.mpr c3
  clear c3
  replace H:=Option.bind_eq_some_iff.mp H
  obtain ⟨t380,A40,H⟩:=H
  replace H:(if t380=true then (some true) else (some false))=some r:=H
  have A4:=am A40
  clear A40
  by_cases c5:t380=true
  ·subst c5
   have H1:(some true)=some r:=by rw [if_pos rfl] at H;exact H
   clear H
   have H:=H1
   clear H1
   obtain rfl:=Option.some.inj H
   go_enter Try.func48,Try.ntmps48
   go_wp2_with (first|((with_reducible refine gate_dst (N:=2) rfl ?_);refine box_event ?hg (N:=2) ?hd (cs:=#[.int .i64 a0_0, .slice A0_1 l0_1.length c0_1]) (t:=69) ?hr ?_;(case hd=>rfl);(case hg=>rfl);(case hr=>first|(go_simp;done)|(go_simp;rfl));intro gb378 hg w6 hbox hb;have n0_:=am (pu d0 hb);have n1_:=am (hbox);have n2_:=am ((by rw [hg];exact (pz d0):w.heap.size≤gb378));have n3_:=n2_;clear HB;have HB:=n0_;have BK378:=n1_;have GW378:=n2_;have GE378:=n3_;clear n0_ n1_ n2_ n3_;clear hb hbox hg)|((with_reducible refine gate_dst (N:=3) rfl ?_);refine box_event ?hg (N:=3) ?hd (cs:=#[.int .i64 a1_0, .slice A1_1 l1_1.length c1_1]) (t:=69) ?hr ?_;(case hd=>rfl);(case hg=>rfl);(case hr=>first|(go_simp;done)|(go_simp;rfl));intro gb379 hg w7 hbox hb;have n0_:=am (qb (g:=gb378) (o:=.cells #[.int .i64 a0_0, .slice A0_1 l0_1.length c0_1] 69 (0,0)) (by (with_reducible repeat (first|refine qn ?_ _|refine qd ?_|refine qa ?_ _));exact BK378.out) hb);have n1_:=am (pu (by repeat (first|(with_reducible first|exact HB.out|apply pa|apply pb|apply pd|refine pt ?_ GE378.out)|exact HB.out)) hb);have n2_:=am (hbox);have n3_:=am ((by rw [hg];exact (pz (by repeat (first|(with_reducible first|exact HB.out|apply pa|apply pb|apply pd|refine pt ?_ GE378.out)|exact HB.out))):w.heap.size≤gb379));have n4_:=n3_;have n5_:=am ((by rw [hg];exact Nat.ne_of_lt (blk_lt (g:=gb378) (o:=.cells #[.int .i64 a0_0, .slice A0_1 l0_1.length c0_1] 69 (0,0)) (by (with_reducible repeat (first|refine qn ?_ _|refine qd ?_|refine qa ?_ _));exact BK378.out)):gb378 ≠ gb379));have n6_:=am ((by rw [hg];exact Nat.ne_of_gt (blk_lt (g:=gb378) (o:=.cells #[.int .i64 a0_0, .slice A0_1 l0_1.length c0_1] 69 (0,0)) (by (with_reducible repeat (first|refine qn ?_ _|refine qd ?_|refine qa ?_ _));exact BK378.out)):gb379 ≠ gb378));clear BK378;clear HB;have BK378:=n0_;have HB:=n1_;have BK379:=n2_;have GW379:=n3_;have GE379:=n4_;have NB378_379:=n5_;have NB379_378:=n6_;clear n0_ n1_ n2_ n3_ n4_ n5_ n6_;clear hb hbox hg;have hnb8:=NB378_379.out;have hnc8:=NB379_378.out;have hcz9_0:w7.cell? ⟨gb378,0,none⟩=some (.int .i64 a0_0):=(blk_cell BK378.out 0).trans rfl;have hcz9_1:w7.cell? ⟨gb378,1,none⟩=some (.slice A0_1 l0_1.length c0_1):=(blk_cell BK378.out 1).trans rfl;have hfz9_0:=blk_frozen BK378.out 0;have hfz9_1:=blk_frozen BK378.out 1;have hcz10_0:w7.cell? ⟨gb379,0,none⟩=some (.int .i64 a1_0):=(blk_cell BK379.out 0).trans rfl;have hcz10_1:w7.cell? ⟨gb379,1,none⟩=some (.slice A1_1 l1_1.length c1_1):=(blk_cell BK379.out 1).trans rfl;have hfz10_0:=blk_frozen BK379.out 0;have hfz10_1:=blk_frozen BK379.out 1)|((with_reducible refine gate_callee (f:=40) rfl ?_);refine goesL_ (some 14) rfl rfl Try.func40 d3 rfl #[.slice A0_1 l0_1.length c0_1, .slice A1_1 l1_1.length c1_1] rfl d1 ?_;(with_reducible refine (laws_eqByteS.calls k _ _ l0_1 _ _ l1_1 true _ ?side1 ?side2 ?side3 ?side4 A4.out).mono ?_);(case side1=>repeat (first|exact (Kd.C_below HR0_1.out HB.out)|(with_reducible refine Kd.C_alloc ?_ _)|(with_reducible refine Kd.C_drewN ?_ _)|(with_reducible refine Kd.C_drew ?_)));(case side2=>exact HC0_1.out);(case side3=>repeat (first|exact (Kd.C_below HR1_1.out HB.out)|(with_reducible refine Kd.C_alloc ?_ _)|(with_reducible refine Kd.C_drewN ?_ _)|(with_reducible refine Kd.C_drew ?_)));(case side4=>exact HC1_1.out);rintro e w' ⟨rfl,⟨nd,rfl⟩⟩;refine ⟨_,rfl,?_⟩))
   go_ret
   exact ⟨d5,by repeat (first|(with_reducible first|exact HB.out|apply pa|apply pb|apply pd|refine pt ?_ GE378.out|refine pt ?_ GE379.out)|exact HB.out)⟩
  replace c5:=Bool.eq_false_iff.mpr c5
  subst c5
  have H1:(some false)=some r:=by rw [if_neg (show ¬ (false=true) by decide)] at H;exact H
  clear H
  have H:=H1
  clear H1
  obtain rfl:=Option.some.inj H
  go_enter Try.func48,Try.ntmps48
  go_wp2_with (first|((with_reducible refine gate_dst (N:=2) rfl ?_);refine box_event ?hg (N:=2) ?hd (cs:=#[.int .i64 a0_0, .slice A0_1 l0_1.length c0_1]) (t:=69) ?hr ?_;(case hd=>rfl);(case hg=>rfl);(case hr=>first|(go_simp;done)|(go_simp;rfl));intro gb378 hg w11 hbox hb;have n0_:=am (pu d0 hb);have n1_:=am (hbox);have n2_:=am ((by rw [hg];exact (pz d0):w.heap.size≤gb378));have n3_:=n2_;clear HB;have HB:=n0_;have BK378:=n1_;have GW378:=n2_;have GE378:=n3_;clear n0_ n1_ n2_ n3_;clear hb hbox hg)|((with_reducible refine gate_dst (N:=3) rfl ?_);refine box_event ?hg (N:=3) ?hd (cs:=#[.int .i64 a1_0, .slice A1_1 l1_1.length c1_1]) (t:=69) ?hr ?_;(case hd=>rfl);(case hg=>rfl);(case hr=>first|(go_simp;done)|(go_simp;rfl));intro gb379 hg w12 hbox hb;have n0_:=am (qb (g:=gb378) (o:=.cells #[.int .i64 a0_0, .slice A0_1 l0_1.length c0_1] 69 (0,0)) (by (with_reducible repeat (first|refine qn ?_ _|refine qd ?_|refine qa ?_ _));exact BK378.out) hb);have n1_:=am (pu (by repeat (first|(with_reducible first|exact HB.out|apply pa|apply pb|apply pd|refine pt ?_ GE378.out)|exact HB.out)) hb);have n2_:=am (hbox);have n3_:=am ((by rw [hg];exact (pz (by repeat (first|(with_reducible first|exact HB.out|apply pa|apply pb|apply pd|refine pt ?_ GE378.out)|exact HB.out))):w.heap.size≤gb379));have n4_:=n3_;have n5_:=am ((by rw [hg];exact Nat.ne_of_lt (blk_lt (g:=gb378) (o:=.cells #[.int .i64 a0_0, .slice A0_1 l0_1.length c0_1] 69 (0,0)) (by (with_reducible repeat (first|refine qn ?_ _|refine qd ?_|refine qa ?_ _));exact BK378.out)):gb378 ≠ gb379));have n6_:=am ((by rw [hg];exact Nat.ne_of_gt (blk_lt (g:=gb378) (o:=.cells #[.int .i64 a0_0, .slice A0_1 l0_1.length c0_1] 69 (0,0)) (by (with_reducible repeat (first|refine qn ?_ _|refine qd ?_|refine qa ?_ _));exact BK378.out)):gb379 ≠ gb378));clear BK378;clear HB;have BK378:=n0_;have HB:=n1_;have BK379:=n2_;have GW379:=n3_;have GE379:=n4_;have NB378_379:=n5_;have NB379_378:=n6_;clear n0_ n1_ n2_ n3_ n4_ n5_ n6_;clear hb hbox hg;have hnb13:=NB378_379.out;have hnc13:=NB379_378.out;have hcz14_0:w12.cell? ⟨gb378,0,none⟩=some (.int .i64 a0_0):=(blk_cell BK378.out 0).trans rfl;have hcz14_1:w12.cell? ⟨gb378,1,none⟩=some (.slice A0_1 l0_1.length c0_1):=(blk_cell BK378.out 1).trans rfl;have hfz14_0:=blk_frozen BK378.out 0;have hfz14_1:=blk_frozen BK378.out 1;have hcz15_0:w12.cell? ⟨gb379,0,none⟩=some (.int .i64 a1_0):=(blk_cell BK379.out 0).trans rfl;have hcz15_1:w12.cell? ⟨gb379,1,none⟩=some (.slice A1_1 l1_1.length c1_1):=(blk_cell BK379.out 1).trans rfl;have hfz15_0:=blk_frozen BK379.out 0;have hfz15_1:=blk_frozen BK379.out 1)|((with_reducible refine gate_callee (f:=40) rfl ?_);refine goesL_ (some 14) rfl rfl Try.func40 d3 rfl #[.slice A0_1 l0_1.length c0_1, .slice A1_1 l1_1.length c1_1] rfl d1 ?_;(with_reducible refine (laws_eqByteS.calls k _ _ l0_1 _ _ l1_1 false _ ?side1 ?side2 ?side3 ?side4 A4.out).mono ?_);(case side1=>repeat (first|exact (Kd.C_below HR0_1.out HB.out)|(with_reducible refine Kd.C_alloc ?_ _)|(with_reducible refine Kd.C_drewN ?_ _)|(with_reducible refine Kd.C_drew ?_)));(case side2=>exact HC0_1.out);(case side3=>repeat (first|exact (Kd.C_below HR1_1.out HB.out)|(with_reducible refine Kd.C_alloc ?_ _)|(with_reducible refine Kd.C_drewN ?_ _)|(with_reducible refine Kd.C_drew ?_)));(case side4=>exact HC1_1.out);rintro e w' ⟨rfl,⟨nd,rfl⟩⟩;refine ⟨_,rfl,?_⟩))
  go_ret
  exact ⟨d5,by repeat (first|(with_reducible first|exact HB.out|apply pa|apply pb|apply pd|refine pt ?_ GE378.out|refine pt ?_ GE379.out)|exact HB.out)⟩
 rw [if_neg c3] at H
 have c3b0:(a0_0 == a1_0)=false:=beq_eq_false_iff_ne.mpr c3
 have c3b1:(a0_0 != a1_0)=true:=bne_iff_ne.mpr c3
 obtain rfl:=Option.some.inj H
 go_enter Try.func48,Try.ntmps48
 go_wp2_with (first|((with_reducible refine gate_dst (N:=2) rfl ?_);refine box_event ?hg (N:=2) ?hd (cs:=#[.int .i64 a0_0, .slice A0_1 l0_1.length c0_1]) (t:=69) ?hr ?_;(case hd=>rfl);(case hg=>rfl);(case hr=>first|(go_simp;done)|(go_simp;rfl));intro gb378 hg w16 hbox hb;have n0_:=am (pu d0 hb);have n1_:=am (hbox);have n2_:=am ((by rw [hg];exact (pz d0):w.heap.size≤gb378));have n3_:=n2_;clear HB;have HB:=n0_;have BK378:=n1_;have GW378:=n2_;have GE378:=n3_;clear n0_ n1_ n2_ n3_;clear hb hbox hg)|((with_reducible refine gate_dst (N:=3) rfl ?_);refine box_event ?hg (N:=3) ?hd (cs:=#[.int .i64 a1_0, .slice A1_1 l1_1.length c1_1]) (t:=69) ?hr ?_;(case hd=>rfl);(case hg=>rfl);(case hr=>first|(go_simp;done)|(go_simp;rfl));intro gb379 hg w17 hbox hb;have n0_:=am (qb (g:=gb378) (o:=.cells #[.int .i64 a0_0, .slice A0_1 l0_1.length c0_1] 69 (0,0)) (by (with_reducible repeat (first|refine qn ?_ _|refine qd ?_|refine qa ?_ _));exact BK378.out) hb);have n1_:=am (pu (by repeat (first|(with_reducible first|exact HB.out|apply pa|apply pb|apply pd|refine pt ?_ GE378.out)|exact HB.out)) hb);have n2_:=am (hbox);have n3_:=am ((by rw [hg];exact (pz (by repeat (first|(with_reducible first|exact HB.out|apply pa|apply pb|apply pd|refine pt ?_ GE378.out)|exact HB.out))):w.heap.size≤gb379));have n4_:=n3_;have n5_:=am ((by rw [hg];exact Nat.ne_of_lt (blk_lt (g:=gb378) (o:=.cells #[.int .i64 a0_0, .slice A0_1 l0_1.length c0_1] 69 (0,0)) (by (with_reducible repeat (first|refine qn ?_ _|refine qd ?_|refine qa ?_ _));exact BK378.out)):gb378 ≠ gb379));have n6_:=am ((by rw [hg];exact Nat.ne_of_gt (blk_lt (g:=gb378) (o:=.cells #[.int .i64 a0_0, .slice A0_1 l0_1.length c0_1] 69 (0,0)) (by (with_reducible repeat (first|refine qn ?_ _|refine qd ?_|refine qa ?_ _));exact BK378.out)):gb379 ≠ gb378));clear BK378;clear HB;have BK378:=n0_;have HB:=n1_;have BK379:=n2_;have GW379:=n3_;have GE379:=n4_;have NB378_379:=n5_;have NB379_378:=n6_;clear n0_ n1_ n2_ n3_ n4_ n5_ n6_;clear hb hbox hg;have hnb18:=NB378_379.out;have hnc18:=NB379_378.out;have hcz19_0:w17.cell? ⟨gb378,0,none⟩=some (.int .i64 a0_0):=(blk_cell BK378.out 0).trans rfl;have hcz19_1:w17.cell? ⟨gb378,1,none⟩=some (.slice A0_1 l0_1.length c0_1):=(blk_cell BK378.out 1).trans rfl;have hfz19_0:=blk_frozen BK378.out 0;have hfz19_1:=blk_frozen BK378.out 1;have hcz20_0:w17.cell? ⟨gb379,0,none⟩=some (.int .i64 a1_0):=(blk_cell BK379.out 0).trans rfl;have hcz20_1:w17.cell? ⟨gb379,1,none⟩=some (.slice A1_1 l1_1.length c1_1):=(blk_cell BK379.out 1).trans rfl;have hfz20_0:=blk_frozen BK379.out 0;have hfz20_1:=blk_frozen BK379.out 1))
 go_ret
 exact ⟨d5,by repeat (first|(with_reducible first|exact HB.out|apply pa|apply pb|apply pd|refine pt ?_ GE378.out|refine pt ?_ GE379.out)|exact HB.out)⟩

def laws_eqHelp.f (a0_0:Int) (a0_1:Int) (a1_0:Int) (a1_1:Int):Option (Bool):=if a0_0=a1_0 then (if a0_1=a1_1 then (some true) else (some false)) else (some false)
theorem laws_eqHelp.calls (a0_0:Int) (a0_1:Int) (a1_0:Int) (a1_1:Int) (r:Bool) (w:World) (h:laws_eqHelp.f a0_0 a0_1 a1_0 a1_1=some r) :
  Calls Try.prog 133 #[.agg #[.int .i64 a0_0, .int .u8 a0_1], .agg #[.int .i64 a1_0, .int .u8 a1_1]] w fun e w'=>e = .returned (.bool r)∧Below w.heap.size w w':=by
 have hu147:=Try.underlying147
 have HB:=am (Below.refl w.heap.size w)
 have H:(if a0_0=a1_0 then (if a0_1=a1_1 then (some true) else (some false)) else (some false))=some r:=h
 clear h
 by_cases c3:a0_0=a1_0
 ·rw [if_pos c3] at H
  have c3b0:(a0_0 == a1_0)=true:=beq_iff_eq.mpr c3
  have c3b1:(a0_0 != a1_0)=false:=bne_eq_false_iff_eq.mpr c3
  clear c3
  by_cases c4:a0_1=a1_1
  ·rw [if_pos c4] at H
   have c4b0:(a0_1 == a1_1)=true:=beq_iff_eq.mpr c4
   have c4b1:(a0_1 != a1_1)=false:=bne_eq_false_iff_eq.mpr c4
   clear c4
   obtain rfl:=Option.some.inj H
   go_enter Try.func133,Try.ntmps133
   go_wp2_with (first|((with_reducible refine gate_dst (N:=2) rfl ?_);refine box_event ?hg (N:=2) ?hd (cs:=#[.int .i64 a0_0, .int .u8 a0_1]) (t:=147) ?hr ?_;(case hd=>rfl);(case hg=>rfl);(case hr=>first|(go_simp;done)|(go_simp;rfl));intro gb381 hg w5 hbox hb;have n0_:=am (pu d0 hb);have n1_:=am (hbox);have n2_:=am ((by rw [hg];exact (pz d0):w.heap.size≤gb381));have n3_:=n2_;clear HB;have HB:=n0_;have BK381:=n1_;have GW381:=n2_;have GE381:=n3_;clear n0_ n1_ n2_ n3_;clear hb hbox hg)|((with_reducible refine gate_dst (N:=3) rfl ?_);refine box_event ?hg (N:=3) ?hd (cs:=#[.int .i64 a1_0, .int .u8 a1_1]) (t:=147) ?hr ?_;(case hd=>rfl);(case hg=>rfl);(case hr=>first|(go_simp;done)|(go_simp;rfl));intro gb382 hg w6 hbox hb;have n0_:=am (qb (g:=gb381) (o:=.cells #[.int .i64 a0_0, .int .u8 a0_1] 147 (0,0)) (by (with_reducible repeat (first|refine qn ?_ _|refine qd ?_|refine qa ?_ _));exact BK381.out) hb);have n1_:=am (pu (by repeat (first|(with_reducible first|exact HB.out|apply pa|apply pb|apply pd|refine pt ?_ GE381.out)|exact HB.out)) hb);have n2_:=am (hbox);have n3_:=am ((by rw [hg];exact (pz (by repeat (first|(with_reducible first|exact HB.out|apply pa|apply pb|apply pd|refine pt ?_ GE381.out)|exact HB.out))):w.heap.size≤gb382));have n4_:=n3_;have n5_:=am ((by rw [hg];exact Nat.ne_of_lt (blk_lt (g:=gb381) (o:=.cells #[.int .i64 a0_0, .int .u8 a0_1] 147 (0,0)) (by (with_reducible repeat (first|refine qn ?_ _|refine qd ?_|refine qa ?_ _));exact BK381.out)):gb381 ≠ gb382));have n6_:=am ((by rw [hg];exact Nat.ne_of_gt (blk_lt (g:=gb381) (o:=.cells #[.int .i64 a0_0, .int .u8 a0_1] 147 (0,0)) (by (with_reducible repeat (first|refine qn ?_ _|refine qd ?_|refine qa ?_ _));exact BK381.out)):gb382 ≠ gb381));clear BK381;clear HB;have BK381:=n0_;have HB:=n1_;have BK382:=n2_;have GW382:=n3_;have GE382:=n4_;have NB381_382:=n5_;have NB382_381:=n6_;clear n0_ n1_ n2_ n3_ n4_ n5_ n6_;clear hb hbox hg;have hnb7:=NB381_382.out;have hnc7:=NB382_381.out;have hcz8_0:w6.cell? ⟨gb381,0,none⟩=some (.int .i64 a0_0):=(blk_cell BK381.out 0).trans rfl;have hcz8_1:w6.cell? ⟨gb381,1,none⟩=some (.int .u8 a0_1):=(blk_cell BK381.out 1).trans rfl;have hfz8_0:=blk_frozen BK381.out 0;have hfz8_1:=blk_frozen BK381.out 1;have hcz9_0:w6.cell? ⟨gb382,0,none⟩=some (.int .i64 a1_0):=(blk_cell BK382.out 0).trans rfl;have hcz9_1:w6.cell? ⟨gb382,1,none⟩=some (.int .u8 a1_1):=(blk_cell BK382.out 1).trans rfl;have hfz9_0:=blk_frozen BK382.out 0;have hfz9_1:=blk_frozen BK382.out 1))
   go_ret
   exact ⟨d5,by repeat (first|(with_reducible first|exact HB.out|apply pa|apply pb|apply pd|refine pt ?_ GE381.out|refine pt ?_ GE382.out)|exact HB.out)⟩
  rw [if_neg c4] at H
  have c4b0:(a0_1 == a1_1)=false:=beq_eq_false_iff_ne.mpr c4
  have c4b1:(a0_1 != a1_1)=true:=bne_iff_ne.mpr c4
  obtain rfl:=Option.some.inj H
  go_enter Try.func133,Try.ntmps133
  go_wp2_with (first|((with_reducible refine gate_dst (N:=2) rfl ?_);refine box_event ?hg (N:=2) ?hd (cs:=#[.int .i64 a0_0, .int .u8 a0_1]) (t:=147) ?hr ?_;(case hd=>rfl);(case hg=>rfl);(case hr=>first|(go_simp;done)|(go_simp;rfl));intro gb381 hg w10 hbox hb;have n0_:=am (pu d0 hb);have n1_:=am (hbox);have n2_:=am ((by rw [hg];exact (pz d0):w.heap.size≤gb381));have n3_:=n2_;clear HB;have HB:=n0_;have BK381:=n1_;have GW381:=n2_;have GE381:=n3_;clear n0_ n1_ n2_ n3_;clear hb hbox hg)|((with_reducible refine gate_dst (N:=3) rfl ?_);refine box_event ?hg (N:=3) ?hd (cs:=#[.int .i64 a1_0, .int .u8 a1_1]) (t:=147) ?hr ?_;(case hd=>rfl);(case hg=>rfl);(case hr=>first|(go_simp;done)|(go_simp;rfl));intro gb382 hg w11 hbox hb;have n0_:=am (qb (g:=gb381) (o:=.cells #[.int .i64 a0_0, .int .u8 a0_1] 147 (0,0)) (by (with_reducible repeat (first|refine qn ?_ _|refine qd ?_|refine qa ?_ _));exact BK381.out) hb);have n1_:=am (pu (by repeat (first|(with_reducible first|exact HB.out|apply pa|apply pb|apply pd|refine pt ?_ GE381.out)|exact HB.out)) hb);have n2_:=am (hbox);have n3_:=am ((by rw [hg];exact (pz (by repeat (first|(with_reducible first|exact HB.out|apply pa|apply pb|apply pd|refine pt ?_ GE381.out)|exact HB.out))):w.heap.size≤gb382));have n4_:=n3_;have n5_:=am ((by rw [hg];exact Nat.ne_of_lt (blk_lt (g:=gb381) (o:=.cells #[.int .i64 a0_0, .int .u8 a0_1] 147 (0,0)) (by (with_reducible repeat (first|refine qn ?_ _|refine qd ?_|refine qa ?_ _));exact BK381.out)):gb381 ≠ gb382));have n6_:=am ((by rw [hg];exact Nat.ne_of_gt (blk_lt (g:=gb381) (o:=.cells #[.int .i64 a0_0, .int .u8 a0_1] 147 (0,0)) (by (with_reducible repeat (first|refine qn ?_ _|refine qd ?_|refine qa ?_ _));exact BK381.out)):gb382 ≠ gb381));clear BK381;clear HB;have BK381:=n0_;have HB:=n1_;have BK382:=n2_;have GW382:=n3_;have GE382:=n4_;have NB381_382:=n5_;have NB382_381:=n6_;clear n0_ n1_ n2_ n3_ n4_ n5_ n6_;clear hb hbox hg;have hnb12:=NB381_382.out;have hnc12:=NB382_381.out;have hcz13_0:w11.cell? ⟨gb381,0,none⟩=some (.int .i64 a0_0):=(blk_cell BK381.out 0).trans rfl;have hcz13_1:w11.cell? ⟨gb381,1,none⟩=some (.int .u8 a0_1):=(blk_cell BK381.out 1).trans rfl;have hfz13_0:=blk_frozen BK381.out 0;have hfz13_1:=blk_frozen BK381.out 1;have hcz14_0:w11.cell? ⟨gb382,0,none⟩=some (.int .i64 a1_0):=(blk_cell BK382.out 0).trans rfl;have hcz14_1:w11.cell? ⟨gb382,1,none⟩=some (.int .u8 a1_1):=(blk_cell BK382.out 1).trans rfl;have hfz14_0:=blk_frozen BK382.out 0;have hfz14_1:=blk_frozen BK382.out 1))
  go_ret
  exact ⟨d5,by repeat (first|(with_reducible first|exact HB.out|apply pa|apply pb|apply pd|refine pt ?_ GE381.out|refine pt ?_ GE382.out)|exact HB.out)⟩
 rw [if_neg c3] at H
 have c3b0:(a0_0 == a1_0)=false:=beq_eq_false_iff_ne.mpr c3
 have c3b1:(a0_0 != a1_0)=true:=bne_iff_ne.mpr c3
 obtain rfl:=Option.some.inj H
 go_enter Try.func133,Try.ntmps133
 go_wp2_with (first|((with_reducible refine gate_dst (N:=2) rfl ?_);refine box_event ?hg (N:=2) ?hd (cs:=#[.int .i64 a0_0, .int .u8 a0_1]) (t:=147) ?hr ?_;(case hd=>rfl);(case hg=>rfl);(case hr=>first|(go_simp;done)|(go_simp;rfl));intro gb381 hg w15 hbox hb;have n0_:=am (pu d0 hb);have n1_:=am (hbox);have n2_:=am ((by rw [hg];exact (pz d0):w.heap.size≤gb381));have n3_:=n2_;clear HB;have HB:=n0_;have BK381:=n1_;have GW381:=n2_;have GE381:=n3_;clear n0_ n1_ n2_ n3_;clear hb hbox hg)|((with_reducible refine gate_dst (N:=3) rfl ?_);refine box_event ?hg (N:=3) ?hd (cs:=#[.int .i64 a1_0, .int .u8 a1_1]) (t:=147) ?hr ?_;(case hd=>rfl);(case hg=>rfl);(case hr=>first|(go_simp;done)|(go_simp;rfl));intro gb382 hg w16 hbox hb;have n0_:=am (qb (g:=gb381) (o:=.cells #[.int .i64 a0_0, .int .u8 a0_1] 147 (0,0)) (by (with_reducible repeat (first|refine qn ?_ _|refine qd ?_|refine qa ?_ _));exact BK381.out) hb);have n1_:=am (pu (by repeat (first|(with_reducible first|exact HB.out|apply pa|apply pb|apply pd|refine pt ?_ GE381.out)|exact HB.out)) hb);have n2_:=am (hbox);have n3_:=am ((by rw [hg];exact (pz (by repeat (first|(with_reducible first|exact HB.out|apply pa|apply pb|apply pd|refine pt ?_ GE381.out)|exact HB.out))):w.heap.size≤gb382));have n4_:=n3_;have n5_:=am ((by rw [hg];exact Nat.ne_of_lt (blk_lt (g:=gb381) (o:=.cells #[.int .i64 a0_0, .int .u8 a0_1] 147 (0,0)) (by (with_reducible repeat (first|refine qn ?_ _|refine qd ?_|refine qa ?_ _));exact BK381.out)):gb381 ≠ gb382));have n6_:=am ((by rw [hg];exact Nat.ne_of_gt (blk_lt (g:=gb381) (o:=.cells #[.int .i64 a0_0, .int .u8 a0_1] 147 (0,0)) (by (with_reducible repeat (first|refine qn ?_ _|refine qd ?_|refine qa ?_ _));exact BK381.out)):gb382 ≠ gb381));clear BK381;clear HB;have BK381:=n0_;have HB:=n1_;have BK382:=n2_;have GW382:=n3_;have GE382:=n4_;have NB381_382:=n5_;have NB382_381:=n6_;clear n0_ n1_ n2_ n3_ n4_ n5_ n6_;clear hb hbox hg;have hnb17:=NB381_382.out;have hnc17:=NB382_381.out;have hcz18_0:w16.cell? ⟨gb381,0,none⟩=some (.int .i64 a0_0):=(blk_cell BK381.out 0).trans rfl;have hcz18_1:w16.cell? ⟨gb381,1,none⟩=some (.int .u8 a0_1):=(blk_cell BK381.out 1).trans rfl;have hfz18_0:=blk_frozen BK381.out 0;have hfz18_1:=blk_frozen BK381.out 1;have hcz19_0:w16.cell? ⟨gb382,0,none⟩=some (.int .i64 a1_0):=(blk_cell BK382.out 0).trans rfl;have hcz19_1:w16.cell? ⟨gb382,1,none⟩=some (.int .u8 a1_1):=(blk_cell BK382.out 1).trans rfl;have hfz19_0:=blk_frozen BK382.out 0;have hfz19_1:=blk_frozen BK382.out 1))
 go_ret
 exact ⟨d5,by repeat (first|(with_reducible first|exact HB.out|apply pa|apply pb|apply pd|refine pt ?_ GE381.out|refine pt ?_ GE382.out)|exact HB.out)⟩

def laws_eqHelpS.l0:Nat→List (S147)→List (S147)→Int→Option (Bool)
 | 0,_,_,_=>none
 | k+1,x0,x1,x5=>if x5 < (x0.length:Int) then (if 0≤x5 then (if x5 < (x1.length:Int) then ((laws_eqHelp.f ((rd_T147 x0 x5).f0) ((rd_T147 x0 x5).f1) ((rd_T147 x1 x5).f0) ((rd_T147 x1 x5).f1)).bind fun t385=>(if t385=true then (laws_eqHelpS.l0 k x0 x1 (wrap64 (x5+1))) else (some false))) else (none)) else (none)) else (some true)
def laws_eqHelpS.f (k:Nat) (l0:List (S147)) (l1:List (S147)):Option (Bool):=if (l0.length:Int)=(l1.length:Int) then (laws_eqHelpS.l0 k l0 l1 0) else (some false)
theorem laws_eqHelpS.mono_l:∀ k,(∀ y0 y1 y2,LeO (laws_eqHelpS.l0 k y0 y1 y2) (laws_eqHelpS.l0 (k+1) y0 y1 y2))
 | 0=>fun _ _ _ r h=>by simp [laws_eqHelpS.l0] at h
 | k+1=>by
  have ih0:=laws_eqHelpS.mono_l k
  intro y0 y1 y2
  unfold laws_eqHelpS.l0
  repeat' first
  | (with_reducible exact ih0 _ _ _)
  |(with_reducible exact LeO.refl _)|(with_reducible exact LeO.none _)|(with_reducible refine LeO.ite ?_ ?_)|(with_reducible refine LeO.bind ?_ (fun _=>?_))|exact ih0 _ _ _|exact LeO.none _|refine LeO.ite ?_ ?_|refine LeO.bind ?_ (fun _=>?_)
theorem laws_eqHelpS.mono:∀ a0 a1 k,LeO (laws_eqHelpS.f k a0 a1) (laws_eqHelpS.f (k+1) a0 a1):=by
 intro a0 a1 k
 have ih0:=laws_eqHelpS.mono_l k
 unfold laws_eqHelpS.f
 repeat' first
   | (with_reducible exact ih0 _ _ _)
   |(with_reducible exact LeO.refl _)|(with_reducible exact LeO.none _)|(with_reducible refine LeO.ite ?_ ?_)|(with_reducible refine LeO.bind ?_ (fun _=>?_))|exact ih0 _ _ _|exact LeO.none _|refine LeO.ite ?_ ?_|refine LeO.bind ?_ (fun _=>?_)
def laws_eqHelpS.T6:Bool × List (List Nat × List Nat):=(true,[([],[]),([],[]),([0,1],[0,1]),([2],[2]),([],[]),([],[]),([4,5],[4,5]),([6],[6]),([3,7],[3,7]),([8],[8])])
def laws_eqHelpS.B6:List Nat:=[0,0,3,7,0,0,48,112,255,511]
theorem laws_eqHelpS.tab6:rtab .any (opsOf Try.f49 6)=laws_eqHelpS.T6:=by kernel_rfl
theorem laws_eqHelpS.bits6:waitsOk laws_eqHelpS.T6.2 laws_eqHelpS.B6=true:=by kernel_rfl
theorem laws_eqHelpS.calls (k:Nat) (A0:Option Addr) (c0:Nat) (l0:List (S147)) (A1:Option Addr) (c1:Nat) (l1:List (S147)) (r:Bool) (w:World) (hr0:Kd.C k147 w A0 l0.length l0) (hc0:l0.length≤c0) (hr1:Kd.C k147 w A1 l1.length l1) (hc1:l1.length≤c1) (h:laws_eqHelpS.f k l0 l1=some r) :
  Calls Try.prog 49 #[.slice A0 l0.length c0, .slice A1 l1.length c1] w fun e w'=>e = .returned (.bool r)∧Below w.heap.size w w':=by
 have hu147:=Try.underlying147
 have HR0:=am hr0
 have HC0:=am hc0
 clear hr0 hc0
 have HR1:=am hr1
 have HC1:=am hc1
 clear hr1 hc1
 have HB:=am (Below.refl w.heap.size w)
 have H:(if (l0.length:Int)=(l1.length:Int) then (laws_eqHelpS.l0 k l0 l1 0) else (some false))=some r:=h
 clear h
 by_cases c3:(l0.length:Int)=(l1.length:Int)
 ·rw [if_pos c3] at H
  have c3b0:((l0.length:Int) == (l1.length:Int))=true:=beq_iff_eq.mpr c3
  have c3b1:((l0.length:Int) != (l1.length:Int))=false:=bne_eq_false_iff_eq.mpr c3
  have c3b2:(l0.length == l1.length)=true:=by first|simpa using c3|(simp at c3 ⊢;omega)
  clear c3
  have H':=am H
  clear H
  go_enter Try.func49,Try.ntmps49
  go_wp2
  go_loopg [5] k (fun kq v5 w'=>∃ (x5_1:Int),v5 = .int .i64 x5_1∧Aside0 (laws_eqHelpS.l0 kq l0 l1 x5_1=some r)∧Aside0 (kq≤k)∧Aside0 (Below w.heap.size w w'))
  case atStart=>exact ⟨(0),d4,H',⟨Nat.le_refl _⟩,⟨d0⟩⟩
  case round =>
   clear H'
   try clear c1
   try clear p2
   try clear c3
   try clear c3b0
   try clear c3b1
   try clear c3b2
   obtain ⟨x5_1,rfl,HA,HK1,HB⟩:=hrel
   cases gk with
   | zero=>exact absurd HA.out (by simp [laws_eqHelpS.l0])
   | succ k1 =>
    have H:=HA.out
    clear HA
    simp only [laws_eqHelpS.l0] at H
    by_cases c4:x5_1 < (l0.length:Int)
    ·rw [if_pos c4] at H
     have c4b0:decide (x5_1 < (l0.length:Int))=true:=decide_eq_true c4
     clear c4
     by_cases c5:0≤x5_1
     ·rw [if_pos c5] at H
      have c5b0:decide (0≤x5_1)=true:=decide_eq_true c5
      clear c5
      by_cases c6:x5_1 < (l1.length:Int)
      ·rw [if_pos c6] at H
       have c6b0:decide (x5_1 < (l1.length:Int))=true:=decide_eq_true c6
       clear c6
       replace H:=Option.bind_eq_some_iff.mp H
       obtain ⟨t385,A70,H⟩:=H
       replace H:(if t385=true then (laws_eqHelpS.l0 k1 l0 l1 (wrap64 (x5_1+1))) else (some false))=some r:=H
       have A7:=am A70
       clear A70
       by_cases c8:t385=true
       ·subst c8
        have H1:(laws_eqHelpS.l0 k1 l0 l1 (wrap64 (x5_1+1)))=some r:=by rw [if_pos rfl] at H;exact H
        clear H
        have H:=H1
        clear H1
        have H':=am H
        clear H
        try go_wp2
        have n0_:=am (pd HB.out)
        clear HB
        have HB:=n0_
        clear n0_
        have p383:0≤(x5_1:Int):=od d2
        have q383:x5_1 < (l0.length:Int):=od d2
        obtain ⟨ad383,e383,hx383_0,hx383_1⟩:=at_T147 HR0.out x5_1 p383 q383
        have hw383_1:=hx383_1
        have hw383_0:=hx383_0
        cases e383
        replace hx383_0:=(HB.out.cell (World.block_lt_of_cell? w _ hx383_0)).trans hx383_0
        replace hx383_1:=(HB.out.cell (World.block_lt_of_cell? w _ hx383_1)).trans hx383_1
        replace p383:=eq_true p383
        replace q383:=eq_true q383
        have p384:0≤(x5_1:Int):=od d2
        have q384:x5_1 < (l1.length:Int):=od d2
        obtain ⟨ad384,e384,hx384_0,hx384_1⟩:=at_T147 HR1.out x5_1 p384 q384
        have hw384_1:=hx384_1
        have hw384_0:=hx384_0
        cases e384
        replace hx384_0:=(HB.out.cell (World.block_lt_of_cell? w _ hx384_0)).trans hx384_0
        replace hx384_1:=(HB.out.cell (World.block_lt_of_cell? w _ hx384_1)).trans hx384_1
        replace p384:=eq_true p384
        replace q384:=eq_true q384
        refine rS (n:=10) (S:=fun w'=>w'.cell? (ad383.add ((x5_1).toNat*2))=some (.int .i64 ((rd_T147 l0 x5_1).f0))∧w'.cell? ⟨(ad383.add ((x5_1).toNat*2)).block,(ad383.add ((x5_1).toNat*2)).off+1,none⟩=some (.int .u8 ((rd_T147 l0 x5_1).f1))∧w'.cell? (ad384.add ((x5_1).toNat*2))=some (.int .i64 ((rd_T147 l1 x5_1).f0))∧w'.cell? ⟨(ad384.add ((x5_1).toNat*2)).block,(ad384.add ((x5_1).toNat*2)).off+1,none⟩=some (.int .u8 ((rd_T147 l1 x5_1).f1))) (ds:=[]) [(0,17),(1,18),(2,19),(4,21),(5,22),(6,23),(3,20),(7,24),(8,0),(9,26)] d3 rfl laws_eqHelpS.tab6 laws_eqHelpS.bits6 ⟨((HB.out.cell (World.block_lt_of_cell? w _ hw383_0)).trans hw383_0),((HB.out.cell (World.block_lt_of_cell? w _ hw383_1)).trans hw383_1),((HB.out.cell (World.block_lt_of_cell? w _ hw384_0)).trans hw384_0),((HB.out.cell (World.block_lt_of_cell? w _ hw384_1)).trans hw384_1)⟩ (fun hHeld HT_ HW_=>?_)
        generalize wr.drew=w9 at HB hx383_0 hx383_1 hx384_0 hx384_1 hHeld ⊢
        refine rR ?_
        refine rO (N:=some 25) HT_ rfl rfl d3 d8 (fun K hK=>?_)
        refine goes_ Try.func133 d3 rfl #[.agg #[.int .i64 ((rd_T147 l0 x5_1).f0), .int .u8 ((rd_T147 l0 x5_1).f1)], .agg #[.int .i64 ((rd_T147 l1 x5_1).f0), .int .u8 ((rd_T147 l1 x5_1).f1)]] d20 rfl rfl d1 ?_
        with_reducible refine (laws_eqHelp.calls ((rd_T147 l0 x5_1).f0) ((rd_T147 l0 x5_1).f1) ((rd_T147 l1 x5_1).f0) ((rd_T147 l1 x5_1).f1) true _ A7.out).mono ?_
        rintro e w10 ⟨rfl,hb⟩
        refine ⟨_,rfl,?_⟩
        have n0_:=am (pu d0 hb)
        clear HB
        have HB:=n0_
        clear n0_
        (try clear hb)
        (try clear hb2)
        (try clear hk)
        (try clear hi)
        refine hK.out _ _ ⟨((HB.out.cell (World.block_lt_of_cell? w _ hw383_0)).trans hw383_0),((HB.out.cell (World.block_lt_of_cell? w _ hw383_1)).trans hw383_1),((HB.out.cell (World.block_lt_of_cell? w _ hw384_0)).trans hw384_0),((HB.out.cell (World.block_lt_of_cell? w _ hw384_1)).trans hw384_1)⟩ (fun hHeld=>?_)
        clear hK K
        refine rN (a':=?_) ?_ ?_
        rotate_left
        ·show Act.put _ (some 25) _=_
         simp only [Act.put,q1,q2,q3,i64_w,i32_w]
         rfl
        refine rR ?_
        refine rD HT_ d3 ?_
        try go_wp2
        go_roundg k1
        case measure=>have:=HK1.out;omega
        case rel=>exact ⟨(wrap64 (x5_1+1)),d4,H',⟨d30⟩,⟨d0⟩⟩
       replace c8:=Bool.eq_false_iff.mpr c8
       subst c8
       have H1:(some false)=some r:=by rw [if_neg (show ¬ (false=true) by decide)] at H;exact H
       clear H
       have H:=H1
       clear H1
       obtain rfl:=Option.some.inj H
       try go_wp2
       have n0_:=am (pd HB.out)
       clear HB
       have HB:=n0_
       clear n0_
       have p383:0≤(x5_1:Int):=od d2
       have q383:x5_1 < (l0.length:Int):=od d2
       obtain ⟨ad383,e383,hx383_0,hx383_1⟩:=at_T147 HR0.out x5_1 p383 q383
       have hw383_1:=hx383_1
       have hw383_0:=hx383_0
       cases e383
       replace hx383_0:=(HB.out.cell (World.block_lt_of_cell? w _ hx383_0)).trans hx383_0
       replace hx383_1:=(HB.out.cell (World.block_lt_of_cell? w _ hx383_1)).trans hx383_1
       replace p383:=eq_true p383
       replace q383:=eq_true q383
       have p384:0≤(x5_1:Int):=od d2
       have q384:x5_1 < (l1.length:Int):=od d2
       obtain ⟨ad384,e384,hx384_0,hx384_1⟩:=at_T147 HR1.out x5_1 p384 q384
       have hw384_1:=hx384_1
       have hw384_0:=hx384_0
       cases e384
       replace hx384_0:=(HB.out.cell (World.block_lt_of_cell? w _ hx384_0)).trans hx384_0
       replace hx384_1:=(HB.out.cell (World.block_lt_of_cell? w _ hx384_1)).trans hx384_1
       replace p384:=eq_true p384
       replace q384:=eq_true q384
       refine rS (n:=10) (S:=fun w'=>w'.cell? (ad383.add ((x5_1).toNat*2))=some (.int .i64 ((rd_T147 l0 x5_1).f0))∧w'.cell? ⟨(ad383.add ((x5_1).toNat*2)).block,(ad383.add ((x5_1).toNat*2)).off+1,none⟩=some (.int .u8 ((rd_T147 l0 x5_1).f1))∧w'.cell? (ad384.add ((x5_1).toNat*2))=some (.int .i64 ((rd_T147 l1 x5_1).f0))∧w'.cell? ⟨(ad384.add ((x5_1).toNat*2)).block,(ad384.add ((x5_1).toNat*2)).off+1,none⟩=some (.int .u8 ((rd_T147 l1 x5_1).f1))) (ds:=[]) [(0,17),(1,18),(2,19),(4,21),(5,22),(6,23),(3,20),(7,24),(8,0),(9,26)] d3 rfl laws_eqHelpS.tab6 laws_eqHelpS.bits6 ⟨((HB.out.cell (World.block_lt_of_cell? w _ hw383_0)).trans hw383_0),((HB.out.cell (World.block_lt_of_cell? w _ hw383_1)).trans hw383_1),((HB.out.cell (World.block_lt_of_cell? w _ hw384_0)).trans hw384_0),((HB.out.cell (World.block_lt_of_cell? w _ hw384_1)).trans hw384_1)⟩ (fun hHeld HT_ HW_=>?_)
       generalize wr.drew=w11 at HB hx383_0 hx383_1 hx384_0 hx384_1 hHeld ⊢
       refine rR ?_
       refine rO (N:=some 25) HT_ rfl rfl d3 d8 (fun K hK=>?_)
       refine goes_ Try.func133 d3 rfl #[.agg #[.int .i64 ((rd_T147 l0 x5_1).f0), .int .u8 ((rd_T147 l0 x5_1).f1)], .agg #[.int .i64 ((rd_T147 l1 x5_1).f0), .int .u8 ((rd_T147 l1 x5_1).f1)]] d20 rfl rfl d1 ?_
       with_reducible refine (laws_eqHelp.calls ((rd_T147 l0 x5_1).f0) ((rd_T147 l0 x5_1).f1) ((rd_T147 l1 x5_1).f0) ((rd_T147 l1 x5_1).f1) false _ A7.out).mono ?_
       rintro e w12 ⟨rfl,hb⟩
       refine ⟨_,rfl,?_⟩
       have n0_:=am (pu d0 hb)
       clear HB
       have HB:=n0_
       clear n0_
       (try clear hb)
       (try clear hb2)
       (try clear hk)
       (try clear hi)
       refine hK.out _ _ ⟨((HB.out.cell (World.block_lt_of_cell? w _ hw383_0)).trans hw383_0),((HB.out.cell (World.block_lt_of_cell? w _ hw383_1)).trans hw383_1),((HB.out.cell (World.block_lt_of_cell? w _ hw384_0)).trans hw384_0),((HB.out.cell (World.block_lt_of_cell? w _ hw384_1)).trans hw384_1)⟩ (fun hHeld=>?_)
       clear hK K
       refine rN (a':=?_) ?_ ?_
       rotate_left
       ·show Act.put _ (some 25) _=_
        simp only [Act.put,q1,q2,q3,i64_w,i32_w]
        rfl
       refine rR ?_
       refine rD HT_ d3 ?_
       try go_wp2
       go_ret
       exact ⟨d5,d0⟩
      rw [if_neg c6] at H
      exact absurd H d31
     rw [if_neg c5] at H
     exact absurd H d31
    rw [if_neg c4] at H
    have c4b0:decide (x5_1 < (l0.length:Int))=false:=decide_eq_false c4
    clear c4
    obtain rfl:=Option.some.inj H
    go_wp2
    go_ret
    exact ⟨d5,d0⟩
 rw [if_neg c3] at H
 have c3b0:((l0.length:Int) == (l1.length:Int))=false:=beq_eq_false_iff_ne.mpr c3
 have c3b1:((l0.length:Int) != (l1.length:Int))=true:=bne_iff_ne.mpr c3
 have c3b2:(l0.length == l1.length)=false:=by first|simpa using c3|(simp at c3 ⊢;omega)
 obtain rfl:=Option.some.inj H
 go_enter Try.func49,Try.ntmps49
 go_wp2
 go_ret
 exact ⟨d5,d0⟩

def laws_markHelpS.l0:Nat→List (S147)→Int→Int→Option (Int × (List (S147)))
 | 0,_,_,_=>none
 | k+1,x0,x1,x5=>if x5 < (x0.length:Int) then (if 0≤x5 then ((some (x0.set (x5:Int).toNat (⟨x1,(rd_T147 x0 x5).f1⟩:S147):List (S147))).bind fun y386=>(laws_markHelpS.l0 k (y386.set (x5:Int).toNat (⟨(rd_T147 y386 x5).f0,(wrap64 (x1+1)) % 256⟩:S147)) (wrap64 ((wrap64 (x1+1))+1)) (wrap64 (x5+1)))) else (none)) else (some (x1,x0))
def laws_markHelpS.f (k:Nat) (l0:List (S147)) (a1:Int):Option (Int × (List (S147))):=laws_markHelpS.l0 k l0 a1 0
theorem laws_markHelpS.mono_l:∀ k,(∀ y0 y1 y2,LeO (laws_markHelpS.l0 k y0 y1 y2) (laws_markHelpS.l0 (k+1) y0 y1 y2))
 | 0=>fun _ _ _ r h=>by simp [laws_markHelpS.l0] at h
 | k+1=>by
  have ih0:=laws_markHelpS.mono_l k
  intro y0 y1 y2
  unfold laws_markHelpS.l0
  repeat' first
  | (with_reducible exact ih0 _ _ _)
  |(with_reducible exact LeO.refl _)|(with_reducible exact LeO.none _)|(with_reducible refine LeO.ite ?_ ?_)|(with_reducible refine LeO.bind ?_ (fun _=>?_))|exact ih0 _ _ _|exact LeO.none _|refine LeO.ite ?_ ?_|refine LeO.bind ?_ (fun _=>?_)
theorem laws_markHelpS.mono:∀ a0 a1 k,LeO (laws_markHelpS.f k a0 a1) (laws_markHelpS.f (k+1) a0 a1):=by
 intro a0 a1 k
 have ih0:=laws_markHelpS.mono_l k
 unfold laws_markHelpS.f
 repeat' first
   | (with_reducible exact ih0 _ _ _)
   |(with_reducible exact LeO.refl _)|(with_reducible exact LeO.none _)|(with_reducible refine LeO.ite ?_ ?_)|(with_reducible refine LeO.bind ?_ (fun _=>?_))|exact ih0 _ _ _|exact LeO.none _|refine LeO.ite ?_ ?_|refine LeO.bind ?_ (fun _=>?_)
theorem laws_markHelpS.calls (k:Nat) (P0_:Nat→Prop) (u9000_:Value) (l0:List (S147)) (a1:Int) (r1:Int) (r2:List (S147)) (w0 w:World) (hB:Below w0.heap.size w0 w) (ho0:Kd.R k147 147 w w0.heap.size P0_ u9000_ l0) (h:laws_markHelpS.f k l0 a1=some (r1,r2)) :
  Calls Try.prog 50 #[u9000_, .int .i64 a1] w fun e w'=>e = .returned (.int .i64 r1)∧Kd.R k147 147 w' w0.heap.size (fun k_=>(P0_ k_∨w.heap.size≤k_)) u9000_ r2∧Below w0.heap.size w0 w'∧Kept w w' (fun k_=>P0_ k_):=by
 have HO0:=am (show Kd.R k147 147 w w0.heap.size (fun k_=>(P0_ k_∨w.heap.size≤k_)) u9000_ l0 from Kd.R_mono ho0 (fun k_ hk=>(.inl hk)))
 have HK:=am (Kept.refl w (fun k_=>P0_ k_))
 have HW0:=am hB.size
 have HB:=am hB
 clear hB
 have H:(laws_markHelpS.l0 k l0 a1 0)=some (r1,r2):=h
 clear h
 have H':=am H
 clear H
 go_enter Try.func50,Try.ntmps50
 go_wp2
 go_loopg [1,5] k (fun kq v1 v5 w'=>∃ (x0_1:List (S147)) (x1_1:Int) (x5_1:Int),v1 = .int .i64 x1_1∧v5 = .int .i64 x5_1∧Aside0 (laws_markHelpS.l0 kq x0_1 x1_1 x5_1=some (r1,r2))∧Aside0 (kq≤k)∧Aside0 (Kd.R k147 147 w' w0.heap.size (fun k_=>(P0_ k_∨w.heap.size≤k_)) u9000_ x0_1)∧Aside0 (Kept w w' (fun k_=>P0_ k_))∧Aside0 (Below w0.heap.size w0 w'))
 case atStart=>exact ⟨(l0),(a1),(0),d4,d4,H',⟨Nat.le_refl _⟩,⟨by (with_reducible repeat (first|apply Kd.R_alloc|apply Kd.R_drewN|apply Kd.R_drew));exact HO0.out⟩,⟨d22⟩,⟨d0⟩⟩
 case round =>
  clear H'
  try clear p2
  obtain ⟨x0_1,x1_1,x5_1,rfl,rfl,HA,HK1,HO_0,HK,HB⟩:=hrel
  cases gk with
  | zero=>exact absurd HA.out (by simp [laws_markHelpS.l0])
  | succ k1 =>
   have H:=HA.out
   clear HA
   simp only [laws_markHelpS.l0] at H
   by_cases c3:x5_1 < (x0_1.length:Int)
   ·rw [if_pos c3] at H
    have c3b0:decide (x5_1 < (x0_1.length:Int))=true:=decide_eq_true c3
    clear c3
    by_cases c4:0≤x5_1
    ·rw [if_pos c4] at H
     have c4b0:decide (0≤x5_1)=true:=decide_eq_true c4
     clear c4
     obtain ⟨y386,hy386⟩:∃ y_:List (S147),y_=(x0_1.set (x5_1:Int).toNat (⟨x1_1,(rd_T147 x0_1 x5_1).f1⟩:S147)):=⟨_,rfl⟩
     replace H:(laws_markHelpS.l0 k1 (y386.set (x5_1:Int).toNat (⟨(rd_T147 y386 x5_1).f0,(wrap64 (x1_1+1)) % 256⟩:S147)) (wrap64 ((wrap64 (x1_1+1))+1)) (wrap64 (x5_1+1)))=some (r1,r2):=by first|(rw [hy386];with_reducible exact H)|(have H2_:=(Option.bind_some _ _).symm.trans H;rw [hy386];with_reducible exact H2_)|(have H2_:=(Option.bind_some _ _).symm.trans H;with_reducible exact H2_)|with_reducible exact H|(rw [hy386];exact H)|exact H
     have Ny386:=am hy386
     clear hy386
     obtain ⟨y387,hy387⟩:∃ y_:List (S147),y_=(y386.set (x5_1:Int).toNat (⟨(rd_T147 y386 x5_1).f0,(wrap64 (x1_1+1)) % 256⟩:S147)):=⟨_,rfl⟩
     replace H:(laws_markHelpS.l0 k1 y387 (wrap64 ((wrap64 (x1_1+1))+1)) (wrap64 (x5_1+1)))=some (r1,r2):=by first|(rw [hy387];with_reducible exact H)|(have H2_:=(Option.bind_some _ _).symm.trans H;rw [hy387];with_reducible exact H2_)|(have H2_:=(Option.bind_some _ _).symm.trans H;with_reducible exact H2_)|with_reducible exact H|(rw [hy387];exact H)|exact H
     have Ny387:=am hy387
     clear hy387
     have H':=am H
     clear H
     obtain ⟨Ao7,co7,eo7⟩:=Kd.R_slice HO_0.out
     subst eo7
     have p5:0≤(x5_1:Int):=od d2
     have q5:(x5_1:Int) < ((x0_1.length:Int):Int):=od d2
     obtain ⟨go5,co5,eo5,gb5,gl5,cl5,HG5⟩:=Kd.R_form HO_0.out d15
     (first|cases eo5|(injection eo5 with ea_ en_ ec_;(first|subst ea_|(injection ea_ with ea_;subst ea_));subst ec_;clear en_))
     have GB5:=am gb5
     have GG5:=am HG5
     clear gb5 gl5 HG5
     have HMgo5:=am (show (P0_ go5∨w.heap.size≤go5) from (HO_0.out.1 _ rfl))
     obtain ⟨ce5,hcl5,hM5,hcc5,hfr5⟩:=Kd.R_elem HO_0.out z147 (x5_1:Int) p5 q5
     obtain rfl:=k147_openM hM5
     have hx5_0:wr.cell? ⟨go5,(x5_1:Int).toNat*2,none⟩=some (.int .i64 ((rd_T147 x0_1 x5_1).f0)):=hcc5 0 _ rfl
     have hx5_1:wr.cell? ⟨go5,(x5_1:Int).toNat*2+1,none⟩=some (.int .u8 ((rd_T147 x0_1 x5_1).f1)):=hcc5 1 _ rfl
     have hf5_0:wr.frozen? ⟨go5,(x5_1:Int).toNat*2,none⟩=false:=hfr5 0
     have hf5_1:wr.frozen? ⟨go5,(x5_1:Int).toNat*2+1,none⟩=false:=hfr5 1
     clear hcl5 hcc5 hfr5 hM5
     replace p5:=eq_true p5
     replace q5:=eq_true q5
     have HX8:=am (show Kd.R k147 147 wr w0.heap.size (fun k_=>(P0_ k_∨w.heap.size≤k_)) (.slice (some ⟨go5,0,none⟩) x0_1.length co7) x0_1 from d33)
     obtain ⟨ce8,hcl8,hM8,hcc8,hfr8⟩:=Kd.R_elem HX8.out z147 (x5_1:Int) (od d2) (by have h_:(x5_1:Int) < ((x0_1.length:Int):Int):=od d2;first|exact h_|(have e_:=(Kd.R_reads' HO_0.out).1;omega)|simpa using h_)
     obtain rfl:=k147_openM hM8
     have HP8:=Kd.R_seg HX8.out (x5_1:Int) (od d2) (by have h_:(x5_1:Int) < ((x0_1.length:Int):Int):=od d2;first|exact h_|(have e_:=(Kd.R_reads' HO_0.out).1;omega)|simpa using h_) (seg:=[.int .i64 x1_1]) (j:=0) hcl8 hcc8 (show 1≤2 from by decide) (x':=(⟨x1_1,(rd_T147 x0_1 x5_1).f1⟩:S147)) (k147_mkM _ _ _ (⟨x1_1,(rd_T147 x0_1 x5_1).f1⟩:S147) ) (fun _ hk=>hk)
     have hx8_0:=hcc8 0 _ rfl
     (try simp only [show (k147).sz=2 from rfl,Nat.mul_one,Nat.add_zero] at hx8_0)
     have hf8_0:=hfr8 0
     (try simp only [show (k147).sz=2 from rfl,Nat.mul_one,Nat.add_zero] at hf8_0)
     clear hcl8 hcc8 hfr8 hM8
     go_wp2_with (first|((with_reducible refine gate_store (t:=3) (p:=16) rfl ?_);refine store_event (t:=3) (p:=16) (v:=?vo_w9) (w1:=(wr.setCell ⟨go5,(x5_1:Int).toNat*2,none⟩ (.int .i64 x1_1))) ?hg ?ho ?hn ?hr ?_;(case ho=>rfl);(case hg=>rfl);(case hn=>rfl);(case hr=>first|(go_simp;done)|(go_simp;rfl));intro w9 hw;have hg:wr.grownBy w9 (some go5):=(by rw [hw];exact HP8.2);have hp_:Kd.R k147 147 w9 w0.heap.size (fun k_=>(P0_ k_∨w.heap.size≤k_)) (.slice (some ⟨go5,0,none⟩) x0_1.length co7) y386:=(by rw [hw,Ny386.out];exact HP8.1);clear HP8;have n0_:=am (hp_);have n1_:=am ((by rw [hw];exact pt (HB.out) GB5.out:Below w0.heap.size w0 w9));have n2_:=am (Kept.of_grown (S:=(fun k_=>P0_ k_)) hg d22 (fun k_ e_=>(HO_0.out.1 k_ e_)));clear HO_0;clear HB;clear HK;have HO_0:=n0_;have HB:=n1_;have HK:=n2_;clear n0_ n1_ n2_;clear hg hw hp_;have p6:0≤(x5_1:Int):=od d2;have q6:(x5_1:Int) < ((x0_1.length:Int):Int):=od d2;obtain ⟨ce6,hcl6,hM6,hcc6,hfr6⟩:=Kd.R_elem HO_0.out z147 (x5_1:Int) p6 q6;obtain rfl:=k147_openM hM6;have hx6_0:w9.cell? ⟨go5,(x5_1:Int).toNat*2,none⟩=some (.int .i64 ((rd_T147 y386 x5_1).f0)):=hcc6 0 _ rfl;have hx6_1:w9.cell? ⟨go5,(x5_1:Int).toNat*2+1,none⟩=some (.int .u8 ((rd_T147 y386 x5_1).f1)):=hcc6 1 _ rfl;have hf6_0:w9.frozen? ⟨go5,(x5_1:Int).toNat*2,none⟩=false:=hfr6 0;have hf6_1:w9.frozen? ⟨go5,(x5_1:Int).toNat*2+1,none⟩=false:=hfr6 1;clear hcl6 hcc6 hfr6;(try clear hM6);replace p6:=eq_true p6;replace q6:=eq_true q6;have HX10:=am (show Kd.R k147 147 w9 w0.heap.size (fun k_=>(P0_ k_∨w.heap.size≤k_)) (.slice (some ⟨go5,0,none⟩) x0_1.length co7) y386 from d33);obtain ⟨ce10,hcl10,hM10,hcc10,hfr10⟩:=Kd.R_elem HX10.out z147 (x5_1:Int) (od d2) (by have h_:(x5_1:Int) < ((x0_1.length:Int):Int):=od d2;first|exact h_|(have e_:=(Kd.R_reads' HO_0.out).1;omega)|simpa using h_);obtain rfl:=k147_openM hM10;have HP10:=Kd.R_seg HX10.out (x5_1:Int) (od d2) (by have h_:(x5_1:Int) < ((x0_1.length:Int):Int):=od d2;first|exact h_|(have e_:=(Kd.R_reads' HO_0.out).1;omega)|simpa using h_) (seg:=[.int .u8 ((wrap64 (x1_1+1)) % 256)]) (j:=1) hcl10 hcc10 (show 2≤2 from by decide) (x':=(⟨(rd_T147 y386 x5_1).f0,(wrap64 (x1_1+1)) % 256⟩:S147)) (k147_mkM _ _ _ (⟨(rd_T147 y386 x5_1).f0,(wrap64 (x1_1+1)) % 256⟩:S147) ) (fun _ hk=>hk);have hx10_1:=hcc10 1 _ rfl;(try simp only [show (k147).sz=2 from rfl,Nat.mul_one,Nat.add_zero] at hx10_1);have hf10_1:=hfr10 1;(try simp only [show (k147).sz=2 from rfl,Nat.mul_one,Nat.add_zero] at hf10_1);clear hcl10 hcc10 hfr10 hM10)|((with_reducible refine gate_store (t:=5) (p:=24) rfl ?_);refine store_event (t:=5) (p:=24) (v:=?vo_w11) (w1:=(w9.setCell ⟨go5,(x5_1:Int).toNat*2+1,none⟩ (.int .u8 ((wrap64 (x1_1+1)) % 256)))) ?hg ?ho ?hn ?hr ?_;(case ho=>rfl);(case hg=>rfl);(case hn=>rfl);(case hr=>first|(go_simp;done)|(go_simp;rfl));intro w11 hw;have hg:w9.grownBy w11 (some go5):=(by rw [hw];exact HP10.2);have hp_:Kd.R k147 147 w11 w0.heap.size (fun k_=>(P0_ k_∨w.heap.size≤k_)) (.slice (some ⟨go5,0,none⟩) x0_1.length co7) y387:=(by rw [hw,Ny387.out];exact HP10.1);clear HP10;have n0_:=am (hp_);have n1_:=am ((by rw [hw];exact pt (HB.out) GB5.out:Below w0.heap.size w0 w11));have n2_:=am (Kept.of_grown (S:=(fun k_=>P0_ k_)) hg d22 (fun k_ e_=>(HO_0.out.1 k_ e_)));clear HO_0;clear HB;clear HK;have HO_0:=n0_;have HB:=n1_;have HK:=n2_;clear n0_ n1_ n2_;clear hg hw hp_))
     go_roundg k1
     case measure=>have:=HK1.out;omega
     case rel=>exact ⟨(y387),(wrap64 ((wrap64 (x1_1+1))+1)),(wrap64 (x5_1+1)),d4,d4,H',⟨d30⟩,⟨d33⟩,⟨d22⟩,⟨d0⟩⟩
    rw [if_neg c4] at H
    exact absurd H d31
   rw [if_neg c3] at H
   have c3b0:decide (x5_1 < (x0_1.length:Int))=false:=decide_eq_false c3
   clear c3
   simp only [Option.some.injEq,Prod.mk.injEq] at H
   obtain ⟨rfl,rfl⟩:=H
   obtain ⟨Ao12,co12,eo12⟩:=Kd.R_slice HO_0.out
   subst eo12
   go_wp2
   go_ret
   exact ⟨d5,d33,d0,d22⟩

def laws_markByteS.l0:Nat→List Int→Int→Int→Option (Int × List Int)
 | 0,_,_,_=>none
 | k+1,x0,x1,x5=>if x5 < (x0.length:Int) then (if 0≤x5 then (laws_markByteS.l0 k (x0.set (x5:Int).toNat ((x1) % 256)) (wrap64 (x1+1)) (wrap64 (x5+1))) else (none)) else (some (x1,x0))
def laws_markByteS.f (k:Nat) (l0:List Int) (a1:Int):Option (Int × List Int):=laws_markByteS.l0 k l0 a1 0
theorem laws_markByteS.mono_l:∀ k,(∀ y0 y1 y2,LeO (laws_markByteS.l0 k y0 y1 y2) (laws_markByteS.l0 (k+1) y0 y1 y2))
 | 0=>fun _ _ _ r h=>by simp [laws_markByteS.l0] at h
 | k+1=>by
  have ih0:=laws_markByteS.mono_l k
  intro y0 y1 y2
  unfold laws_markByteS.l0
  repeat' first
  | (with_reducible exact ih0 _ _ _)
  |(with_reducible exact LeO.refl _)|(with_reducible exact LeO.none _)|(with_reducible refine LeO.ite ?_ ?_)|(with_reducible refine LeO.bind ?_ (fun _=>?_))|exact ih0 _ _ _|exact LeO.none _|refine LeO.ite ?_ ?_|refine LeO.bind ?_ (fun _=>?_)
theorem laws_markByteS.mono:∀ a0 a1 k,LeO (laws_markByteS.f k a0 a1) (laws_markByteS.f (k+1) a0 a1):=by
 intro a0 a1 k
 have ih0:=laws_markByteS.mono_l k
 unfold laws_markByteS.f
 repeat' first
   | (with_reducible exact ih0 _ _ _)
   |(with_reducible exact LeO.refl _)|(with_reducible exact LeO.none _)|(with_reducible refine LeO.ite ?_ ?_)|(with_reducible refine LeO.bind ?_ (fun _=>?_))|exact ih0 _ _ _|exact LeO.none _|refine LeO.ite ?_ ?_|refine LeO.bind ?_ (fun _=>?_)
theorem laws_markByteS.calls (k:Nat) (P0_:Nat→Prop) (u9000_:Value) (l0:List Int) (a1:Int) (r1:Int) (r2:List Int) (w0 w:World) (hB:Below w0.heap.size w0 w) (ho0:Kd.R (Kd.int .u8) 5 w w0.heap.size P0_ u9000_ l0) (h:laws_markByteS.f k l0 a1=some (r1,r2)) :
  Calls Try.prog 41 #[u9000_, .int .i64 a1] w fun e w'=>e = .returned (.int .i64 r1)∧Kd.R (Kd.int .u8) 5 w' w0.heap.size (fun k_=>(P0_ k_∨w.heap.size≤k_)) u9000_ r2∧Below w0.heap.size w0 w'∧Kept w w' (fun k_=>P0_ k_):=by
 have HO0:=am (show Kd.R (Kd.int .u8) 5 w w0.heap.size (fun k_=>(P0_ k_∨w.heap.size≤k_)) u9000_ l0 from Kd.R_mono ho0 (fun k_ hk=>(.inl hk)))
 have HK:=am (Kept.refl w (fun k_=>P0_ k_))
 have HW0:=am hB.size
 have HB:=am hB
 clear hB
 have H:(laws_markByteS.l0 k l0 a1 0)=some (r1,r2):=h
 clear h
 have H':=am H
 clear H
 go_enter Try.func41,Try.ntmps41
 go_wp2
 go_loopg [1,5] k (fun kq v1 v5 w'=>∃ (x0_1:List Int) (x1_1:Int) (x5_1:Int),v1 = .int .i64 x1_1∧v5 = .int .i64 x5_1∧Aside0 (laws_markByteS.l0 kq x0_1 x1_1 x5_1=some (r1,r2))∧Aside0 (kq≤k)∧Aside0 (Kd.R (Kd.int .u8) 5 w' w0.heap.size (fun k_=>(P0_ k_∨w.heap.size≤k_)) u9000_ x0_1)∧Aside0 (Kept w w' (fun k_=>P0_ k_))∧Aside0 (Below w0.heap.size w0 w'))
 case atStart=>exact ⟨(l0),(a1),(0),d4,d4,H',⟨Nat.le_refl _⟩,⟨by (with_reducible repeat (first|apply Kd.R_alloc|apply Kd.R_drewN|apply Kd.R_drew));exact HO0.out⟩,⟨d22⟩,⟨d0⟩⟩
 case round =>
  clear H'
  try clear p2
  obtain ⟨x0_1,x1_1,x5_1,rfl,rfl,HA,HK1,HO_0,HK,HB⟩:=hrel
  cases gk with
  | zero=>exact absurd HA.out (by simp [laws_markByteS.l0])
  | succ k1 =>
   have H:=HA.out
   clear HA
   simp only [laws_markByteS.l0] at H
   by_cases c3:x5_1 < (x0_1.length:Int)
   ·rw [if_pos c3] at H
    have c3b0:decide (x5_1 < (x0_1.length:Int))=true:=decide_eq_true c3
    clear c3
    by_cases c4:0≤x5_1
    ·rw [if_pos c4] at H
     have c4b0:decide (0≤x5_1)=true:=decide_eq_true c4
     clear c4
     obtain ⟨y388,hy388⟩:∃ y_:List Int,y_=(x0_1.set (x5_1:Int).toNat ((x1_1) % 256)):=⟨_,rfl⟩
     replace H:(laws_markByteS.l0 k1 y388 (wrap64 (x1_1+1)) (wrap64 (x5_1+1)))=some (r1,r2):=by first|(rw [hy388];with_reducible exact H)|(have H2_:=(Option.bind_some _ _).symm.trans H;rw [hy388];with_reducible exact H2_)|(have H2_:=(Option.bind_some _ _).symm.trans H;with_reducible exact H2_)|with_reducible exact H|(rw [hy388];exact H)|exact H
     have Ny388:=am hy388
     clear hy388
     have H':=am H
     clear H
     obtain ⟨Ao6,co6,eo6⟩:=Kd.R_slice HO_0.out
     subst eo6
     have p5:0≤(x5_1:Int):=od d2
     have q5:(x5_1:Int) < ((x0_1.length:Int):Int):=od d2
     obtain ⟨go5,co5,eo5,gb5,gl5,cl5,HG5⟩:=Kd.R_form HO_0.out d15
     (first|cases eo5|(injection eo5 with ea_ en_ ec_;(first|subst ea_|(injection ea_ with ea_;subst ea_));subst ec_;clear en_))
     have GB5:=am gb5
     have GG5:=am HG5
     clear gb5 gl5 HG5
     have HMgo5:=am (show (P0_ go5∨w.heap.size≤go5) from (HO_0.out.1 _ rfl))
     obtain ⟨hx5_0,hf5_0⟩:=Kd.R_celln 0 HO_0.out (x5_1:Int) p5 q5
     replace p5:=eq_true p5
     replace q5:=eq_true q5
     have HP7:=Kd.R_putg HO_0.out (x5_1:Int) ((x1_1) % 256)
     go_wp2_with (first|((with_reducible refine gate_store (t:=5) (p:=16) rfl ?_);refine store_event (t:=5) (p:=16) (v:=?vo_w8) (w1:=(wr.setCell ⟨go5,(x5_1:Int).toNat,none⟩ (.int .u8 ((x1_1) % 256)))) ?hg ?ho ?hn ?hr ?_;(case ho=>rfl);(case hg=>rfl);(case hn=>rfl);(case hr=>first|(go_simp;done)|(go_simp;rfl));intro w8 hw;have hg:wr.grownBy w8 (some go5):=(by rw [hw];exact HP7.2);have hp_:Kd.R (Kd.int .u8) 5 w8 w0.heap.size (fun k_=>(P0_ k_∨w.heap.size≤k_)) (.slice (some ⟨go5,0,none⟩) x0_1.length co6) y388:=(by rw [hw,Ny388.out];exact HP7.1);clear HP7;have n0_:=am (hp_);have n1_:=am ((by rw [hw];exact pt (HB.out) GB5.out:Below w0.heap.size w0 w8));have n2_:=am (Kept.of_grown (S:=(fun k_=>P0_ k_)) hg d22 (fun k_ e_=>(HO_0.out.1 k_ e_)));clear HO_0;clear HB;clear HK;have HO_0:=n0_;have HB:=n1_;have HK:=n2_;clear n0_ n1_ n2_;clear hg hw hp_))
     go_roundg k1
     case measure=>have:=HK1.out;omega
     case rel=>exact ⟨(y388),(wrap64 (x1_1+1)),(wrap64 (x5_1+1)),d4,d4,H',⟨d30⟩,⟨d33⟩,⟨d22⟩,⟨d0⟩⟩
    rw [if_neg c4] at H
    exact absurd H d31
   rw [if_neg c3] at H
   have c3b0:decide (x5_1 < (x0_1.length:Int))=false:=decide_eq_false c3
   clear c3
   simp only [Option.some.injEq,Prod.mk.injEq] at H
   obtain ⟨rfl,rfl⟩:=H
   obtain ⟨Ao9,co9,eo9⟩:=Kd.R_slice HO_0.out
   subst eo9
   go_wp2
   go_ret
   exact ⟨d5,d33,d0,d22⟩

end Go.Proofs.Ytajikfnpcobnpaa.PFnExactRegeneratePiece
-- HALVED
-- SQUEEZED
-- SQUEEZED2
-- SQUEEZED3
-- SQUEEZED4
-- SQUEEZED5
-- SQUEEZED6
