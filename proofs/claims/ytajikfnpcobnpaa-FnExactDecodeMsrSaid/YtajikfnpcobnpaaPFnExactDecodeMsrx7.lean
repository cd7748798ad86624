-- Laid by a program of this session.
import Derived.Test.YtajikfnpcobnpaaPFnExactDecodeMsrx0
import Derived.Test.YtajikfnpcobnpaaPFnExactDecodeMsrx2
import Derived.Test.YtajikfnpcobnpaaPFnExactDecodeMsrx3
namespace Go.Proofs.Ytajikfnpcobnpaa.PFnExactDecodeMsr
open Go.RowKit Go.Proofs.YtajikfnpcobnpaaW.PrintWords Go.Proofs.YtajikfnpcobnpaaW.PrintLast Go.Proofs.YtajikfnpcobnpaaW.PrintMore
attribute [local go_sem] max2_int min2_int max_two min_two max_three min_three max_four min_four   -- for this text's walks alone
set_option linter.unusedVariables false
set_option maxHeartbeats 8000000
set_option maxRecDepth 100000
set_option linter.unusedSimpArgs false

def spec_l1Dot.l0:Nat→List Int→List Int→Int→Int→Int→Option (Int)
 | 0,_,_,_,_,_=>none
 | k+1,x0,x1,x5,x8,x9=>if x9 < x8 then (if 0≤x9 then (if x9 < (x0.length:Int) then (if x9 < (x1.length:Int) then ((spec_l1Times.f k (rd x0 x9) (rd x1 x9)).bind fun t160=>(spec_l1Dot.l0 k x0 x1 (Go.bits .xor .u8 x5 t160) x8 (wrap64 (x9+1)))) else (none)) else (none)) else (none)) else (some x5)
def spec_l1Dot.f (k:Nat) (l0:List Int) (l1:List Int):Option (Int):=spec_l1Dot.l0 k l0 l1 0 (l0.length:Int) 0
theorem spec_l1Dot.mono_l:∀ k,(∀ y0 y1 y2 y3 y4,LeO (spec_l1Dot.l0 k y0 y1 y2 y3 y4) (spec_l1Dot.l0 (k+1) y0 y1 y2 y3 y4))
 | 0=>fun _ _ _ _ _ r h=>by simp [spec_l1Dot.l0] at h
 | k+1=>by
  have ih0:=spec_l1Dot.mono_l k
  intro y0 y1 y2 y3 y4
  unfold spec_l1Dot.l0
  repeat' first
  | (with_reducible exact ih0 _ _ _ _ _)
  | (with_reducible exact spec_l1Times.mono _ _ _)
  |(with_reducible exact LeO.refl _)|(with_reducible exact LeO.none _)|(with_reducible refine LeO.ite ?_ ?_)|(with_reducible refine LeO.bind ?_ (fun _=>?_))|exact ih0 _ _ _ _ _|exact spec_l1Times.mono _ _ _|exact LeO.none _|refine LeO.ite ?_ ?_|refine LeO.bind ?_ (fun _=>?_)
theorem spec_l1Dot.mono:∀ a0 a1 k,LeO (spec_l1Dot.f k a0 a1) (spec_l1Dot.f (k+1) a0 a1):=by
 intro a0 a1 k
 have ih0:=spec_l1Dot.mono_l k
 unfold spec_l1Dot.f
 repeat' first
   | (with_reducible exact ih0 _ _ _ _ _)
   | (with_reducible exact spec_l1Times.mono _ _ _)
   |(with_reducible exact LeO.refl _)|(with_reducible exact LeO.none _)|(with_reducible refine LeO.ite ?_ ?_)|(with_reducible refine LeO.bind ?_ (fun _=>?_))|exact ih0 _ _ _ _ _|exact spec_l1Times.mono _ _ _|exact LeO.none _|refine LeO.ite ?_ ?_|refine LeO.bind ?_ (fun _=>?_)
theorem spec_l1Dot.calls (k:Nat) (A0:Option Addr) (c0:Nat) (l0:List Int) (A1:Option Addr) (c1:Nat) (l1:List Int) (r:Int) (w:World) (hr0:Kd.C (Kd.int .u8) w A0 l0.length l0) (hc0:l0.length≤c0) (hr1:Kd.C (Kd.int .u8) w A1 l1.length l1) (hc1:l1.length≤c1) (h:spec_l1Dot.f k l0 l1=some r) :
  Calls Try.prog 189 #[.slice A0 l0.length c0, .slice A1 l1.length c1] w fun e w'=>e = .returned (.int .u8 r)∧Drawn0 w w':=by
 have HR0:=am hr0
 have HC0:=am hc0
 clear hr0 hc0
 have HR1:=am hr1
 have HC1:=am hc1
 clear hr1 hc1
 have H:(spec_l1Dot.l0 k l0 l1 0 (l0.length:Int) 0)=some r:=h
 clear h
 have H':=am H
 clear H
 go_enter Try.func189,Try.ntmps189
 go_wp2
 repeat (go_quiet (fail);try go_wp2)
 go_loopg [5,9] k (fun kq v5 v9 w'=>∃ (x5_1:Int) (x9_1:Int),v5 = .int .u8 x5_1∧v9 = .int .i64 x9_1∧Aside0 (spec_l1Dot.l0 kq l0 l1 x5_1 (l0.length:Int) x9_1=some r)∧Aside0 (kq≤k)∧Drawn0 w w')
 case atStart=>exact ⟨(0),(0),d2,d2,H',⟨Nat.le_refl _⟩,d12⟩
 case round =>
  clear H'
  try clear c1
  try clear p2
  obtain ⟨x5_1,x9_1,rfl,rfl,HA,HK1,⟨m1,rfl⟩⟩:=hrel
  cases gk with
  | zero=>exact absurd HA.out (by simp [spec_l1Dot.l0])
  | succ k1 =>
   have H:=HA.out
   clear HA
   simp only [spec_l1Dot.l0] at H
   by_cases c3:x9_1 < (l0.length:Int)
   ·rw [if_pos c3] at H
    have c3b0:decide (x9_1 < (l0.length:Int))=true:=decide_eq_true c3
    clear c3
    by_cases c4:0≤x9_1
    ·rw [if_pos c4] at H
     have c4b0:decide (0≤x9_1)=true:=decide_eq_true c4
     clear c4
     by_cases c5:x9_1 < (l0.length:Int)
     ·rw [if_pos c5] at H
      have c5b0:decide (x9_1 < (l0.length:Int))=true:=decide_eq_true c5
      clear c5
      by_cases c6:x9_1 < (l1.length:Int)
      ·rw [if_pos c6] at H
       have c6b0:decide (x9_1 < (l1.length:Int))=true:=decide_eq_true c6
       clear c6
       replace H:=Option.bind_eq_some_iff.mp H
       obtain ⟨t160,A70,H⟩:=H
       replace H:(spec_l1Dot.l0 k1 l0 l1 (Go.bits .xor .u8 x5_1 t160) (l0.length:Int) (wrap64 (x9_1+1)))=some r:=H
       have A7:=am A70
       clear A70
       have H':=am H
       clear H
       have p158:0≤(x9_1:Int):=od d1
       have q158:x9_1 < (l0.length:Int):=od d1
       obtain ⟨ad158,e158,hx158_0⟩:=Kd.at_int HR0.out x9_1 p158 q158
       cases e158
       replace p158:=eq_true p158
       replace q158:=eq_true q158
       have p159:0≤(x9_1:Int):=od d1
       have q159:x9_1 < (l1.length:Int):=od d1
       obtain ⟨ad159,e159,hx159_0⟩:=Kd.at_int HR1.out x9_1 p159 q159
       cases e159
       replace p159:=eq_true p159
       replace q159:=eq_true q159
       go_wp2_with (first|(go_at_call 174;(with_reducible refine (spec_l1Times.calls k1 (rd l0 x9_1) (rd l1 x9_1) t160 _ A7.out).mono ?_);rintro e w' ⟨rfl,⟨nd,rfl⟩⟩;(try first|exact ⟨rfl,_,World.drewN_drewN _ _ _⟩|exact ⟨rfl,_,Eq.trans (World.drewN_drewN _ _ _) (congrArg (World.drewN _) (Nat.add_assoc _ _ _))⟩)))
       repeat (go_quiet (first|(go_at_call 174;(with_reducible refine (spec_l1Times.calls k1 (rd l0 x9_1) (rd l1 x9_1) t160 _ A7.out).mono ?_);rintro e w' ⟨rfl,⟨nd,rfl⟩⟩;(try first|exact ⟨rfl,_,World.drewN_drewN _ _ _⟩|exact ⟨rfl,_,Eq.trans (World.drewN_drewN _ _ _) (congrArg (World.drewN _) (Nat.add_assoc _ _ _))⟩)));try go_wp2_with (first|(go_at_call 174;(with_reducible refine (spec_l1Times.calls k1 (rd l0 x9_1) (rd l1 x9_1) t160 _ A7.out).mono ?_);rintro e w' ⟨rfl,⟨nd,rfl⟩⟩;(try first|exact ⟨rfl,_,World.drewN_drewN _ _ _⟩|exact ⟨rfl,_,Eq.trans (World.drewN_drewN _ _ _) (congrArg (World.drewN _) (Nat.add_assoc _ _ _))⟩))))
       go_roundg k1
       case measure=>have:=HK1.out;omega
       case rel=>exact ⟨(Go.bits .xor .u8 x5_1 t160),(wrap64 (x9_1+1)),d2,d2,H',⟨d30⟩,d12⟩
      rw [if_neg c6] at H
      exact absurd H d20
     rw [if_neg c5] at H
     exact absurd H d20
    rw [if_neg c4] at H
    exact absurd H d20
   rw [if_neg c3] at H
   have c3b0:decide (x9_1 < (l0.length:Int))=false:=decide_eq_false c3
   clear c3
   obtain rfl:=Option.some.inj H
   go_wp2
   repeat (go_quiet (fail);try go_wp2)
   go_ret
   exact ⟨d2,d12⟩

def spec_l2Apply.l0:Nat→List Int→List Int→List (List Int)→Int→Int→Option (List Int)
 | 0,_,_,_,_,_=>none
 | k+1,x1,x5,x9,x10,x11=>if x11 < x10 then (if 0≤x11 then (if x11 < (x9.length:Int) then ((spec_l1Dot.f k (rd_L2 x9 x11) x1).bind fun t163=>(if x5.length < 140737488355328 then (spec_l2Apply.l0 k x1 (x5 ++ [t163]) x9 x10 (wrap64 (x11+1))) else (none))) else (none)) else (none)) else (some x5)
def spec_l2Apply.f (k:Nat) (l0_0:List (List Int)) (l1:List Int):Option (List Int):=spec_l2Apply.l0 k l1 ([]:List Int) l0_0 (l0_0.length:Int) 0
theorem spec_l2Apply.mono_l:∀ k,(∀ y0 y1 y2 y3 y4,LeO (spec_l2Apply.l0 k y0 y1 y2 y3 y4) (spec_l2Apply.l0 (k+1) y0 y1 y2 y3 y4))
 | 0=>fun _ _ _ _ _ r h=>by simp [spec_l2Apply.l0] at h
 | k+1=>by
  have ih0:=spec_l2Apply.mono_l k
  intro y0 y1 y2 y3 y4
  unfold spec_l2Apply.l0
  repeat' first
  | (with_reducible exact ih0 _ _ _ _ _)
  | (with_reducible exact spec_l1Dot.mono _ _ _)
  |(with_reducible exact LeO.refl _)|(with_reducible exact LeO.none _)|(with_reducible refine LeO.ite ?_ ?_)|(with_reducible refine LeO.bind ?_ (fun _=>?_))|exact ih0 _ _ _ _ _|exact spec_l1Dot.mono _ _ _|exact LeO.none _|refine LeO.ite ?_ ?_|refine LeO.bind ?_ (fun _=>?_)
theorem spec_l2Apply.mono:∀ a0 a1 k,LeO (spec_l2Apply.f k a0 a1) (spec_l2Apply.f (k+1) a0 a1):=by
 intro a0 a1 k
 have ih0:=spec_l2Apply.mono_l k
 unfold spec_l2Apply.f
 repeat' first
   | (with_reducible exact ih0 _ _ _ _ _)
   | (with_reducible exact spec_l1Dot.mono _ _ _)
   |(with_reducible exact LeO.refl _)|(with_reducible exact LeO.none _)|(with_reducible refine LeO.ite ?_ ?_)|(with_reducible refine LeO.bind ?_ (fun _=>?_))|exact ih0 _ _ _ _ _|exact spec_l1Dot.mono _ _ _|exact LeO.none _|refine LeO.ite ?_ ?_|refine LeO.bind ?_ (fun _=>?_)
theorem spec_l2Apply.calls (k:Nat) (A0_0:Option Addr) (c0_0:Nat) (l0_0:List (List Int)) (A1:Option Addr) (c1:Nat) (l1:List Int) (r:List Int) (w:World) (hr0_0:Kd.C (Kd.slice 5 (Kd.int .u8)) w A0_0 l0_0.length l0_0) (hc0_0:l0_0.length≤c0_0) (hr1:Kd.C (Kd.int .u8) w A1 l1.length l1) (hc1:l1.length≤c1) (h:spec_l2Apply.f k l0_0 l1=some r) :
  Calls Try.prog 118 #[.agg #[.slice A0_0 l0_0.length c0_0], .slice A1 l1.length c1] w fun e w'=>∃ v0_:Value,e = .returned (v0_)∧Kd.R (Kd.int .u8) 5 w' w.heap.size (fun _=>True) v0_ r∧Below w.heap.size w w':=by
 have hu43:=Try.underlying43
 have HR0_0:=am hr0_0
 have HC0_0:=am hc0_0
 clear hr0_0 hc0_0
 have HR1:=am hr1
 have HC1:=am hc1
 clear hr1 hc1
 have HB:=am (Below.refl w.heap.size w)
 have H:(spec_l2Apply.l0 k l1 ([]:List Int) l0_0 (l0_0.length:Int) 0)=some r:=h
 clear h
 have H':=am H
 clear H
 go_enter Try.func118,Try.ntmps118
 go_wp2_with (first|((with_reducible refine gate_dst (N:=2) rfl ?_);refine box_event ?hg (N:=2) ?hd (cs:=#[.slice A0_0 l0_0.length c0_0]) (t:=43) ?hr ?_;(case hd=>rfl);(case hg=>rfl);(case hr=>first|(go_simp;done)|(go_simp;rfl));intro gb161 hg w3 hbox hb;have n0_:=am (pu d0 hb);have n1_:=am (hbox);have n2_:=am ((by rw [hg];exact (pz d0):w.heap.size≤gb161));have n3_:=n2_;clear HB;have HB:=n0_;have BK161:=n1_;have GW161:=n2_;have GE161:=n3_;clear n0_ n1_ n2_ n3_;clear hb hbox hg;have hcz4_0:w3.cell? ⟨gb161,0,none⟩=some (.slice A0_0 l0_0.length c0_0):=(blk_cell BK161.out 0).trans rfl;have hfz4_0:=blk_frozen BK161.out 0))
 go_loopg [5,11] k (fun kq v5 v11 w'=>∃ (x5_1:List Int) (x11_1:Int),v11 = .int .i64 x11_1∧Aside0 (spec_l2Apply.l0 kq l1 x5_1 l0_0 (l0_0.length:Int) x11_1=some r)∧Aside0 (kq≤k)∧Aside0 (Kd.R (Kd.int .u8) 5 w' w.heap.size (fun _=>True) v5 x5_1)∧Aside0 (w'.heap[gb161]? = some (.cells #[(.slice A0_0 l0_0.length c0_0)] 43 (0,0)))∧Aside0 (Below w.heap.size w w'))
 case atStart=>exact ⟨(([]:List Int)),(0),d2,H',⟨Nat.le_refl _⟩,⟨d16⟩,⟨by (with_reducible repeat (first|refine qn ?_ _|refine qd ?_|refine qa ?_ _));exact BK161.out⟩,⟨by repeat (first|(with_reducible first|exact HB.out|apply pa|apply pb|apply pd|refine pt ?_ GE161.out)|exact HB.out)⟩⟩
 case round =>
  clear H'
  try clear c1
  try clear p2
  try clear hcz4_0
  try clear hfz4_0
  obtain ⟨x5_1,x11_1,rfl,HA,HK1,HO_5,BK161,HB⟩:=hrel
  cases gk with
  | zero=>exact absurd HA.out (by simp [spec_l2Apply.l0])
  | succ k1 =>
   have H:=HA.out
   clear HA
   simp only [spec_l2Apply.l0] at H
   by_cases c5:x11_1 < (l0_0.length:Int)
   ·rw [if_pos c5] at H
    have c5b0:decide (x11_1 < (l0_0.length:Int))=true:=decide_eq_true c5
    clear c5
    by_cases c6:0≤x11_1
    ·rw [if_pos c6] at H
     have c6b0:decide (0≤x11_1)=true:=decide_eq_true c6
     clear c6
     by_cases c7:x11_1 < (l0_0.length:Int)
     ·rw [if_pos c7] at H
      have c7b0:decide (x11_1 < (l0_0.length:Int))=true:=decide_eq_true c7
      clear c7
      replace H:=Option.bind_eq_some_iff.mp H
      obtain ⟨t163,A80,H⟩:=H
      replace H:(if x5_1.length < 140737488355328 then (spec_l2Apply.l0 k1 l1 (x5_1 ++ [t163]) l0_0 (l0_0.length:Int) (wrap64 (x11_1+1))) else (none))=some r:=H
      have A8:=am A80
      clear A80
      by_cases c9:x5_1.length < 140737488355328
      ·rw [if_pos c9] at H
       have LMc9:=am c9
       clear c9
       obtain ⟨y164,hy164⟩:∃ y_:List Int,y_=(x5_1 ++ [t163]):=⟨_,rfl⟩
       replace H:(spec_l2Apply.l0 k1 l1 y164 l0_0 (l0_0.length:Int) (wrap64 (x11_1+1)))=some r:=by first|(rw [hy164];with_reducible exact H)|(have H2_:=(Option.bind_some _ _).symm.trans H;rw [hy164];with_reducible exact H2_)|(have H2_:=(Option.bind_some _ _).symm.trans H;with_reducible exact H2_)|with_reducible exact H|(rw [hy164];exact H)|exact H
       have Ny164:=am hy164
       clear hy164
       have H':=am H
       clear H
       have p162:0≤(x11_1:Int):=od d1
       have q162:x11_1 < (l0_0.length:Int):=od d1
       obtain ⟨ad162,A162_0,c162_0,e162,hx162_0,hl162_0,hi162_0⟩:=at_L2 HR0_0.out x11_1 p162 q162
       cases e162
       replace hx162_0:=(HB.out.cell (World.block_lt_of_cell? w _ hx162_0)).trans hx162_0
       have HR162_0:=am hi162_0
       have HC162_0:=am hl162_0
       clear hi162_0 hl162_0
       replace p162:=eq_true p162
       replace q162:=eq_true q162
       go_wp2_with (first|((with_reducible refine gate_callee (f:=189) rfl ?_);refine goesL_ (some 18) rfl rfl Try.func189 d3 rfl #[.slice A162_0 (rd_L2 l0_0 x11_1).length c162_0, .slice A1 l1.length c1] rfl d5 ?_;(with_reducible refine (spec_l1Dot.calls k1 _ _ (rd_L2 l0_0 x11_1) _ _ l1 t163 _ ?side1 ?side2 ?side3 ?side4 A8.out).mono ?_);(case side1=>repeat (first|exact (Kd.C_below HR162_0.out HB.out)|(with_reducible refine Kd.C_alloc ?_ _)|(with_reducible refine Kd.C_drewN ?_ _)|(with_reducible refine Kd.C_drew ?_)));(case side2=>exact HC162_0.out);(case side3=>repeat (first|exact (Kd.C_below HR1.out HB.out)|(with_reducible refine Kd.C_alloc ?_ _)|(with_reducible refine Kd.C_drewN ?_ _)|(with_reducible refine Kd.C_drew ?_)));(case side4=>exact HC1.out);rintro e w' ⟨rfl,⟨nd,rfl⟩⟩;refine ⟨_,rfl,?_⟩)|((with_reducible refine gate_builtin (b:=.append) (xs:=#[.tmp 15, .tmp 19]) rfl ?_);at_builtin;refine Kd.R_append (Kd.int .u8) (w0:=w) w.heap.size rfl (.tmp 15) (.tmp 19) 57 5 (.int .u8 0) 1 rfl Try.underlying57 info5 rfl d11 d10 u5 x5_1 t163 [.int .u8 t163] (fun _=>True) (fun _=>False) rfl rfl ?aP (fun _ hk=>hk.elim) ?aF ?aO ?aB ?aS ?aL ?_;(case aP=>exact rfl);(case aB=>exact (by repeat (first|(with_reducible first|exact HB.out|apply pa|apply pb|apply pd|refine pt ?_ GE161.out)|exact HB.out)));(case aF=>exact (fun _ _=>trivial));(case aO=>exact d19);(case aS=>exact (pz (by repeat (first|(with_reducible first|exact HB.out|apply pa|apply pb|apply pd|refine pt ?_ GE161.out)|exact HB.out))));(case aL=>have:=LMc9.out;omega);intro v165 w10 ho hb hg hat;rw [← Ny164.out] at ho;have n0_:=am (blk_grown (g:=gb161) (o:=.cells #[.slice (some ad162) l0_0.length c0_0] 43 (0,0)) (by (with_reducible repeat (first|refine qn ?_ _|refine qd ?_|refine qa ?_ _));exact BK161.out) hg (Kd.R_ne HO_5.out BK161.out d11));have n1_:=am (hb);have n2_:=am (ho);clear BK161;clear HB;clear HO_5;have BK161:=n0_;have HB:=n1_;have HO166:=n2_;clear n0_ n1_ n2_;clear ho hb hg hat))
       go_roundg k1
       case measure=>have:=HK1.out;omega
       case rel=>exact ⟨(y164),(wrap64 (x11_1+1)),d2,H',⟨d30⟩,⟨by (with_reducible repeat (first|apply Kd.R_alloc|apply Kd.R_drewN|apply Kd.R_drew));exact HO166.out⟩,⟨by (with_reducible repeat (first|refine qn ?_ _|refine qd ?_|refine qa ?_ _));exact BK161.out⟩,⟨by repeat (first|(with_reducible first|exact HB.out|apply pa|apply pb|apply pd|refine pt ?_ GE161.out)|exact HB.out)⟩⟩
      rw [if_neg c9] at H
      exact absurd H d20
     rw [if_neg c7] at H
     exact absurd H d20
    rw [if_neg c6] at H
    exact absurd H d20
   rw [if_neg c5] at H
   have c5b0:decide (x11_1 < (l0_0.length:Int))=false:=decide_eq_false c5
   clear c5
   obtain rfl:=Option.some.inj H
   go_wp2
   go_ret
   exact ⟨_,d4,d19,by repeat (first|(with_reducible first|exact HB.out|apply pa|apply pb|apply pd|refine pt ?_ GE161.out)|exact HB.out)⟩

def spec_l1In.f (a0:Int) (a1:Int) (a2:Int):Option (Bool):=if a0 ≥ a1 then (some (decide (a0≤a2))) else (some false)
theorem spec_l1In.calls (a0:Int) (a1:Int) (a2:Int) (r:Bool) (w:World) (h:spec_l1In.f a0 a1 a2=some r) :
  Calls Try.prog 121 #[.int .i64 a0, .int .i64 a1, .int .i64 a2] w fun e w'=>e = .returned (.bool r)∧Drawn0 w w':=by
 have H:(if a0 ≥ a1 then (some (decide (a0≤a2))) else (some false))=some r:=h
 clear h
 by_cases c4:a0 ≥ a1
 ·rw [if_pos c4] at H
  have c4b0:decide (a1≤a0)=true:=decide_eq_true c4
  clear c4
  obtain rfl:=Option.some.inj H
  go_enter Try.func121,Try.ntmps121
  go_wp2
  go_ret
  exact ⟨d2,d12⟩
 rw [if_neg c4] at H
 have c4b0:decide (a1≤a0)=false:=decide_eq_false c4
 clear c4
 obtain rfl:=Option.some.inj H
 go_enter Try.func121,Try.ntmps121
 go_wp2
 go_ret
 exact ⟨d2,d12⟩

def spec_GoodMsr.f (a0_0:Int) (a0_1:Int):Option (Bool):=(spec_l1In.f a0_1 2 4).bind fun t168=>(if t168=true then ((spec_l1In.f a0_0 (wrap64 ((wrap64 (2*a0_1)) - 1)) 14).bind fun t169=>(some t169)) else (some false))
theorem spec_GoodMsr.calls (a0_0:Int) (a0_1:Int) (r:Bool) (w:World) (h:spec_GoodMsr.f a0_0 a0_1=some r) :
  Calls Try.prog 120 #[.agg #[.int .i64 a0_0, .int .i64 a0_1]] w fun e w'=>e = .returned (.bool r)∧Below w.heap.size w w':=by
 have hu72:=Try.underlying72
 have HB:=am (Below.refl w.heap.size w)
 have H:((spec_l1In.f a0_1 2 4).bind fun t168=>(if t168=true then ((spec_l1In.f a0_0 (wrap64 ((wrap64 (2*a0_1)) - 1)) 14).bind fun t169=>(some t169)) else (some false)))=some r:=h
 clear h
 replace H:=Option.bind_eq_some_iff.mp H
 obtain ⟨t168,A20,H⟩:=H
 replace H:(if t168=true then ((spec_l1In.f a0_0 (wrap64 ((wrap64 (2*a0_1)) - 1)) 14).bind fun t169=>(some t169)) else (some false))=some r:=H
 have A2:=am A20
 clear A20
 by_cases c3:t168=true
 ·subst c3
  have H1:((spec_l1In.f a0_0 (wrap64 ((wrap64 (2*a0_1)) - 1)) 14).bind fun t169=>(some t169))=some r:=by rw [if_pos rfl] at H;exact H
  clear H
  have H:=H1
  clear H1
  replace H:=Option.bind_eq_some_iff.mp H
  obtain ⟨t169,A40,H⟩:=H
  replace H:(some t169)=some r:=H
  have A4:=am A40
  clear A40
  obtain rfl:=Option.some.inj H
  go_enter Try.func120,Try.ntmps120
  go_wp2_with (first|((with_reducible refine gate_dst (N:=1) rfl ?_);refine box_event ?hg (N:=1) ?hd (cs:=#[.int .i64 a0_0, .int .i64 a0_1]) (t:=72) ?hr ?_;(case hd=>rfl);(case hg=>rfl);(case hr=>first|(go_simp;done)|(go_simp;rfl));intro gb167 hg w5 hbox hb;have n0_:=am (pu d0 hb);have n1_:=am (hbox);have n2_:=am ((by rw [hg];exact (pz d0):w.heap.size≤gb167));have n3_:=n2_;clear HB;have HB:=n0_;have BK167:=n1_;have GW167:=n2_;have GE167:=n3_;clear n0_ n1_ n2_ n3_;clear hb hbox hg;have hcz6_0:w5.cell? ⟨gb167,0,none⟩=some (.int .i64 a0_0):=(blk_cell BK167.out 0).trans rfl;have hcz6_1:w5.cell? ⟨gb167,1,none⟩=some (.int .i64 a0_1):=(blk_cell BK167.out 1).trans rfl;have hfz6_0:=blk_frozen BK167.out 0;have hfz6_1:=blk_frozen BK167.out 1)|((with_reducible refine gate_callee (f:=121) rfl ?_);refine goesL_ (some 5) rfl rfl Try.func121 d3 rfl #[.int .i64 a0_1, .int .i64 2, .int .i64 4] rfl d5 ?_;(with_reducible refine (spec_l1In.calls a0_1 2 4 true _ A2.out).mono ?_);rintro e w' ⟨rfl,⟨nd,rfl⟩⟩;refine ⟨_,rfl,?_⟩)|(go_at_call 121;(with_reducible refine (spec_l1In.calls a0_0 (wrap64 ((wrap64 (2*a0_1)) - 1)) 14 t169 _ A4.out).mono ?_);rintro e w' ⟨rfl,⟨nd,rfl⟩⟩))
  go_ret
  exact ⟨d4,by repeat (first|(with_reducible first|exact HB.out|apply pa|apply pb|apply pd|refine pt ?_ GE167.out)|exact HB.out)⟩
 replace c3:=Bool.eq_false_iff.mpr c3
 subst c3
 have H1:(some false)=some r:=by rw [if_neg (show ¬ (false=true) by decide)] at H;exact H
 clear H
 have H:=H1
 clear H1
 obtain rfl:=Option.some.inj H
 go_enter Try.func120,Try.ntmps120
 go_wp2_with (first|((with_reducible refine gate_dst (N:=1) rfl ?_);refine box_event ?hg (N:=1) ?hd (cs:=#[.int .i64 a0_0, .int .i64 a0_1]) (t:=72) ?hr ?_;(case hd=>rfl);(case hg=>rfl);(case hr=>first|(go_simp;done)|(go_simp;rfl));intro gb167 hg w7 hbox hb;have n0_:=am (pu d0 hb);have n1_:=am (hbox);have n2_:=am ((by rw [hg];exact (pz d0):w.heap.size≤gb167));have n3_:=n2_;clear HB;have HB:=n0_;have BK167:=n1_;have GW167:=n2_;have GE167:=n3_;clear n0_ n1_ n2_ n3_;clear hb hbox hg;have hcz8_0:w7.cell? ⟨gb167,0,none⟩=some (.int .i64 a0_0):=(blk_cell BK167.out 0).trans rfl;have hcz8_1:w7.cell? ⟨gb167,1,none⟩=some (.int .i64 a0_1):=(blk_cell BK167.out 1).trans rfl;have hfz8_0:=blk_frozen BK167.out 0;have hfz8_1:=blk_frozen BK167.out 1)|((with_reducible refine gate_callee (f:=121) rfl ?_);refine goesL_ (some 5) rfl rfl Try.func121 d3 rfl #[.int .i64 a0_1, .int .i64 2, .int .i64 4] rfl d5 ?_;(with_reducible refine (spec_l1In.calls a0_1 2 4 false _ A2.out).mono ?_);rintro e w' ⟨rfl,⟨nd,rfl⟩⟩;refine ⟨_,rfl,?_⟩))
 go_ret
 exact ⟨d4,by repeat (first|(with_reducible first|exact HB.out|apply pa|apply pb|apply pd|refine pt ?_ GE167.out)|exact HB.out)⟩

def spec_l5Piece.f (a0_0:Int) (a0_1:Int) (a1_0:Int) (l1_1:List Int):Option (Bool):=(spec_l1In.f a1_0 0 (wrap64 (a0_0 - 1))).bind fun t172=>(if t172=true then (some ((l1_1.length:Int) == (wrap64 (a0_1 - 1)))) else (some false))
theorem spec_l5Piece.calls (a0_0:Int) (a0_1:Int) (a1_0:Int) (A1_1:Option Addr) (c1_1:Nat) (l1_1:List Int) (r:Bool) (w:World) (hr1_1:Kd.C (Kd.int .u8) w A1_1 l1_1.length l1_1) (hc1_1:l1_1.length≤c1_1) (h:spec_l5Piece.f a0_0 a0_1 a1_0 l1_1=some r) :
  Calls Try.prog 149 #[.agg #[.int .i64 a0_0, .int .i64 a0_1], .agg #[.int .i64 a1_0, .slice A1_1 l1_1.length c1_1]] w fun e w'=>e = .returned (.bool r)∧Below w.heap.size w w':=by
 have hu72:=Try.underlying72
 have hu69:=Try.underlying69
 have HR1_1:=am hr1_1
 have HC1_1:=am hc1_1
 clear hr1_1 hc1_1
 have HB:=am (Below.refl w.heap.size w)
 have H:((spec_l1In.f a1_0 0 (wrap64 (a0_0 - 1))).bind fun t172=>(if t172=true then (some ((l1_1.length:Int) == (wrap64 (a0_1 - 1)))) else (some false)))=some r:=h
 clear h
 replace H:=Option.bind_eq_some_iff.mp H
 obtain ⟨t172,A30,H⟩:=H
 replace H:(if t172=true then (some ((l1_1.length:Int) == (wrap64 (a0_1 - 1)))) else (some false))=some r:=H
 have A3:=am A30
 clear A30
 by_cases c4:t172=true
 ·subst c4
  have H1:(some ((l1_1.length:Int) == (wrap64 (a0_1 - 1))))=some r:=by rw [if_pos rfl] at H;exact H
  clear H
  have H:=H1
  clear H1
  obtain rfl:=Option.some.inj H
  go_enter Try.func149,Try.ntmps149
  go_wp2_with (first|((with_reducible refine gate_dst (N:=2) rfl ?_);(try (refine gate_guard d18 ?_;dsimp only));refine box_event ?hg (N:=2) ?hd (cs:=#[.int .i64 a0_0, .int .i64 a0_1]) (t:=72) ?hr ?_;(case hd=>rfl);(case hg=>rfl);(case hr=>first|(go_simp;done)|(go_simp;rfl));intro gb170 hg w5 hbox hb;have n0_:=am (pu d0 hb);have n1_:=am (hbox);have n2_:=am ((by rw [hg];exact (pz d0):w.heap.size≤gb170));have n3_:=n2_;clear HB;have HB:=n0_;have BK170:=n1_;have GW170:=n2_;have GE170:=n3_;clear n0_ n1_ n2_ n3_;clear hb hbox hg)|((with_reducible refine gate_dst (N:=3) rfl ?_);(try (refine gate_guard d18 ?_;dsimp only));refine box_event ?hg (N:=3) ?hd (cs:=#[.int .i64 a1_0, .slice A1_1 l1_1.length c1_1]) (t:=69) ?hr ?_;(case hd=>rfl);(case hg=>rfl);(case hr=>first|(go_simp;done)|(go_simp;rfl));intro gb171 hg w6 hbox hb;have n0_:=am (qb (g:=gb170) (o:=.cells #[.int .i64 a0_0, .int .i64 a0_1] 72 (0,0)) (by (with_reducible repeat (first|refine qn ?_ _|refine qd ?_|refine qa ?_ _));exact BK170.out) hb);have n1_:=am (pu (by repeat (first|(with_reducible first|exact HB.out|apply pa|apply pb|apply pd|refine pt ?_ GE170.out)|exact HB.out)) hb);have n2_:=am (hbox);have n3_:=am ((by rw [hg];exact (pz (by repeat (first|(with_reducible first|exact HB.out|apply pa|apply pb|apply pd|refine pt ?_ GE170.out)|exact HB.out))):w.heap.size≤gb171));have n4_:=n3_;have n5_:=am ((by rw [hg];exact Nat.ne_of_lt (blk_lt (g:=gb170) (o:=.cells #[.int .i64 a0_0, .int .i64 a0_1] 72 (0,0)) (by (with_reducible repeat (first|refine qn ?_ _|refine qd ?_|refine qa ?_ _));exact BK170.out)):gb170 ≠ gb171));have n6_:=am ((by rw [hg];exact Nat.ne_of_gt (blk_lt (g:=gb170) (o:=.cells #[.int .i64 a0_0, .int .i64 a0_1] 72 (0,0)) (by (with_reducible repeat (first|refine qn ?_ _|refine qd ?_|refine qa ?_ _));exact BK170.out)):gb171 ≠ gb170));clear BK170;clear HB;have BK170:=n0_;have HB:=n1_;have BK171:=n2_;have GW171:=n3_;have GE171:=n4_;have NB170_171:=n5_;have NB171_170:=n6_;clear n0_ n1_ n2_ n3_ n4_ n5_ n6_;clear hb hbox hg;have hnb7:=NB171_170.out;have hnc7:=NB170_171.out;have hcz8_0:w6.cell? ⟨gb171,0,none⟩=some (.int .i64 a1_0):=(blk_cell BK171.out 0).trans rfl;have hcz8_1:w6.cell? ⟨gb171,1,none⟩=some (.slice A1_1 l1_1.length c1_1):=(blk_cell BK171.out 1).trans rfl;have hfz8_0:=blk_frozen BK171.out 0;have hfz8_1:=blk_frozen BK171.out 1;have hcz9_0:w6.cell? ⟨gb170,0,none⟩=some (.int .i64 a0_0):=(blk_cell BK170.out 0).trans rfl;have hcz9_1:w6.cell? ⟨gb170,1,none⟩=some (.int .i64 a0_1):=(blk_cell BK170.out 1).trans rfl;have hfz9_0:=blk_frozen BK170.out 0;have hfz9_1:=blk_frozen BK170.out 1)|((with_reducible refine gate_callee (f:=121) rfl ?_);refine goesL_ (some 10) rfl rfl Try.func121 d3 rfl #[.int .i64 a1_0, .int .i64 0, .int .i64 (wrap64 (a0_0 - 1))] rfl d5 ?_;(with_reducible refine (spec_l1In.calls a1_0 0 (wrap64 (a0_0 - 1)) true _ A3.out).mono ?_);rintro e w' ⟨rfl,⟨nd,rfl⟩⟩;refine ⟨_,rfl,?_⟩))
  go_ret
  exact ⟨d4,by repeat (first|(with_reducible first|exact HB.out|apply pa|apply pb|apply pd|refine pt ?_ GE170.out|refine pt ?_ GE171.out)|exact HB.out)⟩
 replace c4:=Bool.eq_false_iff.mpr c4
 subst c4
 have H1:(some false)=some r:=by rw [if_neg (show ¬ (false=true) by decide)] at H;exact H
 clear H
 have H:=H1
 clear H1
 obtain rfl:=Option.some.inj H
 go_enter Try.func149,Try.ntmps149
 go_wp2_with (first|((with_reducible refine gate_dst (N:=2) rfl ?_);(try (refine gate_guard d18 ?_;dsimp only));refine box_event ?hg (N:=2) ?hd (cs:=#[.int .i64 a0_0, .int .i64 a0_1]) (t:=72) ?hr ?_;(case hd=>rfl);(case hg=>rfl);(case hr=>first|(go_simp;done)|(go_simp;rfl));intro gb170 hg w10 hbox hb;have n0_:=am (pu d0 hb);have n1_:=am (hbox);have n2_:=am ((by rw [hg];exact (pz d0):w.heap.size≤gb170));have n3_:=n2_;clear HB;have HB:=n0_;have BK170:=n1_;have GW170:=n2_;have GE170:=n3_;clear n0_ n1_ n2_ n3_;clear hb hbox hg)|((with_reducible refine gate_dst (N:=3) rfl ?_);(try (refine gate_guard d18 ?_;dsimp only));refine box_event ?hg (N:=3) ?hd (cs:=#[.int .i64 a1_0, .slice A1_1 l1_1.length c1_1]) (t:=69) ?hr ?_;(case hd=>rfl);(case hg=>rfl);(case hr=>first|(go_simp;done)|(go_simp;rfl));intro gb171 hg w11 hbox hb;have n0_:=am (qb (g:=gb170) (o:=.cells #[.int .i64 a0_0, .int .i64 a0_1] 72 (0,0)) (by (with_reducible repeat (first|refine qn ?_ _|refine qd ?_|refine qa ?_ _));exact BK170.out) hb);have n1_:=am (pu (by repeat (first|(with_reducible first|exact HB.out|apply pa|apply pb|apply pd|refine pt ?_ GE170.out)|exact HB.out)) hb);have n2_:=am (hbox);have n3_:=am ((by rw [hg];exact (pz (by repeat (first|(with_reducible first|exact HB.out|apply pa|apply pb|apply pd|refine pt ?_ GE170.out)|exact HB.out))):w.heap.size≤gb171));have n4_:=n3_;have n5_:=am ((by rw [hg];exact Nat.ne_of_lt (blk_lt (g:=gb170) (o:=.cells #[.int .i64 a0_0, .int .i64 a0_1] 72 (0,0)) (by (with_reducible repeat (first|refine qn ?_ _|refine qd ?_|refine qa ?_ _));exact BK170.out)):gb170 ≠ gb171));have n6_:=am ((by rw [hg];exact Nat.ne_of_gt (blk_lt (g:=gb170) (o:=.cells #[.int .i64 a0_0, .int .i64 a0_1] 72 (0,0)) (by (with_reducible repeat (first|refine qn ?_ _|refine qd ?_|refine qa ?_ _));exact BK170.out)):gb171 ≠ gb170));clear BK170;clear HB;have BK170:=n0_;have HB:=n1_;have BK171:=n2_;have GW171:=n3_;have GE171:=n4_;have NB170_171:=n5_;have NB171_170:=n6_;clear n0_ n1_ n2_ n3_ n4_ n5_ n6_;clear hb hbox hg;have hnb12:=NB171_170.out;have hnc12:=NB170_171.out;have hcz13_0:w11.cell? ⟨gb171,0,none⟩=some (.int .i64 a1_0):=(blk_cell BK171.out 0).trans rfl;have hcz13_1:w11.cell? ⟨gb171,1,none⟩=some (.slice A1_1 l1_1.length c1_1):=(blk_cell BK171.out 1).trans rfl;have hfz13_0:=blk_frozen BK171.out 0;have hfz13_1:=blk_frozen BK171.out 1;have hcz14_0:w11.cell? ⟨gb170,0,none⟩=some (.int .i64 a0_0):=(blk_cell BK170.out 0).trans rfl;have hcz14_1:w11.cell? ⟨gb170,1,none⟩=some (.int .i64 a0_1):=(blk_cell BK170.out 1).trans rfl;have hfz14_0:=blk_frozen BK170.out 0;have hfz14_1:=blk_frozen BK170.out 1)|((with_reducible refine gate_callee (f:=121) rfl ?_);refine goesL_ (some 10) rfl rfl Try.func121 d3 rfl #[.int .i64 a1_0, .int .i64 0, .int .i64 (wrap64 (a0_0 - 1))] rfl d5 ?_;(with_reducible refine (spec_l1In.calls a1_0 0 (wrap64 (a0_0 - 1)) false _ A3.out).mono ?_);rintro e w' ⟨rfl,⟨nd,rfl⟩⟩;refine ⟨_,rfl,?_⟩))
 go_ret
 exact ⟨d4,by repeat (first|(with_reducible first|exact HB.out|apply pa|apply pb|apply pd|refine pt ?_ GE170.out|refine pt ?_ GE171.out)|exact HB.out)⟩

def spec_l5X.f (k:Nat) (a0:Int):Option (Int):=(spec_l1Power.f k 3 (wrap64 (a0+1))).bind fun t173=>(some t173)
theorem spec_l5X.mono:∀ a0 k,LeO (spec_l5X.f k a0) (spec_l5X.f (k+1) a0):=by
 intro a0 k
 unfold spec_l5X.f
 repeat' first
   | (with_reducible exact spec_l1Power.mono _ _ _)
   |(with_reducible exact LeO.refl _)|(with_reducible exact LeO.none _)|(with_reducible refine LeO.ite ?_ ?_)|(with_reducible refine LeO.bind ?_ (fun _=>?_))|exact spec_l1Power.mono _ _ _|exact LeO.none _|refine LeO.ite ?_ ?_|refine LeO.bind ?_ (fun _=>?_)
theorem spec_l5X.calls (k:Nat) (a0:Int) (r:Int) (w:World) (h:spec_l5X.f k a0=some r) :
  Calls Try.prog 191 #[.int .i64 a0] w fun e w'=>e = .returned (.int .u8 r)∧Drawn0 w w':=by
 have H:((spec_l1Power.f k 3 (wrap64 (a0+1))).bind fun t173=>(some t173))=some r:=h
 clear h
 replace H:=Option.bind_eq_some_iff.mp H
 obtain ⟨t173,A20,H⟩:=H
 replace H:(some t173)=some r:=H
 have A2:=am A20
 clear A20
 obtain rfl:=Option.some.inj H
 go_enter Try.func191,Try.ntmps191
 go_wp2_with (first|((with_reducible refine gate_callee (f:=173) rfl ?_);refine goesL_ (some 5) rfl rfl Try.func173 d3 rfl #[.int .u8 3, .int .i64 (wrap64 (a0+1))] rfl d5 ?_;(with_reducible refine (spec_l1Power.calls k 3 (wrap64 (a0+1)) t173 _ A2.out).mono ?_);rintro e w' ⟨rfl,⟨nd,rfl⟩⟩;refine ⟨_,rfl,?_⟩))
 go_ret
 exact ⟨d2,d12⟩

def spec_l5F.f (k:Nat) (a0_0:Int) (a0_1:Int) (a1:Int):Option (Int):=(spec_l5X.f k a1).bind fun t122=>((spec_l1Power.f k t122 (wrap64 (a0_1 - 1))).bind fun t123=>(some t123))
theorem spec_l5F.mono:∀ a0 a1 a2 k,LeO (spec_l5F.f k a0 a1 a2) (spec_l5F.f (k+1) a0 a1 a2):=by
 intro a0 a1 a2 k
 unfold spec_l5F.f
 exact LeO.bind (spec_l5X.mono _ _) (fun _=>LeO.bind (spec_l1Power.mono _ _ _) (fun _=>LeO.refl _))
set_option maxHeartbeats 4000000 in
theorem spec_l5F.calls (k:Nat) (a0_0:Int) (a0_1:Int) (a1:Int) (r:Int) (w:World) (h:spec_l5F.f k a0_0 a0_1 a1=some r) :
  Calls Try.prog 125 #[.agg #[.int .i64 a0_0, .int .i64 a0_1], .int .i64 a1] w fun e w'=>e = .returned (.int .u8 r)∧Below w.heap.size w w':=by
 unfold spec_l5F.f at h
 obtain ⟨x,hx,h⟩:=Option.bind_eq_some_iff.mp h
 obtain ⟨y,hy,h⟩:=Option.bind_eq_some_iff.mp h
 obtain rfl:=Option.some.inj h
 have HX:=am hx
 have HY:=am hy
 clear hx hy h
 go_enter Try.func125,Try.ntmps125
 go_wp2_with fail
 obtain ⟨W,hW⟩:∃ W:World,W=w.alloc (.cells #[.int .i64 a0_0, .int .i64 a0_1] 72 (0,0)):=⟨_,rfl⟩
 have hb:Below w.heap.size w W:=by rw [hW];exact pa (Below.refl _ _) _
 have hc1:W.cell? ⟨w.heap.size,1,none⟩=some (.int .i64 a0_1):=by rw [hW];go_simp
 rw [← hW]
 have HB:=am hb
 clear hb hW
 go_quiet (first|(go_at_call 191;(with_reducible refine (spec_l5X.calls k a1 x _ HX.out).mono ?_);rintro e w' ⟨rfl,⟨nd,rfl⟩⟩;exact ⟨rfl,_,World.drewN_drewN _ _ _⟩)|(go_at_call 173;(with_reducible refine (spec_l1Power.calls k x (wrap64 (a0_1 - 1)) y _ HY.out).mono ?_);rintro e w' ⟨rfl,⟨nd,rfl⟩⟩;exact ⟨rfl,_,World.drewN_drewN _ _ _⟩))
 go_wp2
 go_ret
 exact ⟨rfl,pb HB.out _⟩

def spec_l5Short.l0:Nat→Int→List Int→Int→Int→Int→Option (List Int)
 | 0,_,_,_,_,_=>none
 | k+1,x1,x5,x6,x175000,x175001=>if x6 < (wrap64 (x175001 - 1)) then ((spec_l5X.f k x1).bind fun t175=>((spec_l1Power.f k t175 x6).bind fun t176=>(if x5.length < 140737488355328 then (spec_l5Short.l0 k x1 (x5 ++ [t176]) (wrap64 (x6+1)) x175000 x175001) else (none)))) else (some x5)
def spec_l5Short.f (k:Nat) (a0_0:Int) (a0_1:Int) (a1:Int):Option (List Int):=spec_l5Short.l0 k a1 ([]:List Int) 0 a0_0 a0_1
theorem spec_l5Short.mono_l:∀ k,(∀ y0 y1 y2 y3 y4,LeO (spec_l5Short.l0 k y0 y1 y2 y3 y4) (spec_l5Short.l0 (k+1) y0 y1 y2 y3 y4))
 | 0=>fun _ _ _ _ _ r h=>by simp [spec_l5Short.l0] at h
 | k+1=>by
  have ih0:=spec_l5Short.mono_l k
  intro y0 y1 y2 y3 y4
  unfold spec_l5Short.l0
  repeat' first
  | (with_reducible exact ih0 _ _ _ _ _)
  | (with_reducible exact spec_l1Power.mono _ _ _)
  | (with_reducible exact spec_l5X.mono _ _)
  |(with_reducible exact LeO.refl _)|(with_reducible exact LeO.none _)|(with_reducible refine LeO.ite ?_ ?_)|(with_reducible refine LeO.bind ?_ (fun _=>?_))|exact ih0 _ _ _ _ _|exact spec_l1Power.mono _ _ _|exact spec_l5X.mono _ _|exact LeO.none _|refine LeO.ite ?_ ?_|refine LeO.bind ?_ (fun _=>?_)
theorem spec_l5Short.mono:∀ a0 a1 a2 k,LeO (spec_l5Short.f k a0 a1 a2) (spec_l5Short.f (k+1) a0 a1 a2):=by
 intro a0 a1 a2 k
 have ih0:=spec_l5Short.mono_l k
 unfold spec_l5Short.f
 repeat' first
   | (with_reducible exact ih0 _ _ _ _ _)
   | (with_reducible exact spec_l1Power.mono _ _ _)
   | (with_reducible exact spec_l5X.mono _ _)
   |(with_reducible exact LeO.refl _)|(with_reducible exact LeO.none _)|(with_reducible refine LeO.ite ?_ ?_)|(with_reducible refine LeO.bind ?_ (fun _=>?_))|exact ih0 _ _ _ _ _|exact spec_l1Power.mono _ _ _|exact spec_l5X.mono _ _|exact LeO.none _|refine LeO.ite ?_ ?_|refine LeO.bind ?_ (fun _=>?_)
theorem spec_l5Short.calls (k:Nat) (a0_0:Int) (a0_1:Int) (a1:Int) (r:List Int) (w:World) (h:spec_l5Short.f k a0_0 a0_1 a1=some r) :
  Calls Try.prog 190 #[.agg #[.int .i64 a0_0, .int .i64 a0_1], .int .i64 a1] w fun e w'=>∃ v0_:Value,e = .returned (v0_)∧Kd.R (Kd.int .u8) 5 w' w.heap.size (fun _=>True) v0_ r∧Below w.heap.size w w':=by
 have hu72:=Try.underlying72
 have HB:=am (Below.refl w.heap.size w)
 have H:(spec_l5Short.l0 k a1 ([]:List Int) 0 a0_0 a0_1)=some r:=h
 clear h
 have H':=am H
 clear H
 go_enter Try.func190,Try.ntmps190
 go_wp2_with (first|((with_reducible refine gate_dst (N:=2) rfl ?_);refine box_event ?hg (N:=2) ?hd (cs:=#[.int .i64 a0_0, .int .i64 a0_1]) (t:=72) ?hr ?_;(case hd=>rfl);(case hg=>rfl);(case hr=>first|(go_simp;done)|(go_simp;rfl));intro gb174 hg w3 hbox hb;have n0_:=am (pu d0 hb);have n1_:=am (hbox);have n2_:=am ((by rw [hg];exact (pz d0):w.heap.size≤gb174));have n3_:=n2_;clear HB;have HB:=n0_;have BK174:=n1_;have GW174:=n2_;have GE174:=n3_;clear n0_ n1_ n2_ n3_;clear hb hbox hg))
 go_loopg [5,6] k (fun kq v5 v6 w'=>∃ (x5_1:List Int) (x6_1:Int),v6 = .int .i64 x6_1∧Aside0 (spec_l5Short.l0 kq a1 x5_1 x6_1 a0_0 a0_1=some r)∧Aside0 (kq≤k)∧Aside0 (Kd.R (Kd.int .u8) 5 w' w.heap.size (fun _=>True) v5 x5_1)∧Aside0 (w'.heap[gb174]? = some (.cells #[.int .i64 a0_0, .int .i64 a0_1] 72 (0,0)))∧Aside0 (Below w.heap.size w w'))
 case atStart=>exact ⟨(([]:List Int)),(0),d2,H',⟨Nat.le_refl _⟩,⟨d16⟩,⟨by (with_reducible repeat (first|refine qn ?_ _|refine qd ?_|refine qa ?_ _));exact BK174.out⟩,⟨by repeat (first|(with_reducible first|exact HB.out|apply pa|apply pb|apply pd|refine pt ?_ GE174.out)|exact HB.out)⟩⟩
 case round =>
  clear H'
  try clear c1
  try clear p2
  obtain ⟨x5_1,x6_1,rfl,HA,HK1,HO_5,BK174,HB⟩:=hrel
  cases gk with
  | zero=>exact absurd HA.out (by simp [spec_l5Short.l0])
  | succ k1 =>
   have H:=HA.out
   clear HA
   simp only [spec_l5Short.l0] at H
   by_cases c4:x6_1 < (wrap64 (a0_1 - 1))
   ·rw [if_pos c4] at H
    have c4b0:decide (x6_1 < (wrap64 (a0_1 - 1)))=true:=decide_eq_true c4
    clear c4
    replace H:=Option.bind_eq_some_iff.mp H
    obtain ⟨t175,A50,H⟩:=H
    replace H:((spec_l1Power.f k1 t175 x6_1).bind fun t176=>(if x5_1.length < 140737488355328 then (spec_l5Short.l0 k1 a1 (x5_1 ++ [t176]) (wrap64 (x6_1+1)) a0_0 a0_1) else (none)))=some r:=H
    have A5:=am A50
    clear A50
    replace H:=Option.bind_eq_some_iff.mp H
    obtain ⟨t176,A60,H⟩:=H
    replace H:(if x5_1.length < 140737488355328 then (spec_l5Short.l0 k1 a1 (x5_1 ++ [t176]) (wrap64 (x6_1+1)) a0_0 a0_1) else (none))=some r:=H
    have A6:=am A60
    clear A60
    by_cases c7:x5_1.length < 140737488355328
    ·rw [if_pos c7] at H
     have LMc7:=am c7
     clear c7
     obtain ⟨y177,hy177⟩:∃ y_:List Int,y_=(x5_1 ++ [t176]):=⟨_,rfl⟩
     replace H:(spec_l5Short.l0 k1 a1 y177 (wrap64 (x6_1+1)) a0_0 a0_1)=some r:=by first|(rw [hy177];with_reducible exact H)|(have H2_:=(Option.bind_some _ _).symm.trans H;rw [hy177];with_reducible exact H2_)|(have H2_:=(Option.bind_some _ _).symm.trans H;with_reducible exact H2_)|with_reducible exact H|(rw [hy177];exact H)|exact H
     have Ny177:=am hy177
     clear hy177
     have H':=am H
     clear H
     have hcz8_0:wr.cell? ⟨gb174,0,none⟩=some (.int .i64 a0_0):=(blk_cell BK174.out 0).trans rfl
     have hcz8_1:wr.cell? ⟨gb174,1,none⟩=some (.int .i64 a0_1):=(blk_cell BK174.out 1).trans rfl
     have hfz8_0:=blk_frozen BK174.out 0
     have hfz8_1:=blk_frozen BK174.out 1
     go_wp2_with (first|((with_reducible refine gate_callee (f:=191) rfl ?_);refine goesL_ (some 16) rfl rfl Try.func191 d3 rfl #[.int .i64 a1] rfl d5 ?_;(with_reducible refine (spec_l5X.calls k1 a1 t175 _ A5.out).mono ?_);rintro e w' ⟨rfl,⟨nd,rfl⟩⟩;refine ⟨_,rfl,?_⟩)|((with_reducible refine gate_callee (f:=173) rfl ?_);refine goesL_ (some 18) rfl rfl Try.func173 d3 rfl #[.int .u8 t175, .int .i64 x6_1] rfl d5 ?_;(with_reducible refine (spec_l1Power.calls k1 t175 x6_1 t176 _ A6.out).mono ?_);rintro e w' ⟨rfl,⟨nd,rfl⟩⟩;refine ⟨_,rfl,?_⟩)|((with_reducible refine gate_builtin (b:=.append) (xs:=#[.tmp 14, .tmp 19]) rfl ?_);at_builtin;refine Kd.R_append (Kd.int .u8) (w0:=w) w.heap.size rfl (.tmp 14) (.tmp 19) 57 5 (.int .u8 0) 1 rfl Try.underlying57 info5 rfl d11 d10 u5 x5_1 t176 [.int .u8 t176] (fun _=>True) (fun _=>False) rfl rfl ?aP (fun _ hk=>hk.elim) ?aF ?aO ?aB ?aS ?aL ?_;(case aP=>exact rfl);(case aB=>exact (by repeat (first|(with_reducible first|exact HB.out|apply pa|apply pb|apply pd|refine pt ?_ GE174.out)|exact HB.out)));(case aF=>exact (fun _ _=>trivial));(case aO=>exact d19);(case aS=>exact (pz (by repeat (first|(with_reducible first|exact HB.out|apply pa|apply pb|apply pd|refine pt ?_ GE174.out)|exact HB.out))));(case aL=>have:=LMc7.out;omega);intro v178 w9 ho hb hg hat;rw [← Ny177.out] at ho;have n0_:=am (blk_grown (g:=gb174) (o:=.cells #[.int .i64 a0_0, .int .i64 a0_1] 72 (0,0)) (by (with_reducible repeat (first|refine qn ?_ _|refine qd ?_|refine qa ?_ _));exact BK174.out) hg (Kd.R_ne HO_5.out BK174.out d11));have n1_:=am (hb);have n2_:=am (ho);clear BK174;clear HB;clear HO_5;have BK174:=n0_;have HB:=n1_;have HO179:=n2_;clear n0_ n1_ n2_;clear ho hb hg hat))
     go_roundg k1
     case measure=>have:=HK1.out;omega
     case rel=>exact ⟨(y177),(wrap64 (x6_1+1)),d2,H',⟨d30⟩,⟨by (with_reducible repeat (first|apply Kd.R_alloc|apply Kd.R_drewN|apply Kd.R_drew));exact HO179.out⟩,⟨by (with_reducible repeat (first|refine qn ?_ _|refine qd ?_|refine qa ?_ _));exact BK174.out⟩,⟨by repeat (first|(with_reducible first|exact HB.out|apply pa|apply pb|apply pd|refine pt ?_ GE174.out)|exact HB.out)⟩⟩
    rw [if_neg c7] at H
    exact absurd H d20
   rw [if_neg c4] at H
   have c4b0:decide (x6_1 < (wrap64 (a0_1 - 1)))=false:=decide_eq_false c4
   clear c4
   obtain rfl:=Option.some.inj H
   have hcz10_0:wr.cell? ⟨gb174,0,none⟩=some (.int .i64 a0_0):=(blk_cell BK174.out 0).trans rfl
   have hcz10_1:wr.cell? ⟨gb174,1,none⟩=some (.int .i64 a0_1):=(blk_cell BK174.out 1).trans rfl
   have hfz10_0:=blk_frozen BK174.out 0
   have hfz10_1:=blk_frozen BK174.out 1
   go_wp2
   go_ret
   exact ⟨_,d4,d19,by repeat (first|(with_reducible first|exact HB.out|apply pa|apply pb|apply pd|refine pt ?_ GE174.out)|exact HB.out)⟩

def spec_l5Row.f (k:Nat) (a0_0:Int) (a0_1:Int) (a1:Int):Option (List Int):=(spec_l5Short.f k a0_0 a0_1 a1).bind fun t181=>((some (([]:List Int):List Int)).bind fun y184=>(if y184.length+t181.length < 140737488355328 then ((some (y184 ++ t181:List Int)).bind fun y187=>((spec_l5F.f k a0_0 a0_1 a1).bind fun t190=>((spec_l1Scale.f k t190 t181).bind fun t191=>(if y187.length+t191.length < 140737488355328 then (some (y187 ++ t191)) else (none))))) else (none)))
theorem spec_l5Row.mono:∀ a0 a1 a2 k,LeO (spec_l5Row.f k a0 a1 a2) (spec_l5Row.f (k+1) a0 a1 a2):=by
 intro a0 a1 a2 k
 unfold spec_l5Row.f
 repeat' first
   | (with_reducible exact spec_l1Scale.mono _ _ _)
   | (with_reducible exact spec_l5F.mono _ _ _ _)
   | (with_reducible exact spec_l5Short.mono _ _ _ _)
   |(with_reducible exact LeO.refl _)|(with_reducible exact LeO.none _)|(with_reducible refine LeO.ite ?_ ?_)|(with_reducible refine LeO.bind ?_ (fun _=>?_))|exact spec_l1Scale.mono _ _ _|exact spec_l5F.mono _ _ _ _|exact spec_l5Short.mono _ _ _ _|exact LeO.none _|refine LeO.ite ?_ ?_|refine LeO.bind ?_ (fun _=>?_)
def spec_l5Row.T2:Bool × List (List Nat × List Nat):=(true,[([],[]),([],[]),([0,1],[0,1]),([],[]),([],[]),([3,4,2],[3,4]),([],[]),([5,6,5],[5,6]),([2,7,7],[2,7]),([8,8,0,1,2,3,4,5,6,7,8],[8])])
def spec_l5Row.B2:List Nat:=[0,0,3,0,0,31,0,127,255,511]
theorem spec_l5Row.tab2:rtab .any (opsOf Try.f122 2)=spec_l5Row.T2:=by kernel_rfl
theorem spec_l5Row.bits2:waitsOk spec_l5Row.T2.2 spec_l5Row.B2=true:=by kernel_rfl
theorem spec_l5Row.calls (k:Nat) (a0_0:Int) (a0_1:Int) (a1:Int) (r:List Int) (w:World) (h:spec_l5Row.f k a0_0 a0_1 a1=some r) :
  Calls Try.prog 122 #[.agg #[.int .i64 a0_0, .int .i64 a0_1], .int .i64 a1] w fun e w'=>∃ v0_:Value,e = .returned (v0_)∧Kd.R (Kd.int .u8) 5 w' w.heap.size (fun _=>True) v0_ r∧Below w.heap.size w w':=by
 have hu72:=Try.underlying72
 have HB:=am (Below.refl w.heap.size w)
 have H:((spec_l5Short.f k a0_0 a0_1 a1).bind fun t181=>((some (([]:List Int):List Int)).bind fun y184=>(if y184.length+t181.length < 140737488355328 then ((some (y184 ++ t181:List Int)).bind fun y187=>((spec_l5F.f k a0_0 a0_1 a1).bind fun t190=>((spec_l1Scale.f k t190 t181).bind fun t191=>(if y187.length+t191.length < 140737488355328 then (some (y187 ++ t191)) else (none))))) else (none))))=some r:=h
 clear h
 replace H:=Option.bind_eq_some_iff.mp H
 obtain ⟨t181,A30,H⟩:=H
 replace H:((some (([]:List Int):List Int)).bind fun y184=>(if y184.length+t181.length < 140737488355328 then ((some (y184 ++ t181:List Int)).bind fun y187=>((spec_l5F.f k a0_0 a0_1 a1).bind fun t190=>((spec_l1Scale.f k t190 t181).bind fun t191=>(if y187.length+t191.length < 140737488355328 then (some (y187 ++ t191)) else (none))))) else (none)))=some r:=H
 have A3:=am A30
 clear A30
 obtain ⟨y184,hy184⟩:∃ y_:List Int,y_=(([]:List Int)):=⟨_,rfl⟩
 replace H:(if y184.length+t181.length < 140737488355328 then ((some (y184 ++ t181:List Int)).bind fun y187=>((spec_l5F.f k a0_0 a0_1 a1).bind fun t190=>((spec_l1Scale.f k t190 t181).bind fun t191=>(if y187.length+t191.length < 140737488355328 then (some (y187 ++ t191)) else (none))))) else (none))=some r:=by first|(rw [hy184];with_reducible exact H)|(have H2_:=(Option.bind_some _ _).symm.trans H;rw [hy184];with_reducible exact H2_)|(have H2_:=(Option.bind_some _ _).symm.trans H;with_reducible exact H2_)|with_reducible exact H|(rw [hy184];exact H)|exact H
 have Ny184:=am hy184
 clear hy184
 by_cases c4:y184.length+t181.length < 140737488355328
 ·rw [if_pos c4] at H
  have LMc4:=am c4
  clear c4
  obtain ⟨y187,hy187⟩:∃ y_:List Int,y_=(y184 ++ t181):=⟨_,rfl⟩
  replace H:((spec_l5F.f k a0_0 a0_1 a1).bind fun t190=>((spec_l1Scale.f k t190 t181).bind fun t191=>(if y187.length+t191.length < 140737488355328 then (some (y187 ++ t191)) else (none))))=some r:=by first|(rw [hy187];with_reducible exact H)|(have H2_:=(Option.bind_some _ _).symm.trans H;rw [hy187];with_reducible exact H2_)|(have H2_:=(Option.bind_some _ _).symm.trans H;with_reducible exact H2_)|with_reducible exact H|(rw [hy187];exact H)|exact H
  have Ny187:=am hy187
  clear hy187
  replace H:=Option.bind_eq_some_iff.mp H
  obtain ⟨t190,A50,H⟩:=H
  replace H:((spec_l1Scale.f k t190 t181).bind fun t191=>(if y187.length+t191.length < 140737488355328 then (some (y187 ++ t191)) else (none)))=some r:=H
  have A5:=am A50
  clear A50
  replace H:=Option.bind_eq_some_iff.mp H
  obtain ⟨t191,A60,H⟩:=H
  replace H:(if y187.length+t191.length < 140737488355328 then (some (y187 ++ t191)) else (none))=some r:=H
  have A6:=am A60
  clear A60
  by_cases c7:y187.length+t191.length < 140737488355328
  ·rw [if_pos c7] at H
   have LMc7:=am c7
   clear c7
   obtain ⟨y194,hy194⟩:∃ y_:List Int,y_=(y187 ++ t191):=⟨_,rfl⟩
   replace H:(some y194)=some r:=by first|(rw [hy194];with_reducible exact H)|(have H2_:=(Option.bind_some _ _).symm.trans H;rw [hy194];with_reducible exact H2_)|(have H2_:=(Option.bind_some _ _).symm.trans H;with_reducible exact H2_)|with_reducible exact H|(rw [hy194];exact H)|exact H
   have Ny194:=am hy194
   clear hy194
   obtain rfl:=Option.some.inj H
   go_enter Try.func122,Try.ntmps122
   try go_wp2_with (first|((with_reducible refine gate_dst (N:=2) rfl ?_);refine box_event ?hg (N:=2) ?hd (cs:=#[.int .i64 a0_0, .int .i64 a0_1]) (t:=72) ?hr ?_;(case hd=>rfl);(case hg=>rfl);(case hr=>first|(go_simp;done)|(go_simp;rfl));intro gb180 hg w8 hbox hb;have n0_:=am (pu d0 hb);have n1_:=am (hbox);have n2_:=am ((by rw [hg];exact (pz d0):w.heap.size≤gb180));have n3_:=n2_;clear HB;have HB:=n0_;have BK180:=n1_;have GW180:=n2_;have GE180:=n3_;clear n0_ n1_ n2_ n3_;clear hb hbox hg;have hcz9_0:w8.cell? ⟨gb180,0,none⟩=some (.int .i64 a0_0):=(blk_cell BK180.out 0).trans rfl;have hcz9_1:w8.cell? ⟨gb180,1,none⟩=some (.int .i64 a0_1):=(blk_cell BK180.out 1).trans rfl;have hfz9_0:=blk_frozen BK180.out 0;have hfz9_1:=blk_frozen BK180.out 1)|((with_reducible refine gate_callee (f:=190) rfl ?_);refine goesL_ (some 8) rfl rfl Try.func190 d3 rfl #[.agg #[.int .i64 a0_0, .int .i64 a0_1], .int .i64 a1] rfl d5 ?_;(with_reducible refine (spec_l5Short.calls k a0_0 a0_1 a1 t181 _ A3.out).mono ?_);rintro e w10 ⟨v182,rfl,ho0,hb⟩;refine ⟨_,rfl,?_⟩;have n0_:=am (Kd.R_lower ho0 (pz (by repeat (first|(with_reducible first|exact HB.out|apply pa|apply pb|apply pd|refine pt ?_ GE180.out)|exact HB.out))));have n1_:=am (qb (g:=gb180) (o:=.cells #[.int .i64 a0_0, .int .i64 a0_1] 72 (0,0)) (by (with_reducible repeat (first|refine qn ?_ _|refine qd ?_|refine qa ?_ _));exact BK180.out) hb);have n2_:=am (pu (by repeat (first|(with_reducible first|exact HB.out|apply pa|apply pb|apply pd|refine pt ?_ GE180.out)|exact HB.out)) hb);clear BK180;clear HB;have HO183:=n0_;have BK180:=n1_;have HB:=n2_;clear n0_ n1_ n2_;(try clear hb);(try clear hb2);(try clear hk);(try clear hi);(try clear ho0)))
   have n0_:=am (Kd.R_drew HO183.out)
   have n1_:=am (qd BK180.out)
   have n2_:=am (pd HB.out)
   clear HO183
   clear BK180
   clear HB
   have HO183:=n0_
   have BK180:=n1_
   have HB:=n2_
   clear n0_ n1_ n2_
   refine rS (n:=10) (S:=fun w'=>w'.cell? ⟨gb180,0,none⟩=some (.int .i64 a0_0)∧w'.cell? ⟨gb180,1,none⟩=some (.int .i64 a0_1)) (ds:=[]) [(1,10),(4,13),(6,15),(3,12),(0,0),(2,0),(5,0),(7,0),(8,0),(9,4)] d3 rfl spec_l5Row.tab2 spec_l5Row.bits2 ⟨(blk_cell BK180.out 0).trans rfl,(blk_cell BK180.out 1).trans rfl⟩ (fun hHeld HT_ HW_=>?_)
   generalize w10.drew=w11 at HO183 BK180 HB hHeld ⊢
   refine rR ?_
   refine rO (N:=some 9) HT_ rfl rfl d3 d11 (fun K hK=>?_)
   refine Kd.R_lit_step (Kd.int .u8) _ 5 ?hg (N:=9) ?hd (xs:=([]:List Int)) (inner:=[]) (ok:=fun _=>True) (okp:=fun _=>True) ?hr ?hp (fun _ hk=>hk) trivial (Below.refl _ _) (Nat.le_refl _) d20 ?_;(case hd=>rfl);(case hg=>rfl);(case hr=>first|(go_simp;done)|(go_simp;rfl));(case hp=>exact (Reps.none _ _))
   intro v185 w12 ho13 hb hg_ hnew_
   clear hg_ hnew_
   (first|rw [← Ny184.out] at ho13|(simp only [Int.reduceToNat] at ho13;rw [← Ny184.out] at ho13))
   have n0_:=am (Kd.R_elder' d24 (Kd.R_base ho13) hb)
   have n1_:=am (Kd.R_lower (Kd.R_new' ho13 (Kd.R_lt d24)) (pz (by repeat (first|(with_reducible first|exact HB.out|apply pa|apply pb|apply pd|refine pt ?_ GE180.out)|exact HB.out))))
   have n2_:=am (qb (g:=gb180) (o:=.cells #[.int .i64 a0_0, .int .i64 a0_1] 72 (0,0)) (by (with_reducible repeat (first|refine qn ?_ _|refine qd ?_|refine qa ?_ _));exact BK180.out) hb)
   have n3_:=am (pu (by repeat (first|(with_reducible first|exact HB.out|apply pa|apply pb|apply pd|refine pt ?_ GE180.out)|exact HB.out)) hb)
   clear HO183
   clear BK180
   clear HB
   have HO183:=n0_
   have HO186:=n1_
   have BK180:=n2_
   have HB:=n3_
   clear n0_ n1_ n2_ n3_
   clear hb ho13
   obtain ⟨Ao15,co15,eo15⟩:=Kd.R_slice HO183.out
   (first|subst eo15|(injection eo15 with f1_ f2_ f3_;have f4_:=f1_.symm;have f5_:=f3_.symm;clear f1_ f2_ f3_;subst f4_;subst f5_))
   refine hK.out _ _ ⟨(blk_cell BK180.out 0).trans rfl,(blk_cell BK180.out 1).trans rfl⟩ (fun hHeld=>?_)
   clear hK K
   refine rN (a':=?_) ?_ ?_
   rotate_left
   ·show Act.put _ (some 9) _=_
    simp only [Act.put,q1,q2,q3,i64_w,i32_w]
    rfl
   refine rO (N:=some 11) HT_ rfl rfl d3 d11 (fun K hK=>?_)
   refine Kd.R_append_rows_step (Kd.int .u8) (w0:=w) w.heap.size d18 (.tmp 9) (.tmp 10) 57 5 (.int .u8 0) 1 rfl Try.underlying57 info5 rfl d11 d10 v185 y184 t181 _ _ _ (fun k_=>some k_ ≠ (.slice Ao15 t181.length co15:Value).ownBlock) (fun _=>False) rfl rfl ?aO ?aR (fun _ _ h=>h) (fun _ h=>h.elim) ?aF ?aB ?aS ?aL ?_
   (case aR=>repeat (first|exact (Kd.R_reads' HO183.out).2.2|(with_reducible refine Kd.C_alloc ?_ _)|(with_reducible refine Kd.C_drewN ?_ _)|(with_reducible refine Kd.C_drew ?_)))
   (case aB=>exact (by repeat (first|(with_reducible first|exact HB.out|apply pa|apply pb|apply pd|refine pt ?_ GE180.out)|exact HB.out)))
   (case aF=>exact (fun k_ hk=>Kd.fresh' (Kd.R_lt d24) k_ hk))
   (case aO=>exact (by (with_reducible repeat (first|apply Kd.R_alloc|apply Kd.R_drewN|apply Kd.R_drew));exact Kd.R_mono HO186.out (fun _ hk=>hk.2)))
   (case aS=>exact (pz (by repeat (first|(with_reducible first|exact HB.out|apply pa|apply pb|apply pd|refine pt ?_ GE180.out)|exact HB.out))))
   (case aL=>have:=LMc4.out;omega)
   intro v188 w14 ho hb hg hat
   rw [← Ny187.out] at ho
   have n0_:=am (blk_grown (g:=gb180) (o:=.cells #[.int .i64 a0_0, .int .i64 a0_1] 72 (0,0)) (by (with_reducible repeat (first|refine qn ?_ _|refine qd ?_|refine qa ?_ _));exact BK180.out) hg (Kd.R_ne HO186.out BK180.out d11))
   have n1_:=am (Kd.R_after (ok:=(fun _=>True)) d24 hg hat)
   have n2_:=am (hb)
   have n3_:=am (ho)
   clear BK180
   clear HO183
   clear HB
   clear HO186
   have BK180:=n0_
   have HO183:=n1_
   have HB:=n2_
   have HO189:=n3_
   clear n0_ n1_ n2_ n3_
   clear ho hb hg hat
   refine hK.out _ _ ⟨(blk_cell BK180.out 0).trans rfl,(blk_cell BK180.out 1).trans rfl⟩ (fun hHeld=>?_)
   clear hK K
   refine rN (a':=?_) ?_ ?_
   rotate_left
   ·show Act.put _ (some 11) _=_
    simp only [Act.put,q1,q2,q3,i64_w,i32_w]
    rfl
   refine rO (N:=some 14) HT_ rfl rfl d3 d11 (fun K hK=>?_)
   refine goes_ Try.func125 d3 rfl #[.agg #[.int .i64 a0_0, .int .i64 a0_1], .int .i64 a1] d18 rfl rfl d5 ?_
   with_reducible refine (spec_l5F.calls k a0_0 a0_1 a1 t190 _ A5.out).mono ?_
   rintro e w16 ⟨rfl,hb⟩
   refine ⟨_,rfl,?_⟩
   have n0_:=am (Kd.R_below d24 hb)
   have n1_:=am (Kd.R_below d42 hb)
   have n2_:=am (qb (g:=gb180) (o:=.cells #[.int .i64 a0_0, .int .i64 a0_1] 72 (0,0)) (by (with_reducible repeat (first|refine qn ?_ _|refine qd ?_|refine qa ?_ _));exact BK180.out) hb)
   have n3_:=am (pu (by repeat (first|(with_reducible first|exact HB.out|apply pa|apply pb|apply pd|refine pt ?_ GE180.out)|exact HB.out)) hb)
   clear HO183
   clear HO189
   clear BK180
   clear HB
   have HO183:=n0_
   have HO189:=n1_
   have BK180:=n2_
   have HB:=n3_
   clear n0_ n1_ n2_ n3_
   (try clear hb)
   (try clear hb2)
   (try clear hk)
   (try clear hi)
   refine hK.out _ _ ⟨(blk_cell BK180.out 0).trans rfl,(blk_cell BK180.out 1).trans rfl⟩ (fun hHeld=>?_)
   clear hK K
   refine rN (a':=?_) ?_ ?_
   rotate_left
   ·show Act.put _ (some 14) _=_
    simp only [Act.put,q1,q2,q3,i64_w,i32_w]
    rfl
   refine rO (N:=some 16) HT_ rfl rfl d3 d11 (fun K hK=>?_)
   refine goes_ Try.func124 d3 rfl #[.int .u8 t190, .slice Ao15 t181.length co15] d18 rfl rfl d5 ?_
   with_reducible refine (spec_l1Scale.calls k t190 _ _ t181 t191 _ ?side1 ?side2 A6.out).mono ?_
   (case side1=>repeat (first|exact (Kd.R_reads' HO183.out).2.2|(with_reducible refine Kd.C_alloc ?_ _)|(with_reducible refine Kd.C_drewN ?_ _)|(with_reducible refine Kd.C_drew ?_)))
   (case side2=>exact (Kd.R_reads' HO183.out).2.1)
   rintro e w17 ⟨v192,rfl,ho0,hb⟩
   refine ⟨_,rfl,?_⟩
   have n0_:=am (Kd.R_elder' d24 (Kd.R_base ho0) hb)
   have n1_:=am (Kd.R_elder' d42 (Kd.R_base ho0) hb)
   have n2_:=am (Kd.R_lower (Kd.R_new' (Kd.R_new' ho0 (Kd.R_lt d24)) (Kd.R_lt d42)) (pz (by repeat (first|(with_reducible first|exact HB.out|apply pa|apply pb|apply pd|refine pt ?_ GE180.out)|exact HB.out))))
   have n3_:=am (qb (g:=gb180) (o:=.cells #[.int .i64 a0_0, .int .i64 a0_1] 72 (0,0)) (by (with_reducible repeat (first|refine qn ?_ _|refine qd ?_|refine qa ?_ _));exact BK180.out) hb)
   have n4_:=am (pu (by repeat (first|(with_reducible first|exact HB.out|apply pa|apply pb|apply pd|refine pt ?_ GE180.out)|exact HB.out)) hb)
   clear HO183
   clear HO189
   clear BK180
   clear HB
   have HO183:=n0_
   have HO189:=n1_
   have HO193:=n2_
   have BK180:=n3_
   have HB:=n4_
   clear n0_ n1_ n2_ n3_ n4_
   (try clear hb)
   (try clear hb2)
   (try clear hk)
   (try clear hi)
   (try clear ho0)
   obtain ⟨Ao19,co19,eo19⟩:=Kd.R_slice HO193.out
   (first|subst eo19|(injection eo19 with f1_ f2_ f3_;have f4_:=f1_.symm;have f5_:=f3_.symm;clear f1_ f2_ f3_;subst f4_;subst f5_))
   refine hK.out _ _ ⟨(blk_cell BK180.out 0).trans rfl,(blk_cell BK180.out 1).trans rfl⟩ (fun hHeld=>?_)
   clear hK K
   refine rN (a':=?_) ?_ ?_
   rotate_left
   ·show Act.put _ (some 16) _=_
    simp only [Act.put,q1,q2,q3,i64_w,i32_w]
    rfl
   refine rO (N:=some 17) HT_ rfl rfl d3 d11 (fun K hK=>?_)
   refine Kd.R_append_rows_step (Kd.int .u8) (w0:=w) w.heap.size d18 (.tmp 11) (.tmp 16) 57 5 (.int .u8 0) 1 rfl Try.underlying57 info5 rfl d11 d10 v188 y187 t191 _ _ _ (fun k_=>some k_ ≠ (.slice Ao15 t181.length co15:Value).ownBlock∧some k_ ≠ (.slice Ao19 t191.length co19:Value).ownBlock) (fun _=>False) rfl rfl ?aO ?aR (fun _ _ h=>h) (fun _ h=>h.elim) ?aF ?aB ?aS ?aL ?_
   (case aR=>repeat (first|exact (Kd.R_reads' HO193.out).2.2|(with_reducible refine Kd.C_alloc ?_ _)|(with_reducible refine Kd.C_drewN ?_ _)|(with_reducible refine Kd.C_drew ?_)))
   (case aB=>exact (by repeat (first|(with_reducible first|exact HB.out|apply pa|apply pb|apply pd|refine pt ?_ GE180.out)|exact HB.out)))
   (case aF=>exact (fun k_ hk=>⟨Kd.fresh' (Kd.R_lt d24) k_ hk,Kd.fresh' (Kd.R_lt (by (with_reducible repeat (first|apply Kd.R_alloc|apply Kd.R_drewN|apply Kd.R_drew));exact HO193.out)) k_ hk⟩))
   (case aO=>exact d42)
   (case aS=>exact (pz (by repeat (first|(with_reducible first|exact HB.out|apply pa|apply pb|apply pd|refine pt ?_ GE180.out)|exact HB.out))))
   (case aL=>have:=LMc7.out;omega)
   intro v195 w18 ho hb hg hat
   rw [← Ny194.out] at ho
   have n0_:=am (blk_grown (g:=gb180) (o:=.cells #[.int .i64 a0_0, .int .i64 a0_1] 72 (0,0)) (by (with_reducible repeat (first|refine qn ?_ _|refine qd ?_|refine qa ?_ _));exact BK180.out) hg (Kd.R_ne HO189.out BK180.out d11))
   have n1_:=am (Kd.R_after (ok:=(fun k_=>some k_ ≠ (.slice Ao19 t191.length co19:Value).ownBlock)) (by (with_reducible repeat (first|apply Kd.R_alloc|apply Kd.R_drewN|apply Kd.R_drew));exact Kd.R_mono HO183.out (fun _ hk=>⟨hk.2,hk.1.2⟩)) hg hat)
   have n2_:=am (Kd.R_after (ok:=(fun k_=>some k_ ≠ (.slice Ao15 t181.length co15:Value).ownBlock)) (by (with_reducible repeat (first|apply Kd.R_alloc|apply Kd.R_drewN|apply Kd.R_drew));exact Kd.R_mono HO193.out (fun _ hk=>⟨hk.1.2,hk.2⟩)) hg hat)
   have n3_:=am (hb)
   have n4_:=am (ho)
   clear BK180
   clear HO183
   clear HO193
   clear HB
   clear HO189
   have BK180:=n0_
   have HO183:=n1_
   have HO193:=n2_
   have HB:=n3_
   have HO196:=n4_
   clear n0_ n1_ n2_ n3_ n4_
   clear ho hb hg hat
   refine hK.out _ _ ⟨(blk_cell BK180.out 0).trans rfl,(blk_cell BK180.out 1).trans rfl⟩ (fun hHeld=>?_)
   clear hK K
   refine rN (a':=?_) ?_ ?_
   rotate_left
   ·show Act.put _ (some 17) _=_
    simp only [Act.put,q1,q2,q3,i64_w,i32_w]
    rfl
   refine rR ?_
   refine rD HT_ d3 ?_
   try go_wp2
   go_ret
   exact ⟨_,d4,by (with_reducible repeat (first|apply Kd.R_alloc|apply Kd.R_drewN|apply Kd.R_drew));exact Kd.R_mono HO196.out (fun _ hk=>trivial),by repeat (first|(with_reducible first|exact HB.out|apply pa|apply pb|apply pd|refine pt ?_ GE180.out)|exact HB.out)⟩
  rw [if_neg c7] at H
  exact absurd H d20
 rw [if_neg c4] at H
 exact absurd H d20

end Go.Proofs.Ytajikfnpcobnpaa.PFnExactDecodeMsr
-- HALVED
-- SQUEEZED
-- SQUEEZED2
-- SQUEEZED3
-- SQUEEZED4
-- SQUEEZED5
-- SQUEEZED6
