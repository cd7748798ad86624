import Derived.Test.YtajikfnpcobnpaaVDecodeLocalB
import Derived.Test.YtajikfnpcobnpaaPFnExactDecodeLocalx0
import Derived.Test.YtajikfnpcobnpaaPFnExactDecodeLocalx1
import Derived.Test.YtajikfnpcobnpaaPFnExactDecodeLocalx2
import Derived.Test.YtajikfnpcobnpaaPFnExactDecodeLocalx3
namespace Go.Proofs.Ytajikfnpcobnpaa.PFnExactDecodeLocal
open Go.RowKit Go.Proofs.YtajikfnpcobnpaaW.PrintWords Go.Proofs.YtajikfnpcobnpaaW.PrintLast Go.Proofs.YtajikfnpcobnpaaW.PrintMore Go.Proofs.Ytajikfnpcobnpaa.KitS
attribute [local go_sem] max2_int min2_int max_two min_two max_three min_three max_four min_four
set_option linter.unusedVariables false
set_option maxHeartbeats 8000000
set_option maxRecDepth 100000
set_option linter.unusedSimpArgs false
mutual
def spec_DecodeLocal.j0:Nat→List (S84)→Bool→Int→Int→Int→Option (List ByteArray × Bool)
 | 0,_,_,_,_,_=>none
 | k+1,x1,x23,x266000,x266001,x266002=>if x23=true then (some (([]:List ByteArray),false)) else ((spec_l4Data.f x266000 x266001 x266002).bind fun t269=>(spec_DecodeLocal.l0 k t269 ([]:List Int) ([]:List ByteArray) x1 (x1.length:Int) 0 x266000 x266001 x266002))
def spec_DecodeLocal.l0:Nat→Int→List Int→List ByteArray→List (S84)→Int→Int→Int→Int→Int→Option (List ByteArray × Bool)
 | 0,_,_,_,_,_,_,_,_,_=>none
 | k+1,x6,x7,x8,x26,x27,x28,x266000,x266001,x266002=>if x28 < x27 then (if 0≤x28 then (if x28 < (x26.length:Int) then ((some (([]:List Int):List Int)).bind fun y272=>(if y272.length+x7.length < 17592186044416 then ((some (y272 ++ x7:List Int)).bind fun y275=>((some (([(rd_T84 x26 x28).f0]:List Int):List Int)).bind fun y278=>(if y275.length+y278.length < 17592186044416 then ((some (y275 ++ y278:List Int)).bind fun y281=>(if (x7.length:Int) < x6 then ((spec_l4Matrix.f k x266000 x266001 x266002).bind fun t284=>((spec_l3All.f k x6).bind fun t287=>((spec_l2Part.f k t284 y281 t287).bind fun t290=>((spec_l2Rank.f t290).bind fun t293=>(if t293=(y281.length:Int) then ((some (([(rd_T84 x26 x28).f1]:List ByteArray):List ByteArray)).bind fun y294=>(if x8.length+y294.length < 8796093022208 then (spec_DecodeLocal.l0 k x6 y281 (x8 ++ y294) x26 x27 (wrap64 (x28+1)) x266000 x266001 x266002) else (none))) else (spec_DecodeLocal.l0 k x6 x7 x8 x26 x27 (wrap64 (x28+1)) x266000 x266001 x266002)))))) else (spec_DecodeLocal.l0 k x6 x7 x8 x26 x27 (wrap64 (x28+1)) x266000 x266001 x266002))) else (none)))) else (none))) else (none)) else (none)) else (if (x7.length:Int) < x6 then (some (([]:List ByteArray),false)) else ((spec_l4Matrix.f k x266000 x266001 x266002).bind fun t300=>((spec_l3All.f k x6).bind fun t303=>((spec_l2Part.f k t300 x7 t303).bind fun t306=>((spec_l2Inverse.f t306).bind fun bt309=>(if bt309.2=true then ((spec_l3Rows.f k bt309.1 x8).bind fun t314=>(some (t314,true))) else (some (([]:List ByteArray),false))))))))
end
def spec_DecodeLocal.f (k:Nat) (a0_0:Int) (a0_1:Int) (a0_2:Int) (l1:List (S84)):Option (List ByteArray × Bool):=(spec_GoodLocal.f a0_0 a0_1 a0_2).bind fun t266=>(if t266=true then ((spec_l4Many.f a0_0 a0_1 a0_2).bind fun t267=>((spec_l3Shards.f k l1 t267).bind fun t268=>(spec_DecodeLocal.j0 k l1 (!t268) a0_0 a0_1 a0_2))) else (spec_DecodeLocal.j0 k l1 true a0_0 a0_1 a0_2))
theorem spec_DecodeLocal.mono_l:∀ k,(∀ y0 y1 y2 y3 y4,LeO (spec_DecodeLocal.j0 k y0 y1 y2 y3 y4) (spec_DecodeLocal.j0 (k+1) y0 y1 y2 y3 y4))∧(∀ y0 y1 y2 y3 y4 y5 y6 y7 y8,LeO (spec_DecodeLocal.l0 k y0 y1 y2 y3 y4 y5 y6 y7 y8) (spec_DecodeLocal.l0 (k+1) y0 y1 y2 y3 y4 y5 y6 y7 y8))
 | 0=>⟨fun _ _ _ _ _ r h=>by simp [spec_DecodeLocal.j0] at h,fun _ _ _ _ _ _ _ _ _ r h=>by simp [spec_DecodeLocal.l0] at h⟩
 | k+1=>by
  obtain ⟨ih0,ih1⟩:=spec_DecodeLocal.mono_l k
  refine ⟨?_,?_⟩
  ·intro y0 y1 y2 y3 y4
   unfold spec_DecodeLocal.j0
   exact mm
  intro y0 y1 y2 y3 y4 y5 y6 y7 y8
  unfold spec_DecodeLocal.l0
  exact mm
theorem spec_DecodeLocal.mono:∀ a0 a1 a2 a3 k,LeO (spec_DecodeLocal.f k a0 a1 a2 a3) (spec_DecodeLocal.f (k+1) a0 a1 a2 a3):=by
 intro a0 a1 a2 a3 k
 obtain ⟨ih0,ih1⟩:=spec_DecodeLocal.mono_l k
 unfold spec_DecodeLocal.f
 exact mm
def spec_DecodeLocal.T9:Bool × List (List Nat × List Nat):=(true,[([],[]),([],[]),([0,1],[0,1]),([],[]),([3],[3]),([4],[4]),([2,5,2],[2,5]),([6,6,0,1,2,3,4,5,6],[6])])
def spec_DecodeLocal.B9:List Nat:=[0,0,3,0,8,24,63,127]
theorem spec_DecodeLocal.tab9:rtab .any (opsOf Try.f73 9)=spec_DecodeLocal.T9:=by kernel_rfl
theorem spec_DecodeLocal.bits9:waitsOk spec_DecodeLocal.T9.2 spec_DecodeLocal.B9=true:=by kernel_rfl
theorem spec_DecodeLocal.calls (k:Nat) (a0_0:Int) (a0_1:Int) (a0_2:Int) (A1:Option Addr) (c1:Nat) (l1:List (S84)) (r1:List ByteArray) (r2:Bool) (w:World) (hr1:Kd.C k84 w A1 l1.length l1) (hc1:l1.length≤c1) (h:spec_DecodeLocal.f k a0_0 a0_1 a0_2 l1=some (r1,r2)) :
  Calls Try.prog 73 #[.agg #[.int .i64 a0_0, .int .i64 a0_1, .int .i64 a0_2], .slice A1 l1.length c1] w fun e w'=>∃ v0_:Value,e = .returned (.tuple #[v0_, .bool r2])∧Kd.R Kd.string 9 w' w.heap.size (fun _=>True) v0_ r1∧Below w.heap.size w w':=by
 have hu51:=Try.underlying51
 have hu84:=Try.underlying84
 have hu43:=Try.underlying43
 have HR1:=am hr1
 have HC1:=am hc1
 clear hr1 hc1
 have HB:=am (Below.refl w.heap.size w)
 have H:=h
 unfold spec_DecodeLocal.f at H
 clear h
 have HC3:=am H
 clear H
 go_enter Try.func73,Try.ntmps73
 go_upto_region 1 with (first|((with_reducible refine gD 2 ?_);(try (refine gate_guard D11 ?_;dsimp only));refine gB (cs:=#[.int .i64 a0_0, .int .i64 a0_1, .int .i64 a0_2]) 51 ?_;intro gb265 hg w4 hbox hb;have BK265:=am (hbox);have GW265:=ye HB hg;replace HB:=yH HB hb;have GE265:=GW265;clear hb hbox hg))
 (try simp only [Act.put,q1,q2,q3])
 go_cut [23] (fun v23 wc=>∃ (kq:Nat) (x23_2:Bool),v23 = .bool x23_2∧Aside0 (spec_DecodeLocal.j0 kq l1 x23_2 a0_0 a0_1 a0_2=some (r1,r2))∧Aside0 (kq≤k)∧Aside0 (wc.heap[gb265]? = some (.cells #[.int .i64 a0_0, .int .i64 a0_1, .int .i64 a0_2] 51 (0,0)))∧Aside0 (Below w.heap.size w wc))
 case first =>
  have H:=HC3.out
  clear HC3
  obtain ⟨t266,A5,H⟩:=yo H
  by_cases c6:t266=true
  ·subst c6
   replace H:=yt H
   obtain ⟨t267,A7,H⟩:=yo H
   obtain ⟨t268,A8,H⟩:=yo H
   have H':=am H
   clear H
   obtain ⟨hcz9_0,hcz9_1,hcz9_2,hfz9_0,hfz9_1,hfz9_2⟩:=yk3 BK265
   go_wp2_with (first|((with_reducible refine gC 108 ?_);refine gM (some 15) Try.func108 (args:=#[.agg #[.int .i64 a0_0, .int .i64 a0_1, .int .i64 a0_2]]) (spec_GoodLocal.calls a0_0 a0_1 a0_2 true _ A5.out) ?_;rintro e w10 ⟨rfl,hb⟩;refine ⟨_,rfl,?_⟩;replace BK265:=yb BK265 hb;replace HB:=yH HB hb;clear hb;obtain ⟨hcz11_0,hcz11_1,hcz11_2,hfz11_0,hfz11_1,hfz11_2⟩:=yk3 BK265)|(go_at_call 109;(with_reducible refine (spec_l4Many.calls a0_0 a0_1 a0_2 t267 _ A7.out).mono ?_);rintro e w12 ⟨rfl,hb⟩;replace BK265:=yb BK265 hb;replace HB:=yH HB hb;clear hb)|(go_at_call 142;(with_reducible refine (spec_l3Shards.calls k _ _ l1 t267 t268 _ (yc (Kd.C_below HR1.out HB.out)) HC1.out A8.out).mono ?_);rintro e w13 ⟨rfl,hb⟩;replace BK265:=yb BK265 hb;replace HB:=yH HB hb;clear hb))
   go_meet
   case rel=>exact ⟨_,(!t268),D2,H',⟨D57⟩,⟨yB BK265⟩,⟨yW HB⟩⟩
  replace c6:=Bool.eq_false_iff.mpr c6
  subst c6
  replace H:=yn H
  have H':=am H
  clear H
  obtain ⟨hcz14_0,hcz14_1,hcz14_2,hfz14_0,hfz14_1,hfz14_2⟩:=yk3 BK265
  go_wp2_with (first|((with_reducible refine gC 108 ?_);refine gM (some 15) Try.func108 (args:=#[.agg #[.int .i64 a0_0, .int .i64 a0_1, .int .i64 a0_2]]) (spec_GoodLocal.calls a0_0 a0_1 a0_2 false _ A5.out) ?_;rintro e w15 ⟨rfl,hb⟩;refine ⟨_,rfl,?_⟩;replace BK265:=yb BK265 hb;replace HB:=yH HB hb;clear hb))
  go_meet
  case rel=>exact ⟨_,(true),D2,H',⟨D57⟩,⟨yB BK265⟩,⟨yW HB⟩⟩
 case rest =>
  clear HC3
  try clear c1
  try clear p2
  try clear c6
  try clear c7
  try clear c10
  try clear hcz11_0
  try clear hcz11_1
  try clear hcz11_2
  try clear hcz14_0
  try clear hcz14_1
  try clear hcz14_2
  try clear hcz9_0
  try clear hcz9_1
  try clear hcz9_2
  try clear hfz11_0
  try clear hfz11_1
  try clear hfz11_2
  try clear hfz14_0
  try clear hfz14_1
  try clear hfz14_2
  try clear hfz9_0
  try clear hfz9_1
  try clear hfz9_2
  obtain ⟨kq,x23_2,rfl,HA,HJ2,BK265,HB⟩:=hcut
  cases kq with
  | zero=>exact absurd HA.out (by simp [spec_DecodeLocal.j0])
  | succ kj2 =>
   have H:=HA.out
   clear HA
   simp only [spec_DecodeLocal.j0] at H
   by_cases c16:x23_2=true
   ·subst c16
    replace H:=yt H
    simp only [Option.some.injEq,Prod.mk.injEq] at H
    obtain ⟨rfl,rfl⟩:=H
    go_wp2
    go_ret2
    exact ⟨_,D1,D10,yW HB⟩
   replace c16:=Bool.eq_false_iff.mpr c16
   subst c16
   replace H:=yn H
   obtain ⟨t269,A17,H⟩:=yo H
   have H':=am H
   clear H
   obtain ⟨hcz18_0,hcz18_1,hcz18_2,hfz18_0,hfz18_1,hfz18_2⟩:=yk3 BK265
   go_wp2_with (first|((with_reducible refine gC 111 ?_);refine gM (some 25) Try.func111 (args:=#[.agg #[.int .i64 a0_0, .int .i64 a0_1, .int .i64 a0_2]]) (spec_l4Data.calls a0_0 a0_1 a0_2 t269 _ A17.out) ?_;rintro e w19 ⟨rfl,hb⟩;refine ⟨_,rfl,?_⟩;replace BK265:=yb BK265 hb;replace HB:=yH HB hb;clear hb))
   go_loopg [7,8,28] kj2 (fun kq v7 v8 v28 w'=>∃ (x7_2:List Int) (x8_2:List ByteArray) (x28_2:Int),v28 = .int .i64 x28_2∧Aside0 (spec_DecodeLocal.l0 kq t269 x7_2 x8_2 l1 (l1.length:Int) x28_2 a0_0 a0_1 a0_2=some (r1,r2))∧Aside0 (kq≤kj2)∧Aside0 (Kd.R (Kd.int .i64) 3 w' w.heap.size (fun _=>True) v7 x7_2)∧Aside0 (Kd.R Kd.string 9 w' w.heap.size (fun _=>True) v8 x8_2)∧Aside0 (w'.heap[gb265]? = some (.cells #[.int .i64 a0_0, .int .i64 a0_1, .int .i64 a0_2] 51 (0,0)))∧Aside0 (Below w.heap.size w w'))
   case atStart=>exact ⟨(([]:List Int)),(([]:List ByteArray)),(0),D2,H',⟨Nat.le_refl _⟩,⟨D10⟩,⟨D10⟩,⟨yB BK265⟩,⟨yW HB⟩⟩
   case round =>
    clear H'
    try clear c1
    try clear p2
    try clear c6
    try clear c7
    try clear c10
    try clear c11
    try clear c16
    try clear hcz11_0
    try clear hcz11_1
    try clear hcz11_2
    try clear hcz14_0
    try clear hcz14_1
    try clear hcz14_2
    try clear hcz18_0
    try clear hcz18_1
    try clear hcz18_2
    try clear hcz9_0
    try clear hcz9_1
    try clear hcz9_2
    try clear hfz11_0
    try clear hfz11_1
    try clear hfz11_2
    try clear hfz14_0
    try clear hfz14_1
    try clear hfz14_2
    try clear hfz18_0
    try clear hfz18_1
    try clear hfz18_2
    try clear hfz9_0
    try clear hfz9_1
    try clear hfz9_2
    try clear p2
    obtain ⟨x7_2,x8_2,x28_2,rfl,HA,HK2,HO_7,HO_8,BK265,HB⟩:=hrel
    cases gk with
    | zero=>exact absurd HA.out (by simp [spec_DecodeLocal.l0])
    | succ k2 =>
     have H:=HA.out
     clear HA
     simp only [spec_DecodeLocal.l0] at H
     by_cases c20:x28_2 < (l1.length:Int)
     ·rw [if_pos c20] at H
      have c20b0:=decide_eq_true c20
      clear c20
      by_cases c21:0≤x28_2
      ·rw [if_pos c21] at H
       have c21b0:=decide_eq_true c21
       clear c21
       by_cases c22:x28_2 < (l1.length:Int)
       ·rw [if_pos c22] at H
        have c22b0:=decide_eq_true c22
        clear c22
        obtain ⟨y272,hy272,H⟩:=ys H
        have Ny272:=am hy272
        clear hy272
        by_cases c23:y272.length+x7_2.length < 17592186044416
        ·rw [if_pos c23] at H
         have LMc23:=am c23
         clear c23
         obtain ⟨y275,hy275,H⟩:=ys H
         have Ny275:=am hy275
         clear hy275
         obtain ⟨y278,hy278,H⟩:=ys H
         have Ny278:=am hy278
         clear hy278
         by_cases c24:y275.length+y278.length < 17592186044416
         ·rw [if_pos c24] at H
          have LMc24:=am c24
          clear c24
          obtain ⟨y281,hy281,H⟩:=ys H
          have Ny281:=am hy281
          clear hy281
          by_cases c25:(x7_2.length:Int) < t269
          ·rw [if_pos c25] at H
           have c25b0:=decide_eq_true c25
           clear c25
           obtain ⟨t284,A26,H⟩:=yo H
           obtain ⟨t287,A27,H⟩:=yo H
           obtain ⟨t290,A28,H⟩:=yo H
           obtain ⟨t293,A29,H⟩:=yo H
           by_cases c30:t293=(y281.length:Int)
           ·rw [if_pos c30] at H
            have c30b0:(t293 == (y281.length:Int))=true:=beq_iff_eq.mpr c30
            have c30b1:(t293 != (y281.length:Int))=false:=bne_eq_false_iff_eq.mpr c30
            clear c30
            obtain ⟨y294,hy294,H⟩:=ys H
            have Ny294:=am hy294
            clear hy294
            by_cases c31:x8_2.length+y294.length < 8796093022208
            ·rw [if_pos c31] at H
             have LMc31:=am c31
             clear c31
             generalize hy297:(x8_2 ++ y294:List ByteArray)=y297 at H
             have Ny297:=am hy297.symm
             clear hy297
             have H':=am H
             clear H
             have p270:0≤(x28_2:Int):=od D0
             have q270:x28_2 < (l1.length:Int):=od D0
             obtain ⟨ad270,e270,hx270_0,hx270_1⟩:=at_T84 HR1.out x28_2 p270 q270
             cases e270
             replace hx270_0:=(HB.out.cell (World.block_lt_of_cell? w _ hx270_0)).trans hx270_0
             replace hx270_1:=(HB.out.cell (World.block_lt_of_cell? w _ hx270_1)).trans hx270_1
             replace p270:=eq_true p270
             replace q270:=eq_true q270
             try go_wp2_with (first|((with_reducible refine gD 10 ?_);(try (refine gate_guard D11 ?_;dsimp only));refine gB (cs:=#[.int .i64 0, .string (⟨#[]⟩:ByteArray)]) 84 ?_;intro gb271 hg w32 hbox hb;replace HO_7:=bR HO_7 hb;replace HO_8:=bR HO_8 hb;have BK271:=am (hbox);have GW271:=ye HB hg;replace HB:=yH HB hb;have NB265_271:=yl BK265 hg;have NB271_265:=yg BK265 hg;replace BK265:=yb BK265 hb;have GE271:=GW271;clear hb hbox hg;have hnb33:=NB271_265.out;have hnc33:=NB265_271.out;obtain ⟨hcz34_0,hcz34_1,hfz34_0,hfz34_1⟩:=yk2 BK271;obtain ⟨Ao35,co35,eo35⟩:=Kd.R_slice HO_7.out;subst eo35))
             generalize hw_:((w32.setCell ⟨gb271,0,none⟩ (.int .i64 ((rd_T84 l1 x28_2).f0))).setCell ⟨gb271,1,none⟩ (.string ((rd_T84 l1 x28_2).f1)))=w36
             replace HO_7:Aside0 (Kd.R (Kd.int .i64) 3 w36 w.heap.size (fun _=>True) (.slice Ao35 x7_2.length co35) x7_2):=⟨D21⟩
             replace HO_8:Aside0 (Kd.R Kd.string 9 w36 w.heap.size (fun _=>True) u8 x8_2):=⟨D20⟩
             replace BK265:Aside0 (w36.heap[gb265]? = some (.cells #[.int .i64 a0_0, .int .i64 a0_1, .int .i64 a0_2] 51 (0,0))):=⟨by rw [← hw_];exact yF BK265⟩
             replace BK271:Aside0 (w36.heap[gb271]? = some (.cells #[.int .i64 ((rd_T84 l1 x28_2).f0), .string ((rd_T84 l1 x28_2).f1)] 84 (0,0))):=⟨D22⟩
             replace HB:Aside0 (Below w.heap.size w w36):=⟨D41⟩
             clear hw_
             replace HO_7:=am (Kd.R_drew HO_7.out)
             replace HO_8:=am (Kd.R_drew HO_8.out)
             replace BK265:=am (qd BK265.out)
             replace BK271:=am (qd BK271.out)
             replace HB:=am (pd HB.out)
             refine start_ (n:=8) (S:=fun w'=>w'.cell? ⟨gb271,0,none⟩=some (.int .i64 ((rd_T84 l1 x28_2).f0))∧w'.cell? ⟨gb271,1,none⟩=some (.string ((rd_T84 l1 x28_2).f1))) (ds:=[]) #[Z,Z,Z,Z,Z,Z,Z,Z] D3 rfl rfl ⟨yk BK271 0,yk BK271 1⟩ (fun hHeld=>?_);refine with_tabW spec_DecodeLocal.tab9 spec_DecodeLocal.bits9 (fun HT_ HW_=>?_)
             generalize w36.drew=w37 at HO_7 HO_8 BK265 BK271 HB hHeld ⊢
             refine pure_ (i:=1) (N:=some 33) (v:=?_) (a':=?_) #[Z,Y,Z,Z,Z,Z,Z,Z] rfl rfl (any_of HT_.out D3) hh (Or.inl ⟨D11,?_⟩) ?_ ?_
             rotate_left
             ·intro w'
              go_simp
              with_reducible rfl
             rotate_left
             ·simp only [Act.put,q1,q2,q3,i64_w,i32_w]
              rfl
             refine pure_ (i:=3) (N:=some 35) (v:=?_) (a':=?_) #[Z,Y,Z,Y,Z,Z,Z,Z] rfl rfl (any_of HT_.out D3) hh (Or.inl ⟨D11,?_⟩) ?_ ?_
             rotate_left
             ·intro w'
              go_simp
              with_reducible rfl
             rotate_left
             ·simp only [Act.put,q1,q2,q3,i64_w,i32_w]
              rfl
             refine take_ (i:=4) (N:=some 36) (v:=?_) (a':=?_) #[Z,Y,Z,Y,Y,Z,Z,Z] rfl rfl (take_ofW HT_.out HW_.out D3) hh (Or.inl ⟨D11,?_⟩) hHeld ?_ ?_
             rotate_left
             ·rintro w' ⟨s0,s1⟩
              go_simp
              with_reducible rfl
             rotate_left
             ·simp only [Act.put,q1,q2,q3,i64_w,i32_w]
              rfl
             refine join_ (σ:=Value × Value × Value) 2 #[Y,Y,Y,Y,Y,Y,Z,Z] (fun s_=>[(32,s_.1),(34,s_.2.1),(37,s_.2.2)]) (fun s_ w'=>(w'.cell? ⟨gb271,0,none⟩=some (.int .i64 ((rd_T84 l1 x28_2).f0))∧w'.cell? ⟨gb271,1,none⟩=some (.string ((rd_T84 l1 x28_2).f1)))∧(Kd.R (Kd.int .i64) 3 w' w.heap.size (fun k_=>some k_ ≠ (s_.2.2:Value).ownBlock∧some k_ ≠ (.slice Ao35 x7_2.length co35:Value).ownBlock) s_.2.1 y275)∧(Kd.R (Kd.int .i64) 3 w' w.heap.size (fun k_=>some k_ ≠ (s_.2.1:Value).ownBlock∧some k_ ≠ (.slice Ao35 x7_2.length co35:Value).ownBlock) s_.2.2 y278)∧(Kd.R (Kd.int .i64) 3 w' w.heap.size (fun k_=>some k_ ≠ (s_.2.1:Value).ownBlock∧some k_ ≠ (s_.2.2:Value).ownBlock) (.slice Ao35 x7_2.length co35) x7_2)∧(Kd.R Kd.string 9 w' w.heap.size (fun _=>True) u8 x8_2)∧(w'.heap[gb265]? = some (.cells #[.int .i64 a0_0, .int .i64 a0_1, .int .i64 a0_2] 51 (0,0)))∧(w'.heap[gb271]? = some (.cells #[.int .i64 ((rd_T84 l1 x28_2).f0), .string ((rd_T84 l1 x28_2).f1)] 84 (0,0)))∧(Below w.heap.size w w')) ?_ ?_
             rotate_left
             ·intro hCont
              refine two_ (i:=0) (j:=5) (Ni:=some 32) (Nj:=some 37) #[Y,Y,Z,Y,Y,Z,Z,Z] #[Z,Y,Z,Y,Y,Y,Z,Z] rfl rfl rfl rfl (two_of HT_.out D3) D4 D4 (fun K hK=>?_) (fun K hK=>?_)
              ·skip
               refine Kd.R_lit_step (Kd.int .i64) _ 3 ?hg (N:=32) ?hd (xs:=([]:List Int)) (inner:=[]) (ok:=fun _=>True) (okp:=fun _=>True) ?hr ?hp (fun _ hk=>hk) trivial (Below.refl _ _) (Nat.le_refl _) D36 ?_;(case hd=>rfl);(case hg=>rfl);(case hr=>first|(go_simp;done)|(go_simp;rfl));(case hp=>exact (Reps.none _ _))
               intro v273 w38 ho39 hb hg_ hnew_
               clear hg_ hnew_
               (first|rw [← Ny272.out] at ho39|(simp only [Int.reduceToNat] at ho39;rw [← Ny272.out] at ho39))
               replace HO_8:=bR HO_8 hb
               have HO274:=am (Kd.R_lower (Kd.R_new' ho39 (Kd.R_lt (yR HO_7))) (pz (yW HB)))
               replace HO_7:=eR HO_7 (Kd.R_base ho39) hb
               replace BK265:=yb BK265 hb
               replace BK271:=yb BK271 hb
               replace HB:=yH HB hb
               clear hb ho39
               refine hK.out _ _ ⟨yk BK271 0,yk BK271 1⟩ (fun hHeld=>?_)
               clear hK K
               refine norm_ (a':=?_) ?_ ?_
               rotate_left
               ·show Act.put _ (some 32) _=_
                simp only [Act.put,q1,q2,q3,i64_w,i32_w]
                rfl
               refine two_ (i:=2) (j:=5) (Ni:=some 34) (Nj:=some 37) #[Y,Y,Y,Y,Y,Z,Z,Z] #[Y,Y,Z,Y,Y,Y,Z,Z] rfl rfl rfl rfl (two_of HT_.out D3) D4 D4 (fun K hK=>?_) (fun K hK=>?_)
               ·skip
                refine Kd.R_append_rows_step (Kd.int .i64) (w0:=w) w.heap.size D11 (.tmp 32) (.tmp 33) 25 3 (.int .i64 0) 8 rfl Try.underlying25 info3 rfl D4 D5 v273 y272 x7_2 _ _ _ (fun k_=>some k_ ≠ (.slice Ao35 x7_2.length co35:Value).ownBlock) (fun _=>False) rfl rfl ?aO ?aR (fun _ _ h=>h) (fun _ h=>h.elim) ?aF ?aB ?aS ?aL ?_
                (case aR=>repeat (first|exact (Kd.R_reads' HO_7.out).2.2|(with_reducible refine Kd.C_alloc ?_ _)|(with_reducible refine Kd.C_drewN ?_ _)|(with_reducible refine Kd.C_drew ?_)))
                (case aB=>exact (yW HB))
                (case aF=>exact (fun k_ hk=>Kd.fresh' (Kd.R_lt (yR HO_7)) k_ hk))
                (case aO=>exact D74)
                (case aS=>exact (pz (yW HB)))
                (case aL=>have:=LMc23.out;omega)
                intro v276 w40 ho hb hg hat
                rw [← Ny275.out] at ho
                have n0_:=am (Kd.R_after (ok:=(fun _=>True)) (yR HO_7) hg hat)
                have n1_:=am (Kd.R_over' (yR HO_8) (Kd.R_typed (yR HO274)) D4 hg)
                have n2_:=am (blk_grown (g:=gb265) (o:=.cells #[.int .i64 a0_0, .int .i64 a0_1, .int .i64 a0_2] 51 (0,0)) (yB BK265) hg (Kd.R_ne HO274.out BK265.out D4))
                have n3_:=am (blk_grown (g:=gb271) (o:=.cells #[.int .i64 ((rd_T84 l1 x28_2).f0), .string ((rd_T84 l1 x28_2).f1)] 84 (0,0)) (yB BK271) hg (Kd.R_ne HO274.out BK271.out D4))
                have n4_:=am (hb)
                have n5_:=am (ho)
                clear HO_7
                clear HO_8
                clear BK265
                clear BK271
                clear HB
                clear HO274
                have HO_7:=n0_
                have HO_8:=n1_
                have BK265:=n2_
                have BK271:=n3_
                have HB:=n4_
                have HO277:=n5_
                clear n0_ n1_ n2_ n3_ n4_ n5_
                clear ho hb hg hat
                refine hK.out _ _ ⟨yk BK271 0,yk BK271 1⟩ (fun hHeld=>?_)
                clear hK K
                refine norm_ (a':=?_) ?_ ?_
                rotate_left
                ·show Act.put _ (some 34) _=_
                 simp only [Act.put,q1,q2,q3,i64_w,i32_w]
                 rfl
                refine one_ (i:=5) (N:=some 37) #[Y,Y,Y,Y,Y,Y,Z,Z] rfl rfl (one_of HT_.out D3) D4 (fun K hK=>?_)
                refine Kd.R_lit_step (Kd.int .i64) _ 3 ?hg (N:=37) ?hd (xs:=([(rd_T84 l1 x28_2).f0]:List Int)) (inner:=[.int .i64 ((rd_T84 l1 x28_2).f0)]) (ok:=fun _=>True) (okp:=fun _=>True) ?hr ?hp (fun _ hk=>hk) trivial (Below.refl _ _) (Nat.le_refl _) D36 ?_;(case hd=>rfl);(case hg=>rfl);(case hr=>first|(go_simp;done)|(go_simp;rfl));(case hp=>exact (Reps.one (show Kd.M (Kd.int .i64) _ _ _ ((rd_T84 l1 x28_2).f0) [.int .i64 ((rd_T84 l1 x28_2).f0)] from rfl) (Reps.none _ _)))
                intro v279 w41 ho42 hb hg_ hnew_
                clear hg_ hnew_
                (first|rw [← Ny278.out] at ho42|(simp only [Int.reduceToNat] at ho42;rw [← Ny278.out] at ho42))
                replace HO_8:=bR HO_8 hb
                have HO280:=am (Kd.R_lower (Kd.R_new' (Kd.R_new' ho42 (Kd.R_lt (yR HO_7))) (Kd.R_lt (yR HO277))) (pz (yW HB)))
                replace HO_7:=eR HO_7 (Kd.R_base ho42) hb
                replace HO277:=eR HO277 (Kd.R_base ho42) hb
                replace BK265:=yb BK265 hb
                replace BK271:=yb BK271 hb
                replace HB:=yH HB hb
                clear hb ho42
                refine hK.out _ _ ⟨yk BK271 0,yk BK271 1⟩ (fun hHeld=>?_)
                clear hK K
                refine norm_ (a':=?_) ?_ ?_
                rotate_left
                ·show Act.put _ (some 37) _=_
                 simp only [Act.put,q1,q2,q3,i64_w,i32_w]
                 rfl
                exact norm_ D24 (hCont (v273,v276,v279) _ ⟨hHeld,D15,D58,D32,(yR HO_8),(yB BK265),(yB BK271),(yW HB)⟩)
               skip
               refine Kd.R_lit_step (Kd.int .i64) _ 3 ?hg (N:=37) ?hd (xs:=([(rd_T84 l1 x28_2).f0]:List Int)) (inner:=[.int .i64 ((rd_T84 l1 x28_2).f0)]) (ok:=fun _=>True) (okp:=fun _=>True) ?hr ?hp (fun _ hk=>hk) trivial (Below.refl _ _) (Nat.le_refl _) D36 ?_;(case hd=>rfl);(case hg=>rfl);(case hr=>first|(go_simp;done)|(go_simp;rfl));(case hp=>exact (Reps.one (show Kd.M (Kd.int .i64) _ _ _ ((rd_T84 l1 x28_2).f0) [.int .i64 ((rd_T84 l1 x28_2).f0)] from rfl) (Reps.none _ _)))
               intro v279 w40 ho41 hb hg_ hnew_
               clear hg_ hnew_
               (first|rw [← Ny278.out] at ho41|(simp only [Int.reduceToNat] at ho41;rw [← Ny278.out] at ho41))
               replace HO_8:=bR HO_8 hb
               have HO280:=am (Kd.R_lower (Kd.R_new' (Kd.R_new' ho41 (Kd.R_lt (yR HO_7))) (Kd.R_lt (yR HO274))) (pz (yW HB)))
               replace HO_7:=eR HO_7 (Kd.R_base ho41) hb
               replace HO274:=eR HO274 (Kd.R_base ho41) hb
               replace BK265:=yb BK265 hb
               replace BK271:=yb BK271 hb
               replace HB:=yH HB hb
               clear hb ho41
               refine hK.out _ _ ⟨yk BK271 0,yk BK271 1⟩ (fun hHeld=>?_)
               clear hK K
               refine norm_ (a':=?_) ?_ ?_
               rotate_left
               ·show Act.put _ (some 37) _=_
                simp only [Act.put,q1,q2,q3,i64_w,i32_w]
                rfl
               refine one_ (i:=2) (N:=some 34) #[Y,Y,Y,Y,Y,Y,Z,Z] rfl rfl (one_of HT_.out D3) D4 (fun K hK=>?_)
               refine Kd.R_append_rows_step (Kd.int .i64) (w0:=w) w.heap.size D11 (.tmp 32) (.tmp 33) 25 3 (.int .i64 0) 8 rfl Try.underlying25 info3 rfl D4 D5 v273 y272 x7_2 _ _ _ (fun k_=>some k_ ≠ (.slice Ao35 x7_2.length co35:Value).ownBlock∧some k_ ≠ (v279:Value).ownBlock) (fun _=>False) rfl rfl ?aO ?aR (fun _ _ h=>h) (fun _ h=>h.elim) ?aF ?aB ?aS ?aL ?_
               (case aR=>repeat (first|exact (Kd.R_reads' HO_7.out).2.2|(with_reducible refine Kd.C_alloc ?_ _)|(with_reducible refine Kd.C_drewN ?_ _)|(with_reducible refine Kd.C_drew ?_)))
               (case aB=>exact (yW HB))
               (case aF=>exact (fun k_ hk=>⟨Kd.fresh' (Kd.R_lt (yR HO_7)) k_ hk,Kd.fresh' (Kd.R_lt (yR HO280)) k_ hk⟩))
               (case aO=>exact D29)
               (case aS=>exact (pz (yW HB)))
               (case aL=>have:=LMc23.out;omega)
               intro v276 w42 ho hb hg hat
               rw [← Ny275.out] at ho
               have n0_:=am (Kd.R_after (ok:=(fun k_=>some k_ ≠ (v279:Value).ownBlock)) D69 hg hat)
               have n1_:=am (Kd.R_over' (yR HO_8) (Kd.R_typed (yR HO274)) D4 hg)
               have n2_:=am (blk_grown (g:=gb265) (o:=.cells #[.int .i64 a0_0, .int .i64 a0_1, .int .i64 a0_2] 51 (0,0)) (yB BK265) hg (Kd.R_ne HO274.out BK265.out D4))
               have n3_:=am (blk_grown (g:=gb271) (o:=.cells #[.int .i64 ((rd_T84 l1 x28_2).f0), .string ((rd_T84 l1 x28_2).f1)] 84 (0,0)) (yB BK271) hg (Kd.R_ne HO274.out BK271.out D4))
               have n4_:=am (Kd.R_after (ok:=(fun k_=>some k_ ≠ (.slice Ao35 x7_2.length co35:Value).ownBlock)) D28 hg hat)
               have n5_:=am (hb)
               have n6_:=am (ho)
               clear HO_7
               clear HO_8
               clear BK265
               clear BK271
               clear HO280
               clear HB
               clear HO274
               have HO_7:=n0_
               have HO_8:=n1_
               have BK265:=n2_
               have BK271:=n3_
               have HO280:=n4_
               have HB:=n5_
               have HO277:=n6_
               clear n0_ n1_ n2_ n3_ n4_ n5_ n6_
               clear ho hb hg hat
               refine hK.out _ _ ⟨yk BK271 0,yk BK271 1⟩ (fun hHeld=>?_)
               clear hK K
               refine norm_ (a':=?_) ?_ ?_
               rotate_left
               ·show Act.put _ (some 34) _=_
                simp only [Act.put,q1,q2,q3,i64_w,i32_w]
                rfl
               exact norm_ D24 (hCont (v273,v276,v279) _ ⟨hHeld,D15,D18,D19,(yR HO_8),(yB BK265),(yB BK271),(yW HB)⟩)
              skip
              refine Kd.R_lit_step (Kd.int .i64) _ 3 ?hg (N:=37) ?hd (xs:=([(rd_T84 l1 x28_2).f0]:List Int)) (inner:=[.int .i64 ((rd_T84 l1 x28_2).f0)]) (ok:=fun _=>True) (okp:=fun _=>True) ?hr ?hp (fun _ hk=>hk) trivial (Below.refl _ _) (Nat.le_refl _) D36 ?_;(case hd=>rfl);(case hg=>rfl);(case hr=>first|(go_simp;done)|(go_simp;rfl));(case hp=>exact (Reps.one (show Kd.M (Kd.int .i64) _ _ _ ((rd_T84 l1 x28_2).f0) [.int .i64 ((rd_T84 l1 x28_2).f0)] from rfl) (Reps.none _ _)))
              intro v279 w38 ho39 hb hg_ hnew_
              clear hg_ hnew_
              (first|rw [← Ny278.out] at ho39|(simp only [Int.reduceToNat] at ho39;rw [← Ny278.out] at ho39))
              replace HO_8:=bR HO_8 hb
              have HO280:=am (Kd.R_lower (Kd.R_new' ho39 (Kd.R_lt (yR HO_7))) (pz (yW HB)))
              replace HO_7:=eR HO_7 (Kd.R_base ho39) hb
              replace BK265:=yb BK265 hb
              replace BK271:=yb BK271 hb
              replace HB:=yH HB hb
              clear hb ho39
              refine hK.out _ _ ⟨yk BK271 0,yk BK271 1⟩ (fun hHeld=>?_)
              clear hK K
              refine norm_ (a':=?_) ?_ ?_
              rotate_left
              ·show Act.put _ (some 37) _=_
               simp only [Act.put,q1,q2,q3,i64_w,i32_w]
               rfl
              refine one_ (i:=0) (N:=some 32) #[Y,Y,Z,Y,Y,Y,Z,Z] rfl rfl (one_of HT_.out D3) D4 (fun K hK=>?_)
              refine Kd.R_lit_step (Kd.int .i64) _ 3 ?hg (N:=32) ?hd (xs:=([]:List Int)) (inner:=[]) (ok:=fun _=>True) (okp:=fun _=>True) ?hr ?hp (fun _ hk=>hk) trivial (Below.refl _ _) (Nat.le_refl _) D36 ?_;(case hd=>rfl);(case hg=>rfl);(case hr=>first|(go_simp;done)|(go_simp;rfl));(case hp=>exact (Reps.none _ _))
              intro v273 w40 ho41 hb hg_ hnew_
              clear hg_ hnew_
              (first|rw [← Ny272.out] at ho41|(simp only [Int.reduceToNat] at ho41;rw [← Ny272.out] at ho41))
              replace HO_8:=bR HO_8 hb
              have HO274:=am (Kd.R_lower (Kd.R_new' (Kd.R_new' ho41 (Kd.R_lt (yR HO_7))) (Kd.R_lt (yR HO280))) (pz (yW HB)))
              replace HO_7:=eR HO_7 (Kd.R_base ho41) hb
              replace HO280:=eR HO280 (Kd.R_base ho41) hb
              replace BK265:=yb BK265 hb
              replace BK271:=yb BK271 hb
              replace HB:=yH HB hb
              clear hb ho41
              refine hK.out _ _ ⟨yk BK271 0,yk BK271 1⟩ (fun hHeld=>?_)
              clear hK K
              refine norm_ (a':=?_) ?_ ?_
              rotate_left
              ·show Act.put _ (some 32) _=_
               simp only [Act.put,q1,q2,q3,i64_w,i32_w]
               rfl
              refine one_ (i:=2) (N:=some 34) #[Y,Y,Y,Y,Y,Y,Z,Z] rfl rfl (one_of HT_.out D3) D4 (fun K hK=>?_)
              refine Kd.R_append_rows_step (Kd.int .i64) (w0:=w) w.heap.size D11 (.tmp 32) (.tmp 33) 25 3 (.int .i64 0) 8 rfl Try.underlying25 info3 rfl D4 D5 v273 y272 x7_2 _ _ _ (fun k_=>some k_ ≠ (.slice Ao35 x7_2.length co35:Value).ownBlock∧some k_ ≠ (v279:Value).ownBlock) (fun _=>False) rfl rfl ?aO ?aR (fun _ _ h=>h) (fun _ h=>h.elim) ?aF ?aB ?aS ?aL ?_
              (case aR=>repeat (first|exact (Kd.R_reads' HO_7.out).2.2|(with_reducible refine Kd.C_alloc ?_ _)|(with_reducible refine Kd.C_drewN ?_ _)|(with_reducible refine Kd.C_drew ?_)))
              (case aB=>exact (yW HB))
              (case aF=>exact (fun k_ hk=>⟨Kd.fresh' (Kd.R_lt (yR HO_7)) k_ hk,Kd.fresh' (Kd.R_lt (yR HO280)) k_ hk⟩))
              (case aO=>exact D29)
              (case aS=>exact (pz (yW HB)))
              (case aL=>have:=LMc23.out;omega)
              intro v276 w42 ho hb hg hat
              rw [← Ny275.out] at ho
              have n0_:=am (Kd.R_after (ok:=(fun k_=>some k_ ≠ (v279:Value).ownBlock)) D32 hg hat)
              have n1_:=am (Kd.R_over' (yR HO_8) (Kd.R_typed (yR HO274)) D4 hg)
              have n2_:=am (blk_grown (g:=gb265) (o:=.cells #[.int .i64 a0_0, .int .i64 a0_1, .int .i64 a0_2] 51 (0,0)) (yB BK265) hg (Kd.R_ne HO274.out BK265.out D4))
              have n3_:=am (blk_grown (g:=gb271) (o:=.cells #[.int .i64 ((rd_T84 l1 x28_2).f0), .string ((rd_T84 l1 x28_2).f1)] 84 (0,0)) (yB BK271) hg (Kd.R_ne HO274.out BK271.out D4))
              have n4_:=am (Kd.R_after (ok:=(fun k_=>some k_ ≠ (.slice Ao35 x7_2.length co35:Value).ownBlock)) D28 hg hat)
              have n5_:=am (hb)
              have n6_:=am (ho)
              clear HO_7
              clear HO_8
              clear BK265
              clear BK271
              clear HO280
              clear HB
              clear HO274
              have HO_7:=n0_
              have HO_8:=n1_
              have BK265:=n2_
              have BK271:=n3_
              have HO280:=n4_
              have HB:=n5_
              have HO277:=n6_
              clear n0_ n1_ n2_ n3_ n4_ n5_ n6_
              clear ho hb hg hat
              refine hK.out _ _ ⟨yk BK271 0,yk BK271 1⟩ (fun hHeld=>?_)
              clear hK K
              refine norm_ (a':=?_) ?_ ?_
              rotate_left
              ·show Act.put _ (some 34) _=_
               simp only [Act.put,q1,q2,q3,i64_w,i32_w]
               rfl
              exact norm_ D24 (hCont (v273,v276,v279) _ ⟨hHeld,D15,D18,D19,(yR HO_8),(yB BK265),(yB BK271),(yW HB)⟩)
             rintro ⟨v273,v276,v279⟩ w43 ⟨hS_,h0_,h1_,h2_,h3_,h4_,h5_,h6_⟩
             have n0_:Aside0 (Kd.R (Kd.int .i64) 3 w43 w.heap.size (fun k_=>some k_ ≠ (v279:Value).ownBlock∧some k_ ≠ (.slice Ao35 x7_2.length co35:Value).ownBlock) v276 y275):=⟨h0_⟩
             have n1_:Aside0 (Kd.R (Kd.int .i64) 3 w43 w.heap.size (fun k_=>some k_ ≠ (v276:Value).ownBlock∧some k_ ≠ (.slice Ao35 x7_2.length co35:Value).ownBlock) v279 y278):=⟨h1_⟩
             have n2_:Aside0 (Kd.R (Kd.int .i64) 3 w43 w.heap.size (fun k_=>some k_ ≠ (v276:Value).ownBlock∧some k_ ≠ (v279:Value).ownBlock) (.slice Ao35 x7_2.length co35) x7_2):=⟨h2_⟩
             have n3_:Aside0 (Kd.R Kd.string 9 w43 w.heap.size (fun _=>True) u8 x8_2):=⟨h3_⟩
             have n4_:Aside0 (w43.heap[gb265]? = some (.cells #[.int .i64 a0_0, .int .i64 a0_1, .int .i64 a0_2] 51 (0,0))):=⟨h4_⟩
             have n5_:Aside0 (w43.heap[gb271]? = some (.cells #[.int .i64 ((rd_T84 l1 x28_2).f0), .string ((rd_T84 l1 x28_2).f1)] 84 (0,0))):=⟨h5_⟩
             have n6_:Aside0 (Below w.heap.size w w43):=⟨h6_⟩
             clear HO_7
             clear HO_8
             clear BK265
             clear BK271
             clear HB
             clear h0_ h1_ h2_ h3_ h4_ h5_ h6_
             have HO277:=n0_
             have HO280:=n1_
             have HO_7:=n2_
             have HO_8:=n3_
             have BK265:=n4_
             have BK271:=n5_
             have HB:=n6_
             clear n0_ n1_ n2_ n3_ n4_ n5_ n6_
             have hHeld:w43.cell? ⟨gb271,0,none⟩=some (.int .i64 ((rd_T84 l1 x28_2).f0))∧w43.cell? ⟨gb271,1,none⟩=some (.string ((rd_T84 l1 x28_2).f1)):=hS_
             obtain ⟨Ao45,co45,eo45⟩:=Kd.R_slice HO280.out
             (first|subst eo45|(injection eo45 with f1_ f2_ f3_;have f4_:=f1_.symm;have f5_:=f3_.symm;clear f1_ f2_ f3_;subst f4_;subst f5_))
             refine norm_ (a':=?_) ?_ ?_
             rotate_left
             ·simp only [putAll,Act.put,q1,q2,q3]
              rfl
             refine one_ (i:=6) (N:=some 38) #[Y,Y,Y,Y,Y,Y,Y,Z] rfl rfl (one_of HT_.out D3) D4 (fun K hK=>?_)
             refine Kd.R_append_rows_step (Kd.int .i64) (w0:=w) w.heap.size D11 (.tmp 34) (.tmp 37) 25 3 (.int .i64 0) 8 rfl Try.underlying25 info3 rfl D4 D5 v276 y275 y278 _ _ _ (fun k_=>some k_ ≠ (.slice Ao35 x7_2.length co35:Value).ownBlock∧some k_ ≠ (.slice Ao45 y278.length co45:Value).ownBlock) (fun _=>False) rfl rfl ?aO ?aR (fun _ _ h=>h) (fun _ h=>h.elim) ?aF ?aB ?aS ?aL ?_
             (case aR=>repeat (first|exact (Kd.R_reads' HO280.out).2.2|(with_reducible refine Kd.C_alloc ?_ _)|(with_reducible refine Kd.C_drewN ?_ _)|(with_reducible refine Kd.C_drew ?_)))
             (case aB=>exact (yW HB))
             (case aF=>exact (fun k_ hk=>⟨Kd.fresh' (Kd.R_lt (yR HO_7)) k_ hk,Kd.fresh' (Kd.R_lt (yR HO280)) k_ hk⟩))
             (case aO=>exact D15)
             (case aS=>exact (pz (yW HB)))
             (case aL=>have:=LMc24.out;omega)
             intro v282 w44 ho hb hg hat
             rw [← Ny281.out] at ho
             have n0_:=am (Kd.R_after (ok:=(fun k_=>some k_ ≠ (.slice Ao45 y278.length co45:Value).ownBlock)) D19 hg hat)
             have n1_:=am (Kd.R_over' (yR HO_8) (Kd.R_typed (yR HO277)) D4 hg)
             have n2_:=am (blk_grown (g:=gb265) (o:=.cells #[.int .i64 a0_0, .int .i64 a0_1, .int .i64 a0_2] 51 (0,0)) (yB BK265) hg (Kd.R_ne HO277.out BK265.out D4))
             have n3_:=am (blk_grown (g:=gb271) (o:=.cells #[.int .i64 ((rd_T84 l1 x28_2).f0), .string ((rd_T84 l1 x28_2).f1)] 84 (0,0)) (yB BK271) hg (Kd.R_ne HO277.out BK271.out D4))
             have n4_:=am (Kd.R_after (ok:=(fun k_=>some k_ ≠ (.slice Ao35 x7_2.length co35:Value).ownBlock)) D18 hg hat)
             have n5_:=am (hb)
             have n6_:=am (ho)
             clear HO_7
             clear HO_8
             clear BK265
             clear BK271
             clear HO280
             clear HB
             clear HO277
             have HO_7:=n0_
             have HO_8:=n1_
             have BK265:=n2_
             have BK271:=n3_
             have HO280:=n4_
             have HB:=n5_
             have HO283:=n6_
             clear n0_ n1_ n2_ n3_ n4_ n5_ n6_
             clear ho hb hg hat
             refine hK.out _ _ ⟨yk BK271 0,yk BK271 1⟩ (fun hHeld=>?_)
             clear hK K
             refine norm_ (a':=?_) ?_ ?_
             rotate_left
             ·show Act.put _ (some 38) _=_
              simp only [Act.put,q1,q2,q3,i64_w,i32_w]
              rfl
             refine pure_ (i:=7) (N:=some 11) (v:=?_) (a':=?_) #[Y,Y,Y,Y,Y,Y,Y,Y] rfl rfl (any_of HT_.out D3) hh (Or.inl ⟨D11,?_⟩) ?_ ?_
             rotate_left
             ·intro w'
              go_simp
              with_reducible rfl
             rotate_left
             ·simp only [Act.put,q1,q2,q3,i64_w,i32_w]
              rfl
             refine done_ (done_of HT_.out D3) ?_
             obtain ⟨hcz46_0,hcz46_1,hcz46_2,hfz46_0,hfz46_1,hfz46_2⟩:=yk3 BK265
             try go_wp2_with (first|(go_at_call 110;(with_reducible refine (spec_l4Matrix.calls k2 a0_0 a0_1 a0_2 t284 _ A26.out).mono ?_);rintro e w47 ⟨v285,rfl,ho0,hb⟩;have HO286:=am (Kd.N_lower (Kd.N_mono (ok':=fun k_=>some k_ ≠ (.slice Ao35 x7_2.length co35:Value).ownBlock∧some k_ ≠ (u8:Value).ownBlock∧some k_ ≠ (.slice Ao45 y278.length co45:Value).ownBlock∧some k_ ≠ (v282:Value).ownBlock∧k_ ≠ gb265∧k_ ≠ gb271) ho0 (fun k_ hk_=>⟨(Kd.fresh' (Kd.R_lt (yR HO_7)) k_ hk_),(Kd.fresh' (Kd.R_lt (yR HO_8)) k_ hk_),(Kd.fresh' (Kd.R_lt (yR HO280)) k_ hk_),(Kd.fresh' (Kd.R_lt (yR HO283)) k_ hk_),(yz BK265 k_ hk_),(yz BK271 k_ hk_)⟩)) (pz (yW HB)));replace HO_7:=bR HO_7 hb;replace HO_8:=bR HO_8 hb;replace HO280:=bR HO280 hb;replace HO283:=bR HO283 hb;replace BK265:=yb BK265 hb;replace BK271:=yb BK271 hb;replace HB:=yH HB hb;clear hb ho0)|(go_at_call 93;(with_reducible refine (spec_l3All.calls k2 t269 t287 _ A27.out).mono ?_);rintro e w48 ⟨v288,rfl,ho0,hb⟩;replace HO_8:=bR HO_8 hb;replace HO286:=eN HO286 (Kd.R_base ho0) hb;have HO289:=am (Kd.R_lower (Kd.R_new' (Kd.R_new' (Kd.R_new' ho0 (Kd.R_lt (yR HO_7))) (Kd.R_lt (yR HO280))) (Kd.R_lt (yR HO283))) (pz (yW HB)));replace HO_7:=eR HO_7 (Kd.R_base ho0) hb;replace HO280:=eR HO280 (Kd.R_base ho0) hb;replace HO283:=eR HO283 (Kd.R_base ho0) hb;replace BK265:=yb BK265 hb;replace BK271:=yb BK271 hb;replace HB:=yH HB hb;clear hb ho0;obtain ⟨Ao49,co49,eo49⟩:=Kd.N_slice HO286.out;subst eo49;obtain ⟨Ao50,co50,eo50⟩:=Kd.R_slice HO283.out;subst eo50;obtain ⟨Ao51,co51,eo51⟩:=Kd.R_slice HO289.out;subst eo51)|(go_at_call 92;(with_reducible refine (spec_l2Part.calls k2 _ _ t284 _ _ y281 _ _ t287 t290 _ (yc (Kd.N_reads' HO286.out).2.2) (Kd.N_reads' HO286.out).2.1 (yc (Kd.R_reads' HO283.out).2.2) (Kd.R_reads' HO283.out).2.1 (yc (Kd.R_reads' HO289.out).2.2) (Kd.R_reads' HO289.out).2.1 A28.out).mono ?_);rintro e w52 ⟨v291,rfl,ho0,hb⟩;have HO292:=am (Kd.N_lower (Kd.N_mono (ok':=fun k_=>some k_ ≠ (.slice Ao35 x7_2.length co35:Value).ownBlock∧some k_ ≠ (u8:Value).ownBlock∧some k_ ≠ (.slice Ao45 y278.length co45:Value).ownBlock∧some k_ ≠ (.slice Ao50 y281.length co50:Value).ownBlock∧some k_ ≠ (.slice Ao49 t284.length co49:Value).ownBlock∧some k_ ≠ (.slice Ao51 t287.length co51:Value).ownBlock∧k_ ≠ gb265∧k_ ≠ gb271) (Kd.S_N (Kd.S_bound ho0)) (fun k_ hk_=>⟨(Kd.fresh' (Kd.R_lt (yR HO_7)) k_ hk_.2.1),(Kd.fresh' (Kd.R_lt (yR HO_8)) k_ hk_.2.1),(Kd.fresh' (Kd.R_lt (yR HO280)) k_ hk_.2.1),(Kd.fresh' (Kd.R_lt (yR HO283)) k_ hk_.2.1),(Kd.fresh' (Kd.N_lt (yN HO286)) k_ hk_.2.1),(Kd.fresh' (Kd.R_lt (yR HO289)) k_ hk_.2.1),(yz BK265 k_ hk_.2.1),(yz BK271 k_ hk_.2.1)⟩)) (pz (yW HB)));replace HO_7:=bR HO_7 hb;replace HO_8:=bR HO_8 hb;replace HO280:=bR HO280 hb;replace HO283:=bR HO283 hb;replace HO286:=eN HO286 D7 hb;replace HO289:=bR HO289 hb;replace BK265:=yb BK265 hb;replace BK271:=yb BK271 hb;replace HB:=yH HB hb;clear hb ho0;obtain ⟨Ao53,co53,eo53⟩:=Kd.N_slice HO292.out;subst eo53)|(go_at_call 104;(with_reducible refine (spec_l2Rank.calls _ _ t290 t293 _ (yc (Kd.N_reads' HO292.out).2.2) (Kd.N_reads' HO292.out).2.1 A29.out).mono ?_);rintro e w54 ⟨rfl,hb⟩;replace HO_7:=bR HO_7 hb;replace HO_8:=bR HO_8 hb;replace HO280:=bR HO280 hb;replace HO283:=bR HO283 hb;replace HO286:=bN HO286 hb;replace HO289:=bR HO289 hb;replace HO292:=bN HO292 hb;replace BK265:=yb BK265 hb;replace BK271:=yb BK271 hb;replace HB:=yH HB hb;clear hb;obtain ⟨hcz55_0,hcz55_1,hfz55_0,hfz55_1⟩:=yk2 BK271)|((with_reducible refine gD 59 ?_);(try (refine gate_guard D11 ?_;dsimp only));refine Kd.R_lit Kd.string _ 9 D11 (N:=59) D11 (xs:=([(rd_T84 l1 x28_2).f1]:List ByteArray)) (inner:=[.string ((rd_T84 l1 x28_2).f1)]) (ok:=fun _=>True) (okp:=fun _=>True) D16 (by exact (Reps.one (show Kd.M Kd.string _ _ _ ((rd_T84 l1 x28_2).f1) [.string ((rd_T84 l1 x28_2).f1)] from rfl) (Reps.none _ _))) (fun _ hk=>hk) trivial (Below.refl _ _) (Nat.le_refl _) D36 ?_;intro v295 w56 ho57 hb hg_ hnew_;clear hg_ hnew_;(first|rw [← Ny294.out] at ho57|(simp only [Int.reduceToNat] at ho57;rw [← Ny294.out] at ho57));replace HO_7:=bR HO_7 hb;replace HO280:=bR HO280 hb;replace HO283:=bR HO283 hb;replace HO286:=eN HO286 (Kd.R_base ho57) hb;replace HO289:=bR HO289 hb;replace HO292:=eN HO292 (Kd.R_base ho57) hb;have HO296:=am (Kd.R_lower (Kd.R_new' ho57 (Kd.R_lt (yR HO_8))) (pz (yW HB)));replace HO_8:=eR HO_8 (Kd.R_base ho57) hb;replace BK265:=yb BK265 hb;replace BK271:=yb BK271 hb;replace HB:=yH HB hb;clear hb ho57;obtain ⟨Ao59,co59,eo59⟩:=Kd.R_slice HO296.out;subst eo59)|((with_reducible refine gate_builtin (b:=.append) (xs:=#[.tmp 56, .tmp 59]) rfl ?_);(try (refine gate_guard D11 ?_;dsimp only));at_builtin;refine Kd.R_append_rows Kd.string (w0:=w) w.heap.size rfl (.tmp 56) (.tmp 59) 22 9 (.string ⟨#[]⟩) 16 rfl Try.underlying22 info9 rfl D4 D5 u8 x8_2 y294 _ _ _ (fun k_=>some k_ ≠ (.slice Ao59 y294.length co59:Value).ownBlock) (fun _=>False) rfl rfl (by exact (by refine sR ?_;exact Kd.R_mono HO_8.out (fun _ hk=>hk.2))) (by repeat (first|exact (Kd.R_reads' HO296.out).2.2|(with_reducible refine Kd.C_alloc ?_ _)|(with_reducible refine Kd.C_drewN ?_ _)|(with_reducible refine Kd.C_drew ?_))) (fun _ _ h=>h) (fun _ h=>h.elim) (by exact (fun k_ hk=>Kd.fresh' (Kd.R_lt (yR HO296)) k_ hk)) D46 D26 (by have:=LMc31.out;omega) ?_;intro v298 w58 ho hb hg hat;rw [← Ny297.out] at ho;have n0_:=am (Kd.R_over' (yR HO_7) (Kd.R_typed (yR HO_8)) D4 hg);have n1_:=am (blk_grown (g:=gb265) (o:=.cells #[.int .i64 a0_0, .int .i64 a0_1, .int .i64 a0_2] 51 (0,0)) (yB BK265) hg (Kd.R_ne HO_8.out BK265.out D4));have n2_:=am (blk_grown (g:=gb271) (o:=.cells #[.int .i64 ((rd_T84 l1 x28_2).f0), .string ((rd_T84 l1 x28_2).f1)] 84 (0,0)) (yB BK271) hg (Kd.R_ne HO_8.out BK271.out D4));have n3_:=am (Kd.R_over' (yR HO280) (Kd.R_typed (yR HO_8)) D4 hg);have n4_:=am (Kd.R_over' (yR HO283) (Kd.R_typed (yR HO_8)) D4 hg);have n5_:=am (Kd.N_afterv (ok:=(fun k_=>some k_ ≠ (.slice Ao35 x7_2.length co35:Value).ownBlock∧some k_ ≠ (.slice Ao45 y278.length co45:Value).ownBlock∧some k_ ≠ (.slice Ao50 y281.length co50:Value).ownBlock∧some k_ ≠ (.slice Ao51 t287.length co51:Value).ownBlock∧some k_ ≠ (.slice Ao53 t290.length co53:Value).ownBlock∧some k_ ≠ (.slice Ao59 y294.length co59:Value).ownBlock∧k_ ≠ gb265∧k_ ≠ gb271)) (by refine sN ?_;exact Kd.N_mono HO286.out (fun _ hk=>⟨⟨hk.1.1.1.1,⟨hk.1.1.1.2.2.1,⟨hk.1.1.1.2.2.2.1,⟨hk.1.1.2,⟨hk.1.2,⟨hk.2,⟨hk.1.1.1.2.2.2.2.1,hk.1.1.1.2.2.2.2.2⟩⟩⟩⟩⟩⟩⟩,hk.1.1.1.2.1⟩)) hg hat);have n6_:=am (Kd.R_over' (yR HO289) (Kd.R_typed (yR HO_8)) D4 hg);have n7_:=am (Kd.N_afterv (ok:=(fun k_=>some k_ ≠ (.slice Ao35 x7_2.length co35:Value).ownBlock∧some k_ ≠ (.slice Ao45 y278.length co45:Value).ownBlock∧some k_ ≠ (.slice Ao50 y281.length co50:Value).ownBlock∧some k_ ≠ (.slice Ao49 t284.length co49:Value).ownBlock∧some k_ ≠ (.slice Ao51 t287.length co51:Value).ownBlock∧some k_ ≠ (.slice Ao59 y294.length co59:Value).ownBlock∧k_ ≠ gb265∧k_ ≠ gb271)) (by refine sN ?_;exact Kd.N_mono HO292.out (fun _ hk=>⟨⟨hk.1.1,⟨hk.1.2.2.1,⟨hk.1.2.2.2.1,⟨hk.1.2.2.2.2.1,⟨hk.1.2.2.2.2.2.1,⟨hk.2,⟨hk.1.2.2.2.2.2.2.1,hk.1.2.2.2.2.2.2.2⟩⟩⟩⟩⟩⟩⟩,hk.1.2.1⟩)) hg hat);have n8_:=am (Kd.R_after (ok:=(fun _=>True)) (yR HO296) hg hat);have n9_:=am (hb);have n10_:=am (ho);clear HO_7 BK265 BK271 HO280 HO283 HO286 HO289 HO292 HO296 HB HO_8;have HO_7:=n0_;have BK265:=n1_;have BK271:=n2_;have HO280:=n3_;have HO283:=n4_;have HO286:=n5_;have HO289:=n6_;have HO292:=n7_;have HO296:=n8_;have HB:=n9_;have HO299:=n10_;clear n0_ n1_ n2_ n3_ n4_ n5_ n6_ n7_ n8_ n9_ n10_ ho hb hg hat))
             go_roundg k2
             case measure=>have:=HJ2.out;have:=HK2.out;omega
             case rel=>exact ⟨(y281),(y297),(wrap64 (x28_2+1)),D2,H',⟨D70⟩,⟨by refine sR ?_;exact Kd.R_mono HO283.out (fun _ hk=>trivial)⟩,⟨by refine sR ?_;exact Kd.R_mono HO299.out (fun _ hk=>trivial)⟩,⟨yB BK265⟩,⟨yW HB⟩⟩
            rw [if_neg c31] at H
            exact absurd H D36
           rw [if_neg c30] at H
           have c30b0:(t293 == (y281.length:Int))=false:=beq_eq_false_iff_ne.mpr c30
           have c30b1:(t293 != (y281.length:Int))=true:=bne_iff_ne.mpr c30
           have H':=am H
           clear H
           have p270:0≤(x28_2:Int):=od D0
           have q270:x28_2 < (l1.length:Int):=od D0
           obtain ⟨ad270,e270,hx270_0,hx270_1⟩:=at_T84 HR1.out x28_2 p270 q270
           cases e270
           replace hx270_0:=(HB.out.cell (World.block_lt_of_cell? w _ hx270_0)).trans hx270_0
           replace hx270_1:=(HB.out.cell (World.block_lt_of_cell? w _ hx270_1)).trans hx270_1
           replace p270:=eq_true p270
           replace q270:=eq_true q270
           try go_wp2_with (first|((with_reducible refine gD 10 ?_);(try (refine gate_guard D11 ?_;dsimp only));refine gB (cs:=#[.int .i64 0, .string (⟨#[]⟩:ByteArray)]) 84 ?_;intro gb271 hg w60 hbox hb;replace HO_7:=bR HO_7 hb;replace HO_8:=bR HO_8 hb;have BK271:=am (hbox);have GW271:=ye HB hg;replace HB:=yH HB hb;have NB265_271:=yl BK265 hg;have NB271_265:=yg BK265 hg;replace BK265:=yb BK265 hb;have GE271:=GW271;clear hb hbox hg;have hnb61:=NB271_265.out;have hnc61:=NB265_271.out;obtain ⟨hcz62_0,hcz62_1,hfz62_0,hfz62_1⟩:=yk2 BK271;obtain ⟨Ao63,co63,eo63⟩:=Kd.R_slice HO_7.out;subst eo63))
           generalize hw_:((w60.setCell ⟨gb271,0,none⟩ (.int .i64 ((rd_T84 l1 x28_2).f0))).setCell ⟨gb271,1,none⟩ (.string ((rd_T84 l1 x28_2).f1)))=w64
           replace HO_7:Aside0 (Kd.R (Kd.int .i64) 3 w64 w.heap.size (fun _=>True) (.slice Ao63 x7_2.length co63) x7_2):=⟨D21⟩
           replace HO_8:Aside0 (Kd.R Kd.string 9 w64 w.heap.size (fun _=>True) u8 x8_2):=⟨D20⟩
           replace BK265:Aside0 (w64.heap[gb265]? = some (.cells #[.int .i64 a0_0, .int .i64 a0_1, .int .i64 a0_2] 51 (0,0))):=⟨by rw [← hw_];exact yF BK265⟩
           replace BK271:Aside0 (w64.heap[gb271]? = some (.cells #[.int .i64 ((rd_T84 l1 x28_2).f0), .string ((rd_T84 l1 x28_2).f1)] 84 (0,0))):=⟨D22⟩
           replace HB:Aside0 (Below w.heap.size w w64):=⟨D41⟩
           clear hw_
           replace HO_7:=am (Kd.R_drew HO_7.out)
           replace HO_8:=am (Kd.R_drew HO_8.out)
           replace BK265:=am (qd BK265.out)
           replace BK271:=am (qd BK271.out)
           replace HB:=am (pd HB.out)
           refine start_ (n:=8) (S:=fun w'=>w'.cell? ⟨gb271,0,none⟩=some (.int .i64 ((rd_T84 l1 x28_2).f0))∧w'.cell? ⟨gb271,1,none⟩=some (.string ((rd_T84 l1 x28_2).f1))) (ds:=[]) #[Z,Z,Z,Z,Z,Z,Z,Z] D3 rfl rfl ⟨yk BK271 0,yk BK271 1⟩ (fun hHeld=>?_);refine with_tabW spec_DecodeLocal.tab9 spec_DecodeLocal.bits9 (fun HT_ HW_=>?_)
           generalize w64.drew=w65 at HO_7 HO_8 BK265 BK271 HB hHeld ⊢
           refine pure_ (i:=1) (N:=some 33) (v:=?_) (a':=?_) #[Z,Y,Z,Z,Z,Z,Z,Z] rfl rfl (any_of HT_.out D3) hh (Or.inl ⟨D11,?_⟩) ?_ ?_
           rotate_left
           ·intro w'
            go_simp
            with_reducible rfl
           rotate_left
           ·simp only [Act.put,q1,q2,q3,i64_w,i32_w]
            rfl
           refine pure_ (i:=3) (N:=some 35) (v:=?_) (a':=?_) #[Z,Y,Z,Y,Z,Z,Z,Z] rfl rfl (any_of HT_.out D3) hh (Or.inl ⟨D11,?_⟩) ?_ ?_
           rotate_left
           ·intro w'
            go_simp
            with_reducible rfl
           rotate_left
           ·simp only [Act.put,q1,q2,q3,i64_w,i32_w]
            rfl
           refine take_ (i:=4) (N:=some 36) (v:=?_) (a':=?_) #[Z,Y,Z,Y,Y,Z,Z,Z] rfl rfl (take_ofW HT_.out HW_.out D3) hh (Or.inl ⟨D11,?_⟩) hHeld ?_ ?_
           rotate_left
           ·rintro w' ⟨s0,s1⟩
            go_simp
            with_reducible rfl
           rotate_left
           ·simp only [Act.put,q1,q2,q3,i64_w,i32_w]
            rfl
           refine join_ (σ:=Value × Value × Value) 2 #[Y,Y,Y,Y,Y,Y,Z,Z] (fun s_=>[(32,s_.1),(34,s_.2.1),(37,s_.2.2)]) (fun s_ w'=>(w'.cell? ⟨gb271,0,none⟩=some (.int .i64 ((rd_T84 l1 x28_2).f0))∧w'.cell? ⟨gb271,1,none⟩=some (.string ((rd_T84 l1 x28_2).f1)))∧(Kd.R (Kd.int .i64) 3 w' w.heap.size (fun k_=>some k_ ≠ (s_.2.2:Value).ownBlock∧some k_ ≠ (.slice Ao63 x7_2.length co63:Value).ownBlock) s_.2.1 y275)∧(Kd.R (Kd.int .i64) 3 w' w.heap.size (fun k_=>some k_ ≠ (s_.2.1:Value).ownBlock∧some k_ ≠ (.slice Ao63 x7_2.length co63:Value).ownBlock) s_.2.2 y278)∧(Kd.R (Kd.int .i64) 3 w' w.heap.size (fun k_=>some k_ ≠ (s_.2.1:Value).ownBlock∧some k_ ≠ (s_.2.2:Value).ownBlock) (.slice Ao63 x7_2.length co63) x7_2)∧(Kd.R Kd.string 9 w' w.heap.size (fun _=>True) u8 x8_2)∧(w'.heap[gb265]? = some (.cells #[.int .i64 a0_0, .int .i64 a0_1, .int .i64 a0_2] 51 (0,0)))∧(w'.heap[gb271]? = some (.cells #[.int .i64 ((rd_T84 l1 x28_2).f0), .string ((rd_T84 l1 x28_2).f1)] 84 (0,0)))∧(Below w.heap.size w w')) ?_ ?_
           rotate_left
           ·intro hCont
            refine two_ (i:=0) (j:=5) (Ni:=some 32) (Nj:=some 37) #[Y,Y,Z,Y,Y,Z,Z,Z] #[Z,Y,Z,Y,Y,Y,Z,Z] rfl rfl rfl rfl (two_of HT_.out D3) D4 D4 (fun K hK=>?_) (fun K hK=>?_)
            ·skip
             refine Kd.R_lit_step (Kd.int .i64) _ 3 ?hg (N:=32) ?hd (xs:=([]:List Int)) (inner:=[]) (ok:=fun _=>True) (okp:=fun _=>True) ?hr ?hp (fun _ hk=>hk) trivial (Below.refl _ _) (Nat.le_refl _) D36 ?_;(case hd=>rfl);(case hg=>rfl);(case hr=>first|(go_simp;done)|(go_simp;rfl));(case hp=>exact (Reps.none _ _))
             intro v273 w66 ho67 hb hg_ hnew_
             clear hg_ hnew_
             (first|rw [← Ny272.out] at ho67|(simp only [Int.reduceToNat] at ho67;rw [← Ny272.out] at ho67))
             replace HO_8:=bR HO_8 hb
             have HO274:=am (Kd.R_lower (Kd.R_new' ho67 (Kd.R_lt (yR HO_7))) (pz (yW HB)))
             replace HO_7:=eR HO_7 (Kd.R_base ho67) hb
             replace BK265:=yb BK265 hb
             replace BK271:=yb BK271 hb
             replace HB:=yH HB hb
             clear hb ho67
             refine hK.out _ _ ⟨yk BK271 0,yk BK271 1⟩ (fun hHeld=>?_)
             clear hK K
             refine norm_ (a':=?_) ?_ ?_
             rotate_left
             ·show Act.put _ (some 32) _=_
              simp only [Act.put,q1,q2,q3,i64_w,i32_w]
              rfl
             refine two_ (i:=2) (j:=5) (Ni:=some 34) (Nj:=some 37) #[Y,Y,Y,Y,Y,Z,Z,Z] #[Y,Y,Z,Y,Y,Y,Z,Z] rfl rfl rfl rfl (two_of HT_.out D3) D4 D4 (fun K hK=>?_) (fun K hK=>?_)
             ·skip
              refine Kd.R_append_rows_step (Kd.int .i64) (w0:=w) w.heap.size D11 (.tmp 32) (.tmp 33) 25 3 (.int .i64 0) 8 rfl Try.underlying25 info3 rfl D4 D5 v273 y272 x7_2 _ _ _ (fun k_=>some k_ ≠ (.slice Ao63 x7_2.length co63:Value).ownBlock) (fun _=>False) rfl rfl ?aO ?aR (fun _ _ h=>h) (fun _ h=>h.elim) ?aF ?aB ?aS ?aL ?_
              (case aR=>repeat (first|exact (Kd.R_reads' HO_7.out).2.2|(with_reducible refine Kd.C_alloc ?_ _)|(with_reducible refine Kd.C_drewN ?_ _)|(with_reducible refine Kd.C_drew ?_)))
              (case aB=>exact (yW HB))
              (case aF=>exact (fun k_ hk=>Kd.fresh' (Kd.R_lt (yR HO_7)) k_ hk))
              (case aO=>exact D74)
              (case aS=>exact (pz (yW HB)))
              (case aL=>have:=LMc23.out;omega)
              intro v276 w68 ho hb hg hat
              rw [← Ny275.out] at ho
              have n0_:=am (Kd.R_after (ok:=(fun _=>True)) (yR HO_7) hg hat)
              have n1_:=am (Kd.R_over' (yR HO_8) (Kd.R_typed (yR HO274)) D4 hg)
              have n2_:=am (blk_grown (g:=gb265) (o:=.cells #[.int .i64 a0_0, .int .i64 a0_1, .int .i64 a0_2] 51 (0,0)) (yB BK265) hg (Kd.R_ne HO274.out BK265.out D4))
              have n3_:=am (blk_grown (g:=gb271) (o:=.cells #[.int .i64 ((rd_T84 l1 x28_2).f0), .string ((rd_T84 l1 x28_2).f1)] 84 (0,0)) (yB BK271) hg (Kd.R_ne HO274.out BK271.out D4))
              have n4_:=am (hb)
              have n5_:=am (ho)
              clear HO_7
              clear HO_8
              clear BK265
              clear BK271
              clear HB
              clear HO274
              have HO_7:=n0_
              have HO_8:=n1_
              have BK265:=n2_
              have BK271:=n3_
              have HB:=n4_
              have HO277:=n5_
              clear n0_ n1_ n2_ n3_ n4_ n5_
              clear ho hb hg hat
              refine hK.out _ _ ⟨yk BK271 0,yk BK271 1⟩ (fun hHeld=>?_)
              clear hK K
              refine norm_ (a':=?_) ?_ ?_
              rotate_left
              ·show Act.put _ (some 34) _=_
               simp only [Act.put,q1,q2,q3,i64_w,i32_w]
               rfl
              refine one_ (i:=5) (N:=some 37) #[Y,Y,Y,Y,Y,Y,Z,Z] rfl rfl (one_of HT_.out D3) D4 (fun K hK=>?_)
              refine Kd.R_lit_step (Kd.int .i64) _ 3 ?hg (N:=37) ?hd (xs:=([(rd_T84 l1 x28_2).f0]:List Int)) (inner:=[.int .i64 ((rd_T84 l1 x28_2).f0)]) (ok:=fun _=>True) (okp:=fun _=>True) ?hr ?hp (fun _ hk=>hk) trivial (Below.refl _ _) (Nat.le_refl _) D36 ?_;(case hd=>rfl);(case hg=>rfl);(case hr=>first|(go_simp;done)|(go_simp;rfl));(case hp=>exact (Reps.one (show Kd.M (Kd.int .i64) _ _ _ ((rd_T84 l1 x28_2).f0) [.int .i64 ((rd_T84 l1 x28_2).f0)] from rfl) (Reps.none _ _)))
              intro v279 w69 ho70 hb hg_ hnew_
              clear hg_ hnew_
              (first|rw [← Ny278.out] at ho70|(simp only [Int.reduceToNat] at ho70;rw [← Ny278.out] at ho70))
              replace HO_8:=bR HO_8 hb
              have HO280:=am (Kd.R_lower (Kd.R_new' (Kd.R_new' ho70 (Kd.R_lt (yR HO_7))) (Kd.R_lt (yR HO277))) (pz (yW HB)))
              replace HO_7:=eR HO_7 (Kd.R_base ho70) hb
              replace HO277:=eR HO277 (Kd.R_base ho70) hb
              replace BK265:=yb BK265 hb
              replace BK271:=yb BK271 hb
              replace HB:=yH HB hb
              clear hb ho70
              refine hK.out _ _ ⟨yk BK271 0,yk BK271 1⟩ (fun hHeld=>?_)
              clear hK K
              refine norm_ (a':=?_) ?_ ?_
              rotate_left
              ·show Act.put _ (some 37) _=_
               simp only [Act.put,q1,q2,q3,i64_w,i32_w]
               rfl
              exact norm_ D24 (hCont (v273,v276,v279) _ ⟨hHeld,D15,D58,D32,(yR HO_8),(yB BK265),(yB BK271),(yW HB)⟩)
             skip
             refine Kd.R_lit_step (Kd.int .i64) _ 3 ?hg (N:=37) ?hd (xs:=([(rd_T84 l1 x28_2).f0]:List Int)) (inner:=[.int .i64 ((rd_T84 l1 x28_2).f0)]) (ok:=fun _=>True) (okp:=fun _=>True) ?hr ?hp (fun _ hk=>hk) trivial (Below.refl _ _) (Nat.le_refl _) D36 ?_;(case hd=>rfl);(case hg=>rfl);(case hr=>first|(go_simp;done)|(go_simp;rfl));(case hp=>exact (Reps.one (show Kd.M (Kd.int .i64) _ _ _ ((rd_T84 l1 x28_2).f0) [.int .i64 ((rd_T84 l1 x28_2).f0)] from rfl) (Reps.none _ _)))
             intro v279 w68 ho69 hb hg_ hnew_
             clear hg_ hnew_
             (first|rw [← Ny278.out] at ho69|(simp only [Int.reduceToNat] at ho69;rw [← Ny278.out] at ho69))
             replace HO_8:=bR HO_8 hb
             have HO280:=am (Kd.R_lower (Kd.R_new' (Kd.R_new' ho69 (Kd.R_lt (yR HO_7))) (Kd.R_lt (yR HO274))) (pz (yW HB)))
             replace HO_7:=eR HO_7 (Kd.R_base ho69) hb
             replace HO274:=eR HO274 (Kd.R_base ho69) hb
             replace BK265:=yb BK265 hb
             replace BK271:=yb BK271 hb
             replace HB:=yH HB hb
             clear hb ho69
             refine hK.out _ _ ⟨yk BK271 0,yk BK271 1⟩ (fun hHeld=>?_)
             clear hK K
             refine norm_ (a':=?_) ?_ ?_
             rotate_left
             ·show Act.put _ (some 37) _=_
              simp only [Act.put,q1,q2,q3,i64_w,i32_w]
              rfl
             refine one_ (i:=2) (N:=some 34) #[Y,Y,Y,Y,Y,Y,Z,Z] rfl rfl (one_of HT_.out D3) D4 (fun K hK=>?_)
             refine Kd.R_append_rows_step (Kd.int .i64) (w0:=w) w.heap.size D11 (.tmp 32) (.tmp 33) 25 3 (.int .i64 0) 8 rfl Try.underlying25 info3 rfl D4 D5 v273 y272 x7_2 _ _ _ (fun k_=>some k_ ≠ (.slice Ao63 x7_2.length co63:Value).ownBlock∧some k_ ≠ (v279:Value).ownBlock) (fun _=>False) rfl rfl ?aO ?aR (fun _ _ h=>h) (fun _ h=>h.elim) ?aF ?aB ?aS ?aL ?_
             (case aR=>repeat (first|exact (Kd.R_reads' HO_7.out).2.2|(with_reducible refine Kd.C_alloc ?_ _)|(with_reducible refine Kd.C_drewN ?_ _)|(with_reducible refine Kd.C_drew ?_)))
             (case aB=>exact (yW HB))
             (case aF=>exact (fun k_ hk=>⟨Kd.fresh' (Kd.R_lt (yR HO_7)) k_ hk,Kd.fresh' (Kd.R_lt (yR HO280)) k_ hk⟩))
             (case aO=>exact D29)
             (case aS=>exact (pz (yW HB)))
             (case aL=>have:=LMc23.out;omega)
             intro v276 w70 ho hb hg hat
             rw [← Ny275.out] at ho
             have n0_:=am (Kd.R_after (ok:=(fun k_=>some k_ ≠ (v279:Value).ownBlock)) D69 hg hat)
             have n1_:=am (Kd.R_over' (yR HO_8) (Kd.R_typed (yR HO274)) D4 hg)
             have n2_:=am (blk_grown (g:=gb265) (o:=.cells #[.int .i64 a0_0, .int .i64 a0_1, .int .i64 a0_2] 51 (0,0)) (yB BK265) hg (Kd.R_ne HO274.out BK265.out D4))
             have n3_:=am (blk_grown (g:=gb271) (o:=.cells #[.int .i64 ((rd_T84 l1 x28_2).f0), .string ((rd_T84 l1 x28_2).f1)] 84 (0,0)) (yB BK271) hg (Kd.R_ne HO274.out BK271.out D4))
             have n4_:=am (Kd.R_after (ok:=(fun k_=>some k_ ≠ (.slice Ao63 x7_2.length co63:Value).ownBlock)) D28 hg hat)
             have n5_:=am (hb)
             have n6_:=am (ho)
             clear HO_7
             clear HO_8
             clear BK265
             clear BK271
             clear HO280
             clear HB
             clear HO274
             have HO_7:=n0_
             have HO_8:=n1_
             have BK265:=n2_
             have BK271:=n3_
             have HO280:=n4_
             have HB:=n5_
             have HO277:=n6_
             clear n0_ n1_ n2_ n3_ n4_ n5_ n6_
             clear ho hb hg hat
             refine hK.out _ _ ⟨yk BK271 0,yk BK271 1⟩ (fun hHeld=>?_)
             clear hK K
             refine norm_ (a':=?_) ?_ ?_
             rotate_left
             ·show Act.put _ (some 34) _=_
              simp only [Act.put,q1,q2,q3,i64_w,i32_w]
              rfl
             exact norm_ D24 (hCont (v273,v276,v279) _ ⟨hHeld,D15,D18,D19,(yR HO_8),(yB BK265),(yB BK271),(yW HB)⟩)
            skip
            refine Kd.R_lit_step (Kd.int .i64) _ 3 ?hg (N:=37) ?hd (xs:=([(rd_T84 l1 x28_2).f0]:List Int)) (inner:=[.int .i64 ((rd_T84 l1 x28_2).f0)]) (ok:=fun _=>True) (okp:=fun _=>True) ?hr ?hp (fun _ hk=>hk) trivial (Below.refl _ _) (Nat.le_refl _) D36 ?_;(case hd=>rfl);(case hg=>rfl);(case hr=>first|(go_simp;done)|(go_simp;rfl));(case hp=>exact (Reps.one (show Kd.M (Kd.int .i64) _ _ _ ((rd_T84 l1 x28_2).f0) [.int .i64 ((rd_T84 l1 x28_2).f0)] from rfl) (Reps.none _ _)))
            intro v279 w66 ho67 hb hg_ hnew_
            clear hg_ hnew_
            (first|rw [← Ny278.out] at ho67|(simp only [Int.reduceToNat] at ho67;rw [← Ny278.out] at ho67))
            replace HO_8:=bR HO_8 hb
            have HO280:=am (Kd.R_lower (Kd.R_new' ho67 (Kd.R_lt (yR HO_7))) (pz (yW HB)))
            replace HO_7:=eR HO_7 (Kd.R_base ho67) hb
            replace BK265:=yb BK265 hb
            replace BK271:=yb BK271 hb
            replace HB:=yH HB hb
            clear hb ho67
            refine hK.out _ _ ⟨yk BK271 0,yk BK271 1⟩ (fun hHeld=>?_)
            clear hK K
            refine norm_ (a':=?_) ?_ ?_
            rotate_left
            ·show Act.put _ (some 37) _=_
             simp only [Act.put,q1,q2,q3,i64_w,i32_w]
             rfl
            refine one_ (i:=0) (N:=some 32) #[Y,Y,Z,Y,Y,Y,Z,Z] rfl rfl (one_of HT_.out D3) D4 (fun K hK=>?_)
            refine Kd.R_lit_step (Kd.int .i64) _ 3 ?hg (N:=32) ?hd (xs:=([]:List Int)) (inner:=[]) (ok:=fun _=>True) (okp:=fun _=>True) ?hr ?hp (fun _ hk=>hk) trivial (Below.refl _ _) (Nat.le_refl _) D36 ?_;(case hd=>rfl);(case hg=>rfl);(case hr=>first|(go_simp;done)|(go_simp;rfl));(case hp=>exact (Reps.none _ _))
            intro v273 w68 ho69 hb hg_ hnew_
            clear hg_ hnew_
            (first|rw [← Ny272.out] at ho69|(simp only [Int.reduceToNat] at ho69;rw [← Ny272.out] at ho69))
            replace HO_8:=bR HO_8 hb
            have HO274:=am (Kd.R_lower (Kd.R_new' (Kd.R_new' ho69 (Kd.R_lt (yR HO_7))) (Kd.R_lt (yR HO280))) (pz (yW HB)))
            replace HO_7:=eR HO_7 (Kd.R_base ho69) hb
            replace HO280:=eR HO280 (Kd.R_base ho69) hb
            replace BK265:=yb BK265 hb
            replace BK271:=yb BK271 hb
            replace HB:=yH HB hb
            clear hb ho69
            refine hK.out _ _ ⟨yk BK271 0,yk BK271 1⟩ (fun hHeld=>?_)
            clear hK K
            refine norm_ (a':=?_) ?_ ?_
            rotate_left
            ·show Act.put _ (some 32) _=_
             simp only [Act.put,q1,q2,q3,i64_w,i32_w]
             rfl
            refine one_ (i:=2) (N:=some 34) #[Y,Y,Y,Y,Y,Y,Z,Z] rfl rfl (one_of HT_.out D3) D4 (fun K hK=>?_)
            refine Kd.R_append_rows_step (Kd.int .i64) (w0:=w) w.heap.size D11 (.tmp 32) (.tmp 33) 25 3 (.int .i64 0) 8 rfl Try.underlying25 info3 rfl D4 D5 v273 y272 x7_2 _ _ _ (fun k_=>some k_ ≠ (.slice Ao63 x7_2.length co63:Value).ownBlock∧some k_ ≠ (v279:Value).ownBlock) (fun _=>False) rfl rfl ?aO ?aR (fun _ _ h=>h) (fun _ h=>h.elim) ?aF ?aB ?aS ?aL ?_
            (case aR=>repeat (first|exact (Kd.R_reads' HO_7.out).2.2|(with_reducible refine Kd.C_alloc ?_ _)|(with_reducible refine Kd.C_drewN ?_ _)|(with_reducible refine Kd.C_drew ?_)))
            (case aB=>exact (yW HB))
            (case aF=>exact (fun k_ hk=>⟨Kd.fresh' (Kd.R_lt (yR HO_7)) k_ hk,Kd.fresh' (Kd.R_lt (yR HO280)) k_ hk⟩))
            (case aO=>exact D29)
            (case aS=>exact (pz (yW HB)))
            (case aL=>have:=LMc23.out;omega)
            intro v276 w70 ho hb hg hat
            rw [← Ny275.out] at ho
            have n0_:=am (Kd.R_after (ok:=(fun k_=>some k_ ≠ (v279:Value).ownBlock)) D32 hg hat)
            have n1_:=am (Kd.R_over' (yR HO_8) (Kd.R_typed (yR HO274)) D4 hg)
            have n2_:=am (blk_grown (g:=gb265) (o:=.cells #[.int .i64 a0_0, .int .i64 a0_1, .int .i64 a0_2] 51 (0,0)) (yB BK265) hg (Kd.R_ne HO274.out BK265.out D4))
            have n3_:=am (blk_grown (g:=gb271) (o:=.cells #[.int .i64 ((rd_T84 l1 x28_2).f0), .string ((rd_T84 l1 x28_2).f1)] 84 (0,0)) (yB BK271) hg (Kd.R_ne HO274.out BK271.out D4))
            have n4_:=am (Kd.R_after (ok:=(fun k_=>some k_ ≠ (.slice Ao63 x7_2.length co63:Value).ownBlock)) D28 hg hat)
            have n5_:=am (hb)
            have n6_:=am (ho)
            clear HO_7
            clear HO_8
            clear BK265
            clear BK271
            clear HO280
            clear HB
            clear HO274
            have HO_7:=n0_
            have HO_8:=n1_
            have BK265:=n2_
            have BK271:=n3_
            have HO280:=n4_
            have HB:=n5_
            have HO277:=n6_
            clear n0_ n1_ n2_ n3_ n4_ n5_ n6_
            clear ho hb hg hat
            refine hK.out _ _ ⟨yk BK271 0,yk BK271 1⟩ (fun hHeld=>?_)
            clear hK K
            refine norm_ (a':=?_) ?_ ?_
            rotate_left
            ·show Act.put _ (some 34) _=_
             simp only [Act.put,q1,q2,q3,i64_w,i32_w]
             rfl
            exact norm_ D24 (hCont (v273,v276,v279) _ ⟨hHeld,D15,D18,D19,(yR HO_8),(yB BK265),(yB BK271),(yW HB)⟩)
           rintro ⟨v273,v276,v279⟩ w71 ⟨hS_,h0_,h1_,h2_,h3_,h4_,h5_,h6_⟩
           have n0_:Aside0 (Kd.R (Kd.int .i64) 3 w71 w.heap.size (fun k_=>some k_ ≠ (v279:Value).ownBlock∧some k_ ≠ (.slice Ao63 x7_2.length co63:Value).ownBlock) v276 y275):=⟨h0_⟩
           have n1_:Aside0 (Kd.R (Kd.int .i64) 3 w71 w.heap.size (fun k_=>some k_ ≠ (v276:Value).ownBlock∧some k_ ≠ (.slice Ao63 x7_2.length co63:Value).ownBlock) v279 y278):=⟨h1_⟩
           have n2_:Aside0 (Kd.R (Kd.int .i64) 3 w71 w.heap.size (fun k_=>some k_ ≠ (v276:Value).ownBlock∧some k_ ≠ (v279:Value).ownBlock) (.slice Ao63 x7_2.length co63) x7_2):=⟨h2_⟩
           have n3_:Aside0 (Kd.R Kd.string 9 w71 w.heap.size (fun _=>True) u8 x8_2):=⟨h3_⟩
           have n4_:Aside0 (w71.heap[gb265]? = some (.cells #[.int .i64 a0_0, .int .i64 a0_1, .int .i64 a0_2] 51 (0,0))):=⟨h4_⟩
           have n5_:Aside0 (w71.heap[gb271]? = some (.cells #[.int .i64 ((rd_T84 l1 x28_2).f0), .string ((rd_T84 l1 x28_2).f1)] 84 (0,0))):=⟨h5_⟩
           have n6_:Aside0 (Below w.heap.size w w71):=⟨h6_⟩
           clear HO_7
           clear HO_8
           clear BK265
           clear BK271
           clear HB
           clear h0_ h1_ h2_ h3_ h4_ h5_ h6_
           have HO277:=n0_
           have HO280:=n1_
           have HO_7:=n2_
           have HO_8:=n3_
           have BK265:=n4_
           have BK271:=n5_
           have HB:=n6_
           clear n0_ n1_ n2_ n3_ n4_ n5_ n6_
           have hHeld:w71.cell? ⟨gb271,0,none⟩=some (.int .i64 ((rd_T84 l1 x28_2).f0))∧w71.cell? ⟨gb271,1,none⟩=some (.string ((rd_T84 l1 x28_2).f1)):=hS_
           obtain ⟨Ao73,co73,eo73⟩:=Kd.R_slice HO280.out
           (first|subst eo73|(injection eo73 with f1_ f2_ f3_;have f4_:=f1_.symm;have f5_:=f3_.symm;clear f1_ f2_ f3_;subst f4_;subst f5_))
           refine norm_ (a':=?_) ?_ ?_
           rotate_left
           ·simp only [putAll,Act.put,q1,q2,q3]
            rfl
           refine one_ (i:=6) (N:=some 38) #[Y,Y,Y,Y,Y,Y,Y,Z] rfl rfl (one_of HT_.out D3) D4 (fun K hK=>?_)
           refine Kd.R_append_rows_step (Kd.int .i64) (w0:=w) w.heap.size D11 (.tmp 34) (.tmp 37) 25 3 (.int .i64 0) 8 rfl Try.underlying25 info3 rfl D4 D5 v276 y275 y278 _ _ _ (fun k_=>some k_ ≠ (.slice Ao63 x7_2.length co63:Value).ownBlock∧some k_ ≠ (.slice Ao73 y278.length co73:Value).ownBlock) (fun _=>False) rfl rfl ?aO ?aR (fun _ _ h=>h) (fun _ h=>h.elim) ?aF ?aB ?aS ?aL ?_
           (case aR=>repeat (first|exact (Kd.R_reads' HO280.out).2.2|(with_reducible refine Kd.C_alloc ?_ _)|(with_reducible refine Kd.C_drewN ?_ _)|(with_reducible refine Kd.C_drew ?_)))
           (case aB=>exact (yW HB))
           (case aF=>exact (fun k_ hk=>⟨Kd.fresh' (Kd.R_lt (yR HO_7)) k_ hk,Kd.fresh' (Kd.R_lt (yR HO280)) k_ hk⟩))
           (case aO=>exact D15)
           (case aS=>exact (pz (yW HB)))
           (case aL=>have:=LMc24.out;omega)
           intro v282 w72 ho hb hg hat
           rw [← Ny281.out] at ho
           have n0_:=am (Kd.R_after (ok:=(fun k_=>some k_ ≠ (.slice Ao73 y278.length co73:Value).ownBlock)) D19 hg hat)
           have n1_:=am (Kd.R_over' (yR HO_8) (Kd.R_typed (yR HO277)) D4 hg)
           have n2_:=am (blk_grown (g:=gb265) (o:=.cells #[.int .i64 a0_0, .int .i64 a0_1, .int .i64 a0_2] 51 (0,0)) (yB BK265) hg (Kd.R_ne HO277.out BK265.out D4))
           have n3_:=am (blk_grown (g:=gb271) (o:=.cells #[.int .i64 ((rd_T84 l1 x28_2).f0), .string ((rd_T84 l1 x28_2).f1)] 84 (0,0)) (yB BK271) hg (Kd.R_ne HO277.out BK271.out D4))
           have n4_:=am (Kd.R_after (ok:=(fun k_=>some k_ ≠ (.slice Ao63 x7_2.length co63:Value).ownBlock)) D18 hg hat)
           have n5_:=am (hb)
           have n6_:=am (ho)
           clear HO_7
           clear HO_8
           clear BK265
           clear BK271
           clear HO280
           clear HB
           clear HO277
           have HO_7:=n0_
           have HO_8:=n1_
           have BK265:=n2_
           have BK271:=n3_
           have HO280:=n4_
           have HB:=n5_
           have HO283:=n6_
           clear n0_ n1_ n2_ n3_ n4_ n5_ n6_
           clear ho hb hg hat
           refine hK.out _ _ ⟨yk BK271 0,yk BK271 1⟩ (fun hHeld=>?_)
           clear hK K
           refine norm_ (a':=?_) ?_ ?_
           rotate_left
           ·show Act.put _ (some 38) _=_
            simp only [Act.put,q1,q2,q3,i64_w,i32_w]
            rfl
           refine pure_ (i:=7) (N:=some 11) (v:=?_) (a':=?_) #[Y,Y,Y,Y,Y,Y,Y,Y] rfl rfl (any_of HT_.out D3) hh (Or.inl ⟨D11,?_⟩) ?_ ?_
           rotate_left
           ·intro w'
            go_simp
            with_reducible rfl
           rotate_left
           ·simp only [Act.put,q1,q2,q3,i64_w,i32_w]
            rfl
           refine done_ (done_of HT_.out D3) ?_
           obtain ⟨hcz74_0,hcz74_1,hcz74_2,hfz74_0,hfz74_1,hfz74_2⟩:=yk3 BK265
           try go_wp2_with (first|(go_at_call 110;(with_reducible refine (spec_l4Matrix.calls k2 a0_0 a0_1 a0_2 t284 _ A26.out).mono ?_);rintro e w75 ⟨v285,rfl,ho0,hb⟩;have HO286:=am (Kd.N_lower (Kd.N_mono (ok':=fun k_=>some k_ ≠ (.slice Ao63 x7_2.length co63:Value).ownBlock∧some k_ ≠ (u8:Value).ownBlock∧some k_ ≠ (.slice Ao73 y278.length co73:Value).ownBlock∧some k_ ≠ (v282:Value).ownBlock∧k_ ≠ gb265∧k_ ≠ gb271) ho0 (fun k_ hk_=>⟨(Kd.fresh' (Kd.R_lt (yR HO_7)) k_ hk_),(Kd.fresh' (Kd.R_lt (yR HO_8)) k_ hk_),(Kd.fresh' (Kd.R_lt (yR HO280)) k_ hk_),(Kd.fresh' (Kd.R_lt (yR HO283)) k_ hk_),(yz BK265 k_ hk_),(yz BK271 k_ hk_)⟩)) (pz (yW HB)));replace HO_7:=bR HO_7 hb;replace HO_8:=bR HO_8 hb;replace HO280:=bR HO280 hb;replace HO283:=bR HO283 hb;replace BK265:=yb BK265 hb;replace BK271:=yb BK271 hb;replace HB:=yH HB hb;clear hb ho0)|(go_at_call 93;(with_reducible refine (spec_l3All.calls k2 t269 t287 _ A27.out).mono ?_);rintro e w76 ⟨v288,rfl,ho0,hb⟩;replace HO_8:=bR HO_8 hb;replace HO286:=eN HO286 (Kd.R_base ho0) hb;have HO289:=am (Kd.R_lower (Kd.R_new' (Kd.R_new' (Kd.R_new' ho0 (Kd.R_lt (yR HO_7))) (Kd.R_lt (yR HO280))) (Kd.R_lt (yR HO283))) (pz (yW HB)));replace HO_7:=eR HO_7 (Kd.R_base ho0) hb;replace HO280:=eR HO280 (Kd.R_base ho0) hb;replace HO283:=eR HO283 (Kd.R_base ho0) hb;replace BK265:=yb BK265 hb;replace BK271:=yb BK271 hb;replace HB:=yH HB hb;clear hb ho0;obtain ⟨Ao77,co77,eo77⟩:=Kd.N_slice HO286.out;subst eo77;obtain ⟨Ao78,co78,eo78⟩:=Kd.R_slice HO283.out;subst eo78;obtain ⟨Ao79,co79,eo79⟩:=Kd.R_slice HO289.out;subst eo79)|(go_at_call 92;(with_reducible refine (spec_l2Part.calls k2 _ _ t284 _ _ y281 _ _ t287 t290 _ (yc (Kd.N_reads' HO286.out).2.2) (Kd.N_reads' HO286.out).2.1 (yc (Kd.R_reads' HO283.out).2.2) (Kd.R_reads' HO283.out).2.1 (yc (Kd.R_reads' HO289.out).2.2) (Kd.R_reads' HO289.out).2.1 A28.out).mono ?_);rintro e w80 ⟨v291,rfl,ho0,hb⟩;have HO292:=am (Kd.N_lower (Kd.N_mono (ok':=fun k_=>some k_ ≠ (.slice Ao63 x7_2.length co63:Value).ownBlock∧some k_ ≠ (u8:Value).ownBlock∧some k_ ≠ (.slice Ao73 y278.length co73:Value).ownBlock∧some k_ ≠ (.slice Ao78 y281.length co78:Value).ownBlock∧some k_ ≠ (.slice Ao77 t284.length co77:Value).ownBlock∧some k_ ≠ (.slice Ao79 t287.length co79:Value).ownBlock∧k_ ≠ gb265∧k_ ≠ gb271) (Kd.S_N (Kd.S_bound ho0)) (fun k_ hk_=>⟨(Kd.fresh' (Kd.R_lt (yR HO_7)) k_ hk_.2.1),(Kd.fresh' (Kd.R_lt (yR HO_8)) k_ hk_.2.1),(Kd.fresh' (Kd.R_lt (yR HO280)) k_ hk_.2.1),(Kd.fresh' (Kd.R_lt (yR HO283)) k_ hk_.2.1),(Kd.fresh' (Kd.N_lt (yN HO286)) k_ hk_.2.1),(Kd.fresh' (Kd.R_lt (yR HO289)) k_ hk_.2.1),(yz BK265 k_ hk_.2.1),(yz BK271 k_ hk_.2.1)⟩)) (pz (yW HB)));replace HO_7:=bR HO_7 hb;replace HO_8:=bR HO_8 hb;replace HO280:=bR HO280 hb;replace HO283:=bR HO283 hb;replace HO286:=eN HO286 D7 hb;replace HO289:=bR HO289 hb;replace BK265:=yb BK265 hb;replace BK271:=yb BK271 hb;replace HB:=yH HB hb;clear hb ho0;obtain ⟨Ao81,co81,eo81⟩:=Kd.N_slice HO292.out;subst eo81)|(go_at_call 104;(with_reducible refine (spec_l2Rank.calls _ _ t290 t293 _ (yc (Kd.N_reads' HO292.out).2.2) (Kd.N_reads' HO292.out).2.1 A29.out).mono ?_);rintro e w82 ⟨rfl,hb⟩;replace HO_7:=bR HO_7 hb;replace HO_8:=bR HO_8 hb;replace HO280:=bR HO280 hb;replace HO283:=bR HO283 hb;replace HO286:=bN HO286 hb;replace HO289:=bR HO289 hb;replace HO292:=bN HO292 hb;replace BK265:=yb BK265 hb;replace BK271:=yb BK271 hb;replace HB:=yH HB hb;clear hb))
           go_roundg k2
           case measure=>have:=HJ2.out;have:=HK2.out;omega
           case rel=>exact ⟨(x7_2),(x8_2),(wrap64 (x28_2+1)),D2,H',⟨D70⟩,⟨by refine sR ?_;exact Kd.R_mono HO_7.out (fun _ hk=>trivial)⟩,⟨yR HO_8⟩,⟨yB BK265⟩,⟨yW HB⟩⟩
          rw [if_neg c25] at H
          have c25b0:=decide_eq_false c25
          clear c25
          have H':=am H
          clear H
          have p270:0≤(x28_2:Int):=od D0
          have q270:x28_2 < (l1.length:Int):=od D0
          obtain ⟨ad270,e270,hx270_0,hx270_1⟩:=at_T84 HR1.out x28_2 p270 q270
          cases e270
          replace hx270_0:=(HB.out.cell (World.block_lt_of_cell? w _ hx270_0)).trans hx270_0
          replace hx270_1:=(HB.out.cell (World.block_lt_of_cell? w _ hx270_1)).trans hx270_1
          replace p270:=eq_true p270
          replace q270:=eq_true q270
          try go_wp2_with (first|((with_reducible refine gD 10 ?_);(try (refine gate_guard D11 ?_;dsimp only));refine gB (cs:=#[.int .i64 0, .string (⟨#[]⟩:ByteArray)]) 84 ?_;intro gb271 hg w83 hbox hb;replace HO_7:=bR HO_7 hb;replace HO_8:=bR HO_8 hb;have BK271:=am (hbox);have GW271:=ye HB hg;replace HB:=yH HB hb;have NB265_271:=yl BK265 hg;have NB271_265:=yg BK265 hg;replace BK265:=yb BK265 hb;have GE271:=GW271;clear hb hbox hg;have hnb84:=NB271_265.out;have hnc84:=NB265_271.out;obtain ⟨hcz85_0,hcz85_1,hfz85_0,hfz85_1⟩:=yk2 BK271;obtain ⟨Ao86,co86,eo86⟩:=Kd.R_slice HO_7.out;subst eo86))
          generalize hw_:((w83.setCell ⟨gb271,0,none⟩ (.int .i64 ((rd_T84 l1 x28_2).f0))).setCell ⟨gb271,1,none⟩ (.string ((rd_T84 l1 x28_2).f1)))=w87
          replace HO_7:Aside0 (Kd.R (Kd.int .i64) 3 w87 w.heap.size (fun _=>True) (.slice Ao86 x7_2.length co86) x7_2):=⟨D21⟩
          replace HO_8:Aside0 (Kd.R Kd.string 9 w87 w.heap.size (fun _=>True) u8 x8_2):=⟨D20⟩
          replace BK265:Aside0 (w87.heap[gb265]? = some (.cells #[.int .i64 a0_0, .int .i64 a0_1, .int .i64 a0_2] 51 (0,0))):=⟨by rw [← hw_];exact yF BK265⟩
          replace BK271:Aside0 (w87.heap[gb271]? = some (.cells #[.int .i64 ((rd_T84 l1 x28_2).f0), .string ((rd_T84 l1 x28_2).f1)] 84 (0,0))):=⟨D22⟩
          replace HB:Aside0 (Below w.heap.size w w87):=⟨D41⟩
          clear hw_
          replace HO_7:=am (Kd.R_drew HO_7.out)
          replace HO_8:=am (Kd.R_drew HO_8.out)
          replace BK265:=am (qd BK265.out)
          replace BK271:=am (qd BK271.out)
          replace HB:=am (pd HB.out)
          refine start_ (n:=8) (S:=fun w'=>w'.cell? ⟨gb271,0,none⟩=some (.int .i64 ((rd_T84 l1 x28_2).f0))∧w'.cell? ⟨gb271,1,none⟩=some (.string ((rd_T84 l1 x28_2).f1))) (ds:=[]) #[Z,Z,Z,Z,Z,Z,Z,Z] D3 rfl rfl ⟨yk BK271 0,yk BK271 1⟩ (fun hHeld=>?_);refine with_tabW spec_DecodeLocal.tab9 spec_DecodeLocal.bits9 (fun HT_ HW_=>?_)
          generalize w87.drew=w88 at HO_7 HO_8 BK265 BK271 HB hHeld ⊢
          refine pure_ (i:=1) (N:=some 33) (v:=?_) (a':=?_) #[Z,Y,Z,Z,Z,Z,Z,Z] rfl rfl (any_of HT_.out D3) hh (Or.inl ⟨D11,?_⟩) ?_ ?_
          rotate_left
          ·intro w'
           go_simp
           with_reducible rfl
          rotate_left
          ·simp only [Act.put,q1,q2,q3,i64_w,i32_w]
           rfl
          refine pure_ (i:=3) (N:=some 35) (v:=?_) (a':=?_) #[Z,Y,Z,Y,Z,Z,Z,Z] rfl rfl (any_of HT_.out D3) hh (Or.inl ⟨D11,?_⟩) ?_ ?_
          rotate_left
          ·intro w'
           go_simp
           with_reducible rfl
          rotate_left
          ·simp only [Act.put,q1,q2,q3,i64_w,i32_w]
           rfl
          refine take_ (i:=4) (N:=some 36) (v:=?_) (a':=?_) #[Z,Y,Z,Y,Y,Z,Z,Z] rfl rfl (take_ofW HT_.out HW_.out D3) hh (Or.inl ⟨D11,?_⟩) hHeld ?_ ?_
          rotate_left
          ·rintro w' ⟨s0,s1⟩
           go_simp
           with_reducible rfl
          rotate_left
          ·simp only [Act.put,q1,q2,q3,i64_w,i32_w]
           rfl
          refine join_ (σ:=Value × Value × Value) 2 #[Y,Y,Y,Y,Y,Y,Z,Z] (fun s_=>[(32,s_.1),(34,s_.2.1),(37,s_.2.2)]) (fun s_ w'=>(w'.cell? ⟨gb271,0,none⟩=some (.int .i64 ((rd_T84 l1 x28_2).f0))∧w'.cell? ⟨gb271,1,none⟩=some (.string ((rd_T84 l1 x28_2).f1)))∧(Kd.R (Kd.int .i64) 3 w' w.heap.size (fun k_=>some k_ ≠ (s_.2.2:Value).ownBlock∧some k_ ≠ (.slice Ao86 x7_2.length co86:Value).ownBlock) s_.2.1 y275)∧(Kd.R (Kd.int .i64) 3 w' w.heap.size (fun k_=>some k_ ≠ (s_.2.1:Value).ownBlock∧some k_ ≠ (.slice Ao86 x7_2.length co86:Value).ownBlock) s_.2.2 y278)∧(Kd.R (Kd.int .i64) 3 w' w.heap.size (fun k_=>some k_ ≠ (s_.2.1:Value).ownBlock∧some k_ ≠ (s_.2.2:Value).ownBlock) (.slice Ao86 x7_2.length co86) x7_2)∧(Kd.R Kd.string 9 w' w.heap.size (fun _=>True) u8 x8_2)∧(w'.heap[gb265]? = some (.cells #[.int .i64 a0_0, .int .i64 a0_1, .int .i64 a0_2] 51 (0,0)))∧(w'.heap[gb271]? = some (.cells #[.int .i64 ((rd_T84 l1 x28_2).f0), .string ((rd_T84 l1 x28_2).f1)] 84 (0,0)))∧(Below w.heap.size w w')) ?_ ?_
          rotate_left
          ·intro hCont
           refine two_ (i:=0) (j:=5) (Ni:=some 32) (Nj:=some 37) #[Y,Y,Z,Y,Y,Z,Z,Z] #[Z,Y,Z,Y,Y,Y,Z,Z] rfl rfl rfl rfl (two_of HT_.out D3) D4 D4 (fun K hK=>?_) (fun K hK=>?_)
           ·skip
            refine Kd.R_lit_step (Kd.int .i64) _ 3 ?hg (N:=32) ?hd (xs:=([]:List Int)) (inner:=[]) (ok:=fun _=>True) (okp:=fun _=>True) ?hr ?hp (fun _ hk=>hk) trivial (Below.refl _ _) (Nat.le_refl _) D36 ?_;(case hd=>rfl);(case hg=>rfl);(case hr=>first|(go_simp;done)|(go_simp;rfl));(case hp=>exact (Reps.none _ _))
            intro v273 w89 ho90 hb hg_ hnew_
            clear hg_ hnew_
            (first|rw [← Ny272.out] at ho90|(simp only [Int.reduceToNat] at ho90;rw [← Ny272.out] at ho90))
            replace HO_8:=bR HO_8 hb
            have HO274:=am (Kd.R_lower (Kd.R_new' ho90 (Kd.R_lt (yR HO_7))) (pz (yW HB)))
            replace HO_7:=eR HO_7 (Kd.R_base ho90) hb
            replace BK265:=yb BK265 hb
            replace BK271:=yb BK271 hb
            replace HB:=yH HB hb
            clear hb ho90
            refine hK.out _ _ ⟨yk BK271 0,yk BK271 1⟩ (fun hHeld=>?_)
            clear hK K
            refine norm_ (a':=?_) ?_ ?_
            rotate_left
            ·show Act.put _ (some 32) _=_
             simp only [Act.put,q1,q2,q3,i64_w,i32_w]
             rfl
            refine two_ (i:=2) (j:=5) (Ni:=some 34) (Nj:=some 37) #[Y,Y,Y,Y,Y,Z,Z,Z] #[Y,Y,Z,Y,Y,Y,Z,Z] rfl rfl rfl rfl (two_of HT_.out D3) D4 D4 (fun K hK=>?_) (fun K hK=>?_)
            ·skip
             refine Kd.R_append_rows_step (Kd.int .i64) (w0:=w) w.heap.size D11 (.tmp 32) (.tmp 33) 25 3 (.int .i64 0) 8 rfl Try.underlying25 info3 rfl D4 D5 v273 y272 x7_2 _ _ _ (fun k_=>some k_ ≠ (.slice Ao86 x7_2.length co86:Value).ownBlock) (fun _=>False) rfl rfl ?aO ?aR (fun _ _ h=>h) (fun _ h=>h.elim) ?aF ?aB ?aS ?aL ?_
             (case aR=>repeat (first|exact (Kd.R_reads' HO_7.out).2.2|(with_reducible refine Kd.C_alloc ?_ _)|(with_reducible refine Kd.C_drewN ?_ _)|(with_reducible refine Kd.C_drew ?_)))
             (case aB=>exact (yW HB))
             (case aF=>exact (fun k_ hk=>Kd.fresh' (Kd.R_lt (yR HO_7)) k_ hk))
             (case aO=>exact D74)
             (case aS=>exact (pz (yW HB)))
             (case aL=>have:=LMc23.out;omega)
             intro v276 w91 ho hb hg hat
             rw [← Ny275.out] at ho
             have n0_:=am (Kd.R_after (ok:=(fun _=>True)) (yR HO_7) hg hat)
             have n1_:=am (Kd.R_over' (yR HO_8) (Kd.R_typed (yR HO274)) D4 hg)
             have n2_:=am (blk_grown (g:=gb265) (o:=.cells #[.int .i64 a0_0, .int .i64 a0_1, .int .i64 a0_2] 51 (0,0)) (yB BK265) hg (Kd.R_ne HO274.out BK265.out D4))
             have n3_:=am (blk_grown (g:=gb271) (o:=.cells #[.int .i64 ((rd_T84 l1 x28_2).f0), .string ((rd_T84 l1 x28_2).f1)] 84 (0,0)) (yB BK271) hg (Kd.R_ne HO274.out BK271.out D4))
             have n4_:=am (hb)
             have n5_:=am (ho)
             clear HO_7
             clear HO_8
             clear BK265
             clear BK271
             clear HB
             clear HO274
             have HO_7:=n0_
             have HO_8:=n1_
             have BK265:=n2_
             have BK271:=n3_
             have HB:=n4_
             have HO277:=n5_
             clear n0_ n1_ n2_ n3_ n4_ n5_
             clear ho hb hg hat
             refine hK.out _ _ ⟨yk BK271 0,yk BK271 1⟩ (fun hHeld=>?_)
             clear hK K
             refine norm_ (a':=?_) ?_ ?_
             rotate_left
             ·show Act.put _ (some 34) _=_
              simp only [Act.put,q1,q2,q3,i64_w,i32_w]
              rfl
             refine one_ (i:=5) (N:=some 37) #[Y,Y,Y,Y,Y,Y,Z,Z] rfl rfl (one_of HT_.out D3) D4 (fun K hK=>?_)
             refine Kd.R_lit_step (Kd.int .i64) _ 3 ?hg (N:=37) ?hd (xs:=([(rd_T84 l1 x28_2).f0]:List Int)) (inner:=[.int .i64 ((rd_T84 l1 x28_2).f0)]) (ok:=fun _=>True) (okp:=fun _=>True) ?hr ?hp (fun _ hk=>hk) trivial (Below.refl _ _) (Nat.le_refl _) D36 ?_;(case hd=>rfl);(case hg=>rfl);(case hr=>first|(go_simp;done)|(go_simp;rfl));(case hp=>exact (Reps.one (show Kd.M (Kd.int .i64) _ _ _ ((rd_T84 l1 x28_2).f0) [.int .i64 ((rd_T84 l1 x28_2).f0)] from rfl) (Reps.none _ _)))
             intro v279 w92 ho93 hb hg_ hnew_
             clear hg_ hnew_
             (first|rw [← Ny278.out] at ho93|(simp only [Int.reduceToNat] at ho93;rw [← Ny278.out] at ho93))
             replace HO_8:=bR HO_8 hb
             have HO280:=am (Kd.R_lower (Kd.R_new' (Kd.R_new' ho93 (Kd.R_lt (yR HO_7))) (Kd.R_lt (yR HO277))) (pz (yW HB)))
             replace HO_7:=eR HO_7 (Kd.R_base ho93) hb
             replace HO277:=eR HO277 (Kd.R_base ho93) hb
             replace BK265:=yb BK265 hb
             replace BK271:=yb BK271 hb
             replace HB:=yH HB hb
             clear hb ho93
             refine hK.out _ _ ⟨yk BK271 0,yk BK271 1⟩ (fun hHeld=>?_)
             clear hK K
             refine norm_ (a':=?_) ?_ ?_
             rotate_left
             ·show Act.put _ (some 37) _=_
              simp only [Act.put,q1,q2,q3,i64_w,i32_w]
              rfl
             exact norm_ D24 (hCont (v273,v276,v279) _ ⟨hHeld,D15,D58,D32,(yR HO_8),(yB BK265),(yB BK271),(yW HB)⟩)
            skip
            refine Kd.R_lit_step (Kd.int .i64) _ 3 ?hg (N:=37) ?hd (xs:=([(rd_T84 l1 x28_2).f0]:List Int)) (inner:=[.int .i64 ((rd_T84 l1 x28_2).f0)]) (ok:=fun _=>True) (okp:=fun _=>True) ?hr ?hp (fun _ hk=>hk) trivial (Below.refl _ _) (Nat.le_refl _) D36 ?_;(case hd=>rfl);(case hg=>rfl);(case hr=>first|(go_simp;done)|(go_simp;rfl));(case hp=>exact (Reps.one (show Kd.M (Kd.int .i64) _ _ _ ((rd_T84 l1 x28_2).f0) [.int .i64 ((rd_T84 l1 x28_2).f0)] from rfl) (Reps.none _ _)))
            intro v279 w91 ho92 hb hg_ hnew_
            clear hg_ hnew_
            (first|rw [← Ny278.out] at ho92|(simp only [Int.reduceToNat] at ho92;rw [← Ny278.out] at ho92))
            replace HO_8:=bR HO_8 hb
            have HO280:=am (Kd.R_lower (Kd.R_new' (Kd.R_new' ho92 (Kd.R_lt (yR HO_7))) (Kd.R_lt (yR HO274))) (pz (yW HB)))
            replace HO_7:=eR HO_7 (Kd.R_base ho92) hb
            replace HO274:=eR HO274 (Kd.R_base ho92) hb
            replace BK265:=yb BK265 hb
            replace BK271:=yb BK271 hb
            replace HB:=yH HB hb
            clear hb ho92
            refine hK.out _ _ ⟨yk BK271 0,yk BK271 1⟩ (fun hHeld=>?_)
            clear hK K
            refine norm_ (a':=?_) ?_ ?_
            rotate_left
            ·show Act.put _ (some 37) _=_
             simp only [Act.put,q1,q2,q3,i64_w,i32_w]
             rfl
            refine one_ (i:=2) (N:=some 34) #[Y,Y,Y,Y,Y,Y,Z,Z] rfl rfl (one_of HT_.out D3) D4 (fun K hK=>?_)
            refine Kd.R_append_rows_step (Kd.int .i64) (w0:=w) w.heap.size D11 (.tmp 32) (.tmp 33) 25 3 (.int .i64 0) 8 rfl Try.underlying25 info3 rfl D4 D5 v273 y272 x7_2 _ _ _ (fun k_=>some k_ ≠ (.slice Ao86 x7_2.length co86:Value).ownBlock∧some k_ ≠ (v279:Value).ownBlock) (fun _=>False) rfl rfl ?aO ?aR (fun _ _ h=>h) (fun _ h=>h.elim) ?aF ?aB ?aS ?aL ?_
            (case aR=>repeat (first|exact (Kd.R_reads' HO_7.out).2.2|(with_reducible refine Kd.C_alloc ?_ _)|(with_reducible refine Kd.C_drewN ?_ _)|(with_reducible refine Kd.C_drew ?_)))
            (case aB=>exact (yW HB))
            (case aF=>exact (fun k_ hk=>⟨Kd.fresh' (Kd.R_lt (yR HO_7)) k_ hk,Kd.fresh' (Kd.R_lt (yR HO280)) k_ hk⟩))
            (case aO=>exact D29)
            (case aS=>exact (pz (yW HB)))
            (case aL=>have:=LMc23.out;omega)
            intro v276 w93 ho hb hg hat
            rw [← Ny275.out] at ho
            have n0_:=am (Kd.R_after (ok:=(fun k_=>some k_ ≠ (v279:Value).ownBlock)) D69 hg hat)
            have n1_:=am (Kd.R_over' (yR HO_8) (Kd.R_typed (yR HO274)) D4 hg)
            have n2_:=am (blk_grown (g:=gb265) (o:=.cells #[.int .i64 a0_0, .int .i64 a0_1, .int .i64 a0_2] 51 (0,0)) (yB BK265) hg (Kd.R_ne HO274.out BK265.out D4))
            have n3_:=am (blk_grown (g:=gb271) (o:=.cells #[.int .i64 ((rd_T84 l1 x28_2).f0), .string ((rd_T84 l1 x28_2).f1)] 84 (0,0)) (yB BK271) hg (Kd.R_ne HO274.out BK271.out D4))
            have n4_:=am (Kd.R_after (ok:=(fun k_=>some k_ ≠ (.slice Ao86 x7_2.length co86:Value).ownBlock)) D28 hg hat)
            have n5_:=am (hb)
            have n6_:=am (ho)
            clear HO_7
            clear HO_8
            clear BK265
            clear BK271
            clear HO280
            clear HB
            clear HO274
            have HO_7:=n0_
            have HO_8:=n1_
            have BK265:=n2_
            have BK271:=n3_
            have HO280:=n4_
            have HB:=n5_
            have HO277:=n6_
            clear n0_ n1_ n2_ n3_ n4_ n5_ n6_
            clear ho hb hg hat
            refine hK.out _ _ ⟨yk BK271 0,yk BK271 1⟩ (fun hHeld=>?_)
            clear hK K
            refine norm_ (a':=?_) ?_ ?_
            rotate_left
            ·show Act.put _ (some 34) _=_
             simp only [Act.put,q1,q2,q3,i64_w,i32_w]
             rfl
            exact norm_ D24 (hCont (v273,v276,v279) _ ⟨hHeld,D15,D18,D19,(yR HO_8),(yB BK265),(yB BK271),(yW HB)⟩)
           skip
           refine Kd.R_lit_step (Kd.int .i64) _ 3 ?hg (N:=37) ?hd (xs:=([(rd_T84 l1 x28_2).f0]:List Int)) (inner:=[.int .i64 ((rd_T84 l1 x28_2).f0)]) (ok:=fun _=>True) (okp:=fun _=>True) ?hr ?hp (fun _ hk=>hk) trivial (Below.refl _ _) (Nat.le_refl _) D36 ?_;(case hd=>rfl);(case hg=>rfl);(case hr=>first|(go_simp;done)|(go_simp;rfl));(case hp=>exact (Reps.one (show Kd.M (Kd.int .i64) _ _ _ ((rd_T84 l1 x28_2).f0) [.int .i64 ((rd_T84 l1 x28_2).f0)] from rfl) (Reps.none _ _)))
           intro v279 w89 ho90 hb hg_ hnew_
           clear hg_ hnew_
           (first|rw [← Ny278.out] at ho90|(simp only [Int.reduceToNat] at ho90;rw [← Ny278.out] at ho90))
           replace HO_8:=bR HO_8 hb
           have HO280:=am (Kd.R_lower (Kd.R_new' ho90 (Kd.R_lt (yR HO_7))) (pz (yW HB)))
           replace HO_7:=eR HO_7 (Kd.R_base ho90) hb
           replace BK265:=yb BK265 hb
           replace BK271:=yb BK271 hb
           replace HB:=yH HB hb
           clear hb ho90
           refine hK.out _ _ ⟨yk BK271 0,yk BK271 1⟩ (fun hHeld=>?_)
           clear hK K
           refine norm_ (a':=?_) ?_ ?_
           rotate_left
           ·show Act.put _ (some 37) _=_
            simp only [Act.put,q1,q2,q3,i64_w,i32_w]
            rfl
           refine one_ (i:=0) (N:=some 32) #[Y,Y,Z,Y,Y,Y,Z,Z] rfl rfl (one_of HT_.out D3) D4 (fun K hK=>?_)
           refine Kd.R_lit_step (Kd.int .i64) _ 3 ?hg (N:=32) ?hd (xs:=([]:List Int)) (inner:=[]) (ok:=fun _=>True) (okp:=fun _=>True) ?hr ?hp (fun _ hk=>hk) trivial (Below.refl _ _) (Nat.le_refl _) D36 ?_;(case hd=>rfl);(case hg=>rfl);(case hr=>first|(go_simp;done)|(go_simp;rfl));(case hp=>exact (Reps.none _ _))
           intro v273 w91 ho92 hb hg_ hnew_
           clear hg_ hnew_
           (first|rw [← Ny272.out] at ho92|(simp only [Int.reduceToNat] at ho92;rw [← Ny272.out] at ho92))
           replace HO_8:=bR HO_8 hb
           have HO274:=am (Kd.R_lower (Kd.R_new' (Kd.R_new' ho92 (Kd.R_lt (yR HO_7))) (Kd.R_lt (yR HO280))) (pz (yW HB)))
           replace HO_7:=eR HO_7 (Kd.R_base ho92) hb
           replace HO280:=eR HO280 (Kd.R_base ho92) hb
           replace BK265:=yb BK265 hb
           replace BK271:=yb BK271 hb
           replace HB:=yH HB hb
           clear hb ho92
           refine hK.out _ _ ⟨yk BK271 0,yk BK271 1⟩ (fun hHeld=>?_)
           clear hK K
           refine norm_ (a':=?_) ?_ ?_
           rotate_left
           ·show Act.put _ (some 32) _=_
            simp only [Act.put,q1,q2,q3,i64_w,i32_w]
            rfl
           refine one_ (i:=2) (N:=some 34) #[Y,Y,Y,Y,Y,Y,Z,Z] rfl rfl (one_of HT_.out D3) D4 (fun K hK=>?_)
           refine Kd.R_append_rows_step (Kd.int .i64) (w0:=w) w.heap.size D11 (.tmp 32) (.tmp 33) 25 3 (.int .i64 0) 8 rfl Try.underlying25 info3 rfl D4 D5 v273 y272 x7_2 _ _ _ (fun k_=>some k_ ≠ (.slice Ao86 x7_2.length co86:Value).ownBlock∧some k_ ≠ (v279:Value).ownBlock) (fun _=>False) rfl rfl ?aO ?aR (fun _ _ h=>h) (fun _ h=>h.elim) ?aF ?aB ?aS ?aL ?_
           (case aR=>repeat (first|exact (Kd.R_reads' HO_7.out).2.2|(with_reducible refine Kd.C_alloc ?_ _)|(with_reducible refine Kd.C_drewN ?_ _)|(with_reducible refine Kd.C_drew ?_)))
           (case aB=>exact (yW HB))
           (case aF=>exact (fun k_ hk=>⟨Kd.fresh' (Kd.R_lt (yR HO_7)) k_ hk,Kd.fresh' (Kd.R_lt (yR HO280)) k_ hk⟩))
           (case aO=>exact D29)
           (case aS=>exact (pz (yW HB)))
           (case aL=>have:=LMc23.out;omega)
           intro v276 w93 ho hb hg hat
           rw [← Ny275.out] at ho
           have n0_:=am (Kd.R_after (ok:=(fun k_=>some k_ ≠ (v279:Value).ownBlock)) D32 hg hat)
           have n1_:=am (Kd.R_over' (yR HO_8) (Kd.R_typed (yR HO274)) D4 hg)
           have n2_:=am (blk_grown (g:=gb265) (o:=.cells #[.int .i64 a0_0, .int .i64 a0_1, .int .i64 a0_2] 51 (0,0)) (yB BK265) hg (Kd.R_ne HO274.out BK265.out D4))
           have n3_:=am (blk_grown (g:=gb271) (o:=.cells #[.int .i64 ((rd_T84 l1 x28_2).f0), .string ((rd_T84 l1 x28_2).f1)] 84 (0,0)) (yB BK271) hg (Kd.R_ne HO274.out BK271.out D4))
           have n4_:=am (Kd.R_after (ok:=(fun k_=>some k_ ≠ (.slice Ao86 x7_2.length co86:Value).ownBlock)) D28 hg hat)
           have n5_:=am (hb)
           have n6_:=am (ho)
           clear HO_7
           clear HO_8
           clear BK265
           clear BK271
           clear HO280
           clear HB
           clear HO274
           have HO_7:=n0_
           have HO_8:=n1_
           have BK265:=n2_
           have BK271:=n3_
           have HO280:=n4_
           have HB:=n5_
           have HO277:=n6_
           clear n0_ n1_ n2_ n3_ n4_ n5_ n6_
           clear ho hb hg hat
           refine hK.out _ _ ⟨yk BK271 0,yk BK271 1⟩ (fun hHeld=>?_)
           clear hK K
           refine norm_ (a':=?_) ?_ ?_
           rotate_left
           ·show Act.put _ (some 34) _=_
            simp only [Act.put,q1,q2,q3,i64_w,i32_w]
            rfl
           exact norm_ D24 (hCont (v273,v276,v279) _ ⟨hHeld,D15,D18,D19,(yR HO_8),(yB BK265),(yB BK271),(yW HB)⟩)
          rintro ⟨v273,v276,v279⟩ w94 ⟨hS_,h0_,h1_,h2_,h3_,h4_,h5_,h6_⟩
          have n0_:Aside0 (Kd.R (Kd.int .i64) 3 w94 w.heap.size (fun k_=>some k_ ≠ (v279:Value).ownBlock∧some k_ ≠ (.slice Ao86 x7_2.length co86:Value).ownBlock) v276 y275):=⟨h0_⟩
          have n1_:Aside0 (Kd.R (Kd.int .i64) 3 w94 w.heap.size (fun k_=>some k_ ≠ (v276:Value).ownBlock∧some k_ ≠ (.slice Ao86 x7_2.length co86:Value).ownBlock) v279 y278):=⟨h1_⟩
          have n2_:Aside0 (Kd.R (Kd.int .i64) 3 w94 w.heap.size (fun k_=>some k_ ≠ (v276:Value).ownBlock∧some k_ ≠ (v279:Value).ownBlock) (.slice Ao86 x7_2.length co86) x7_2):=⟨h2_⟩
          have n3_:Aside0 (Kd.R Kd.string 9 w94 w.heap.size (fun _=>True) u8 x8_2):=⟨h3_⟩
          have n4_:Aside0 (w94.heap[gb265]? = some (.cells #[.int .i64 a0_0, .int .i64 a0_1, .int .i64 a0_2] 51 (0,0))):=⟨h4_⟩
          have n5_:Aside0 (w94.heap[gb271]? = some (.cells #[.int .i64 ((rd_T84 l1 x28_2).f0), .string ((rd_T84 l1 x28_2).f1)] 84 (0,0))):=⟨h5_⟩
          have n6_:Aside0 (Below w.heap.size w w94):=⟨h6_⟩
          clear HO_7
          clear HO_8
          clear BK265
          clear BK271
          clear HB
          clear h0_ h1_ h2_ h3_ h4_ h5_ h6_
          have HO277:=n0_
          have HO280:=n1_
          have HO_7:=n2_
          have HO_8:=n3_
          have BK265:=n4_
          have BK271:=n5_
          have HB:=n6_
          clear n0_ n1_ n2_ n3_ n4_ n5_ n6_
          have hHeld:w94.cell? ⟨gb271,0,none⟩=some (.int .i64 ((rd_T84 l1 x28_2).f0))∧w94.cell? ⟨gb271,1,none⟩=some (.string ((rd_T84 l1 x28_2).f1)):=hS_
          obtain ⟨Ao96,co96,eo96⟩:=Kd.R_slice HO280.out
          (first|subst eo96|(injection eo96 with f1_ f2_ f3_;have f4_:=f1_.symm;have f5_:=f3_.symm;clear f1_ f2_ f3_;subst f4_;subst f5_))
          refine norm_ (a':=?_) ?_ ?_
          rotate_left
          ·simp only [putAll,Act.put,q1,q2,q3]
           rfl
          refine one_ (i:=6) (N:=some 38) #[Y,Y,Y,Y,Y,Y,Y,Z] rfl rfl (one_of HT_.out D3) D4 (fun K hK=>?_)
          refine Kd.R_append_rows_step (Kd.int .i64) (w0:=w) w.heap.size D11 (.tmp 34) (.tmp 37) 25 3 (.int .i64 0) 8 rfl Try.underlying25 info3 rfl D4 D5 v276 y275 y278 _ _ _ (fun k_=>some k_ ≠ (.slice Ao86 x7_2.length co86:Value).ownBlock∧some k_ ≠ (.slice Ao96 y278.length co96:Value).ownBlock) (fun _=>False) rfl rfl ?aO ?aR (fun _ _ h=>h) (fun _ h=>h.elim) ?aF ?aB ?aS ?aL ?_
          (case aR=>repeat (first|exact (Kd.R_reads' HO280.out).2.2|(with_reducible refine Kd.C_alloc ?_ _)|(with_reducible refine Kd.C_drewN ?_ _)|(with_reducible refine Kd.C_drew ?_)))
          (case aB=>exact (yW HB))
          (case aF=>exact (fun k_ hk=>⟨Kd.fresh' (Kd.R_lt (yR HO_7)) k_ hk,Kd.fresh' (Kd.R_lt (yR HO280)) k_ hk⟩))
          (case aO=>exact D15)
          (case aS=>exact (pz (yW HB)))
          (case aL=>have:=LMc24.out;omega)
          intro v282 w95 ho hb hg hat
          rw [← Ny281.out] at ho
          have n0_:=am (Kd.R_after (ok:=(fun k_=>some k_ ≠ (.slice Ao96 y278.length co96:Value).ownBlock)) D19 hg hat)
          have n1_:=am (Kd.R_over' (yR HO_8) (Kd.R_typed (yR HO277)) D4 hg)
          have n2_:=am (blk_grown (g:=gb265) (o:=.cells #[.int .i64 a0_0, .int .i64 a0_1, .int .i64 a0_2] 51 (0,0)) (yB BK265) hg (Kd.R_ne HO277.out BK265.out D4))
          have n3_:=am (blk_grown (g:=gb271) (o:=.cells #[.int .i64 ((rd_T84 l1 x28_2).f0), .string ((rd_T84 l1 x28_2).f1)] 84 (0,0)) (yB BK271) hg (Kd.R_ne HO277.out BK271.out D4))
          have n4_:=am (Kd.R_after (ok:=(fun k_=>some k_ ≠ (.slice Ao86 x7_2.length co86:Value).ownBlock)) D18 hg hat)
          have n5_:=am (hb)
          have n6_:=am (ho)
          clear HO_7
          clear HO_8
          clear BK265
          clear BK271
          clear HO280
          clear HB
          clear HO277
          have HO_7:=n0_
          have HO_8:=n1_
          have BK265:=n2_
          have BK271:=n3_
          have HO280:=n4_
          have HB:=n5_
          have HO283:=n6_
          clear n0_ n1_ n2_ n3_ n4_ n5_ n6_
          clear ho hb hg hat
          refine hK.out _ _ ⟨yk BK271 0,yk BK271 1⟩ (fun hHeld=>?_)
          clear hK K
          refine norm_ (a':=?_) ?_ ?_
          rotate_left
          ·show Act.put _ (some 38) _=_
           simp only [Act.put,q1,q2,q3,i64_w,i32_w]
           rfl
          refine pure_ (i:=7) (N:=some 11) (v:=?_) (a':=?_) #[Y,Y,Y,Y,Y,Y,Y,Y] rfl rfl (any_of HT_.out D3) hh (Or.inl ⟨D11,?_⟩) ?_ ?_
          rotate_left
          ·intro w'
           go_simp
           with_reducible rfl
          rotate_left
          ·simp only [Act.put,q1,q2,q3,i64_w,i32_w]
           rfl
          refine done_ (done_of HT_.out D3) ?_
          try go_wp2
          go_roundg k2
          case measure=>have:=HJ2.out;have:=HK2.out;omega
          case rel=>exact ⟨(x7_2),(x8_2),(wrap64 (x28_2+1)),D2,H',⟨D70⟩,⟨by refine sR ?_;exact Kd.R_mono HO_7.out (fun _ hk=>trivial)⟩,⟨yR HO_8⟩,⟨yB BK265⟩,⟨yW HB⟩⟩
         rw [if_neg c24] at H
         exact absurd H D36
        rw [if_neg c23] at H
        exact absurd H D36
       rw [if_neg c22] at H
       exact absurd H D36
      rw [if_neg c21] at H
      exact absurd H D36
     rw [if_neg c20] at H
     have c20b0:=decide_eq_false c20
     clear c20
     by_cases c97:(x7_2.length:Int) < t269
     ·rw [if_pos c97] at H
      have c97b0:=decide_eq_true c97
      clear c97
      simp only [Option.some.injEq,Prod.mk.injEq] at H
      obtain ⟨rfl,rfl⟩:=H
      obtain ⟨Ao98,co98,eo98⟩:=Kd.R_slice HO_7.out
      subst eo98
      go_wp2
      go_ret2
      exact ⟨_,D1,D10,yW HB⟩
     rw [if_neg c97] at H
     have c97b0:=decide_eq_false c97
     clear c97
     obtain ⟨t300,A99,H⟩:=yo H
     obtain ⟨t303,A100,H⟩:=yo H
     obtain ⟨t306,A101,H⟩:=yo H
     obtain ⟨⟨t309,t312⟩,A102,H⟩:=yo H
     try dsimp only at H
     by_cases c103:t312=true
     ·subst c103
      replace H:=yt H
      obtain ⟨t314,A104,H⟩:=yo H
      simp only [Option.some.injEq,Prod.mk.injEq] at H
      obtain ⟨rfl,rfl⟩:=H
      obtain ⟨Ao105,co105,eo105⟩:=Kd.R_slice HO_7.out
      subst eo105
      obtain ⟨hcz106_0,hcz106_1,hcz106_2,hfz106_0,hfz106_1,hfz106_2⟩:=yk3 BK265
      go_wp2_with (first|((with_reducible refine gC 110 ?_);refine gM (some 68) Try.func110 (args:=#[.agg #[.int .i64 a0_0, .int .i64 a0_1, .int .i64 a0_2]]) (spec_l4Matrix.calls k2 a0_0 a0_1 a0_2 t300 _ A99.out) ?_;rintro e w107 ⟨v301,rfl,ho0,hb⟩;refine ⟨_,rfl,?_⟩;have HO302:=am (Kd.N_lower (Kd.N_mono (ok':=fun k_=>some k_ ≠ (.slice Ao105 x7_2.length co105:Value).ownBlock∧some k_ ≠ (u8:Value).ownBlock∧k_ ≠ gb265) ho0 (fun k_ hk_=>⟨(Kd.fresh' (Kd.R_lt (yR HO_7)) k_ hk_),(Kd.fresh' (Kd.R_lt (yR HO_8)) k_ hk_),(yz BK265 k_ hk_)⟩)) (pz (yW HB)));replace HO_7:=bR HO_7 hb;replace HO_8:=bR HO_8 hb;replace BK265:=yb BK265 hb;replace HB:=yH HB hb;clear hb ho0)|((with_reducible refine gC 93 ?_);refine gM (some 71) Try.func93 (args:=#[.int .i64 t269]) (spec_l3All.calls k2 t269 t303 _ A100.out) ?_;rintro e w108 ⟨v304,rfl,ho0,hb⟩;refine ⟨_,rfl,?_⟩;replace HO_8:=bR HO_8 hb;replace HO302:=eN HO302 (Kd.R_base ho0) hb;have HO305:=am (Kd.R_lower (Kd.R_new' ho0 (Kd.R_lt (yR HO_7))) (pz (yW HB)));replace HO_7:=eR HO_7 (Kd.R_base ho0) hb;replace BK265:=yb BK265 hb;replace HB:=yH HB hb;clear hb ho0;obtain ⟨Ao109,co109,eo109⟩:=Kd.N_slice HO302.out;subst eo109;obtain ⟨Ao110,co110,eo110⟩:=Kd.R_slice HO305.out;subst eo110)|((with_reducible refine gC 92 ?_);refine gM (some 72) Try.func92 (args:=#[.agg #[.slice Ao109 t300.length co109], .slice Ao105 x7_2.length co105, .slice Ao110 t303.length co110]) (spec_l2Part.calls k2 _ _ t300 _ _ x7_2 _ _ t303 t306 _ (yc (Kd.N_reads' HO302.out).2.2) (Kd.N_reads' HO302.out).2.1 (yc (Kd.R_reads' HO_7.out).2.2) (Kd.R_reads' HO_7.out).2.1 (yc (Kd.R_reads' HO305.out).2.2) (Kd.R_reads' HO305.out).2.1 A101.out) ?_;rintro e w111 ⟨v307,rfl,ho0,hb⟩;refine ⟨_,rfl,?_⟩;have HO308:=am (Kd.N_lower (Kd.N_mono (ok':=fun k_=>some k_ ≠ (.slice Ao105 x7_2.length co105:Value).ownBlock∧some k_ ≠ (u8:Value).ownBlock∧some k_ ≠ (.slice Ao109 t300.length co109:Value).ownBlock∧some k_ ≠ (.slice Ao110 t303.length co110:Value).ownBlock∧k_ ≠ gb265) (Kd.S_N (Kd.S_bound ho0)) (fun k_ hk_=>⟨(Kd.fresh' (Kd.R_lt (yR HO_7)) k_ hk_.2.1),(Kd.fresh' (Kd.R_lt (yR HO_8)) k_ hk_.2.1),(Kd.fresh' (Kd.N_lt (yN HO302)) k_ hk_.2.1),(Kd.fresh' (Kd.R_lt (yR HO305)) k_ hk_.2.1),(yz BK265 k_ hk_.2.1)⟩)) (pz (yW HB)));replace HO_7:=bR HO_7 hb;replace HO_8:=bR HO_8 hb;replace HO302:=eN HO302 D7 hb;replace HO305:=bR HO305 hb;replace BK265:=yb BK265 hb;replace HB:=yH HB hb;clear hb ho0;obtain ⟨Ao112,co112,eo112⟩:=Kd.N_slice HO308.out;subst eo112)|((with_reducible refine gC 91 ?_);refine gM (some 73) Try.func91 (args:=#[.agg #[.slice Ao112 t306.length co112]]) (spec_l2Inverse.calls _ _ t306 t309 true _ (yc (Kd.N_reads' HO308.out).2.2) (Kd.N_reads' HO308.out).2.1 A102.out) ?_;rintro e w113 ⟨v310,rfl,ho0,hb⟩;refine ⟨_,rfl,?_⟩;have HO311:=am (Kd.N_lower (Kd.N_mono (ok':=fun k_=>some k_ ≠ (.slice Ao105 x7_2.length co105:Value).ownBlock∧some k_ ≠ (u8:Value).ownBlock∧some k_ ≠ (.slice Ao109 t300.length co109:Value).ownBlock∧some k_ ≠ (.slice Ao110 t303.length co110:Value).ownBlock∧some k_ ≠ (.slice Ao112 t306.length co112:Value).ownBlock∧k_ ≠ gb265) ho0 (fun k_ hk_=>⟨(Kd.fresh' (Kd.R_lt (yR HO_7)) k_ hk_),(Kd.fresh' (Kd.R_lt (yR HO_8)) k_ hk_),(Kd.fresh' (Kd.N_lt (yN HO302)) k_ hk_),(Kd.fresh' (Kd.R_lt (yR HO305)) k_ hk_),(Kd.fresh' (Kd.N_lt (yN HO308)) k_ hk_),(yz BK265 k_ hk_)⟩)) (pz (yW HB)));replace HO_7:=bR HO_7 hb;replace HO_8:=bR HO_8 hb;replace HO302:=eN HO302 D7 hb;replace HO305:=bR HO305 hb;replace HO308:=eN HO308 D7 hb;replace BK265:=yb BK265 hb;replace HB:=yH HB hb;clear hb ho0)|((with_reducible refine gD 12 ?_);(try (refine gate_guard D11 ?_;dsimp only));refine gB (cs:=#[.slice none 0 0]) 43 ?_;intro gb313 hg w114 hbox hb;replace HO_7:=bR HO_7 hb;replace HO_8:=bR HO_8 hb;replace HO302:=oN HO302 hg hb;replace HO305:=bR HO305 hb;replace HO308:=oN HO308 hg hb;replace HO311:=oN HO311 hg hb;have BK313:=am (hbox);have GW313:=ye HB hg;replace HB:=yH HB hb;have NB265_313:=yl BK265 hg;have NB313_265:=yg BK265 hg;replace BK265:=yb BK265 hb;have GE313:=GW313;clear hb hbox hg;obtain ⟨Ao115,co115,eo115⟩:=Kd.N_slice HO311.out;subst eo115;have hnb116:=NB313_265.out;have hnc116:=NB265_313.out;obtain ⟨hcz117_0,hfz117_0⟩:=yk1 BK313;obtain ⟨Ao118,co118,eo118⟩:=Kd.R_slice HO_8.out;subst eo118)|((with_reducible refine gC 89 ?_);refine gM (some 80) Try.func89 (args:=#[.agg #[.slice Ao115 t309.length co115], .slice Ao118 x8_2.length co118]) (spec_l3Rows.calls k2 _ _ t309 _ _ x8_2 t314 _ ?side1 ?side2 ?side3 ?side4 A104.out) ?_;(case side1=>refine (Kd.N_reads' (e:=57) (base:=w.heap.size) (ok:=fun k_=>((some k_ ≠ (.slice Ao105 x7_2.length co105:Value).ownBlock∧(some k_ ≠ (.slice Ao118 x8_2.length co118:Value).ownBlock∧(some k_ ≠ (.slice Ao109 t300.length co109:Value).ownBlock∧(some k_ ≠ (.slice Ao110 t303.length co110:Value).ownBlock∧(some k_ ≠ (.slice Ao112 t306.length co112:Value).ownBlock∧k_ ≠ gb265)))))∧k_ ≠ gb313)) (n:=t309.length) (c:=co115) ?_).2.2;exact D50);(case side2=>exact (Kd.N_reads' HO311.out).2.1);(case side3=>refine (Kd.R_reads' (e:=9) (base:=w.heap.size) (ok:=fun k_=>True) (n:=x8_2.length) (c:=co118) ?_).2.2;exact D33);(case side4=>exact (Kd.R_reads' HO_8.out).2.1);rintro e w119 ⟨v315,rfl,ho0,hb⟩;refine ⟨_,rfl,?_⟩;replace HO_7:=am (Kd.R_below (by refine sR ?_;exact (Kd.R_mono (Kd.R_far (p:=⟨gb313,0,none⟩) (Kd.R_types HO_7.out BK313.out D4) (fun _ hk=>hk.2) (.slice Ao115 t309.length co115)) (fun _ h_=>h_.1))) hb);replace HO302:=am (Kd.N_elder' (by refine sN ?_;exact (Kd.N_mono (Kd.N_far (p:=⟨gb313,0,none⟩) (Kd.N_mono HO302.out (fun k_ hk=>(⟨hk,hk.2⟩:_∧k_ ≠ gb313))) (fun _ hk=>hk.2) (.slice Ao115 t309.length co115)) (fun _ h_=>h_.1))) (Kd.R_base ho0) hb);replace HO305:=am (Kd.R_below (by refine sR ?_;exact (Kd.R_mono (Kd.R_far (p:=⟨gb313,0,none⟩) (Kd.R_types HO305.out BK313.out D4) (fun _ hk=>hk.2) (.slice Ao115 t309.length co115)) (fun _ h_=>h_.1))) hb);replace HO308:=am (Kd.N_elder' (by refine sN ?_;exact (Kd.N_mono (Kd.N_far (p:=⟨gb313,0,none⟩) (Kd.N_mono HO308.out (fun k_ hk=>(⟨hk,hk.2⟩:_∧k_ ≠ gb313))) (fun _ hk=>hk.2) (.slice Ao115 t309.length co115)) (fun _ h_=>h_.1))) (Kd.R_base ho0) hb);replace HO311:=am (Kd.N_elder' D50 (Kd.R_base ho0) hb);have HO316:=am (Kd.R_lower (Kd.R_new' ho0 (Kd.R_lt D33)) (pz (yW HB)));replace HO_8:=am (Kd.R_elder' D33 (Kd.R_base ho0) hb);replace BK265:=am (qb (g:=gb265) (o:=.cells #[.int .i64 a0_0, .int .i64 a0_1, .int .i64 a0_2] 51 (0,0)) (yF BK265) hb);replace BK313:=am (qb (g:=gb313) (o:=.cells #[.slice Ao115 t309.length co115] 43 (0,0)) (by refine sB ?_;refine blk_put (cs:=#[.slice none 0 0]) ?_ 0 _ rfl;exact yB BK313) hb);replace HB:=yH HB hb;clear hb ho0))
      go_ret2
      exact ⟨_,D1,by refine sR ?_;exact Kd.R_mono HO316.out (fun _ hk=>trivial),yW HB⟩
     replace c103:=Bool.eq_false_iff.mpr c103
     subst c103
     replace H:=yn H
     simp only [Option.some.injEq,Prod.mk.injEq] at H
     obtain ⟨rfl,rfl⟩:=H
     obtain ⟨Ao120,co120,eo120⟩:=Kd.R_slice HO_7.out
     subst eo120
     obtain ⟨hcz121_0,hcz121_1,hcz121_2,hfz121_0,hfz121_1,hfz121_2⟩:=yk3 BK265
     go_wp2_with (first|((with_reducible refine gC 110 ?_);refine gM (some 68) Try.func110 (args:=#[.agg #[.int .i64 a0_0, .int .i64 a0_1, .int .i64 a0_2]]) (spec_l4Matrix.calls k2 a0_0 a0_1 a0_2 t300 _ A99.out) ?_;rintro e w122 ⟨v301,rfl,ho0,hb⟩;refine ⟨_,rfl,?_⟩;have HO302:=am (Kd.N_lower (Kd.N_mono (ok':=fun k_=>some k_ ≠ (.slice Ao120 x7_2.length co120:Value).ownBlock∧some k_ ≠ (u8:Value).ownBlock∧k_ ≠ gb265) ho0 (fun k_ hk_=>⟨(Kd.fresh' (Kd.R_lt (yR HO_7)) k_ hk_),(Kd.fresh' (Kd.R_lt (yR HO_8)) k_ hk_),(yz BK265 k_ hk_)⟩)) (pz (yW HB)));replace HO_7:=bR HO_7 hb;replace HO_8:=bR HO_8 hb;replace BK265:=yb BK265 hb;replace HB:=yH HB hb;clear hb ho0)|((with_reducible refine gC 93 ?_);refine gM (some 71) Try.func93 (args:=#[.int .i64 t269]) (spec_l3All.calls k2 t269 t303 _ A100.out) ?_;rintro e w123 ⟨v304,rfl,ho0,hb⟩;refine ⟨_,rfl,?_⟩;replace HO_8:=bR HO_8 hb;replace HO302:=eN HO302 (Kd.R_base ho0) hb;have HO305:=am (Kd.R_lower (Kd.R_new' ho0 (Kd.R_lt (yR HO_7))) (pz (yW HB)));replace HO_7:=eR HO_7 (Kd.R_base ho0) hb;replace BK265:=yb BK265 hb;replace HB:=yH HB hb;clear hb ho0;obtain ⟨Ao124,co124,eo124⟩:=Kd.N_slice HO302.out;subst eo124;obtain ⟨Ao125,co125,eo125⟩:=Kd.R_slice HO305.out;subst eo125)|((with_reducible refine gC 92 ?_);refine gM (some 72) Try.func92 (args:=#[.agg #[.slice Ao124 t300.length co124], .slice Ao120 x7_2.length co120, .slice Ao125 t303.length co125]) (spec_l2Part.calls k2 _ _ t300 _ _ x7_2 _ _ t303 t306 _ (yc (Kd.N_reads' HO302.out).2.2) (Kd.N_reads' HO302.out).2.1 (yc (Kd.R_reads' HO_7.out).2.2) (Kd.R_reads' HO_7.out).2.1 (yc (Kd.R_reads' HO305.out).2.2) (Kd.R_reads' HO305.out).2.1 A101.out) ?_;rintro e w126 ⟨v307,rfl,ho0,hb⟩;refine ⟨_,rfl,?_⟩;have HO308:=am (Kd.N_lower (Kd.N_mono (ok':=fun k_=>some k_ ≠ (.slice Ao120 x7_2.length co120:Value).ownBlock∧some k_ ≠ (u8:Value).ownBlock∧some k_ ≠ (.slice Ao124 t300.length co124:Value).ownBlock∧some k_ ≠ (.slice Ao125 t303.length co125:Value).ownBlock∧k_ ≠ gb265) (Kd.S_N (Kd.S_bound ho0)) (fun k_ hk_=>⟨(Kd.fresh' (Kd.R_lt (yR HO_7)) k_ hk_.2.1),(Kd.fresh' (Kd.R_lt (yR HO_8)) k_ hk_.2.1),(Kd.fresh' (Kd.N_lt (yN HO302)) k_ hk_.2.1),(Kd.fresh' (Kd.R_lt (yR HO305)) k_ hk_.2.1),(yz BK265 k_ hk_.2.1)⟩)) (pz (yW HB)));replace HO_7:=bR HO_7 hb;replace HO_8:=bR HO_8 hb;replace HO302:=eN HO302 D7 hb;replace HO305:=bR HO305 hb;replace BK265:=yb BK265 hb;replace HB:=yH HB hb;clear hb ho0;obtain ⟨Ao127,co127,eo127⟩:=Kd.N_slice HO308.out;subst eo127)|((with_reducible refine gC 91 ?_);refine gM (some 73) Try.func91 (args:=#[.agg #[.slice Ao127 t306.length co127]]) (spec_l2Inverse.calls _ _ t306 t309 false _ (yc (Kd.N_reads' HO308.out).2.2) (Kd.N_reads' HO308.out).2.1 A102.out) ?_;rintro e w128 ⟨v310,rfl,ho0,hb⟩;refine ⟨_,rfl,?_⟩;have HO311:=am (Kd.N_lower (Kd.N_mono (ok':=fun k_=>some k_ ≠ (.slice Ao120 x7_2.length co120:Value).ownBlock∧some k_ ≠ (u8:Value).ownBlock∧some k_ ≠ (.slice Ao124 t300.length co124:Value).ownBlock∧some k_ ≠ (.slice Ao125 t303.length co125:Value).ownBlock∧some k_ ≠ (.slice Ao127 t306.length co127:Value).ownBlock∧k_ ≠ gb265) ho0 (fun k_ hk_=>⟨(Kd.fresh' (Kd.R_lt (yR HO_7)) k_ hk_),(Kd.fresh' (Kd.R_lt (yR HO_8)) k_ hk_),(Kd.fresh' (Kd.N_lt (yN HO302)) k_ hk_),(Kd.fresh' (Kd.R_lt (yR HO305)) k_ hk_),(Kd.fresh' (Kd.N_lt (yN HO308)) k_ hk_),(yz BK265 k_ hk_)⟩)) (pz (yW HB)));replace HO_7:=bR HO_7 hb;replace HO_8:=bR HO_8 hb;replace HO302:=eN HO302 D7 hb;replace HO305:=bR HO305 hb;replace HO308:=eN HO308 D7 hb;replace BK265:=yb BK265 hb;replace HB:=yH HB hb;clear hb ho0)|((with_reducible refine gD 12 ?_);(try (refine gate_guard D11 ?_;dsimp only));refine gB (cs:=#[.slice none 0 0]) 43 ?_;intro gb313 hg w129 hbox hb;replace HO_7:=bR HO_7 hb;replace HO_8:=bR HO_8 hb;replace HO302:=oN HO302 hg hb;replace HO305:=bR HO305 hb;replace HO308:=oN HO308 hg hb;replace HO311:=oN HO311 hg hb;have BK313:=am (hbox);have GW313:=ye HB hg;replace HB:=yH HB hb;have NB265_313:=yl BK265 hg;have NB313_265:=yg BK265 hg;replace BK265:=yb BK265 hb;have GE313:=GW313;clear hb hbox hg;obtain ⟨Ao130,co130,eo130⟩:=Kd.N_slice HO311.out;subst eo130;have hnb131:=NB313_265.out;have hnc131:=NB265_313.out;obtain ⟨hcz132_0,hfz132_0⟩:=yk1 BK313))
     go_ret2
     exact ⟨_,D1,D10,yW HB⟩
def slices_Clone_byte_byte_SS.f (l0:List (List Int)):Option (List (List Int)):=(some (([]:List (List Int)):List (List Int))).bind fun y181=>(if y181.length+l0.length < 5864062014805 then (some (y181 ++ l0)) else (none))
theorem slices_Clone_byte_byte_SS.info:(Try.prog.info? 57).map (fun i=>(i.zero,i.size,i.bytes))=some (some (.slice none 0 0),1,24):=by kernel_rfl
theorem slices_Clone_byte_byte_SS.calls (P0_:Nat→Prop) (A0:Option Addr) (c0:Nat) (l0:List (List Int)) (r:List (List Int)) (w:World) (hs0:Kd.V (Kd.slice 5 (Kd.int .u8)) 57 w w.heap.size (fun k_=>P0_ k_) (.slice A0 l0.length c0) l0) (h:slices_Clone_byte_byte_SS.f l0=some r) :
  Calls Try.prog 158 #[.slice A0 l0.length c0] w fun e w'=>∃ v0_:Value,e = .returned (v0_)∧Kd.N (Kd.slice 5 (Kd.int .u8)) 57 w' w.heap.size (fun k_=>(P0_ k_∨w.heap.size≤k_)) v0_ r∧Below w.heap.size w w':=by
 have hs1:=Kd.V_bound hs0
 have HR0:=am (Kd.V_F hs1)
 have HE0:=am (Kd.V_reads' hs0).2.2
 clear hs0 hs1
 have HB:=am (Below.refl w.heap.size w)
 have H:=h
 unfold slices_Clone_byte_byte_SS.f at H
 clear h
 obtain ⟨y181,hy181,H⟩:=ys H
 have Ny181:=am hy181
 clear hy181
 by_cases c2:y181.length+l0.length < 5864062014805
 ·rw [if_pos c2] at H
  have LMc2:=am c2
  clear c2
  generalize hy184:(y181 ++ l0:List (List Int))=y184 at H
  have Ny184:=am hy184.symm
  clear hy184
  obtain rfl:=Option.some.inj H
  have keq:=fun (W:World) (a:Option Addr) (n c:Nat)=>Lib.run_eql_slice_nil (P:=Try.prog) W 37 57 a n c 0 0 Try.underlying37
  cases A0 with
  | none =>
   have e0:l0=[]:=by
    have hc:=HE0.out
    by_cases hp:0 < l0.length
    ·obtain ⟨ad,h1,_⟩:=hc.2.2 hp
     cases h1
    exact List.eq_nil_of_length_eq_zero D5
   have ey:y184=[]:=by rw [Ny184.out,Ny181.out,e0];rfl
   subst ey
   go_enter Try.func158,Try.ntmps158
   go_wp2
   go_ret
   exact ⟨_,rfl,Kd.N_nil _ _ _ _ _,HB.out⟩
  | some ad0 =>
  clear HE0
  go_enter Try.func158,Try.ntmps158
  go_wp2_with (first|((with_reducible refine gD 5 ?_);refine Kd.N_lit (Kd.slice 5 (Kd.int .u8)) w.heap.size 57 D11 (N':=5) D11 (xs:=([]:List (List Int))) (inner:=[]) (ok:=fun k_=>P0_ k_∨w.heap.size≤k_) (okp:=fun _=>False) D16 D25 (fun _ hk=>hk.elim) (.inr (pz HB.out)) HB.out (pz HB.out) D36 ?_;intro v182 w3 ho4 hb hg_ hnew_;clear hg_ hnew_;(first|rw [← Ny181.out] at ho4|(simp only [Int.reduceToNat] at ho4;rw [← Ny181.out] at ho4));have HO183:=am (ho4);replace HB:=am hb;replace HR0:=am (Kd.F_below HR0.out hb);clear hb ho4)|((with_reducible refine gate_builtin (b:=.append) (xs:=#[.tmp 5, .tmp 6]) rfl ?_);at_builtin;refine Kd.N_append_rows (Kd.slice 5 (Kd.int .u8)) (w0:=w) w.heap.size rfl (.tmp 5) (.tmp 6) 37 57 (.slice none 0 0) 24 rfl Try.underlying37 slices_Clone_byte_byte_SS.info rfl D4 D5 v182 y181 l0 _ _ _ (fun k_=>P0_ k_∨w.heap.size≤k_) (fun k_=>P0_ k_∧k_ < w.heap.size) rfl rfl HO183.out HR0.out (fun k hk=>⟨.inl hk.1,fun e=>by have:=Kd.N_base HO183.out k e.symm;have:=hk.2;omega⟩) (fun k hk=>.inr (Nat.le_trans (pz HB.out) hk)) HB.out (pz HB.out) (by have:=LMc2.out;omega) ?_;intro v185 w5 ho hb hg hat;rw [← Ny184.out] at ho;have n0_:=am (hb);have n1_:=am (ho);clear HB HO183;have HB:=n0_;have HO186:=n1_;clear n0_ n1_ ho hb hg hat))
  go_ret
  exact ⟨_,D1,HO186.out,HB.out⟩
 rw [if_neg c2] at H
 exact absurd H D36

def impl_added.l0:Nat→List Int→List Int→List Int→Int→Int→Option (List Int)
 | 0,_,_,_,_,_=>none
 | k+1,x1,x5,x9,x10,x11=>if x11 < x10 then (if 0≤x11 then (if x11 < (x9.length:Int) then (if x11 < (x1.length:Int) then (if x5.length < 140737488355328 then (impl_added.l0 k x1 (x5 ++ [Go.bits .xor .u8 (rd x9 x11) (rd x1 x11)]) x9 x10 (wrap64 (x11+1))) else (none)) else (none)) else (none)) else (none)) else (some x5)
def impl_added.f (k:Nat) (l0:List Int) (l1:List Int):Option (List Int):=impl_added.l0 k l1 (([]:List Int)) l0 (l0.length:Int) 0
theorem impl_added.mono_l:∀ k,(∀ y0 y1 y2 y3 y4,LeO (impl_added.l0 k y0 y1 y2 y3 y4) (impl_added.l0 (k+1) y0 y1 y2 y3 y4))
 | 0=>fun _ _ _ _ _ r h=>by simp [impl_added.l0] at h
 | k+1=>by
  have ih0:=impl_added.mono_l k
  intro y0 y1 y2 y3 y4
  unfold impl_added.l0
  exact mm
theorem impl_added.mono:∀ a0 a1 k,LeO (impl_added.f k a0 a1) (impl_added.f (k+1) a0 a1):=by
 intro a0 a1 k
 have ih0:=impl_added.mono_l k
 unfold impl_added.f
 exact mm
theorem impl_added.calls (k:Nat) (A0:Option Addr) (c0:Nat) (l0:List Int) (A1:Option Addr) (c1:Nat) (l1:List Int) (r:List Int) (w:World) (hr0:Kd.C (Kd.int .u8) w A0 l0.length l0) (hc0:l0.length≤c0) (hr1:Kd.C (Kd.int .u8) w A1 l1.length l1) (hc1:l1.length≤c1) (h:impl_added.f k l0 l1=some r) :
  Calls Try.prog 131 #[.slice A0 l0.length c0, .slice A1 l1.length c1] w fun e w'=>∃ v0_:Value,e = .returned (v0_)∧Kd.R (Kd.int .u8) 5 w' w.heap.size (fun _=>True) v0_ r∧Below w.heap.size w w':=by
 have HR0:=am hr0
 have HC0:=am hc0
 clear hr0 hc0
 have HR1:=am hr1
 have HC1:=am hc1
 clear hr1 hc1
 have HB:=am (Below.refl w.heap.size w)
 have H:=h
 unfold impl_added.f at H
 clear h
 generalize hy317:(([]:List Int):List Int)=y317 at H
 have Ny317:=am hy317.symm
 clear hy317
 have H':=am H
 clear H
 go_enter Try.func131,Try.ntmps131
 go_wp2_with (first|((with_reducible refine gD 8 ?_);refine Kd.R_lit (Kd.int .u8) _ 5 D11 (N:=8) D11 (xs:=([]:List Int)) (inner:=[]) (ok:=fun _=>True) (okp:=fun _=>True) D16 D25 (fun _ hk=>hk) trivial (Below.refl _ _) (Nat.le_refl _) D36 ?_;intro v318 w3 ho4 hb hg_ hnew_;clear hg_ hnew_;(first|rw [← Ny317.out] at ho4|(simp only [Int.reduceToNat] at ho4;rw [← Ny317.out] at ho4));have HO319:=am (Kd.R_lower ho4 (pz (yW HB)));replace HB:=yH HB hb;clear hb ho4))
 go_loopg [5,11] k (fun kq v5 v11 w'=>∃ (x5_1:List Int) (x11_1:Int),v11 = .int .i64 x11_1∧Aside0 (impl_added.l0 kq l1 x5_1 l0 (l0.length:Int) x11_1=some r)∧Aside0 (kq≤k)∧Aside0 (Kd.R (Kd.int .u8) 5 w' w.heap.size (fun _=>True) v5 x5_1)∧Aside0 (Below w.heap.size w w'))
 case atStart=>exact ⟨(y317),(0),D2,H',⟨Nat.le_refl _⟩,⟨yR HO319⟩,⟨yW HB⟩⟩
 case round =>
  clear H'
  try clear c1
  try clear p2
  obtain ⟨x5_1,x11_1,rfl,HA,HK1,HO_5,HB⟩:=hrel
  cases gk with
  | zero=>exact absurd HA.out (by simp [impl_added.l0])
  | succ k1 =>
   have H:=HA.out
   clear HA
   simp only [impl_added.l0] at H
   by_cases c5:x11_1 < (l0.length:Int)
   ·rw [if_pos c5] at H
    have c5b0:=decide_eq_true c5
    clear c5
    obtain ⟨c6,H⟩:=yi H
    have c6b0:=decide_eq_true c6
    clear c6
    obtain ⟨c7,H⟩:=yi H
    have c7b0:=decide_eq_true c7
    clear c7
    obtain ⟨c8,H⟩:=yi H
    have c8b0:=decide_eq_true c8
    clear c8
    obtain ⟨c9,H⟩:=yi H
    have LMc9:=am c9
    clear c9
    generalize hy322:(x5_1 ++ [Go.bits .xor .u8 (rd l0 x11_1) (rd l1 x11_1)]:List Int)=y322 at H
    have Ny322:=am hy322.symm
    clear hy322
    have H':=am H
    clear H
    have p320:0≤(x11_1:Int):=od D0
    have q320:x11_1 < (l0.length:Int):=od D0
    obtain ⟨ad320,e320,hx320_0⟩:=Kd.at_int HR0.out x11_1 p320 q320
    cases e320
    replace hx320_0:=(HB.out.cell (World.block_lt_of_cell? w _ hx320_0)).trans hx320_0
    replace p320:=eq_true p320
    replace q320:=eq_true q320
    have p321:0≤(x11_1:Int):=od D0
    have q321:x11_1 < (l1.length:Int):=od D0
    obtain ⟨ad321,e321,hx321_0⟩:=Kd.at_int HR1.out x11_1 p321 q321
    cases e321
    replace hx321_0:=(HB.out.cell (World.block_lt_of_cell? w _ hx321_0)).trans hx321_0
    replace p321:=eq_true p321
    replace q321:=eq_true q321
    go_wp2_with (first|((with_reducible refine gate_builtin (b:=.append) (xs:=#[.tmp 16, .tmp 23]) rfl ?_);at_builtin;refine Kd.R_append (Kd.int .u8) (w0:=w) w.heap.size rfl (.tmp 16) (.tmp 23) 57 5 (.int .u8 0) 1 rfl Try.underlying57 info5 rfl D4 D5 u5 x5_1 (Go.bits .xor .u8 (rd l0 x11_1) (rd l1 x11_1)) [.int .u8 (Go.bits .xor .u8 (rd l0 x11_1) (rd l1 x11_1))] (fun _=>True) (fun _=>False) rfl rfl D75 (fun _ hk=>hk.elim) D34 (by exact (yR HO_5)) D46 D26 (by have:=LMc9.out;omega) ?_;intro v323 w10 ho hb hg hat;rw [← Ny322.out] at ho;have n0_:=am (hb);have n1_:=am (ho);clear HB HO_5;have HB:=n0_;have HO324:=n1_;clear n0_ n1_ ho hb hg hat))
    go_roundg k1
    case measure=>have:=HK1.out;omega
    case rel=>exact ⟨(y322),(wrap64 (x11_1+1)),D2,H',⟨D17⟩,⟨yR HO324⟩,⟨yW HB⟩⟩
   rw [if_neg c5] at H
   have c5b0:=decide_eq_false c5
   clear c5
   obtain rfl:=Option.some.inj H
   go_wp2
   go_ret
   exact ⟨_,D1,yR HO_5,yW HB⟩

def impl_scaled.l0:Nat→Int→List Int→List Int→Int→Int→Option (List Int)
 | 0,_,_,_,_,_=>none
 | k+1,x0,x5,x9,x10,x11=>if x11 < x10 then (if 0≤x11 then (if x11 < (x9.length:Int) then ((impl_Times.f k x0 (rd x9 x11)).bind fun t329=>(if x5.length < 140737488355328 then (impl_scaled.l0 k x0 (x5 ++ [t329]) x9 x10 (wrap64 (x11+1))) else (none))) else (none)) else (none)) else (some x5)
def impl_scaled.f (k:Nat) (a0:Int) (l1:List Int):Option (List Int):=impl_scaled.l0 k a0 (([]:List Int)) l1 (l1.length:Int) 0
theorem impl_scaled.mono_l:∀ k,(∀ y0 y1 y2 y3 y4,LeO (impl_scaled.l0 k y0 y1 y2 y3 y4) (impl_scaled.l0 (k+1) y0 y1 y2 y3 y4))
 | 0=>fun _ _ _ _ _ r h=>by simp [impl_scaled.l0] at h
 | k+1=>by
  have ih0:=impl_scaled.mono_l k
  intro y0 y1 y2 y3 y4
  unfold impl_scaled.l0
  exact mm
theorem impl_scaled.mono:∀ a0 a1 k,LeO (impl_scaled.f k a0 a1) (impl_scaled.f (k+1) a0 a1):=by
 intro a0 a1 k
 have ih0:=impl_scaled.mono_l k
 unfold impl_scaled.f
 exact mm
theorem impl_scaled.calls (k:Nat) (a0:Int) (A1:Option Addr) (c1:Nat) (l1:List Int) (r:List Int) (w:World) (hr1:Kd.C (Kd.int .u8) w A1 l1.length l1) (hc1:l1.length≤c1) (h:impl_scaled.f k a0 l1=some r) :
  Calls Try.prog 132 #[.int .u8 a0, .slice A1 l1.length c1] w fun e w'=>∃ v0_:Value,e = .returned (v0_)∧Kd.R (Kd.int .u8) 5 w' w.heap.size (fun _=>True) v0_ r∧Below w.heap.size w w':=by
 have HR1:=am hr1
 have HC1:=am hc1
 clear hr1 hc1
 have HB:=am (Below.refl w.heap.size w)
 have H:=h
 unfold impl_scaled.f at H
 clear h
 generalize hy325:(([]:List Int):List Int)=y325 at H
 have Ny325:=am hy325.symm
 clear hy325
 have H':=am H
 clear H
 go_enter Try.func132,Try.ntmps132
 go_wp2_with (first|((with_reducible refine gD 8 ?_);refine Kd.R_lit (Kd.int .u8) _ 5 D11 (N:=8) D11 (xs:=([]:List Int)) (inner:=[]) (ok:=fun _=>True) (okp:=fun _=>True) D16 D25 (fun _ hk=>hk) trivial (Below.refl _ _) (Nat.le_refl _) D36 ?_;intro v326 w3 ho4 hb hg_ hnew_;clear hg_ hnew_;(first|rw [← Ny325.out] at ho4|(simp only [Int.reduceToNat] at ho4;rw [← Ny325.out] at ho4));have HO327:=am (Kd.R_lower ho4 (pz (yW HB)));replace HB:=yH HB hb;clear hb ho4))
 go_loopg [5,11] k (fun kq v5 v11 w'=>∃ (x5_1:List Int) (x11_1:Int),v11 = .int .i64 x11_1∧Aside0 (impl_scaled.l0 kq a0 x5_1 l1 (l1.length:Int) x11_1=some r)∧Aside0 (kq≤k)∧Aside0 (Kd.R (Kd.int .u8) 5 w' w.heap.size (fun _=>True) v5 x5_1)∧Aside0 (Below w.heap.size w w'))
 case atStart=>exact ⟨(y325),(0),D2,H',⟨Nat.le_refl _⟩,⟨yR HO327⟩,⟨yW HB⟩⟩
 case round =>
  clear H'
  try clear c1
  try clear p2
  obtain ⟨x5_1,x11_1,rfl,HA,HK1,HO_5,HB⟩:=hrel
  cases gk with
  | zero=>exact absurd HA.out (by simp [impl_scaled.l0])
  | succ k1 =>
   have H:=HA.out
   clear HA
   simp only [impl_scaled.l0] at H
   by_cases c5:x11_1 < (l1.length:Int)
   ·rw [if_pos c5] at H
    have c5b0:=decide_eq_true c5
    clear c5
    obtain ⟨c6,H⟩:=yi H
    have c6b0:=decide_eq_true c6
    clear c6
    obtain ⟨c7,H⟩:=yi H
    have c7b0:=decide_eq_true c7
    clear c7
    obtain ⟨t329,A8,H⟩:=yo H
    obtain ⟨c9,H⟩:=yi H
    have LMc9:=am c9
    clear c9
    generalize hy330:(x5_1 ++ [t329]:List Int)=y330 at H
    have Ny330:=am hy330.symm
    clear hy330
    have H':=am H
    clear H
    have p328:0≤(x11_1:Int):=od D0
    have q328:x11_1 < (l1.length:Int):=od D0
    obtain ⟨ad328,e328,hx328_0⟩:=Kd.at_int HR1.out x11_1 p328 q328
    cases e328
    replace hx328_0:=(HB.out.cell (World.block_lt_of_cell? w _ hx328_0)).trans hx328_0
    replace p328:=eq_true p328
    replace q328:=eq_true q328
    go_wp2_with (first|((with_reducible refine gC 192 ?_);refine gM (some 18) Try.func192 (args:=#[.int .u8 a0, .int .u8 (rd l1 x11_1)]) (impl_Times.calls k1 a0 (rd l1 x11_1) t329 _ A8.out) ?_;rintro e w' ⟨rfl,⟨nd,rfl⟩⟩;refine ⟨_,rfl,?_⟩)|((with_reducible refine gate_builtin (b:=.append) (xs:=#[.tmp 15, .tmp 19]) rfl ?_);at_builtin;refine Kd.R_append (Kd.int .u8) (w0:=w) w.heap.size rfl (.tmp 15) (.tmp 19) 57 5 (.int .u8 0) 1 rfl Try.underlying57 info5 rfl D4 D5 u5 x5_1 t329 [.int .u8 t329] (fun _=>True) (fun _=>False) rfl rfl D75 (fun _ hk=>hk.elim) D34 (by exact (yR HO_5)) D46 D26 (by have:=LMc9.out;omega) ?_;intro v331 w10 ho hb hg hat;rw [← Ny330.out] at ho;have n0_:=am (hb);have n1_:=am (ho);clear HB HO_5;have HB:=n0_;have HO332:=n1_;clear n0_ n1_ ho hb hg hat))
    go_roundg k1
    case measure=>have:=HK1.out;omega
    case rel=>exact ⟨(y330),(wrap64 (x11_1+1)),D2,H',⟨D17⟩,⟨yR HO332⟩,⟨yW HB⟩⟩
   rw [if_neg c5] at H
   have c5b0:=decide_eq_false c5
   clear c5
   obtain rfl:=Option.some.inj H
   go_wp2
   go_ret
   exact ⟨_,D1,yR HO_5,yW HB⟩


def impl_Inverse.f (k:Nat) (a0:Int):Option (Int):=(impl_power.f k a0 254).bind fun t333=>(some t333)
theorem impl_Inverse.mono:∀ a0 k,LeO (impl_Inverse.f k a0) (impl_Inverse.f (k+1) a0):=by
 intro a0 k
 unfold impl_Inverse.f
 exact mm
theorem impl_Inverse.calls (k:Nat) (a0:Int) (r:Int) (w:World) (h:impl_Inverse.f k a0=some r) :
  Calls Try.prog 207 #[.int .u8 a0] w fun e w'=>e = .returned (.int .u8 r)∧Drawn0 w w':=by
 have H:=h
 unfold impl_Inverse.f at H
 clear h
 obtain ⟨t333,A2,H⟩:=yo H
 obtain rfl:=Option.some.inj H
 go_enter Try.func207,Try.ntmps207
 go_wp2_with (first|((with_reducible refine gC 180 ?_);refine gM (some 4) Try.func180 (args:=#[.int .u8 a0, .int .i64 254]) (impl_power.calls k a0 254 t333 _ A2.out) ?_;rintro e w' ⟨rfl,⟨nd,rfl⟩⟩;refine ⟨_,rfl,?_⟩))
 go_ret
 exact ⟨D2,D6⟩
end Go.Proofs.Ytajikfnpcobnpaa.PFnExactDecodeLocal
-- SQUEEZED
