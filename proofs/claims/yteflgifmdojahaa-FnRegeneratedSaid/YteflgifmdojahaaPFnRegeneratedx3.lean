import Derived.Test.YteflgifmdojahaaVFnRegeneratedB
import Derived.Test.YteflgifmdojahaaPFnRegeneratedx0
import Derived.Test.YteflgifmdojahaaPFnRegeneratedx1
import Derived.Test.YteflgifmdojahaaPFnRegeneratedx2
namespace Go.Proofs.Yteflgifmdojahaa.PFnRegenerated
open Go.RowKit Go.Proofs.YteflgifmdojahaaW.PrintWords Go.Proofs.YteflgifmdojahaaW.PrintLast Go.Proofs.YteflgifmdojahaaW.PrintMore Go.Proofs.Yteflgifmdojahaa.KitS
attribute [local go_sem] max2_int min2_int max_two min_two max_three min_three max_four min_four
set_option linter.unusedVariables false
set_option maxHeartbeats 8000000
set_option maxRecDepth 100000
set_option linter.unusedSimpArgs false
mutual
def spec_DrawEncodeMsr.j0:Nat→Int→Bool→List Int→Int→Int→Int→Int→Option (Int × Int × List Int × Int × Int)
 | 0,_,_,_,_,_,_,_=>none
 | k+1,x6,x23,x1000,x1001,x1002,x174000,x174001=>if x23=true then ((spec_l1Cur_pick.f x1000 x1001 x1002 9).bind fun bt177=>(spec_DrawEncodeMsr.j1 k bt177.1 x1000 bt177.2.1 bt177.2.2 x174000 x174001)) else (spec_DrawEncodeMsr.j1 k x6 x1000 x1001 x1002 x174000 x174001)
def spec_DrawEncodeMsr.j1:Nat→Int→List Int→Int→Int→Int→Int→Option (Int × Int × List Int × Int × Int)
 | 0,_,_,_,_,_,_=>none
 | k+1,x6,x1000,x1001,x1002,x174000,x174001=>(spec_l1Cur_vector.f k x1000 x1001 x1002 x6).bind fun bt180=>(some (x174000,x174001,bt180.1,bt180.2.1,bt180.2.2))
end
def spec_DrawEncodeMsr.g (k:Nat) (s0_0:List Int) (s0_1:Int) (s0_2:Int):Option (Int × Int × List Int × Int × Int):=(spec_l1Cur_msr.f s0_0 s0_1 s0_2).bind fun bt169=>((spec_l1Cur_one.f s0_0 bt169.2.2.1 bt169.2.2.2 12).bind fun bt174=>(if bt174.1=true then (spec_DrawEncodeMsr.j0 k (wrap64 (bt169.2.1*(wrap64 (bt169.2.1 - 1)))) true s0_0 bt174.2.1 bt174.2.2 bt169.1 bt169.2.1) else (spec_DrawEncodeMsr.j0 k (wrap64 (bt169.2.1*(wrap64 (bt169.2.1 - 1)))) (decide ((wrap64 (bt169.2.1*(wrap64 (bt169.2.1 - 1)))) < 0)) s0_0 bt174.2.1 bt174.2.2 bt169.1 bt169.2.1)))
theorem spec_DrawEncodeMsr.monog_l:∀ k,(∀ y0 y1 y2 y3 y4 y5 y6,LeO (spec_DrawEncodeMsr.j0 k y0 y1 y2 y3 y4 y5 y6) (spec_DrawEncodeMsr.j0 (k+1) y0 y1 y2 y3 y4 y5 y6))∧(∀ y0 y1 y2 y3 y4 y5,LeO (spec_DrawEncodeMsr.j1 k y0 y1 y2 y3 y4 y5) (spec_DrawEncodeMsr.j1 (k+1) y0 y1 y2 y3 y4 y5))
 | 0=>⟨fun _ _ _ _ _ _ _ r h=>by simp [spec_DrawEncodeMsr.j0] at h,fun _ _ _ _ _ _ r h=>by simp [spec_DrawEncodeMsr.j1] at h⟩
 | k+1=>by
  obtain ⟨ih0,ih1⟩:=spec_DrawEncodeMsr.monog_l k
  refine ⟨?_,?_⟩
  ·intro y0 y1 y2 y3 y4 y5 y6
   unfold spec_DrawEncodeMsr.j0
   exact mm
  intro y0 y1 y2 y3 y4 y5
  unfold spec_DrawEncodeMsr.j1
  exact mm
theorem spec_DrawEncodeMsr.monog:∀ a0 a1 a2 k,LeO (spec_DrawEncodeMsr.g k a0 a1 a2) (spec_DrawEncodeMsr.g (k+1) a0 a1 a2):=by
 intro a0 a1 a2 k
 obtain ⟨ih0,ih1⟩:=spec_DrawEncodeMsr.monog_l k
 unfold spec_DrawEncodeMsr.g
 exact mm
def spec_DrawEncodeMsr.f (k:Nat) (l0:List Int):Option (Int × Int × List Int):=(spec_DrawEncodeMsr.g k l0 0 0).bind fun b=>some (b.1,b.2.1,b.2.2.1)
theorem spec_DrawEncodeMsr.mono:∀ a0 k,LeO (spec_DrawEncodeMsr.f k a0) (spec_DrawEncodeMsr.f (k+1) a0):=fun a0 k=>LeO.bind (spec_DrawEncodeMsr.monog _ _ _ k) (fun _=>LeO.refl _)
theorem spec_DrawEncodeMsr.calls (k:Nat) (A0:Option Addr) (c0:Nat) (l0:List Int) (p1:Int) (p2:Int) (p3:List Int) (w0:World) (hr0:Kd.C (Kd.int .u8) w0 A0 l0.length l0) (hc0:l0.length≤c0) (h:spec_DrawEncodeMsr.f k l0=some (p1,p2,p3)) :
  Calls Try.prog 43 #[.slice A0 l0.length c0] w0 fun e w'=>∃ v2_:Value,e = .returned (.tuple #[.agg #[.int .i64 p1, .int .i64 p2],v2_])∧Kd.R (Kd.int .u8) 5 w' w0.heap.size (fun _=>True) v2_ p3∧Below w0.heap.size w0 w':=by
 unfold spec_DrawEncodeMsr.f at h
 obtain ⟨⟨r1,r2,r3,r4,r5⟩,hG_,he_⟩:=Option.bind_eq_some_iff.mp h
 clear h
 have h:=hG_
 clear hG_
 simp only [Option.some.injEq,Prod.mk.injEq] at he_
 obtain ⟨rfl,rfl,rfl⟩:=he_
 have HR:=am hr0
 clear hr0 hc0
 have HB:=am (Below.refl w0.heap.size w0)
 have HL:=am (Nat.le_refl w0.heap.size)
 have HW0:=HL
 have hu127:=Try.underlying127
 have hu30:=Try.underlying30
 have H:=h
 unfold spec_DrawEncodeMsr.f at H
 clear h
 obtain ⟨⟨t169,t170,t171,t172⟩,A2,H⟩:=yo H
 try dsimp only at H
 have HC3:=am H
 clear H
 go_enter Try.func43,Try.ntmps43
 go_upto_region 4 with (first|((with_reducible refine gD 9 ?_);refine gB (cs:=#[.slice A0 l0.length c0, .int .i64 0, .int .u64 0]) 127 ?_;intro g hg wS hbox hb;have n0_:=yH HB hb;have HI0:=am (show IsS127 w0 _ g l0 0 0 from ⟨A0,c0,hbox,by rw [hg];exact pz (yW HB),HR.out⟩);have m0_:=yb BK168 hb;have NB0_168:=yg BK168 hg;have NB168_0:=am (Ne.symm NB0_168.out);clear BK168;have BK168:=m0_;clear m0_ HB;have HB:=n0_;clear n0_;have HK:=am (KeepBut.of_below HB.out g none);clear hb hbox hg)|((with_reducible refine gD 2 ?_);refine gB (cs:=#[.int .i64 0, .int .i64 0]) 30 ?_;intro gb168 hg w4 hbox hb;have n2_:=am (pu D12 hb);have n3_:=am (hbox);have n4_:=am ((by rw [hg];exact (pz (yW HB)):w0.heap.size≤gb168));have n5_:=n4_;clear HB;have HB:=n2_;have BK168:=n3_;have GW168:=n4_;have GE168:=n5_;clear n2_ n3_ n4_ n5_ hb hbox hg)|((with_reducible refine gC 100 ?_);refine gM (some 11) Try.func100 (args:=#[.pointer (some ⟨g,0,none⟩)]) (spec_l1Cur_msr.calls g l0 0 0 t169 t170 t171 t172 w0 _ ?side1 ?side2 A2.out) ?_;(case side1=>repeat (first|(with_reducible first|exact HI0.out|apply IsS127.alloc|apply IsS127.drewN|apply IsS127.drew|apply IsS127.set_1|apply IsS127.set_2|refine IsS127.far ?_ NB0_168.out _)|exact HI0.out));(case side2=>repeat (first|(with_reducible first|exact HB.out|apply pa|apply pb|apply pd|refine pt ?_ (IsS127.ge HI0.out)|refine pt ?_ GE168.out)|exact HB.out));rintro e w5 ⟨rfl,hi,hb,hk⟩;refine ⟨_,rfl,?_⟩;replace BK168:=am (KeepBut.blk hk (g':=gb168) (o:=.cells #[.int .i64 0, .int .i64 0] 30 (0,0)) (yB BK168) NB168_0.out D44);replace HK:=am (KeepBut.trans D55 hk (.inl rfl));replace HB:=am (hb);replace HI0:=am (hi);clear hb hk hi)|((with_reducible refine gD 5 ?_);refine gB (cs:=#[.int .i64 0, .int .i64 0]) 30 ?_;intro gb173 hg w6 hbox hb;replace HB:=am (pu (by repeat (first|(with_reducible first|exact HB.out|apply pa|apply pb|apply pd|refine pt ?_ (IsS127.ge HI0.out)|refine pt ?_ GE168.out)|exact HB.out)) hb);have BK173:=am (hbox);have GW173:=am ((by rw [hg];exact (keep_size (w:=w0) (g:=g) (row:=none) D55):w0.heap.size≤gb173));have GE173:=am ((Nat.le_trans HW0.out (by rw [hg];exact (keep_size (w:=w0) (g:=g) (row:=none) D55):w0.heap.size≤gb173):w0.heap.size≤gb173));replace HK:=am (KeepBut.trans D55 (KeepBut.of_below hb g none) (.inl rfl));have NB168_173:=yl BK168 hg;have NB173_168:=yg BK168 hg;replace BK168:=yb BK168 hb;have NB0_173:=am ((by rw [hg];exact Nat.ne_of_lt (IsS127.lt (show IsS127 w0 _ g l0 t171 t172 from by repeat (first|(with_reducible first|exact HI0.out|apply IsS127.alloc|apply IsS127.drewN|apply IsS127.drew|apply IsS127.set_1|apply IsS127.set_2|refine IsS127.far ?_ NB0_168.out _)|exact HI0.out))):g ≠ gb173));have NB173_0:=am ((by rw [hg];exact Nat.ne_of_gt (IsS127.lt (show IsS127 w0 _ g l0 t171 t172 from by repeat (first|(with_reducible first|exact HI0.out|apply IsS127.alloc|apply IsS127.drewN|apply IsS127.drew|apply IsS127.set_1|apply IsS127.set_2|refine IsS127.far ?_ NB0_168.out _)|exact HI0.out))):gb173 ≠ g));replace HI0:=am (IsS127.below (by repeat (first|(with_reducible first|exact HI0.out|apply IsS127.alloc|apply IsS127.drewN|apply IsS127.drew|apply IsS127.set_1|apply IsS127.set_2|refine IsS127.far ?_ NB0_168.out _)|exact HI0.out)) hb);clear hb hbox hg;have hnb7:=NB173_168.out;have hnc7:=NB168_173.out;have hnb8:=NB173_0.out;have hnc8:=NB0_173.out;obtain ⟨hcz9_0,hcz9_1,hfz9_0,hfz9_1⟩:=yk2 BK173))
 (try simp only [Act.put,q1,q2,q3])
 go_cut [23] (fun v23 wc=>∃ (kq:Nat) (x23_2:Bool) (x1001_2:Int) (x1002_2:Int),v23 = .bool x23_2∧Aside0 (spec_DrawEncodeMsr.j0 kq (wrap64 (t170*(wrap64 (t170 - 1)))) x23_2 l0 x1001_2 x1002_2 t169 t170=some (r1,r2,r3,r4,r5))∧Aside0 (kq≤k)∧Aside0 (wc.heap[gb168]? = some (.cells #[.int .i64 0, .int .i64 0] 30 (0,0)))∧Aside0 (wc.heap[gb173]? = some (.cells #[.int .i64 t169, .int .i64 t170] 30 (0,0)))∧Aside0 (IsS127 w0 wc g l0 x1001_2 x1002_2)∧Aside0 (KeepBut w0 wc g none)∧Aside0 (Below w0.heap.size w0 wc))
 case first =>
  have H:=HC3.out
  clear HC3
  obtain ⟨⟨t174,t175,t176⟩,A10,H⟩:=yo H
  try dsimp only at H
  by_cases c11:t174=true
  ·subst c11
   replace H:=yt H
   have H':=am H
   clear H
   go_wp2_with (first|((with_reducible refine gC 101 ?_);refine gM (some 19) Try.func101 (args:=#[.pointer (some ⟨g,0,none⟩), .int .i64 12]) (spec_l1Cur_one.calls g l0 t171 t172 12 true t175 t176 w0 _ ?side1 ?side2 A10.out) ?_;(case side1=>repeat (first|(with_reducible first|exact HI0.out|apply IsS127.alloc|apply IsS127.drewN|apply IsS127.drew|apply IsS127.set_1|apply IsS127.set_2|refine IsS127.far ?_ NB0_168.out _|refine IsS127.far ?_ NB0_173.out _)|exact HI0.out));(case side2=>repeat (first|(with_reducible first|exact HB.out|apply pa|apply pb|apply pd|refine pt ?_ (IsS127.ge HI0.out)|refine pt ?_ GE168.out|refine pt ?_ GE173.out)|exact HB.out));rintro e w12 ⟨rfl,hi,hb,hk⟩;refine ⟨_,rfl,?_⟩;replace BK168:=am (KeepBut.blk hk (g':=gb168) (o:=.cells #[.int .i64 0, .int .i64 0] 30 (0,0)) (yF BK168) NB168_0.out D44);replace BK173:=am (KeepBut.blk hk (g':=gb173) (o:=.cells #[.int .i64 t169, .int .i64 t170] 30 (0,0)) D111 NB173_0.out D44);replace HK:=am (KeepBut.trans D17 hk (.inl rfl));replace HB:=am (hb);replace HI0:=am (hi);clear hb hk hi))
   go_meet
   case rel=>exact ⟨_,(true),(t175),(t176),D1,H',⟨D57⟩,⟨yB BK168⟩,⟨yB BK173⟩,⟨D39⟩,⟨D17⟩,⟨D42⟩⟩
  replace c11:=Bool.eq_false_iff.mpr c11
  subst c11
  replace H:=yn H
  have H':=am H
  clear H
  go_wp2_with (first|((with_reducible refine gC 101 ?_);refine gM (some 19) Try.func101 (args:=#[.pointer (some ⟨g,0,none⟩), .int .i64 12]) (spec_l1Cur_one.calls g l0 t171 t172 12 false t175 t176 w0 _ ?side1 ?side2 A10.out) ?_;(case side1=>repeat (first|(with_reducible first|exact HI0.out|apply IsS127.alloc|apply IsS127.drewN|apply IsS127.drew|apply IsS127.set_1|apply IsS127.set_2|refine IsS127.far ?_ NB0_168.out _|refine IsS127.far ?_ NB0_173.out _)|exact HI0.out));(case side2=>repeat (first|(with_reducible first|exact HB.out|apply pa|apply pb|apply pd|refine pt ?_ (IsS127.ge HI0.out)|refine pt ?_ GE168.out|refine pt ?_ GE173.out)|exact HB.out));rintro e w13 ⟨rfl,hi,hb,hk⟩;refine ⟨_,rfl,?_⟩;replace BK168:=am (KeepBut.blk hk (g':=gb168) (o:=.cells #[.int .i64 0, .int .i64 0] 30 (0,0)) (yF BK168) NB168_0.out D44);replace BK173:=am (KeepBut.blk hk (g':=gb173) (o:=.cells #[.int .i64 t169, .int .i64 t170] 30 (0,0)) D111 NB173_0.out D44);replace HK:=am (KeepBut.trans D17 hk (.inl rfl));replace HB:=am (hb);replace HI0:=am (hi);clear hb hk hi))
  go_meet
  case rel=>exact ⟨_,(decide ((wrap64 (t170*(wrap64 (t170 - 1)))) < 0)),(t175),(t176),D1,H',⟨D57⟩,⟨yB BK168⟩,⟨yB BK173⟩,⟨D39⟩,⟨D17⟩,⟨D42⟩⟩
 case rest =>
  clear HC3
  try clear c1
  try clear p2
  try clear c4
  try clear p6
  try clear c7
  try clear c8
  try clear c10
  try clear c11
  try clear hcz9_0
  try clear hcz9_1
  try clear hfz9_0
  try clear hfz9_1
  obtain ⟨kq,x23_2,x1001_2,x1002_2,rfl,HA,HJ2,BK168,BK173,HI0,HK,HB⟩:=hcut
  cases kq with
  | zero=>exact absurd HA.out (by simp [spec_DrawEncodeMsr.j0])
  | succ kj2 =>
   have H:=HA.out
   clear HA
   simp only [spec_DrawEncodeMsr.j0] at H
   have HC14:=am H
   clear H
   go_upto_if 23 with (fail)
   go_cut [6] (fun v6 wc=>∃ (kq:Nat) (x6_13:Int) (x1001_13:Int) (x1002_13:Int),v6 = .int .i64 x6_13∧Aside0 (spec_DrawEncodeMsr.j1 kq x6_13 l0 x1001_13 x1002_13 t169 t170=some (r1,r2,r3,r4,r5))∧Aside0 (kq≤kj2)∧Aside0 (wc.heap[gb168]? = some (.cells #[.int .i64 0, .int .i64 0] 30 (0,0)))∧Aside0 (wc.heap[gb173]? = some (.cells #[.int .i64 t169, .int .i64 t170] 30 (0,0)))∧Aside0 (IsS127 w0 wc g l0 x1001_13 x1002_13)∧Aside0 (KeepBut w0 wc g none)∧Aside0 (Below w0.heap.size w0 wc))
   case first =>
    have H:=HC14.out
    clear HC14
    by_cases c15:x23_2=true
    ·subst c15
     replace H:=yt H
     obtain ⟨⟨t177,t178,t179⟩,A16,H⟩:=yo H
     try dsimp only at H
     have H':=am H
     clear H
     go_wp2_with (first|((with_reducible refine gC 95 ?_);refine gM (some 25) Try.func95 (args:=#[.pointer (some ⟨g,0,none⟩), .int .i64 9]) (spec_l1Cur_pick.calls g l0 x1001_2 x1002_2 9 t177 t178 t179 w0 _ ?side1 ?side2 A16.out) ?_;(case side1=>repeat (first|(with_reducible first|exact HI0.out|apply IsS127.alloc|apply IsS127.drewN|apply IsS127.drew|apply IsS127.set_1|apply IsS127.set_2|refine IsS127.far ?_ NB0_168.out _|refine IsS127.far ?_ NB0_173.out _)|exact HI0.out));(case side2=>repeat (first|(with_reducible first|exact HB.out|apply pa|apply pb|apply pd|refine pt ?_ (IsS127.ge HI0.out)|refine pt ?_ GE168.out|refine pt ?_ GE173.out)|exact HB.out));rintro e w17 ⟨rfl,hi,hb,hk⟩;refine ⟨_,rfl,?_⟩;replace BK168:=am (KeepBut.blk hk (g':=gb168) (o:=.cells #[.int .i64 0, .int .i64 0] 30 (0,0)) (yB BK168) NB168_0.out D44);replace BK173:=am (KeepBut.blk hk (g':=gb173) (o:=.cells #[.int .i64 t169, .int .i64 t170] 30 (0,0)) (yB BK173) NB173_0.out D44);replace HK:=am (KeepBut.trans D17 hk (.inl rfl));replace HB:=am (hb);replace HI0:=am (hi);clear hb hk hi))
     go_meet
     case rel=>exact ⟨_,(t177),(t178),(t179),D1,H',⟨by have:=HJ2.out;first|omega|exact Nat.le_refl _⟩,⟨yB BK168⟩,⟨yB BK173⟩,⟨D39⟩,⟨D17⟩,⟨D42⟩⟩
    replace c15:=Bool.eq_false_iff.mpr c15
    subst c15
    replace H:=yn H
    have H':=am H
    clear H
    go_wp2
    go_meet
    case rel=>exact ⟨_,((wrap64 (t170*(wrap64 (t170 - 1))))),(x1001_2),(x1002_2),D1,H',⟨by have:=HJ2.out;first|omega|exact Nat.le_refl _⟩,⟨yB BK168⟩,⟨yB BK173⟩,⟨D39⟩,⟨D17⟩,⟨D42⟩⟩
   case rest =>
    clear HC14
    try clear c1
    try clear p2
    try clear c4
    try clear p6
    try clear c7
    try clear c8
    try clear c9
    try clear c10
    try clear c11
    try clear c15
    try clear hcz9_0
    try clear hcz9_1
    try clear hfz9_0
    try clear hfz9_1
    try clear p2
    try clear p6
    obtain ⟨kq,x6_13,x1001_13,x1002_13,rfl,HA,HJ13,BK168,BK173,HI0,HK,HB⟩:=hcut
    cases kq with
    | zero=>exact absurd HA.out (by simp [spec_DrawEncodeMsr.j1])
    | succ kj13 =>
     have H:=HA.out
     clear HA
     simp only [spec_DrawEncodeMsr.j1] at H
     obtain ⟨⟨t180,t183,t184⟩,A18,H⟩:=yo H
     try dsimp only at H
     simp only [Option.some.injEq,Prod.mk.injEq] at H
     obtain ⟨rfl,rfl,rfl,rfl,rfl⟩:=H
     try go_wp2
     replace BK168:=am (qd BK168.out)
     replace BK173:=am (qd BK173.out)
     replace HI0:=am (IsS127.drew HI0.out)
     replace HK:=am (keep_drew HK.out)
     replace HB:=am (pd HB.out)
     refine rS0 (n:=6) (S:=fun w'=>w'.cell? ⟨gb173,0,none⟩=some (.int .i64 t169)∧w'.cell? ⟨gb173,1,none⟩=some (.int .i64 t170)) (ds:=[]) [(1,27),(2,28),(0,26),(3,0),(4,0),(5,3)] D2 rfl ⟨yk BK173 0,yk BK173 1⟩ (fun hHeld HT_ HW_=>?_)
     generalize wc.drew=w19 at BK168 BK173 HI0 HK HB hHeld ⊢
     refine rR ?_
     refine rO (N:=some 29) HT_ rfl rfl D2 D5 (fun K hK=>?_)
     refine goes_ Try.func102 D2 rfl #[.pointer (some ⟨g,0,none⟩), .int .i64 x6_13] D16 rfl rfl D8 ?_
     with_reducible refine (spec_l1Cur_vector.calls kj13 g l0 x1001_13 x1002_13 x6_13 t180 t183 t184 w0 _ ?side1 ?side2 A18.out).mono ?_
     (case side1=>repeat (first|(with_reducible first|exact HI0.out|apply IsS127.alloc|apply IsS127.drewN|apply IsS127.drew|apply IsS127.set_1|apply IsS127.set_2|refine IsS127.far ?_ NB0_168.out _|refine IsS127.far ?_ NB0_173.out _)|exact HI0.out))
     (case side2=>repeat (first|(with_reducible first|exact HB.out|apply pa|apply pb|apply pd|refine pt ?_ (IsS127.ge HI0.out)|refine pt ?_ GE168.out|refine pt ?_ GE173.out)|exact HB.out))
     rintro e w20 ⟨v181,rfl,ho0,hi,hb,hk⟩
     refine ⟨_,rfl,?_⟩
     replace BK168:=am (KeepBut.blk hk (g':=gb168) (o:=.cells #[.int .i64 0, .int .i64 0] 30 (0,0)) (yB BK168) NB168_0.out D44)
     replace BK173:=am (KeepBut.blk hk (g':=gb173) (o:=.cells #[.int .i64 t169, .int .i64 t170] 30 (0,0)) (yB BK173) NB173_0.out D44)
     have HO182:=am (Kd.R_lower ho0 (keep_size (w:=w0) (g:=g) (row:=none) D17))
     replace HK:=am (KeepBut.trans D17 hk (.inl rfl))
     replace HB:=am (hb)
     replace HI0:=am (hi)
     (try clear hb)
     (try clear hb2)
     (try clear hk)
     (try clear hi)
     (try clear ho0)
     refine hK.out _ _ ⟨yk BK173 0,yk BK173 1⟩ (fun hHeld=>?_)
     clear hK K
     refine rN (nA 29) ?_
     refine rO (N:=none) HT_ rfl rfl D2 D5 (fun K hK=>?_)
     have hs21:w20.cell? ⟨gb168,0,none⟩=some (.int .i64 0):=(blk_cell BK168.out 0).trans rfl
     have hfs21:=blk_frozen BK168.out 0
     have hns21_1:=NB173_168.out
     have hms21_1:=NB168_173.out
     have hs22:w20.cell? ⟨gb168,1,none⟩=some (.int .i64 0):=(blk_cell BK168.out 1).trans rfl
     have hfs22:=blk_frozen BK168.out 1
     have hns22_1:=NB173_168.out
     have hms22_1:=NB168_173.out
     refine skip_ (w1:=?_) D16 rfl ?_ ?_
     rotate_left
     ·go_simp
      rfl
     refine hK.out _ _ ⟨((cell_far (p:=⟨gb168,_,none⟩) NB173_168.out _).trans (((cell_far (p:=⟨gb168,_,none⟩) NB173_168.out _).trans (hHeld.1)))),((cell_far (p:=⟨gb168,_,none⟩) NB173_168.out _).trans (((cell_far (p:=⟨gb168,_,none⟩) NB173_168.out _).trans (hHeld.2))))⟩ (fun hHeld=>?_)
     clear hK K
     refine rR ?_
     refine rD HT_ D2 ?_
     try go_wp2
     refine bodyPost_ret (results_ct rfl _ _ gb168 30 #[.int .i64 t169, .int .i64 t170] (0,0) _ rfl (by refine sB ?_;refine blk_put (cs:=#[.int .i64 t169, .int .i64 0]) ?_ 1 _ rfl;refine sB ?_;refine blk_put (cs:=#[.int .i64 0, .int .i64 0]) ?_ 0 _ rfl;exact yB BK168) Try.underlying30 rfl D2) rfl ?_
     exact ⟨_,D3,by refine sR ?_;exact Kd.R_mono (Kd.R_far (p:=⟨gb168,1,none⟩) (Kd.R_far (p:=⟨gb168,0,none⟩) (Kd.R_types HO182.out BK168.out D5) (fun _ hk=>hk.2) (.int .i64 t169)) (fun _ hk=>hk.2) (.int .i64 t170)) (fun _ hk=>trivial),D42⟩

def laws_sameBytes.f (l0:List Int) (l1:List Int):Option (Bool):=some ((strOfNums l0).toList == (strOfNums l1).toList)
theorem laws_sameBytes.calls (A0:Option Addr) (c0:Nat) (l0:List Int) (A1:Option Addr) (c1:Nat) (l1:List Int) (r:Bool) (w:World) (hr0:Kd.C (Kd.int .u8) w A0 l0.length l0) (hc0:l0.length≤c0) (hr1:Kd.C (Kd.int .u8) w A1 l1.length l1) (hc1:l1.length≤c1) (h:laws_sameBytes.f l0 l1=some r) :
  Calls Try.prog 49 #[.slice A0 l0.length c0, .slice A1 l1.length c1] w fun e w'=>e = .returned (.bool r)∧Drawn0 w w':=by
 have HR0:=am hr0
 have HC0:=am hc0
 clear hr0 hc0
 have HR1:=am hr1
 have HC1:=am hc1
 clear hr1 hc1
 have H:=h
 unfold laws_sameBytes.f at H
 clear h
 obtain rfl:=Option.some.inj H
 have hcv3:=Kd.C_string (P:=Try.prog) (A:=A0) (c:=c0) Try.underlying24 Try.underlying5 Try.underlying9 HR0.out
 have hcv4:=Kd.C_string (P:=Try.prog) (A:=A1) (c:=c1) Try.underlying24 Try.underlying5 Try.underlying9 HR1.out
 go_enter Try.func49,Try.ntmps49
 go_wp2
 go_ret
 exact ⟨D1,D15⟩

def impl_Msr_isPiece.f (a0_0:Int) (a0_1:Int) (a1_0:Int) (l1_1:List Int):Option (Bool):=(impl_within.f a1_0 0 (wrap64 (a0_0 - 1))).bind fun t347=>(if t347=true then ((impl_Msr_alpha.f a0_0 a0_1).bind fun t348=>(some ((l1_1.length:Int) == t348))) else (some false))
def impl_Msr_isPiece.T1:Bool × List (List Nat × List Nat):=(true,[([],[]),([0],[0]),([],[]),([2],[2]),([3],[3]),([1,4],[1,4]),([5,5],[5]),([6],[6]),([7,6],[6,7]),([8,6],[6,8]),([6],[6]),([10,6,6],[6,10]),([9,11,6],[6,9,11]),([6,12],[6,12]),([13,11,0,1,2,3,4,5,6,7,8,9,10,11,12,13],[13])])
def impl_Msr_isPiece.B1:List Nat:=[0,1,0,4,12,31,63,127,255,511,127,1151,4095,8191,16383]
theorem impl_Msr_isPiece.tab1:rtab .any (opsOf Try.f107 1)=impl_Msr_isPiece.T1:=by kernel_rfl
theorem impl_Msr_isPiece.bits1:waitsOk impl_Msr_isPiece.T1.2 impl_Msr_isPiece.B1=true:=by kernel_rfl
theorem impl_Msr_isPiece.calls (a0_0:Int) (a0_1:Int) (a1_0:Int) (A1_1:Option Addr) (c1_1:Nat) (l1_1:List Int) (r:Bool) (w:World) (hr1_1:Kd.C (Kd.int .u8) w A1_1 l1_1.length l1_1) (hc1_1:l1_1.length≤c1_1) (h:impl_Msr_isPiece.f a0_0 a0_1 a1_0 l1_1=some r) :
  Calls Try.prog 107 #[.agg #[.int .i64 a0_0, .int .i64 a0_1], .agg #[.int .i64 a1_0, .slice A1_1 l1_1.length c1_1]] w fun e w'=>e = .returned (.bool r)∧Below w.heap.size w w':=by
 have hu30:=Try.underlying30
 have hu76:=Try.underlying76
 have HR1_1:=am hr1_1
 have HC1_1:=am hc1_1
 clear hr1_1 hc1_1
 have HB:=am (Below.refl w.heap.size w)
 have H:=h
 unfold impl_Msr_isPiece.f at H
 clear h
 obtain ⟨t347,A3,H⟩:=yo H
 by_cases c4:t347=true
 ·subst c4
  replace H:=yt H
  obtain ⟨t348,A5,H⟩:=yo H
  obtain rfl:=Option.some.inj H
  go_enter Try.func107,Try.ntmps107
  try go_wp2_with (first|((with_reducible refine gD 2 ?_);(try (refine gate_guard D16 ?_;dsimp only));refine gB (cs:=#[.int .i64 a0_0, .int .i64 a0_1]) 30 ?_;intro gb345 hg w6 hbox hb;have BK345:=am (hbox);have GW345:=ye HB hg;replace HB:=yH HB hb;have GE345:=GW345;clear hb hbox hg)|((with_reducible refine gD 3 ?_);(try (refine gate_guard D16 ?_;dsimp only));refine gB (cs:=#[.int .i64 a1_0, .slice A1_1 l1_1.length c1_1]) 76 ?_;intro gb346 hg w7 hbox hb;have BK346:=am (hbox);have GW346:=ye HB hg;replace HB:=yH HB hb;have NB345_346:=yl BK345 hg;have NB346_345:=yg BK345 hg;replace BK345:=yb BK345 hb;have GE346:=GW346;clear hb hbox hg))
  replace BK345:=am (qd BK345.out)
  replace BK346:=am (qd BK346.out)
  replace HB:=am (pd HB.out)
  refine rS (n:=15) (S:=fun w'=>w'.cell? ⟨gb346,0,none⟩=some (.int .i64 a1_0)∧w'.cell? ⟨gb346,1,none⟩=some (.slice A1_1 l1_1.length c1_1)∧w'.cell? ⟨gb345,0,none⟩=some (.int .i64 a0_0)∧w'.cell? ⟨gb345,1,none⟩=some (.int .i64 a0_1)) (ds:=[]) [(0,5),(2,7),(1,6),(3,8),(4,9),(5,0),(6,11),(7,12),(8,13),(9,14),(10,15),(11,0),(12,17),(13,18),(14,4)] D2 rfl impl_Msr_isPiece.tab1 impl_Msr_isPiece.bits1 ⟨yk BK346 0,yk BK346 1,yk BK345 0,yk BK345 1⟩ (fun hHeld HT_ HW_=>?_)
  generalize w7.drew=w8 at BK345 BK346 HB hHeld ⊢
  refine rR ?_
  refine rO (N:=some 10) HT_ rfl rfl D2 D5 (fun K hK=>?_)
  refine goes_ Try.func104 D2 rfl #[.int .i64 a1_0, .int .i64 0, .int .i64 (wrap64 (a0_0 - 1))] D16 rfl rfl D8 ?_
  with_reducible refine (impl_within.calls a1_0 0 (wrap64 (a0_0 - 1)) true _ A3.out).mono ?_
  rintro e w' ⟨rfl,⟨nd,rfl⟩⟩
  refine ⟨_,rfl,?_⟩
  refine hK.out _ _ ⟨yk BK346 0,yk BK346 1,yk BK345 0,yk BK345 1⟩ (fun hHeld=>?_)
  clear hK K
  refine rN (nA 10) ?_
  refine rR ?_
  refine rO (N:=some 16) HT_ rfl rfl D2 D5 (fun K hK=>?_)
  refine goes_ Try.func103 D2 rfl #[.agg #[.int .i64 a0_0, .int .i64 a0_1]] D16 rfl rfl D8 ?_
  with_reducible refine (impl_Msr_alpha.calls a0_0 a0_1 t348 _ A5.out).mono ?_
  rintro e w9 ⟨rfl,hb⟩
  refine ⟨_,rfl,?_⟩
  replace BK345:=yb BK345 hb
  replace BK346:=yb BK346 hb
  replace HB:=yH HB hb
  (try clear hb)
  (try clear hb2)
  (try clear hk)
  (try clear hi)
  refine hK.out _ _ ⟨yk BK346 0,yk BK346 1,yk BK345 0,yk BK345 1⟩ (fun hHeld=>?_)
  clear hK K
  refine rN (nA 16) ?_
  refine rR ?_
  refine rD HT_ D2 ?_
  try go_wp2
  go_ret
  exact ⟨D3,yW HB⟩
 replace c4:=Bool.eq_false_iff.mpr c4
 subst c4
 replace H:=yn H
 obtain rfl:=Option.some.inj H
 go_enter Try.func107,Try.ntmps107
 try go_wp2_with (first|((with_reducible refine gD 2 ?_);(try (refine gate_guard D16 ?_;dsimp only));refine gB (cs:=#[.int .i64 a0_0, .int .i64 a0_1]) 30 ?_;intro gb345 hg w10 hbox hb;have BK345:=am (hbox);have GW345:=ye HB hg;replace HB:=yH HB hb;have GE345:=GW345;clear hb hbox hg)|((with_reducible refine gD 3 ?_);(try (refine gate_guard D16 ?_;dsimp only));refine gB (cs:=#[.int .i64 a1_0, .slice A1_1 l1_1.length c1_1]) 76 ?_;intro gb346 hg w11 hbox hb;have BK346:=am (hbox);have GW346:=ye HB hg;replace HB:=yH HB hb;have NB345_346:=yl BK345 hg;have NB346_345:=yg BK345 hg;replace BK345:=yb BK345 hb;have GE346:=GW346;clear hb hbox hg))
 replace BK345:=am (qd BK345.out)
 replace BK346:=am (qd BK346.out)
 replace HB:=am (pd HB.out)
 refine rS (n:=15) (S:=fun w'=>w'.cell? ⟨gb346,0,none⟩=some (.int .i64 a1_0)∧w'.cell? ⟨gb346,1,none⟩=some (.slice A1_1 l1_1.length c1_1)∧w'.cell? ⟨gb345,0,none⟩=some (.int .i64 a0_0)∧w'.cell? ⟨gb345,1,none⟩=some (.int .i64 a0_1)) (ds:=[]) [(0,5),(2,7),(1,6),(3,8),(4,9),(5,0),(6,11),(7,12),(8,13),(9,14),(10,15),(11,16),(12,17),(13,18),(14,4)] D2 rfl impl_Msr_isPiece.tab1 impl_Msr_isPiece.bits1 ⟨yk BK346 0,yk BK346 1,yk BK345 0,yk BK345 1⟩ (fun hHeld HT_ HW_=>?_)
 generalize w11.drew=w12 at BK345 BK346 HB hHeld ⊢
 refine rR ?_
 refine rO (N:=some 10) HT_ rfl rfl D2 D5 (fun K hK=>?_)
 refine goes_ Try.func104 D2 rfl #[.int .i64 a1_0, .int .i64 0, .int .i64 (wrap64 (a0_0 - 1))] D16 rfl rfl D8 ?_
 with_reducible refine (impl_within.calls a1_0 0 (wrap64 (a0_0 - 1)) false _ A3.out).mono ?_
 rintro e w' ⟨rfl,⟨nd,rfl⟩⟩
 refine ⟨_,rfl,?_⟩
 refine hK.out _ _ ⟨yk BK346 0,yk BK346 1,yk BK345 0,yk BK345 1⟩ (fun hHeld=>?_)
 clear hK K
 refine rN (nA 10) ?_
 refine rR ?_
 refine rD HT_ D2 ?_
 try go_wp2
 go_ret
 exact ⟨D3,yW HB⟩

def impl_Msr_isNode.f (a0_0:Int) (a0_1:Int) (a1:Int):Option (Bool):=(impl_GoodMsr.f a0_0 a0_1).bind fun t350=>(if t350=true then ((impl_within.f a1 0 (wrap64 (a0_0 - 1))).bind fun t351=>(some t351)) else (some false))
theorem impl_Msr_isNode.calls (a0_0:Int) (a0_1:Int) (a1:Int) (r:Bool) (w:World) (h:impl_Msr_isNode.f a0_0 a0_1 a1=some r) :
  Calls Try.prog 110 #[.agg #[.int .i64 a0_0, .int .i64 a0_1], .int .i64 a1] w fun e w'=>e = .returned (.bool r)∧Below w.heap.size w w':=by
 have hu30:=Try.underlying30
 have HB:=am (Below.refl w.heap.size w)
 have H:=h
 unfold impl_Msr_isNode.f at H
 clear h
 obtain ⟨t350,A3,H⟩:=yo H
 by_cases c4:t350=true
 ·subst c4
  replace H:=yt H
  obtain ⟨t351,A5,H⟩:=yo H
  obtain rfl:=Option.some.inj H
  go_enter Try.func110,Try.ntmps110
  go_wp2_with (first|((with_reducible refine gD 2 ?_);refine gB (cs:=#[.int .i64 a0_0, .int .i64 a0_1]) 30 ?_;intro gb349 hg w6 hbox hb;have BK349:=am (hbox);have GW349:=ye HB hg;replace HB:=yH HB hb;have GE349:=GW349;clear hb hbox hg;obtain ⟨hcz7_0,hcz7_1,hfz7_0,hfz7_1⟩:=yk2 BK349)|((with_reducible refine gC 46 ?_);refine gM (some 6) Try.func46 (args:=#[.agg #[.int .i64 a0_0, .int .i64 a0_1]]) (impl_GoodMsr.calls a0_0 a0_1 true _ A3.out) ?_;rintro e w8 ⟨rfl,hb⟩;refine ⟨_,rfl,?_⟩;replace BK349:=yb BK349 hb;replace HB:=yH HB hb;clear hb;obtain ⟨hcz9_0,hcz9_1,hfz9_0,hfz9_1⟩:=yk2 BK349)|(go_at_call 104;(with_reducible refine (impl_within.calls a1 0 (wrap64 (a0_0 - 1)) t351 _ A5.out).mono ?_);rintro e w' ⟨rfl,⟨nd,rfl⟩⟩))
  go_ret
  exact ⟨D3,yW HB⟩
 replace c4:=Bool.eq_false_iff.mpr c4
 subst c4
 replace H:=yn H
 obtain rfl:=Option.some.inj H
 go_enter Try.func110,Try.ntmps110
 go_wp2_with (first|((with_reducible refine gD 2 ?_);refine gB (cs:=#[.int .i64 a0_0, .int .i64 a0_1]) 30 ?_;intro gb349 hg w10 hbox hb;have BK349:=am (hbox);have GW349:=ye HB hg;replace HB:=yH HB hb;have GE349:=GW349;clear hb hbox hg;obtain ⟨hcz11_0,hcz11_1,hfz11_0,hfz11_1⟩:=yk2 BK349)|((with_reducible refine gC 46 ?_);refine gM (some 6) Try.func46 (args:=#[.agg #[.int .i64 a0_0, .int .i64 a0_1]]) (impl_GoodMsr.calls a0_0 a0_1 false _ A3.out) ?_;rintro e w12 ⟨rfl,hb⟩;refine ⟨_,rfl,?_⟩;replace BK349:=yb BK349 hb;replace HB:=yH HB hb;clear hb))
 go_ret
 exact ⟨D3,yW HB⟩
def impl_HelpFor.j0:Nat→Int→Bool→Int→Int→Int→List Int→Option (Int × Int × Bool)
 | 0,_,_,_,_,_,_=>none
 | k+1,x2,x25,x353000,x353001,x354000,x354001=>if x25=true then (some (0,0,false)) else ((impl_Msr_powers.f k x353000 x353001 x2).bind fun bt357=>((impl_dot.f k x354001 bt357.1).bind fun t361=>(some (x354000,t361,true))))
def impl_HelpFor.f (k:Nat) (a0_0:Int) (a0_1:Int) (a1_0:Int) (l1_1:List Int) (a2:Int):Option (Int × Int × Bool):=(impl_Msr_isNode.f a0_0 a0_1 a2).bind fun t355=>(if t355=true then ((impl_Msr_isPiece.f a0_0 a0_1 a1_0 l1_1).bind fun t356=>(if t356=true then (impl_HelpFor.j0 k a2 (a1_0 == a2) a0_0 a0_1 a1_0 l1_1) else (impl_HelpFor.j0 k a2 true a0_0 a0_1 a1_0 l1_1))) else (impl_HelpFor.j0 k a2 true a0_0 a0_1 a1_0 l1_1))
theorem impl_HelpFor.mono_l:∀ k,(∀ y0 y1 y2 y3 y4 y5,LeO (impl_HelpFor.j0 k y0 y1 y2 y3 y4 y5) (impl_HelpFor.j0 (k+1) y0 y1 y2 y3 y4 y5))
 | 0=>fun _ _ _ _ _ _ r h=>by simp [impl_HelpFor.j0] at h
 | k+1=>by
  have ih0:=impl_HelpFor.mono_l k
  intro y0 y1 y2 y3 y4 y5
  unfold impl_HelpFor.j0
  exact mm
theorem impl_HelpFor.mono:∀ a0 a1 a2 a3 a4 k,LeO (impl_HelpFor.f k a0 a1 a2 a3 a4) (impl_HelpFor.f (k+1) a0 a1 a2 a3 a4):=by
 intro a0 a1 a2 a3 a4 k
 have ih0:=impl_HelpFor.mono_l k
 unfold impl_HelpFor.f
 exact mm
def impl_HelpFor.T4:Bool × List (List Nat × List Nat):=(true,[([],[]),([0],[0]),([],[]),([2],[2]),([],[]),([3,4],[3,4]),([1,5],[1,5]),([6,5,0,1,2,3,4,5,6],[6]),([7,0,1,2,3,4,5,6,7],[])])
def impl_HelpFor.B4:List Nat:=[0,1,0,4,0,28,63,127,255]
theorem impl_HelpFor.tab4:rtab .any (opsOf Try.f54 4)=impl_HelpFor.T4:=by kernel_rfl
theorem impl_HelpFor.bits4:waitsOk impl_HelpFor.T4.2 impl_HelpFor.B4=true:=by kernel_rfl
theorem impl_HelpFor.calls (k:Nat) (a0_0:Int) (a0_1:Int) (a1_0:Int) (A1_1:Option Addr) (c1_1:Nat) (l1_1:List Int) (a2:Int) (r1:Int) (r2:Int) (r3:Bool) (w:World) (hr1_1:Kd.C (Kd.int .u8) w A1_1 l1_1.length l1_1) (hc1_1:l1_1.length≤c1_1) (h:impl_HelpFor.f k a0_0 a0_1 a1_0 l1_1 a2=some (r1,r2,r3)) :
  Calls Try.prog 54 #[.agg #[.int .i64 a0_0, .int .i64 a0_1], .agg #[.int .i64 a1_0, .slice A1_1 l1_1.length c1_1], .int .i64 a2] w fun e w'=>e = .returned (.tuple #[.agg #[.int .i64 r1, .int .u8 r2], .bool r3])∧Below w.heap.size w w':=by
 have hu30:=Try.underlying30
 have hu76:=Try.underlying76
 have hu85:=Try.underlying85
 have HR1_1:=am hr1_1
 have HC1_1:=am hc1_1
 clear hr1_1 hc1_1
 have HB:=am (Below.refl w.heap.size w)
 have H:=h
 unfold impl_HelpFor.f at H
 clear h
 have HC4:=am H
 clear H
 go_enter Try.func54,Try.ntmps54
 go_upto_region 1 with (first|((with_reducible refine gD 3 ?_);refine gB (cs:=#[.int .i64 a0_0, .int .i64 a0_1]) 30 ?_;intro gb352 hg w5 hbox hb;have BK352:=am (hbox);have GW352:=ye HB hg;replace HB:=yH HB hb;have GE352:=GW352;clear hb hbox hg)|((with_reducible refine gD 4 ?_);refine gB (cs:=#[.int .i64 a1_0, .slice A1_1 l1_1.length c1_1]) 76 ?_;intro gb353 hg w6 hbox hb;have BK353:=am (hbox);have GW353:=ye HB hg;replace HB:=yH HB hb;have NB352_353:=yl BK352 hg;have NB353_352:=yg BK352 hg;replace BK352:=yb BK352 hb;have GE353:=GW353;clear hb hbox hg)|((with_reducible refine gD 6 ?_);refine gB (cs:=#[.int .i64 0, .int .u8 0]) 85 ?_;intro gb354 hg w7 hbox hb;have BK354:=am (hbox);have GW354:=ye HB hg;replace HB:=yH HB hb;have NB352_354:=yl BK352 hg;have NB354_352:=yg BK352 hg;replace BK352:=yb BK352 hb;have NB353_354:=yl BK353 hg;have NB354_353:=yg BK353 hg;replace BK353:=yb BK353 hb;have GE354:=GW354;clear hb hbox hg))
 (try simp only [Act.put,q1,q2,q3])
 go_cut [25] (fun v25 wc=>∃ (kq:Nat) (x25_3:Bool),v25 = .bool x25_3∧Aside0 (impl_HelpFor.j0 kq a2 x25_3 a0_0 a0_1 a1_0 l1_1=some (r1,r2,r3))∧Aside0 (kq≤k)∧Aside0 (wc.heap[gb352]? = some (.cells #[.int .i64 a0_0, .int .i64 a0_1] 30 (0,0)))∧Aside0 (wc.heap[gb353]? = some (.cells #[.int .i64 a1_0,(.slice A1_1 l1_1.length c1_1)] 76 (0,0)))∧Aside0 (wc.heap[gb354]? = some (.cells #[.int .i64 0, .int .u8 0] 85 (0,0)))∧Aside0 (Below w.heap.size w wc))
 case first =>
  have H:=HC4.out
  clear HC4
  obtain ⟨t355,A8,H⟩:=yo H
  by_cases c9:t355=true
  ·subst c9
   replace H:=yt H
   obtain ⟨t356,A10,H⟩:=yo H
   by_cases c11:t356=true
   ·subst c11
    replace H:=yt H
    have H':=am H
    clear H
    have hnb12:=NB352_353.out
    have hnc12:=NB353_352.out
    have hnb13:=NB352_354.out
    have hnc13:=NB354_352.out
    obtain ⟨hcz14_0,hcz14_1,hfz14_0,hfz14_1⟩:=yk2 BK352
    go_wp2_with (first|((with_reducible refine gC 110 ?_);refine gM (some 12) Try.func110 (args:=#[.agg #[.int .i64 a0_0, .int .i64 a0_1], .int .i64 a2]) (impl_Msr_isNode.calls a0_0 a0_1 a2 true _ A8.out) ?_;rintro e w15 ⟨rfl,hb⟩;refine ⟨_,rfl,?_⟩;replace BK352:=yb BK352 hb;replace BK353:=yb BK353 hb;replace BK354:=yb BK354 hb;replace HB:=yH HB hb;clear hb;obtain ⟨hcz16_0,hcz16_1,hfz16_0,hfz16_1⟩:=yk2 BK352;have hnb17:=NB353_354.out;have hnc17:=NB354_353.out;obtain ⟨hcz18_0,hcz18_1,hfz18_0,hfz18_1⟩:=yk2 BK353)|(go_at_call 107;(with_reducible refine (impl_Msr_isPiece.calls a0_0 a0_1 a1_0 _ _ l1_1 true _ (yc (Kd.C_below HR1_1.out HB.out)) HC1_1.out A10.out).mono ?_);rintro e w19 ⟨rfl,hb⟩;replace BK352:=yb BK352 hb;replace BK353:=yb BK353 hb;replace BK354:=yb BK354 hb;replace HB:=yH HB hb;clear hb;obtain ⟨hcz20_0,hcz20_1,hfz20_0,hfz20_1⟩:=yk2 BK353))
    go_meet
    case rel=>exact ⟨_,((a1_0 == a2)),D1,H',⟨D57⟩,⟨yB BK352⟩,⟨yB BK353⟩,⟨yB BK354⟩,⟨yW HB⟩⟩
   replace c11:=Bool.eq_false_iff.mpr c11
   subst c11
   replace H:=yn H
   have H':=am H
   clear H
   have hnb21:=NB352_353.out
   have hnc21:=NB353_352.out
   have hnb22:=NB352_354.out
   have hnc22:=NB354_352.out
   obtain ⟨hcz23_0,hcz23_1,hfz23_0,hfz23_1⟩:=yk2 BK352
   go_wp2_with (first|((with_reducible refine gC 110 ?_);refine gM (some 12) Try.func110 (args:=#[.agg #[.int .i64 a0_0, .int .i64 a0_1], .int .i64 a2]) (impl_Msr_isNode.calls a0_0 a0_1 a2 true _ A8.out) ?_;rintro e w24 ⟨rfl,hb⟩;refine ⟨_,rfl,?_⟩;replace BK352:=yb BK352 hb;replace BK353:=yb BK353 hb;replace BK354:=yb BK354 hb;replace HB:=yH HB hb;clear hb;obtain ⟨hcz25_0,hcz25_1,hfz25_0,hfz25_1⟩:=yk2 BK352;have hnb26:=NB353_354.out;have hnc26:=NB354_353.out;obtain ⟨hcz27_0,hcz27_1,hfz27_0,hfz27_1⟩:=yk2 BK353)|(go_at_call 107;(with_reducible refine (impl_Msr_isPiece.calls a0_0 a0_1 a1_0 _ _ l1_1 false _ (yc (Kd.C_below HR1_1.out HB.out)) HC1_1.out A10.out).mono ?_);rintro e w28 ⟨rfl,hb⟩;replace BK352:=yb BK352 hb;replace BK353:=yb BK353 hb;replace BK354:=yb BK354 hb;replace HB:=yH HB hb;clear hb))
   go_meet
   case rel=>exact ⟨_,(true),D1,H',⟨D57⟩,⟨yB BK352⟩,⟨yB BK353⟩,⟨yB BK354⟩,⟨yW HB⟩⟩
  replace c9:=Bool.eq_false_iff.mpr c9
  subst c9
  replace H:=yn H
  have H':=am H
  clear H
  have hnb29:=NB352_353.out
  have hnc29:=NB353_352.out
  have hnb30:=NB352_354.out
  have hnc30:=NB354_352.out
  obtain ⟨hcz31_0,hcz31_1,hfz31_0,hfz31_1⟩:=yk2 BK352
  go_wp2_with (first|((with_reducible refine gC 110 ?_);refine gM (some 12) Try.func110 (args:=#[.agg #[.int .i64 a0_0, .int .i64 a0_1], .int .i64 a2]) (impl_Msr_isNode.calls a0_0 a0_1 a2 false _ A8.out) ?_;rintro e w32 ⟨rfl,hb⟩;refine ⟨_,rfl,?_⟩;replace BK352:=yb BK352 hb;replace BK353:=yb BK353 hb;replace BK354:=yb BK354 hb;replace HB:=yH HB hb;clear hb))
  go_meet
  case rel=>exact ⟨_,(true),D1,H',⟨D57⟩,⟨yB BK352⟩,⟨yB BK353⟩,⟨yB BK354⟩,⟨yW HB⟩⟩
 case rest =>
  clear HC4
  try clear c1
  try clear c2
  try clear p2
  try clear c3
  try clear c5
  try clear c9
  try clear c11
  try clear c12
  try clear c13
  try clear c17
  try clear c21
  try clear c22
  try clear c26
  try clear c29
  try clear c30
  try clear hcz14_0
  try clear hcz14_1
  try clear hcz16_0
  try clear hcz16_1
  try clear hcz18_0
  try clear hcz18_1
  try clear hcz20_0
  try clear hcz20_1
  try clear hcz23_0
  try clear hcz23_1
  try clear hcz25_0
  try clear hcz25_1
  try clear hcz27_0
  try clear hcz27_1
  try clear hcz31_0
  try clear hcz31_1
  try clear hfz14_0
  try clear hfz14_1
  try clear hfz16_0
  try clear hfz16_1
  try clear hfz18_0
  try clear hfz18_1
  try clear hfz20_0
  try clear hfz20_1
  try clear hfz23_0
  try clear hfz23_1
  try clear hfz25_0
  try clear hfz25_1
  try clear hfz27_0
  try clear hfz27_1
  try clear hfz31_0
  try clear hfz31_1
  obtain ⟨kq,x25_3,rfl,HA,HJ3,BK352,BK353,BK354,HB⟩:=hcut
  cases kq with
  | zero=>exact absurd HA.out (by simp [impl_HelpFor.j0])
  | succ kj3 =>
   have H:=HA.out
   clear HA
   simp only [impl_HelpFor.j0] at H
   by_cases c33:x25_3=true
   ·subst c33
    replace H:=yt H
    simp only [Option.some.injEq,Prod.mk.injEq] at H
    obtain ⟨rfl,rfl,rfl⟩:=H
    have hnb34:=NB354_352.out
    have hnc34:=NB352_354.out
    have hnb35:=NB354_353.out
    have hnc35:=NB353_354.out
    obtain ⟨hcz36_0,hcz36_1,hfz36_0,hfz36_1⟩:=yk2 BK354
    go_wp2
    refine bodyPost_ret (results_ct rfl _ _ gb354 85 #[.int .i64 0, .int .u8 0] (0,0) _ rfl (by refine sB ?_;refine blk_put (cs:=#[.int .i64 0, .int .u8 0]) ?_ 1 _ rfl;refine sB ?_;refine blk_put (cs:=#[.int .i64 0, .int .u8 0]) ?_ 0 _ rfl;exact yB BK354) Try.underlying85 rfl D2) rfl ?_
    exact ⟨D3,yW HB⟩
   replace c33:=Bool.eq_false_iff.mpr c33
   subst c33
   replace H:=yn H
   obtain ⟨⟨t357,t360⟩,A37,H⟩:=yo H
   try dsimp only at H
   obtain ⟨t361,A38,H⟩:=yo H
   simp only [Option.some.injEq,Prod.mk.injEq] at H
   obtain ⟨rfl,rfl,rfl⟩:=H
   have hnb39:=NB352_353.out
   have hnc39:=NB353_352.out
   have hnb40:=NB352_354.out
   have hnc40:=NB354_352.out
   obtain ⟨hcz41_0,hcz41_1,hfz41_0,hfz41_1⟩:=yk2 BK352
   try go_wp2_with (first|((with_reducible refine gC 116 ?_);refine gM (some 30) Try.func116 (args:=#[.agg #[.int .i64 a0_0, .int .i64 a0_1], .int .i64 a2]) (impl_Msr_powers.calls kj3 a0_0 a0_1 a2 t357 t360 _ A37.out) ?_;rintro e w42 ⟨v358,rfl,ho0,hb⟩;refine ⟨_,rfl,?_⟩;have HO359:=am (Kd.R_lower ho0 (pz (yW HB)));replace BK352:=yb BK352 hb;replace BK353:=yb BK353 hb;replace BK354:=yb BK354 hb;replace HB:=yH HB hb;clear hb ho0))
   replace HO359:=am (Kd.R_drew HO359.out)
   replace BK352:=am (qd BK352.out)
   replace BK353:=am (qd BK353.out)
   replace BK354:=am (qd BK354.out)
   replace HB:=am (pd HB.out)
   obtain ⟨Ao44,co44,eo44⟩:=Kd.R_slice HO359.out
   (first|subst eo44|(injection eo44 with f1_ f2_ f3_;have f4_:=f1_.symm;have f5_:=f3_.symm;clear f1_ f2_ f3_;subst f4_;subst f5_))
   refine rS (n:=9) (S:=fun w'=>w'.cell? ⟨gb353,0,none⟩=some (.int .i64 a1_0)∧w'.cell? ⟨gb353,1,none⟩=some (.slice A1_1 l1_1.length c1_1)) (ds:=[]) [(0,33),(2,35),(4,37),(1,34),(3,36),(5,0),(6,39),(7,0),(8,7)] D2 rfl impl_HelpFor.tab4 impl_HelpFor.bits4 ⟨yk BK353 0,yk BK353 1⟩ (fun hHeld HT_ HW_=>?_)
   generalize w42.drew=w43 at HO359 BK352 BK353 BK354 HB hHeld ⊢
   refine rR ?_
   refine rO (N:=some 38) HT_ rfl rfl D2 D5 (fun K hK=>?_)
   refine goes_ Try.func117 D2 rfl #[.slice A1_1 l1_1.length c1_1, .slice Ao44 t357.length co44] D16 rfl rfl D8 ?_
   with_reducible refine (impl_dot.calls kj3 _ _ l1_1 _ _ t357 t361 _ (yc (Kd.C_below HR1_1.out HB.out)) HC1_1.out (yc (Kd.R_reads' HO359.out).2.2) (Kd.R_reads' HO359.out).2.1 A38.out).mono ?_
   rintro e w' ⟨rfl,⟨nd,rfl⟩⟩
   refine ⟨_,rfl,?_⟩
   refine hK.out _ _ ⟨yk BK353 0,yk BK353 1⟩ (fun hHeld=>?_)
   clear hK K
   refine rN (nA 38) ?_
   refine rR ?_
   refine rO (N:=none) HT_ rfl rfl D2 D5 (fun K hK=>?_)
   have hs45:w43.cell? ⟨gb354,0,none⟩=some (.int .i64 0):=(blk_cell BK354.out 0).trans rfl
   have hfs45:=blk_frozen BK354.out 0
   have hns45_0:=NB352_354.out
   have hns45_1:=NB353_354.out
   have hms45_0:=NB354_352.out
   have hms45_1:=NB354_353.out
   have hs46:w43.cell? ⟨gb354,1,none⟩=some (.int .u8 0):=(blk_cell BK354.out 1).trans rfl
   have hfs46:=blk_frozen BK354.out 1
   have hns46_0:=NB352_354.out
   have hns46_1:=NB353_354.out
   have hms46_0:=NB354_352.out
   have hms46_1:=NB354_353.out
   refine skip_ (w1:=?_) D16 rfl ?_ ?_
   rotate_left
   ·go_simp
    rfl
   refine hK.out _ _ ⟨((cell_far (p:=⟨gb354,_,none⟩) NB353_354.out _).trans (((cell_far (p:=⟨gb354,_,none⟩) NB353_354.out _).trans (hHeld.1)))),((cell_far (p:=⟨gb354,_,none⟩) NB353_354.out _).trans (((cell_far (p:=⟨gb354,_,none⟩) NB353_354.out _).trans (hHeld.2))))⟩ (fun hHeld=>?_)
   clear hK K
   refine rR ?_
   refine rD HT_ D2 ?_
   try go_wp2
   refine bodyPost_ret (results_ct rfl _ _ gb354 85 #[.int .i64 a1_0, .int .u8 t361] (0,0) _ rfl (by refine sB ?_;refine blk_put (cs:=#[.int .i64 a1_0, .int .u8 0]) ?_ 1 _ rfl;refine sB ?_;refine blk_put (cs:=#[.int .i64 0, .int .u8 0]) ?_ 0 _ rfl;exact yB BK354) Try.underlying85 rfl D2) rfl ?_
   exact ⟨D3,yW HB⟩

def impl_identity.l0:Nat→Int→List (List Int)→Int→Int→Option ((List (List Int)))
 | 0,_,_,_,_=>none
 | k+1,x0,x3,x7,x8=>if x8 < x7 then (if 0≤x0 then (if (x0:Int).toNat≤281474976710656 then ((some (List.replicate (x0:Int).toNat 0:List Int)).bind fun y365=>(if 0≤x8 then (if x8 < (y365.length:Int) then (if x3.length < 5864062014805 then (impl_identity.l0 k x0 (x3 ++ [(y365.set (x8:Int).toNat 1)]) x7 (wrap64 (x8+1))) else (none)) else (none)) else (none))) else (none)) else (none)) else (some x3)
def impl_identity.f (k:Nat) (a0:Int):Option ((List (List Int))):=impl_identity.l0 k a0 (([]:List (List Int))) a0 0
theorem impl_identity.mono_l:∀ k,(∀ y0 y1 y2 y3,LeO (impl_identity.l0 k y0 y1 y2 y3) (impl_identity.l0 (k+1) y0 y1 y2 y3))
 | 0=>fun _ _ _ _ r h=>by simp [impl_identity.l0] at h
 | k+1=>by
  have ih0:=impl_identity.mono_l k
  intro y0 y1 y2 y3
  unfold impl_identity.l0
  exact mm
theorem impl_identity.mono:∀ a0 k,LeO (impl_identity.f k a0) (impl_identity.f (k+1) a0):=by
 intro a0 k
 have ih0:=impl_identity.mono_l k
 unfold impl_identity.f
 exact mm
theorem impl_identity.calls (k:Nat) (a0:Int) (r:List (List Int)) (w:World) (h:impl_identity.f k a0=some r) :
  Calls Try.prog 141 #[.int .i64 a0] w fun e w'=>∃ v0_:Value,e = .returned (v0_)∧Kd.S (Kd.slice 5 (Kd.int .u8)) 24 w' w.heap.size (fun _=>True) v0_ r∧Below w.heap.size w w':=by
 have HB:=am (Below.refl w.heap.size w)
 have H:=h
 unfold impl_identity.f at H
 clear h
 generalize hy362:(([]:List (List Int)):List (List Int))=y362 at H
 have Ny362:=am hy362.symm
 clear hy362
 have H':=am H
 clear H
 go_enter Try.func141,Try.ntmps141
 go_wp2_with (first|((with_reducible refine gD 6 ?_);refine Kd.S_lit (Kd.slice 5 (Kd.int .u8)) _ 24 D16 (N:=6) D16 (xs:=([]:List (List Int))) (inner:=[]) (ok:=fun _=>True) (okp:=fun _=>True) D33 D65 (fun _ hk=>hk) trivial (Below.refl _ _) (Nat.le_refl _) D44 ?_;intro v363 w2 ho3 hb hg_ hnew_;clear hg_ hnew_;(first|rw [← Ny362.out] at ho3|(simp only [Int.reduceToNat] at ho3;rw [← Ny362.out] at ho3));have HO364:=am (Kd.S_lower ho3 (pz (yW HB)));replace HB:=yH HB hb;clear hb ho3))
 go_loopg [3,8] k (fun kq v3 v8 w'=>∃ (x3_1:List (List Int)) (x8_1:Int),v8 = .int .i64 x8_1∧Aside0 (impl_identity.l0 kq a0 x3_1 a0 x8_1=some r)∧Aside0 (kq≤k)∧Aside0 (Kd.S (Kd.slice 5 (Kd.int .u8)) 24 w' w.heap.size (fun _=>True) v3 x3_1)∧Aside0 (Below w.heap.size w w'))
 case atStart=>exact ⟨(y362),(0),D1,H',⟨Nat.le_refl _⟩,⟨yS HO364⟩,⟨yW HB⟩⟩
 case round =>
  clear H'
  try clear c1
  try clear p2
  obtain ⟨x3_1,x8_1,rfl,HA,HK1,HO_3,HB⟩:=hrel
  cases gk with
  | zero=>exact absurd HA.out (by simp [impl_identity.l0])
  | succ k1 =>
   have H:=HA.out
   clear HA
   simp only [impl_identity.l0] at H
   by_cases c4:x8_1 < a0
   ·rw [if_pos c4] at H
    have c4b0:=decide_eq_true c4
    clear c4
    obtain ⟨c5,H⟩:=yi H
    have c5b0:=eq_true c5
    have c5b1:decide (0≤a0)=true:=decide_eq_true c5
    clear c5
    obtain ⟨c6,H⟩:=yi H
    have c6b0:=eq_true c6
    have c6b1:decide ((a0:Int).toNat≤281474976710656)=true:=decide_eq_true c6
    clear c6
    obtain ⟨y365,hy365,H⟩:=ys H
    have Ny365:=am hy365
    clear hy365
    obtain ⟨c7,H⟩:=yi H
    have c7b0:=decide_eq_true c7
    clear c7
    obtain ⟨c8,H⟩:=yi H
    have c8b0:=decide_eq_true c8
    clear c8
    generalize hy368:(y365.set (x8_1:Int).toNat 1:List Int)=y368 at H
    have Ny368:=am hy368.symm
    clear hy368
    obtain ⟨c10,H⟩:=yi H
    have LMc10:=am c10
    clear c10
    generalize hy369:(x3_1 ++ [y368]:List (List Int))=y369 at H
    have Ny369:=am hy369.symm
    clear hy369
    have H':=am H
    clear H
    go_wp2_with (first|((with_reducible refine gD 12 ?_);refine Kd.R_make (Kd.int .u8) _ 5 rfl (N:=12) rfl 24 _ _ rfl a0 rfl rfl Try.underlying24 (.int .u8 0) 1 info5 rfl D5 D13 0 (ok:=fun _=>True) (okp:=fun _=>True) rfl (fun _ hk=>hk) trivial (od D0) (Nat.le_trans (Nat.mul_le_mul_right _ (od D0:a0.toNat≤281474976710656)) D13) (Below.refl _ _) (Nat.le_refl _) ?_;intro v366 w11 ho12 hb hg_ hnew_;clear hg_ hnew_;(first|rw [← Ny365.out] at ho12|(simp only [Int.reduceToNat] at ho12;rw [← Ny365.out] at ho12));replace HO_3:=eS HO_3 (Kd.R_base ho12) hb;have HO367:=am (Kd.R_lower ho12 (pz (yW HB)));replace HB:=yH HB hb;clear hb ho12;have p9:0≤(x8_1:Int):=od D0;have q9:(x8_1:Int) < ((y365.length:Int):Int):=od D0;obtain ⟨go9,co9,eo9,gb9,gl9,cl9,HG9⟩:=Kd.R_form HO367.out D13;(first|cases eo9|(injection eo9 with ea_ en_ ec_;(first|subst ea_|(injection ea_ with ea_;subst ea_));subst ec_;clear en_));have GB9:=am gb9;have GG9:=am HG9;clear gb9 gl9 HG9;obtain ⟨hx9_0,hf9_0⟩:=Kd.R_celln 0 HO367.out (x8_1:Int) p9 q9;replace p9:=eq_true p9;replace q9:=eq_true q9;obtain ⟨hy13_,hz13_⟩:=Kd.R_celln 0 HO367.out (x8_1:Int) (od D0) (od D0);have HP13:=Kd.R_putg HO367.out (x8_1:Int) 1)|((with_reducible refine gate_store (t:=5) (p:=15) rfl ?_);refine store_event (t:=5) (p:=15) (v:=?vo_w14) (w1:=(w11.setCell ⟨go9,(x8_1:Int).toNat,none⟩ (.int .u8 1))) ?hg ?ho ?hn ?hr ?_;(case ho=>rfl);(case hg=>rfl);(case hn=>rfl);(case hr=>first|(go_simp;done)|(go_simp;rfl));intro w14 hw;have hg:w11.grownBy w14 (some go9):=(by rw [hw];exact HP13.2);have hp_:Kd.R (Kd.int .u8) 5 w14 w.heap.size (fun _=>True) (.slice (some ⟨go9,0,none⟩) y365.length co9) y368:=(by rw [hw,Ny368.out];exact HP13.1);clear HP13;replace HO_3:=am (Kd.S_after (v:=(.slice (some ⟨go9,0,none⟩) y365.length co9)) (v1:=(.slice (some ⟨go9,0,none⟩) y365.length co9)) (ok:=(fun _=>True)) (yS HO_3) hg (.inl rfl));replace HO367:=am (hp_);replace HB:=am ((by rw [hw];exact pt (HB.out) GB9.out:Below w.heap.size w w14));clear hg hw hp_)|((with_reducible refine gate_builtin (b:=.append) (xs:=#[.tmp 16, .tmp 18]) rfl ?_);at_builtin;refine Kd.S_append (Kd.slice 5 (Kd.int .u8)) (w0:=w) w.heap.size rfl (.tmp 16) (.tmp 18) 25 24 (.slice none 0 0) 24 rfl Try.underlying25 info24 rfl D5 D13 u3 x3_1 y368 [.slice (some ⟨go9,0,none⟩) y365.length co9] (fun _=>True) (fun k_=>some k_=(.slice (some ⟨go9,0,none⟩) y365.length co9:Value).ownBlock) rfl rfl (by exact Kd.M_row (Kd.R_mono (Kd.R_tight rfl (Kd.R_mono (ok':=fun k_=>((fun _=>True)) k_∧some k_ ≠ (u3:Value).ownBlock) (Kd.R_apart' (HO367.out) (Kd.S_typed HO_3.out) D5) (fun k_ hk=>⟨trivial,hk.2⟩))) (fun _ h_=>h_))) (fun k_ hk_=>((Kd.R_mono (ok':=fun k_=>((fun _=>True)) k_∧some k_ ≠ (u3:Value).ownBlock) (Kd.R_apart' (HO367.out) (Kd.S_typed HO_3.out) D5) (fun k_ hk=>⟨trivial,hk.2⟩))).1 k_ hk_.symm) D43 (by exact (by refine sS ?_;exact Kd.S_mono HO_3.out (fun k_ hk=>⟨trivial,fun e_=>hk.2 e_⟩))) D64 D47 (by have:=LMc10.out;omega) ?_;intro v370 w15 ho hb hg hat;rw [← Ny369.out] at ho;have n0_:=am (hb);have n1_:=am (ho);clear HB HO_3 HO367;have HB:=n0_;have HO371:=n1_;clear n0_ n1_ ho hb hg hat))
    go_roundg k1
    case measure=>have:=HK1.out;omega
    case rel=>exact ⟨(y369),(wrap64 (x8_1+1)),D1,H',⟨D38⟩,⟨yS HO371⟩,⟨yW HB⟩⟩
   rw [if_neg c4] at H
   have c4b0:=decide_eq_false c4
   clear c4
   obtain rfl:=Option.some.inj H
   go_wp2
   go_ret
   exact ⟨_,D3,yS HO_3,yW HB⟩

def slices_Clone_byte_byte.f (l0:List Int):Option (List Int):=(some (([]:List Int):List Int)).bind fun y181=>(if y181.length+l0.length < 140737488355328 then (some (y181 ++ l0)) else (none))
theorem slices_Clone_byte_byte.calls (A0:Option Addr) (c0:Nat) (l0:List Int) (r:List Int) (w:World) (hr0:Kd.C (Kd.int .u8) w A0 l0.length l0) (hc0:l0.length≤c0) (h:slices_Clone_byte_byte.f l0=some r) :
  Calls Try.prog 142 #[.slice A0 l0.length c0] w fun e w'=>∃ v0_:Value,e = .returned (v0_)∧Kd.R (Kd.int .u8) 5 w' w.heap.size (fun _=>True) v0_ r∧Below w.heap.size w w':=by
 have HR0:=am hr0
 have HC0:=am hc0
 clear hr0 hc0
 have HB:=am (Below.refl w.heap.size w)
 have H:=h
 unfold slices_Clone_byte_byte.f at H
 clear h
 obtain ⟨y181,hy181,H⟩:=ys H
 have Ny181:=am hy181
 clear hy181
 by_cases c2:y181.length+l0.length < 140737488355328
 ·rw [if_pos c2] at H
  have LMc2:=am c2
  clear c2
  generalize hy184:(y181 ++ l0:List Int)=y184 at H
  have Ny184:=am hy184.symm
  clear hy184
  obtain rfl:=Option.some.inj H
  have keq:=fun (W:World) (a:Option Addr) (n c:Nat)=>Lib.run_eql_slice_nil (P:=Try.prog) W 24 5 a n c 0 0 Try.underlying24
  cases A0 with
  | none =>
   have e0:l0=[]:=by
    have hc:=HR0.out
    by_cases hp:0 < l0.length
    ·obtain ⟨ad,h1,_⟩:=hc.2.2 hp
     cases h1
    exact List.eq_nil_of_length_eq_zero D13
   have ey:y184=[]:=by rw [Ny184.out,Ny181.out,e0];rfl
   subst ey
   go_enter Try.func142,Try.ntmps142
   go_wp2
   go_ret
   exact ⟨_,rfl,Kd.R_nil _ _ _ _ _,HB.out⟩
  | some ad0 =>
  go_enter Try.func142,Try.ntmps142
  go_wp2_with (first|((with_reducible refine gD 5 ?_);refine Kd.R_lit (Kd.int .u8) _ 5 D16 (N:=5) D16 (xs:=([]:List Int)) (inner:=[]) (ok:=fun _=>True) (okp:=fun _=>True) D33 D65 (fun _ hk=>hk) trivial (Below.refl _ _) (Nat.le_refl _) D44 ?_;intro v182 w3 ho4 hb hg_ hnew_;clear hg_ hnew_;(first|rw [← Ny181.out] at ho4|(simp only [Int.reduceToNat] at ho4;rw [← Ny181.out] at ho4));have HO183:=am (Kd.R_lower ho4 (pz (yW HB)));replace HB:=yH HB hb;clear hb ho4)|((with_reducible refine gate_builtin (b:=.append) (xs:=#[.tmp 5, .tmp 6]) rfl ?_);at_builtin;refine Kd.R_append_rows (Kd.int .u8) (w0:=w) w.heap.size rfl (.tmp 5) (.tmp 6) 24 5 (.int .u8 0) 1 rfl Try.underlying24 info5 rfl D5 D13 v182 y181 l0 _ _ _ (fun _=>True) (fun _=>False) rfl rfl (by exact (yR HO183)) (by repeat (first|exact (Kd.C_below HR0.out HB.out)|(with_reducible refine Kd.C_alloc ?_ _)|(with_reducible refine Kd.C_drewN ?_ _)|(with_reducible refine Kd.C_drew ?_))) (fun _ _ h=>h) (fun _ h=>h.elim) D43 D64 D47 (by have:=LMc2.out;omega) ?_;intro v185 w5 ho hb hg hat;rw [← Ny184.out] at ho;have n0_:=am (hb);have n1_:=am (ho);clear HB HO183;have HB:=n0_;have HO186:=n1_;clear n0_ n1_ ho hb hg hat))
  go_ret
  exact ⟨_,D3,yR HO186,yW HB⟩
 rw [if_neg c2] at H
 exact absurd H D44

def impl_added.l0:Nat→List Int→List Int→List Int→Int→Int→Option (List Int)
 | 0,_,_,_,_,_=>none
 | k+1,x1,x5,x9,x10,x11=>if x11 < x10 then (if 0≤x11 then (if x11 < (x9.length:Int) then (if x11 < (x1.length:Int) then (if x5.length < 140737488355328 then (impl_added.l0 k x1 (x5 ++ [Go.bits .xor .u8 (rd x9 x11) (rd x1 x11)]) x9 x10 (wrap64 (x11+1))) else (none)) else (none)) else (none)) else (none)) else (some x5)
def impl_added.f (k:Nat) (l0:List Int) (l1:List Int):Option (List Int):=impl_added.l0 k l1 (([]:List Int)) l0 (l0.length:Int) 0
theorem impl_added.mono_l:∀ k,(∀ y0 y1 y2 y3 y4,LeO (impl_added.l0 k y0 y1 y2 y3 y4) (impl_added.l0 (k+1) y0 y1 y2 y3 y4))
 | 0=>fun _ _ _ _ _ r h=>by simp [impl_added.l0] at h
 | k+1=>by
  have ih0:=impl_added.mono_l k
  intro y0 y1 y2 y3 y4
  unfold impl_added.l0
  exact mm
theorem impl_added.mono:∀ a0 a1 k,LeO (impl_added.f k a0 a1) (impl_added.f (k+1) a0 a1):=by
 intro a0 a1 k
 have ih0:=impl_added.mono_l k
 unfold impl_added.f
 exact mm
theorem impl_added.calls (k:Nat) (A0:Option Addr) (c0:Nat) (l0:List Int) (A1:Option Addr) (c1:Nat) (l1:List Int) (r:List Int) (w:World) (hr0:Kd.C (Kd.int .u8) w A0 l0.length l0) (hc0:l0.length≤c0) (hr1:Kd.C (Kd.int .u8) w A1 l1.length l1) (hc1:l1.length≤c1) (h:impl_added.f k l0 l1=some r) :
  Calls Try.prog 118 #[.slice A0 l0.length c0, .slice A1 l1.length c1] w fun e w'=>∃ v0_:Value,e = .returned (v0_)∧Kd.R (Kd.int .u8) 5 w' w.heap.size (fun _=>True) v0_ r∧Below w.heap.size w w':=by
 have HR0:=am hr0
 have HC0:=am hc0
 clear hr0 hc0
 have HR1:=am hr1
 have HC1:=am hc1
 clear hr1 hc1
 have HB:=am (Below.refl w.heap.size w)
 have H:=h
 unfold impl_added.f at H
 clear h
 generalize hy372:(([]:List Int):List Int)=y372 at H
 have Ny372:=am hy372.symm
 clear hy372
 have H':=am H
 clear H
 go_enter Try.func118,Try.ntmps118
 go_wp2_with (first|((with_reducible refine gD 8 ?_);refine Kd.R_lit (Kd.int .u8) _ 5 D16 (N:=8) D16 (xs:=([]:List Int)) (inner:=[]) (ok:=fun _=>True) (okp:=fun _=>True) D33 D65 (fun _ hk=>hk) trivial (Below.refl _ _) (Nat.le_refl _) D44 ?_;intro v373 w3 ho4 hb hg_ hnew_;clear hg_ hnew_;(first|rw [← Ny372.out] at ho4|(simp only [Int.reduceToNat] at ho4;rw [← Ny372.out] at ho4));have HO374:=am (Kd.R_lower ho4 (pz (yW HB)));replace HB:=yH HB hb;clear hb ho4))
 go_loopg [5,11] k (fun kq v5 v11 w'=>∃ (x5_1:List Int) (x11_1:Int),v11 = .int .i64 x11_1∧Aside0 (impl_added.l0 kq l1 x5_1 l0 (l0.length:Int) x11_1=some r)∧Aside0 (kq≤k)∧Aside0 (Kd.R (Kd.int .u8) 5 w' w.heap.size (fun _=>True) v5 x5_1)∧Aside0 (Below w.heap.size w w'))
 case atStart=>exact ⟨(y372),(0),D1,H',⟨Nat.le_refl _⟩,⟨yR HO374⟩,⟨yW HB⟩⟩
 case round =>
  clear H'
  try clear c1
  try clear p2
  obtain ⟨x5_1,x11_1,rfl,HA,HK1,HO_5,HB⟩:=hrel
  cases gk with
  | zero=>exact absurd HA.out (by simp [impl_added.l0])
  | succ k1 =>
   have H:=HA.out
   clear HA
   simp only [impl_added.l0] at H
   by_cases c5:x11_1 < (l0.length:Int)
   ·rw [if_pos c5] at H
    have c5b0:=decide_eq_true c5
    clear c5
    obtain ⟨c6,H⟩:=yi H
    have c6b0:=decide_eq_true c6
    clear c6
    obtain ⟨c7,H⟩:=yi H
    have c7b0:=decide_eq_true c7
    clear c7
    obtain ⟨c8,H⟩:=yi H
    have c8b0:=decide_eq_true c8
    clear c8
    obtain ⟨c9,H⟩:=yi H
    have LMc9:=am c9
    clear c9
    generalize hy377:(x5_1 ++ [Go.bits .xor .u8 (rd l0 x11_1) (rd l1 x11_1)]:List Int)=y377 at H
    have Ny377:=am hy377.symm
    clear hy377
    have H':=am H
    clear H
    have p375:0≤(x11_1:Int):=od D0
    have q375:x11_1 < (l0.length:Int):=od D0
    obtain ⟨ad375,e375,hx375_0⟩:=Kd.at_int HR0.out x11_1 p375 q375
    cases e375
    replace hx375_0:=(HB.out.cell (World.block_lt_of_cell? w _ hx375_0)).trans hx375_0
    replace p375:=eq_true p375
    replace q375:=eq_true q375
    have p376:0≤(x11_1:Int):=od D0
    have q376:x11_1 < (l1.length:Int):=od D0
    obtain ⟨ad376,e376,hx376_0⟩:=Kd.at_int HR1.out x11_1 p376 q376
    cases e376
    replace hx376_0:=(HB.out.cell (World.block_lt_of_cell? w _ hx376_0)).trans hx376_0
    replace p376:=eq_true p376
    replace q376:=eq_true q376
    go_wp2_with (first|((with_reducible refine gate_builtin (b:=.append) (xs:=#[.tmp 16, .tmp 23]) rfl ?_);at_builtin;refine Kd.R_append (Kd.int .u8) (w0:=w) w.heap.size rfl (.tmp 16) (.tmp 23) 24 5 (.int .u8 0) 1 rfl Try.underlying24 info5 rfl D5 D13 u5 x5_1 (Go.bits .xor .u8 (rd l0 x11_1) (rd l1 x11_1)) [.int .u8 (Go.bits .xor .u8 (rd l0 x11_1) (rd l1 x11_1))] (fun _=>True) (fun _=>False) rfl rfl D98 (fun _ hk=>hk.elim) D43 (by exact (yR HO_5)) D64 D47 (by have:=LMc9.out;omega) ?_;intro v378 w10 ho hb hg hat;rw [← Ny377.out] at ho;have n0_:=am (hb);have n1_:=am (ho);clear HB HO_5;have HB:=n0_;have HO379:=n1_;clear n0_ n1_ ho hb hg hat))
    go_roundg k1
    case measure=>have:=HK1.out;omega
    case rel=>exact ⟨(y377),(wrap64 (x11_1+1)),D1,H',⟨D38⟩,⟨yR HO379⟩,⟨yW HB⟩⟩
   rw [if_neg c5] at H
   have c5b0:=decide_eq_false c5
   clear c5
   obtain rfl:=Option.some.inj H
   go_wp2
   go_ret
   exact ⟨_,D3,yR HO_5,yW HB⟩

def impl_Inverse.f (k:Nat) (a0:Int):Option (Int):=(impl_power.f k a0 254).bind fun t380=>(some t380)
theorem impl_Inverse.mono:∀ a0 k,LeO (impl_Inverse.f k a0) (impl_Inverse.f (k+1) a0):=by
 intro a0 k
 unfold impl_Inverse.f
 exact mm
theorem impl_Inverse.calls (k:Nat) (a0:Int) (r:Int) (w:World) (h:impl_Inverse.f k a0=some r) :
  Calls Try.prog 136 #[.int .u8 a0] w fun e w'=>e = .returned (.int .u8 r)∧Drawn0 w w':=by
 have H:=h
 unfold impl_Inverse.f at H
 clear h
 obtain ⟨t380,A2,H⟩:=yo H
 obtain rfl:=Option.some.inj H
 go_enter Try.func136,Try.ntmps136
 go_wp2_with (first|((with_reducible refine gC 88 ?_);refine gM (some 4) Try.func88 (args:=#[.int .u8 a0, .int .i64 254]) (impl_power.calls k a0 254 t380 _ A2.out) ?_;rintro e w' ⟨rfl,⟨nd,rfl⟩⟩;refine ⟨_,rfl,?_⟩))
 go_ret
 exact ⟨D1,D15⟩
section
section
open Go.Proofs.Yteflgifmdojahaa.Gf Go.Proofs.Yteflgifmdojahaa.Kit Go.Proofs.Yteflgifmdojahaa.KitW Go.Proofs.Yteflgifmdojahaa.KitN
namespace ImplElim
theorem impl_Times.ev_l0 (b:Nat) (hb:b < 256):∀ (n i o x:Nat),i+n=8→o < 256→x < 256 →
  Ev (fun k=>impl_Times.l0 k (b:Int) (o:Int) (i:Int) (x:Int)) ((T n o x (b / 2 ^ i):Nat):Int)
 | 0,i,o,x,hi,ho,hx=>by
  refine Ev.step (fun k=>impl_Times.l0.eq_2 _ _ _ _ k) ?_
  refine ev_neg D13 (ev_now ?_)
  simp only [T]
  omega
 | n+1,i,o,x,hi,ho,hx=>by
  refine Ev.step (fun k=>impl_Times.l0.eq_2 _ _ _ _ k) ?_
  refine ev_pos D13 (ev_pos D13 ?_)
  have e1:shr .u8 (b:Int) (i:Int)=((b / 2 ^ i:Nat):Int):=by
   unfold shr
   rw [Nat.min_eq_left (by simp only [IntKind.bits];omega)]
   simp
  have hd:b / 2 ^ i < 256:=Nat.lt_of_le_of_lt (Nat.div_le_self _ _) hb
  have e2:wrap64 ((x:Int)*2)=((2*x:Nat):Int):=by rw [wrap_id D13 D13];omega
  have e3:wrap64 ((i:Int)+1)=((i+1:Nat):Int):=by rw [wrap_id D13 D13];omega
  rw [e1,and1_u8 hd,e2,e3]
  have e4:Go.bits .xor .i64 (o:Int) (x:Int)=((o ^^^ x:Nat):Int):=xor_i64 D13 D13
  have e5:Go.bits .xor .i64 ((2*x:Nat):Int) 283=((2*x ^^^ 283:Nat):Int):=xor_i64 (m:=2*x) (n:=283) D13 D13
  have e6:b / 2 ^ i / 2=b / 2 ^ (i+1):=by rw [Nat.div_div_eq_div_mul,Nat.pow_succ]
  rw [e4,e5]
  have hT:T (n+1) o x (b / 2 ^ i)=T n (if b / 2 ^ i % 2=1 then o ^^^ x else o) (xt x) (b / 2 ^ (i+1)):=by rw [T,e6]
  rw [hT]
  have hxt:=xt_lt hx
  have hox:=xor_lt ho hx
  by_cases h1:b / 2 ^ i % 2=1
  ·rw [if_pos h1]
   refine ev_pos D13 ?_
   by_cases h2:2*x > 255
   ·refine ev_pos D13 ?_
    have:xt x=2*x ^^^ 283:=by unfold xt;rw [if_pos h2]
    rw [this] at hxt ⊢
    exact impl_Times.ev_l0 b hb n (i+1) _ _ D13 hox hxt
   refine ev_neg D13 ?_
   have:xt x=2*x:=by unfold xt;rw [if_neg h2]
   rw [this] at hxt ⊢
   exact impl_Times.ev_l0 b hb n (i+1) _ _ D13 hox hxt
  rw [if_neg h1]
  refine ev_neg D13 ?_
  by_cases h2:2*x > 255
  ·refine ev_pos D13 ?_
   have:xt x=2*x ^^^ 283:=by unfold xt;rw [if_pos h2]
   rw [this] at hxt ⊢
   exact impl_Times.ev_l0 b hb n (i+1) _ _ D13 ho hxt
  refine ev_neg D13 ?_
  have:xt x=2*x:=by unfold xt;rw [if_neg h2]
  rw [this] at hxt ⊢
  exact impl_Times.ev_l0 b hb n (i+1) _ _ D13 ho hxt
theorem impl_Times.ev {a b:Int} (ha:Byte a) (hb:Byte b):Ev (fun k=>impl_Times.f k a b) (mul a b):=by
 obtain ⟨m,hm,rfl⟩:=ha.nat
 obtain ⟨n,hn,rfl⟩:=hb.nat
 unfold impl_Times.f
 rw [wrap_id D13 D13]
 have h:=impl_Times.ev_l0 n hn 8 0 0 m rfl D5 hm
 exact ev_eq h (by unfold Gf.mul gm;simp)
theorem impl_power.ev_l0:∀ (N n:Nat) (a o:Int),n≤N→n < 4294967296→Byte a→Byte o→Ev (fun k=>impl_power.l0 k a (n:Int) o) (mul o (pow a n)):=by
 intro N
 induction N with
 | zero =>
  intro n a o hN hn ha ho
  obtain rfl:n=0:=by omega
  refine Ev.step (fun k=>impl_power.l0.eq_2 _ _ _ k) ?_
  exact ev_neg D13 (ev_now (by rw [pow_zero,mul_one ho]))
 | succ N ih =>
  intro n a o hN hn ha ho
  refine Ev.step (fun k=>impl_power.l0.eq_2 _ _ _ k) ?_
  by_cases h0:n=0
  ·subst h0
   exact ev_neg D13 (ev_now (by rw [pow_zero,mul_one ho]))
  refine ev_pos D13 ?_
  have e:((n:Int) / 2)=((n / 2:Nat):Int):=by omega
  have haa:=Byte.mul ha a
  have hsq:pow (mul a a) (n / 2)=pow a (2*(n / 2)):=by rw [pow_mul ha,pow_two ha]
  rw [and1_i64 hn,e]
  by_cases h1:n % 2=1
  ·refine ev_pos D13 ?_
   refine ev_bind (impl_Times.ev ho ha) (ev_bind (impl_Times.ev ha ha) ?_)
   refine ev_eq (ih (n / 2) _ _ D13 D13 haa (Byte.mul ho a)) ?_
   have hn2:n=1+2*(n / 2):=by omega
   rw [hsq,mul_assoc ho ha (Byte.pow ha _)]
   conv=>rhs;rw [hn2,pow_add ha,pow_one ha]
  refine ev_neg D13 ?_
  refine ev_bind (impl_Times.ev ha ha) ?_
  refine ev_eq (ih (n / 2) _ _ D13 D13 haa ho) ?_
  have hn2:n=2*(n / 2):=by omega
  rw [hsq,← hn2]
theorem impl_power.ev {a:Int} (ha:Byte a) (n:Nat) (hn:n < 4294967296):Ev (fun k=>impl_power.f k a (n:Int)) (pow a n):=by
 unfold impl_power.f
 refine ev_eq (impl_power.ev_l0 n n a 1 (Nat.le_refl _) hn ha .one) ?_
 exact one_mul (Byte.pow ha n)
theorem impl_Inverse.ev {a:Int} (ha:Byte a):Ev (fun k=>impl_Inverse.f k a) (inv a):=by
 unfold impl_Inverse.f
 exact ev_bind (impl_power.ev ha 254 D5) (ev_now (inv_pow a).symm)
theorem impl_scaled.ev_l0 (a:Int) (ha:Byte a) (v:List Int) (hv:Bytes v) (hs:v.length < 140737488355328):∀ (n i:Nat) (o:List Int),i+n=v.length→o=(scale a v).take i →
  Ev (fun k=>impl_scaled.l0 k a o v (v.length:Int) (i:Int)) (scale a v)
 | 0,i,o,hi,ho=>by
  refine Ev.step (fun k=>impl_scaled.l0.eq_2 _ _ _ _ _ k) ?_
  refine ev_neg D13 (ev_now ?_)
  subst ho
  rw [List.take_of_length_le (by rw [scale_length];omega)]
 | n+1,i,o,hi,ho=>by
  have hz:=scale_length a v
  have hlen:o.length=i:=by rw [ho,List.length_take,hz];omega
  refine Ev.step (fun k=>impl_scaled.l0.eq_2 _ _ _ _ _ k) ?_
  refine ev_pos D13 (ev_pos D13 (ev_pos D13 ?_))
  refine ev_bind (impl_Times.ev ha (bytes_rd hv D13)) ?_
  refine ev_pos D13 ?_
  rw [inc D13,rd_get D13]
  refine impl_scaled.ev_l0 a ha v hv hs n (i+1) _ D13 ?_
  rw [List.take_succ_eq_append_getElem D13,← ho]
  simp [scale]
theorem impl_scaled.ev {a:Int} (ha:Byte a) {v:List Int} (hv:Bytes v) (hs:v.length < 140737488355328):Ev (fun k=>impl_scaled.f k a v) (scale a v):=by
 unfold impl_scaled.f
 exact impl_scaled.ev_l0 a ha v hv hs v.length 0 [] D13 rfl
theorem impl_added.ev_l0 (v w:List Int) (hv:Bytes v) (hw:Bytes w) (hl:v.length=w.length) (hs:v.length < 140737488355328):∀ (n i:Nat) (o:List Int),i+n=v.length→o=(addV v w).take i →
  Ev (fun k=>impl_added.l0 k w o v (v.length:Int) (i:Int)) (addV v w)
 | 0,i,o,hi,ho=>by
  refine Ev.step (fun k=>impl_added.l0.eq_2 _ _ _ _ _ k) ?_
  refine ev_neg D13 (ev_now ?_)
  subst ho
  rw [List.take_of_length_le (by rw [addV_length];omega)]
 | n+1,i,o,hi,ho=>by
  have hz:=addV_length v w
  have hlen:o.length=i:=by rw [ho,List.length_take,hz];omega
  refine Ev.step (fun k=>impl_added.l0.eq_2 _ _ _ _ _ k) ?_
  refine ev_pos D13 (ev_pos D13 (ev_pos D13 (ev_pos D13 (ev_pos D13 ?_))))
  rw [inc D13,xor_u8 (bytes_rd hv D13) (bytes_rd hw D13),rd_get D13,rd_get D13]
  refine impl_added.ev_l0 v w hv hw hl hs n (i+1) _ D13 ?_
  rw [List.take_succ_eq_append_getElem D13,← ho]
  simp [addV]
theorem impl_added.ev {v w:List Int} (hv:Bytes v) (hw:Bytes w) (hl:v.length=w.length) (hs:v.length < 140737488355328):Ev (fun k=>impl_added.f k v w) (addV v w):=by
 unfold impl_added.f
 exact impl_added.ev_l0 v w hv hw hl hs v.length 0 [] D13 rfl
end ImplElim
/-- The test of one row: has it something at k? -/
theorem el_test (gk:Nat) (k:Nat) (A:Option Addr) (c:Nat) (l:List Int) (okf:Nat→Prop) (hk:k < l.length) (W:World)
  (hbox:W.cell? ⟨gk,0,none⟩=some (.int .i64 k)) (hF:Kd.F (Kd.int .u8) W okf A l.length l) :
  Calls Try.prog 160 #[.slice A l.length c, .pointer (some ⟨gk,0,none⟩)] W fun e w'=>e = .returned (.bool (l.getD k 0 != 0))∧Drawn0 W w':=by
 obtain ⟨ad,rfl,hc⟩:=F_byte hF k hk
 clear hF
 obtain ⟨x,hx⟩:∃ x,x=l.getD k 0:=⟨_,rfl⟩
 rw [← hx] at hc ⊢
 obtain ⟨n,hn⟩:∃ n,n=l.length:=⟨_,rfl⟩
 rw [← hn] at hk ⊢
 clear hx hn
 have hkz:(k:Int) < (n:Int):=by omega
 go_enter Try.func160,Try.ntmps160
 go_wp2
 go_ret
 exact ⟨by first|rfl|(simp [bne];done),Drawn0.refl _⟩
set_option maxHeartbeats 4000000 in
theorem el_IndexFunc (g:Nat) (eg:∀ args w,(callFunc g args).run Try.prog w = .ok (.enter g args) w) (fv:Value) (p:Nat→Bool) (ad:Addr) (n c:Nat) (v:Nat→Value) (w:World) (hbig:n≤9223372036854775806)
  (hc:∀ i,i < n→w.cell? (ad.add i)=some (v i))
  (hp:∀ i,i < n→∀ W,Drawn0 w W→Calls Try.prog g #[v i,fv] W fun e w'=>e = .returned (.bool (p i))∧Drawn0 W w') :
  Calls Try.prog 159 #[.slice (some ad) n c, .func (.func g) #[] #[fv]] w fun e w'=>(∃ r,e = .returned (.int .i64 r)∧IdxOf p n r)∧Drawn0 w w':=by
 have HP:=am hp
 have HC:=am hc
 clear hp hc
 go_enter Try.func159,Try.ntmps159
 go_wp2
 go_loopg [5,8] n (fun gg _ s8 wr=>∃ kk:Nat,kk≤n∧n - kk≤gg∧s8 = .int .i64 kk∧Aside0 (Drawn0 w wr)∧Aside0 (∀ j,j < kk→p j=false))
 case atStart=>exact ⟨0,Nat.zero_le _,D13,rfl,⟨Drawn0.refl _⟩,⟨fun j hj=>absurd hj (Nat.not_lt_zero _)⟩⟩
 case round =>
  obtain ⟨kk,hkk,hg,rfl,HD,HA⟩:=hrel
  by_cases hlt:kk < n
  ·have hltz:(kk:Int) < (n:Int):=by omega
   have hcell:wr.cell? (ad.add kk)=some (v kk):=by
    obtain ⟨q,rfl⟩:=HD.out.out
    exact HC.out kk hlt
   have hcall:=HP.out kk hlt
   cases hq:p kk with
   | true =>
    rw [hq] at hcall
    have HQ:=am hq
    clear hq
    have HX:=am hcall
    clear hcall
    go_wp2_with (go_at_fn g;refine (HX.out _ ?dr).mono ?_;(case dr=>exact HD.out);rintro e w' ⟨rfl,hd⟩)
    go_ret
    exact ⟨⟨_,rfl, .inr ⟨kk,hlt,rfl,HQ.out,HA.out⟩⟩,drawn_trans HD.out hd⟩
   | false =>
    rw [hq] at hcall
    have HQ:=am hq
    clear hq
    have HX:=am hcall
    clear hcall
    go_wp2_with (go_at_fn g;refine (HX.out _ ?dr).mono ?_;(case dr=>exact HD.out);rintro e w' ⟨rfl,hd⟩)
    go_roundg (n - (kk+1))
    case measure=>omega
    case rel=>exact ⟨kk+1,D13,D13,by go_num,⟨drawn_trans HD.out hd⟩,⟨fun j hj=>by by_cases e:j=kk;exact e ▸ HQ.out;exact HA.out j D13⟩⟩
  have hltz:¬ (kk:Int) < (n:Int):=by omega
  have:kk=n:=by omega
  subst this
  go_wp2
  go_ret
  exact ⟨⟨_,rfl, .inl ⟨rfl,HA.out⟩⟩,HD.out⟩
section
theorem el_lift {R1:List (List Int)} {a p k:Nat} {r0 r1:List Int} (h0:R1.getD a []=r0) (h1:R1.getD p []=r1):((R1.set a r1).set p r0).set a (scale (inv (r1.getD k 0)) r1)=rowI.lift R1 k a p:=by
 show _=(R1.set p (R1.getD a [])).set a (scale (inv ((R1.getD p []).getD k 0)) (R1.getD p []))
 rw [h0,h1]
 by_cases e:a=p
 ·subst e;rw [List.set_set,List.set_set,List.set_set]
 rw [List.set_comm _ _ e,List.set_set]
theorem el_top {R1:List (List Int)} {a p:Nat} {r0 r1:List Int} (ha:a < R1.length) (h0:R1.getD a []=r0) (h1:R1.getD p []=r1):((R1.set a r1).set p r0).getD a []=r1:=by
 by_cases e:p=a
 ·subst e
  rw [List.set_set,List.getD_eq_getElem?_getD,List.getElem?_set_self ha,← h1,h0];rfl
 rw [List.getD_eq_getElem?_getD,List.getElem?_set_ne e,List.getElem?_set_self ha];rfl
theorem el_clr_skip {R:List (List Int)} {k a r:Nat} {x:List Int} (hx:(rowI.clr k a R r).getD r []=x) (h:r=a∨x.getD k 0=0):rowI.clr k a R (r+1)=rowI.clr k a R r:=by
 show (if r ≠ a∧((rowI.clr k a R r).getD r []).getD k 0 ≠ 0 then _ else rowI.clr k a R r)=_
 rw [hx,if_neg]
 intro z
 rcases h with e|e
 ·exact z.1 e
 exact z.2 e
theorem el_clr_do {R:List (List Int)} {k a r:Nat} {x y:List Int} (hx:(rowI.clr k a R r).getD r []=x) (hy:(rowI.clr k a R r).getD a []=y) (h:r ≠ a) (h2:x.getD k 0 ≠ 0):rowI.clr k a R (r+1)=(rowI.clr k a R r).set r (addV x (scale (x.getD k 0) y)):=by
 show (if r ≠ a∧((rowI.clr k a R r).getD r []).getD k 0 ≠ 0 then (rowI.clr k a R r).set r (addV ((rowI.clr k a R r).getD r []) (scale (((rowI.clr k a R r).getD r []).getD k 0) ((rowI.clr k a R r).getD a []))) else rowI.clr k a R r)=_
 rw [hx,hy,if_pos ⟨h,h2⟩]
end
theorem el_none {R R1:List (List Int)} {k a len:Nat} (hq:(R1,a)=rowI.red R k) (hl:R.length=len) (ha:a < len) (hl1:R1.length=len) (h:∀ i,i < len - a→((R1.getD (a+i) []).getD k 0 != 0)=false):rowI.red R (k+1)=(R1,a):=by
 show (if (rowI.red R k).2 < R.length then rowI.stp k (rowI.red R k) else rowI.red R k)=_
 rw [← hq,hl,if_pos ha]
 unfold RowK.stp
 have e:rowI.piv R1 k a=none:=RowK.piv_none (fun j h1 h2=>by
  have h3:=h (j - a) D13
  rw [show a+(j - a)=j by omega] at h3
  exact Decidable.of_not_not fun z=>by
   have z2:((R1.getD j []).getD k 0 != 0)=true:=bne_iff_ne.2 z
   rw [z2] at h3;cases h3)
 show (match rowI.piv R1 k a with|none=>(R1,a)|some i=>(rowI.clr k a (rowI.lift R1 k a i) R1.length,a+1))=_
 rw [e]
theorem el_some {R R1:List (List Int)} {k a len i:Nat} (hq:(R1,a)=rowI.red R k) (hl:R.length=len) (ha:a < len) (hl1:R1.length=len) (hi:i < len - a) (hp:((R1.getD (a+i) []).getD k 0 != 0)=true) (h:∀ j,j < i→((R1.getD (a+j) []).getD k 0 != 0)=false):rowI.red R (k+1)=(rowI.clr k a (rowI.lift R1 k a (a+i)) len,a+1):=by
 show (if (rowI.red R k).2 < R.length then rowI.stp k (rowI.red R k) else rowI.red R k)=_
 rw [← hq,hl,if_pos ha]
 unfold RowK.stp
 have e:rowI.piv R1 k a=some (a+i):=RowK.piv_some D13 D13 (bne_iff_ne.1 hp) (fun j h1 h2=>by
  have h3:=h (j - a) D13
  rw [show a+(j - a)=j by omega] at h3
  exact Decidable.of_not_not fun z=>by
   have z2:((R1.getD j []).getD k 0 != 0)=true:=bne_iff_ne.2 z
   rw [z2] at h3;cases h3)
 show (match rowI.piv R1 k a with|none=>(R1,a)|some i=>(rowI.clr k a (rowI.lift R1 k a i) R1.length,a+1))=_
 rw [e,← hl1]
structure EL (w0:World) (g cap len gb k m:Nat) (R:List (List Int)) (wr:World):Prop where
 N:Kd.N (Kd.slice 5 (Kd.int .u8)) 24 wr w0.heap.size (fun b=>b ≠ gb) (.slice (some ⟨g,0,none⟩) len cap) R
 box:wr.heap[gb]? = some (.cells #[.int .i64 k] 3 (0,0))
 B:Below w0.heap.size w0 wr
 low:w0.heap.size≤gb
 all:∀ r ∈ R,okI m r
section
variable {w0 wr w1:World} {g cap len gb k m:Nat} {R:List (List Int)}
theorem EL.ne (h:EL w0 g cap len gb k m R wr):gb ≠ g:=fun e=>Kd.N_ne h.N h.box D5 (by rw [e];simp [Value.ownBlock])
theorem EL.below (h:EL w0 g cap len gb k m R wr) (hb:Below wr.heap.size wr w1):EL w0 g cap len gb k m R w1 :=
 ⟨Kd.N_below h.N hb,qb h.box hb,pu h.B hb,h.low,h.all⟩
theorem EL.first {okn:Nat→Prop} (hN:Kd.N (Kd.slice 5 (Kd.int .u8)) 24 wr w0.heap.size okn (.slice (some ⟨g,0,none⟩) len cap) R) (hB:Below w0.heap.size w0 wr) (hR:∀ r ∈ R,okI m r) (k:Nat) :
  EL w0 g cap len wr.heap.size k m R (wr.alloc (.cells #[.int .i64 k] 3 (0,0))) :=
 ⟨Kd.N_mono (Kd.N_alloc (Kd.N_bound hN) _) (fun k hk=>by have:=hk.2;omega),heap_alloc_new wr _,pa hB _,hB.size,hR⟩
theorem EL.size (h:EL w0 g cap len gb k m R wr):R.length=len:=(N_len h.N).1.symm
theorem EL.row (h:EL w0 g cap len gb k m R wr) (i:Nat) (hi:i < len) :
  ∃ r A c,R.getD i []=r∧okI m r∧wr.cell? ⟨g,i,none⟩=some (.slice A m c)∧m≤c∧Kd.F (Kd.int .u8) wr (fun b=>b ≠ gb∧b ≠ g) A m r∧wr.frozen? ⟨g,i,none⟩=false:=by
 obtain ⟨A,c,h1,h2,h3,h4⟩:=N_row h.N i hi
 have hr:okI m (R.getD i []):=RowK.at_all (O:=rowI) h.all (by rw [h.size];exact hi)
 rw [hr.2] at h1 h2 h3
 exact ⟨_,A,c,rfl,hr,h1,h2,h3,h4⟩
theorem EL.put (h:EL w0 g cap len gb k m R wr) (i:Nat) (hi:i < len) {A:Option Addr} {c:Nat} {x:List Int} (hx:okI m x) (hc:m≤c) (hF:Kd.F (Kd.int .u8) wr (fun b=>b ≠ gb∧b ≠ g) A m x) :
  EL w0 g cap len gb k m (R.set i x) (wr.setCell ⟨g,i,none⟩ (.slice A m c)):=by
 obtain ⟨h1,h2⟩:=N_put h.N i hi (A:=A) (c:=c) (x:=x) (okp:=fun b=>b ≠ gb∧b ≠ g) (by rw [hx.2];exact hc) (by rw [hx.2];exact hF) (fun _ hk=>hk)
 rw [hx.2] at h1 h2
 exact ⟨h1,blk_grown h.box h2 (fun e=>h.ne (by injection e)),pt h.B (Kd.N_base h.N g D117),h.low,el_set_all h.all hx i⟩
theorem EL.fresh (h:EL w0 g cap len gb k m R wr) {A:Option Addr} {n c:Nat} {x:List Int} (ho:Kd.R (Kd.int .u8) 5 w1 wr.heap.size (fun _=>True) (.slice A n c) x) :
  Kd.F (Kd.int .u8) w1 (fun b=>b ≠ gb∧b ≠ g) A n x:=by
 have hg:=Kd.N_lt h.N g D117
 have hb:=blk_lt h.box
 exact Kd.R_F (Kd.R_mono (Kd.R_bound ho) (fun b hk=>by have:=hk.2.1;omega))
theorem EL.key (h:EL w0 g cap len gb k m R wr):wr.cell? ⟨gb,0,none⟩=some (.int .i64 k):=(blk_cell h.box 0).trans rfl
end
theorem impl_eliminate.calls (R:List (List Int)) (m n:Nat) (hR:∀ r ∈ R,okI m r) (hn:n≤m) (hm:m≤1000000) (hl:R.length≤1000) (g cap len:Nat) (hlen:R.length=len) (w0 w:World) (hB:Below w0.heap.size w0 w)
  (hN:Kd.N (Kd.slice 5 (Kd.int .u8)) 24 w w0.heap.size (fun _=>True) (.slice (some ⟨g,0,none⟩) len cap) R) :
  Calls Try.prog 143 #[.slice (some ⟨g,0,none⟩) len cap, .int .i64 n] w fun e w'=>e = .returned (.int .i64 ((rowI.red R n).2:Nat)) ∧
   Kd.N (Kd.slice 5 (Kd.int .u8)) 24 w' w0.heap.size (fun _=>True) (.slice (some ⟨g,0,none⟩) len cap) (rowI.red R n).1∧Below w0.heap.size w0 w':=by
 have hnc:len≤cap:=(N_len hN).2
 have hll:len≤1000:=by omega
 have HN:=am hN
 have HB:=am hB
 have HR:=am hR
 have HL:=am hlen
 clear hN hB hR hlen
 go_enter Try.func143,Try.ntmps143
 go_wp2_with fail
 go_loopg [5,6] (n+1) (fun fu v5 v6 wr=>∃ k gb:Nat,k≤n∧n - k < fu∧v5 = .int .i64 ((rowI.red R k).2:Nat)∧v6 = .pointer (some ⟨gb,0,none⟩)∧Aside0 (EL w0 g cap len gb k m (rowI.red R k).1 wr))
 case atStart=>exact ⟨0,w.heap.size,Nat.zero_le _,D13,rfl,rfl,⟨EL.first HN.out HB.out HR.out 0⟩⟩
 case round =>
  obtain ⟨k,gb,hk,hfu,rfl,rfl,HE⟩:=hrel
  have HA:=am (RowK.red_all (shutI m) HR.out k)
  obtain ⟨q,hq⟩:∃ q,q=rowI.red R k:=⟨_,rfl⟩
  rw [← hq] at HE HA ⊢
  have HQ:=am hq
  clear hq
  obtain ⟨R1,a⟩:=q
  have hlen1:R1.length=len:=by rw [show R1=(rowI.red R k).1 by rw [← HQ.out],RowK.red_length,HL.out]
  have ha:a≤len:=by
   have h2:=(RowK.red_rank (O:=rowI) R k).2
   rw [← HQ.out,HL.out] at h2
   exact h2
  have hbox:wr.cell? ⟨gb,0,none⟩=some (.int .i64 k):=(blk_cell HE.out.box 0).trans rfl
  by_cases hkn:k < n
  case neg =>
   have e:k=n:=by omega
   subst e
   have hkz:¬ (k:Int) < (k:Int):=by omega
   have hdk:decide ((k:Int) < (k:Int))=false:=decide_eq_false hkz
   go_wp2
   go_ret
   refine ⟨?_,?_,HE.out.B⟩
   ·rw [← HQ.out];rfl
   rw [← HQ.out];exact Kd.N_mono HE.out.N (fun _ _=>trivial)
  have hkz:(k:Int) < (n:Int):=by omega
  have hdk:decide ((k:Int) < (n:Int))=true:=decide_eq_true hkz
  by_cases hal:a < len
  case neg =>
   have e:a=len:=by omega
   subst e
   have haz:¬ (a:Int) < (a:Int):=by omega
   have hda:decide ((a:Int) < (a:Int))=false:=decide_eq_false haz
   go_wp2
   go_ret
   have hf:(rowI.red R k).2=R.length:=by rw [← HQ.out,HL.out]
   have e2:=RowK.red_full hf (n - k)
   rw [show k+(n - k)=n by omega] at e2
   rw [e2,← HQ.out]
   exact ⟨rfl,Kd.N_mono HE.out.N (fun _ _=>trivial),HE.out.B⟩
  have haz:(a:Int) < (len:Int):=by omega
  have hda:decide ((a:Int) < (len:Int))=true:=decide_eq_true haz
  have hac:(cap=a)=False:=eq_false D13
  have halc:a≤cap:=by omega
  go_wp2_with fail
  have hcell:∀ i,i < len - a→wr.cell? ⟨g,a+i,none⟩=some ((wr.cell? ⟨g,a+i,none⟩).getD undef):=fun i hi=>by
   obtain ⟨A,c,e,_⟩:=N_row HE.out.N (a+i) D13
   rw [e];rfl
  refine (el_IndexFunc 160 (enters_of Try.func160 rfl rfl) (.pointer (some ⟨gb,0,none⟩)) (fun i=>(R1.getD (a+i) []).getD k 0 != 0) ⟨g,a,none⟩ (len - a) (cap - a) (fun i=>(wr.cell? ⟨g,a+i,none⟩).getD undef) wr D13 (fun i hi=>by rw [add_at];exact hcell i hi) (fun i hi W hd=>?_)).mono ?_
  ·obtain ⟨A,c,e,hle,hF,_⟩:=N_row HE.out.N (a+i) D13
   obtain ⟨q,rfl⟩:=hd.out
   rw [e]
   have hlk:k < (R1.getD (a+i) []).length:=by
    have:=(RowK.at_all (O:=rowI) HA.out (i:=a+i) D13).2
    rw [show (rowI.nul:List Int)=[] from rfl] at this
    omega
   exact el_test gb k A c _ _ hlk _ hbox (Kd.F_drewN hF q)
  clear hcell
  rintro e w' ⟨⟨r,rfl,hr⟩,⟨q,rfl⟩⟩
  have hE1:=HE.out.below (w1:=wr.drewN q) (pb (Below.refl _ _) q)
  clear HE hbox
  have HE:=am hE1
  clear hE1
  generalize wr.drewN q=wr at HE ⊢
  have hbox:wr.cell? ⟨gb,0,none⟩=some (.int .i64 k):=(blk_cell HE.out.box 0).trans rfl
  rcases hr with ⟨rfl,hnone⟩ | ⟨i,hi,rfl,hp,hfirst⟩
  ·have hst:=el_none HQ.out HL.out hal hlen1 hnone
   have HS:=am hst
   clear hst
   go_wp2_with fail
   go_roundg (gk - 1)
   case measure=>omega
   case rel=>exact ⟨k+1,wr.heap.size,D13,D13,by rw [HS.out],by first|rfl|(simp;done),⟨by rw [HS.out];exact EL.first HE.out.N HE.out.B HE.out.all (k+1)⟩⟩
  have hst:=el_some HQ.out HL.out hal hlen1 hi hp hfirst
  have HS:=am hst
  clear hst
  replace hp:((R1.getD (a+i) []).getD k 0 != 0)=true:=hp
  have HP:=am hp
  clear hp hfirst
  have hneg:¬ ((i:Int) < 0):=by omega
  have hdn:decide ((i:Int) < 0)=false:=decide_eq_false hneg
  obtain ⟨p,hpe⟩:∃ p,p=a+i:=⟨_,rfl⟩
  have hpl:(p:Int) < (len:Int):=by omega
  have hp0:p < len:=by omega
  have hap:a≤p:=by omega
  rw [← hpe] at HP HS
  have hw:wrap64 ((a:Int)+(i:Int))=(p:Int):=by rw [hpe,wrap_id D13 D13];omega
  go_wp2_with fail
  clear hpe
  have hbm:k < m:=by omega
  replace HE:=am (HE.out.below (pd (Below.refl _ _)))
  obtain ⟨r1,A1,c1,hr1,hok1,hcell1,hle1,hF1,hfr1⟩:=HE.out.row p hp0
  obtain ⟨r0,A0,c0,hr0,hok0,hcell0,hle0,hF0,hfr0⟩:=HE.out.row a hal
  refine start_ (n:=20) (S:=fun w'=>w'.cell? ⟨g,p,none⟩=some (.slice A1 m c1)∧w'.cell? ⟨g,a,none⟩=some (.slice A0 m c0)) (ds:=[17,19]) #[Z,Z,Z,Z,Z,Z,Z,Z,Z,Z,Z,Z,Z,Z,Z,Z,Z,Z,Z,Z] D2 rfl rfl ⟨hcell1,hcell0⟩ (fun hHeld=>?_)
  generalize wr.drew=wr at HE hHeld hF1 hF0 hcell0 hcell1 hfr0 hfr1 ⊢
  have HF1:=am hF1
  have HF0:=am hF0
  clear hF1 hF0 hbox
  refine pure_ (i:=0) (N:=some 28) (v:=?_) (a':=?_) #[Y,Z,Z,Z,Z,Z,Z,Z,Z,Z,Z,Z,Z,Z,Z,Z,Z,Z,Z,Z] rfl rfl D2 hh (Or.inl ⟨D16,?_⟩) ?_ ?_
  rotate_left
  ·intro w'
   go_simp
   with_reducible rfl
  rotate_left
  ·simp only [Act.put,q1,q2,q3,i64_w,i32_w]
   rfl
  refine pure_ (i:=1) (N:=some 29) (v:=?_) (a':=?_) #[Y,Y,Z,Z,Z,Z,Z,Z,Z,Z,Z,Z,Z,Z,Z,Z,Z,Z,Z,Z] rfl rfl D2 hh (Or.inl ⟨D16,?_⟩) ?_ ?_
  rotate_left
  ·intro w'
   go_simp
   with_reducible rfl
  rotate_left
  ·simp only [Act.put,q1,q2,q3,i64_w,i32_w]
   rfl
  refine pure_ (i:=6) (N:=some 34) (v:=?_) (a':=?_) #[Y,Y,Z,Z,Z,Z,Y,Z,Z,Z,Z,Z,Z,Z,Z,Z,Z,Z,Z,Z] rfl rfl D2 hh (Or.inl ⟨D16,?_⟩) ?_ ?_
  rotate_left
  ·intro w'
   go_simp
   with_reducible rfl
  rotate_left
  ·simp only [Act.put,q1,q2,q3,i64_w,i32_w]
   rfl
  refine pure_ (i:=7) (N:=some 35) (v:=?_) (a':=?_) #[Y,Y,Z,Z,Z,Z,Y,Y,Z,Z,Z,Z,Z,Z,Z,Z,Z,Z,Z,Z] rfl rfl D2 hh (Or.inl ⟨D16,?_⟩) ?_ ?_
  rotate_left
  ·intro w'
   go_simp
   with_reducible rfl
  rotate_left
  ·simp only [Act.put,q1,q2,q3,i64_w,i32_w]
   rfl
  refine pure_ (i:=8) (N:=some 36) (v:=?_) (a':=?_) #[Y,Y,Z,Z,Z,Z,Y,Y,Y,Z,Z,Z,Z,Z,Z,Z,Z,Z,Z,Z] rfl rfl D2 hh (Or.inl ⟨D16,?_⟩) ?_ ?_
  rotate_left
  ·intro w'
   go_simp
   with_reducible rfl
  rotate_left
  ·simp only [Act.put,q1,q2,q3,i64_w,i32_w]
   rfl
  refine pure_ (i:=9) (N:=some 37) (v:=?_) (a':=?_) #[Y,Y,Z,Z,Z,Z,Y,Y,Y,Y,Z,Z,Z,Z,Z,Z,Z,Z,Z,Z] rfl rfl D2 hh (Or.inl ⟨D16,?_⟩) ?_ ?_
  rotate_left
  ·intro w'
   go_simp
   with_reducible rfl
  rotate_left
  ·simp only [Act.put,q1,q2,q3,i64_w,i32_w]
   rfl
  refine pure_ (i:=10) (N:=some 38) (v:=?_) (a':=?_) #[Y,Y,Z,Z,Z,Z,Y,Y,Y,Y,Y,Z,Z,Z,Z,Z,Z,Z,Z,Z] rfl rfl D2 hh (Or.inl ⟨D16,?_⟩) ?_ ?_
  rotate_left
  ·intro w'
   go_simp
   with_reducible rfl
  rotate_left
  ·simp only [Act.put,q1,q2,q3,i64_w,i32_w]
   rfl
  refine pure_ (i:=12) (N:=some 40) (v:=?_) (a':=?_) #[Y,Y,Z,Z,Z,Z,Y,Y,Y,Y,Y,Z,Y,Z,Z,Z,Z,Z,Z,Z] rfl rfl D2 hh (Or.inl ⟨D16,?_⟩) ?_ ?_
  rotate_left
  ·intro w'
   go_simp
   with_reducible rfl
  rotate_left
  ·simp only [Act.put,q1,q2,q3,i64_w,i32_w]
   rfl
  refine pure_ (i:=13) (N:=some 41) (v:=?_) (a':=?_) #[Y,Y,Z,Z,Z,Z,Y,Y,Y,Y,Y,Z,Y,Y,Z,Z,Z,Z,Z,Z] rfl rfl D2 hh (Or.inl ⟨D16,?_⟩) ?_ ?_
  rotate_left
  ·intro w'
   go_simp
   with_reducible rfl
  rotate_left
  ·simp only [Act.put,q1,q2,q3,i64_w,i32_w]
   rfl
  refine pure_ (i:=14) (N:=some 42) (v:=?_) (a':=?_) #[Y,Y,Z,Z,Z,Z,Y,Y,Y,Y,Y,Z,Y,Y,Y,Z,Z,Z,Z,Z] rfl rfl D2 hh (Or.inl ⟨D16,?_⟩) ?_ ?_
  rotate_left
  ·intro w'
   go_simp
   with_reducible rfl
  rotate_left
  ·simp only [Act.put,q1,q2,q3,i64_w,i32_w]
   rfl
  refine take_ (i:=11) (N:=some 39) (v:=?_) (a':=?_) #[Y,Y,Z,Z,Z,Z,Y,Y,Y,Y,Y,Y,Y,Y,Y,Z,Z,Z,Z,Z] rfl rfl D2 hh (Or.inl ⟨D16,?_⟩) hHeld ?_ ?_
  rotate_left
  ·rintro w' ⟨s0,s1⟩
   go_simp
   with_reducible rfl
  rotate_left
  ·simp only [Act.put,q1,q2,q3,i64_w,i32_w]
   rfl
  refine take_ (i:=15) (N:=some 43) (v:=?_) (a':=?_) #[Y,Y,Z,Z,Z,Z,Y,Y,Y,Y,Y,Y,Y,Y,Y,Y,Z,Z,Z,Z] rfl rfl D2 hh (Or.inl ⟨D16,?_⟩) hHeld ?_ ?_
  rotate_left
  ·rintro w' ⟨s0,s1⟩
   go_simp
   with_reducible rfl
  rotate_left
  ·simp only [Act.put,q1,q2,q3,i64_w,i32_w]
   rfl
  refine pure_ (i:=2) (N:=some 30) (v:=?_) (a':=?_) #[Y,Y,Y,Z,Z,Z,Y,Y,Y,Y,Y,Y,Y,Y,Y,Y,Z,Z,Z,Z] rfl rfl D2 hh (Or.inl ⟨D16,?_⟩) ?_ ?_
  rotate_left
  ·intro w'
   go_simp
   with_reducible rfl
  rotate_left
  ·simp only [Act.put,q1,q2,q3,i64_w,i32_w]
   rfl
  refine pure_ (i:=3) (N:=some 31) (v:=?_) (a':=?_) #[Y,Y,Y,Y,Z,Z,Y,Y,Y,Y,Y,Y,Y,Y,Y,Y,Z,Z,Z,Z] rfl rfl D2 hh (Or.inl ⟨D16,?_⟩) ?_ ?_
  rotate_left
  ·intro w'
   go_simp
   with_reducible rfl
  rotate_left
  ·simp only [Act.put,q1,q2,q3,i64_w,i32_w]
   rfl
  refine pure_ (i:=4) (N:=some 32) (v:=?_) (a':=?_) #[Y,Y,Y,Y,Y,Z,Y,Y,Y,Y,Y,Y,Y,Y,Y,Y,Z,Z,Z,Z] rfl rfl D2 hh (Or.inl ⟨D16,?_⟩) ?_ ?_
  rotate_left
  ·intro w'
   go_simp
   with_reducible rfl
  rotate_left
  ·simp only [Act.put,q1,q2,q3,i64_w,i32_w]
   rfl
  refine pure_ (i:=5) (N:=some 33) (v:=?_) (a':=?_) #[Y,Y,Y,Y,Y,Y,Y,Y,Y,Y,Y,Y,Y,Y,Y,Y,Z,Z,Z,Z] rfl rfl D2 hh (Or.inl ⟨D16,?_⟩) ?_ ?_
  rotate_left
  ·intro w'
   go_simp
   with_reducible rfl
  rotate_left
  ·simp only [Act.put,q1,q2,q3,i64_w,i32_w]
   rfl
  refine pure_ (i:=16) (N:=some 44) (v:=?_) (a':=?_) #[Y,Y,Y,Y,Y,Y,Y,Y,Y,Y,Y,Y,Y,Y,Y,Y,Y,Z,Z,Z] rfl rfl D2 hh (Or.inl ⟨D16,?_⟩) ?_ ?_
  rotate_left
  ·intro w'
   go_simp
   with_reducible rfl
  rotate_left
  ·simp only [Act.put,q1,q2,q3,i64_w,i32_w]
   rfl
  refine last_ (i:=17) (N:=none) #[Y,Y,Y,Y,Y,Y,Y,Y,Y,Y,Y,Y,Y,Y,Y,Y,Y,Y,Z,Z] rfl rfl D2 D5 (fun K hK=>?_)
  refine skip_ (w1:=?_) D16 rfl ?_ ?_
  rotate_left
  ·go_simp
   rfl
  refine hK.out _ _ ?_
  clear hK K
  have hE1:=HE.out.put a hal hok1 hle1 HF1.out
  have HF0':=am (Kd.F_far HF0.out (p:=⟨g,a,none⟩) (fun k hk=>hk.2) (.slice A1 m c1))
  clear HE HF0 HF1 hHeld hcell0 hcell1 hfr0 hfr1
  generalize wr.setCell ⟨g,a,none⟩ (.slice A1 m c1)=wr at hE1 HF0' ⊢
  have HE:=am hE1
  clear hE1
  obtain ⟨_,_,_,_,_,hcellp,_,_,hfrp⟩:=HE.out.row p hp0
  refine pure_ (i:=18) (N:=some 45) (v:=?_) (a':=?_) #[Y,Y,Y,Y,Y,Y,Y,Y,Y,Y,Y,Y,Y,Y,Y,Y,Y,Y,Y,Z] rfl rfl D2 hh (Or.inl ⟨D16,?_⟩) ?_ ?_
  rotate_left
  ·intro w'
   go_simp
   with_reducible rfl
  rotate_left
  ·simp only [Act.put,q1,q2,q3,i64_w,i32_w]
   rfl
  refine last_ (i:=19) (N:=none) #[Y,Y,Y,Y,Y,Y,Y,Y,Y,Y,Y,Y,Y,Y,Y,Y,Y,Y,Y,Y] rfl rfl D2 D5 (fun K hK=>?_)
  refine skip_ (w1:=?_) D16 rfl ?_ ?_
  rotate_left
  ·go_simp
   rfl
  refine hK.out _ _ ?_
  clear hK K
  refine done_ D2 ?_
  have hE1:=HE.out.put p hp0 hok0 hle0 HF0'.out
  clear HE HF0' hcellp hfrp
  generalize wr.setCell ⟨g,p,none⟩ (.slice A0 m c0)=wr at hE1 ⊢
  have HE:=am hE1
  clear hE1 hw
  go_wp2_with fail
  have htop:=el_top (by rw [hlen1];exact hal) hr0 hr1
  replace HE:=am (HE.out.below (pd (Below.refl _ _)))
  obtain ⟨r2,A2,c2,hr2,hok2,hcell2,hle2,hF2,hfr2⟩:=HE.out.row a hal
  rw [htop] at hr2
  subst hr2
  obtain ⟨ad2,rfl,hbyte⟩:=F_m hF2 hok2.2 k hbm
  obtain ⟨x,hx⟩:∃ x,x=r1.getD k 0:=⟨_,rfl⟩
  rw [← hx] at hbyte
  have hkey:=HE.out.key
  have hkm:(k:Int) < (m:Int):=by omega
  have hxb:Byte x:=by rw [hx];exact bytes_getD hok1.1 k
  obtain ⟨kI,hI⟩:=(ImplElim.impl_Inverse.ev hxb).rounds
  obtain ⟨kS,hS⟩:=(ImplElim.impl_scaled.ev hxb.inv hok1.1 (by rw [hok1.2];omega)).rounds
  have HI:=am hI
  have HSc:=am hS
  clear hI hS htop
  refine start_ (n:=17) (S:=fun w'=>w'.cell? ⟨g,a,none⟩=some (.slice (some ad2) m c2)∧w'.cell? ⟨gb,0,none⟩=some (.int .i64 k)∧w'.cell? (ad2.add k)=some (.int .u8 x)) (ds:=[16]) #[Z,Z,Z,Z,Z,Z,Z,Z,Z,Z,Z,Z,Z,Z,Z,Z,Z] D2 rfl rfl ⟨hcell2,hkey,hbyte⟩ (fun hHeld=>?_)
  generalize wr.drew=wr at HE hHeld hF2 hkey hbyte hcell2 hfr2 ⊢
  have HF2:=am hF2
  clear hF2 hkey hbyte hcell2 hfr2
  refine pure_ (i:=0) (N:=some 46) (v:=?_) (a':=?_) #[Y,Z,Z,Z,Z,Z,Z,Z,Z,Z,Z,Z,Z,Z,Z,Z,Z] rfl rfl D2 hh (Or.inl ⟨D16,?_⟩) ?_ ?_
  rotate_left
  ·intro w'
   go_simp
   with_reducible rfl
  rotate_left
  ·simp only [Act.put,q1,q2,q3,i64_w,i32_w]
   rfl
  refine pure_ (i:=1) (N:=some 47) (v:=?_) (a':=?_) #[Y,Y,Z,Z,Z,Z,Z,Z,Z,Z,Z,Z,Z,Z,Z,Z,Z] rfl rfl D2 hh (Or.inl ⟨D16,?_⟩) ?_ ?_
  rotate_left
  ·intro w'
   go_simp
   with_reducible rfl
  rotate_left
  ·simp only [Act.put,q1,q2,q3,i64_w,i32_w]
   rfl
  refine pure_ (i:=2) (N:=some 48) (v:=?_) (a':=?_) #[Y,Y,Y,Z,Z,Z,Z,Z,Z,Z,Z,Z,Z,Z,Z,Z,Z] rfl rfl D2 hh (Or.inl ⟨D16,?_⟩) ?_ ?_
  rotate_left
  ·intro w'
   go_simp
   with_reducible rfl
  rotate_left
  ·simp only [Act.put,q1,q2,q3,i64_w,i32_w]
   rfl
  refine pure_ (i:=3) (N:=some 49) (v:=?_) (a':=?_) #[Y,Y,Y,Y,Z,Z,Z,Z,Z,Z,Z,Z,Z,Z,Z,Z,Z] rfl rfl D2 hh (Or.inl ⟨D16,?_⟩) ?_ ?_
  rotate_left
  ·intro w'
   go_simp
   with_reducible rfl
  rotate_left
  ·simp only [Act.put,q1,q2,q3,i64_w,i32_w]
   rfl
  refine pure_ (i:=4) (N:=some 50) (v:=?_) (a':=?_) #[Y,Y,Y,Y,Y,Z,Z,Z,Z,Z,Z,Z,Z,Z,Z,Z,Z] rfl rfl D2 hh (Or.inl ⟨D16,?_⟩) ?_ ?_
  rotate_left
  ·intro w'
   go_simp
   with_reducible rfl
  rotate_left
  ·simp only [Act.put,q1,q2,q3,i64_w,i32_w]
   rfl
  refine take_ (i:=5) (N:=some 51) (v:=?_) (a':=?_) #[Y,Y,Y,Y,Y,Y,Z,Z,Z,Z,Z,Z,Z,Z,Z,Z,Z] rfl rfl D2 hh (Or.inl ⟨D16,?_⟩) hHeld ?_ ?_
  rotate_left
  ·rintro w' ⟨s0,s1,s2⟩
   go_simp
   with_reducible rfl
  rotate_left
  ·simp only [Act.put,q1,q2,q3,i64_w,i32_w]
   rfl
  refine take_ (i:=6) (N:=some 52) (v:=?_) (a':=?_) #[Y,Y,Y,Y,Y,Y,Y,Z,Z,Z,Z,Z,Z,Z,Z,Z,Z] rfl rfl D2 hh (Or.inl ⟨D16,?_⟩) hHeld ?_ ?_
  rotate_left
  ·rintro w' ⟨s0,s1,s2⟩
   go_simp
   with_reducible rfl
  rotate_left
  ·simp only [Act.put,q1,q2,q3,i64_w,i32_w]
   rfl
  refine pure_ (i:=7) (N:=some 53) (v:=?_) (a':=?_) #[Y,Y,Y,Y,Y,Y,Y,Y,Z,Z,Z,Z,Z,Z,Z,Z,Z] rfl rfl D2 hh (Or.inl ⟨D16,?_⟩) ?_ ?_
  rotate_left
  ·intro w'
   go_simp
   with_reducible rfl
  rotate_left
  ·simp only [Act.put,q1,q2,q3,i64_w,i32_w]
   rfl
  refine take_ (i:=8) (N:=some 54) (v:=?_) (a':=?_) #[Y,Y,Y,Y,Y,Y,Y,Y,Y,Z,Z,Z,Z,Z,Z,Z,Z] rfl rfl D2 hh (Or.inl ⟨D16,?_⟩) hHeld ?_ ?_
  rotate_left
  ·rintro w' ⟨s0,s1,s2⟩
   go_simp
   with_reducible rfl
  rotate_left
  ·simp only [Act.put,q1,q2,q3,i64_w,i32_w]
   rfl
  refine pure_ (i:=10) (N:=some 56) (v:=?_) (a':=?_) #[Y,Y,Y,Y,Y,Y,Y,Y,Y,Z,Y,Z,Z,Z,Z,Z,Z] rfl rfl D2 hh (Or.inl ⟨D16,?_⟩) ?_ ?_
  rotate_left
  ·intro w'
   go_simp
   with_reducible rfl
  rotate_left
  ·simp only [Act.put,q1,q2,q3,i64_w,i32_w]
   rfl
  refine pure_ (i:=11) (N:=some 57) (v:=?_) (a':=?_) #[Y,Y,Y,Y,Y,Y,Y,Y,Y,Z,Y,Y,Z,Z,Z,Z,Z] rfl rfl D2 hh (Or.inl ⟨D16,?_⟩) ?_ ?_
  rotate_left
  ·intro w'
   go_simp
   with_reducible rfl
  rotate_left
  ·simp only [Act.put,q1,q2,q3,i64_w,i32_w]
   rfl
  refine pure_ (i:=12) (N:=some 58) (v:=?_) (a':=?_) #[Y,Y,Y,Y,Y,Y,Y,Y,Y,Z,Y,Y,Y,Z,Z,Z,Z] rfl rfl D2 hh (Or.inl ⟨D16,?_⟩) ?_ ?_
  rotate_left
  ·intro w'
   go_simp
   with_reducible rfl
  rotate_left
  ·simp only [Act.put,q1,q2,q3,i64_w,i32_w]
   rfl
  refine take_ (i:=13) (N:=some 59) (v:=?_) (a':=?_) #[Y,Y,Y,Y,Y,Y,Y,Y,Y,Z,Y,Y,Y,Y,Z,Z,Z] rfl rfl D2 hh (Or.inl ⟨D16,?_⟩) hHeld ?_ ?_
  rotate_left
  ·rintro w' ⟨s0,s1,s2⟩
   go_simp
   with_reducible rfl
  rotate_left
  ·simp only [Act.put,q1,q2,q3,i64_w,i32_w]
   rfl
  refine one_ (i:=9) (N:=some 55) #[Y,Y,Y,Y,Y,Y,Y,Y,Y,Y,Y,Y,Y,Y,Z,Z,Z] rfl rfl D2 D5 (fun K hK=>?_)
  refine goes_ Try.func136 D2 rfl #[Value.int .u8 x] D16 rfl rfl D37 ?_
  refine (impl_Inverse.calls kI x (inv x) _ HI.out).mono ?_
  rintro e w4 ⟨rfl,⟨q4,rfl⟩⟩
  refine ⟨_,rfl,?_⟩
  replace HE:=am (HE.out.below (w1:=wr.drewN q4) (pb (Below.refl _ _) q4))
  replace HF2:=am (Kd.F_drewN HF2.out q4)
  refine hK.out _ _ ⟨hHeld.1,hHeld.2.1,hHeld.2.2⟩ (fun hHeld=>?_)
  clear hK K
  refine norm_ (nA 55) ?_
  refine one_ (i:=14) (N:=some 60) #[Y,Y,Y,Y,Y,Y,Y,Y,Y,Y,Y,Y,Y,Y,Y,Z,Z] rfl rfl D2 D5 (fun K hK=>?_)
  refine goes_ Try.func119 D2 rfl #[Value.int .u8 (inv x),Value.slice (some ad2) m c2] D16 rfl rfl D37 ?_
  have hS:=impl_scaled.calls kS (inv x) (some ad2) c2 r1 (scale (inv x) r1) (wr.drewN q4) (F_C HF2.out hok1.2) (by rw [hok1.2];exact hle2) HSc.out
  rw [hok1.2] at hS
  refine hS.mono ?_
  clear hS
  rintro e w5 ⟨v5,rfl,ho5,hb5⟩
  refine ⟨_,rfl,?_⟩
  obtain ⟨A5,c5,e5⟩:=Kd.R_slice ho5
  rw [scale_length,hok1.2] at e5
  subst e5
  have hle5:m≤c5:=(Kd.R_reads' ho5).2.1
  have HF5:=am (HE.out.fresh ho5)
  replace HE:=am (HE.out.below hb5)
  replace hHeld:=(show _∧_∧_ from ⟨pw_cell_below hb5 hHeld.1,pw_cell_below hb5 hHeld.2.1,pw_cell_below hb5 hHeld.2.2⟩)
  clear ho5 hb5 HF2
  refine hK.out _ _ ⟨hHeld.1,hHeld.2.1,hHeld.2.2⟩ (fun hHeld=>?_)
  clear hK K
  refine norm_ (nA 60) ?_
  refine pure_ (i:=15) (N:=some 61) (v:=?_) (a':=?_) #[Y,Y,Y,Y,Y,Y,Y,Y,Y,Y,Y,Y,Y,Y,Y,Y,Z] rfl rfl D2 hh (Or.inl ⟨D16,?_⟩) ?_ ?_
  rotate_left
  ·intro w'
   go_simp
   with_reducible rfl
  rotate_left
  ·simp only [Act.put,q1,q2,q3,i64_w,i32_w]
   rfl
  obtain ⟨_,_,_,_,_,hcell3,_,_,hfr3⟩:=HE.out.row a hal
  refine last_ (i:=16) (N:=none) #[Y,Y,Y,Y,Y,Y,Y,Y,Y,Y,Y,Y,Y,Y,Y,Y,Y] rfl rfl D2 D5 (fun K hK=>?_)
  refine skip_ (w1:=?_) D16 rfl ?_ ?_
  rotate_left
  ·go_simp
   rfl
  refine hK.out _ _ ?_
  clear hK K
  refine done_ D2 ?_
  have hokx:=el_scale hxb.inv hok1
  have hE1:=HE.out.put a hal hokx hle5 HF5.out
  rw [show scale (inv x) r1=scale (inv (r1.getD k 0)) r1 by rw [hx],el_lift hr0 hr1] at hE1
  clear hx
  clear HE HF5 hcell3 hfr3 hHeld
  generalize w5.setCell ⟨g,a,none⟩ (.slice A5 m c5)=wr at hE1 ⊢
  obtain ⟨R3,hR3⟩:∃ R3,R3=rowI.lift R1 k a p:=⟨_,rfl⟩
  rw [← hR3] at hE1 HS
  clear hR3
  have HE:=am hE1
  clear hE1
  go_wp2_with fail
  go_loopg [64] (len+1) (fun fu v64 wr=>∃ r:Nat,r≤len∧len - r < fu∧v64 = .int .i64 r∧Aside0 (EL w0 g cap len gb k m (rowI.clr k a R3 r) wr))
  case atStart=>exact ⟨0,Nat.zero_le _,D13,rfl,HE⟩
  case round =>
   clear HE
   obtain ⟨r,hr,hfr,rfl,HE⟩:=hrel
   by_cases hrl:r < len
   case neg =>
    have e:r=len:=by omega
    subst e
    have hrz:¬ (r:Int) < (r:Int):=by omega
    have hdr:decide ((r:Int) < (r:Int))=false:=decide_eq_false hrz
    have hkey:=HE.out.key
    go_wp2_with fail
    go_roundg (n - k)
    case measure=>omega
    case rel=>exact ⟨k+1,_,D13,D13,by rw [HS.out];go_num,by first|rfl|(simp;done),⟨by rw [HS.out];exact EL.first HE.out.N HE.out.B HE.out.all (k+1)⟩⟩
   have hrz:(r:Int) < (len:Int):=by omega
   have hkey:=HE.out.key
   have hdr:decide ((r:Int) < (len:Int))=true:=decide_eq_true hrz
   obtain ⟨rr,A6,c6,hr6,hok6,hcell6,hle6,hF6,hfr6⟩:=HE.out.row r hrl
   by_cases hra:r=a
   case pos =>
    have hS:=el_clr_skip hr6 (.inl hra)
    have HT:=am hS
    clear hS hF6
    subst hra
    go_wp2_with fail
    go_roundg (len - r)
    case measure=>omega
    case rel=>exact ⟨r+1,D13,D13,by go_num,⟨by rw [HT.out];exact HE.out⟩⟩
   have hraz:¬ (r:Int)=(a:Int):=by omega
   obtain ⟨ad6,rfl,hbyte6⟩:=F_m hF6 hok6.2 k hbm
   obtain ⟨y,hy⟩:∃ y,y=rr.getD k 0:=⟨_,rfl⟩
   rw [← hy] at hbyte6
   have HY:=am hy
   clear hy
   have hkm:(k:Int) < (m:Int):=by omega
   by_cases hy0:y=0
   case pos =>
    have hS:=el_clr_skip hr6 (.inr (HY.out.symm.trans hy0))
    have HT:=am hS
    clear hS hF6 HY
    subst hy0
    go_wp2_with fail
    go_roundg (len - r)
    case measure=>omega
    case rel=>exact ⟨r+1,D13,D13,by go_num,⟨by rw [HT.out];exact HE.out⟩⟩
   have hyb:Byte y:=by rw [HY.out];exact bytes_getD hok6.1 k
   replace HE:=am (HE.out.below (pd (Below.refl _ _)))
   replace hF6:=Kd.F_drew hF6
   obtain ⟨ry,A7,c7,hr7,hok7,hcell7,hle7,hF7,hfr7⟩:=HE.out.row a hal
   have hS:=el_clr_do hr6 hr7 hra (by rw [← HY.out];exact hy0)
   rw [← HY.out] at hS
   have HT:=am hS
   clear hS
   have hok8:=el_scale hyb hok7
   have hok9:=el_add hok6 hok8
   obtain ⟨kS,hS⟩:=(ImplElim.impl_scaled.ev hyb hok7.1 (by rw [hok7.2];omega)).rounds
   obtain ⟨kA,hA⟩:=(ImplElim.impl_added.ev hok6.1 hok8.1 (by rw [hok6.2,hok8.2]) (by rw [hok6.2];omega)).rounds
   have HSc:=am hS
   have HAd:=am hA
   clear hS hA
   have hb1:((r:Int) != (a:Int))=true:=bne_iff_ne.2 hraz
   have hb2:(y != 0)=true:=bne_iff_ne.2 hy0
   go_wp2_with fail
   refine start_ (n:=15) (S:=fun w'=>w'.cell? ⟨g,a,none⟩=some (.slice A7 m c7)∧w'.cell? ⟨gb,0,none⟩=some (.int .i64 k)∧w'.cell? (ad6.add k)=some (.int .u8 y)) (ds:=[14]) #[Z,Z,Z,Z,Z,Z,Z,Z,Z,Z,Z,Z,Z,Z,Z] D2 rfl rfl ⟨hcell7,hkey,hbyte6⟩ (fun hHeld=>?_)
   generalize wr.drew=wr at HE hHeld hF6 hF7 hcell6 hfr6 hkey hbyte6 hcell7 hfr7 ⊢
   have HF6:=am hF6
   have HF7:=am hF7
   clear hF6 hF7 hcell6 hfr6 hkey hbyte6 hcell7 hfr7
   refine pure_ (i:=0) (N:=some 79) (v:=?_) (a':=?_) #[Y,Z,Z,Z,Z,Z,Z,Z,Z,Z,Z,Z,Z,Z,Z] rfl rfl D2 hh (Or.inl ⟨D16,?_⟩) ?_ ?_
   rotate_left
   ·intro w'
    go_simp
    with_reducible rfl
   rotate_left
   ·simp only [Act.put,q1,q2,q3,i64_w,i32_w]
    rfl
   refine pure_ (i:=1) (N:=some 80) (v:=?_) (a':=?_) #[Y,Y,Z,Z,Z,Z,Z,Z,Z,Z,Z,Z,Z,Z,Z] rfl rfl D2 hh (Or.inl ⟨D16,?_⟩) ?_ ?_
   rotate_left
   ·intro w'
    go_simp
    with_reducible rfl
   rotate_left
   ·simp only [Act.put,q1,q2,q3,i64_w,i32_w]
    rfl
   refine pure_ (i:=2) (N:=some 81) (v:=?_) (a':=?_) #[Y,Y,Y,Z,Z,Z,Z,Z,Z,Z,Z,Z,Z,Z,Z] rfl rfl D2 hh (Or.inl ⟨D16,?_⟩) ?_ ?_
   rotate_left
   ·intro w'
    go_simp
    with_reducible rfl
   rotate_left
   ·simp only [Act.put,q1,q2,q3,i64_w,i32_w]
    rfl
   refine pure_ (i:=3) (N:=some 82) (v:=?_) (a':=?_) #[Y,Y,Y,Y,Z,Z,Z,Z,Z,Z,Z,Z,Z,Z,Z] rfl rfl D2 hh (Or.inl ⟨D16,?_⟩) ?_ ?_
   rotate_left
   ·intro w'
    go_simp
    with_reducible rfl
   rotate_left
   ·simp only [Act.put,q1,q2,q3,i64_w,i32_w]
    rfl
   refine take_ (i:=4) (N:=some 83) (v:=?_) (a':=?_) #[Y,Y,Y,Y,Y,Z,Z,Z,Z,Z,Z,Z,Z,Z,Z] rfl rfl D2 hh (Or.inl ⟨D16,?_⟩) hHeld ?_ ?_
   rotate_left
   ·rintro w' ⟨s0,s1,s2⟩
    go_simp
    with_reducible rfl
   rotate_left
   ·simp only [Act.put,q1,q2,q3,i64_w,i32_w]
    rfl
   refine pure_ (i:=5) (N:=some 84) (v:=?_) (a':=?_) #[Y,Y,Y,Y,Y,Y,Z,Z,Z,Z,Z,Z,Z,Z,Z] rfl rfl D2 hh (Or.inl ⟨D16,?_⟩) ?_ ?_
   rotate_left
   ·intro w'
    go_simp
    with_reducible rfl
   rotate_left
   ·simp only [Act.put,q1,q2,q3,i64_w,i32_w]
    rfl
   refine take_ (i:=6) (N:=some 85) (v:=?_) (a':=?_) #[Y,Y,Y,Y,Y,Y,Y,Z,Z,Z,Z,Z,Z,Z,Z] rfl rfl D2 hh (Or.inl ⟨D16,?_⟩) hHeld ?_ ?_
   rotate_left
   ·rintro w' ⟨s0,s1,s2⟩
    go_simp
    with_reducible rfl
   rotate_left
   ·simp only [Act.put,q1,q2,q3,i64_w,i32_w]
    rfl
   refine pure_ (i:=7) (N:=some 86) (v:=?_) (a':=?_) #[Y,Y,Y,Y,Y,Y,Y,Y,Z,Z,Z,Z,Z,Z,Z] rfl rfl D2 hh (Or.inl ⟨D16,?_⟩) ?_ ?_
   rotate_left
   ·intro w'
    go_simp
    with_reducible rfl
   rotate_left
   ·simp only [Act.put,q1,q2,q3,i64_w,i32_w]
    rfl
   refine pure_ (i:=8) (N:=some 87) (v:=?_) (a':=?_) #[Y,Y,Y,Y,Y,Y,Y,Y,Y,Z,Z,Z,Z,Z,Z] rfl rfl D2 hh (Or.inl ⟨D16,?_⟩) ?_ ?_
   rotate_left
   ·intro w'
    go_simp
    with_reducible rfl
   rotate_left
   ·simp only [Act.put,q1,q2,q3,i64_w,i32_w]
    rfl
   refine pure_ (i:=9) (N:=some 88) (v:=?_) (a':=?_) #[Y,Y,Y,Y,Y,Y,Y,Y,Y,Y,Z,Z,Z,Z,Z] rfl rfl D2 hh (Or.inl ⟨D16,?_⟩) ?_ ?_
   rotate_left
   ·intro w'
    go_simp
    with_reducible rfl
   rotate_left
   ·simp only [Act.put,q1,q2,q3,i64_w,i32_w]
    rfl
   refine take_ (i:=10) (N:=some 89) (v:=?_) (a':=?_) #[Y,Y,Y,Y,Y,Y,Y,Y,Y,Y,Y,Z,Z,Z,Z] rfl rfl D2 hh (Or.inl ⟨D16,?_⟩) hHeld ?_ ?_
   rotate_left
   ·rintro w' ⟨s0,s1,s2⟩
    go_simp
    with_reducible rfl
   rotate_left
   ·simp only [Act.put,q1,q2,q3,i64_w,i32_w]
    rfl
   refine one_ (i:=11) (N:=some 90) #[Y,Y,Y,Y,Y,Y,Y,Y,Y,Y,Y,Y,Z,Z,Z] rfl rfl D2 D5 (fun K hK=>?_)
   refine goes_ Try.func119 D2 rfl #[Value.int .u8 y,Value.slice A7 m c7] D16 rfl rfl D37 ?_
   have hS:=impl_scaled.calls kS y A7 c7 ry (scale y ry) wr (F_C HF7.out hok7.2) (by rw [hok7.2];exact hle7) HSc.out
   rw [hok7.2] at hS
   refine hS.mono ?_
   clear hS
   rintro e w5 ⟨v5,rfl,ho5,hb5⟩
   refine ⟨_,rfl,?_⟩
   obtain ⟨A8,c8,e8⟩:=Kd.R_slice ho5
   rw [scale_length,hok7.2] at e8
   subst e8
   have hle8:m≤c8:=(Kd.R_reads' ho5).2.1
   have HF8:=am (HE.out.fresh ho5)
   replace HE:=am (HE.out.below hb5)
   replace HF6:=am (Kd.F_below HF6.out hb5)
   replace hHeld:=(show _∧_∧_ from ⟨pw_cell_below hb5 hHeld.1,pw_cell_below hb5 hHeld.2.1,pw_cell_below hb5 hHeld.2.2⟩)
   clear ho5 hb5 HF7
   refine hK.out _ _ ⟨hHeld.1,hHeld.2.1,hHeld.2.2⟩ (fun hHeld=>?_)
   clear hK K
   refine norm_ (nA 90) ?_
   refine one_ (i:=12) (N:=some 91) #[Y,Y,Y,Y,Y,Y,Y,Y,Y,Y,Y,Y,Y,Z,Z] rfl rfl D2 D5 (fun K hK=>?_)
   refine goes_ Try.func118 D2 rfl #[Value.slice (some ad6) m c6,Value.slice A8 m c8] D16 rfl rfl D37 ?_
   have hS:=impl_added.calls kA (some ad6) c6 rr A8 c8 (scale y ry) (addV rr (scale y ry)) w5 (F_C HF6.out hok6.2) (by rw [hok6.2];exact hle6) (F_C HF8.out hok8.2) (by rw [hok8.2];exact hle8) HAd.out
   rw [hok6.2,hok8.2] at hS
   refine hS.mono ?_
   clear hS
   rintro e w6 ⟨v6,rfl,ho6,hb6⟩
   refine ⟨_,rfl,?_⟩
   obtain ⟨A9,c9,e9⟩:=Kd.R_slice ho6
   rw [hok9.2] at e9
   subst e9
   have hle9:m≤c9:=(Kd.R_reads' ho6).2.1
   have HF9:=am (HE.out.fresh ho6)
   replace HE:=am (HE.out.below hb6)
   replace hHeld:=(show _∧_∧_ from ⟨pw_cell_below hb6 hHeld.1,pw_cell_below hb6 hHeld.2.1,pw_cell_below hb6 hHeld.2.2⟩)
   clear ho6 hb6 HF6 HF8
   refine hK.out _ _ ⟨hHeld.1,hHeld.2.1,hHeld.2.2⟩ (fun hHeld=>?_)
   clear hK K
   refine norm_ (nA 91) ?_
   refine pure_ (i:=13) (N:=some 92) (v:=?_) (a':=?_) #[Y,Y,Y,Y,Y,Y,Y,Y,Y,Y,Y,Y,Y,Y,Z] rfl rfl D2 hh (Or.inl ⟨D16,?_⟩) ?_ ?_
   rotate_left
   ·intro w'
    go_simp
    with_reducible rfl
   rotate_left
   ·simp only [Act.put,q1,q2,q3,i64_w,i32_w]
    rfl
   obtain ⟨_,_,_,_,_,hcell3,_,_,hfr3⟩:=HE.out.row r hrl
   refine last_ (i:=14) (N:=none) #[Y,Y,Y,Y,Y,Y,Y,Y,Y,Y,Y,Y,Y,Y,Y] rfl rfl D2 D5 (fun K hK=>?_)
   refine skip_ (w1:=?_) D16 rfl ?_ ?_
   rotate_left
   ·go_simp
    rfl
   refine hK.out _ _ ?_
   clear hK K
   refine done_ D2 ?_
   have hE1:=HE.out.put r hrl hok9 hle9 HF9.out
   clear HE HF9 hcell3 hfr3 hHeld
   generalize w6.setCell ⟨g,r,none⟩ (.slice A9 m c9)=wr at hE1 ⊢
   rw [← HT.out] at hE1
   have HE:=am hE1
   clear hE1
   go_wp2_with fail
   go_roundg (len - r)
   case measure=>omega
   case rel=>exact ⟨r+1,D13,D13,by go_num,HE⟩
end
end
section
section
open Go.Proofs.Yteflgifmdojahaa.Gf Go.Proofs.Yteflgifmdojahaa.Kit Go.Proofs.Yteflgifmdojahaa.KitW Go.Proofs.Yteflgifmdojahaa.KitN
namespace ImplInv
theorem impl_identity.ev_l0 (n:Nat) (hn:n≤1048576):∀ (d i:Nat) (o:List (List Int)),i+d=n→o=(idM n).take i→Ev (fun k=>impl_identity.l0 k (n:Int) o (n:Int) (i:Int)) (idM n)
 | 0,i,o,hi,ho=>by
  refine Ev.step (fun k=>impl_identity.l0.eq_2 _ _ _ _ k) ?_
  refine ev_neg D13 (ev_now ?_)
  rw [ho,List.take_of_length_le (by simp [idM];omega)]
 | d+1,i,o,hi,ho=>by
  have hl:o.length=i:=by rw [ho,List.length_take];simp [idM];omega
  refine Ev.step (fun k=>impl_identity.l0.eq_2 _ _ _ _ k) ?_
  simp only [Option.bind_some,Int.toNat_natCast,List.length_replicate]
  refine ev_pos D13 (ev_pos D13 (ev_pos D13 (ev_pos D13 (ev_pos D13 (ev_pos D13 ?_)))))
  rw [inc D13]
  refine impl_identity.ev_l0 n hn d (i+1) _ D13 ?_
  rw [List.take_succ_eq_append_getElem (by simp [idM];omega),← ho]
  simp [idM]
theorem impl_identity.ev (n:Nat) (hn:n≤1048576):Ev (fun k=>impl_identity.f k (n:Int)) (idM n):=by
 unfold impl_identity.f
 exact impl_identity.ev_l0 n hn n 0 [] D13 rfl
end ImplInv
theorem iv_info8:(Try.prog.info? 5).map (fun i=>(i.zero,i.size,i.bytes))=some (some (.int .u8 0),1,1):=by kernel_rfl
theorem iv_info:(Try.prog.info? 24).map (fun i=>(i.zero,i.size,i.bytes))=some (some (.slice none 0 0),1,24):=by kernel_rfl
def impl_inverseOf.f (l0:List (List Int)):Option (List (List Int) × Bool):=if sqN l0=true then some (invM l0) else none
/-- The first loop: rows with the identity's beside them. -/
structure IV (w:World) (l0:List (List Int)) (ad15:Addr) (i:Nat) (v5:Value) (wr:World):Prop where
 N:Kd.N (Kd.slice 5 (Kd.int .u8)) 24 wr w.heap.size (fun _=>True) v5 ((catM l0).take i)
 F:Kd.F (Kd.slice 5 (Kd.int .u8)) wr (fun k=>True∧some k ≠ v5.ownBlock) (some ad15) l0.length (idM l0.length)
 B:Below w.heap.size w wr
theorem IV.below {w wr w1:World} {l0:List (List Int)} {ad15:Addr} {i:Nat} {v5:Value} (h:IV w l0 ad15 i v5 wr) (hb:Below wr.heap.size wr w1):IV w l0 ad15 i v5 w1:=⟨Kd.N_below h.N hb,Kd.F_below h.F hb,pu h.B hb⟩
theorem IV.row {w wr:World} {l0:List (List Int)} {ad15:Addr} {i:Nat} {v5:Value} (h:IV w l0 ad15 i v5 wr) (j:Nat) (hj:j < l0.length) :
  ∃ A c,wr.cell? (ad15.add j)=some (.slice A ((idM l0.length).getD j []).length c)∧((idM l0.length).getD j []).length≤c∧Kd.F (Kd.int .u8) wr (fun k=>True∧some k ≠ v5.ownBlock) A ((idM l0.length).getD j []).length ((idM l0.length).getD j []):=by
 obtain ⟨ad,c,e,_,hK,hcc,_⟩:=Kd.F_get h.F ([]:List Int) (j:Int) D13 D13
 injection e with e
 subst e
 rw [Int.toNat_natCast] at hK hcc
 obtain ⟨A,c1,rfl,hle,hF⟩:=Kd.FK_slice_open hK
 have h0:=hcc 0 _ rfl
 have hsz:(Kd.slice 5 (Kd.int .u8)).sz=1:=rfl
 rw [hsz,Nat.mul_one,Nat.add_zero] at h0
 exact ⟨A,c1,h0,hle,hF⟩
/-- The second loop: what stands beside is copied out. -/
structure IW (w:World) (D:List (List Int)) (n g cap len:Nat) (i:Nat) (v8:Value) (wr:World):Prop where
 N:Kd.N (Kd.slice 5 (Kd.int .u8)) 24 wr w.heap.size (fun k=>True∧some k ≠ v8.ownBlock) (.slice (some ⟨g,0,none⟩) len cap) D
 S:Kd.S (Kd.slice 5 (Kd.int .u8)) 24 wr w.heap.size (fun _=>True) v8 ((D.map (List.drop n)).take i)
 B:Below w.heap.size w wr
theorem impl_inverseOf.calls (A0:Option Addr) (c0:Nat) (l0:List (List Int)) (r1:List (List Int)) (r2:Bool) (w:World) (hr0:Kd.C (Kd.slice 5 (Kd.int .u8)) w A0 l0.length l0) (hc0:l0.length≤c0) (h:impl_inverseOf.f l0=some (r1,r2)) :
  Calls Try.prog 92 #[.slice A0 l0.length c0] w fun e w'=>∃ v0_:Value,e = .returned (.tuple #[v0_, .bool r2])∧Kd.S (Kd.slice 5 (Kd.int .u8)) 24 w' w.heap.size (fun _=>True) v0_ r1∧Below w.heap.size w w':=by
 unfold impl_inverseOf.f at h
 by_cases hs:sqN l0=true
 case neg=>rw [if_neg hs] at h;cases h
 rw [if_pos hs] at h
 have hrr:invM l0=(r1,r2):=Option.some.inj h
 clear h
 obtain ⟨h1,h2,h3⟩:=sqN_iff.1 hs
 clear hs
 obtain ⟨ad0,rfl,_⟩:=hr0.2.2 D13
 obtain ⟨n,hn⟩:∃ n,n=l0.length:=⟨_,rfl⟩
 obtain ⟨kI,hI⟩:=(ImplInv.impl_identity.ev l0.length D13).rounds
 have HI:=am hI
 have HN:=am hn
 have HR0:=am hr0
 have HO3:=am h3
 have HRR:=am hrr
 rw [← hn] at h1 h2 hc0 ⊢
 clear hI hn hr0 h3 hrr
 have HB:=am (Below.refl w.heap.size w)
 go_enter Try.func92,Try.ntmps92
 go_wp2_with (first|((with_reducible refine gD 13 ?_);refine Kd.N_lit (Kd.slice 5 (Kd.int .u8)) _ 24 D16 (N':=13) D16 (xs:=([]:List (List Int))) (inner:=[]) (ok:=fun _=>True) (okp:=fun _=>True) D33 D65 (fun _ hk=>hk) trivial (Below.refl _ _) (Nat.le_refl _) D44 ?_;intro v13 w3 ho4 hb hg_ hnew_;clear hg_ hnew_;have HO:=am ho4;clear HB;have HB:=am hb;clear hb ho4)|fail)
 have hI:impl_identity.f kI (n:Int)=some (idM l0.length):=by rw [HN.out];exact HI.out
 refine (impl_identity.calls kI (n:Int) (idM l0.length) _ hI).mono ?_
 clear hI
 rintro e w4 ⟨v15,rfl,ho,hb⟩
 obtain ⟨g15,c15,e15,_⟩:=Kd.S_form ho (by rw [idM_length];have:=HN.out;omega)
 rw [idM_length] at e15
 have hN4:=Kd.N_below HO.out hb
 have hlt:=Kd.N_lt HO.out
 have HX:=am (show IV w l0 ⟨g15,0,none⟩ 0 v13 w4 from ⟨by simpa using hN4,by
  have hS:=Kd.S_F (n:=l0.length) (by rw [e15] at ho;exact Kd.S_mono (Kd.S_bound ho) (ok':=fun k=>True∧some k ≠ v13.ownBlock) (fun k hk=>⟨trivial,fun e=>by have:=hlt k e.symm;have:=hk.2.1;omega⟩))
  exact hS,pu HB.out hb⟩)
 rw [← HN.out] at e15
 subst e15
 clear HO HB hb ho hN4 hlt
 go_wp2_with fail
 go_loopg [5,17] (n+1) (fun fu v5 v17 wr=>∃ i:Nat,i≤n∧n - i < fu∧v17 = .int .i64 i∧Aside0 (IV w l0 ⟨g15,0,none⟩ i v5 wr))
 case atStart=>exact ⟨0,Nat.zero_le _,D13,rfl,HX⟩
 case round =>
  clear HX
  obtain ⟨i,hi,hfu,rfl,HX⟩:=hrel
  by_cases hin:i < n
  case neg =>
   have e:i=n:=by omega
   subst e
   have hrz:¬ (i:Int) < (i:Int):=by omega
   have hdr:decide ((i:Int) < (i:Int))=false:=decide_eq_false hrz
   obtain ⟨g,cap,eg,_⟩:=Kd.N_form HX.out.N (by rw [List.length_take,catM_length];have:=HN.out;omega)
   rw [List.length_take,catM_length,← HN.out,Nat.min_self] at eg
   subst eg
   have hN:=HX.out.N
   rw [List.take_of_length_le (by rw [catM_length];have:=HN.out;omega)] at hN
   have HN1:=am hN
   have HB:=am HX.out.B
   clear hN HX
   obtain ⟨D,hD⟩:∃ D,D=(rowI.red (catM l0) l0.length).1:=⟨_,rfl⟩
   obtain ⟨z,hz⟩:∃ z,z=(redP l0 (idM l0.length) l0.length).2:=⟨_,rfl⟩
   have HD:=am hD
   have HZ:=am hz
   have HE:=am (impl_eliminate.calls (catM l0) (l0.length+l0.length) l0.length (catM_ok HO3.out) D13 (by have:=HN.out;omega) (by rw [catM_length];have:=HN.out;omega) g cap i (by rw [catM_length];exact HN.out.symm) w wr HB.out HN1.out)
   rw [← HN.out,HN.out,← hD,show (rowI.red (catM l0) l0.length).2=z by rw [hz,catM_red HO3.out],← HN.out] at HE
   clear hD hz HN1 HB
   go_wp2_with fail
   refine HE.out.mono ?_
   clear HE
   rintro e w5 ⟨rfl,hN,hB⟩
   have HN1:=am hN
   have HB:=am hB
   have HDA:=am (show ∀ r ∈ D,okI (i+i) r by rw [HD.out];have z:=RowK.red_all (shutI (l0.length+l0.length)) (catM_ok HO3.out) l0.length;rw [← HN.out] at z ⊢;exact z)
   have HDL:=am (show D.length=i by rw [HD.out,RowK.red_length,catM_length];exact HN.out.symm)
   clear hN hB
   by_cases hzi:z < i
   case pos =>
    have hzz:(z:Int) < (i:Int):=by omega
    have hdz:decide ((z:Int) < (i:Int))=true:=decide_eq_true hzz
    go_wp2_with fail
    go_ret2
    have e:=HRR.out
    unfold invM at e
    rw [← HZ.out,← HN.out,if_pos hzi] at e
    injection e with e1 e2
    subst e1 e2
    exact ⟨_,rfl,Kd.S_nil _ _ _ _ _,HB.out⟩
   have hzz:¬ (z:Int) < (i:Int):=by omega
   have hdz:decide ((z:Int) < (i:Int))=false:=decide_eq_false hzz
   have HRE:=am (show D.map (List.drop i)=r1∧r2=true by
    have e:=HRR.out
    unfold invM at e
    rw [← HZ.out,if_neg (by have:=HN.out;omega),← catM_out HO3.out,← HD.out,← HN.out] at e
    injection e with e1 e2
    exact ⟨e1,e2.symm⟩)
   obtain ⟨_,rfl⟩:=HRE.out
   go_wp2_with (first|((with_reducible refine gD 38 ?_);refine Kd.S_lit (Kd.slice 5 (Kd.int .u8)) _ 24 D16 (N:=38) D16 (xs:=([]:List (List Int))) (inner:=[]) (ok:=fun _=>True) (okp:=fun _=>True) D33 D65 (fun _ hk=>hk) trivial (Below.refl _ _) (Nat.le_refl _) D44 ?_;intro v38 w6 ho6 hb6 hg6 hnew6;clear hg6 hnew6;have HX:=am (show IW w D i g cap i 0 v38 w6 from ⟨Kd.N_elder' HN1.out (Kd.S_base ho6) hb6,by rw [List.take_zero];exact Kd.S_lower ho6 HB.out.size,pu HB.out hb6⟩);clear HN1 HB ho6 hb6)|fail)
   go_loopg [8,41] (i+1) (fun fu v8 v41 wr=>∃ j:Nat,j≤i∧i - j < fu∧v41 = .int .i64 j∧Aside0 (IW w D i g cap i j v8 wr))
   case atStart=>exact ⟨0,Nat.zero_le _,D13,rfl,HX⟩
   case round =>
    clear HX
    obtain ⟨j,hj,hfu2,rfl,HX⟩:=hrel
    by_cases hji:j < i
    case neg =>
     have e:j=i:=by omega
     subst e
     have hrz:¬ (j:Int) < (j:Int):=by omega
     have hdr:decide ((j:Int) < (j:Int))=false:=decide_eq_false hrz
     go_wp2_with fail
     go_ret2
     have hS:=HX.out.S
     rw [List.take_of_length_le (by rw [List.length_map,HDL.out];omega),HRE.out.1] at hS
     exact ⟨_,rfl,hS,HX.out.B⟩
    have hrz:(j:Int) < (i:Int):=by omega
    have hdr:decide ((j:Int) < (i:Int))=true:=decide_eq_true hrz
    obtain ⟨A44,c44,hcell44,hle44,hF44,_⟩:=N_row HX.out.N j hji
    obtain ⟨dj,hdj⟩:∃ x,x=D.getD j []:=⟨_,rfl⟩
    rw [← hdj] at hcell44 hle44 hF44
    have hok:okI (i+i) dj:=by rw [hdj];exact RowK.at_all (O:=rowI) HDA.out (by rw [HDL.out];exact hji)
    have hdl:=hok.2
    obtain ⟨ad44,rfl,_⟩:=F_byte hF44 0 D13
    have hCd:=Kd.F_now (Kd.F_cut (m:=i) hF44 D13 hle44)
    rw [hdl] at hcell44 hle44
    have hcn:(c44=i)=False:=eq_false D13
    have hci:i≤c44:=by omega
    rw [if_neg D13,show (some ad44).map (fun x=>x.add (i*(Kd.int .u8).sz))=some (ad44.add i) from by show some (ad44.add (i*1))=_;rw [Nat.mul_one]] at hCd
    have hdd:(dj.drop i).length=i:=by rw [List.length_drop];omega
    have hcl:=slices_Clone_byte_byte.calls _ (c44 - i) (dj.drop i) (dj.drop i) wr hCd D13 (by unfold slices_Clone_byte_byte.f;simp;omega)
    rw [hdd] at hcl
    have HDJ:=am hdj
    have HCL:=am hcl
    clear hcl hCd hF44 hok hdj
    go_wp2_with fail
    refine HCL.out.mono ?_
    clear HCL
    rintro e w6 ⟨v49,rfl,ho,hb⟩
    obtain ⟨A49,c49,e49⟩:=Kd.R_slice ho
    rw [hdd] at e49
    subst e49
    have HO:=am (Kd.R_lower (Kd.R_mono (Kd.R_bound ho) (ok':=fun k=>wr.heap.size≤k) (fun k hk=>hk.2.1)) HX.out.B.size)
    have HLT:=am (Kd.S_lt HX.out.S)
    have HS:=am (Kd.S_mono (Kd.S_below (Kd.S_bound HX.out.S) hb) (ok':=fun k=>True∧¬ wr.heap.size≤k) (fun k hk=>⟨trivial,by have:=hk.2.2.1;omega⟩))
    have HN1:=am (Kd.N_below HX.out.N hb)
    have HB:=am (pu HX.out.B hb)
    clear HX ho hb
    go_wp2_with (first|((with_reducible refine gate_builtin (b:=.append) (xs:=#[.tmp 45, .tmp 50]) rfl ?_);at_builtin;refine Kd.S_append (Kd.slice 5 (Kd.int .u8)) (w0:=w) w.heap.size rfl (.tmp 45) (.tmp 50) 25 24 (.slice none 0 0) 24 rfl Try.underlying25 iv_info rfl D5 D13 u8 ((D.map (List.drop i)).take j) (dj.drop i) [.slice A49 i c49] (fun _=>True) (fun k=>wr.heap.size≤k) rfl rfl (Kd.M_row HO.out) (fun k hk=>⟨trivial,fun e=>by have:=HLT.out k e.symm;omega⟩) (fun _ _=>trivial) HS.out HB.out HB.out.size (by rw [List.length_take];omega) ?_;intro v51 w7 ho7 hb7 hg7 hat7;have HX:=am (show IW w D i g cap i (j+1) v51 w7 from ⟨Kd.N_after HN1.out hg7 hat7,by rw [List.take_succ_eq_append_getElem (by rw [List.length_map,HDL.out];exact hji),List.getElem_map,show D[j]'(by rw [HDL.out];exact hji)=dj from by rw [HDJ.out,List.getD_eq_getElem?_getD,List.getElem?_eq_getElem (by rw [HDL.out];exact hji)];rfl];exact ho7,hb7⟩);clear HO HLT HS HN1 HB ho7 hb7 hg7 hat7)|fail)
    go_roundg (i - j)
    case measure=>omega
    case rel=>exact ⟨j+1,D13,D13,by go_num,HX⟩
  have hrz:(i:Int) < (n:Int):=by omega
  have hdr:decide ((i:Int) < (n:Int))=true:=decide_eq_true hrz
  obtain ⟨A21,c21,hcell21,hle21,hF21⟩:=HX.out.row i (by have:=HN.out;omega)
  obtain ⟨ad,A26,c26,e26,hcell26,hle26,hC26⟩:=C_row (Kd.C_below HR0.out HX.out.B) i (by have:=HN.out;omega)
  injection e26 with e26
  subst e26
  obtain ⟨li,hli⟩:∃ x,x=l0.getD i []:=⟨_,rfl⟩
  obtain ⟨di,hdi⟩:∃ x,x=(idM l0.length).getD i []:=⟨_,rfl⟩
  rw [← hdi] at hcell21 hle21 hF21
  rw [add_plain] at hcell21
  rw [← hli] at hcell26 hle26 hC26
  have HLI:=am hli
  have HDI:=am hdi
  clear hli hdi
  have hil:i < n:=hin
  have hl1:li.length=n:=by rw [HLI.out,HN.out];exact (RowK.at_all (O:=rowI) HO3.out (i:=i) (by have:=HN.out;omega)).2
  have hd1:di.length=n:=by rw [HDI.out,HN.out];exact (RowK.at_all (O:=rowI) (idM_ok l0.length) (i:=i) (by rw [idM_length];have:=HN.out;omega)).2
  have hcl:=slices_Clone_byte_byte.calls A26 c26 li li wr hC26 hle26 (by unfold slices_Clone_byte_byte.f;simp;omega)
  rw [hl1] at hcell26 hcl
  rw [hd1] at hcell21
  go_wp2_with fail
  refine hcl.mono ?_
  clear hcl
  rintro e w5 ⟨v27,rfl,ho,hb⟩
  have HX5:=HX.out.below hb
  have hF5:=am (Kd.F_below hF21 hb)
  have HO:=am ho
  have HB5:=am hb
  clear ho hb hF21 hcell21 hcell26 hC26 HX5
  go_wp2_with (first|((with_reducible refine gate_builtin (b:=.append) (xs:=#[.tmp 27, .tmp 28]) rfl ?_);at_builtin;refine Kd.R_append_rows (Kd.int .u8) (w0:=wr) wr.heap.size rfl (.tmp 27) (.tmp 28) 24 5 (.int .u8 0) 1 rfl Try.underlying24 iv_info8 rfl D5 D13 v27 li di A21 n c21 (fun _=>True) (fun _=>False) rfl rfl HO.out (by have z:=Kd.F_now hF5.out;rwa [hd1] at z) (fun _ _ h=>h) (fun _ h=>h.elim) (fun _ _=>trivial) HB5.out HB5.out.size (by rw [hl1];omega) ?_;intro v29 w6 ho6 hb6 hg6 hat6;obtain ⟨A29,c29,e29⟩:=Kd.R_slice ho6;rw [List.length_append,hl1,hd1] at e29;subst e29;have HX6:=am (HX.out.below hb6);have HO6:=am ho6;clear HO HB5 hF5 ho6 hb6 hg6 hat6)|((with_reducible refine gate_builtin (b:=.append) (xs:=#[.tmp 22, .tmp 30]) rfl ?_);at_builtin;refine Kd.N_append (Kd.slice 5 (Kd.int .u8)) (w0:=w) w.heap.size rfl (.tmp 22) (.tmp 30) 25 24 (.slice none 0 0) 24 rfl Try.underlying25 iv_info rfl D5 D13 u5 ((catM l0).take i) (li ++ di) [.slice A29 (n+n) c29] (fun _=>True) (fun k=>wr.heap.size≤k) rfl rfl (FK_of_R (Kd.R_mono (Kd.R_bound HO6.out) (ok':=fun k=>wr.heap.size≤k) (fun k hk=>hk.2.1))) (fun k hk=>⟨trivial,fun e=>by have:=Kd.N_lt HX.out.N k e.symm;omega⟩) (fun _ _=>trivial) HX6.out.N HX6.out.B HX6.out.B.size (by rw [List.length_take];omega) ?_;intro v31 w7 ho7 hb7 hg7 hat7;rw [HLI.out,HDI.out,← catM_succ (by have:=HN.out;omega)] at ho7;have HX7:=am (IV.mk ho7 (Kd.F_after HX6.out.F hg7 hat7) hb7);clear HX HX6 HO6 ho7 hb7 hg7 hat7))
  go_roundg (n - i)
  case measure=>omega
  case rel=>exact ⟨i+1,D13,D13,by go_num,HX7⟩
end

def impl_solve.l0:Nat→List Int→List Int→List (List Int)→Int→Int→Option (List Int × Bool)
 | 0,_,_,_,_,_=>none
 | k+1,x1,x8,x19,x20,x21=>if x21 < x20 then (if 0≤x21 then (if x21 < (x19.length:Int) then ((impl_dot.f k (rd_L1 x19 x21) x1).bind fun t389=>(if x8.length < 140737488355328 then (impl_solve.l0 k x1 (x8 ++ [t389]) x19 x20 (wrap64 (x21+1))) else (none))) else (none)) else (none)) else (some (x8,true))
def impl_solve.f (k:Nat) (l0:List (List Int)) (l1:List Int):Option (List Int × Bool):=(impl_inverseOf.f l0).bind fun bt381=>(if bt381.2=true then (impl_solve.l0 k l1 (([]:List Int)) bt381.1 (bt381.1.length:Int) 0) else (some (([]:List Int),false)))
theorem impl_solve.mono_l:∀ k,(∀ y0 y1 y2 y3 y4,LeO (impl_solve.l0 k y0 y1 y2 y3 y4) (impl_solve.l0 (k+1) y0 y1 y2 y3 y4))
 | 0=>fun _ _ _ _ _ r h=>by simp [impl_solve.l0] at h
 | k+1=>by
  have ih0:=impl_solve.mono_l k
  intro y0 y1 y2 y3 y4
  unfold impl_solve.l0
  exact mm
theorem impl_solve.mono:∀ a0 a1 k,LeO (impl_solve.f k a0 a1) (impl_solve.f (k+1) a0 a1):=by
 intro a0 a1 k
 have ih0:=impl_solve.mono_l k
 unfold impl_solve.f
 exact mm
theorem impl_solve.calls (k:Nat) (A0:Option Addr) (c0:Nat) (l0:List (List Int)) (A1:Option Addr) (c1:Nat) (l1:List Int) (r1:List Int) (r2:Bool) (w:World) (hr0:Kd.C (Kd.slice 5 (Kd.int .u8)) w A0 l0.length l0) (hc0:l0.length≤c0) (hr1:Kd.C (Kd.int .u8) w A1 l1.length l1) (hc1:l1.length≤c1) (h:impl_solve.f k l0 l1=some (r1,r2)) :
  Calls Try.prog 109 #[.slice A0 l0.length c0, .slice A1 l1.length c1] w fun e w'=>∃ v0_:Value,e = .returned (.tuple #[v0_, .bool r2])∧Kd.R (Kd.int .u8) 5 w' w.heap.size (fun _=>True) v0_ r1∧Below w.heap.size w w':=by
 have HR0:=am hr0
 have HC0:=am hc0
 clear hr0 hc0
 have HR1:=am hr1
 have HC1:=am hc1
 clear hr1 hc1
 have HB:=am (Below.refl w.heap.size w)
 have H:=h
 unfold impl_solve.f at H
 clear h
 obtain ⟨⟨t381,t382⟩,A3,H⟩:=yo H
 try dsimp only at H
 by_cases c4:t382=true
 ·subst c4
  replace H:=yt H
  generalize hy385:(([]:List Int):List Int)=y385 at H
  have Ny385:=am hy385.symm
  clear hy385
  have H':=am H
  clear H
  go_enter Try.func109,Try.ntmps109
  go_wp2_with (first|((with_reducible refine gC 92 ?_);refine gM (some 13) Try.func92 (args:=#[.slice A0 l0.length c0]) (impl_inverseOf.calls _ _ l0 t381 true _ (yc HR0.out) HC0.out A3.out) ?_;rintro e w5 ⟨v383,rfl,ho0,hb⟩;refine ⟨_,rfl,?_⟩;have HO384:=am (Kd.S_lower ho0 (pz (yW HB)));replace HB:=yH HB hb;clear hb ho0)|((with_reducible refine gD 18 ?_);refine Kd.R_lit (Kd.int .u8) _ 5 D16 (N:=18) D16 (xs:=([]:List Int)) (inner:=[]) (ok:=fun _=>True) (okp:=fun _=>True) D33 D65 (fun _ hk=>hk) trivial (Below.refl _ _) (Nat.le_refl _) D44 ?_;intro v386 w6 ho7 hb hg_ hnew_;clear hg_ hnew_;(first|rw [← Ny385.out] at ho7|(simp only [Int.reduceToNat] at ho7;rw [← Ny385.out] at ho7));replace HO384:=eS HO384 (Kd.R_base ho7) hb;have HO387:=am (Kd.R_lower ho7 (pz (yW HB)));replace HB:=yH HB hb;clear hb ho7;obtain ⟨Ao8,co8,eo8⟩:=Kd.S_slice HO384.out;subst eo8))
  go_loopg [8,21] k (fun kq v8 v21 w'=>∃ (x8_1:List Int) (x21_1:Int),v21 = .int .i64 x21_1∧Aside0 (impl_solve.l0 kq l1 x8_1 t381 (t381.length:Int) x21_1=some (r1,r2))∧Aside0 (kq≤k)∧Aside0 (Kd.R (Kd.int .u8) 5 w' w.heap.size (fun _=>True) v8 x8_1)∧Aside0 (Kd.S (Kd.slice 5 (Kd.int .u8)) 24 w' w.heap.size (fun k_=>some k_ ≠ (v8:Value).ownBlock) (.slice Ao8 t381.length co8) t381)∧Aside0 (Below w.heap.size w w'))
  case atStart=>exact ⟨(y385),(0),D1,H',⟨Nat.le_refl _⟩,⟨yR HO387⟩,⟨by refine sS ?_;exact Kd.S_mono HO384.out (fun _ hk=>hk.2)⟩,⟨yW HB⟩⟩
  case round =>
   clear H'
   try clear c1
   try clear p2
   try clear c4
   obtain ⟨x8_1,x21_1,rfl,HA,HK1,HO_8,HO_19,HB⟩:=hrel
   cases gk with
   | zero=>exact absurd HA.out (by simp [impl_solve.l0])
   | succ k1 =>
    have H:=HA.out
    clear HA
    simp only [impl_solve.l0] at H
    by_cases c9:x21_1 < (t381.length:Int)
    ·rw [if_pos c9] at H
     have c9b0:=decide_eq_true c9
     clear c9
     obtain ⟨c10,H⟩:=yi H
     have c10b0:=decide_eq_true c10
     clear c10
     obtain ⟨c11,H⟩:=yi H
     have c11b0:=decide_eq_true c11
     clear c11
     obtain ⟨t389,A12,H⟩:=yo H
     obtain ⟨c13,H⟩:=yi H
     have LMc13:=am c13
     clear c13
     generalize hy390:(x8_1 ++ [t389]:List Int)=y390 at H
     have Ny390:=am hy390.symm
     clear hy390
     have H':=am H
     clear H
     have p388:0≤(x21_1:Int):=od D0
     have q388:x21_1 < (t381.length:Int):=od D0
     obtain ⟨ad388,A388_0,c388_0,e388,hx388_0,hl388_0,hi388_0⟩:=at_L1 (Kd.S_reads' HO_19.out).2.2 x21_1 p388 q388
     cases e388
     obtain ⟨ce388,hce388,hMe388,hcc388⟩:=Kd.S_get HO_19.out [] x21_1 p388 (by first|exact q388|exact od D0|(have e_:=(Kd.S_reads' HO_19.out).1;omega))
     obtain ⟨ve388_0,rfl,ge388_0⟩:=hMe388
     have hv388_0:=hcc388 0 _ rfl
     rw [Nat.add_zero,show ((Kd.slice 5 (Kd.int .u8))).sz=1 from rfl,Nat.mul_one] at hv388_0
     replace hv388_0:=Option.some.inj (hv388_0.symm.trans hx388_0)
     rw [hv388_0] at ge388_0
     have HL388_0:=am (show Kd.R (Kd.int .u8) 5 _ _ _ _ (rd_L1 t381 x21_1) from ge388_0)
     clear hv388_0 ge388_0
     clear hcc388 hce388
     have HR388_0:=am hi388_0
     have HC388_0:=am hl388_0
     clear hi388_0 hl388_0
     replace p388:=eq_true p388
     replace q388:=eq_true q388
     go_wp2_with (first|((with_reducible refine gC 117 ?_);refine gM (some 28) Try.func117 (args:=#[.slice A388_0 (rd_L1 t381 x21_1).length c388_0, .slice A1 l1.length c1]) (impl_dot.calls k1 _ _ (rd_L1 t381 x21_1) _ _ l1 t389 _ ?side1 ?side2 ?side3 ?side4 A12.out) ?_;(case side1=>repeat (first|exact (by repeat (first|(with_reducible exact HR388_0.out)|(with_reducible refine Kd.C_alloc ?_ _)|(with_reducible refine Kd.C_drewN ?_ _)|(with_reducible refine Kd.C_drew ?_)|exact HR388_0.out))|(with_reducible refine Kd.C_alloc ?_ _)|(with_reducible refine Kd.C_drewN ?_ _)|(with_reducible refine Kd.C_drew ?_)));(case side2=>exact HC388_0.out);(case side3=>repeat (first|exact (Kd.C_below HR1.out HB.out)|(with_reducible refine Kd.C_alloc ?_ _)|(with_reducible refine Kd.C_drewN ?_ _)|(with_reducible refine Kd.C_drew ?_)));(case side4=>exact HC1.out);rintro e w' ⟨rfl,⟨nd,rfl⟩⟩;refine ⟨_,rfl,?_⟩)|((with_reducible refine gate_builtin (b:=.append) (xs:=#[.tmp 25, .tmp 29]) rfl ?_);at_builtin;refine Kd.R_append (Kd.int .u8) (w0:=w) w.heap.size rfl (.tmp 25) (.tmp 29) 24 5 (.int .u8 0) 1 rfl Try.underlying24 info5 rfl D5 D13 u8 x8_1 t389 [.int .u8 t389] (fun _=>True) (fun _=>False) rfl rfl D98 (fun _ hk=>hk.elim) D43 (by exact (yR HO_8)) D64 D47 (by have:=LMc13.out;omega) ?_;intro v391 w14 ho hb hg hat;rw [← Ny390.out] at ho;have n0_:=am (Kd.S_after (ok:=(fun _=>True)) (by refine sS ?_;exact Kd.S_mono HO_19.out (fun _ hk=>⟨trivial,hk⟩)) hg hat);have n1_:=am (Kd.R_after (ok:=(fun k_=>some k_ ≠ (.slice (some ad388) t381.length co8:Value).ownBlock)) (by refine sR ?_;exact Kd.R_mono HL388_0.out (fun _ hk=>⟨hk.2,hk.1⟩)) hg hat);have n2_:=am (hb);have n3_:=am (ho);clear HO_19 HL388_0 HB HO_8;have HO_19:=n0_;have HL388_0:=n1_;have HB:=n2_;have HO392:=n3_;clear n0_ n1_ n2_ n3_ ho hb hg hat))
     go_roundg k1
     case measure=>have:=HK1.out;omega
     case rel=>exact ⟨(y390),(wrap64 (x21_1+1)),D1,H',⟨D38⟩,⟨yR HO392⟩,⟨by refine sS ?_;exact Kd.S_mono HO_19.out (fun _ hk=>hk.2)⟩,⟨yW HB⟩⟩
    rw [if_neg c9] at H
    have c9b0:=decide_eq_false c9
    clear c9
    simp only [Option.some.injEq,Prod.mk.injEq] at H
    obtain ⟨rfl,rfl⟩:=H
    go_wp2
    go_ret2
    exact ⟨_,D3,yR HO_8,yW HB⟩
 replace c4:=Bool.eq_false_iff.mpr c4
 subst c4
 replace H:=yn H
 simp only [Option.some.injEq,Prod.mk.injEq] at H
 obtain ⟨rfl,rfl⟩:=H
 go_enter Try.func109,Try.ntmps109
 go_wp2_with (first|((with_reducible refine gC 92 ?_);refine gM (some 13) Try.func92 (args:=#[.slice A0 l0.length c0]) (impl_inverseOf.calls _ _ l0 t381 false _ (yc HR0.out) HC0.out A3.out) ?_;rintro e w15 ⟨v383,rfl,ho0,hb⟩;refine ⟨_,rfl,?_⟩;have HO384:=am (Kd.S_lower ho0 (pz (yW HB)));replace HB:=yH HB hb;clear hb ho0))
 go_ret2
 exact ⟨_,D3,D10,yW HB⟩
end
end Go.Proofs.Yteflgifmdojahaa.PFnRegenerated
-- SQUEEZED
