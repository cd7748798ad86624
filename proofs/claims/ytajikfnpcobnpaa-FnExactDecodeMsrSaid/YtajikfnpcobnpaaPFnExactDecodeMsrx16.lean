-- Laid by a program of this session.
import Derived.Test.YtajikfnpcobnpaaPFnExactDecodeMsrx0
import Derived.Test.YtajikfnpcobnpaaPFnExactDecodeMsrx14
import Derived.Test.YtajikfnpcobnpaaPFnExactDecodeMsrx15
namespace Go.Proofs.Ytajikfnpcobnpaa.PFnExactDecodeMsr
open Go.RowKit Go.Proofs.YtajikfnpcobnpaaW.PrintWords Go.Proofs.YtajikfnpcobnpaaW.PrintLast Go.Proofs.YtajikfnpcobnpaaW.PrintMore
attribute [local go_sem] max2_int min2_int max_two min_two max_three min_three max_four min_four   -- for this text's walks alone
set_option linter.unusedVariables false
set_option maxHeartbeats 8000000
set_option maxRecDepth 100000
set_option linter.unusedSimpArgs false

section
def impl_Msr_isPiece.f (a0_0:Int) (a0_1:Int) (a1_0:Int) (l1_1:List Int):Option (Bool):=(impl_within.f a1_0 0 (wrap64 (a0_0 - 1))).bind fun t104=>(if t104=true then ((impl_Msr_alpha.f a0_0 a0_1).bind fun t105=>(some ((l1_1.length:Int) == t105))) else (some false))
def impl_Msr_isPiece.T1:Bool × List (List Nat × List Nat):=(true,[([],[]),([0],[0]),([],[]),([2],[2]),([3],[3]),([1,4],[1,4]),([5,5],[5]),([6],[6]),([7,6],[6,7]),([8,6],[6,8]),([6],[6]),([10,6,6],[6,10]),([9,11,6],[6,9,11]),([6,12],[6,12]),([13,11,0,1,2,3,4,5,6,7,8,9,10,11,12,13],[13])])
def impl_Msr_isPiece.B1:List Nat:=[0,1,0,4,12,31,63,127,255,511,127,1151,4095,8191,16383]
theorem impl_Msr_isPiece.tab1:rtab .any (opsOf Try.f155 1)=impl_Msr_isPiece.T1:=by kernel_rfl
theorem impl_Msr_isPiece.bits1:waitsOk impl_Msr_isPiece.T1.2 impl_Msr_isPiece.B1=true:=by kernel_rfl
theorem impl_Msr_isPiece.calls (a0_0:Int) (a0_1:Int) (a1_0:Int) (A1_1:Option Addr) (c1_1:Nat) (l1_1:List Int) (r:Bool) (w:World) (hr1_1:Kd.C (Kd.int .u8) w A1_1 l1_1.length l1_1) (hc1_1:l1_1.length≤c1_1) (h:impl_Msr_isPiece.f a0_0 a0_1 a1_0 l1_1=some r) :
  Calls Try.prog 155 #[.agg #[.int .i64 a0_0, .int .i64 a0_1], .agg #[.int .i64 a1_0, .slice A1_1 l1_1.length c1_1]] w fun e w'=>e = .returned (.bool r)∧Below w.heap.size w w':=by
 have hu72:=Try.underlying72
 have hu69:=Try.underlying69
 have HR1_1:=am hr1_1
 have HC1_1:=am hc1_1
 clear hr1_1 hc1_1
 have HB:=am (Below.refl w.heap.size w)
 have H:((impl_within.f a1_0 0 (wrap64 (a0_0 - 1))).bind fun t104=>(if t104=true then ((impl_Msr_alpha.f a0_0 a0_1).bind fun t105=>(some ((l1_1.length:Int) == t105))) else (some false)))=some r:=h
 clear h
 replace H:=Option.bind_eq_some_iff.mp H
 obtain ⟨t104,A30,H⟩:=H
 replace H:(if t104=true then ((impl_Msr_alpha.f a0_0 a0_1).bind fun t105=>(some ((l1_1.length:Int) == t105))) else (some false))=some r:=H
 have A3:=am A30
 clear A30
 by_cases c4:t104=true
 ·subst c4
  have H1:((impl_Msr_alpha.f a0_0 a0_1).bind fun t105=>(some ((l1_1.length:Int) == t105)))=some r:=by rw [if_pos rfl] at H;exact H
  clear H
  have H:=H1
  clear H1
  replace H:=Option.bind_eq_some_iff.mp H
  obtain ⟨t105,A50,H⟩:=H
  replace H:(some ((l1_1.length:Int) == t105))=some r:=H
  have A5:=am A50
  clear A50
  obtain rfl:=Option.some.inj H
  go_enter Try.func155,Try.ntmps155
  try go_wp2_with (first|((with_reducible refine gate_dst (N:=2) rfl ?_);(try (refine gate_guard d18 ?_;dsimp only));refine box_event ?hg (N:=2) ?hd (cs:=#[.int .i64 a0_0, .int .i64 a0_1]) (t:=72) ?hr ?_;(case hd=>rfl);(case hg=>rfl);(case hr=>first|(go_simp;done)|(go_simp;rfl));intro gb102 hg w6 hbox hb;have n0_:=am (pu d0 hb);have n1_:=am (hbox);have n2_:=am ((by rw [hg];exact (pz d0):w.heap.size≤gb102));have n3_:=n2_;clear HB;have HB:=n0_;have BK102:=n1_;have GW102:=n2_;have GE102:=n3_;clear n0_ n1_ n2_ n3_;clear hb hbox hg)|((with_reducible refine gate_dst (N:=3) rfl ?_);(try (refine gate_guard d18 ?_;dsimp only));refine box_event ?hg (N:=3) ?hd (cs:=#[.int .i64 a1_0, .slice A1_1 l1_1.length c1_1]) (t:=69) ?hr ?_;(case hd=>rfl);(case hg=>rfl);(case hr=>first|(go_simp;done)|(go_simp;rfl));intro gb103 hg w7 hbox hb;have n0_:=am (qb (g:=gb102) (o:=.cells #[.int .i64 a0_0, .int .i64 a0_1] 72 (0,0)) (by (with_reducible repeat (first|refine qn ?_ _|refine qd ?_|refine qa ?_ _));exact BK102.out) hb);have n1_:=am (pu (by repeat (first|(with_reducible first|exact HB.out|apply pa|apply pb|apply pd|refine pt ?_ GE102.out)|exact HB.out)) hb);have n2_:=am (hbox);have n3_:=am ((by rw [hg];exact (pz (by repeat (first|(with_reducible first|exact HB.out|apply pa|apply pb|apply pd|refine pt ?_ GE102.out)|exact HB.out))):w.heap.size≤gb103));have n4_:=n3_;have n5_:=am ((by rw [hg];exact Nat.ne_of_lt (blk_lt (g:=gb102) (o:=.cells #[.int .i64 a0_0, .int .i64 a0_1] 72 (0,0)) (by (with_reducible repeat (first|refine qn ?_ _|refine qd ?_|refine qa ?_ _));exact BK102.out)):gb102 ≠ gb103));have n6_:=am ((by rw [hg];exact Nat.ne_of_gt (blk_lt (g:=gb102) (o:=.cells #[.int .i64 a0_0, .int .i64 a0_1] 72 (0,0)) (by (with_reducible repeat (first|refine qn ?_ _|refine qd ?_|refine qa ?_ _));exact BK102.out)):gb103 ≠ gb102));clear BK102;clear HB;have BK102:=n0_;have HB:=n1_;have BK103:=n2_;have GW103:=n3_;have GE103:=n4_;have NB102_103:=n5_;have NB103_102:=n6_;clear n0_ n1_ n2_ n3_ n4_ n5_ n6_;clear hb hbox hg))
  have n0_:=am (qd BK102.out)
  have n1_:=am (qd BK103.out)
  have n2_:=am (pd HB.out)
  clear BK102
  clear BK103
  clear HB
  have BK102:=n0_
  have BK103:=n1_
  have HB:=n2_
  clear n0_ n1_ n2_
  refine rS (n:=15) (S:=fun w'=>w'.cell? ⟨gb103,0,none⟩=some (.int .i64 a1_0)∧w'.cell? ⟨gb103,1,none⟩=some (.slice A1_1 l1_1.length c1_1)∧w'.cell? ⟨gb102,0,none⟩=some (.int .i64 a0_0)∧w'.cell? ⟨gb102,1,none⟩=some (.int .i64 a0_1)) (ds:=[]) [(0,5),(2,7),(1,6),(3,8),(4,9),(5,0),(6,11),(7,12),(8,13),(9,14),(10,15),(11,0),(12,17),(13,18),(14,4)] d3 rfl impl_Msr_isPiece.tab1 impl_Msr_isPiece.bits1 ⟨(blk_cell BK103.out 0).trans rfl,(blk_cell BK103.out 1).trans rfl,(blk_cell BK102.out 0).trans rfl,(blk_cell BK102.out 1).trans rfl⟩ (fun hHeld HT_ HW_=>?_)
  generalize w7.drew=w8 at BK102 BK103 HB hHeld ⊢
  refine rR ?_
  refine rO (N:=some 10) HT_ rfl rfl d3 d11 (fun K hK=>?_)
  refine goes_ Try.func137 d3 rfl #[.int .i64 a1_0, .int .i64 0, .int .i64 (wrap64 (a0_0 - 1))] d18 rfl rfl d5 ?_
  with_reducible refine (impl_within.calls a1_0 0 (wrap64 (a0_0 - 1)) true _ A3.out).mono ?_
  rintro e w' ⟨rfl,⟨nd,rfl⟩⟩
  refine ⟨_,rfl,?_⟩
  refine hK.out _ _ ⟨(blk_cell BK103.out 0).trans rfl,(blk_cell BK103.out 1).trans rfl,(blk_cell BK102.out 0).trans rfl,(blk_cell BK102.out 1).trans rfl⟩ (fun hHeld=>?_)
  clear hK K
  refine rN (a':=?_) ?_ ?_
  rotate_left
  ·show Act.put _ (some 10) _=_
   simp only [Act.put,q1,q2,q3,i64_w,i32_w]
   rfl
  refine rR ?_
  refine rO (N:=some 16) HT_ rfl rfl d3 d11 (fun K hK=>?_)
  refine goes_ Try.func128 d3 rfl #[.agg #[.int .i64 a0_0, .int .i64 a0_1]] d18 rfl rfl d5 ?_
  with_reducible refine (impl_Msr_alpha.calls a0_0 a0_1 t105 _ A5.out).mono ?_
  rintro e w9 ⟨rfl,hb⟩
  refine ⟨_,rfl,?_⟩
  have n0_:=am (qb (g:=gb102) (o:=.cells #[.int .i64 a0_0, .int .i64 a0_1] 72 (0,0)) (by (with_reducible repeat (first|refine qn ?_ _|refine qd ?_|refine qa ?_ _));exact BK102.out) hb)
  have n1_:=am (qb (g:=gb103) (o:=.cells #[.int .i64 a1_0, .slice A1_1 l1_1.length c1_1] 69 (0,0)) (by (with_reducible repeat (first|refine qn ?_ _|refine qd ?_|refine qa ?_ _));exact BK103.out) hb)
  have n2_:=am (pu (by repeat (first|(with_reducible first|exact HB.out|apply pa|apply pb|apply pd|refine pt ?_ GE102.out|refine pt ?_ GE103.out)|exact HB.out)) hb)
  clear BK102
  clear BK103
  clear HB
  have BK102:=n0_
  have BK103:=n1_
  have HB:=n2_
  clear n0_ n1_ n2_
  (try clear hb)
  (try clear hb2)
  (try clear hk)
  (try clear hi)
  refine hK.out _ _ ⟨(blk_cell BK103.out 0).trans rfl,(blk_cell BK103.out 1).trans rfl,(blk_cell BK102.out 0).trans rfl,(blk_cell BK102.out 1).trans rfl⟩ (fun hHeld=>?_)
  clear hK K
  refine rN (a':=?_) ?_ ?_
  rotate_left
  ·show Act.put _ (some 16) _=_
   simp only [Act.put,q1,q2,q3,i64_w,i32_w]
   rfl
  refine rR ?_
  refine rD HT_ d3 ?_
  try go_wp2
  go_ret
  exact ⟨d4,by repeat (first|(with_reducible first|exact HB.out|apply pa|apply pb|apply pd|refine pt ?_ GE102.out|refine pt ?_ GE103.out)|exact HB.out)⟩
 replace c4:=Bool.eq_false_iff.mpr c4
 subst c4
 have H1:(some false)=some r:=by rw [if_neg (show ¬ (false=true) by decide)] at H;exact H
 clear H
 have H:=H1
 clear H1
 obtain rfl:=Option.some.inj H
 go_enter Try.func155,Try.ntmps155
 try go_wp2_with (first|((with_reducible refine gate_dst (N:=2) rfl ?_);(try (refine gate_guard d18 ?_;dsimp only));refine box_event ?hg (N:=2) ?hd (cs:=#[.int .i64 a0_0, .int .i64 a0_1]) (t:=72) ?hr ?_;(case hd=>rfl);(case hg=>rfl);(case hr=>first|(go_simp;done)|(go_simp;rfl));intro gb102 hg w10 hbox hb;have n0_:=am (pu d0 hb);have n1_:=am (hbox);have n2_:=am ((by rw [hg];exact (pz d0):w.heap.size≤gb102));have n3_:=n2_;clear HB;have HB:=n0_;have BK102:=n1_;have GW102:=n2_;have GE102:=n3_;clear n0_ n1_ n2_ n3_;clear hb hbox hg)|((with_reducible refine gate_dst (N:=3) rfl ?_);(try (refine gate_guard d18 ?_;dsimp only));refine box_event ?hg (N:=3) ?hd (cs:=#[.int .i64 a1_0, .slice A1_1 l1_1.length c1_1]) (t:=69) ?hr ?_;(case hd=>rfl);(case hg=>rfl);(case hr=>first|(go_simp;done)|(go_simp;rfl));intro gb103 hg w11 hbox hb;have n0_:=am (qb (g:=gb102) (o:=.cells #[.int .i64 a0_0, .int .i64 a0_1] 72 (0,0)) (by (with_reducible repeat (first|refine qn ?_ _|refine qd ?_|refine qa ?_ _));exact BK102.out) hb);have n1_:=am (pu (by repeat (first|(with_reducible first|exact HB.out|apply pa|apply pb|apply pd|refine pt ?_ GE102.out)|exact HB.out)) hb);have n2_:=am (hbox);have n3_:=am ((by rw [hg];exact (pz (by repeat (first|(with_reducible first|exact HB.out|apply pa|apply pb|apply pd|refine pt ?_ GE102.out)|exact HB.out))):w.heap.size≤gb103));have n4_:=n3_;have n5_:=am ((by rw [hg];exact Nat.ne_of_lt (blk_lt (g:=gb102) (o:=.cells #[.int .i64 a0_0, .int .i64 a0_1] 72 (0,0)) (by (with_reducible repeat (first|refine qn ?_ _|refine qd ?_|refine qa ?_ _));exact BK102.out)):gb102 ≠ gb103));have n6_:=am ((by rw [hg];exact Nat.ne_of_gt (blk_lt (g:=gb102) (o:=.cells #[.int .i64 a0_0, .int .i64 a0_1] 72 (0,0)) (by (with_reducible repeat (first|refine qn ?_ _|refine qd ?_|refine qa ?_ _));exact BK102.out)):gb103 ≠ gb102));clear BK102;clear HB;have BK102:=n0_;have HB:=n1_;have BK103:=n2_;have GW103:=n3_;have GE103:=n4_;have NB102_103:=n5_;have NB103_102:=n6_;clear n0_ n1_ n2_ n3_ n4_ n5_ n6_;clear hb hbox hg))
 have n0_:=am (qd BK102.out)
 have n1_:=am (qd BK103.out)
 have n2_:=am (pd HB.out)
 clear BK102
 clear BK103
 clear HB
 have BK102:=n0_
 have BK103:=n1_
 have HB:=n2_
 clear n0_ n1_ n2_
 refine rS (n:=15) (S:=fun w'=>w'.cell? ⟨gb103,0,none⟩=some (.int .i64 a1_0)∧w'.cell? ⟨gb103,1,none⟩=some (.slice A1_1 l1_1.length c1_1)∧w'.cell? ⟨gb102,0,none⟩=some (.int .i64 a0_0)∧w'.cell? ⟨gb102,1,none⟩=some (.int .i64 a0_1)) (ds:=[]) [(0,5),(2,7),(1,6),(3,8),(4,9),(5,0),(6,11),(7,12),(8,13),(9,14),(10,15),(11,16),(12,17),(13,18),(14,4)] d3 rfl impl_Msr_isPiece.tab1 impl_Msr_isPiece.bits1 ⟨(blk_cell BK103.out 0).trans rfl,(blk_cell BK103.out 1).trans rfl,(blk_cell BK102.out 0).trans rfl,(blk_cell BK102.out 1).trans rfl⟩ (fun hHeld HT_ HW_=>?_)
 generalize w11.drew=w12 at BK102 BK103 HB hHeld ⊢
 refine rR ?_
 refine rO (N:=some 10) HT_ rfl rfl d3 d11 (fun K hK=>?_)
 refine goes_ Try.func137 d3 rfl #[.int .i64 a1_0, .int .i64 0, .int .i64 (wrap64 (a0_0 - 1))] d18 rfl rfl d5 ?_
 with_reducible refine (impl_within.calls a1_0 0 (wrap64 (a0_0 - 1)) false _ A3.out).mono ?_
 rintro e w' ⟨rfl,⟨nd,rfl⟩⟩
 refine ⟨_,rfl,?_⟩
 refine hK.out _ _ ⟨(blk_cell BK103.out 0).trans rfl,(blk_cell BK103.out 1).trans rfl,(blk_cell BK102.out 0).trans rfl,(blk_cell BK102.out 1).trans rfl⟩ (fun hHeld=>?_)
 clear hK K
 refine rN (a':=?_) ?_ ?_
 rotate_left
 ·show Act.put _ (some 10) _=_
  simp only [Act.put,q1,q2,q3,i64_w,i32_w]
  rfl
 refine rR ?_
 refine rD HT_ d3 ?_
 try go_wp2
 go_ret
 exact ⟨d4,by repeat (first|(with_reducible first|exact HB.out|apply pa|apply pb|apply pd|refine pt ?_ GE102.out|refine pt ?_ GE103.out)|exact HB.out)⟩
open Go.Proofs.Ytajikfnpcobnpaa.KitW Go.Proofs.Ytajikfnpcobnpaa.KitR
set_option maxHeartbeats 4000000 in
theorem dec_IndexFunc (g:Nat) (eg:∀ args w,(callFunc g args).run Try.prog w = .ok (.enter g args) w) (fv:Value) (p:Nat→Bool) (ad:Addr) (n c:Nat) (no:Nat→Int) (sA:Nat→Option Addr) (sn sc:Nat→Nat) (w:World) (hbig:n≤4611686018427387903)
  (hc:∀ i,i < n→w.cell? (ad.add (i*2))=some (.int .i64 (no i))∧w.cell? ⟨(ad.add (i*2)).block,(ad.add (i*2)).off+1,none⟩=some (.slice (sA i) (sn i) (sc i)))
  (hp:∀ i,i < n→∀ W,Below w.heap.size w W→Calls Try.prog g #[.agg #[.int .i64 (no i), .slice (sA i) (sn i) (sc i)],fv] W fun e w'=>e = .returned (.bool (p i))∧Below W.heap.size W w') :
  Calls Try.prog 196 #[.slice (some ad) n c, .func (.func g) #[] #[fv]] w fun e w'=>(∃ r,e = .returned (.int .i64 r)∧IdxOf p n r)∧Below w.heap.size w w':=by
 have HP:=am hp
 have HC:=am hc
 clear hp hc
 go_enter Try.func196,Try.ntmps196
 go_wp2
 go_loopg [5,8] n (fun gg _ s8 wr=>∃ kk:Nat,kk≤n∧n - kk≤gg∧s8 = .int .i64 kk∧Aside0 (Below w.heap.size w wr)∧Aside0 (∀ j,j < kk→p j=false))
 case atStart=>exact ⟨0,Nat.zero_le _,d10,rfl,⟨Below.refl _ _⟩,⟨fun j hj=>absurd hj (Nat.not_lt_zero _)⟩⟩
 case round =>
  obtain ⟨kk,hkk,hg,rfl,HD,HA⟩:=hrel
  by_cases hlt:kk < n
  ·have hltz:(kk:Int) < (n:Int):=by omega
   have hc0:=(HC.out kk hlt).1
   have hc1:=(HC.out kk hlt).2
   replace hc0:=(HD.out.cell (World.block_lt_of_cell? w _ hc0)).trans hc0
   replace hc1:=(HD.out.cell (World.block_lt_of_cell? w _ hc1)).trans hc1
   have hcall:=HP.out kk hlt
   cases hq:p kk with
   | true =>
    rw [hq] at hcall
    have HQ:=am hq
    clear hq
    have HX:=am hcall
    clear hcall
    go_wp2_with (go_at_fn g;refine (HX.out _ ?dr).mono ?_;(case dr=>exact HD.out);rintro e w' ⟨rfl,hd⟩)
    go_ret
    exact ⟨⟨_,rfl, .inr ⟨kk,hlt,rfl,HQ.out,HA.out⟩⟩,pu HD.out hd⟩
   | false =>
    rw [hq] at hcall
    have HQ:=am hq
    clear hq
    have HX:=am hcall
    clear hcall
    go_wp2_with (go_at_fn g;refine (HX.out _ ?dr).mono ?_;(case dr=>exact HD.out);rintro e w' ⟨rfl,hd⟩)
    go_roundg (n - (kk+1))
    case measure=>omega
    case rel=>exact ⟨kk+1,d10,d10,by go_num,⟨pu HD.out hd⟩,⟨fun j hj=>by by_cases e:j=kk;exact e ▸ HQ.out;exact HA.out j d10⟩⟩
  have hltz:¬ (kk:Int) < (n:Int):=by omega
  have:kk=n:=by omega
  subst this
  go_wp2
  go_ret
  exact ⟨⟨_,rfl, .inl ⟨rfl,HA.out⟩⟩,HD.out⟩
set_option maxHeartbeats 4000000 in
theorem dec_ContainsFunc (g:Nat) (eg:∀ args w,(callFunc g args).run Try.prog w = .ok (.enter g args) w) (fv:Value) (p:Nat→Bool) (ad:Addr) (n c:Nat) (no:Nat→Int) (sA:Nat→Option Addr) (sn sc:Nat→Nat) (w:World) (hbig:n≤4611686018427387903)
  (hc:∀ i,i < n→w.cell? (ad.add (i*2))=some (.int .i64 (no i))∧w.cell? ⟨(ad.add (i*2)).block,(ad.add (i*2)).off+1,none⟩=some (.slice (sA i) (sn i) (sc i)))
  (hp:∀ i,i < n→∀ W,Below w.heap.size w W→Calls Try.prog g #[.agg #[.int .i64 (no i), .slice (sA i) (sn i) (sc i)],fv] W fun e w'=>e = .returned (.bool (p i))∧Below W.heap.size W w') :
  Calls Try.prog 153 #[.slice (some ad) n c, .func (.func g) #[] #[fv]] w fun e w'=>e = .returned (.bool ((List.range n).any p))∧Below w.heap.size w w':=by
 have HX:=am (dec_IndexFunc g eg fv p ad n c no sA sn sc w hbig hc hp)
 clear hp hc
 go_enter Try.func153,Try.ntmps153
 go_wp2_with (go_at_call 196;refine HX.out.mono ?_;rintro e w' ⟨⟨r,rfl,hr⟩,hd⟩)
 go_ret
 refine ⟨?_,hd⟩
 rw [← idxOf_nonneg hr]
 first|rfl|(simp;done)
/-- No shard at all: nothing is looked at. -/
theorem dec_none (A:Option Addr) (c:Nat) (fv:Value) (w:World) :
  Calls Try.prog 153 #[.slice A 0 c,fv] w fun e w'=>e = .returned (.bool false)∧w=w':=by
 have HX:∀ w:World,Calls Try.prog 196 #[.slice A 0 c,fv] w fun e w'=>e = .returned (.int .i64 (-1))∧w=w':=by
  intro w
  go_enter Try.func196,Try.ntmps196
  go_wp2
  go_loopg [5,8] 0 (fun gg _ s8 wr=>s8 = .int .i64 0∧w=wr)
  case atStart=>exact ⟨rfl,rfl⟩
  case round =>
   obtain ⟨rfl,rfl⟩:=hrel
   go_wp2
   go_ret
   exact ⟨rfl,rfl⟩
 go_enter Try.func153,Try.ntmps153
 go_wp2_with (go_at_call 196;refine (HX _).mono ?_;rintro e w' ⟨rfl,rfl⟩)
 go_ret
 exact ⟨rfl,rfl⟩
/-- The test of one piece. -/
theorem dec_test (gb:Nat) (n k no:Int) (A:Option Addr) (c:Nat) (l:List Int) (r:Bool) (W:World) (hbox:W.cell? ⟨gb,0,none⟩=some (.int .i64 n)∧W.cell? ⟨gb,1,none⟩=some (.int .i64 k))
  (hr:Kd.C (Kd.int .u8) W A l.length l) (hc:l.length≤c) (h:impl_Msr_isPiece.f n k no l=some r) :
  Calls Try.prog 154 #[.agg #[.int .i64 no, .slice A l.length c], .pointer (some ⟨gb,0,none⟩)] W fun e w'=>e = .returned (.bool (!r))∧Below W.heap.size W w':=by
 have hu:=Try.underlying72
 have hu2:=Try.underlying69
 have hB:=pa (Below.refl W.heap.size W) (Obj.cells #[.int .i64 no, .slice A l.length c] 69 (0,0))
 have k0:(W.alloc (Obj.cells #[.int .i64 no, .slice A l.length c] 69 (0,0))).cell? ⟨W.heap.size,0,none⟩=some (.int .i64 no):=(blk_cell (heap_alloc_new W _) 0).trans rfl
 have k1:(W.alloc (Obj.cells #[.int .i64 no, .slice A l.length c] 69 (0,0))).cell? ⟨W.heap.size,1,none⟩=some (.slice A l.length c):=(blk_cell (heap_alloc_new W _) 1).trans rfl
 have k2:=(hB.cell (World.block_lt_of_cell? W _ hbox.1)).trans hbox.1
 have k3:=(hB.cell (World.block_lt_of_cell? W _ hbox.2)).trans hbox.2
 have HX:=am (impl_Msr_isPiece.calls n k no A c l r _ (Kd.C_alloc hr (Obj.cells #[.int .i64 no, .slice A l.length c] 69 (0,0))) hc h)
 have HBB:=am hB
 clear hbox hr hc h hB
 go_enter Try.func154,Try.ntmps154
 go_wp2_with (go_at_call 155;refine HX.out.mono ?_;rintro e w1 ⟨rfl,hb⟩)
 go_ret
 exact ⟨by first|rfl|(simp;done),pu HBB.out hb⟩
def dec_Piece.f (l0:List (S69)) (n k:Int):Option Bool:=if l0.length≤1048576∧∀ p ∈ l0,(impl_Msr_isPiece.f n k p.f0 p.f1).isSome=true then some ((List.range l0.length).any fun i=>!((impl_Msr_isPiece.f n k (l0.getD i z69).f0 (l0.getD i z69).f1).getD true)) else none
theorem dec_Piece.calls (A0:Option Addr) (c0:Nat) (l0:List (S69)) (n k:Int) (r:Bool) (w:World) (gb:Nat) (hr0:Kd.C k69 w A0 l0.length l0) (hc0:l0.length≤c0) (hbox:w.cell? ⟨gb,0,none⟩=some (.int .i64 n)∧w.cell? ⟨gb,1,none⟩=some (.int .i64 k)) (h:dec_Piece.f l0 n k=some r) :
  Calls Try.prog 153 #[.slice A0 l0.length c0, .func (.func 154) #[] #[.pointer (some ⟨gb,0,none⟩)]] w fun e w'=>e = .returned (.bool r)∧Below w.heap.size w w':=by
 unfold dec_Piece.f at h
 by_cases hs:l0.length≤1048576∧∀ p ∈ l0,(impl_Msr_isPiece.f n k p.f0 p.f1).isSome=true
 case neg=>rw [if_neg hs] at h;cases h
 rw [if_pos hs] at h
 obtain rfl:=Option.some.inj h
 clear h
 by_cases hp:0 < l0.length
 ·have hrows:∀ i:Nat,i < l0.length→∃ A c,(∀ ad,A0=some ad→w.cell? (ad.add (i*2))=some (.int .i64 (l0.getD i z69).f0)∧w.cell? ⟨(ad.add (i*2)).block,(ad.add (i*2)).off+1,none⟩=some (.slice A (l0.getD i z69).f1.length c))∧(l0.getD i z69).f1.length≤c∧Kd.C (Kd.int .u8) w A (l0.getD i z69).f1.length (l0.getD i z69).f1:=fun i hi=>by
   obtain ⟨ad',A,c,e,h1,h2,h3,h4⟩:=at_T69 hr0 (i:Int) d10 d10
   rw [Int.toNat_natCast] at h1 h2
   exact ⟨A,c,fun ad e2=>by rw [e] at e2;injection e2 with e2;subst e2;exact ⟨h1,h2⟩,h3,h4⟩
  obtain ⟨ad,_,_,rfl,_⟩:=at_T69 hr0 0 d10 d10
  let sA:Nat→Option Addr:=fun i=>if h:i < l0.length then (hrows i h).choose else none
  let sc:Nat→Nat:=fun i=>if h:i < l0.length then (hrows i h).choose_spec.choose else 0
  have hsp:∀ i,i < l0.length→(w.cell? (ad.add (i*2))=some (.int .i64 (l0.getD i z69).f0)∧w.cell? ⟨(ad.add (i*2)).block,(ad.add (i*2)).off+1,none⟩=some (.slice (sA i) (l0.getD i z69).f1.length (sc i)))∧(l0.getD i z69).f1.length≤sc i∧Kd.C (Kd.int .u8) w (sA i) (l0.getD i z69).f1.length (l0.getD i z69).f1:=fun i hi=>by
   have h:=(hrows i hi).choose_spec.choose_spec
   simp only [sA,sc,dif_pos hi]
   exact ⟨h.1 ad rfl,h.2⟩
  clear_value sA sc
  refine (dec_ContainsFunc 154 (enters_of Try.func154 rfl rfl) (.pointer (some ⟨gb,0,none⟩)) (fun i=>!((impl_Msr_isPiece.f n k (l0.getD i z69).f0 (l0.getD i z69).f1).getD true)) ad l0.length c0 (fun i=>(l0.getD i z69).f0) sA (fun i=>(l0.getD i z69).f1.length) sc w d10
   (fun i hi=>(hsp i hi).1)
   (fun i hi W1 hb1=>by
    have hm:l0.getD i z69 ∈ l0:=by rw [List.getD_eq_getElem?_getD,List.getElem?_eq_getElem hi];exact List.getElem_mem hi
    have hsome:=hs.2 _ hm
    obtain ⟨b,hb⟩:=Option.isSome_iff_exists.1 hsome
    simp only [hb,Option.getD_some]
    exact dec_test gb n k _ _ _ _ b W1 ⟨(hb1.cell (World.block_lt_of_cell? w _ hbox.1)).trans hbox.1,(hb1.cell (World.block_lt_of_cell? w _ hbox.2)).trans hbox.2⟩ (Kd.C_below (hsp i hi).2.2 hb1) (hsp i hi).2.1 hb))
 have e0:l0=[]:=List.eq_nil_of_length_eq_zero d10
 subst e0
 refine (dec_none A0 c0 _ w).mono ?_
 rintro e w' ⟨rfl,rfl⟩
 exact ⟨rfl,Below.refl _ _⟩
mutual
def impl_DecodeMsr.j0:Nat→List (S69)→Bool→Int→Int→Option (List Int × Bool)
 | 0,_,_,_,_=>none
 | k+1,x1,x32,x373000,x373001=>if x32=true then (some (([]:List Int),false)) else (impl_DecodeMsr.l0 k x1 1 x373000 x373001)
def impl_DecodeMsr.l0:Nat→List (S69)→Int→Int→Int→Option (List Int × Bool)
 | 0,_,_,_,_=>none
 | k+1,x1,x6,x373000,x373001=>if x6 < (x1.length:Int) then (if 0≤x6 then (if 0≤(wrap64 (x6 - 1)) then (if (wrap64 (x6 - 1)) < (x1.length:Int) then (if ((rd_T69 x1 x6).f0)≤((rd_T69 x1 (wrap64 (x6 - 1))).f0) then (some (([]:List Int),false)) else (impl_DecodeMsr.l0 k x1 (wrap64 (x6+1)) x373000 x373001)) else (none)) else (none)) else (none)) else ((impl_Msr_places.f k x373000 x373001).bind fun t377=>(if 0≤x373001 then (if x373001≤(x1.length:Int) then ((some (x1.take (x373001:Int).toNat:List (S69))).bind fun y386=>(impl_DecodeMsr.l1 k t377 (([]:List (List Int))) (([]:List Int)) y386 (y386.length:Int) 0 x373000 x373001)) else (none)) else (none)))
def impl_DecodeMsr.l1:Nat→List (List Int)→List (List Int)→List Int→List (S69)→Int→Int→Int→Int→Option (List Int × Bool)
 | 0,_,_,_,_,_,_,_,_=>none
 | k+1,x7,x8,x9,x58,x59,x60,x373000,x373001=>if x60 < x59 then (if 0≤x60 then (if x60 < (x58.length:Int) then ((impl_Msr_row.f k x373000 x373001 ((rd_T69 x58 x60).f0)).bind fun t396=>(impl_DecodeMsr.l2 k x7 x8 x9 t396 x58 x59 x60 ((rd_T69 x58 x60).f1) (((rd_T69 x58 x60).f1).length:Int) 0 x373000 x373001)) else (none)) else (none)) else ((impl_solve.f k x8 x9).bind fun bt390=>(some (bt390.1,bt390.2)))
def impl_DecodeMsr.l2:Nat→List (List Int)→List (List Int)→List Int→List Int→List (S69)→Int→Int→List Int→Int→Int→Int→Int→Option (List Int × Bool)
 | 0,_,_,_,_,_,_,_,_,_,_,_,_=>none
 | k+1,x7,x8,x9,x12,x58,x59,x60,x69,x70,x71,x373000,x373001=>if x71 < x70 then (if 0≤x71 then (if x71 < (x69.length:Int) then ((impl_Msr_size.f x373000 x373001).bind fun t400=>(if 0≤t400 then (if (t400:Int).toNat≤281474976710656 then (impl_DecodeMsr.l3 k x7 x8 x9 x12 x71 (rd x69 x71) (List.replicate (t400:Int).toNat 0) x58 x59 x60 x69 x70 x71 x12 (x12.length:Int) 0 x373000 x373001) else (none)) else (none))) else (none)) else (none)) else (impl_DecodeMsr.l1 k x7 x8 x9 x58 x59 (wrap64 (x60+1)) x373000 x373001)
def impl_DecodeMsr.l3:Nat→List (List Int)→List (List Int)→List Int→List Int→Int→Int→List Int→List (S69)→Int→Int→List Int→Int→Int→List Int→Int→Int→Int→Int→Option (List Int × Bool)
 | 0,_,_,_,_,_,_,_,_,_,_,_,_,_,_,_,_,_,_=>none
 | k+1,x7,x8,x9,x12,x13,x14,x15,x58,x59,x60,x69,x70,x71,x79,x80,x81,x373000,x373001=>if x81 < x80 then (if 0≤x81 then (if x81 < (x79.length:Int) then (if x81 < (x7.length:Int) then (if 0≤x13 then (if x13 < ((rd_L5 x7 x81).length:Int) then (if 0≤(rd (rd_L5 x7 x81) x13) then (if (rd (rd_L5 x7 x81) x13) < (x15.length:Int) then (impl_DecodeMsr.l3 k x7 x8 x9 x12 x13 x14 (x15.set ((rd (rd_L5 x7 x81) x13):Int).toNat (Go.bits .xor .u8 (rd x15 (rd (rd_L5 x7 x81) x13)) (rd x79 x81))) x58 x59 x60 x69 x70 x71 x79 x80 (wrap64 (x81+1)) x373000 x373001) else (none)) else (none)) else (none)) else (none)) else (none)) else (none)) else (none)) else (if x8.length < 5864062014805 then (if x9.length < 140737488355328 then (impl_DecodeMsr.l2 k x7 (x8 ++ [x15]) (x9 ++ [x14]) x12 x58 x59 x60 x69 x70 (wrap64 (x71+1)) x373000 x373001) else (none)) else (none))
end
def impl_DecodeMsr.f (k:Nat) (a0_0:Int) (a0_1:Int) (l1:List (S69)):Option (List Int × Bool):=(impl_GoodMsr.f a0_0 a0_1).bind fun t373=>(if t373=true then (if (l1.length:Int) < a0_1 then (impl_DecodeMsr.j0 k l1 true a0_0 a0_1) else ((dec_Piece.f l1 a0_0 a0_1).bind fun t374=>(impl_DecodeMsr.j0 k l1 t374 a0_0 a0_1))) else (impl_DecodeMsr.j0 k l1 true a0_0 a0_1))
theorem impl_DecodeMsr.mono_l:∀ k,(∀ y0 y1 y2 y3,LeO (impl_DecodeMsr.j0 k y0 y1 y2 y3) (impl_DecodeMsr.j0 (k+1) y0 y1 y2 y3))∧(∀ y0 y1 y2 y3,LeO (impl_DecodeMsr.l0 k y0 y1 y2 y3) (impl_DecodeMsr.l0 (k+1) y0 y1 y2 y3))∧(∀ y0 y1 y2 y3 y4 y5 y6 y7,LeO (impl_DecodeMsr.l1 k y0 y1 y2 y3 y4 y5 y6 y7) (impl_DecodeMsr.l1 (k+1) y0 y1 y2 y3 y4 y5 y6 y7))∧(∀ y0 y1 y2 y3 y4 y5 y6 y7 y8 y9 y10 y11,LeO (impl_DecodeMsr.l2 k y0 y1 y2 y3 y4 y5 y6 y7 y8 y9 y10 y11) (impl_DecodeMsr.l2 (k+1) y0 y1 y2 y3 y4 y5 y6 y7 y8 y9 y10 y11))∧(∀ y0 y1 y2 y3 y4 y5 y6 y7 y8 y9 y10 y11 y12 y13 y14 y15 y16 y17,LeO (impl_DecodeMsr.l3 k y0 y1 y2 y3 y4 y5 y6 y7 y8 y9 y10 y11 y12 y13 y14 y15 y16 y17) (impl_DecodeMsr.l3 (k+1) y0 y1 y2 y3 y4 y5 y6 y7 y8 y9 y10 y11 y12 y13 y14 y15 y16 y17))
 | 0=>⟨fun _ _ _ _ r h=>by simp [impl_DecodeMsr.j0] at h,fun _ _ _ _ r h=>by simp [impl_DecodeMsr.l0] at h,fun _ _ _ _ _ _ _ _ r h=>by simp [impl_DecodeMsr.l1] at h,fun _ _ _ _ _ _ _ _ _ _ _ _ r h=>by simp [impl_DecodeMsr.l2] at h,fun _ _ _ _ _ _ _ _ _ _ _ _ _ _ _ _ _ _ r h=>by simp [impl_DecodeMsr.l3] at h⟩
 | k+1=>by
  obtain ⟨ih0,ih1,ih2,ih3,ih4⟩:=impl_DecodeMsr.mono_l k
  refine ⟨?_,?_,?_,?_,?_⟩
  ·intro y0 y1 y2 y3
   unfold impl_DecodeMsr.j0
   repeat' first
   | (with_reducible exact ih0 _ _ _ _)
   | (with_reducible exact ih1 _ _ _ _)
   | (with_reducible exact ih2 _ _ _ _ _ _ _ _)
   | (with_reducible exact ih3 _ _ _ _ _ _ _ _ _ _ _ _)
   | (with_reducible exact ih4 _ _ _ _ _ _ _ _ _ _ _ _ _ _ _ _ _ _)
   | (with_reducible exact impl_Msr_places.mono _ _ _)
   | (with_reducible exact impl_Msr_row.mono _ _ _ _)
   | (with_reducible exact impl_solve.mono _ _ _)
   |(with_reducible exact LeO.refl _)|(with_reducible exact LeO.none _)|(with_reducible refine LeO.ite ?_ ?_)|(with_reducible refine LeO.bind ?_ (fun _=>?_))|exact ih0 _ _ _ _|exact ih1 _ _ _ _|exact ih2 _ _ _ _ _ _ _ _|exact ih3 _ _ _ _ _ _ _ _ _ _ _ _|exact ih4 _ _ _ _ _ _ _ _ _ _ _ _ _ _ _ _ _ _|exact impl_Msr_places.mono _ _ _|exact impl_Msr_row.mono _ _ _ _|exact impl_solve.mono _ _ _|exact LeO.none _|refine LeO.ite ?_ ?_|refine LeO.bind ?_ (fun _=>?_)
  ·intro y0 y1 y2 y3
   unfold impl_DecodeMsr.l0
   repeat' first
   | (with_reducible exact ih0 _ _ _ _)
   | (with_reducible exact ih1 _ _ _ _)
   | (with_reducible exact ih2 _ _ _ _ _ _ _ _)
   | (with_reducible exact ih3 _ _ _ _ _ _ _ _ _ _ _ _)
   | (with_reducible exact ih4 _ _ _ _ _ _ _ _ _ _ _ _ _ _ _ _ _ _)
   | (with_reducible exact impl_Msr_places.mono _ _ _)
   | (with_reducible exact impl_Msr_row.mono _ _ _ _)
   | (with_reducible exact impl_solve.mono _ _ _)
   |(with_reducible exact LeO.refl _)|(with_reducible exact LeO.none _)|(with_reducible refine LeO.ite ?_ ?_)|(with_reducible refine LeO.bind ?_ (fun _=>?_))|exact ih0 _ _ _ _|exact ih1 _ _ _ _|exact ih2 _ _ _ _ _ _ _ _|exact ih3 _ _ _ _ _ _ _ _ _ _ _ _|exact ih4 _ _ _ _ _ _ _ _ _ _ _ _ _ _ _ _ _ _|exact impl_Msr_places.mono _ _ _|exact impl_Msr_row.mono _ _ _ _|exact impl_solve.mono _ _ _|exact LeO.none _|refine LeO.ite ?_ ?_|refine LeO.bind ?_ (fun _=>?_)
  ·intro y0 y1 y2 y3 y4 y5 y6 y7
   unfold impl_DecodeMsr.l1
   repeat' first
   | (with_reducible exact ih0 _ _ _ _)
   | (with_reducible exact ih1 _ _ _ _)
   | (with_reducible exact ih2 _ _ _ _ _ _ _ _)
   | (with_reducible exact ih3 _ _ _ _ _ _ _ _ _ _ _ _)
   | (with_reducible exact ih4 _ _ _ _ _ _ _ _ _ _ _ _ _ _ _ _ _ _)
   | (with_reducible exact impl_Msr_places.mono _ _ _)
   | (with_reducible exact impl_Msr_row.mono _ _ _ _)
   | (with_reducible exact impl_solve.mono _ _ _)
   |(with_reducible exact LeO.refl _)|(with_reducible exact LeO.none _)|(with_reducible refine LeO.ite ?_ ?_)|(with_reducible refine LeO.bind ?_ (fun _=>?_))|exact ih0 _ _ _ _|exact ih1 _ _ _ _|exact ih2 _ _ _ _ _ _ _ _|exact ih3 _ _ _ _ _ _ _ _ _ _ _ _|exact ih4 _ _ _ _ _ _ _ _ _ _ _ _ _ _ _ _ _ _|exact impl_Msr_places.mono _ _ _|exact impl_Msr_row.mono _ _ _ _|exact impl_solve.mono _ _ _|exact LeO.none _|refine LeO.ite ?_ ?_|refine LeO.bind ?_ (fun _=>?_)
  ·intro y0 y1 y2 y3 y4 y5 y6 y7 y8 y9 y10 y11
   unfold impl_DecodeMsr.l2
   repeat' first
   | (with_reducible exact ih0 _ _ _ _)
   | (with_reducible exact ih1 _ _ _ _)
   | (with_reducible exact ih2 _ _ _ _ _ _ _ _)
   | (with_reducible exact ih3 _ _ _ _ _ _ _ _ _ _ _ _)
   | (with_reducible exact ih4 _ _ _ _ _ _ _ _ _ _ _ _ _ _ _ _ _ _)
   | (with_reducible exact impl_Msr_places.mono _ _ _)
   | (with_reducible exact impl_Msr_row.mono _ _ _ _)
   | (with_reducible exact impl_solve.mono _ _ _)
   |(with_reducible exact LeO.refl _)|(with_reducible exact LeO.none _)|(with_reducible refine LeO.ite ?_ ?_)|(with_reducible refine LeO.bind ?_ (fun _=>?_))|exact ih0 _ _ _ _|exact ih1 _ _ _ _|exact ih2 _ _ _ _ _ _ _ _|exact ih3 _ _ _ _ _ _ _ _ _ _ _ _|exact ih4 _ _ _ _ _ _ _ _ _ _ _ _ _ _ _ _ _ _|exact impl_Msr_places.mono _ _ _|exact impl_Msr_row.mono _ _ _ _|exact impl_solve.mono _ _ _|exact LeO.none _|refine LeO.ite ?_ ?_|refine LeO.bind ?_ (fun _=>?_)
  intro y0 y1 y2 y3 y4 y5 y6 y7 y8 y9 y10 y11 y12 y13 y14 y15 y16 y17
  unfold impl_DecodeMsr.l3
  repeat' first
  | (with_reducible exact ih0 _ _ _ _)
  | (with_reducible exact ih1 _ _ _ _)
  | (with_reducible exact ih2 _ _ _ _ _ _ _ _)
  | (with_reducible exact ih3 _ _ _ _ _ _ _ _ _ _ _ _)
  | (with_reducible exact ih4 _ _ _ _ _ _ _ _ _ _ _ _ _ _ _ _ _ _)
  | (with_reducible exact impl_Msr_places.mono _ _ _)
  | (with_reducible exact impl_Msr_row.mono _ _ _ _)
  | (with_reducible exact impl_solve.mono _ _ _)
  |(with_reducible exact LeO.refl _)|(with_reducible exact LeO.none _)|(with_reducible refine LeO.ite ?_ ?_)|(with_reducible refine LeO.bind ?_ (fun _=>?_))|exact ih0 _ _ _ _|exact ih1 _ _ _ _|exact ih2 _ _ _ _ _ _ _ _|exact ih3 _ _ _ _ _ _ _ _ _ _ _ _|exact ih4 _ _ _ _ _ _ _ _ _ _ _ _ _ _ _ _ _ _|exact impl_Msr_places.mono _ _ _|exact impl_Msr_row.mono _ _ _ _|exact impl_solve.mono _ _ _|exact LeO.none _|refine LeO.ite ?_ ?_|refine LeO.bind ?_ (fun _=>?_)
theorem impl_DecodeMsr.mono:∀ a0 a1 a2 k,LeO (impl_DecodeMsr.f k a0 a1 a2) (impl_DecodeMsr.f (k+1) a0 a1 a2):=by
 intro a0 a1 a2 k
 obtain ⟨ih0,ih1,ih2,ih3,ih4⟩:=impl_DecodeMsr.mono_l k
 unfold impl_DecodeMsr.f
 repeat' first
   | (with_reducible exact ih0 _ _ _ _)
   | (with_reducible exact ih1 _ _ _ _)
   | (with_reducible exact ih2 _ _ _ _ _ _ _ _)
   | (with_reducible exact ih3 _ _ _ _ _ _ _ _ _ _ _ _)
   | (with_reducible exact ih4 _ _ _ _ _ _ _ _ _ _ _ _ _ _ _ _ _ _)
   | (with_reducible exact impl_Msr_places.mono _ _ _)
   | (with_reducible exact impl_Msr_row.mono _ _ _ _)
   | (with_reducible exact impl_solve.mono _ _ _)
   |(with_reducible exact LeO.refl _)|(with_reducible exact LeO.none _)|(with_reducible refine LeO.ite ?_ ?_)|(with_reducible refine LeO.bind ?_ (fun _=>?_))|exact ih0 _ _ _ _|exact ih1 _ _ _ _|exact ih2 _ _ _ _ _ _ _ _|exact ih3 _ _ _ _ _ _ _ _ _ _ _ _|exact ih4 _ _ _ _ _ _ _ _ _ _ _ _ _ _ _ _ _ _|exact impl_Msr_places.mono _ _ _|exact impl_Msr_row.mono _ _ _ _|exact impl_solve.mono _ _ _|exact LeO.none _|refine LeO.ite ?_ ?_|refine LeO.bind ?_ (fun _=>?_)
theorem impl_DecodeMsr.calls (k:Nat) (a0_0:Int) (a0_1:Int) (A1:Option Addr) (c1:Nat) (l1:List (S69)) (r1:List Int) (r2:Bool) (w:World) (hr1:Kd.C k69 w A1 l1.length l1) (hc1:l1.length≤c1) (h:impl_DecodeMsr.f k a0_0 a0_1 l1=some (r1,r2)) :
  Calls Try.prog 70 #[.agg #[.int .i64 a0_0, .int .i64 a0_1], .slice A1 l1.length c1] w fun e w'=>∃ v0_:Value,e = .returned (.tuple #[v0_, .bool r2])∧Kd.R (Kd.int .u8) 5 w' w.heap.size (fun _=>True) v0_ r1∧Below w.heap.size w w':=by
 have hu72:=Try.underlying72
 have hu69:=Try.underlying69
 have HR1:=am hr1
 have HC1:=am hc1
 clear hr1 hc1
 have HB:=am (Below.refl w.heap.size w)
 have H:((impl_GoodMsr.f a0_0 a0_1).bind fun t373=>(if t373=true then (if (l1.length:Int) < a0_1 then (impl_DecodeMsr.j0 k l1 true a0_0 a0_1) else ((dec_Piece.f l1 a0_0 a0_1).bind fun t374=>(impl_DecodeMsr.j0 k l1 t374 a0_0 a0_1))) else (impl_DecodeMsr.j0 k l1 true a0_0 a0_1)))=some (r1,r2):=h
 clear h
 have HC3:=am H
 clear H
 go_enter Try.func70,Try.ntmps70
 go_upto_region 1 with (first|((with_reducible refine gate_dst (N:=2) rfl ?_);(try (refine gate_guard d18 ?_;dsimp only));refine box_event ?hg (N:=2) ?hd (cs:=#[.int .i64 a0_0, .int .i64 a0_1]) (t:=72) ?hr ?_;(case hd=>rfl);(case hg=>rfl);(case hr=>first|(go_simp;done)|(go_simp;rfl));intro gb372 hg w4 hbox hb;have n0_:=am (pu d0 hb);have n1_:=am (hbox);have n2_:=am ((by rw [hg];exact (pz d0):w.heap.size≤gb372));have n3_:=n2_;clear HB;have HB:=n0_;have BK372:=n1_;have GW372:=n2_;have GE372:=n3_;clear n0_ n1_ n2_ n3_;clear hb hbox hg))
 repeat (go_quiet (first|((with_reducible refine gate_dst (N:=2) rfl ?_);(try (refine gate_guard d18 ?_;dsimp only));refine box_event ?hg (N:=2) ?hd (cs:=#[.int .i64 a0_0, .int .i64 a0_1]) (t:=72) ?hr ?_;(case hd=>rfl);(case hg=>rfl);(case hr=>first|(go_simp;done)|(go_simp;rfl));intro gb372 hg w4 hbox hb;have n0_:=am (pu d0 hb);have n1_:=am (hbox);have n2_:=am ((by rw [hg];exact (pz d0):w.heap.size≤gb372));have n3_:=n2_;clear HB;have HB:=n0_;have BK372:=n1_;have GW372:=n2_;have GE372:=n3_;clear n0_ n1_ n2_ n3_;clear hb hbox hg));go_upto_region 1 with (first|((with_reducible refine gate_dst (N:=2) rfl ?_);(try (refine gate_guard d18 ?_;dsimp only));refine box_event ?hg (N:=2) ?hd (cs:=#[.int .i64 a0_0, .int .i64 a0_1]) (t:=72) ?hr ?_;(case hd=>rfl);(case hg=>rfl);(case hr=>first|(go_simp;done)|(go_simp;rfl));intro gb372 hg w4 hbox hb;have n0_:=am (pu d0 hb);have n1_:=am (hbox);have n2_:=am ((by rw [hg];exact (pz d0):w.heap.size≤gb372));have n3_:=n2_;clear HB;have HB:=n0_;have BK372:=n1_;have GW372:=n2_;have GE372:=n3_;clear n0_ n1_ n2_ n3_;clear hb hbox hg)))
 (try simp only [Act.put,q1,q2,q3])
 go_cut [32] (fun v32 wc=>∃ (kq:Nat) (x32_2:Bool),v32 = .bool x32_2∧Aside0 (impl_DecodeMsr.j0 kq l1 x32_2 a0_0 a0_1=some (r1,r2))∧Aside0 (kq≤k)∧Aside0 (wc.heap[gb372]? = some (.cells #[.int .i64 a0_0, .int .i64 a0_1] 72 (0,0)))∧Aside0 (Below w.heap.size w wc))
 case first =>
  have H:=HC3.out
  clear HC3
  replace H:=Option.bind_eq_some_iff.mp H
  obtain ⟨t373,A50,H⟩:=H
  replace H:(if t373=true then (if (l1.length:Int) < a0_1 then (impl_DecodeMsr.j0 k l1 true a0_0 a0_1) else ((dec_Piece.f l1 a0_0 a0_1).bind fun t374=>(impl_DecodeMsr.j0 k l1 t374 a0_0 a0_1))) else (impl_DecodeMsr.j0 k l1 true a0_0 a0_1))=some (r1,r2):=H
  have A5:=am A50
  clear A50
  by_cases c6:t373=true
  ·subst c6
   have H1:(if (l1.length:Int) < a0_1 then (impl_DecodeMsr.j0 k l1 true a0_0 a0_1) else ((dec_Piece.f l1 a0_0 a0_1).bind fun t374=>(impl_DecodeMsr.j0 k l1 t374 a0_0 a0_1)))=some (r1,r2):=by rw [if_pos rfl] at H;exact H
   clear H
   have H:=H1
   clear H1
   by_cases c7:(l1.length:Int) < a0_1
   ·rw [if_pos c7] at H
    have c7b0:decide ((l1.length:Int) < a0_1)=true:=decide_eq_true c7
    clear c7
    (first|rw [c7b0]|(simp only [i64_w,i32_w];rw [c7b0])|skip)
    have H':=am H
    clear H
    have hcz8_0:w4.cell? ⟨gb372,0,none⟩=some (.int .i64 a0_0):=(blk_cell BK372.out 0).trans rfl
    have hcz8_1:w4.cell? ⟨gb372,1,none⟩=some (.int .i64 a0_1):=(blk_cell BK372.out 1).trans rfl
    have hfz8_0:=blk_frozen BK372.out 0
    have hfz8_1:=blk_frozen BK372.out 1
    go_wp2_with (first|(go_at_call 152;(with_reducible refine (impl_GoodMsr.calls a0_0 a0_1 true _ A5.out).mono ?_);rintro e w9 ⟨rfl,hb⟩;have n0_:=am (qb (g:=gb372) (o:=.cells #[.int .i64 a0_0, .int .i64 a0_1] 72 (0,0)) (by (with_reducible repeat (first|refine qn ?_ _|refine qd ?_|refine qa ?_ _));exact BK372.out) hb);have n1_:=am (pu (by repeat (first|(with_reducible first|exact HB.out|apply pa|apply pb|apply pd|refine pt ?_ GE372.out)|exact HB.out)) hb);clear BK372;clear HB;have BK372:=n0_;have HB:=n1_;clear n0_ n1_;(try clear hb);(try clear hb2);(try clear hk);(try clear hi);have hcz10_0:w9.cell? ⟨gb372,0,none⟩=some (.int .i64 a0_0):=(blk_cell BK372.out 0).trans rfl;have hcz10_1:w9.cell? ⟨gb372,1,none⟩=some (.int .i64 a0_1):=(blk_cell BK372.out 1).trans rfl;have hfz10_0:=blk_frozen BK372.out 0;have hfz10_1:=blk_frozen BK372.out 1))
    repeat (go_quiet (first|(go_at_call 152;(with_reducible refine (impl_GoodMsr.calls a0_0 a0_1 true _ A5.out).mono ?_);rintro e w9 ⟨rfl,hb⟩;have n0_:=am (qb (g:=gb372) (o:=.cells #[.int .i64 a0_0, .int .i64 a0_1] 72 (0,0)) (by (with_reducible repeat (first|refine qn ?_ _|refine qd ?_|refine qa ?_ _));exact BK372.out) hb);have n1_:=am (pu (by repeat (first|(with_reducible first|exact HB.out|apply pa|apply pb|apply pd|refine pt ?_ GE372.out)|exact HB.out)) hb);clear BK372;clear HB;have BK372:=n0_;have HB:=n1_;clear n0_ n1_;(try clear hb);(try clear hb2);(try clear hk);(try clear hi);have hcz10_0:w9.cell? ⟨gb372,0,none⟩=some (.int .i64 a0_0):=(blk_cell BK372.out 0).trans rfl;have hcz10_1:w9.cell? ⟨gb372,1,none⟩=some (.int .i64 a0_1):=(blk_cell BK372.out 1).trans rfl;have hfz10_0:=blk_frozen BK372.out 0;have hfz10_1:=blk_frozen BK372.out 1));try go_wp2_with (first|(go_at_call 152;(with_reducible refine (impl_GoodMsr.calls a0_0 a0_1 true _ A5.out).mono ?_);rintro e w9 ⟨rfl,hb⟩;have n0_:=am (qb (g:=gb372) (o:=.cells #[.int .i64 a0_0, .int .i64 a0_1] 72 (0,0)) (by (with_reducible repeat (first|refine qn ?_ _|refine qd ?_|refine qa ?_ _));exact BK372.out) hb);have n1_:=am (pu (by repeat (first|(with_reducible first|exact HB.out|apply pa|apply pb|apply pd|refine pt ?_ GE372.out)|exact HB.out)) hb);clear BK372;clear HB;have BK372:=n0_;have HB:=n1_;clear n0_ n1_;(try clear hb);(try clear hb2);(try clear hk);(try clear hi);have hcz10_0:w9.cell? ⟨gb372,0,none⟩=some (.int .i64 a0_0):=(blk_cell BK372.out 0).trans rfl;have hcz10_1:w9.cell? ⟨gb372,1,none⟩=some (.int .i64 a0_1):=(blk_cell BK372.out 1).trans rfl;have hfz10_0:=blk_frozen BK372.out 0;have hfz10_1:=blk_frozen BK372.out 1)))
    go_meet
    case rel=>exact ⟨_,(true),d2,H',⟨d64⟩,⟨by (with_reducible repeat (first|refine qn ?_ _|refine qd ?_|refine qa ?_ _));exact BK372.out⟩,⟨by repeat (first|(with_reducible first|exact HB.out|apply pa|apply pb|apply pd|refine pt ?_ GE372.out)|exact HB.out)⟩⟩
   rw [if_neg c7] at H
   have c7b0:decide ((l1.length:Int) < a0_1)=false:=decide_eq_false c7
   clear c7
   (first|rw [c7b0]|(simp only [i64_w,i32_w];rw [c7b0])|skip)
   replace H:=Option.bind_eq_some_iff.mp H
   obtain ⟨t374,A110,H⟩:=H
   replace H:(impl_DecodeMsr.j0 k l1 t374 a0_0 a0_1)=some (r1,r2):=H
   have A11:=am A110
   clear A110
   have H':=am H
   clear H
   have hcz12_0:w4.cell? ⟨gb372,0,none⟩=some (.int .i64 a0_0):=(blk_cell BK372.out 0).trans rfl
   have hcz12_1:w4.cell? ⟨gb372,1,none⟩=some (.int .i64 a0_1):=(blk_cell BK372.out 1).trans rfl
   have hfz12_0:=blk_frozen BK372.out 0
   have hfz12_1:=blk_frozen BK372.out 1
   go_wp2_with (first|(go_at_call 152;(with_reducible refine (impl_GoodMsr.calls a0_0 a0_1 true _ A5.out).mono ?_);rintro e w13 ⟨rfl,hb⟩;have n0_:=am (qb (g:=gb372) (o:=.cells #[.int .i64 a0_0, .int .i64 a0_1] 72 (0,0)) (by (with_reducible repeat (first|refine qn ?_ _|refine qd ?_|refine qa ?_ _));exact BK372.out) hb);have n1_:=am (pu (by repeat (first|(with_reducible first|exact HB.out|apply pa|apply pb|apply pd|refine pt ?_ GE372.out)|exact HB.out)) hb);clear BK372;clear HB;have BK372:=n0_;have HB:=n1_;clear n0_ n1_;(try clear hb);(try clear hb2);(try clear hk);(try clear hi);have hcz14_0:w13.cell? ⟨gb372,0,none⟩=some (.int .i64 a0_0):=(blk_cell BK372.out 0).trans rfl;have hcz14_1:w13.cell? ⟨gb372,1,none⟩=some (.int .i64 a0_1):=(blk_cell BK372.out 1).trans rfl;have hfz14_0:=blk_frozen BK372.out 0;have hfz14_1:=blk_frozen BK372.out 1)|(go_at_call 153;(with_reducible refine (dec_Piece.calls _ _ l1 a0_0 a0_1 t374 _ _ ?side1 ?side2 ?box A11.out).mono ?_);(case side1=>repeat (first|exact (Kd.C_below HR1.out HB.out)|(with_reducible refine Kd.C_alloc ?_ _)|(with_reducible refine Kd.C_drewN ?_ _)|(with_reducible refine Kd.C_drew ?_)));(case side2=>exact HC1.out);(case box=>exact ⟨(blk_cell BK372.out 0).trans rfl,(blk_cell BK372.out 1).trans rfl⟩);rintro e w15 ⟨rfl,hb⟩;have n0_:=am (qb (g:=gb372) (o:=.cells #[.int .i64 a0_0, .int .i64 a0_1] 72 (0,0)) (by (with_reducible repeat (first|refine qn ?_ _|refine qd ?_|refine qa ?_ _));exact BK372.out) hb);have n1_:=am (pu (by repeat (first|(with_reducible first|exact HB.out|apply pa|apply pb|apply pd|refine pt ?_ GE372.out)|exact HB.out)) hb);clear BK372;clear HB;have BK372:=n0_;have HB:=n1_;clear n0_ n1_;(try clear hb);(try clear hb2);(try clear hk);(try clear hi)))
   repeat (go_quiet (first|(go_at_call 152;(with_reducible refine (impl_GoodMsr.calls a0_0 a0_1 true _ A5.out).mono ?_);rintro e w13 ⟨rfl,hb⟩;have n0_:=am (qb (g:=gb372) (o:=.cells #[.int .i64 a0_0, .int .i64 a0_1] 72 (0,0)) (by (with_reducible repeat (first|refine qn ?_ _|refine qd ?_|refine qa ?_ _));exact BK372.out) hb);have n1_:=am (pu (by repeat (first|(with_reducible first|exact HB.out|apply pa|apply pb|apply pd|refine pt ?_ GE372.out)|exact HB.out)) hb);clear BK372;clear HB;have BK372:=n0_;have HB:=n1_;clear n0_ n1_;(try clear hb);(try clear hb2);(try clear hk);(try clear hi);have hcz14_0:w13.cell? ⟨gb372,0,none⟩=some (.int .i64 a0_0):=(blk_cell BK372.out 0).trans rfl;have hcz14_1:w13.cell? ⟨gb372,1,none⟩=some (.int .i64 a0_1):=(blk_cell BK372.out 1).trans rfl;have hfz14_0:=blk_frozen BK372.out 0;have hfz14_1:=blk_frozen BK372.out 1)|(go_at_call 153;(with_reducible refine (dec_Piece.calls _ _ l1 a0_0 a0_1 t374 _ _ ?side1 ?side2 ?box A11.out).mono ?_);(case side1=>repeat (first|exact (Kd.C_below HR1.out HB.out)|(with_reducible refine Kd.C_alloc ?_ _)|(with_reducible refine Kd.C_drewN ?_ _)|(with_reducible refine Kd.C_drew ?_)));(case side2=>exact HC1.out);(case box=>exact ⟨(blk_cell BK372.out 0).trans rfl,(blk_cell BK372.out 1).trans rfl⟩);rintro e w15 ⟨rfl,hb⟩;have n0_:=am (qb (g:=gb372) (o:=.cells #[.int .i64 a0_0, .int .i64 a0_1] 72 (0,0)) (by (with_reducible repeat (first|refine qn ?_ _|refine qd ?_|refine qa ?_ _));exact BK372.out) hb);have n1_:=am (pu (by repeat (first|(with_reducible first|exact HB.out|apply pa|apply pb|apply pd|refine pt ?_ GE372.out)|exact HB.out)) hb);clear BK372;clear HB;have BK372:=n0_;have HB:=n1_;clear n0_ n1_;(try clear hb);(try clear hb2);(try clear hk);(try clear hi)));try go_wp2_with (first|(go_at_call 152;(with_reducible refine (impl_GoodMsr.calls a0_0 a0_1 true _ A5.out).mono ?_);rintro e w13 ⟨rfl,hb⟩;have n0_:=am (qb (g:=gb372) (o:=.cells #[.int .i64 a0_0, .int .i64 a0_1] 72 (0,0)) (by (with_reducible repeat (first|refine qn ?_ _|refine qd ?_|refine qa ?_ _));exact BK372.out) hb);have n1_:=am (pu (by repeat (first|(with_reducible first|exact HB.out|apply pa|apply pb|apply pd|refine pt ?_ GE372.out)|exact HB.out)) hb);clear BK372;clear HB;have BK372:=n0_;have HB:=n1_;clear n0_ n1_;(try clear hb);(try clear hb2);(try clear hk);(try clear hi);have hcz14_0:w13.cell? ⟨gb372,0,none⟩=some (.int .i64 a0_0):=(blk_cell BK372.out 0).trans rfl;have hcz14_1:w13.cell? ⟨gb372,1,none⟩=some (.int .i64 a0_1):=(blk_cell BK372.out 1).trans rfl;have hfz14_0:=blk_frozen BK372.out 0;have hfz14_1:=blk_frozen BK372.out 1)|(go_at_call 153;(with_reducible refine (dec_Piece.calls _ _ l1 a0_0 a0_1 t374 _ _ ?side1 ?side2 ?box A11.out).mono ?_);(case side1=>repeat (first|exact (Kd.C_below HR1.out HB.out)|(with_reducible refine Kd.C_alloc ?_ _)|(with_reducible refine Kd.C_drewN ?_ _)|(with_reducible refine Kd.C_drew ?_)));(case side2=>exact HC1.out);(case box=>exact ⟨(blk_cell BK372.out 0).trans rfl,(blk_cell BK372.out 1).trans rfl⟩);rintro e w15 ⟨rfl,hb⟩;have n0_:=am (qb (g:=gb372) (o:=.cells #[.int .i64 a0_0, .int .i64 a0_1] 72 (0,0)) (by (with_reducible repeat (first|refine qn ?_ _|refine qd ?_|refine qa ?_ _));exact BK372.out) hb);have n1_:=am (pu (by repeat (first|(with_reducible first|exact HB.out|apply pa|apply pb|apply pd|refine pt ?_ GE372.out)|exact HB.out)) hb);clear BK372;clear HB;have BK372:=n0_;have HB:=n1_;clear n0_ n1_;(try clear hb);(try clear hb2);(try clear hk);(try clear hi))))
   go_meet
   case rel=>exact ⟨_,(t374),d2,H',⟨d64⟩,⟨by (with_reducible repeat (first|refine qn ?_ _|refine qd ?_|refine qa ?_ _));exact BK372.out⟩,⟨by repeat (first|(with_reducible first|exact HB.out|apply pa|apply pb|apply pd|refine pt ?_ GE372.out)|exact HB.out)⟩⟩
  replace c6:=Bool.eq_false_iff.mpr c6
  subst c6
  have H1:(impl_DecodeMsr.j0 k l1 true a0_0 a0_1)=some (r1,r2):=by rw [if_neg (show ¬ (false=true) by decide)] at H;exact H
  clear H
  have H:=H1
  clear H1
  have H':=am H
  clear H
  have hcz16_0:w4.cell? ⟨gb372,0,none⟩=some (.int .i64 a0_0):=(blk_cell BK372.out 0).trans rfl
  have hcz16_1:w4.cell? ⟨gb372,1,none⟩=some (.int .i64 a0_1):=(blk_cell BK372.out 1).trans rfl
  have hfz16_0:=blk_frozen BK372.out 0
  have hfz16_1:=blk_frozen BK372.out 1
  go_wp2_with (first|(go_at_call 152;(with_reducible refine (impl_GoodMsr.calls a0_0 a0_1 false _ A5.out).mono ?_);rintro e w17 ⟨rfl,hb⟩;have n0_:=am (qb (g:=gb372) (o:=.cells #[.int .i64 a0_0, .int .i64 a0_1] 72 (0,0)) (by (with_reducible repeat (first|refine qn ?_ _|refine qd ?_|refine qa ?_ _));exact BK372.out) hb);have n1_:=am (pu (by repeat (first|(with_reducible first|exact HB.out|apply pa|apply pb|apply pd|refine pt ?_ GE372.out)|exact HB.out)) hb);clear BK372;clear HB;have BK372:=n0_;have HB:=n1_;clear n0_ n1_;(try clear hb);(try clear hb2);(try clear hk);(try clear hi)))
  repeat (go_quiet (first|(go_at_call 152;(with_reducible refine (impl_GoodMsr.calls a0_0 a0_1 false _ A5.out).mono ?_);rintro e w17 ⟨rfl,hb⟩;have n0_:=am (qb (g:=gb372) (o:=.cells #[.int .i64 a0_0, .int .i64 a0_1] 72 (0,0)) (by (with_reducible repeat (first|refine qn ?_ _|refine qd ?_|refine qa ?_ _));exact BK372.out) hb);have n1_:=am (pu (by repeat (first|(with_reducible first|exact HB.out|apply pa|apply pb|apply pd|refine pt ?_ GE372.out)|exact HB.out)) hb);clear BK372;clear HB;have BK372:=n0_;have HB:=n1_;clear n0_ n1_;(try clear hb);(try clear hb2);(try clear hk);(try clear hi)));try go_wp2_with (first|(go_at_call 152;(with_reducible refine (impl_GoodMsr.calls a0_0 a0_1 false _ A5.out).mono ?_);rintro e w17 ⟨rfl,hb⟩;have n0_:=am (qb (g:=gb372) (o:=.cells #[.int .i64 a0_0, .int .i64 a0_1] 72 (0,0)) (by (with_reducible repeat (first|refine qn ?_ _|refine qd ?_|refine qa ?_ _));exact BK372.out) hb);have n1_:=am (pu (by repeat (first|(with_reducible first|exact HB.out|apply pa|apply pb|apply pd|refine pt ?_ GE372.out)|exact HB.out)) hb);clear BK372;clear HB;have BK372:=n0_;have HB:=n1_;clear n0_ n1_;(try clear hb);(try clear hb2);(try clear hk);(try clear hi))))
  go_meet
  case rel=>exact ⟨_,(true),d2,H',⟨d64⟩,⟨by (with_reducible repeat (first|refine qn ?_ _|refine qd ?_|refine qa ?_ _));exact BK372.out⟩,⟨by repeat (first|(with_reducible first|exact HB.out|apply pa|apply pb|apply pd|refine pt ?_ GE372.out)|exact HB.out)⟩⟩
 case rest =>
  clear HC3
  try clear c1
  try clear p2
  try clear c6
  try clear c7
  try clear c7b0
  try clear hcz10_0
  try clear hcz10_1
  try clear hcz12_0
  try clear hcz12_1
  try clear hcz14_0
  try clear hcz14_1
  try clear hcz16_0
  try clear hcz16_1
  try clear hcz8_0
  try clear hcz8_1
  try clear hfz10_0
  try clear hfz10_1
  try clear hfz12_0
  try clear hfz12_1
  try clear hfz14_0
  try clear hfz14_1
  try clear hfz16_0
  try clear hfz16_1
  try clear hfz8_0
  try clear hfz8_1
  obtain ⟨kq,x32_2,rfl,HA,HJ2,BK372,HB⟩:=hcut
  cases kq with
  | zero=>exact absurd HA.out (by simp [impl_DecodeMsr.j0])
  | succ kj2 =>
   have H:=HA.out
   clear HA
   simp only [impl_DecodeMsr.j0] at H
   by_cases c18:x32_2=true
   ·subst c18
    have H1:(some (([]:List Int),false))=some (r1,r2):=by rw [if_pos rfl] at H;exact H
    clear H
    have H:=H1
    clear H1
    simp only [Option.some.injEq,Prod.mk.injEq] at H
    obtain ⟨rfl,rfl⟩:=H
    go_wp2
    repeat (go_quiet (fail);try go_wp2)
    go_ret2
    exact ⟨_,d4,d16,by repeat (first|(with_reducible first|exact HB.out|apply pa|apply pb|apply pd|refine pt ?_ GE372.out)|exact HB.out)⟩
   replace c18:=Bool.eq_false_iff.mpr c18
   subst c18
   have H1:(impl_DecodeMsr.l0 kj2 l1 1 a0_0 a0_1)=some (r1,r2):=by rw [if_neg (show ¬ (false=true) by decide)] at H;exact H
   clear H
   have H:=H1
   clear H1
   have H':=am H
   clear H
   go_wp2
   repeat (go_quiet (fail);try go_wp2)
   go_loopg [6] kj2 (fun kq v6 w'=>∃ (x6_2:Int),v6 = .int .i64 x6_2∧Aside0 (impl_DecodeMsr.l0 kq l1 x6_2 a0_0 a0_1=some (r1,r2))∧Aside0 (kq≤kj2)∧Aside0 (w'.heap[gb372]? = some (.cells #[.int .i64 a0_0, .int .i64 a0_1] 72 (0,0)))∧Aside0 (Below w.heap.size w w'))
   case atStart=>exact ⟨(1),d2,H',⟨Nat.le_refl _⟩,⟨by (with_reducible repeat (first|refine qn ?_ _|refine qd ?_|refine qa ?_ _));exact BK372.out⟩,⟨by repeat (first|(with_reducible first|exact HB.out|apply pa|apply pb|apply pd|refine pt ?_ GE372.out)|exact HB.out)⟩⟩
   case round =>
    clear H'
    try clear c1
    try clear p2
    try clear c6
    try clear c7
    try clear c7b0
    try clear c18
    try clear hcz10_0
    try clear hcz10_1
    try clear hcz12_0
    try clear hcz12_1
    try clear hcz14_0
    try clear hcz14_1
    try clear hcz16_0
    try clear hcz16_1
    try clear hcz8_0
    try clear hcz8_1
    try clear hfz10_0
    try clear hfz10_1
    try clear hfz12_0
    try clear hfz12_1
    try clear hfz14_0
    try clear hfz14_1
    try clear hfz16_0
    try clear hfz16_1
    try clear hfz8_0
    try clear hfz8_1
    try clear p2
    obtain ⟨x6_2,rfl,HA,HK2,BK372,HB⟩:=hrel
    cases gk with
    | zero=>exact absurd HA.out (by simp [impl_DecodeMsr.l0])
    | succ k2 =>
     have H:=HA.out
     clear HA
     simp only [impl_DecodeMsr.l0] at H
     by_cases c19:x6_2 < (l1.length:Int)
     ·rw [if_pos c19] at H
      have c19b0:decide (x6_2 < (l1.length:Int))=true:=decide_eq_true c19
      clear c19
      by_cases c20:0≤x6_2
      ·rw [if_pos c20] at H
       have c20b0:decide (0≤x6_2)=true:=decide_eq_true c20
       clear c20
       obtain ⟨ji21,hji21⟩:∃ j_:Int,(wrap64 (x6_2 - 1))=j_:=⟨_,rfl⟩
       replace H:(if 0≤(ji21) then (if (ji21) < (l1.length:Int) then (if ((rd_T69 l1 x6_2).f0)≤((rd_T69 l1 (ji21)).f0) then (some (([]:List Int),false)) else (impl_DecodeMsr.l0 k2 l1 (wrap64 (x6_2+1)) a0_0 a0_1)) else (none)) else (none))=some (r1,r2):=by first|(rw [hji21] at H;exact H)|(simp only [hji21] at H ⊢;exact H)
       have hji21w:(IntKind.i64.wrap (x6_2 - 1))=ji21:=(i64_w _).trans hji21
       by_cases c22:0≤(ji21)
       ·rw [if_pos c22] at H
        have c22b0:decide (0≤(ji21))=true:=decide_eq_true c22
        clear c22
        by_cases c23:(ji21) < (l1.length:Int)
        ·rw [if_pos c23] at H
         have c23b0:decide ((ji21) < (l1.length:Int))=true:=decide_eq_true c23
         clear c23
         by_cases c24:((rd_T69 l1 x6_2).f0)≤((rd_T69 l1 (ji21)).f0)
         ·rw [if_pos c24] at H
          have c24b0:decide (((rd_T69 l1 x6_2).f0)≤((rd_T69 l1 (ji21)).f0))=true:=decide_eq_true c24
          clear c24
          simp only [Option.some.injEq,Prod.mk.injEq] at H
          obtain ⟨rfl,rfl⟩:=H
          have p375:0≤(x6_2:Int):=od d1
          have q375:x6_2 < (l1.length:Int):=od d1
          obtain ⟨ad375,A375_1,c375_1,e375,hx375_0,hx375_1,hl375_1,hi375_1⟩:=at_T69 HR1.out x6_2 p375 q375
          cases e375
          replace hx375_0:=(HB.out.cell (World.block_lt_of_cell? w _ hx375_0)).trans hx375_0
          replace hx375_1:=(HB.out.cell (World.block_lt_of_cell? w _ hx375_1)).trans hx375_1
          have HR375_1:=am hi375_1
          have HC375_1:=am hl375_1
          clear hi375_1 hl375_1
          replace p375:=eq_true p375
          replace q375:=eq_true q375
          have p376:0≤((ji21):Int):=od d1
          have q376:(ji21) < (l1.length:Int):=od d1
          obtain ⟨ad376,A376_1,c376_1,e376,hx376_0,hx376_1,hl376_1,hi376_1⟩:=at_T69 HR1.out (ji21) p376 q376
          obtain rfl:ad375=ad376:=(by injection e376)
          replace hx376_0:=(HB.out.cell (World.block_lt_of_cell? w _ hx376_0)).trans hx376_0
          replace hx376_1:=(HB.out.cell (World.block_lt_of_cell? w _ hx376_1)).trans hx376_1
          have HR376_1:=am hi376_1
          have HC376_1:=am hl376_1
          clear hi376_1 hl376_1
          replace p376:=eq_true p376
          replace q376:=eq_true q376
          go_wp2
          repeat (go_quiet (fail);try go_wp2)
          go_ret2
          exact ⟨_,by first|rfl|(simp [errW_none,errW_some] <;> rfl)|(simp only [← hji21];first|rfl|(simp [errW_none,errW_some] <;> rfl))|(simp [*,errW_none,errW_some] <;> rfl),d16,by repeat (first|(with_reducible first|exact HB.out|apply pa|apply pb|apply pd|refine pt ?_ GE372.out)|exact HB.out)⟩
         rw [if_neg c24] at H
         have c24b0:decide (((rd_T69 l1 x6_2).f0)≤((rd_T69 l1 (ji21)).f0))=false:=decide_eq_false c24
         clear c24
         have H':=am H
         clear H
         have p375:0≤(x6_2:Int):=od d1
         have q375:x6_2 < (l1.length:Int):=od d1
         obtain ⟨ad375,A375_1,c375_1,e375,hx375_0,hx375_1,hl375_1,hi375_1⟩:=at_T69 HR1.out x6_2 p375 q375
         cases e375
         replace hx375_0:=(HB.out.cell (World.block_lt_of_cell? w _ hx375_0)).trans hx375_0
         replace hx375_1:=(HB.out.cell (World.block_lt_of_cell? w _ hx375_1)).trans hx375_1
         have HR375_1:=am hi375_1
         have HC375_1:=am hl375_1
         clear hi375_1 hl375_1
         replace p375:=eq_true p375
         replace q375:=eq_true q375
         have p376:0≤((ji21):Int):=od d1
         have q376:(ji21) < (l1.length:Int):=od d1
         obtain ⟨ad376,A376_1,c376_1,e376,hx376_0,hx376_1,hl376_1,hi376_1⟩:=at_T69 HR1.out (ji21) p376 q376
         obtain rfl:ad375=ad376:=(by injection e376)
         replace hx376_0:=(HB.out.cell (World.block_lt_of_cell? w _ hx376_0)).trans hx376_0
         replace hx376_1:=(HB.out.cell (World.block_lt_of_cell? w _ hx376_1)).trans hx376_1
         have HR376_1:=am hi376_1
         have HC376_1:=am hl376_1
         clear hi376_1 hl376_1
         replace p376:=eq_true p376
         replace q376:=eq_true q376
         go_wp2
         repeat (go_quiet (fail);try go_wp2)
         go_roundg k2
         case measure=>have:=HJ2.out;have:=HK2.out;omega
         case rel=>exact ⟨(wrap64 (x6_2+1)),d2,H',⟨by have:=HJ2.out;have:=HK2.out;omega⟩,⟨by (with_reducible repeat (first|refine qn ?_ _|refine qd ?_|refine qa ?_ _));exact BK372.out⟩,⟨by repeat (first|(with_reducible first|exact HB.out|apply pa|apply pb|apply pd|refine pt ?_ GE372.out)|exact HB.out)⟩⟩
        rw [if_neg c23] at H
        exact absurd H d20
       rw [if_neg c22] at H
       exact absurd H d20
      rw [if_neg c20] at H
      exact absurd H d20
     rw [if_neg c19] at H
     have c19b0:decide (x6_2 < (l1.length:Int))=false:=decide_eq_false c19
     clear c19
     replace H:=Option.bind_eq_some_iff.mp H
     obtain ⟨t377,A250,H⟩:=H
     replace H:(if 0≤a0_1 then (if a0_1≤(l1.length:Int) then ((some (l1.take (a0_1:Int).toNat:List (S69))).bind fun y386=>(impl_DecodeMsr.l1 k2 t377 (([]:List (List Int))) (([]:List Int)) y386 (y386.length:Int) 0 a0_0 a0_1)) else (none)) else (none))=some (r1,r2):=H
     have A25:=am A250
     clear A250
     obtain ⟨y380,hy380⟩:∃ y_:List (List Int),y_=(([]:List (List Int))):=⟨_,rfl⟩
     replace H:(if 0≤a0_1 then (if a0_1≤(l1.length:Int) then ((some (l1.take (a0_1:Int).toNat:List (S69))).bind fun y386=>(impl_DecodeMsr.l1 k2 t377 y380 (([]:List Int)) y386 (y386.length:Int) 0 a0_0 a0_1)) else (none)) else (none))=some (r1,r2):=by first|(rw [hy380];with_reducible exact H)|(have H2_:=(Option.bind_some _ _).symm.trans H;rw [hy380];with_reducible exact H2_)|(have H2_:=(Option.bind_some _ _).symm.trans H;with_reducible exact H2_)|with_reducible exact H|(rw [hy380];exact H)|exact H
     have Ny380:=am hy380
     clear hy380
     obtain ⟨y383,hy383⟩:∃ y_:List Int,y_=(([]:List Int)):=⟨_,rfl⟩
     replace H:(if 0≤a0_1 then (if a0_1≤(l1.length:Int) then ((some (l1.take (a0_1:Int).toNat:List (S69))).bind fun y386=>(impl_DecodeMsr.l1 k2 t377 y380 y383 y386 (y386.length:Int) 0 a0_0 a0_1)) else (none)) else (none))=some (r1,r2):=by first|(rw [hy383];with_reducible exact H)|(have H2_:=(Option.bind_some _ _).symm.trans H;rw [hy383];with_reducible exact H2_)|(have H2_:=(Option.bind_some _ _).symm.trans H;with_reducible exact H2_)|with_reducible exact H|(rw [hy383];exact H)|exact H
     have Ny383:=am hy383
     clear hy383
     by_cases c26:0≤a0_1
     ·rw [if_pos c26] at H
      have c26b0:=eq_true c26
      have c26b1:decide (0≤a0_1)=true:=decide_eq_true c26
      clear c26
      by_cases c27:a0_1≤(l1.length:Int)
      ·rw [if_pos c27] at H
       have c27b0:=eq_true c27
       have c27b1:decide (a0_1≤(l1.length:Int))=true:=decide_eq_true c27
       clear c27
       obtain ⟨y386,hy386⟩:∃ y_:List (S69),y_=(l1.take (a0_1:Int).toNat):=⟨_,rfl⟩
       replace H:(impl_DecodeMsr.l1 k2 t377 y380 y383 y386 (y386.length:Int) 0 a0_0 a0_1)=some (r1,r2):=by first|(rw [hy386];with_reducible exact H)|(have H2_:=(Option.bind_some _ _).symm.trans H;rw [hy386];with_reducible exact H2_)|(have H2_:=(Option.bind_some _ _).symm.trans H;with_reducible exact H2_)|with_reducible exact H|(rw [hy386];exact H)|exact H
       have Ny386:=am hy386
       clear hy386
       have H':=am H
       clear H
       have hcz28_0:wr.cell? ⟨gb372,0,none⟩=some (.int .i64 a0_0):=(blk_cell BK372.out 0).trans rfl
       have hcz28_1:wr.cell? ⟨gb372,1,none⟩=some (.int .i64 a0_1):=(blk_cell BK372.out 1).trans rfl
       have hfz28_0:=blk_frozen BK372.out 0
       have hfz28_1:=blk_frozen BK372.out 1
       go_wp2_with (first|(go_at_call 156;(with_reducible refine (impl_Msr_places.calls k2 a0_0 a0_1 t377 _ A25.out).mono ?_);rintro e w29 ⟨v378,rfl,ho0,hb⟩;have n0_:=am (Kd.S_lower ho0 (pz (by repeat (first|(with_reducible first|exact HB.out|apply pa|apply pb|apply pd|refine pt ?_ GE372.out)|exact HB.out))));have n1_:=am (qb (g:=gb372) (o:=.cells #[.int .i64 a0_0, .int .i64 a0_1] 72 (0,0)) (by (with_reducible repeat (first|refine qn ?_ _|refine qd ?_|refine qa ?_ _));exact BK372.out) hb);have n2_:=am (pu (by repeat (first|(with_reducible first|exact HB.out|apply pa|apply pb|apply pd|refine pt ?_ GE372.out)|exact HB.out)) hb);clear BK372;clear HB;have HO379:=n0_;have BK372:=n1_;have HB:=n2_;clear n0_ n1_ n2_;(try clear hb);(try clear hb2);(try clear hk);(try clear hi);(try clear ho0))|((with_reducible refine gate_dst (N:=53) rfl ?_);(try (refine gate_guard d18 ?_;dsimp only));refine Kd.S_lit (Kd.slice 5 (Kd.int .u8)) _ 57 ?hg (N:=53) ?hd (xs:=([]:List (List Int))) (inner:=[]) (ok:=fun _=>True) (okp:=fun _=>True) ?hr ?hp (fun _ hk=>hk) trivial (Below.refl _ _) (Nat.le_refl _) d20 ?_;(case hd=>rfl);(case hg=>rfl);(case hr=>first|(go_simp;done)|(go_simp;rfl));(case hp=>exact (Reps.none _ _));intro v381 w30 ho31 hb hg_ hnew_;clear hg_ hnew_;(first|rw [← Ny380.out] at ho31|(simp only [Int.reduceToNat] at ho31;rw [← Ny380.out] at ho31));have n0_:=am (Kd.S_below d31 hb);have n1_:=am (Kd.S_lower ho31 (pz (by repeat (first|(with_reducible first|exact HB.out|apply pa|apply pb|apply pd|refine pt ?_ GE372.out)|exact HB.out))));have n2_:=am (qb (g:=gb372) (o:=.cells #[.int .i64 a0_0, .int .i64 a0_1] 72 (0,0)) (by (with_reducible repeat (first|refine qn ?_ _|refine qd ?_|refine qa ?_ _));exact BK372.out) hb);have n3_:=am (pu (by repeat (first|(with_reducible first|exact HB.out|apply pa|apply pb|apply pd|refine pt ?_ GE372.out)|exact HB.out)) hb);clear HO379;clear BK372;clear HB;have HO379:=n0_;have HO382:=n1_;have BK372:=n2_;have HB:=n3_;clear n0_ n1_ n2_ n3_;clear hb ho31)|((with_reducible refine gate_dst (N:=54) rfl ?_);(try (refine gate_guard d18 ?_;dsimp only));refine Kd.R_lit (Kd.int .u8) _ 5 ?hg (N:=54) ?hd (xs:=([]:List Int)) (inner:=[]) (ok:=fun _=>True) (okp:=fun _=>True) ?hr ?hp (fun _ hk=>hk) trivial (Below.refl _ _) (Nat.le_refl _) d20 ?_;(case hd=>rfl);(case hg=>rfl);(case hr=>first|(go_simp;done)|(go_simp;rfl));(case hp=>exact (Reps.none _ _));intro v384 w32 ho33 hb hg_ hnew_;clear hg_ hnew_;(first|rw [← Ny383.out] at ho33|(simp only [Int.reduceToNat] at ho33;rw [← Ny383.out] at ho33));have n0_:=am (Kd.S_below d31 hb);have n1_:=am (Kd.S_elder' d54 (Kd.R_base ho33) hb);have n2_:=am (Kd.R_lower ho33 (pz (by repeat (first|(with_reducible first|exact HB.out|apply pa|apply pb|apply pd|refine pt ?_ GE372.out)|exact HB.out))));have n3_:=am (qb (g:=gb372) (o:=.cells #[.int .i64 a0_0, .int .i64 a0_1] 72 (0,0)) (by (with_reducible repeat (first|refine qn ?_ _|refine qd ?_|refine qa ?_ _));exact BK372.out) hb);have n4_:=am (pu (by repeat (first|(with_reducible first|exact HB.out|apply pa|apply pb|apply pd|refine pt ?_ GE372.out)|exact HB.out)) hb);clear HO379;clear HO382;clear BK372;clear HB;have HO379:=n0_;have HO382:=n1_;have HO385:=n2_;have BK372:=n3_;have HB:=n4_;clear n0_ n1_ n2_ n3_ n4_;clear hb ho33;have hcz34_0:w32.cell? ⟨gb372,0,none⟩=some (.int .i64 a0_0):=(blk_cell BK372.out 0).trans rfl;have hcz34_1:w32.cell? ⟨gb372,1,none⟩=some (.int .i64 a0_1):=(blk_cell BK372.out 1).trans rfl;have hfz34_0:=blk_frozen BK372.out 0;have hfz34_1:=blk_frozen BK372.out 1;have q35:(a0_1:Int)≤((l1.length:Int):Int):=od d1;obtain ⟨i035,hi035,_,hsz35,_⟩:=info_parts info69;have hroom35:l1.length≤c1:=HC1.out;have hC35:Kd.C k69 _ A1 l1.length l1:=HR1.out;have hcut35:=cut_to (P:=Try.prog) 102 69 .i64 Try.underlying102 hi035 A1 l1.length c1 a0_1 (od d1) q35 hroom35;have hr35:=Kd.C_take (m:=(a0_1:Int).toNat) hC35 d10;have hy35:y386.length=(a0_1:Int).toNat:=(by rw [Ny386.out,List.length_take];omega);rw [← Ny386.out] at hr35;rw [← hy35] at hcut35;have HR389:=am hr35;have HC389:=am (show y386.length≤c1 from by omega);clear hr35 hC35 hroom35 hi035 hsz35;have KY35:=am hy35;clear hy35;replace q35:=eq_true q35))
       repeat (go_quiet (first|(go_at_call 156;(with_reducible refine (impl_Msr_places.calls k2 a0_0 a0_1 t377 _ A25.out).mono ?_);rintro e w29 ⟨v378,rfl,ho0,hb⟩;have n0_:=am (Kd.S_lower ho0 (pz (by repeat (first|(with_reducible first|exact HB.out|apply pa|apply pb|apply pd|refine pt ?_ GE372.out)|exact HB.out))));have n1_:=am (qb (g:=gb372) (o:=.cells #[.int .i64 a0_0, .int .i64 a0_1] 72 (0,0)) (by (with_reducible repeat (first|refine qn ?_ _|refine qd ?_|refine qa ?_ _));exact BK372.out) hb);have n2_:=am (pu (by repeat (first|(with_reducible first|exact HB.out|apply pa|apply pb|apply pd|refine pt ?_ GE372.out)|exact HB.out)) hb);clear BK372;clear HB;have HO379:=n0_;have BK372:=n1_;have HB:=n2_;clear n0_ n1_ n2_;(try clear hb);(try clear hb2);(try clear hk);(try clear hi);(try clear ho0))|((with_reducible refine gate_dst (N:=53) rfl ?_);(try (refine gate_guard d18 ?_;dsimp only));refine Kd.S_lit (Kd.slice 5 (Kd.int .u8)) _ 57 ?hg (N:=53) ?hd (xs:=([]:List (List Int))) (inner:=[]) (ok:=fun _=>True) (okp:=fun _=>True) ?hr ?hp (fun _ hk=>hk) trivial (Below.refl _ _) (Nat.le_refl _) d20 ?_;(case hd=>rfl);(case hg=>rfl);(case hr=>first|(go_simp;done)|(go_simp;rfl));(case hp=>exact (Reps.none _ _));intro v381 w30 ho31 hb hg_ hnew_;clear hg_ hnew_;(first|rw [← Ny380.out] at ho31|(simp only [Int.reduceToNat] at ho31;rw [← Ny380.out] at ho31));have n0_:=am (Kd.S_below d31 hb);have n1_:=am (Kd.S_lower ho31 (pz (by repeat (first|(with_reducible first|exact HB.out|apply pa|apply pb|apply pd|refine pt ?_ GE372.out)|exact HB.out))));have n2_:=am (qb (g:=gb372) (o:=.cells #[.int .i64 a0_0, .int .i64 a0_1] 72 (0,0)) (by (with_reducible repeat (first|refine qn ?_ _|refine qd ?_|refine qa ?_ _));exact BK372.out) hb);have n3_:=am (pu (by repeat (first|(with_reducible first|exact HB.out|apply pa|apply pb|apply pd|refine pt ?_ GE372.out)|exact HB.out)) hb);clear HO379;clear BK372;clear HB;have HO379:=n0_;have HO382:=n1_;have BK372:=n2_;have HB:=n3_;clear n0_ n1_ n2_ n3_;clear hb ho31)|((with_reducible refine gate_dst (N:=54) rfl ?_);(try (refine gate_guard d18 ?_;dsimp only));refine Kd.R_lit (Kd.int .u8) _ 5 ?hg (N:=54) ?hd (xs:=([]:List Int)) (inner:=[]) (ok:=fun _=>True) (okp:=fun _=>True) ?hr ?hp (fun _ hk=>hk) trivial (Below.refl _ _) (Nat.le_refl _) d20 ?_;(case hd=>rfl);(case hg=>rfl);(case hr=>first|(go_simp;done)|(go_simp;rfl));(case hp=>exact (Reps.none _ _));intro v384 w32 ho33 hb hg_ hnew_;clear hg_ hnew_;(first|rw [← Ny383.out] at ho33|(simp only [Int.reduceToNat] at ho33;rw [← Ny383.out] at ho33));have n0_:=am (Kd.S_below d31 hb);have n1_:=am (Kd.S_elder' d54 (Kd.R_base ho33) hb);have n2_:=am (Kd.R_lower ho33 (pz (by repeat (first|(with_reducible first|exact HB.out|apply pa|apply pb|apply pd|refine pt ?_ GE372.out)|exact HB.out))));have n3_:=am (qb (g:=gb372) (o:=.cells #[.int .i64 a0_0, .int .i64 a0_1] 72 (0,0)) (by (with_reducible repeat (first|refine qn ?_ _|refine qd ?_|refine qa ?_ _));exact BK372.out) hb);have n4_:=am (pu (by repeat (first|(with_reducible first|exact HB.out|apply pa|apply pb|apply pd|refine pt ?_ GE372.out)|exact HB.out)) hb);clear HO379;clear HO382;clear BK372;clear HB;have HO379:=n0_;have HO382:=n1_;have HO385:=n2_;have BK372:=n3_;have HB:=n4_;clear n0_ n1_ n2_ n3_ n4_;clear hb ho33;have hcz34_0:w32.cell? ⟨gb372,0,none⟩=some (.int .i64 a0_0):=(blk_cell BK372.out 0).trans rfl;have hcz34_1:w32.cell? ⟨gb372,1,none⟩=some (.int .i64 a0_1):=(blk_cell BK372.out 1).trans rfl;have hfz34_0:=blk_frozen BK372.out 0;have hfz34_1:=blk_frozen BK372.out 1;have q35:(a0_1:Int)≤((l1.length:Int):Int):=od d1;obtain ⟨i035,hi035,_,hsz35,_⟩:=info_parts info69;have hroom35:l1.length≤c1:=HC1.out;have hC35:Kd.C k69 _ A1 l1.length l1:=HR1.out;have hcut35:=cut_to (P:=Try.prog) 102 69 .i64 Try.underlying102 hi035 A1 l1.length c1 a0_1 (od d1) q35 hroom35;have hr35:=Kd.C_take (m:=(a0_1:Int).toNat) hC35 d10;have hy35:y386.length=(a0_1:Int).toNat:=(by rw [Ny386.out,List.length_take];omega);rw [← Ny386.out] at hr35;rw [← hy35] at hcut35;have HR389:=am hr35;have HC389:=am (show y386.length≤c1 from by omega);clear hr35 hC35 hroom35 hi035 hsz35;have KY35:=am hy35;clear hy35;replace q35:=eq_true q35));try go_wp2_with (first|(go_at_call 156;(with_reducible refine (impl_Msr_places.calls k2 a0_0 a0_1 t377 _ A25.out).mono ?_);rintro e w29 ⟨v378,rfl,ho0,hb⟩;have n0_:=am (Kd.S_lower ho0 (pz (by repeat (first|(with_reducible first|exact HB.out|apply pa|apply pb|apply pd|refine pt ?_ GE372.out)|exact HB.out))));have n1_:=am (qb (g:=gb372) (o:=.cells #[.int .i64 a0_0, .int .i64 a0_1] 72 (0,0)) (by (with_reducible repeat (first|refine qn ?_ _|refine qd ?_|refine qa ?_ _));exact BK372.out) hb);have n2_:=am (pu (by repeat (first|(with_reducible first|exact HB.out|apply pa|apply pb|apply pd|refine pt ?_ GE372.out)|exact HB.out)) hb);clear BK372;clear HB;have HO379:=n0_;have BK372:=n1_;have HB:=n2_;clear n0_ n1_ n2_;(try clear hb);(try clear hb2);(try clear hk);(try clear hi);(try clear ho0))|((with_reducible refine gate_dst (N:=53) rfl ?_);(try (refine gate_guard d18 ?_;dsimp only));refine Kd.S_lit (Kd.slice 5 (Kd.int .u8)) _ 57 ?hg (N:=53) ?hd (xs:=([]:List (List Int))) (inner:=[]) (ok:=fun _=>True) (okp:=fun _=>True) ?hr ?hp (fun _ hk=>hk) trivial (Below.refl _ _) (Nat.le_refl _) d20 ?_;(case hd=>rfl);(case hg=>rfl);(case hr=>first|(go_simp;done)|(go_simp;rfl));(case hp=>exact (Reps.none _ _));intro v381 w30 ho31 hb hg_ hnew_;clear hg_ hnew_;(first|rw [← Ny380.out] at ho31|(simp only [Int.reduceToNat] at ho31;rw [← Ny380.out] at ho31));have n0_:=am (Kd.S_below d31 hb);have n1_:=am (Kd.S_lower ho31 (pz (by repeat (first|(with_reducible first|exact HB.out|apply pa|apply pb|apply pd|refine pt ?_ GE372.out)|exact HB.out))));have n2_:=am (qb (g:=gb372) (o:=.cells #[.int .i64 a0_0, .int .i64 a0_1] 72 (0,0)) (by (with_reducible repeat (first|refine qn ?_ _|refine qd ?_|refine qa ?_ _));exact BK372.out) hb);have n3_:=am (pu (by repeat (first|(with_reducible first|exact HB.out|apply pa|apply pb|apply pd|refine pt ?_ GE372.out)|exact HB.out)) hb);clear HO379;clear BK372;clear HB;have HO379:=n0_;have HO382:=n1_;have BK372:=n2_;have HB:=n3_;clear n0_ n1_ n2_ n3_;clear hb ho31)|((with_reducible refine gate_dst (N:=54) rfl ?_);(try (refine gate_guard d18 ?_;dsimp only));refine Kd.R_lit (Kd.int .u8) _ 5 ?hg (N:=54) ?hd (xs:=([]:List Int)) (inner:=[]) (ok:=fun _=>True) (okp:=fun _=>True) ?hr ?hp (fun _ hk=>hk) trivial (Below.refl _ _) (Nat.le_refl _) d20 ?_;(case hd=>rfl);(case hg=>rfl);(case hr=>first|(go_simp;done)|(go_simp;rfl));(case hp=>exact (Reps.none _ _));intro v384 w32 ho33 hb hg_ hnew_;clear hg_ hnew_;(first|rw [← Ny383.out] at ho33|(simp only [Int.reduceToNat] at ho33;rw [← Ny383.out] at ho33));have n0_:=am (Kd.S_below d31 hb);have n1_:=am (Kd.S_elder' d54 (Kd.R_base ho33) hb);have n2_:=am (Kd.R_lower ho33 (pz (by repeat (first|(with_reducible first|exact HB.out|apply pa|apply pb|apply pd|refine pt ?_ GE372.out)|exact HB.out))));have n3_:=am (qb (g:=gb372) (o:=.cells #[.int .i64 a0_0, .int .i64 a0_1] 72 (0,0)) (by (with_reducible repeat (first|refine qn ?_ _|refine qd ?_|refine qa ?_ _));exact BK372.out) hb);have n4_:=am (pu (by repeat (first|(with_reducible first|exact HB.out|apply pa|apply pb|apply pd|refine pt ?_ GE372.out)|exact HB.out)) hb);clear HO379;clear HO382;clear BK372;clear HB;have HO379:=n0_;have HO382:=n1_;have HO385:=n2_;have BK372:=n3_;have HB:=n4_;clear n0_ n1_ n2_ n3_ n4_;clear hb ho33;have hcz34_0:w32.cell? ⟨gb372,0,none⟩=some (.int .i64 a0_0):=(blk_cell BK372.out 0).trans rfl;have hcz34_1:w32.cell? ⟨gb372,1,none⟩=some (.int .i64 a0_1):=(blk_cell BK372.out 1).trans rfl;have hfz34_0:=blk_frozen BK372.out 0;have hfz34_1:=blk_frozen BK372.out 1;have q35:(a0_1:Int)≤((l1.length:Int):Int):=od d1;obtain ⟨i035,hi035,_,hsz35,_⟩:=info_parts info69;have hroom35:l1.length≤c1:=HC1.out;have hC35:Kd.C k69 _ A1 l1.length l1:=HR1.out;have hcut35:=cut_to (P:=Try.prog) 102 69 .i64 Try.underlying102 hi035 A1 l1.length c1 a0_1 (od d1) q35 hroom35;have hr35:=Kd.C_take (m:=(a0_1:Int).toNat) hC35 d10;have hy35:y386.length=(a0_1:Int).toNat:=(by rw [Ny386.out,List.length_take];omega);rw [← Ny386.out] at hr35;rw [← hy35] at hcut35;have HR389:=am hr35;have HC389:=am (show y386.length≤c1 from by omega);clear hr35 hC35 hroom35 hi035 hsz35;have KY35:=am hy35;clear hy35;replace q35:=eq_true q35)))
       go_loopg [8,9,60] k2 (fun kq v8 v9 v60 w'=>∃ (x8_3:List (List Int)) (x9_3:List Int) (x60_3:Int),v60 = .int .i64 x60_3∧Aside0 (impl_DecodeMsr.l1 kq t377 x8_3 x9_3 y386 (y386.length:Int) x60_3 a0_0 a0_1=some (r1,r2))∧Aside0 (kq≤k2)∧Aside0 (Kd.S (Kd.slice 3 (Kd.int .i64)) 25 w' w.heap.size (fun _=>True) v378 t377)∧Aside0 (Kd.S (Kd.slice 5 (Kd.int .u8)) 57 w' w.heap.size (fun k_=>some k_ ≠ (v9:Value).ownBlock) v8 x8_3)∧Aside0 (Kd.R (Kd.int .u8) 5 w' w.heap.size (fun _=>True) v9 x9_3)∧Aside0 (w'.heap[gb372]? = some (.cells #[.int .i64 a0_0, .int .i64 a0_1] 72 (0,0)))∧Aside0 (Below w.heap.size w w'))
       case atStart=>exact ⟨(y380),(y383),(0),d2,H',⟨Nat.le_refl _⟩,⟨d31⟩,⟨by (with_reducible repeat (first|apply Kd.S_alloc|apply Kd.S_drewN|apply Kd.S_drew));exact Kd.S_mono HO382.out (fun _ hk=>hk.2)⟩,⟨by (with_reducible repeat (first|apply Kd.R_alloc|apply Kd.R_drewN|apply Kd.R_drew));exact HO385.out⟩,⟨by (with_reducible repeat (first|refine qn ?_ _|refine qd ?_|refine qa ?_ _));exact BK372.out⟩,⟨by repeat (first|(with_reducible first|exact HB.out|apply pa|apply pb|apply pd|refine pt ?_ GE372.out)|exact HB.out)⟩⟩
       case round =>
        clear H'
        try clear c1
        try clear c2
        try clear p2
        try clear c3
        try clear p3
        try clear q3
        try clear hx3
        try clear c6
        try clear p6
        try clear c7
        try clear c7b0
        try clear c18
        try clear c19
        try clear c19b0
        try clear c20
        try clear c20b0
        try clear c22
        try clear c22b0
        try clear c23
        try clear c23b0
        try clear c24
        try clear c24b0
        try clear c26
        try clear c26b0
        try clear c26b1
        try clear c27
        try clear c27b0
        try clear c27b1
        try clear q35
        try clear hcz10_0
        try clear hcz10_1
        try clear hcz12_0
        try clear hcz12_1
        try clear hcz14_0
        try clear hcz14_1
        try clear hcz16_0
        try clear hcz16_1
        try clear hcz28_0
        try clear hcz28_1
        try clear hcz34_0
        try clear hcz34_1
        try clear hcz8_0
        try clear hcz8_1
        try clear hfz10_0
        try clear hfz10_1
        try clear hfz12_0
        try clear hfz12_1
        try clear hfz14_0
        try clear hfz14_1
        try clear hfz16_0
        try clear hfz16_1
        try clear hfz28_0
        try clear hfz28_1
        try clear hfz34_0
        try clear hfz34_1
        try clear hfz8_0
        try clear hfz8_1
        try clear hx375_0
        try clear hx375_1
        try clear hx376_0
        try clear hx376_1
        try clear p2
        try clear p375
        try clear p376
        try clear q35
        try clear q375
        try clear q376
        obtain ⟨x8_3,x9_3,x60_3,rfl,HA,HK3,HO_7,HO_8,HO_9,BK372,HB⟩:=hrel
        cases gk with
        | zero=>exact absurd HA.out (by simp [impl_DecodeMsr.l1])
        | succ k3 =>
         have H:=HA.out
         clear HA
         simp only [impl_DecodeMsr.l1] at H
         by_cases c36:x60_3 < (y386.length:Int)
         ·rw [if_pos c36] at H
          have c36b0:decide (x60_3 < (y386.length:Int))=true:=decide_eq_true c36
          clear c36
          by_cases c37:0≤x60_3
          ·rw [if_pos c37] at H
           have c37b0:decide (0≤x60_3)=true:=decide_eq_true c37
           clear c37
           by_cases c38:x60_3 < (y386.length:Int)
           ·rw [if_pos c38] at H
            have c38b0:decide (x60_3 < (y386.length:Int))=true:=decide_eq_true c38
            clear c38
            replace H:=Option.bind_eq_some_iff.mp H
            obtain ⟨t396,A390,H⟩:=H
            replace H:(impl_DecodeMsr.l2 k3 t377 x8_3 x9_3 t396 y386 (y386.length:Int) x60_3 ((rd_T69 y386 x60_3).f1) (((rd_T69 y386 x60_3).f1).length:Int) 0 a0_0 a0_1)=some (r1,r2):=H
            have A39:=am A390
            clear A390
            have H':=am H
            clear H
            have p394:0≤(x60_3:Int):=od d1
            have q394:x60_3 < (y386.length:Int):=od d1
            obtain ⟨ad394,A394_1,c394_1,e394,hx394_0,hx394_1,hl394_1,hi394_1⟩:=at_T69 HR389.out x60_3 p394 q394
            cases e394
            replace hx394_0:=(HB.out.cell (World.block_lt_of_cell? w _ hx394_0)).trans hx394_0
            replace hx394_1:=(HB.out.cell (World.block_lt_of_cell? w _ hx394_1)).trans hx394_1
            have HR394_1:=am hi394_1
            have HC394_1:=am hl394_1
            clear hi394_1 hl394_1
            replace p394:=eq_true p394
            replace q394:=eq_true q394
            go_wp2_with (first|((with_reducible refine gate_dst (N:=11) rfl ?_);(try (refine gate_guard d18 ?_;dsimp only));refine box_event ?hg (N:=11) ?hd (cs:=#[.int .i64 0, .slice none 0 0]) (t:=69) ?hr ?_;(case hd=>rfl);(case hg=>rfl);(case hr=>first|(go_simp;done)|(go_simp;rfl));intro gb395 hg w40 hbox hb;have n0_:=am (Kd.S_below d7 hb);have n1_:=am (Kd.S_below d8 hb);have n2_:=am (Kd.R_below d6 hb);have n3_:=am (qb (g:=gb372) (o:=.cells #[.int .i64 a0_0, .int .i64 a0_1] 72 (0,0)) (by (with_reducible repeat (first|refine qn ?_ _|refine qd ?_|refine qa ?_ _));exact BK372.out) hb);have n4_:=am (pu (by repeat (first|(with_reducible first|exact HB.out|apply pa|apply pb|apply pd|refine pt ?_ GE372.out)|exact HB.out)) hb);have n5_:=am (hbox);have n6_:=am ((by rw [hg];exact (pz (by repeat (first|(with_reducible first|exact HB.out|apply pa|apply pb|apply pd|refine pt ?_ GE372.out)|exact HB.out))):w.heap.size≤gb395));have n7_:=n6_;have n8_:=am ((by rw [hg];exact Nat.ne_of_lt (blk_lt (g:=gb372) (o:=.cells #[.int .i64 a0_0, .int .i64 a0_1] 72 (0,0)) (by (with_reducible repeat (first|refine qn ?_ _|refine qd ?_|refine qa ?_ _));exact BK372.out)):gb372 ≠ gb395));have n9_:=am ((by rw [hg];exact Nat.ne_of_gt (blk_lt (g:=gb372) (o:=.cells #[.int .i64 a0_0, .int .i64 a0_1] 72 (0,0)) (by (with_reducible repeat (first|refine qn ?_ _|refine qd ?_|refine qa ?_ _));exact BK372.out)):gb395 ≠ gb372));clear HO_7;clear HO_8;clear HO_9;clear BK372;clear HB;have HO_7:=n0_;have HO_8:=n1_;have HO_9:=n2_;have BK372:=n3_;have HB:=n4_;have BK395:=n5_;have GW395:=n6_;have GE395:=n7_;have NB372_395:=n8_;have NB395_372:=n9_;clear n0_ n1_ n2_ n3_ n4_ n5_ n6_ n7_ n8_ n9_;clear hb hbox hg;have hnb41:=NB395_372.out;have hnc41:=NB372_395.out;have hcz42_0:w40.cell? ⟨gb395,0,none⟩=some (.int .i64 0):=(blk_cell BK395.out 0).trans rfl;have hcz42_1:w40.cell? ⟨gb395,1,none⟩=some (.slice none 0 0):=(blk_cell BK395.out 1).trans rfl;have hfz42_0:=blk_frozen BK395.out 0;have hfz42_1:=blk_frozen BK395.out 1;have hcz43_0:w40.cell? ⟨gb372,0,none⟩=some (.int .i64 a0_0):=(blk_cell BK372.out 0).trans rfl;have hcz43_1:w40.cell? ⟨gb372,1,none⟩=some (.int .i64 a0_1):=(blk_cell BK372.out 1).trans rfl;have hfz43_0:=blk_frozen BK372.out 0;have hfz43_1:=blk_frozen BK372.out 1)|(go_at_call 129;(with_reducible refine (impl_Msr_row.calls k3 a0_0 a0_1 ((rd_T69 y386 x60_3).f0) t396 _ A39.out).mono ?_);rintro e w44 ⟨v397,rfl,ho0,hb⟩;have n0_:=am (Kd.S_below d27 hb);have n1_:=am (Kd.S_elder' d26 (Kd.R_base ho0) hb);have n2_:=am (Kd.R_elder' d14 (Kd.R_base ho0) hb);have n3_:=am (Kd.R_lower (Kd.R_new' ho0 (Kd.R_lt d14)) (pz (by repeat (first|(with_reducible first|exact HB.out|apply pa|apply pb|apply pd|refine pt ?_ GE372.out|refine pt ?_ GE395.out)|exact HB.out))));have n4_:=am (qb (g:=gb372) (o:=.cells #[.int .i64 a0_0, .int .i64 a0_1] 72 (0,0)) (by (with_reducible repeat (first|refine qn ?_ _|refine qd ?_|refine qa ?_ _));refine blk_far ?_ NB372_395.out _;(with_reducible repeat (first|refine qn ?_ _|refine qd ?_|refine qa ?_ _));refine blk_far ?_ NB372_395.out _;(with_reducible repeat (first|refine qn ?_ _|refine qd ?_|refine qa ?_ _));exact BK372.out) hb);have n5_:=am (qb (g:=gb395) (o:=.cells #[.int .i64 ((rd_T69 y386 x60_3).f0), .slice A394_1 ((rd_T69 y386 x60_3).f1).length c394_1] 69 (0,0)) (by (with_reducible repeat (first|refine qn ?_ _|refine qd ?_|refine qa ?_ _));refine blk_put (cs:=#[.int .i64 ((rd_T69 y386 x60_3).f0), .slice none 0 0]) ?_ 1 _ rfl;(with_reducible repeat (first|refine qn ?_ _|refine qd ?_|refine qa ?_ _));refine blk_put (cs:=#[.int .i64 0, .slice none 0 0]) ?_ 0 _ rfl;(with_reducible repeat (first|refine qn ?_ _|refine qd ?_|refine qa ?_ _));exact BK395.out) hb);have n6_:=am (pu (by repeat (first|(with_reducible first|exact HB.out|apply pa|apply pb|apply pd|refine pt ?_ GE372.out|refine pt ?_ GE395.out)|exact HB.out)) hb);clear HO_7;clear HO_8;clear HO_9;clear BK372;clear BK395;clear HB;have HO_7:=n0_;have HO_8:=n1_;have HO_9:=n2_;have HO398:=n3_;have BK372:=n4_;have BK395:=n5_;have HB:=n6_;clear n0_ n1_ n2_ n3_ n4_ n5_ n6_;(try clear hb);(try clear hb2);(try clear hk);(try clear hi);(try clear ho0);have hcz45_0:w44.cell? ⟨gb395,0,none⟩=some (.int .i64 ((rd_T69 y386 x60_3).f0)):=(blk_cell BK395.out 0).trans rfl;have hcz45_1:w44.cell? ⟨gb395,1,none⟩=some (.slice A394_1 ((rd_T69 y386 x60_3).f1).length c394_1):=(blk_cell BK395.out 1).trans rfl;have hfz45_0:=blk_frozen BK395.out 0;have hfz45_1:=blk_frozen BK395.out 1))
            repeat (go_quiet (first|((with_reducible refine gate_dst (N:=11) rfl ?_);(try (refine gate_guard d18 ?_;dsimp only));refine box_event ?hg (N:=11) ?hd (cs:=#[.int .i64 0, .slice none 0 0]) (t:=69) ?hr ?_;(case hd=>rfl);(case hg=>rfl);(case hr=>first|(go_simp;done)|(go_simp;rfl));intro gb395 hg w40 hbox hb;have n0_:=am (Kd.S_below d7 hb);have n1_:=am (Kd.S_below d8 hb);have n2_:=am (Kd.R_below d6 hb);have n3_:=am (qb (g:=gb372) (o:=.cells #[.int .i64 a0_0, .int .i64 a0_1] 72 (0,0)) (by (with_reducible repeat (first|refine qn ?_ _|refine qd ?_|refine qa ?_ _));exact BK372.out) hb);have n4_:=am (pu (by repeat (first|(with_reducible first|exact HB.out|apply pa|apply pb|apply pd|refine pt ?_ GE372.out)|exact HB.out)) hb);have n5_:=am (hbox);have n6_:=am ((by rw [hg];exact (pz (by repeat (first|(with_reducible first|exact HB.out|apply pa|apply pb|apply pd|refine pt ?_ GE372.out)|exact HB.out))):w.heap.size≤gb395));have n7_:=n6_;have n8_:=am ((by rw [hg];exact Nat.ne_of_lt (blk_lt (g:=gb372) (o:=.cells #[.int .i64 a0_0, .int .i64 a0_1] 72 (0,0)) (by (with_reducible repeat (first|refine qn ?_ _|refine qd ?_|refine qa ?_ _));exact BK372.out)):gb372 ≠ gb395));have n9_:=am ((by rw [hg];exact Nat.ne_of_gt (blk_lt (g:=gb372) (o:=.cells #[.int .i64 a0_0, .int .i64 a0_1] 72 (0,0)) (by (with_reducible repeat (first|refine qn ?_ _|refine qd ?_|refine qa ?_ _));exact BK372.out)):gb395 ≠ gb372));clear HO_7;clear HO_8;clear HO_9;clear BK372;clear HB;have HO_7:=n0_;have HO_8:=n1_;have HO_9:=n2_;have BK372:=n3_;have HB:=n4_;have BK395:=n5_;have GW395:=n6_;have GE395:=n7_;have NB372_395:=n8_;have NB395_372:=n9_;clear n0_ n1_ n2_ n3_ n4_ n5_ n6_ n7_ n8_ n9_;clear hb hbox hg;have hnb41:=NB395_372.out;have hnc41:=NB372_395.out;have hcz42_0:w40.cell? ⟨gb395,0,none⟩=some (.int .i64 0):=(blk_cell BK395.out 0).trans rfl;have hcz42_1:w40.cell? ⟨gb395,1,none⟩=some (.slice none 0 0):=(blk_cell BK395.out 1).trans rfl;have hfz42_0:=blk_frozen BK395.out 0;have hfz42_1:=blk_frozen BK395.out 1;have hcz43_0:w40.cell? ⟨gb372,0,none⟩=some (.int .i64 a0_0):=(blk_cell BK372.out 0).trans rfl;have hcz43_1:w40.cell? ⟨gb372,1,none⟩=some (.int .i64 a0_1):=(blk_cell BK372.out 1).trans rfl;have hfz43_0:=blk_frozen BK372.out 0;have hfz43_1:=blk_frozen BK372.out 1)|(go_at_call 129;(with_reducible refine (impl_Msr_row.calls k3 a0_0 a0_1 ((rd_T69 y386 x60_3).f0) t396 _ A39.out).mono ?_);rintro e w44 ⟨v397,rfl,ho0,hb⟩;have n0_:=am (Kd.S_below d27 hb);have n1_:=am (Kd.S_elder' d26 (Kd.R_base ho0) hb);have n2_:=am (Kd.R_elder' d14 (Kd.R_base ho0) hb);have n3_:=am (Kd.R_lower (Kd.R_new' ho0 (Kd.R_lt d14)) (pz (by repeat (first|(with_reducible first|exact HB.out|apply pa|apply pb|apply pd|refine pt ?_ GE372.out|refine pt ?_ GE395.out)|exact HB.out))));have n4_:=am (qb (g:=gb372) (o:=.cells #[.int .i64 a0_0, .int .i64 a0_1] 72 (0,0)) (by (with_reducible repeat (first|refine qn ?_ _|refine qd ?_|refine qa ?_ _));refine blk_far ?_ NB372_395.out _;(with_reducible repeat (first|refine qn ?_ _|refine qd ?_|refine qa ?_ _));refine blk_far ?_ NB372_395.out _;(with_reducible repeat (first|refine qn ?_ _|refine qd ?_|refine qa ?_ _));exact BK372.out) hb);have n5_:=am (qb (g:=gb395) (o:=.cells #[.int .i64 ((rd_T69 y386 x60_3).f0), .slice A394_1 ((rd_T69 y386 x60_3).f1).length c394_1] 69 (0,0)) (by (with_reducible repeat (first|refine qn ?_ _|refine qd ?_|refine qa ?_ _));refine blk_put (cs:=#[.int .i64 ((rd_T69 y386 x60_3).f0), .slice none 0 0]) ?_ 1 _ rfl;(with_reducible repeat (first|refine qn ?_ _|refine qd ?_|refine qa ?_ _));refine blk_put (cs:=#[.int .i64 0, .slice none 0 0]) ?_ 0 _ rfl;(with_reducible repeat (first|refine qn ?_ _|refine qd ?_|refine qa ?_ _));exact BK395.out) hb);have n6_:=am (pu (by repeat (first|(with_reducible first|exact HB.out|apply pa|apply pb|apply pd|refine pt ?_ GE372.out|refine pt ?_ GE395.out)|exact HB.out)) hb);clear HO_7;clear HO_8;clear HO_9;clear BK372;clear BK395;clear HB;have HO_7:=n0_;have HO_8:=n1_;have HO_9:=n2_;have HO398:=n3_;have BK372:=n4_;have BK395:=n5_;have HB:=n6_;clear n0_ n1_ n2_ n3_ n4_ n5_ n6_;(try clear hb);(try clear hb2);(try clear hk);(try clear hi);(try clear ho0);have hcz45_0:w44.cell? ⟨gb395,0,none⟩=some (.int .i64 ((rd_T69 y386 x60_3).f0)):=(blk_cell BK395.out 0).trans rfl;have hcz45_1:w44.cell? ⟨gb395,1,none⟩=some (.slice A394_1 ((rd_T69 y386 x60_3).f1).length c394_1):=(blk_cell BK395.out 1).trans rfl;have hfz45_0:=blk_frozen BK395.out 0;have hfz45_1:=blk_frozen BK395.out 1));try go_wp2_with (first|((with_reducible refine gate_dst (N:=11) rfl ?_);(try (refine gate_guard d18 ?_;dsimp only));refine box_event ?hg (N:=11) ?hd (cs:=#[.int .i64 0, .slice none 0 0]) (t:=69) ?hr ?_;(case hd=>rfl);(case hg=>rfl);(case hr=>first|(go_simp;done)|(go_simp;rfl));intro gb395 hg w40 hbox hb;have n0_:=am (Kd.S_below d7 hb);have n1_:=am (Kd.S_below d8 hb);have n2_:=am (Kd.R_below d6 hb);have n3_:=am (qb (g:=gb372) (o:=.cells #[.int .i64 a0_0, .int .i64 a0_1] 72 (0,0)) (by (with_reducible repeat (first|refine qn ?_ _|refine qd ?_|refine qa ?_ _));exact BK372.out) hb);have n4_:=am (pu (by repeat (first|(with_reducible first|exact HB.out|apply pa|apply pb|apply pd|refine pt ?_ GE372.out)|exact HB.out)) hb);have n5_:=am (hbox);have n6_:=am ((by rw [hg];exact (pz (by repeat (first|(with_reducible first|exact HB.out|apply pa|apply pb|apply pd|refine pt ?_ GE372.out)|exact HB.out))):w.heap.size≤gb395));have n7_:=n6_;have n8_:=am ((by rw [hg];exact Nat.ne_of_lt (blk_lt (g:=gb372) (o:=.cells #[.int .i64 a0_0, .int .i64 a0_1] 72 (0,0)) (by (with_reducible repeat (first|refine qn ?_ _|refine qd ?_|refine qa ?_ _));exact BK372.out)):gb372 ≠ gb395));have n9_:=am ((by rw [hg];exact Nat.ne_of_gt (blk_lt (g:=gb372) (o:=.cells #[.int .i64 a0_0, .int .i64 a0_1] 72 (0,0)) (by (with_reducible repeat (first|refine qn ?_ _|refine qd ?_|refine qa ?_ _));exact BK372.out)):gb395 ≠ gb372));clear HO_7;clear HO_8;clear HO_9;clear BK372;clear HB;have HO_7:=n0_;have HO_8:=n1_;have HO_9:=n2_;have BK372:=n3_;have HB:=n4_;have BK395:=n5_;have GW395:=n6_;have GE395:=n7_;have NB372_395:=n8_;have NB395_372:=n9_;clear n0_ n1_ n2_ n3_ n4_ n5_ n6_ n7_ n8_ n9_;clear hb hbox hg;have hnb41:=NB395_372.out;have hnc41:=NB372_395.out;have hcz42_0:w40.cell? ⟨gb395,0,none⟩=some (.int .i64 0):=(blk_cell BK395.out 0).trans rfl;have hcz42_1:w40.cell? ⟨gb395,1,none⟩=some (.slice none 0 0):=(blk_cell BK395.out 1).trans rfl;have hfz42_0:=blk_frozen BK395.out 0;have hfz42_1:=blk_frozen BK395.out 1;have hcz43_0:w40.cell? ⟨gb372,0,none⟩=some (.int .i64 a0_0):=(blk_cell BK372.out 0).trans rfl;have hcz43_1:w40.cell? ⟨gb372,1,none⟩=some (.int .i64 a0_1):=(blk_cell BK372.out 1).trans rfl;have hfz43_0:=blk_frozen BK372.out 0;have hfz43_1:=blk_frozen BK372.out 1)|(go_at_call 129;(with_reducible refine (impl_Msr_row.calls k3 a0_0 a0_1 ((rd_T69 y386 x60_3).f0) t396 _ A39.out).mono ?_);rintro e w44 ⟨v397,rfl,ho0,hb⟩;have n0_:=am (Kd.S_below d27 hb);have n1_:=am (Kd.S_elder' d26 (Kd.R_base ho0) hb);have n2_:=am (Kd.R_elder' d14 (Kd.R_base ho0) hb);have n3_:=am (Kd.R_lower (Kd.R_new' ho0 (Kd.R_lt d14)) (pz (by repeat (first|(with_reducible first|exact HB.out|apply pa|apply pb|apply pd|refine pt ?_ GE372.out|refine pt ?_ GE395.out)|exact HB.out))));have n4_:=am (qb (g:=gb372) (o:=.cells #[.int .i64 a0_0, .int .i64 a0_1] 72 (0,0)) (by (with_reducible repeat (first|refine qn ?_ _|refine qd ?_|refine qa ?_ _));refine blk_far ?_ NB372_395.out _;(with_reducible repeat (first|refine qn ?_ _|refine qd ?_|refine qa ?_ _));refine blk_far ?_ NB372_395.out _;(with_reducible repeat (first|refine qn ?_ _|refine qd ?_|refine qa ?_ _));exact BK372.out) hb);have n5_:=am (qb (g:=gb395) (o:=.cells #[.int .i64 ((rd_T69 y386 x60_3).f0), .slice A394_1 ((rd_T69 y386 x60_3).f1).length c394_1] 69 (0,0)) (by (with_reducible repeat (first|refine qn ?_ _|refine qd ?_|refine qa ?_ _));refine blk_put (cs:=#[.int .i64 ((rd_T69 y386 x60_3).f0), .slice none 0 0]) ?_ 1 _ rfl;(with_reducible repeat (first|refine qn ?_ _|refine qd ?_|refine qa ?_ _));refine blk_put (cs:=#[.int .i64 0, .slice none 0 0]) ?_ 0 _ rfl;(with_reducible repeat (first|refine qn ?_ _|refine qd ?_|refine qa ?_ _));exact BK395.out) hb);have n6_:=am (pu (by repeat (first|(with_reducible first|exact HB.out|apply pa|apply pb|apply pd|refine pt ?_ GE372.out|refine pt ?_ GE395.out)|exact HB.out)) hb);clear HO_7;clear HO_8;clear HO_9;clear BK372;clear BK395;clear HB;have HO_7:=n0_;have HO_8:=n1_;have HO_9:=n2_;have HO398:=n3_;have BK372:=n4_;have BK395:=n5_;have HB:=n6_;clear n0_ n1_ n2_ n3_ n4_ n5_ n6_;(try clear hb);(try clear hb2);(try clear hk);(try clear hi);(try clear ho0);have hcz45_0:w44.cell? ⟨gb395,0,none⟩=some (.int .i64 ((rd_T69 y386 x60_3).f0)):=(blk_cell BK395.out 0).trans rfl;have hcz45_1:w44.cell? ⟨gb395,1,none⟩=some (.slice A394_1 ((rd_T69 y386 x60_3).f1).length c394_1):=(blk_cell BK395.out 1).trans rfl;have hfz45_0:=blk_frozen BK395.out 0;have hfz45_1:=blk_frozen BK395.out 1)))
            go_loopg [8,9,71] k3 (fun kq v8 v9 v71 w'=>∃ (x8_4:List (List Int)) (x9_4:List Int) (x12_4:List Int) (x71_4:Int),v71 = .int .i64 x71_4∧Aside0 (impl_DecodeMsr.l2 kq t377 x8_4 x9_4 x12_4 y386 (y386.length:Int) x60_3 ((rd_T69 y386 x60_3).f1) (((rd_T69 y386 x60_3).f1).length:Int) x71_4 a0_0 a0_1=some (r1,r2))∧Aside0 (kq≤k3)∧Aside0 (Kd.S (Kd.slice 3 (Kd.int .i64)) 25 w' w.heap.size (fun _=>True) v378 t377)∧Aside0 (Kd.S (Kd.slice 5 (Kd.int .u8)) 57 w' w.heap.size (fun k_=>some k_ ≠ (v9:Value).ownBlock∧some k_ ≠ (v397:Value).ownBlock) v8 x8_4)∧Aside0 (Kd.R (Kd.int .u8) 5 w' w.heap.size (fun k_=>some k_ ≠ (v397:Value).ownBlock) v9 x9_4)∧Aside0 (Kd.R (Kd.int .u8) 5 w' w.heap.size (fun k_=>some k_ ≠ (v9:Value).ownBlock) v397 x12_4)∧Aside0 (w'.heap[gb372]? = some (.cells #[.int .i64 a0_0, .int .i64 a0_1] 72 (0,0)))∧Aside0 (w'.heap[gb395]? = some (.cells #[.int .i64 ((rd_T69 y386 x60_3).f0),(.slice A394_1 ((rd_T69 y386 x60_3).f1).length c394_1)] 69 (0,0)))∧Aside0 (Below w.heap.size w w'))
            case atStart=>exact ⟨(x8_3),(x9_3),(t396),(0),d2,H',⟨Nat.le_refl _⟩,⟨d7⟩,⟨d8⟩,⟨by (with_reducible repeat (first|apply Kd.R_alloc|apply Kd.R_drewN|apply Kd.R_drew));exact Kd.R_mono HO_9.out (fun _ hk=>hk.2)⟩,⟨by (with_reducible repeat (first|apply Kd.R_alloc|apply Kd.R_drewN|apply Kd.R_drew));exact Kd.R_mono HO398.out (fun _ hk=>hk.2)⟩,⟨by (with_reducible repeat (first|refine qn ?_ _|refine qd ?_|refine qa ?_ _));exact BK372.out⟩,⟨by (with_reducible repeat (first|refine qn ?_ _|refine qd ?_|refine qa ?_ _));exact BK395.out⟩,⟨by repeat (first|(with_reducible first|exact HB.out|apply pa|apply pb|apply pd|refine pt ?_ GE372.out|refine pt ?_ GE395.out)|exact HB.out)⟩⟩
            case round =>
             clear H'
             try clear c1
             try clear c2
             try clear p2
             try clear c3
             try clear p3
             try clear q3
             try clear hx3
             try clear c4
             try clear c6
             try clear p6
             try clear c7
             try clear c7b0
             try clear c18
             try clear c19
             try clear c19b0
             try clear c20
             try clear c20b0
             try clear c22
             try clear c22b0
             try clear c23
             try clear c23b0
             try clear c24
             try clear c24b0
             try clear c26
             try clear c26b0
             try clear c26b1
             try clear c27
             try clear c27b0
             try clear c27b1
             try clear q35
             try clear c36
             try clear c36b0
             try clear c37
             try clear c37b0
             try clear p37
             try clear q37
             try clear hx37
             try clear c38
             try clear c38b0
             try clear c39
             try clear p39
             try clear q39
             try clear hx39
             try clear c41
             try clear hcz10_0
             try clear hcz10_1
             try clear hcz12_0
             try clear hcz12_1
             try clear hcz14_0
             try clear hcz14_1
             try clear hcz16_0
             try clear hcz16_1
             try clear hcz28_0
             try clear hcz28_1
             try clear hcz34_0
             try clear hcz34_1
             try clear hcz42_0
             try clear hcz42_1
             try clear hcz43_0
             try clear hcz43_1
             try clear hcz45_0
             try clear hcz45_1
             try clear hcz8_0
             try clear hcz8_1
             try clear hfz10_0
             try clear hfz10_1
             try clear hfz12_0
             try clear hfz12_1
             try clear hfz14_0
             try clear hfz14_1
             try clear hfz16_0
             try clear hfz16_1
             try clear hfz28_0
             try clear hfz28_1
             try clear hfz34_0
             try clear hfz34_1
             try clear hfz42_0
             try clear hfz42_1
             try clear hfz43_0
             try clear hfz43_1
             try clear hfz45_0
             try clear hfz45_1
             try clear hfz8_0
             try clear hfz8_1
             try clear hx375_0
             try clear hx375_1
             try clear hx376_0
             try clear hx376_1
             try clear hx394_0
             try clear hx394_1
             try clear p2
             try clear p3
             try clear p375
             try clear p376
             try clear p394
             try clear p6
             try clear q3
             try clear q35
             try clear q375
             try clear q376
             try clear q394
             obtain ⟨x8_4,x9_4,x12_4,x71_4,rfl,HA,HK4,HO_7,HO_8,HO_9,HO_12,BK372,BK395,HB⟩:=hrel
             cases gk with
             | zero=>exact absurd HA.out (by simp [impl_DecodeMsr.l2])
             | succ k4 =>
              have H:=HA.out
              clear HA
              simp only [impl_DecodeMsr.l2] at H
              by_cases c46:x71_4 < (((rd_T69 y386 x60_3).f1).length:Int)
              ·rw [if_pos c46] at H
               have c46b0:decide (x71_4 < (((rd_T69 y386 x60_3).f1).length:Int))=true:=decide_eq_true c46
               clear c46
               by_cases c47:0≤x71_4
               ·rw [if_pos c47] at H
                have c47b0:decide (0≤x71_4)=true:=decide_eq_true c47
                clear c47
                by_cases c48:x71_4 < (((rd_T69 y386 x60_3).f1).length:Int)
                ·rw [if_pos c48] at H
                 have c48b0:decide (x71_4 < (((rd_T69 y386 x60_3).f1).length:Int))=true:=decide_eq_true c48
                 clear c48
                 replace H:=Option.bind_eq_some_iff.mp H
                 obtain ⟨t400,A490,H⟩:=H
                 replace H:(if 0≤t400 then (if (t400:Int).toNat≤281474976710656 then (impl_DecodeMsr.l3 k4 t377 x8_4 x9_4 x12_4 x71_4 (rd ((rd_T69 y386 x60_3).f1) x71_4) (List.replicate (t400:Int).toNat 0) y386 (y386.length:Int) x60_3 ((rd_T69 y386 x60_3).f1) (((rd_T69 y386 x60_3).f1).length:Int) x71_4 x12_4 (x12_4.length:Int) 0 a0_0 a0_1) else (none)) else (none))=some (r1,r2):=H
                 have A49:=am A490
                 clear A490
                 by_cases c50:0≤t400
                 ·rw [if_pos c50] at H
                  have c50b0:=eq_true c50
                  have c50b1:decide (0≤t400)=true:=decide_eq_true c50
                  clear c50
                  by_cases c51:(t400:Int).toNat≤281474976710656
                  ·rw [if_pos c51] at H
                   have c51b0:=eq_true c51
                   have c51b1:decide ((t400:Int).toNat≤281474976710656)=true:=decide_eq_true c51
                   clear c51
                   obtain ⟨y401,hy401⟩:∃ y_:List Int,y_=(List.replicate (t400:Int).toNat 0):=⟨_,rfl⟩
                   replace H:(impl_DecodeMsr.l3 k4 t377 x8_4 x9_4 x12_4 x71_4 (rd ((rd_T69 y386 x60_3).f1) x71_4) y401 y386 (y386.length:Int) x60_3 ((rd_T69 y386 x60_3).f1) (((rd_T69 y386 x60_3).f1).length:Int) x71_4 x12_4 (x12_4.length:Int) 0 a0_0 a0_1)=some (r1,r2):=by first|(rw [hy401];with_reducible exact H)|(have H2_:=(Option.bind_some _ _).symm.trans H;rw [hy401];with_reducible exact H2_)|(have H2_:=(Option.bind_some _ _).symm.trans H;with_reducible exact H2_)|with_reducible exact H|(rw [hy401];exact H)|exact H
                   have Ny401:=am hy401
                   clear hy401
                   have H':=am H
                   clear H
                   have p399:0≤(x71_4:Int):=od d1
                   have q399:x71_4 < (((rd_T69 y386 x60_3).f1).length:Int):=od d1
                   obtain ⟨ad399,e399,hx399_0⟩:=Kd.at_int HR394_1.out x71_4 p399 q399
                   cases e399
                   replace hx399_0:=(HB.out.cell (World.block_lt_of_cell? w _ hx399_0)).trans hx399_0
                   replace p399:=eq_true p399
                   replace q399:=eq_true q399
                   have hnb52:=NB372_395.out
                   have hnc52:=NB395_372.out
                   have hcz53_0:wr.cell? ⟨gb372,0,none⟩=some (.int .i64 a0_0):=(blk_cell BK372.out 0).trans rfl
                   have hcz53_1:wr.cell? ⟨gb372,1,none⟩=some (.int .i64 a0_1):=(blk_cell BK372.out 1).trans rfl
                   have hfz53_0:=blk_frozen BK372.out 0
                   have hfz53_1:=blk_frozen BK372.out 1
                   go_wp2_with (first|(go_at_call 157;(with_reducible refine (impl_Msr_size.calls a0_0 a0_1 t400 _ A49.out).mono ?_);rintro e w54 ⟨rfl,hb⟩;have n0_:=am (Kd.S_below d7 hb);have n1_:=am (Kd.S_below d8 hb);have n2_:=am (Kd.R_below d6 hb);have n3_:=am (Kd.R_below d9 hb);have n4_:=am (qb (g:=gb372) (o:=.cells #[.int .i64 a0_0, .int .i64 a0_1] 72 (0,0)) (by (with_reducible repeat (first|refine qn ?_ _|refine qd ?_|refine qa ?_ _));exact BK372.out) hb);have n5_:=am (qb (g:=gb395) (o:=.cells #[.int .i64 ((rd_T69 y386 x60_3).f0), .slice (some ad399) ((rd_T69 y386 x60_3).f1).length c394_1] 69 (0,0)) (by (with_reducible repeat (first|refine qn ?_ _|refine qd ?_|refine qa ?_ _));exact BK395.out) hb);have n6_:=am (pu (by repeat (first|(with_reducible first|exact HB.out|apply pa|apply pb|apply pd|refine pt ?_ GE372.out|refine pt ?_ GE395.out)|exact HB.out)) hb);clear HO_7;clear HO_8;clear HO_9;clear HO_12;clear BK372;clear BK395;clear HB;have HO_7:=n0_;have HO_8:=n1_;have HO_9:=n2_;have HO_12:=n3_;have BK372:=n4_;have BK395:=n5_;have HB:=n6_;clear n0_ n1_ n2_ n3_ n4_ n5_ n6_;(try clear hb);(try clear hb2);(try clear hk);(try clear hi))|((with_reducible refine gate_dst (N:=78) rfl ?_);(try (refine gate_guard d18 ?_;dsimp only));refine Kd.R_make (Kd.int .u8) _ 5 rfl (N:=78) rfl 57 _ _ rfl t400 rfl rfl Try.underlying57 (.int .u8 0) 1 info5 rfl d11 d10 0 (ok:=fun _=>True) (okp:=fun _=>True) rfl (fun _ hk=>hk) trivial (od d1) (Nat.le_trans (Nat.mul_le_mul_right _ (od d1:t400.toNat≤281474976710656)) d10) (Below.refl _ _) (Nat.le_refl _) ?_;intro v402 w55 ho56 hb hg_ hnew_;clear hg_ hnew_;(first|rw [← Ny401.out] at ho56|(simp only [Int.reduceToNat] at ho56;rw [← Ny401.out] at ho56));have n0_:=am (Kd.S_below d7 hb);have n1_:=am (Kd.S_elder' d8 (Kd.R_base ho56) hb);have n2_:=am (Kd.R_elder' d6 (Kd.R_base ho56) hb);have n3_:=am (Kd.R_elder' d9 (Kd.R_base ho56) hb);have n4_:=am (Kd.R_lower (Kd.R_new' (Kd.R_new' ho56 (Kd.R_lt d6)) (Kd.R_lt d9)) (pz (by repeat (first|(with_reducible first|exact HB.out|apply pa|apply pb|apply pd|refine pt ?_ GE372.out|refine pt ?_ GE395.out)|exact HB.out))));have n5_:=am (qb (g:=gb372) (o:=.cells #[.int .i64 a0_0, .int .i64 a0_1] 72 (0,0)) (by (with_reducible repeat (first|refine qn ?_ _|refine qd ?_|refine qa ?_ _));exact BK372.out) hb);have n6_:=am (qb (g:=gb395) (o:=.cells #[.int .i64 ((rd_T69 y386 x60_3).f0), .slice (some ad399) ((rd_T69 y386 x60_3).f1).length c394_1] 69 (0,0)) (by (with_reducible repeat (first|refine qn ?_ _|refine qd ?_|refine qa ?_ _));exact BK395.out) hb);have n7_:=am (pu (by repeat (first|(with_reducible first|exact HB.out|apply pa|apply pb|apply pd|refine pt ?_ GE372.out|refine pt ?_ GE395.out)|exact HB.out)) hb);clear HO_7;clear HO_8;clear HO_9;clear HO_12;clear BK372;clear BK395;clear HB;have HO_7:=n0_;have HO_8:=n1_;have HO_9:=n2_;have HO_12:=n3_;have HO403:=n4_;have BK372:=n5_;have BK395:=n6_;have HB:=n7_;clear n0_ n1_ n2_ n3_ n4_ n5_ n6_ n7_;clear hb ho56;obtain ⟨Ao57,co57,eo57⟩:=Kd.R_slice HO_12.out;subst eo57))
                   repeat (go_quiet (first|(go_at_call 157;(with_reducible refine (impl_Msr_size.calls a0_0 a0_1 t400 _ A49.out).mono ?_);rintro e w54 ⟨rfl,hb⟩;have n0_:=am (Kd.S_below d7 hb);have n1_:=am (Kd.S_below d8 hb);have n2_:=am (Kd.R_below d6 hb);have n3_:=am (Kd.R_below d9 hb);have n4_:=am (qb (g:=gb372) (o:=.cells #[.int .i64 a0_0, .int .i64 a0_1] 72 (0,0)) (by (with_reducible repeat (first|refine qn ?_ _|refine qd ?_|refine qa ?_ _));exact BK372.out) hb);have n5_:=am (qb (g:=gb395) (o:=.cells #[.int .i64 ((rd_T69 y386 x60_3).f0), .slice (some ad399) ((rd_T69 y386 x60_3).f1).length c394_1] 69 (0,0)) (by (with_reducible repeat (first|refine qn ?_ _|refine qd ?_|refine qa ?_ _));exact BK395.out) hb);have n6_:=am (pu (by repeat (first|(with_reducible first|exact HB.out|apply pa|apply pb|apply pd|refine pt ?_ GE372.out|refine pt ?_ GE395.out)|exact HB.out)) hb);clear HO_7;clear HO_8;clear HO_9;clear HO_12;clear BK372;clear BK395;clear HB;have HO_7:=n0_;have HO_8:=n1_;have HO_9:=n2_;have HO_12:=n3_;have BK372:=n4_;have BK395:=n5_;have HB:=n6_;clear n0_ n1_ n2_ n3_ n4_ n5_ n6_;(try clear hb);(try clear hb2);(try clear hk);(try clear hi))|((with_reducible refine gate_dst (N:=78) rfl ?_);(try (refine gate_guard d18 ?_;dsimp only));refine Kd.R_make (Kd.int .u8) _ 5 rfl (N:=78) rfl 57 _ _ rfl t400 rfl rfl Try.underlying57 (.int .u8 0) 1 info5 rfl d11 d10 0 (ok:=fun _=>True) (okp:=fun _=>True) rfl (fun _ hk=>hk) trivial (od d1) (Nat.le_trans (Nat.mul_le_mul_right _ (od d1:t400.toNat≤281474976710656)) d10) (Below.refl _ _) (Nat.le_refl _) ?_;intro v402 w55 ho56 hb hg_ hnew_;clear hg_ hnew_;(first|rw [← Ny401.out] at ho56|(simp only [Int.reduceToNat] at ho56;rw [← Ny401.out] at ho56));have n0_:=am (Kd.S_below d7 hb);have n1_:=am (Kd.S_elder' d8 (Kd.R_base ho56) hb);have n2_:=am (Kd.R_elder' d6 (Kd.R_base ho56) hb);have n3_:=am (Kd.R_elder' d9 (Kd.R_base ho56) hb);have n4_:=am (Kd.R_lower (Kd.R_new' (Kd.R_new' ho56 (Kd.R_lt d6)) (Kd.R_lt d9)) (pz (by repeat (first|(with_reducible first|exact HB.out|apply pa|apply pb|apply pd|refine pt ?_ GE372.out|refine pt ?_ GE395.out)|exact HB.out))));have n5_:=am (qb (g:=gb372) (o:=.cells #[.int .i64 a0_0, .int .i64 a0_1] 72 (0,0)) (by (with_reducible repeat (first|refine qn ?_ _|refine qd ?_|refine qa ?_ _));exact BK372.out) hb);have n6_:=am (qb (g:=gb395) (o:=.cells #[.int .i64 ((rd_T69 y386 x60_3).f0), .slice (some ad399) ((rd_T69 y386 x60_3).f1).length c394_1] 69 (0,0)) (by (with_reducible repeat (first|refine qn ?_ _|refine qd ?_|refine qa ?_ _));exact BK395.out) hb);have n7_:=am (pu (by repeat (first|(with_reducible first|exact HB.out|apply pa|apply pb|apply pd|refine pt ?_ GE372.out|refine pt ?_ GE395.out)|exact HB.out)) hb);clear HO_7;clear HO_8;clear HO_9;clear HO_12;clear BK372;clear BK395;clear HB;have HO_7:=n0_;have HO_8:=n1_;have HO_9:=n2_;have HO_12:=n3_;have HO403:=n4_;have BK372:=n5_;have BK395:=n6_;have HB:=n7_;clear n0_ n1_ n2_ n3_ n4_ n5_ n6_ n7_;clear hb ho56;obtain ⟨Ao57,co57,eo57⟩:=Kd.R_slice HO_12.out;subst eo57));try go_wp2_with (first|(go_at_call 157;(with_reducible refine (impl_Msr_size.calls a0_0 a0_1 t400 _ A49.out).mono ?_);rintro e w54 ⟨rfl,hb⟩;have n0_:=am (Kd.S_below d7 hb);have n1_:=am (Kd.S_below d8 hb);have n2_:=am (Kd.R_below d6 hb);have n3_:=am (Kd.R_below d9 hb);have n4_:=am (qb (g:=gb372) (o:=.cells #[.int .i64 a0_0, .int .i64 a0_1] 72 (0,0)) (by (with_reducible repeat (first|refine qn ?_ _|refine qd ?_|refine qa ?_ _));exact BK372.out) hb);have n5_:=am (qb (g:=gb395) (o:=.cells #[.int .i64 ((rd_T69 y386 x60_3).f0), .slice (some ad399) ((rd_T69 y386 x60_3).f1).length c394_1] 69 (0,0)) (by (with_reducible repeat (first|refine qn ?_ _|refine qd ?_|refine qa ?_ _));exact BK395.out) hb);have n6_:=am (pu (by repeat (first|(with_reducible first|exact HB.out|apply pa|apply pb|apply pd|refine pt ?_ GE372.out|refine pt ?_ GE395.out)|exact HB.out)) hb);clear HO_7;clear HO_8;clear HO_9;clear HO_12;clear BK372;clear BK395;clear HB;have HO_7:=n0_;have HO_8:=n1_;have HO_9:=n2_;have HO_12:=n3_;have BK372:=n4_;have BK395:=n5_;have HB:=n6_;clear n0_ n1_ n2_ n3_ n4_ n5_ n6_;(try clear hb);(try clear hb2);(try clear hk);(try clear hi))|((with_reducible refine gate_dst (N:=78) rfl ?_);(try (refine gate_guard d18 ?_;dsimp only));refine Kd.R_make (Kd.int .u8) _ 5 rfl (N:=78) rfl 57 _ _ rfl t400 rfl rfl Try.underlying57 (.int .u8 0) 1 info5 rfl d11 d10 0 (ok:=fun _=>True) (okp:=fun _=>True) rfl (fun _ hk=>hk) trivial (od d1) (Nat.le_trans (Nat.mul_le_mul_right _ (od d1:t400.toNat≤281474976710656)) d10) (Below.refl _ _) (Nat.le_refl _) ?_;intro v402 w55 ho56 hb hg_ hnew_;clear hg_ hnew_;(first|rw [← Ny401.out] at ho56|(simp only [Int.reduceToNat] at ho56;rw [← Ny401.out] at ho56));have n0_:=am (Kd.S_below d7 hb);have n1_:=am (Kd.S_elder' d8 (Kd.R_base ho56) hb);have n2_:=am (Kd.R_elder' d6 (Kd.R_base ho56) hb);have n3_:=am (Kd.R_elder' d9 (Kd.R_base ho56) hb);have n4_:=am (Kd.R_lower (Kd.R_new' (Kd.R_new' ho56 (Kd.R_lt d6)) (Kd.R_lt d9)) (pz (by repeat (first|(with_reducible first|exact HB.out|apply pa|apply pb|apply pd|refine pt ?_ GE372.out|refine pt ?_ GE395.out)|exact HB.out))));have n5_:=am (qb (g:=gb372) (o:=.cells #[.int .i64 a0_0, .int .i64 a0_1] 72 (0,0)) (by (with_reducible repeat (first|refine qn ?_ _|refine qd ?_|refine qa ?_ _));exact BK372.out) hb);have n6_:=am (qb (g:=gb395) (o:=.cells #[.int .i64 ((rd_T69 y386 x60_3).f0), .slice (some ad399) ((rd_T69 y386 x60_3).f1).length c394_1] 69 (0,0)) (by (with_reducible repeat (first|refine qn ?_ _|refine qd ?_|refine qa ?_ _));exact BK395.out) hb);have n7_:=am (pu (by repeat (first|(with_reducible first|exact HB.out|apply pa|apply pb|apply pd|refine pt ?_ GE372.out|refine pt ?_ GE395.out)|exact HB.out)) hb);clear HO_7;clear HO_8;clear HO_9;clear HO_12;clear BK372;clear BK395;clear HB;have HO_7:=n0_;have HO_8:=n1_;have HO_9:=n2_;have HO_12:=n3_;have HO403:=n4_;have BK372:=n5_;have BK395:=n6_;have HB:=n7_;clear n0_ n1_ n2_ n3_ n4_ n5_ n6_ n7_;clear hb ho56;obtain ⟨Ao57,co57,eo57⟩:=Kd.R_slice HO_12.out;subst eo57)))
                   go_loopg [81] k4 (fun kq v81 w'=>∃ (x15_5:List Int) (x81_5:Int),v81 = .int .i64 x81_5∧Aside0 (impl_DecodeMsr.l3 kq t377 x8_4 x9_4 x12_4 x71_4 (rd ((rd_T69 y386 x60_3).f1) x71_4) x15_5 y386 (y386.length:Int) x60_3 ((rd_T69 y386 x60_3).f1) (((rd_T69 y386 x60_3).f1).length:Int) x71_4 x12_4 (x12_4.length:Int) x81_5 a0_0 a0_1=some (r1,r2))∧Aside0 (kq≤k4)∧Aside0 (Kd.S (Kd.slice 3 (Kd.int .i64)) 25 w' w.heap.size (fun _=>True) v378 t377)∧Aside0 (Kd.S (Kd.slice 5 (Kd.int .u8)) 57 w' w.heap.size (fun k_=>some k_ ≠ (u9:Value).ownBlock∧some k_ ≠ ((.slice Ao57 x12_4.length co57):Value).ownBlock∧some k_ ≠ (v402:Value).ownBlock∧some k_ ≠ ((.slice Ao57 x12_4.length co57):Value).ownBlock) u8 x8_4)∧Aside0 (Kd.R (Kd.int .u8) 5 w' w.heap.size (fun k_=>some k_ ≠ ((.slice Ao57 x12_4.length co57):Value).ownBlock∧some k_ ≠ (v402:Value).ownBlock∧some k_ ≠ ((.slice Ao57 x12_4.length co57):Value).ownBlock) u9 x9_4)∧Aside0 (Kd.R (Kd.int .u8) 5 w' w.heap.size (fun k_=>some k_ ≠ (u9:Value).ownBlock∧some k_ ≠ (v402:Value).ownBlock) (.slice Ao57 x12_4.length co57) x12_4)∧Aside0 (Kd.R (Kd.int .u8) 5 w' w.heap.size (fun k_=>some k_ ≠ (u9:Value).ownBlock∧some k_ ≠ ((.slice Ao57 x12_4.length co57):Value).ownBlock∧some k_ ≠ ((.slice Ao57 x12_4.length co57):Value).ownBlock) v402 x15_5)∧Aside0 (Kd.R (Kd.int .u8) 5 w' w.heap.size (fun k_=>some k_ ≠ (u9:Value).ownBlock∧some k_ ≠ (v402:Value).ownBlock) (.slice Ao57 x12_4.length co57) x12_4)∧Aside0 (w'.heap[gb372]? = some (.cells #[.int .i64 a0_0, .int .i64 a0_1] 72 (0,0)))∧Aside0 (w'.heap[gb395]? = some (.cells #[.int .i64 ((rd_T69 y386 x60_3).f0),(.slice (some ad399) ((rd_T69 y386 x60_3).f1).length c394_1)] 69 (0,0)))∧Aside0 (Below w.heap.size w w'))
                   case atStart=>exact ⟨(y401),(0),d2,H',⟨Nat.le_refl _⟩,⟨d7⟩,⟨by (with_reducible repeat (first|apply Kd.S_alloc|apply Kd.S_drewN|apply Kd.S_drew));exact Kd.S_mono HO_8.out (fun _ hk=>⟨hk.1.1,⟨hk.1.2,⟨hk.2,hk.1.2⟩⟩⟩)⟩,⟨by (with_reducible repeat (first|apply Kd.R_alloc|apply Kd.R_drewN|apply Kd.R_drew));exact Kd.R_mono HO_9.out (fun _ hk=>⟨hk.1,⟨hk.2,hk.1⟩⟩)⟩,⟨d9⟩,⟨by (with_reducible repeat (first|apply Kd.R_alloc|apply Kd.R_drewN|apply Kd.R_drew));exact Kd.R_mono HO403.out (fun _ hk=>⟨hk.1.2,⟨hk.2,hk.2⟩⟩)⟩,⟨d9⟩,⟨by (with_reducible repeat (first|refine qn ?_ _|refine qd ?_|refine qa ?_ _));exact BK372.out⟩,⟨by (with_reducible repeat (first|refine qn ?_ _|refine qd ?_|refine qa ?_ _));exact BK395.out⟩,⟨by repeat (first|(with_reducible first|exact HB.out|apply pa|apply pb|apply pd|refine pt ?_ GE372.out|refine pt ?_ GE395.out)|exact HB.out)⟩⟩
                   case round =>
                    clear H'
                    try clear c1
                    try clear c2
                    try clear p2
                    try clear c3
                    try clear p3
                    try clear q3
                    try clear hx3
                    try clear c4
                    try clear c5
                    try clear c6
                    try clear p6
                    try clear c7
                    try clear c7b0
                    try clear c18
                    try clear c19
                    try clear c19b0
                    try clear c20
                    try clear c20b0
                    try clear c22
                    try clear c22b0
                    try clear c23
                    try clear c23b0
                    try clear c24
                    try clear c24b0
                    try clear c26
                    try clear c26b0
                    try clear c26b1
                    try clear c27
                    try clear c27b0
                    try clear c27b1
                    try clear q35
                    try clear c36
                    try clear c36b0
                    try clear c37
                    try clear c37b0
                    try clear p37
                    try clear q37
                    try clear hx37
                    try clear c38
                    try clear c38b0
                    try clear c39
                    try clear p39
                    try clear q39
                    try clear hx39
                    try clear c41
                    try clear c46
                    try clear c46b0
                    try clear c47
                    try clear c47b0
                    try clear c48
                    try clear c48b0
                    try clear c50
                    try clear c50b0
                    try clear c50b1
                    try clear c51
                    try clear c51b0
                    try clear c51b1
                    try clear c52
                    try clear hcz10_0
                    try clear hcz10_1
                    try clear hcz12_0
                    try clear hcz12_1
                    try clear hcz14_0
                    try clear hcz14_1
                    try clear hcz16_0
                    try clear hcz16_1
                    try clear hcz28_0
                    try clear hcz28_1
                    try clear hcz34_0
                    try clear hcz34_1
                    try clear hcz42_0
                    try clear hcz42_1
                    try clear hcz43_0
                    try clear hcz43_1
                    try clear hcz45_0
                    try clear hcz45_1
                    try clear hcz53_0
                    try clear hcz53_1
                    try clear hcz8_0
                    try clear hcz8_1
                    try clear hfz10_0
                    try clear hfz10_1
                    try clear hfz12_0
                    try clear hfz12_1
                    try clear hfz14_0
                    try clear hfz14_1
                    try clear hfz16_0
                    try clear hfz16_1
                    try clear hfz28_0
                    try clear hfz28_1
                    try clear hfz34_0
                    try clear hfz34_1
                    try clear hfz42_0
                    try clear hfz42_1
                    try clear hfz43_0
                    try clear hfz43_1
                    try clear hfz45_0
                    try clear hfz45_1
                    try clear hfz53_0
                    try clear hfz53_1
                    try clear hfz8_0
                    try clear hfz8_1
                    try clear hx375_0
                    try clear hx375_1
                    try clear hx376_0
                    try clear hx376_1
                    try clear hx394_0
                    try clear hx394_1
                    try clear hx399_0
                    try clear p2
                    try clear p3
                    try clear p37
                    try clear p375
                    try clear p376
                    try clear p39
                    try clear p394
                    try clear p399
                    try clear p6
                    try clear q3
                    try clear q35
                    try clear q37
                    try clear q375
                    try clear q376
                    try clear q39
                    try clear q394
                    try clear q399
                    obtain ⟨x15_5,x81_5,rfl,HA,HK5,HO_7,HO_8,HO_9,HO_12,HO_15,HO_79,BK372,BK395,HB⟩:=hrel
                    cases gk with
                    | zero=>exact absurd HA.out (by simp [impl_DecodeMsr.l3])
                    | succ k5 =>
                     have H:=HA.out
                     clear HA
                     simp only [impl_DecodeMsr.l3] at H
                     by_cases c58:x81_5 < (x12_4.length:Int)
                     ·rw [if_pos c58] at H
                      have c58b0:decide (x81_5 < (x12_4.length:Int))=true:=decide_eq_true c58
                      clear c58
                      by_cases c59:0≤x81_5
                      ·rw [if_pos c59] at H
                       have c59b0:decide (0≤x81_5)=true:=decide_eq_true c59
                       clear c59
                       by_cases c60:x81_5 < (x12_4.length:Int)
                       ·rw [if_pos c60] at H
                        have c60b0:decide (x81_5 < (x12_4.length:Int))=true:=decide_eq_true c60
                        clear c60
                        by_cases c61:x81_5 < (t377.length:Int)
                        ·rw [if_pos c61] at H
                         have c61b0:decide (x81_5 < (t377.length:Int))=true:=decide_eq_true c61
                         clear c61
                         by_cases c62:0≤x71_4
                         ·rw [if_pos c62] at H
                          have c62b0:decide (0≤x71_4)=true:=decide_eq_true c62
                          clear c62
                          by_cases c63:x71_4 < ((rd_L5 t377 x81_5).length:Int)
                          ·rw [if_pos c63] at H
                           have c63b0:decide (x71_4 < ((rd_L5 t377 x81_5).length:Int))=true:=decide_eq_true c63
                           clear c63
                           by_cases c64:0≤(rd (rd_L5 t377 x81_5) x71_4)
                           ·rw [if_pos c64] at H
                            have c64b0:decide (0≤(rd (rd_L5 t377 x81_5) x71_4))=true:=decide_eq_true c64
                            clear c64
                            by_cases c65:(rd (rd_L5 t377 x81_5) x71_4) < (x15_5.length:Int)
                            ·rw [if_pos c65] at H
                             have c65b0:decide ((rd (rd_L5 t377 x81_5) x71_4) < (x15_5.length:Int))=true:=decide_eq_true c65
                             clear c65
                             obtain ⟨y408,hy408⟩:∃ y_:List Int,y_=(x15_5.set ((rd (rd_L5 t377 x81_5) x71_4):Int).toNat (Go.bits .xor .u8 (rd x15_5 (rd (rd_L5 t377 x81_5) x71_4)) (rd x12_4 x81_5))):=⟨_,rfl⟩
                             replace H:(impl_DecodeMsr.l3 k5 t377 x8_4 x9_4 x12_4 x71_4 (rd ((rd_T69 y386 x60_3).f1) x71_4) y408 y386 (y386.length:Int) x60_3 ((rd_T69 y386 x60_3).f1) (((rd_T69 y386 x60_3).f1).length:Int) x71_4 x12_4 (x12_4.length:Int) (wrap64 (x81_5+1)) a0_0 a0_1)=some (r1,r2):=by first|(rw [hy408];with_reducible exact H)|(have H2_:=(Option.bind_some _ _).symm.trans H;rw [hy408];with_reducible exact H2_)|(have H2_:=(Option.bind_some _ _).symm.trans H;with_reducible exact H2_)|with_reducible exact H|(rw [hy408];exact H)|exact H
                             have Ny408:=am hy408
                             clear hy408
                             have H':=am H
                             clear H
                             have p404:0≤(x81_5:Int):=od d1
                             have q404:x81_5 < (x12_4.length:Int):=od d1
                             obtain ⟨ad404,e404,hx404_0⟩:=Kd.at_int (Kd.R_reads' HO_79.out).2.2 x81_5 p404 q404
                             cases e404
                             replace p404:=eq_true p404
                             replace q404:=eq_true q404
                             obtain ⟨Ao67,co67,eo67⟩:=Kd.S_slice HO_7.out
                             subst eo67
                             have p405:0≤(x81_5:Int):=od d1
                             have q405:x81_5 < (t377.length:Int):=od d1
                             obtain ⟨ad405,A405_0,c405_0,e405,hx405_0,hl405_0,hi405_0⟩:=at_L5 (Kd.S_reads' HO_7.out).2.2 x81_5 p405 q405
                             cases e405
                             obtain ⟨ce405,hce405,hMe405,hcc405⟩:=Kd.S_get HO_7.out [] x81_5 p405 (by first|exact q405|exact od d1|(have e_:=(Kd.S_reads' HO_7.out).1;omega))
                             obtain ⟨ve405_0,rfl,ge405_0⟩:=hMe405
                             have hv405_0:=hcc405 0 _ rfl
                             rw [Nat.add_zero,show ((Kd.slice 3 (Kd.int .i64))).sz=1 from rfl,Nat.mul_one] at hv405_0
                             replace hv405_0:=Option.some.inj (hv405_0.symm.trans hx405_0)
                             rw [hv405_0] at ge405_0
                             have HL405_0:=am (show Kd.R (Kd.int .i64) 3 _ _ _ _ (rd_L5 t377 x81_5) from ge405_0)
                             clear hv405_0 ge405_0
                             clear hcc405 hce405
                             have HR405_0:=am hi405_0
                             have HC405_0:=am hl405_0
                             clear hi405_0 hl405_0
                             replace p405:=eq_true p405
                             replace q405:=eq_true q405
                             have p406:0≤(x71_4:Int):=od d1
                             have q406:x71_4 < ((rd_L5 t377 x81_5).length:Int):=od d1
                             obtain ⟨ad406,e406,hx406_0⟩:=Kd.at_int (by repeat (first|(with_reducible exact HR405_0.out)|(with_reducible refine Kd.C_alloc ?_ _)|(with_reducible refine Kd.C_drewN ?_ _)|(with_reducible refine Kd.C_drew ?_)|exact HR405_0.out)) x71_4 p406 q406
                             cases e406
                             replace p406:=eq_true p406
                             replace q406:=eq_true q406
                             obtain ⟨Ao68,co68,eo68⟩:=Kd.R_slice HO_15.out
                             subst eo68
                             have p407:0≤((rd (rd_L5 t377 x81_5) x71_4):Int):=od d1
                             have q407:(rd (rd_L5 t377 x81_5) x71_4) < (x15_5.length:Int):=od d1
                             obtain ⟨ad407,e407,hx407_0⟩:=Kd.at_int (Kd.R_reads' HO_15.out).2.2 (rd (rd_L5 t377 x81_5) x71_4) p407 q407
                             cases e407
                             replace p407:=eq_true p407
                             replace q407:=eq_true q407
                             have p66:0≤((rd (rd_L5 t377 x81_5) x71_4):Int):=od d1
                             have q66:((rd (rd_L5 t377 x81_5) x71_4):Int) < ((x15_5.length:Int):Int):=od d1
                             obtain ⟨go66,co66,eo66,gb66,gl66,cl66,HG66⟩:=Kd.R_form HO_15.out d10
                             (first|cases eo66|(injection eo66 with ea_ en_ ec_;(first|subst ea_|(injection ea_ with ea_;subst ea_));subst ec_;clear en_))
                             have GB66:=am gb66
                             have GG66:=am HG66
                             clear gb66 gl66 HG66
                             (first|simp only [add_plain] at hx407_0|skip)
                             obtain ⟨hx66_0,hf66_0⟩:=Kd.R_celln 0 HO_15.out ((rd (rd_L5 t377 x81_5) x71_4):Int) p66 q66
                             replace p66:=eq_true p66
                             replace q66:=eq_true q66
                             have HP69:=Kd.R_putg HO_15.out ((rd (rd_L5 t377 x81_5) x71_4):Int) (Go.bits .xor .u8 (rd x15_5 (rd (rd_L5 t377 x81_5) x71_4)) (rd x12_4 x81_5))
                             go_wp2_with (first|((with_reducible refine gate_store (t:=5) (p:=98) rfl ?_);(try (rw [drewN_self wr];generalize hq_:World.drewN wr _=wr;have n0_:=am (Kd.S_at hq_ HO_7.out);have n1_:=am (Kd.S_at hq_ HO_8.out);have n2_:=am (Kd.R_at hq_ HO_9.out);have n3_:=am (Kd.R_at hq_ HO_12.out);have n4_:=am (Kd.R_at hq_ HO_15.out);have n5_:=am (Kd.R_at hq_ HO_79.out);have n6_:=am (Kd.R_at hq_ HL405_0.out);have n7_:=am (blk_at hq_ BK372.out);have n8_:=am (blk_at hq_ BK395.out);have n9_:=am (below_at hq_ HB.out);clear hq_ HO_7 HO_8 HO_9 HO_12 HO_15 HO_79 HL405_0 BK372 BK395 HB;have HO_7:=n0_;have HO_8:=n1_;have HO_9:=n2_;have HO_12:=n3_;have HO_15:=n4_;have HO_79:=n5_;have HL405_0:=n6_;have BK372:=n7_;have BK395:=n8_;have HB:=n9_;clear n0_ n1_ n2_ n3_ n4_ n5_ n6_ n7_ n8_ n9_;(try (have HP69:=Kd.R_putg HO_15.out ((rd (rd_L5 t377 x81_5) x71_4):Int) (Go.bits .xor .u8 (rd x15_5 (rd (rd_L5 t377 x81_5) x71_4)) (rd x12_4 x81_5))))));refine store_event (t:=5) (p:=98) (v:=?vo_w70) (w1:=(wr.setCell ⟨go66,((rd (rd_L5 t377 x81_5) x71_4):Int).toNat,none⟩ (.int .u8 (Go.bits .xor .u8 (rd x15_5 (rd (rd_L5 t377 x81_5) x71_4)) (rd x12_4 x81_5))))) ?hg ?ho ?hn ?hr ?_;(case ho=>rfl);(case hg=>rfl);(case hn=>rfl);(case hr=>first|(go_simp;done)|(go_simp;rfl));intro w70 hw;have hg:wr.grownBy w70 (some go66):=(by rw [hw];exact HP69.2);have hp_:Kd.R (Kd.int .u8) 5 w70 w.heap.size (fun k_=>some k_ ≠ (u9:Value).ownBlock∧some k_ ≠ (.slice (some ad404) x12_4.length co57:Value).ownBlock∧some k_ ≠ (.slice (some ad404) x12_4.length co57:Value).ownBlock) (.slice (some ⟨go66,0,none⟩) x15_5.length co68) y408:=(by rw [hw,Ny408.out];exact HP69.1);clear HP69;have n0_:=am (Kd.S_over' (v:=(.slice (some ⟨go66,0,none⟩) x15_5.length co68)) d7 (Kd.R_typed HO_15.out) d11 hg);have n1_:=am (Kd.S_after (v:=(.slice (some ⟨go66,0,none⟩) x15_5.length co68)) (v1:=(.slice (some ⟨go66,0,none⟩) x15_5.length co68)) (ok:=(fun k_=>some k_ ≠ (u9:Value).ownBlock∧some k_ ≠ (.slice (some ad404) x12_4.length co57:Value).ownBlock∧some k_ ≠ (.slice (some ad404) x12_4.length co57:Value).ownBlock)) d37 hg (.inl rfl));have n2_:=am (Kd.R_after (v:=(.slice (some ⟨go66,0,none⟩) x15_5.length co68)) (v1:=(.slice (some ⟨go66,0,none⟩) x15_5.length co68)) (ok:=(fun k_=>some k_ ≠ (.slice (some ad404) x12_4.length co57:Value).ownBlock∧some k_ ≠ (.slice (some ad404) x12_4.length co57:Value).ownBlock)) d39 hg (.inl rfl));have n3_:=am (Kd.R_after (v:=(.slice (some ⟨go66,0,none⟩) x15_5.length co68)) (v1:=(.slice (some ⟨go66,0,none⟩) x15_5.length co68)) (ok:=(fun k_=>some k_ ≠ (u9:Value).ownBlock)) d9 hg (.inl rfl));have n4_:=am (hp_);have n5_:=am (Kd.R_after (v:=(.slice (some ⟨go66,0,none⟩) x15_5.length co68)) (v1:=(.slice (some ⟨go66,0,none⟩) x15_5.length co68)) (ok:=(fun k_=>some k_ ≠ (u9:Value).ownBlock)) d17 hg (.inl rfl));have n6_:=am (blk_grown (g:=gb372) (o:=.cells #[.int .i64 a0_0, .int .i64 a0_1] 72 (0,0)) (by (with_reducible repeat (first|refine qn ?_ _|refine qd ?_|refine qa ?_ _));exact BK372.out) hg (Kd.R_ne HO_15.out BK372.out d11));have n7_:=am (blk_grown (g:=gb395) (o:=.cells #[.int .i64 ((rd_T69 y386 x60_3).f0), .slice (some ad399) ((rd_T69 y386 x60_3).f1).length c394_1] 69 (0,0)) (by (with_reducible repeat (first|refine qn ?_ _|refine qd ?_|refine qa ?_ _));exact BK395.out) hg (Kd.R_ne HO_15.out BK395.out d11));have n8_:=am (Kd.R_over' (v:=(.slice (some ⟨go66,0,none⟩) x15_5.length co68)) d52 (Kd.R_typed HO_15.out) d11 hg);have n9_:=am ((by rw [hw];exact pt (HB.out) GB66.out:Below w.heap.size w w70));clear HO_7;clear HO_8;clear HO_9;clear HO_12;clear HO_15;clear HO_79;clear BK372;clear BK395;clear HL405_0;clear HB;have HO_7:=n0_;have HO_8:=n1_;have HO_9:=n2_;have HO_12:=n3_;have HO_15:=n4_;have HO_79:=n5_;have BK372:=n6_;have BK395:=n7_;have HL405_0:=n8_;have HB:=n9_;clear n0_ n1_ n2_ n3_ n4_ n5_ n6_ n7_ n8_ n9_;clear hg hw hp_))
                             repeat (go_quiet (first|((with_reducible refine gate_store (t:=5) (p:=98) rfl ?_);(try (rw [drewN_self wr];generalize hq_:World.drewN wr _=wr;have n0_:=am (Kd.S_at hq_ HO_7.out);have n1_:=am (Kd.S_at hq_ HO_8.out);have n2_:=am (Kd.R_at hq_ HO_9.out);have n3_:=am (Kd.R_at hq_ HO_12.out);have n4_:=am (Kd.R_at hq_ HO_15.out);have n5_:=am (Kd.R_at hq_ HO_79.out);have n6_:=am (Kd.R_at hq_ HL405_0.out);have n7_:=am (blk_at hq_ BK372.out);have n8_:=am (blk_at hq_ BK395.out);have n9_:=am (below_at hq_ HB.out);clear hq_ HO_7 HO_8 HO_9 HO_12 HO_15 HO_79 HL405_0 BK372 BK395 HB;have HO_7:=n0_;have HO_8:=n1_;have HO_9:=n2_;have HO_12:=n3_;have HO_15:=n4_;have HO_79:=n5_;have HL405_0:=n6_;have BK372:=n7_;have BK395:=n8_;have HB:=n9_;clear n0_ n1_ n2_ n3_ n4_ n5_ n6_ n7_ n8_ n9_;(try (have HP69:=Kd.R_putg HO_15.out ((rd (rd_L5 t377 x81_5) x71_4):Int) (Go.bits .xor .u8 (rd x15_5 (rd (rd_L5 t377 x81_5) x71_4)) (rd x12_4 x81_5))))));refine store_event (t:=5) (p:=98) (v:=?vo_w70) (w1:=(wr.setCell ⟨go66,((rd (rd_L5 t377 x81_5) x71_4):Int).toNat,none⟩ (.int .u8 (Go.bits .xor .u8 (rd x15_5 (rd (rd_L5 t377 x81_5) x71_4)) (rd x12_4 x81_5))))) ?hg ?ho ?hn ?hr ?_;(case ho=>rfl);(case hg=>rfl);(case hn=>rfl);(case hr=>first|(go_simp;done)|(go_simp;rfl));intro w70 hw;have hg:wr.grownBy w70 (some go66):=(by rw [hw];exact HP69.2);have hp_:Kd.R (Kd.int .u8) 5 w70 w.heap.size (fun k_=>some k_ ≠ (u9:Value).ownBlock∧some k_ ≠ (.slice (some ad404) x12_4.length co57:Value).ownBlock∧some k_ ≠ (.slice (some ad404) x12_4.length co57:Value).ownBlock) (.slice (some ⟨go66,0,none⟩) x15_5.length co68) y408:=(by rw [hw,Ny408.out];exact HP69.1);clear HP69;have n0_:=am (Kd.S_over' (v:=(.slice (some ⟨go66,0,none⟩) x15_5.length co68)) d7 (Kd.R_typed HO_15.out) d11 hg);have n1_:=am (Kd.S_after (v:=(.slice (some ⟨go66,0,none⟩) x15_5.length co68)) (v1:=(.slice (some ⟨go66,0,none⟩) x15_5.length co68)) (ok:=(fun k_=>some k_ ≠ (u9:Value).ownBlock∧some k_ ≠ (.slice (some ad404) x12_4.length co57:Value).ownBlock∧some k_ ≠ (.slice (some ad404) x12_4.length co57:Value).ownBlock)) d37 hg (.inl rfl));have n2_:=am (Kd.R_after (v:=(.slice (some ⟨go66,0,none⟩) x15_5.length co68)) (v1:=(.slice (some ⟨go66,0,none⟩) x15_5.length co68)) (ok:=(fun k_=>some k_ ≠ (.slice (some ad404) x12_4.length co57:Value).ownBlock∧some k_ ≠ (.slice (some ad404) x12_4.length co57:Value).ownBlock)) d39 hg (.inl rfl));have n3_:=am (Kd.R_after (v:=(.slice (some ⟨go66,0,none⟩) x15_5.length co68)) (v1:=(.slice (some ⟨go66,0,none⟩) x15_5.length co68)) (ok:=(fun k_=>some k_ ≠ (u9:Value).ownBlock)) d9 hg (.inl rfl));have n4_:=am (hp_);have n5_:=am (Kd.R_after (v:=(.slice (some ⟨go66,0,none⟩) x15_5.length co68)) (v1:=(.slice (some ⟨go66,0,none⟩) x15_5.length co68)) (ok:=(fun k_=>some k_ ≠ (u9:Value).ownBlock)) d17 hg (.inl rfl));have n6_:=am (blk_grown (g:=gb372) (o:=.cells #[.int .i64 a0_0, .int .i64 a0_1] 72 (0,0)) (by (with_reducible repeat (first|refine qn ?_ _|refine qd ?_|refine qa ?_ _));exact BK372.out) hg (Kd.R_ne HO_15.out BK372.out d11));have n7_:=am (blk_grown (g:=gb395) (o:=.cells #[.int .i64 ((rd_T69 y386 x60_3).f0), .slice (some ad399) ((rd_T69 y386 x60_3).f1).length c394_1] 69 (0,0)) (by (with_reducible repeat (first|refine qn ?_ _|refine qd ?_|refine qa ?_ _));exact BK395.out) hg (Kd.R_ne HO_15.out BK395.out d11));have n8_:=am (Kd.R_over' (v:=(.slice (some ⟨go66,0,none⟩) x15_5.length co68)) d52 (Kd.R_typed HO_15.out) d11 hg);have n9_:=am ((by rw [hw];exact pt (HB.out) GB66.out:Below w.heap.size w w70));clear HO_7;clear HO_8;clear HO_9;clear HO_12;clear HO_15;clear HO_79;clear BK372;clear BK395;clear HL405_0;clear HB;have HO_7:=n0_;have HO_8:=n1_;have HO_9:=n2_;have HO_12:=n3_;have HO_15:=n4_;have HO_79:=n5_;have BK372:=n6_;have BK395:=n7_;have HL405_0:=n8_;have HB:=n9_;clear n0_ n1_ n2_ n3_ n4_ n5_ n6_ n7_ n8_ n9_;clear hg hw hp_));try go_wp2_with (first|((with_reducible refine gate_store (t:=5) (p:=98) rfl ?_);(try (rw [drewN_self wr];generalize hq_:World.drewN wr _=wr;have n0_:=am (Kd.S_at hq_ HO_7.out);have n1_:=am (Kd.S_at hq_ HO_8.out);have n2_:=am (Kd.R_at hq_ HO_9.out);have n3_:=am (Kd.R_at hq_ HO_12.out);have n4_:=am (Kd.R_at hq_ HO_15.out);have n5_:=am (Kd.R_at hq_ HO_79.out);have n6_:=am (Kd.R_at hq_ HL405_0.out);have n7_:=am (blk_at hq_ BK372.out);have n8_:=am (blk_at hq_ BK395.out);have n9_:=am (below_at hq_ HB.out);clear hq_ HO_7 HO_8 HO_9 HO_12 HO_15 HO_79 HL405_0 BK372 BK395 HB;have HO_7:=n0_;have HO_8:=n1_;have HO_9:=n2_;have HO_12:=n3_;have HO_15:=n4_;have HO_79:=n5_;have HL405_0:=n6_;have BK372:=n7_;have BK395:=n8_;have HB:=n9_;clear n0_ n1_ n2_ n3_ n4_ n5_ n6_ n7_ n8_ n9_;(try (have HP69:=Kd.R_putg HO_15.out ((rd (rd_L5 t377 x81_5) x71_4):Int) (Go.bits .xor .u8 (rd x15_5 (rd (rd_L5 t377 x81_5) x71_4)) (rd x12_4 x81_5))))));refine store_event (t:=5) (p:=98) (v:=?vo_w70) (w1:=(wr.setCell ⟨go66,((rd (rd_L5 t377 x81_5) x71_4):Int).toNat,none⟩ (.int .u8 (Go.bits .xor .u8 (rd x15_5 (rd (rd_L5 t377 x81_5) x71_4)) (rd x12_4 x81_5))))) ?hg ?ho ?hn ?hr ?_;(case ho=>rfl);(case hg=>rfl);(case hn=>rfl);(case hr=>first|(go_simp;done)|(go_simp;rfl));intro w70 hw;have hg:wr.grownBy w70 (some go66):=(by rw [hw];exact HP69.2);have hp_:Kd.R (Kd.int .u8) 5 w70 w.heap.size (fun k_=>some k_ ≠ (u9:Value).ownBlock∧some k_ ≠ (.slice (some ad404) x12_4.length co57:Value).ownBlock∧some k_ ≠ (.slice (some ad404) x12_4.length co57:Value).ownBlock) (.slice (some ⟨go66,0,none⟩) x15_5.length co68) y408:=(by rw [hw,Ny408.out];exact HP69.1);clear HP69;have n0_:=am (Kd.S_over' (v:=(.slice (some ⟨go66,0,none⟩) x15_5.length co68)) d7 (Kd.R_typed HO_15.out) d11 hg);have n1_:=am (Kd.S_after (v:=(.slice (some ⟨go66,0,none⟩) x15_5.length co68)) (v1:=(.slice (some ⟨go66,0,none⟩) x15_5.length co68)) (ok:=(fun k_=>some k_ ≠ (u9:Value).ownBlock∧some k_ ≠ (.slice (some ad404) x12_4.length co57:Value).ownBlock∧some k_ ≠ (.slice (some ad404) x12_4.length co57:Value).ownBlock)) d37 hg (.inl rfl));have n2_:=am (Kd.R_after (v:=(.slice (some ⟨go66,0,none⟩) x15_5.length co68)) (v1:=(.slice (some ⟨go66,0,none⟩) x15_5.length co68)) (ok:=(fun k_=>some k_ ≠ (.slice (some ad404) x12_4.length co57:Value).ownBlock∧some k_ ≠ (.slice (some ad404) x12_4.length co57:Value).ownBlock)) d39 hg (.inl rfl));have n3_:=am (Kd.R_after (v:=(.slice (some ⟨go66,0,none⟩) x15_5.length co68)) (v1:=(.slice (some ⟨go66,0,none⟩) x15_5.length co68)) (ok:=(fun k_=>some k_ ≠ (u9:Value).ownBlock)) d9 hg (.inl rfl));have n4_:=am (hp_);have n5_:=am (Kd.R_after (v:=(.slice (some ⟨go66,0,none⟩) x15_5.length co68)) (v1:=(.slice (some ⟨go66,0,none⟩) x15_5.length co68)) (ok:=(fun k_=>some k_ ≠ (u9:Value).ownBlock)) d17 hg (.inl rfl));have n6_:=am (blk_grown (g:=gb372) (o:=.cells #[.int .i64 a0_0, .int .i64 a0_1] 72 (0,0)) (by (with_reducible repeat (first|refine qn ?_ _|refine qd ?_|refine qa ?_ _));exact BK372.out) hg (Kd.R_ne HO_15.out BK372.out d11));have n7_:=am (blk_grown (g:=gb395) (o:=.cells #[.int .i64 ((rd_T69 y386 x60_3).f0), .slice (some ad399) ((rd_T69 y386 x60_3).f1).length c394_1] 69 (0,0)) (by (with_reducible repeat (first|refine qn ?_ _|refine qd ?_|refine qa ?_ _));exact BK395.out) hg (Kd.R_ne HO_15.out BK395.out d11));have n8_:=am (Kd.R_over' (v:=(.slice (some ⟨go66,0,none⟩) x15_5.length co68)) d52 (Kd.R_typed HO_15.out) d11 hg);have n9_:=am ((by rw [hw];exact pt (HB.out) GB66.out:Below w.heap.size w w70));clear HO_7;clear HO_8;clear HO_9;clear HO_12;clear HO_15;clear HO_79;clear BK372;clear BK395;clear HL405_0;clear HB;have HO_7:=n0_;have HO_8:=n1_;have HO_9:=n2_;have HO_12:=n3_;have HO_15:=n4_;have HO_79:=n5_;have BK372:=n6_;have BK395:=n7_;have HL405_0:=n8_;have HB:=n9_;clear n0_ n1_ n2_ n3_ n4_ n5_ n6_ n7_ n8_ n9_;clear hg hw hp_)))
                             go_roundg k5
                             case measure=>have:=HJ2.out;have:=HK2.out;have:=HK3.out;have:=HK4.out;have:=HK5.out;omega
                             case rel=>exact ⟨(y408),(wrap64 (x81_5+1)),d2,H',⟨by have:=HJ2.out;have:=HK2.out;have:=HK3.out;have:=HK4.out;have:=HK5.out;omega⟩,⟨d7⟩,⟨by (with_reducible repeat (first|apply Kd.S_alloc|apply Kd.S_drewN|apply Kd.S_drew));exact Kd.S_mono HO_8.out (fun _ hk=>⟨hk.1.1,⟨hk.1.2.1,⟨hk.2,hk.1.2.2⟩⟩⟩)⟩,⟨by (with_reducible repeat (first|apply Kd.R_alloc|apply Kd.R_drewN|apply Kd.R_drew));exact Kd.R_mono HO_9.out (fun _ hk=>⟨hk.1.1,⟨hk.2,hk.1.2⟩⟩)⟩,⟨d9⟩,⟨by (with_reducible repeat (first|apply Kd.R_alloc|apply Kd.R_drewN|apply Kd.R_drew));exact HO_15.out⟩,⟨d17⟩,⟨by (with_reducible repeat (first|refine qn ?_ _|refine qd ?_|refine qa ?_ _));exact BK372.out⟩,⟨by (with_reducible repeat (first|refine qn ?_ _|refine qd ?_|refine qa ?_ _));exact BK395.out⟩,⟨by repeat (first|(with_reducible first|exact HB.out|apply pa|apply pb|apply pd|refine pt ?_ GE372.out|refine pt ?_ GE395.out)|exact HB.out)⟩⟩
                            rw [if_neg c65] at H
                            exact absurd H d20
                           rw [if_neg c64] at H
                           exact absurd H d20
                          rw [if_neg c63] at H
                          exact absurd H d20
                         rw [if_neg c62] at H
                         exact absurd H d20
                        rw [if_neg c61] at H
                        exact absurd H d20
                       rw [if_neg c60] at H
                       exact absurd H d20
                      rw [if_neg c59] at H
                      exact absurd H d20
                     rw [if_neg c58] at H
                     have c58b0:decide (x81_5 < (x12_4.length:Int))=false:=decide_eq_false c58
                     clear c58
                     by_cases c71:x8_4.length < 5864062014805
                     ·rw [if_pos c71] at H
                      have LMc71:=am c71
                      clear c71
                      obtain ⟨y409,hy409⟩:∃ y_:List (List Int),y_=(x8_4 ++ [x15_5]):=⟨_,rfl⟩
                      replace H:(if x9_4.length < 140737488355328 then (impl_DecodeMsr.l2 k5 t377 y409 (x9_4 ++ [(rd ((rd_T69 y386 x60_3).f1) x71_4)]) x12_4 y386 (y386.length:Int) x60_3 ((rd_T69 y386 x60_3).f1) (((rd_T69 y386 x60_3).f1).length:Int) (wrap64 (x71_4+1)) a0_0 a0_1) else (none))=some (r1,r2):=by first|(rw [hy409];with_reducible exact H)|(have H2_:=(Option.bind_some _ _).symm.trans H;rw [hy409];with_reducible exact H2_)|(have H2_:=(Option.bind_some _ _).symm.trans H;with_reducible exact H2_)|with_reducible exact H|(rw [hy409];exact H)|exact H
                      have Ny409:=am hy409
                      clear hy409
                      by_cases c72:x9_4.length < 140737488355328
                      ·rw [if_pos c72] at H
                       have LMc72:=am c72
                       clear c72
                       obtain ⟨y412,hy412⟩:∃ y_:List Int,y_=(x9_4 ++ [(rd ((rd_T69 y386 x60_3).f1) x71_4)]):=⟨_,rfl⟩
                       replace H:(impl_DecodeMsr.l2 k5 t377 y409 y412 x12_4 y386 (y386.length:Int) x60_3 ((rd_T69 y386 x60_3).f1) (((rd_T69 y386 x60_3).f1).length:Int) (wrap64 (x71_4+1)) a0_0 a0_1)=some (r1,r2):=by first|(rw [hy412];with_reducible exact H)|(have H2_:=(Option.bind_some _ _).symm.trans H;rw [hy412];with_reducible exact H2_)|(have H2_:=(Option.bind_some _ _).symm.trans H;with_reducible exact H2_)|with_reducible exact H|(rw [hy412];exact H)|exact H
                       have Ny412:=am hy412
                       clear hy412
                       have H':=am H
                       clear H
                       obtain ⟨Ao74,co74,eo74⟩:=Kd.R_slice HO_15.out
                       subst eo74
                       go_wp2_with (first|((with_reducible refine gate_builtin (b:=.append) (xs:=#[.tmp 100, .tmp 102]) rfl ?_);(try (refine gate_guard d18 ?_;dsimp only));at_builtin;refine Kd.S_append (Kd.slice 5 (Kd.int .u8)) (w0:=w) w.heap.size rfl (.tmp 100) (.tmp 102) 37 57 (.slice none 0 0) 24 rfl Try.underlying37 info57 rfl d11 d10 u8 x8_4 x15_5 [.slice Ao74 x15_5.length co74] (fun k_=>some k_ ≠ (u9:Value).ownBlock∧some k_ ≠ (.slice Ao57 x12_4.length co57:Value).ownBlock∧some k_ ≠ (.slice Ao57 x12_4.length co57:Value).ownBlock) (fun k_=>some k_=(.slice Ao74 x15_5.length co74:Value).ownBlock) rfl rfl ?aP (fun k_ hk_=>((Kd.R_mono (ok':=fun k_=>((fun k_=>some k_ ≠ (u9:Value).ownBlock∧some k_ ≠ (.slice Ao57 x12_4.length co57:Value).ownBlock∧some k_ ≠ (.slice Ao57 x12_4.length co57:Value).ownBlock)) k_∧some k_ ≠ (u8:Value).ownBlock) (Kd.R_apart' (HO_15.out) (Kd.S_typed HO_8.out) d11) (fun k_ hk=>⟨⟨hk.1.1,⟨hk.1.2.1,hk.1.2.2⟩⟩,hk.2⟩))).1 k_ hk_.symm) ?aF ?aO ?aB ?aS ?aL ?_;(case aP=>exact Kd.M_row (Kd.R_mono (Kd.R_tight rfl (Kd.R_mono (ok':=fun k_=>((fun k_=>some k_ ≠ (u9:Value).ownBlock∧some k_ ≠ (.slice Ao57 x12_4.length co57:Value).ownBlock∧some k_ ≠ (.slice Ao57 x12_4.length co57:Value).ownBlock)) k_∧some k_ ≠ (u8:Value).ownBlock) (Kd.R_apart' (HO_15.out) (Kd.S_typed HO_8.out) d11) (fun k_ hk=>⟨⟨hk.1.1,⟨hk.1.2.1,hk.1.2.2⟩⟩,hk.2⟩))) (fun _ h_=>h_)));(case aB=>exact (by repeat (first|(with_reducible first|exact HB.out|apply pa|apply pb|apply pd|refine pt ?_ GE372.out|refine pt ?_ GE395.out)|exact HB.out)));(case aF=>exact (fun k_ hk=>⟨Kd.fresh' (Kd.R_lt d6) k_ hk,Kd.fresh' (Kd.R_lt d9) k_ hk,Kd.fresh' (Kd.R_lt d17) k_ hk⟩));(case aO=>exact d34);(case aS=>exact (pz (by repeat (first|(with_reducible first|exact HB.out|apply pa|apply pb|apply pd|refine pt ?_ GE372.out|refine pt ?_ GE395.out)|exact HB.out))));(case aL=>have:=LMc71.out;omega);intro v410 w73 ho hb hg hat;rw [← Ny409.out] at ho;have n0_:=am (Kd.S_over' d7 (Kd.S_typed d8) d11 hg);have n1_:=am (Kd.R_over' d6 (Kd.S_typed d8) d11 hg);have n2_:=am (Kd.R_over' d9 (Kd.S_typed d8) d11 hg);have n3_:=am (Kd.R_over' d17 (Kd.S_typed d8) d11 hg);have n4_:=am (blk_grown (g:=gb372) (o:=.cells #[.int .i64 a0_0, .int .i64 a0_1] 72 (0,0)) (by (with_reducible repeat (first|refine qn ?_ _|refine qd ?_|refine qa ?_ _));exact BK372.out) hg (Kd.S_ne HO_8.out BK372.out d11));have n5_:=am (blk_grown (g:=gb395) (o:=.cells #[.int .i64 ((rd_T69 y386 x60_3).f0), .slice (some ad399) ((rd_T69 y386 x60_3).f1).length c394_1] 69 (0,0)) (by (with_reducible repeat (first|refine qn ?_ _|refine qd ?_|refine qa ?_ _));exact BK395.out) hg (Kd.S_ne HO_8.out BK395.out d11));have n6_:=am (hb);have n7_:=am (ho);clear HO_7;clear HO_9;clear HO_12;clear HO_79;clear BK372;clear BK395;clear HB;clear HO_8;clear HO_15;have HO_7:=n0_;have HO_9:=n1_;have HO_12:=n2_;have HO_79:=n3_;have BK372:=n4_;have BK395:=n5_;have HB:=n6_;have HO411:=n7_;clear n0_ n1_ n2_ n3_ n4_ n5_ n6_ n7_;clear ho hb hg hat)|((with_reducible refine gate_builtin (b:=.append) (xs:=#[.tmp 104, .tmp 106]) rfl ?_);(try (refine gate_guard d18 ?_;dsimp only));at_builtin;refine Kd.R_append (Kd.int .u8) (w0:=w) w.heap.size rfl (.tmp 104) (.tmp 106) 57 5 (.int .u8 0) 1 rfl Try.underlying57 info5 rfl d11 d10 u9 x9_4 (rd ((rd_T69 y386 x60_3).f1) x71_4) [.int .u8 (rd ((rd_T69 y386 x60_3).f1) x71_4)] (fun k_=>some k_ ≠ (.slice Ao57 x12_4.length co57:Value).ownBlock∧some k_ ≠ (.slice Ao57 x12_4.length co57:Value).ownBlock) (fun _=>False) rfl rfl ?aP (fun _ hk=>hk.elim) ?aF ?aO ?aB ?aS ?aL ?_;(case aP=>exact rfl);(case aB=>exact (by repeat (first|(with_reducible first|exact HB.out|apply pa|apply pb|apply pd|refine pt ?_ GE372.out|refine pt ?_ GE395.out)|exact HB.out)));(case aF=>exact (fun k_ hk=>⟨Kd.fresh' (Kd.R_lt d9) k_ hk,Kd.fresh' (Kd.R_lt d17) k_ hk⟩));(case aO=>exact d45);(case aS=>exact (pz (by repeat (first|(with_reducible first|exact HB.out|apply pa|apply pb|apply pd|refine pt ?_ GE372.out|refine pt ?_ GE395.out)|exact HB.out))));(case aL=>have:=LMc72.out;omega);intro v413 w75 ho hb hg hat;rw [← Ny412.out] at ho;have n0_:=am (Kd.S_over' d7 (Kd.R_typed d6) d11 hg);have n1_:=am (Kd.R_after (ok:=(fun _=>True)) d44 hg hat);have n2_:=am (Kd.R_after (ok:=(fun _=>True)) d43 hg hat);have n3_:=am (blk_grown (g:=gb372) (o:=.cells #[.int .i64 a0_0, .int .i64 a0_1] 72 (0,0)) (by (with_reducible repeat (first|refine qn ?_ _|refine qd ?_|refine qa ?_ _));exact BK372.out) hg (Kd.R_ne HO_9.out BK372.out d11));have n4_:=am (blk_grown (g:=gb395) (o:=.cells #[.int .i64 ((rd_T69 y386 x60_3).f0), .slice (some ad399) ((rd_T69 y386 x60_3).f1).length c394_1] 69 (0,0)) (by (with_reducible repeat (first|refine qn ?_ _|refine qd ?_|refine qa ?_ _));exact BK395.out) hg (Kd.R_ne HO_9.out BK395.out d11));have n5_:=am (Kd.S_after (ok:=(fun k_=>some k_ ≠ (.slice Ao57 x12_4.length co57:Value).ownBlock∧some k_ ≠ (.slice Ao57 x12_4.length co57:Value).ownBlock)) d38 hg hat);have n6_:=am (hb);have n7_:=am (ho);clear HO_7;clear HO_12;clear HO_79;clear BK372;clear BK395;clear HO411;clear HB;clear HO_9;have HO_7:=n0_;have HO_12:=n1_;have HO_79:=n2_;have BK372:=n3_;have BK395:=n4_;have HO411:=n5_;have HB:=n6_;have HO414:=n7_;clear n0_ n1_ n2_ n3_ n4_ n5_ n6_ n7_;clear ho hb hg hat))
                       repeat (go_quiet (first|((with_reducible refine gate_builtin (b:=.append) (xs:=#[.tmp 100, .tmp 102]) rfl ?_);(try (refine gate_guard d18 ?_;dsimp only));at_builtin;refine Kd.S_append (Kd.slice 5 (Kd.int .u8)) (w0:=w) w.heap.size rfl (.tmp 100) (.tmp 102) 37 57 (.slice none 0 0) 24 rfl Try.underlying37 info57 rfl d11 d10 u8 x8_4 x15_5 [.slice Ao74 x15_5.length co74] (fun k_=>some k_ ≠ (u9:Value).ownBlock∧some k_ ≠ (.slice Ao57 x12_4.length co57:Value).ownBlock∧some k_ ≠ (.slice Ao57 x12_4.length co57:Value).ownBlock) (fun k_=>some k_=(.slice Ao74 x15_5.length co74:Value).ownBlock) rfl rfl ?aP (fun k_ hk_=>((Kd.R_mono (ok':=fun k_=>((fun k_=>some k_ ≠ (u9:Value).ownBlock∧some k_ ≠ (.slice Ao57 x12_4.length co57:Value).ownBlock∧some k_ ≠ (.slice Ao57 x12_4.length co57:Value).ownBlock)) k_∧some k_ ≠ (u8:Value).ownBlock) (Kd.R_apart' (HO_15.out) (Kd.S_typed HO_8.out) d11) (fun k_ hk=>⟨⟨hk.1.1,⟨hk.1.2.1,hk.1.2.2⟩⟩,hk.2⟩))).1 k_ hk_.symm) ?aF ?aO ?aB ?aS ?aL ?_;(case aP=>exact Kd.M_row (Kd.R_mono (Kd.R_tight rfl (Kd.R_mono (ok':=fun k_=>((fun k_=>some k_ ≠ (u9:Value).ownBlock∧some k_ ≠ (.slice Ao57 x12_4.length co57:Value).ownBlock∧some k_ ≠ (.slice Ao57 x12_4.length co57:Value).ownBlock)) k_∧some k_ ≠ (u8:Value).ownBlock) (Kd.R_apart' (HO_15.out) (Kd.S_typed HO_8.out) d11) (fun k_ hk=>⟨⟨hk.1.1,⟨hk.1.2.1,hk.1.2.2⟩⟩,hk.2⟩))) (fun _ h_=>h_)));(case aB=>exact (by repeat (first|(with_reducible first|exact HB.out|apply pa|apply pb|apply pd|refine pt ?_ GE372.out|refine pt ?_ GE395.out)|exact HB.out)));(case aF=>exact (fun k_ hk=>⟨Kd.fresh' (Kd.R_lt d6) k_ hk,Kd.fresh' (Kd.R_lt d9) k_ hk,Kd.fresh' (Kd.R_lt d17) k_ hk⟩));(case aO=>exact d34);(case aS=>exact (pz (by repeat (first|(with_reducible first|exact HB.out|apply pa|apply pb|apply pd|refine pt ?_ GE372.out|refine pt ?_ GE395.out)|exact HB.out))));(case aL=>have:=LMc71.out;omega);intro v410 w73 ho hb hg hat;rw [← Ny409.out] at ho;have n0_:=am (Kd.S_over' d7 (Kd.S_typed d8) d11 hg);have n1_:=am (Kd.R_over' d6 (Kd.S_typed d8) d11 hg);have n2_:=am (Kd.R_over' d9 (Kd.S_typed d8) d11 hg);have n3_:=am (Kd.R_over' d17 (Kd.S_typed d8) d11 hg);have n4_:=am (blk_grown (g:=gb372) (o:=.cells #[.int .i64 a0_0, .int .i64 a0_1] 72 (0,0)) (by (with_reducible repeat (first|refine qn ?_ _|refine qd ?_|refine qa ?_ _));exact BK372.out) hg (Kd.S_ne HO_8.out BK372.out d11));have n5_:=am (blk_grown (g:=gb395) (o:=.cells #[.int .i64 ((rd_T69 y386 x60_3).f0), .slice (some ad399) ((rd_T69 y386 x60_3).f1).length c394_1] 69 (0,0)) (by (with_reducible repeat (first|refine qn ?_ _|refine qd ?_|refine qa ?_ _));exact BK395.out) hg (Kd.S_ne HO_8.out BK395.out d11));have n6_:=am (hb);have n7_:=am (ho);clear HO_7;clear HO_9;clear HO_12;clear HO_79;clear BK372;clear BK395;clear HB;clear HO_8;clear HO_15;have HO_7:=n0_;have HO_9:=n1_;have HO_12:=n2_;have HO_79:=n3_;have BK372:=n4_;have BK395:=n5_;have HB:=n6_;have HO411:=n7_;clear n0_ n1_ n2_ n3_ n4_ n5_ n6_ n7_;clear ho hb hg hat)|((with_reducible refine gate_builtin (b:=.append) (xs:=#[.tmp 104, .tmp 106]) rfl ?_);(try (refine gate_guard d18 ?_;dsimp only));at_builtin;refine Kd.R_append (Kd.int .u8) (w0:=w) w.heap.size rfl (.tmp 104) (.tmp 106) 57 5 (.int .u8 0) 1 rfl Try.underlying57 info5 rfl d11 d10 u9 x9_4 (rd ((rd_T69 y386 x60_3).f1) x71_4) [.int .u8 (rd ((rd_T69 y386 x60_3).f1) x71_4)] (fun k_=>some k_ ≠ (.slice Ao57 x12_4.length co57:Value).ownBlock∧some k_ ≠ (.slice Ao57 x12_4.length co57:Value).ownBlock) (fun _=>False) rfl rfl ?aP (fun _ hk=>hk.elim) ?aF ?aO ?aB ?aS ?aL ?_;(case aP=>exact rfl);(case aB=>exact (by repeat (first|(with_reducible first|exact HB.out|apply pa|apply pb|apply pd|refine pt ?_ GE372.out|refine pt ?_ GE395.out)|exact HB.out)));(case aF=>exact (fun k_ hk=>⟨Kd.fresh' (Kd.R_lt d9) k_ hk,Kd.fresh' (Kd.R_lt d17) k_ hk⟩));(case aO=>exact d45);(case aS=>exact (pz (by repeat (first|(with_reducible first|exact HB.out|apply pa|apply pb|apply pd|refine pt ?_ GE372.out|refine pt ?_ GE395.out)|exact HB.out))));(case aL=>have:=LMc72.out;omega);intro v413 w75 ho hb hg hat;rw [← Ny412.out] at ho;have n0_:=am (Kd.S_over' d7 (Kd.R_typed d6) d11 hg);have n1_:=am (Kd.R_after (ok:=(fun _=>True)) d44 hg hat);have n2_:=am (Kd.R_after (ok:=(fun _=>True)) d43 hg hat);have n3_:=am (blk_grown (g:=gb372) (o:=.cells #[.int .i64 a0_0, .int .i64 a0_1] 72 (0,0)) (by (with_reducible repeat (first|refine qn ?_ _|refine qd ?_|refine qa ?_ _));exact BK372.out) hg (Kd.R_ne HO_9.out BK372.out d11));have n4_:=am (blk_grown (g:=gb395) (o:=.cells #[.int .i64 ((rd_T69 y386 x60_3).f0), .slice (some ad399) ((rd_T69 y386 x60_3).f1).length c394_1] 69 (0,0)) (by (with_reducible repeat (first|refine qn ?_ _|refine qd ?_|refine qa ?_ _));exact BK395.out) hg (Kd.R_ne HO_9.out BK395.out d11));have n5_:=am (Kd.S_after (ok:=(fun k_=>some k_ ≠ (.slice Ao57 x12_4.length co57:Value).ownBlock∧some k_ ≠ (.slice Ao57 x12_4.length co57:Value).ownBlock)) d38 hg hat);have n6_:=am (hb);have n7_:=am (ho);clear HO_7;clear HO_12;clear HO_79;clear BK372;clear BK395;clear HO411;clear HB;clear HO_9;have HO_7:=n0_;have HO_12:=n1_;have HO_79:=n2_;have BK372:=n3_;have BK395:=n4_;have HO411:=n5_;have HB:=n6_;have HO414:=n7_;clear n0_ n1_ n2_ n3_ n4_ n5_ n6_ n7_;clear ho hb hg hat));try go_wp2_with (first|((with_reducible refine gate_builtin (b:=.append) (xs:=#[.tmp 100, .tmp 102]) rfl ?_);(try (refine gate_guard d18 ?_;dsimp only));at_builtin;refine Kd.S_append (Kd.slice 5 (Kd.int .u8)) (w0:=w) w.heap.size rfl (.tmp 100) (.tmp 102) 37 57 (.slice none 0 0) 24 rfl Try.underlying37 info57 rfl d11 d10 u8 x8_4 x15_5 [.slice Ao74 x15_5.length co74] (fun k_=>some k_ ≠ (u9:Value).ownBlock∧some k_ ≠ (.slice Ao57 x12_4.length co57:Value).ownBlock∧some k_ ≠ (.slice Ao57 x12_4.length co57:Value).ownBlock) (fun k_=>some k_=(.slice Ao74 x15_5.length co74:Value).ownBlock) rfl rfl ?aP (fun k_ hk_=>((Kd.R_mono (ok':=fun k_=>((fun k_=>some k_ ≠ (u9:Value).ownBlock∧some k_ ≠ (.slice Ao57 x12_4.length co57:Value).ownBlock∧some k_ ≠ (.slice Ao57 x12_4.length co57:Value).ownBlock)) k_∧some k_ ≠ (u8:Value).ownBlock) (Kd.R_apart' (HO_15.out) (Kd.S_typed HO_8.out) d11) (fun k_ hk=>⟨⟨hk.1.1,⟨hk.1.2.1,hk.1.2.2⟩⟩,hk.2⟩))).1 k_ hk_.symm) ?aF ?aO ?aB ?aS ?aL ?_;(case aP=>exact Kd.M_row (Kd.R_mono (Kd.R_tight rfl (Kd.R_mono (ok':=fun k_=>((fun k_=>some k_ ≠ (u9:Value).ownBlock∧some k_ ≠ (.slice Ao57 x12_4.length co57:Value).ownBlock∧some k_ ≠ (.slice Ao57 x12_4.length co57:Value).ownBlock)) k_∧some k_ ≠ (u8:Value).ownBlock) (Kd.R_apart' (HO_15.out) (Kd.S_typed HO_8.out) d11) (fun k_ hk=>⟨⟨hk.1.1,⟨hk.1.2.1,hk.1.2.2⟩⟩,hk.2⟩))) (fun _ h_=>h_)));(case aB=>exact (by repeat (first|(with_reducible first|exact HB.out|apply pa|apply pb|apply pd|refine pt ?_ GE372.out|refine pt ?_ GE395.out)|exact HB.out)));(case aF=>exact (fun k_ hk=>⟨Kd.fresh' (Kd.R_lt d6) k_ hk,Kd.fresh' (Kd.R_lt d9) k_ hk,Kd.fresh' (Kd.R_lt d17) k_ hk⟩));(case aO=>exact d34);(case aS=>exact (pz (by repeat (first|(with_reducible first|exact HB.out|apply pa|apply pb|apply pd|refine pt ?_ GE372.out|refine pt ?_ GE395.out)|exact HB.out))));(case aL=>have:=LMc71.out;omega);intro v410 w73 ho hb hg hat;rw [← Ny409.out] at ho;have n0_:=am (Kd.S_over' d7 (Kd.S_typed d8) d11 hg);have n1_:=am (Kd.R_over' d6 (Kd.S_typed d8) d11 hg);have n2_:=am (Kd.R_over' d9 (Kd.S_typed d8) d11 hg);have n3_:=am (Kd.R_over' d17 (Kd.S_typed d8) d11 hg);have n4_:=am (blk_grown (g:=gb372) (o:=.cells #[.int .i64 a0_0, .int .i64 a0_1] 72 (0,0)) (by (with_reducible repeat (first|refine qn ?_ _|refine qd ?_|refine qa ?_ _));exact BK372.out) hg (Kd.S_ne HO_8.out BK372.out d11));have n5_:=am (blk_grown (g:=gb395) (o:=.cells #[.int .i64 ((rd_T69 y386 x60_3).f0), .slice (some ad399) ((rd_T69 y386 x60_3).f1).length c394_1] 69 (0,0)) (by (with_reducible repeat (first|refine qn ?_ _|refine qd ?_|refine qa ?_ _));exact BK395.out) hg (Kd.S_ne HO_8.out BK395.out d11));have n6_:=am (hb);have n7_:=am (ho);clear HO_7;clear HO_9;clear HO_12;clear HO_79;clear BK372;clear BK395;clear HB;clear HO_8;clear HO_15;have HO_7:=n0_;have HO_9:=n1_;have HO_12:=n2_;have HO_79:=n3_;have BK372:=n4_;have BK395:=n5_;have HB:=n6_;have HO411:=n7_;clear n0_ n1_ n2_ n3_ n4_ n5_ n6_ n7_;clear ho hb hg hat)|((with_reducible refine gate_builtin (b:=.append) (xs:=#[.tmp 104, .tmp 106]) rfl ?_);(try (refine gate_guard d18 ?_;dsimp only));at_builtin;refine Kd.R_append (Kd.int .u8) (w0:=w) w.heap.size rfl (.tmp 104) (.tmp 106) 57 5 (.int .u8 0) 1 rfl Try.underlying57 info5 rfl d11 d10 u9 x9_4 (rd ((rd_T69 y386 x60_3).f1) x71_4) [.int .u8 (rd ((rd_T69 y386 x60_3).f1) x71_4)] (fun k_=>some k_ ≠ (.slice Ao57 x12_4.length co57:Value).ownBlock∧some k_ ≠ (.slice Ao57 x12_4.length co57:Value).ownBlock) (fun _=>False) rfl rfl ?aP (fun _ hk=>hk.elim) ?aF ?aO ?aB ?aS ?aL ?_;(case aP=>exact rfl);(case aB=>exact (by repeat (first|(with_reducible first|exact HB.out|apply pa|apply pb|apply pd|refine pt ?_ GE372.out|refine pt ?_ GE395.out)|exact HB.out)));(case aF=>exact (fun k_ hk=>⟨Kd.fresh' (Kd.R_lt d9) k_ hk,Kd.fresh' (Kd.R_lt d17) k_ hk⟩));(case aO=>exact d45);(case aS=>exact (pz (by repeat (first|(with_reducible first|exact HB.out|apply pa|apply pb|apply pd|refine pt ?_ GE372.out|refine pt ?_ GE395.out)|exact HB.out))));(case aL=>have:=LMc72.out;omega);intro v413 w75 ho hb hg hat;rw [← Ny412.out] at ho;have n0_:=am (Kd.S_over' d7 (Kd.R_typed d6) d11 hg);have n1_:=am (Kd.R_after (ok:=(fun _=>True)) d44 hg hat);have n2_:=am (Kd.R_after (ok:=(fun _=>True)) d43 hg hat);have n3_:=am (blk_grown (g:=gb372) (o:=.cells #[.int .i64 a0_0, .int .i64 a0_1] 72 (0,0)) (by (with_reducible repeat (first|refine qn ?_ _|refine qd ?_|refine qa ?_ _));exact BK372.out) hg (Kd.R_ne HO_9.out BK372.out d11));have n4_:=am (blk_grown (g:=gb395) (o:=.cells #[.int .i64 ((rd_T69 y386 x60_3).f0), .slice (some ad399) ((rd_T69 y386 x60_3).f1).length c394_1] 69 (0,0)) (by (with_reducible repeat (first|refine qn ?_ _|refine qd ?_|refine qa ?_ _));exact BK395.out) hg (Kd.R_ne HO_9.out BK395.out d11));have n5_:=am (Kd.S_after (ok:=(fun k_=>some k_ ≠ (.slice Ao57 x12_4.length co57:Value).ownBlock∧some k_ ≠ (.slice Ao57 x12_4.length co57:Value).ownBlock)) d38 hg hat);have n6_:=am (hb);have n7_:=am (ho);clear HO_7;clear HO_12;clear HO_79;clear BK372;clear BK395;clear HO411;clear HB;clear HO_9;have HO_7:=n0_;have HO_12:=n1_;have HO_79:=n2_;have BK372:=n3_;have BK395:=n4_;have HO411:=n5_;have HB:=n6_;have HO414:=n7_;clear n0_ n1_ n2_ n3_ n4_ n5_ n6_ n7_;clear ho hb hg hat)))
                       go_roundg k5
                       case measure=>have:=HJ2.out;have:=HK2.out;have:=HK3.out;have:=HK4.out;have:=HK5.out;omega
                       case rel=>exact ⟨(y409),(y412),(x12_4),(wrap64 (x71_4+1)),d2,H',⟨by have:=HJ2.out;have:=HK2.out;have:=HK3.out;have:=HK4.out;have:=HK5.out;omega⟩,⟨d7⟩,⟨by (with_reducible repeat (first|apply Kd.S_alloc|apply Kd.S_drewN|apply Kd.S_drew));exact Kd.S_mono HO411.out (fun _ hk=>⟨hk.2,hk.1.1⟩)⟩,⟨by (with_reducible repeat (first|apply Kd.R_alloc|apply Kd.R_drewN|apply Kd.R_drew));exact Kd.R_mono HO414.out (fun _ hk=>hk.1)⟩,⟨by (with_reducible repeat (first|apply Kd.R_alloc|apply Kd.R_drewN|apply Kd.R_drew));exact Kd.R_mono HO_12.out (fun _ hk=>hk.2)⟩,⟨by (with_reducible repeat (first|refine qn ?_ _|refine qd ?_|refine qa ?_ _));exact BK372.out⟩,⟨by (with_reducible repeat (first|refine qn ?_ _|refine qd ?_|refine qa ?_ _));exact BK395.out⟩,⟨by repeat (first|(with_reducible first|exact HB.out|apply pa|apply pb|apply pd|refine pt ?_ GE372.out|refine pt ?_ GE395.out)|exact HB.out)⟩⟩
                      rw [if_neg c72] at H
                      exact absurd H d20
                     rw [if_neg c71] at H
                     exact absurd H d20
                  rw [if_neg c51] at H
                  exact absurd H d20
                 rw [if_neg c50] at H
                 exact absurd H d20
                rw [if_neg c48] at H
                exact absurd H d20
               rw [if_neg c47] at H
               exact absurd H d20
              rw [if_neg c46] at H
              have c46b0:decide (x71_4 < (((rd_T69 y386 x60_3).f1).length:Int))=false:=decide_eq_false c46
              clear c46
              have H':=am H
              clear H
              go_wp2
              repeat (go_quiet (fail);try go_wp2)
              go_roundg k4
              case measure=>have:=HJ2.out;have:=HK2.out;have:=HK3.out;have:=HK4.out;omega
              case rel=>exact ⟨(x8_4),(x9_4),(wrap64 (x60_3+1)),d2,H',⟨by have:=HJ2.out;have:=HK2.out;have:=HK3.out;have:=HK4.out;omega⟩,⟨d7⟩,⟨by (with_reducible repeat (first|apply Kd.S_alloc|apply Kd.S_drewN|apply Kd.S_drew));exact Kd.S_mono HO_8.out (fun _ hk=>hk.1)⟩,⟨by (with_reducible repeat (first|apply Kd.R_alloc|apply Kd.R_drewN|apply Kd.R_drew));exact Kd.R_mono HO_9.out (fun _ hk=>trivial)⟩,⟨by (with_reducible repeat (first|refine qn ?_ _|refine qd ?_|refine qa ?_ _));exact BK372.out⟩,⟨by repeat (first|(with_reducible first|exact HB.out|apply pa|apply pb|apply pd|refine pt ?_ GE372.out|refine pt ?_ GE395.out)|exact HB.out)⟩⟩
           rw [if_neg c38] at H
           exact absurd H d20
          rw [if_neg c37] at H
          exact absurd H d20
         rw [if_neg c36] at H
         have c36b0:decide (x60_3 < (y386.length:Int))=false:=decide_eq_false c36
         clear c36
         replace H:=Option.bind_eq_some_iff.mp H
         obtain ⟨⟨t390,t391⟩,A760,H⟩:=H
         replace H:(some (t390,t391))=some (r1,r2):=H
         have A76:=am A760
         clear A760
         simp only [Option.some.injEq,Prod.mk.injEq] at H
         obtain ⟨rfl,rfl⟩:=H
         obtain ⟨Ao77,co77,eo77⟩:=Kd.S_slice HO_8.out
         subst eo77
         obtain ⟨Ao78,co78,eo78⟩:=Kd.R_slice HO_9.out
         subst eo78
         go_wp2_with (first|(go_at_call 119;(with_reducible refine (impl_solve.calls k3 _ _ x8_3 _ _ x9_3 t390 t391 _ ?side1 ?side2 ?side3 ?side4 A76.out).mono ?_);(case side1=>repeat (first|exact (Kd.S_reads' HO_8.out).2.2|(with_reducible refine Kd.C_alloc ?_ _)|(with_reducible refine Kd.C_drewN ?_ _)|(with_reducible refine Kd.C_drew ?_)));(case side2=>exact (Kd.S_reads' HO_8.out).2.1);(case side3=>repeat (first|exact (Kd.R_reads' HO_9.out).2.2|(with_reducible refine Kd.C_alloc ?_ _)|(with_reducible refine Kd.C_drewN ?_ _)|(with_reducible refine Kd.C_drew ?_)));(case side4=>exact (Kd.R_reads' HO_9.out).2.1);rintro e w79 ⟨v392,rfl,ho0,hb⟩;have n0_:=am (Kd.S_below d7 hb);have n1_:=am (Kd.S_elder' d8 (Kd.R_base ho0) hb);have n2_:=am (Kd.R_elder' d6 (Kd.R_base ho0) hb);have n3_:=am (Kd.R_lower (Kd.R_new' ho0 (Kd.R_lt d6)) (pz (by repeat (first|(with_reducible first|exact HB.out|apply pa|apply pb|apply pd|refine pt ?_ GE372.out)|exact HB.out))));have n4_:=am (qb (g:=gb372) (o:=.cells #[.int .i64 a0_0, .int .i64 a0_1] 72 (0,0)) (by (with_reducible repeat (first|refine qn ?_ _|refine qd ?_|refine qa ?_ _));exact BK372.out) hb);have n5_:=am (pu (by repeat (first|(with_reducible first|exact HB.out|apply pa|apply pb|apply pd|refine pt ?_ GE372.out)|exact HB.out)) hb);clear HO_7;clear HO_8;clear HO_9;clear BK372;clear HB;have HO_7:=n0_;have HO_8:=n1_;have HO_9:=n2_;have HO393:=n3_;have BK372:=n4_;have HB:=n5_;clear n0_ n1_ n2_ n3_ n4_ n5_;(try clear hb);(try clear hb2);(try clear hk);(try clear hi);(try clear ho0)))
         repeat (go_quiet (first|(go_at_call 119;(with_reducible refine (impl_solve.calls k3 _ _ x8_3 _ _ x9_3 t390 t391 _ ?side1 ?side2 ?side3 ?side4 A76.out).mono ?_);(case side1=>repeat (first|exact (Kd.S_reads' HO_8.out).2.2|(with_reducible refine Kd.C_alloc ?_ _)|(with_reducible refine Kd.C_drewN ?_ _)|(with_reducible refine Kd.C_drew ?_)));(case side2=>exact (Kd.S_reads' HO_8.out).2.1);(case side3=>repeat (first|exact (Kd.R_reads' HO_9.out).2.2|(with_reducible refine Kd.C_alloc ?_ _)|(with_reducible refine Kd.C_drewN ?_ _)|(with_reducible refine Kd.C_drew ?_)));(case side4=>exact (Kd.R_reads' HO_9.out).2.1);rintro e w79 ⟨v392,rfl,ho0,hb⟩;have n0_:=am (Kd.S_below d7 hb);have n1_:=am (Kd.S_elder' d8 (Kd.R_base ho0) hb);have n2_:=am (Kd.R_elder' d6 (Kd.R_base ho0) hb);have n3_:=am (Kd.R_lower (Kd.R_new' ho0 (Kd.R_lt d6)) (pz (by repeat (first|(with_reducible first|exact HB.out|apply pa|apply pb|apply pd|refine pt ?_ GE372.out)|exact HB.out))));have n4_:=am (qb (g:=gb372) (o:=.cells #[.int .i64 a0_0, .int .i64 a0_1] 72 (0,0)) (by (with_reducible repeat (first|refine qn ?_ _|refine qd ?_|refine qa ?_ _));exact BK372.out) hb);have n5_:=am (pu (by repeat (first|(with_reducible first|exact HB.out|apply pa|apply pb|apply pd|refine pt ?_ GE372.out)|exact HB.out)) hb);clear HO_7;clear HO_8;clear HO_9;clear BK372;clear HB;have HO_7:=n0_;have HO_8:=n1_;have HO_9:=n2_;have HO393:=n3_;have BK372:=n4_;have HB:=n5_;clear n0_ n1_ n2_ n3_ n4_ n5_;(try clear hb);(try clear hb2);(try clear hk);(try clear hi);(try clear ho0)));try go_wp2_with (first|(go_at_call 119;(with_reducible refine (impl_solve.calls k3 _ _ x8_3 _ _ x9_3 t390 t391 _ ?side1 ?side2 ?side3 ?side4 A76.out).mono ?_);(case side1=>repeat (first|exact (Kd.S_reads' HO_8.out).2.2|(with_reducible refine Kd.C_alloc ?_ _)|(with_reducible refine Kd.C_drewN ?_ _)|(with_reducible refine Kd.C_drew ?_)));(case side2=>exact (Kd.S_reads' HO_8.out).2.1);(case side3=>repeat (first|exact (Kd.R_reads' HO_9.out).2.2|(with_reducible refine Kd.C_alloc ?_ _)|(with_reducible refine Kd.C_drewN ?_ _)|(with_reducible refine Kd.C_drew ?_)));(case side4=>exact (Kd.R_reads' HO_9.out).2.1);rintro e w79 ⟨v392,rfl,ho0,hb⟩;have n0_:=am (Kd.S_below d7 hb);have n1_:=am (Kd.S_elder' d8 (Kd.R_base ho0) hb);have n2_:=am (Kd.R_elder' d6 (Kd.R_base ho0) hb);have n3_:=am (Kd.R_lower (Kd.R_new' ho0 (Kd.R_lt d6)) (pz (by repeat (first|(with_reducible first|exact HB.out|apply pa|apply pb|apply pd|refine pt ?_ GE372.out)|exact HB.out))));have n4_:=am (qb (g:=gb372) (o:=.cells #[.int .i64 a0_0, .int .i64 a0_1] 72 (0,0)) (by (with_reducible repeat (first|refine qn ?_ _|refine qd ?_|refine qa ?_ _));exact BK372.out) hb);have n5_:=am (pu (by repeat (first|(with_reducible first|exact HB.out|apply pa|apply pb|apply pd|refine pt ?_ GE372.out)|exact HB.out)) hb);clear HO_7;clear HO_8;clear HO_9;clear BK372;clear HB;have HO_7:=n0_;have HO_8:=n1_;have HO_9:=n2_;have HO393:=n3_;have BK372:=n4_;have HB:=n5_;clear n0_ n1_ n2_ n3_ n4_ n5_;(try clear hb);(try clear hb2);(try clear hk);(try clear hi);(try clear ho0))))
         go_ret2
         exact ⟨_,d4,by (with_reducible repeat (first|apply Kd.R_alloc|apply Kd.R_drewN|apply Kd.R_drew));exact Kd.R_mono HO393.out (fun _ hk=>trivial),by repeat (first|(with_reducible first|exact HB.out|apply pa|apply pb|apply pd|refine pt ?_ GE372.out)|exact HB.out)⟩
      rw [if_neg c27] at H
      exact absurd H d20
     rw [if_neg c26] at H
     exact absurd H d20
end

end Go.Proofs.Ytajikfnpcobnpaa.PFnExactDecodeMsr
-- HALVED
-- SQUEEZED
-- SQUEEZED2
-- SQUEEZED3
-- SQUEEZED4
-- SQUEEZED5
-- SQUEEZED6
