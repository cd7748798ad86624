-- Laid by a program of this session.
import Derived.Test.YtajikfnpcobnpaaPFnExactDecodeMsrx0
import Derived.Test.YtajikfnpcobnpaaPFnExactDecodeMsrx14
namespace Go.Proofs.Ytajikfnpcobnpaa.PFnExactDecodeMsr
open Go.RowKit Go.Proofs.YtajikfnpcobnpaaW.PrintWords Go.Proofs.YtajikfnpcobnpaaW.PrintLast Go.Proofs.YtajikfnpcobnpaaW.PrintMore
attribute [local go_sem] max2_int min2_int max_two min_two max_three min_three max_four min_four   -- for this text's walks alone
set_option linter.unusedVariables false
set_option maxHeartbeats 8000000
set_option maxRecDepth 100000
set_option linter.unusedSimpArgs false

section
open Go.Proofs.Ytajikfnpcobnpaa.KitR
theorem pl_add (a:Addr) (n:Nat):(a.add n).block=a.block:=by first | rfl | (cases a;rfl) | (unfold Addr.add;rfl) | (unfold Addr.add;split <;> rfl) | simp
theorem pl_infoI:(Try.prog.info? 3).map (fun i=>(i.zero,i.size,i.bytes))=some (some (.int .i64 0),1,8):=by kernel_rfl
theorem pl_infoS:(Try.prog.info? 25).map (fun i=>(i.zero,i.size,i.bytes))=some (some (.slice none 0 0),1,24):=by kernel_rfl
def rd_II (xs:List (List Int)) (i:Int):(List Int):=xs.getD i.toNat ([]:List Int)
theorem at_II {w:World} {A:Option Addr} {n:Nat} {xs:List (List Int)} (h:Kd.C (Kd.slice 3 (Kd.int .i64)) w A n xs) (i:Int) (h0:0≤i) (h1:i < n):∃ ad A0 c0,A=some ad∧w.cell? (ad.add i.toNat)=some (.slice A0 (rd_II xs i).length c0)∧(rd_II xs i).length≤c0∧(Kd.int .i64).C w A0 (rd_II xs i).length (rd_II xs i):=by
 obtain ⟨ad,c,e,_,hK,hc0⟩:=Kd.C_get h ([]:List Int) i h0 h1
 have hc:∀ j u,c[j]? = some u→w.cell? (ad.add (i.toNat*1+j))=some u:=hc0
 obtain ⟨A0,c0,rfl,l0,g0⟩:=hK
 exact ⟨ad,A0,c0,e,by have hq:=hc 0 _ rfl;rwa [Nat.mul_one,Nat.add_zero] at hq,l0,g0⟩
mutual
def impl_Msr_places.l0:Nat→Int→List (List Int)→Int→Int→Option ((List (List Int)))
 | 0,_,_,_,_=>none
 | k+1,x3,x4,x14,x15=>if x15 < x14 then (if 0≤x3 then (if (x3:Int).toNat≤35184372088832 then (if x4.length < 5864062014805 then (impl_Msr_places.l0 k x3 (x4 ++ [(List.replicate (x3:Int).toNat 0)]) x14 (wrap64 (x15+1))) else (none)) else (none)) else (none)) else ((some (([0,x3]:List Int):List Int)).bind fun y159=>(impl_Msr_places.l1 k x3 x4 0 y159 (y159.length:Int) 0))
def impl_Msr_places.l1:Nat→Int→List (List Int)→Int→List Int→Int→Int→Option ((List (List Int)))
 | 0,_,_,_,_,_,_=>none
 | k+1,x3,x4,x5,x24,x25,x26=>if x26 < x25 then (if 0≤x26 then (if x26 < (x24.length:Int) then (impl_Msr_places.l2 k x3 x4 x5 (rd x24 x26) x24 x25 x26 x3 0) else (none)) else (none)) else (some x4)
def impl_Msr_places.l2:Nat→Int→List (List Int)→Int→Int→List Int→Int→Int→Int→Int→Option ((List (List Int)))
 | 0,_,_,_,_,_,_,_,_,_=>none
 | k+1,x3,x4,x5,x7,x24,x25,x26,x30,x31=>if x31 < x30 then (impl_Msr_places.l3 k x3 x4 x5 x7 x31 x31 x24 x25 x26 x30 x31) else (impl_Msr_places.l1 k x3 x4 x5 x24 x25 (wrap64 (x26+1)))
def impl_Msr_places.l3:Nat→Int→List (List Int)→Int→Int→Int→Int→List Int→Int→Int→Int→Int→Option ((List (List Int)))
 | 0,_,_,_,_,_,_,_,_,_,_,_=>none
 | k+1,x3,x4,x5,x7,x8,x9,x24,x25,x26,x30,x31=>if x9 < x3 then (if 0≤(wrap64 (x7+x8)) then (if (wrap64 (x7+x8)) < (x4.length:Int) then (if 0≤x9 then (if x9 < ((rd_II x4 (wrap64 (x7+x8))).length:Int) then ((some (x4.set ((wrap64 (x7+x8)):Int).toNat ((rd_II x4 (wrap64 (x7+x8))).set (x9:Int).toNat x5):List (List Int))).bind fun y166=>(if 0≤(wrap64 (x7+x9)) then (if (wrap64 (x7+x9)) < (x4.length:Int) then (if 0≤x8 then (if x8 < ((rd_II y166 (wrap64 (x7+x9))).length:Int) then (impl_Msr_places.l3 k x3 (y166.set ((wrap64 (x7+x9)):Int).toNat ((rd_II y166 (wrap64 (x7+x9))).set (x8:Int).toNat x5)) (wrap64 (x5+1)) x7 x8 (wrap64 (x9+1)) x24 x25 x26 x30 x31) else (none)) else (none)) else (none)) else (none))) else (none)) else (none)) else (none)) else (none)) else (impl_Msr_places.l2 k x3 x4 x5 x7 x24 x25 x26 x30 (wrap64 (x31+1)))
end
def impl_Msr_places.f (k:Nat) (a0_0:Int) (a0_1:Int):Option ((List (List Int))):=(impl_Msr_alpha.f a0_0 a0_1).bind fun t149=>(impl_Msr_places.l0 k t149 (([]:List (List Int))) (wrap64 (2*t149)) 0)
theorem impl_Msr_places.mono_l:∀ k,(∀ y0 y1 y2 y3,LeO (impl_Msr_places.l0 k y0 y1 y2 y3) (impl_Msr_places.l0 (k+1) y0 y1 y2 y3))∧(∀ y0 y1 y2 y3 y4 y5,LeO (impl_Msr_places.l1 k y0 y1 y2 y3 y4 y5) (impl_Msr_places.l1 (k+1) y0 y1 y2 y3 y4 y5))∧(∀ y0 y1 y2 y3 y4 y5 y6 y7 y8,LeO (impl_Msr_places.l2 k y0 y1 y2 y3 y4 y5 y6 y7 y8) (impl_Msr_places.l2 (k+1) y0 y1 y2 y3 y4 y5 y6 y7 y8))∧(∀ y0 y1 y2 y3 y4 y5 y6 y7 y8 y9 y10,LeO (impl_Msr_places.l3 k y0 y1 y2 y3 y4 y5 y6 y7 y8 y9 y10) (impl_Msr_places.l3 (k+1) y0 y1 y2 y3 y4 y5 y6 y7 y8 y9 y10))
 | 0=>⟨fun _ _ _ _ r h=>by simp [impl_Msr_places.l0] at h,fun _ _ _ _ _ _ r h=>by simp [impl_Msr_places.l1] at h,fun _ _ _ _ _ _ _ _ _ r h=>by simp [impl_Msr_places.l2] at h,fun _ _ _ _ _ _ _ _ _ _ _ r h=>by simp [impl_Msr_places.l3] at h⟩
 | k+1=>by
  obtain ⟨ih0,ih1,ih2,ih3⟩:=impl_Msr_places.mono_l k
  refine ⟨?_,?_,?_,?_⟩
  ·intro y0 y1 y2 y3
   unfold impl_Msr_places.l0
   repeat' first
   | (with_reducible exact ih0 _ _ _ _)
   | (with_reducible exact ih1 _ _ _ _ _ _)
   | (with_reducible exact ih2 _ _ _ _ _ _ _ _ _)
   | (with_reducible exact ih3 _ _ _ _ _ _ _ _ _ _ _)
   |(with_reducible exact LeO.refl _)|(with_reducible exact LeO.none _)|(with_reducible refine LeO.ite ?_ ?_)|(with_reducible refine LeO.bind ?_ (fun _=>?_))|exact ih0 _ _ _ _|exact ih1 _ _ _ _ _ _|exact ih2 _ _ _ _ _ _ _ _ _|exact ih3 _ _ _ _ _ _ _ _ _ _ _|exact LeO.none _|refine LeO.ite ?_ ?_|refine LeO.bind ?_ (fun _=>?_)
  ·intro y0 y1 y2 y3 y4 y5
   unfold impl_Msr_places.l1
   repeat' first
   | (with_reducible exact ih0 _ _ _ _)
   | (with_reducible exact ih1 _ _ _ _ _ _)
   | (with_reducible exact ih2 _ _ _ _ _ _ _ _ _)
   | (with_reducible exact ih3 _ _ _ _ _ _ _ _ _ _ _)
   |(with_reducible exact LeO.refl _)|(with_reducible exact LeO.none _)|(with_reducible refine LeO.ite ?_ ?_)|(with_reducible refine LeO.bind ?_ (fun _=>?_))|exact ih0 _ _ _ _|exact ih1 _ _ _ _ _ _|exact ih2 _ _ _ _ _ _ _ _ _|exact ih3 _ _ _ _ _ _ _ _ _ _ _|exact LeO.none _|refine LeO.ite ?_ ?_|refine LeO.bind ?_ (fun _=>?_)
  ·intro y0 y1 y2 y3 y4 y5 y6 y7 y8
   unfold impl_Msr_places.l2
   repeat' first
   | (with_reducible exact ih0 _ _ _ _)
   | (with_reducible exact ih1 _ _ _ _ _ _)
   | (with_reducible exact ih2 _ _ _ _ _ _ _ _ _)
   | (with_reducible exact ih3 _ _ _ _ _ _ _ _ _ _ _)
   |(with_reducible exact LeO.refl _)|(with_reducible exact LeO.none _)|(with_reducible refine LeO.ite ?_ ?_)|(with_reducible refine LeO.bind ?_ (fun _=>?_))|exact ih0 _ _ _ _|exact ih1 _ _ _ _ _ _|exact ih2 _ _ _ _ _ _ _ _ _|exact ih3 _ _ _ _ _ _ _ _ _ _ _|exact LeO.none _|refine LeO.ite ?_ ?_|refine LeO.bind ?_ (fun _=>?_)
  intro y0 y1 y2 y3 y4 y5 y6 y7 y8 y9 y10
  unfold impl_Msr_places.l3
  repeat' first
  | (with_reducible exact ih0 _ _ _ _)
  | (with_reducible exact ih1 _ _ _ _ _ _)
  | (with_reducible exact ih2 _ _ _ _ _ _ _ _ _)
  | (with_reducible exact ih3 _ _ _ _ _ _ _ _ _ _ _)
  |(with_reducible exact LeO.refl _)|(with_reducible exact LeO.none _)|(with_reducible refine LeO.ite ?_ ?_)|(with_reducible refine LeO.bind ?_ (fun _=>?_))|exact ih0 _ _ _ _|exact ih1 _ _ _ _ _ _|exact ih2 _ _ _ _ _ _ _ _ _|exact ih3 _ _ _ _ _ _ _ _ _ _ _|exact LeO.none _|refine LeO.ite ?_ ?_|refine LeO.bind ?_ (fun _=>?_)
theorem impl_Msr_places.mono:∀ a0 a1 k,LeO (impl_Msr_places.f k a0 a1) (impl_Msr_places.f (k+1) a0 a1):=by
 intro a0 a1 k
 obtain ⟨ih0,ih1,ih2,ih3⟩:=impl_Msr_places.mono_l k
 unfold impl_Msr_places.f
 repeat' first
   | (with_reducible exact ih0 _ _ _ _)
   | (with_reducible exact ih1 _ _ _ _ _ _)
   | (with_reducible exact ih2 _ _ _ _ _ _ _ _ _)
   | (with_reducible exact ih3 _ _ _ _ _ _ _ _ _ _ _)
   |(with_reducible exact LeO.refl _)|(with_reducible exact LeO.none _)|(with_reducible refine LeO.ite ?_ ?_)|(with_reducible refine LeO.bind ?_ (fun _=>?_))|exact ih0 _ _ _ _|exact ih1 _ _ _ _ _ _|exact ih2 _ _ _ _ _ _ _ _ _|exact ih3 _ _ _ _ _ _ _ _ _ _ _|exact LeO.none _|refine LeO.ite ?_ ?_|refine LeO.bind ?_ (fun _=>?_)
theorem impl_Msr_places.calls (k:Nat) (a0_0:Int) (a0_1:Int) (r:List (List Int)) (w:World) (h:impl_Msr_places.f k a0_0 a0_1=some r) :
  Calls Try.prog 156 #[.agg #[.int .i64 a0_0, .int .i64 a0_1]] w fun e w'=>∃ v0_:Value,e = .returned (v0_)∧Kd.S (Kd.slice 3 (Kd.int .i64)) 25 w' w.heap.size (fun _=>True) v0_ r∧Below w.heap.size w w':=by
 have hu72:=Try.underlying72
 have HB:=am (Below.refl w.heap.size w)
 have H:((impl_Msr_alpha.f a0_0 a0_1).bind fun t149=>(impl_Msr_places.l0 k t149 (([]:List (List Int))) (wrap64 (2*t149)) 0))=some r:=h
 clear h
 replace H:=Option.bind_eq_some_iff.mp H
 obtain ⟨t149,A20,H⟩:=H
 replace H:(impl_Msr_places.l0 k t149 (([]:List (List Int))) (wrap64 (2*t149)) 0)=some r:=H
 have A2:=am A20
 clear A20
 obtain ⟨y150,hy150⟩:∃ y_:List (List Int),y_=(([]:List (List Int))):=⟨_,rfl⟩
 replace H:(impl_Msr_places.l0 k t149 y150 (wrap64 (2*t149)) 0)=some r:=by first|(rw [hy150];with_reducible exact H)|(have H2_:=(Option.bind_some _ _).symm.trans H;rw [hy150];with_reducible exact H2_)|(have H2_:=(Option.bind_some _ _).symm.trans H;with_reducible exact H2_)|with_reducible exact H|(rw [hy150];exact H)|exact H
 have Ny150:=am hy150
 clear hy150
 have H':=am H
 clear H
 go_enter Try.func156,Try.ntmps156
 go_wp2_with (first|((with_reducible refine gate_dst (N:=1) rfl ?_);refine box_event ?hg (N:=1) ?hd (cs:=#[.int .i64 a0_0, .int .i64 a0_1]) (t:=72) ?hr ?_;(case hd=>rfl);(case hg=>rfl);(case hr=>first|(go_simp;done)|(go_simp;rfl));intro gb148 hg w3 hbox hb;have n0_:=am (pu d0 hb);have n1_:=am (hbox);have n2_:=am ((by rw [hg];exact (pz d0):w.heap.size≤gb148));have n3_:=n2_;clear HB;have HB:=n0_;have BK148:=n1_;have GW148:=n2_;have GE148:=n3_;clear n0_ n1_ n2_ n3_;clear hb hbox hg;have hcz4_0:w3.cell? ⟨gb148,0,none⟩=some (.int .i64 a0_0):=(blk_cell BK148.out 0).trans rfl;have hcz4_1:w3.cell? ⟨gb148,1,none⟩=some (.int .i64 a0_1):=(blk_cell BK148.out 1).trans rfl;have hfz4_0:=blk_frozen BK148.out 0;have hfz4_1:=blk_frozen BK148.out 1)|((with_reducible refine gate_callee (f:=128) rfl ?_);refine goesL_ (some 11) rfl rfl Try.func128 d3 rfl #[.agg #[.int .i64 a0_0, .int .i64 a0_1]] rfl d5 ?_;(with_reducible refine (impl_Msr_alpha.calls a0_0 a0_1 t149 _ A2.out).mono ?_);rintro e w5 ⟨rfl,hb⟩;refine ⟨_,rfl,?_⟩;have n0_:=am (qb (g:=gb148) (o:=.cells #[.int .i64 a0_0, .int .i64 a0_1] 72 (0,0)) (by (with_reducible repeat (first|refine qn ?_ _|refine qd ?_|refine qa ?_ _));exact BK148.out) hb);have n1_:=am (pu (by repeat (first|(with_reducible first|exact HB.out|apply pa|apply pb|apply pd|refine pt ?_ GE148.out)|exact HB.out)) hb);clear BK148;clear HB;have BK148:=n0_;have HB:=n1_;clear n0_ n1_;(try clear hb);(try clear hb2);(try clear hk);(try clear hi))|((with_reducible refine gate_dst (N:=12) rfl ?_);refine Kd.S_lit (Kd.slice 3 (Kd.int .i64)) _ 25 ?hg (N:=12) ?hd (xs:=([]:List (List Int))) (inner:=[]) (ok:=fun _=>True) (okp:=fun _=>True) ?hr ?hp (fun _ hk=>hk) trivial (Below.refl _ _) (Nat.le_refl _) d20 ?_;(case hd=>rfl);(case hg=>rfl);(case hr=>first|(go_simp;done)|(go_simp;rfl));(case hp=>exact (Reps.none _ _));intro v151 w6 ho7 hb hg_ hnew_;clear hg_ hnew_;(first|rw [← Ny150.out] at ho7|(simp only [Int.reduceToNat] at ho7;rw [← Ny150.out] at ho7));have n0_:=am (Kd.S_lower ho7 (pz (by repeat (first|(with_reducible first|exact HB.out|apply pa|apply pb|apply pd|refine pt ?_ GE148.out)|exact HB.out))));have n1_:=am (qb (g:=gb148) (o:=.cells #[.int .i64 a0_0, .int .i64 a0_1] 72 (0,0)) (by (with_reducible repeat (first|refine qn ?_ _|refine qd ?_|refine qa ?_ _));exact BK148.out) hb);have n2_:=am (pu (by repeat (first|(with_reducible first|exact HB.out|apply pa|apply pb|apply pd|refine pt ?_ GE148.out)|exact HB.out)) hb);clear BK148;clear HB;have HO152:=n0_;have BK148:=n1_;have HB:=n2_;clear n0_ n1_ n2_;clear hb ho7))
 go_loopg [4,15] k (fun kq v4 v15 w'=>∃ (x4_1:List (List Int)) (x15_1:Int),v15 = .int .i64 x15_1∧Aside0 (impl_Msr_places.l0 kq t149 x4_1 (wrap64 (2*t149)) x15_1=some r)∧Aside0 (kq≤k)∧Aside0 (Kd.S (Kd.slice 3 (Kd.int .i64)) 25 w' w.heap.size (fun _=>True) v4 x4_1)∧Aside0 (w'.heap[gb148]? = some (.cells #[.int .i64 a0_0, .int .i64 a0_1] 72 (0,0)))∧Aside0 (Below w.heap.size w w'))
 case atStart=>exact ⟨(y150),(0),d2,H',⟨Nat.le_refl _⟩,⟨by (with_reducible repeat (first|apply Kd.S_alloc|apply Kd.S_drewN|apply Kd.S_drew));exact HO152.out⟩,⟨by (with_reducible repeat (first|refine qn ?_ _|refine qd ?_|refine qa ?_ _));exact BK148.out⟩,⟨by repeat (first|(with_reducible first|exact HB.out|apply pa|apply pb|apply pd|refine pt ?_ GE148.out)|exact HB.out)⟩⟩
 case round =>
  clear H'
  try clear c1
  try clear p2
  try clear p6
  try clear hcz4_0
  try clear hcz4_1
  try clear hfz4_0
  try clear hfz4_1
  obtain ⟨x4_1,x15_1,rfl,HA,HK1,HO_4,BK148,HB⟩:=hrel
  cases gk with
  | zero=>exact absurd HA.out (by simp [impl_Msr_places.l0])
  | succ k1 =>
   have H:=HA.out
   clear HA
   simp only [impl_Msr_places.l0] at H
   by_cases c8:x15_1 < (wrap64 (2*t149))
   ·rw [if_pos c8] at H
    have c8b0:decide (x15_1 < (wrap64 (2*t149)))=true:=decide_eq_true c8
    clear c8
    by_cases c9:0≤t149
    ·rw [if_pos c9] at H
     have c9b0:=eq_true c9
     have c9b1:decide (0≤t149)=true:=decide_eq_true c9
     clear c9
     by_cases c10:(t149:Int).toNat≤35184372088832
     ·rw [if_pos c10] at H
      have c10b0:=eq_true c10
      have c10b1:decide ((t149:Int).toNat≤35184372088832)=true:=decide_eq_true c10
      clear c10
      obtain ⟨y153,hy153⟩:∃ y_:List Int,y_=(List.replicate (t149:Int).toNat 0):=⟨_,rfl⟩
      replace H:(if x4_1.length < 5864062014805 then (impl_Msr_places.l0 k1 t149 (x4_1 ++ [y153]) (wrap64 (2*t149)) (wrap64 (x15_1+1))) else (none))=some r:=by first|(rw [hy153];with_reducible exact H)|(have H2_:=(Option.bind_some _ _).symm.trans H;rw [hy153];with_reducible exact H2_)|(have H2_:=(Option.bind_some _ _).symm.trans H;with_reducible exact H2_)|with_reducible exact H|(rw [hy153];exact H)|exact H
      have Ny153:=am hy153
      clear hy153
      by_cases c11:x4_1.length < 5864062014805
      ·rw [if_pos c11] at H
       have LMc11:=am c11
       clear c11
       obtain ⟨y156,hy156⟩:∃ y_:List (List Int),y_=(x4_1 ++ [y153]):=⟨_,rfl⟩
       replace H:(impl_Msr_places.l0 k1 t149 y156 (wrap64 (2*t149)) (wrap64 (x15_1+1)))=some r:=by first|(rw [hy156];with_reducible exact H)|(have H2_:=(Option.bind_some _ _).symm.trans H;rw [hy156];with_reducible exact H2_)|(have H2_:=(Option.bind_some _ _).symm.trans H;with_reducible exact H2_)|with_reducible exact H|(rw [hy156];exact H)|exact H
       have Ny156:=am hy156
       clear hy156
       have H':=am H
       clear H
       go_wp2_with (first|((with_reducible refine gate_dst (N:=19) rfl ?_);refine Kd.R_make (Kd.int .i64) _ 3 rfl (N:=19) rfl 25 _ _ rfl t149 rfl rfl Try.underlying25 (.int .i64 0) 8 pl_infoI rfl d11 d10 0 (ok:=fun _=>True) (okp:=fun _=>True) rfl (fun _ hk=>hk) trivial (od d1) (Nat.le_trans (Nat.mul_le_mul_right _ (od d1:t149.toNat≤35184372088832)) d10) (Below.refl _ _) (Nat.le_refl _) ?_;intro v154 w12 ho13 hb hg_ hnew_;clear hg_ hnew_;(first|rw [← Ny153.out] at ho13|(simp only [Int.reduceToNat] at ho13;rw [← Ny153.out] at ho13));have n0_:=am (Kd.S_elder' (by (with_reducible repeat (first|apply Kd.S_alloc|apply Kd.S_drewN|apply Kd.S_drew));exact HO_4.out) (Kd.R_base ho13) hb);have n1_:=am (Kd.R_lower ho13 (pz (by repeat (first|(with_reducible first|exact HB.out|apply pa|apply pb|apply pd|refine pt ?_ GE148.out)|exact HB.out))));have n2_:=am (qb (g:=gb148) (o:=.cells #[.int .i64 a0_0, .int .i64 a0_1] 72 (0,0)) (by (with_reducible repeat (first|refine qn ?_ _|refine qd ?_|refine qa ?_ _));exact BK148.out) hb);have n3_:=am (pu (by repeat (first|(with_reducible first|exact HB.out|apply pa|apply pb|apply pd|refine pt ?_ GE148.out)|exact HB.out)) hb);clear HO_4;clear BK148;clear HB;have HO_4:=n0_;have HO155:=n1_;have BK148:=n2_;have HB:=n3_;clear n0_ n1_ n2_ n3_;clear hb ho13;obtain ⟨Ao15,co15,eo15⟩:=Kd.R_slice HO155.out;subst eo15)|((with_reducible refine gate_builtin (b:=.append) (xs:=#[.tmp 17, .tmp 20]) rfl ?_);at_builtin;refine Kd.S_append (Kd.slice 3 (Kd.int .i64)) (w0:=w) w.heap.size rfl (.tmp 17) (.tmp 20) 175 25 (.slice none 0 0) 24 rfl Try.underlying175 pl_infoS rfl d11 d10 u4 x4_1 y153 [.slice Ao15 y153.length co15] (fun _=>True) (fun k_=>some k_=(.slice Ao15 y153.length co15:Value).ownBlock) rfl rfl ?aP (fun k_ hk_=>((Kd.R_mono (ok':=fun k_=>((fun _=>True)) k_∧some k_ ≠ (u4:Value).ownBlock) (Kd.R_apart' (HO155.out) (Kd.S_typed HO_4.out) d11) (fun k_ hk=>⟨trivial,hk.2⟩))).1 k_ hk_.symm) ?aF ?aO ?aB ?aS ?aL ?_;(case aP=>exact Kd.M_row (Kd.R_mono (Kd.R_tight rfl (Kd.R_mono (ok':=fun k_=>((fun _=>True)) k_∧some k_ ≠ (u4:Value).ownBlock) (Kd.R_apart' (HO155.out) (Kd.S_typed HO_4.out) d11) (fun k_ hk=>⟨trivial,hk.2⟩))) (fun _ h_=>h_)));(case aB=>exact (by repeat (first|(with_reducible first|exact HB.out|apply pa|apply pb|apply pd|refine pt ?_ GE148.out)|exact HB.out)));(case aF=>exact (fun _ _=>trivial));(case aO=>exact (by (with_reducible repeat (first|apply Kd.S_alloc|apply Kd.S_drewN|apply Kd.S_drew));exact Kd.S_mono HO_4.out (fun k_ hk=>⟨trivial,fun e_=>hk.2 e_⟩)));(case aS=>exact (pz (by repeat (first|(with_reducible first|exact HB.out|apply pa|apply pb|apply pd|refine pt ?_ GE148.out)|exact HB.out))));(case aL=>have:=LMc11.out;omega);intro v157 w14 ho hb hg hat;rw [← Ny156.out] at ho;have n0_:=am (blk_grown (g:=gb148) (o:=.cells #[.int .i64 a0_0, .int .i64 a0_1] 72 (0,0)) (by (with_reducible repeat (first|refine qn ?_ _|refine qd ?_|refine qa ?_ _));exact BK148.out) hg (Kd.S_ne HO_4.out BK148.out d11));have n1_:=am (hb);have n2_:=am (ho);clear BK148;clear HB;clear HO_4;clear HO155;have BK148:=n0_;have HB:=n1_;have HO158:=n2_;clear n0_ n1_ n2_;clear ho hb hg hat))
       go_roundg k1
       case measure=>have:=HK1.out;omega
       case rel=>exact ⟨(y156),(wrap64 (x15_1+1)),d2,H',⟨d30⟩,⟨by (with_reducible repeat (first|apply Kd.S_alloc|apply Kd.S_drewN|apply Kd.S_drew));exact HO158.out⟩,⟨by (with_reducible repeat (first|refine qn ?_ _|refine qd ?_|refine qa ?_ _));exact BK148.out⟩,⟨by repeat (first|(with_reducible first|exact HB.out|apply pa|apply pb|apply pd|refine pt ?_ GE148.out)|exact HB.out)⟩⟩
      rw [if_neg c11] at H
      exact absurd H d20
     rw [if_neg c10] at H
     exact absurd H d20
    rw [if_neg c9] at H
    exact absurd H d20
   rw [if_neg c8] at H
   have c8b0:decide (x15_1 < (wrap64 (2*t149)))=false:=decide_eq_false c8
   clear c8
   obtain ⟨y159,hy159⟩:∃ y_:List Int,y_=(([0,t149]:List Int)):=⟨_,rfl⟩
   replace H:(impl_Msr_places.l1 k1 t149 x4_1 0 y159 (y159.length:Int) 0)=some r:=by first|(rw [hy159];with_reducible exact H)|(have H2_:=(Option.bind_some _ _).symm.trans H;rw [hy159];with_reducible exact H2_)|(have H2_:=(Option.bind_some _ _).symm.trans H;with_reducible exact H2_)|with_reducible exact H|(rw [hy159];exact H)|exact H
   have Ny159:=am hy159
   clear hy159
   have H':=am H
   clear H
   go_wp2_with (first|((with_reducible refine gate_dst (N:=24) rfl ?_);refine Kd.R_lit (Kd.int .i64) _ 3 ?hg (N:=24) ?hd (xs:=([0,t149]:List Int)) (inner:=[.int .i64 0, .int .i64 t149]) (ok:=fun _=>True) (okp:=fun _=>True) ?hr ?hp (fun _ hk=>hk) trivial (Below.refl _ _) (Nat.le_refl _) d20 ?_;(case hd=>rfl);(case hg=>rfl);(case hr=>first|(go_simp;done)|(go_simp;rfl));(case hp=>exact (Reps.one (show Kd.M (Kd.int .i64) _ _ _ 0 [.int .i64 0] from rfl) (Reps.one (show Kd.M (Kd.int .i64) _ _ _ t149 [.int .i64 t149] from rfl) (Reps.none _ _))));intro v160 w16 ho17 hb hg_ hnew_;clear hg_ hnew_;(first|rw [← Ny159.out] at ho17|(simp only [Int.reduceToNat] at ho17;rw [← Ny159.out] at ho17));have n0_:=am (Kd.S_elder' (by (with_reducible repeat (first|apply Kd.S_alloc|apply Kd.S_drewN|apply Kd.S_drew));exact HO_4.out) (Kd.R_base ho17) hb);have n1_:=am (Kd.R_lower ho17 (pz (by repeat (first|(with_reducible first|exact HB.out|apply pa|apply pb|apply pd|refine pt ?_ GE148.out)|exact HB.out))));have n2_:=am (qb (g:=gb148) (o:=.cells #[.int .i64 a0_0, .int .i64 a0_1] 72 (0,0)) (by (with_reducible repeat (first|refine qn ?_ _|refine qd ?_|refine qa ?_ _));exact BK148.out) hb);have n3_:=am (pu (by repeat (first|(with_reducible first|exact HB.out|apply pa|apply pb|apply pd|refine pt ?_ GE148.out)|exact HB.out)) hb);clear HO_4;clear BK148;clear HB;have HO_4:=n0_;have HO161:=n1_;have BK148:=n2_;have HB:=n3_;clear n0_ n1_ n2_ n3_;clear hb ho17;obtain ⟨Ao18,co18,eo18⟩:=Kd.R_slice HO161.out;subst eo18))
   go_loopg [5,26] k1 (fun kq v5 v26 w'=>∃ (x4_2:List (List Int)) (x5_2:Int) (x24_2:List Int) (x26_2:Int),v5 = .int .i64 x5_2∧v26 = .int .i64 x26_2∧Aside0 (impl_Msr_places.l1 kq t149 x4_2 x5_2 x24_2 (y159.length:Int) x26_2=some r)∧Aside0 (kq≤k1)∧Aside0 (Kd.S (Kd.slice 3 (Kd.int .i64)) 25 w' w.heap.size (fun k_=>some k_ ≠ ((.slice Ao18 y159.length co18):Value).ownBlock) u4 x4_2)∧Aside0 (Kd.R (Kd.int .i64) 3 w' w.heap.size (fun _=>True) (.slice Ao18 y159.length co18) x24_2)∧Aside0 (w'.heap[gb148]? = some (.cells #[.int .i64 a0_0, .int .i64 a0_1] 72 (0,0)))∧Aside0 (Below w.heap.size w w'))
   case atStart=>exact ⟨(x4_1),(0),(y159),(0),d2,d2,H',⟨Nat.le_refl _⟩,⟨by (with_reducible repeat (first|apply Kd.S_alloc|apply Kd.S_drewN|apply Kd.S_drew));exact Kd.S_mono HO_4.out (fun _ hk=>hk.2)⟩,⟨by (with_reducible repeat (first|apply Kd.R_alloc|apply Kd.R_drewN|apply Kd.R_drew));exact HO161.out⟩,⟨by (with_reducible repeat (first|refine qn ?_ _|refine qd ?_|refine qa ?_ _));exact BK148.out⟩,⟨by repeat (first|(with_reducible first|exact HB.out|apply pa|apply pb|apply pd|refine pt ?_ GE148.out)|exact HB.out)⟩⟩
   case round =>
    clear H'
    try clear c1
    try clear p2
    try clear p6
    try clear c8
    try clear c8b0
    try clear c9
    try clear c9b0
    try clear c9b1
    try clear c10
    try clear c10b0
    try clear c10b1
    try clear c11
    try clear hcz4_0
    try clear hcz4_1
    try clear hfz4_0
    try clear hfz4_1
    try clear p2
    try clear p6
    obtain ⟨x4_2,x5_2,x24_2,x26_2,rfl,rfl,HA,HK2,HO_4,HO_24,BK148,HB⟩:=hrel
    have hl24_2:=(Kd.R_reads' HO_24.out).1
    rw [hl24_2] at HO_24
    (try simp only [hl24_2])
    (try simp only [hl24_2] at BK148)
    (try simp only [hl24_2] at HO_4)
    cases gk with
    | zero=>exact absurd HA.out (by simp [impl_Msr_places.l1])
    | succ k2 =>
     have H:=HA.out
     clear HA
     simp only [impl_Msr_places.l1] at H
     by_cases c19:x26_2 < (y159.length:Int)
     ·rw [if_pos c19] at H
      have c19b0:decide (x26_2 < (y159.length:Int))=true:=decide_eq_true c19
      clear c19
      by_cases c20:0≤x26_2
      ·rw [if_pos c20] at H
       have c20b0:decide (0≤x26_2)=true:=decide_eq_true c20
       clear c20
       by_cases c21:x26_2 < (x24_2.length:Int)
       ·rw [if_pos c21] at H
        have c21b0:decide (x26_2 < (x24_2.length:Int))=true:=decide_eq_true c21
        clear c21
        have H':=am H
        clear H
        have p162:0≤(x26_2:Int):=od d1
        have q162:x26_2 < (x24_2.length:Int):=od d1
        obtain ⟨ad162,e162,hx162_0⟩:=Kd.at_int (Kd.R_reads' HO_24.out).2.2 x26_2 p162 q162
        cases e162
        replace p162:=eq_true p162
        replace q162:=eq_true q162
        go_wp2
        go_loopg [5,31] k2 (fun kq v5 v31 w'=>∃ (x4_3:List (List Int)) (x5_3:Int) (x24_3:List Int) (x31_3:Int),v5 = .int .i64 x5_3∧v31 = .int .i64 x31_3∧Aside0 (impl_Msr_places.l2 kq t149 x4_3 x5_3 (rd x24_2 x26_2) x24_3 (y159.length:Int) x26_2 t149 x31_3=some r)∧Aside0 (kq≤k2)∧Aside0 (Kd.S (Kd.slice 3 (Kd.int .i64)) 25 w' w.heap.size (fun k_=>some k_ ≠ ((.slice (some ad162) x24_2.length co18):Value).ownBlock) u4 x4_3)∧Aside0 (Kd.R (Kd.int .i64) 3 w' w.heap.size (fun _=>True) (.slice (some ad162) x24_2.length co18) x24_3)∧Aside0 (w'.heap[gb148]? = some (.cells #[.int .i64 a0_0, .int .i64 a0_1] 72 (0,0)))∧Aside0 (Below w.heap.size w w'))
        case atStart=>exact ⟨(x4_2),(x5_2),(x24_2),(0),d2,d2,H',⟨Nat.le_refl _⟩,⟨by (try simp only [hl24_2]);(with_reducible repeat (first|apply Kd.S_alloc|apply Kd.S_drewN|apply Kd.S_drew));exact HO_4.out⟩,⟨by (try simp only [hl24_2]);(with_reducible repeat (first|apply Kd.R_alloc|apply Kd.R_drewN|apply Kd.R_drew));exact HO_24.out⟩,⟨by (try simp only [hl24_2]);(with_reducible repeat (first|refine qn ?_ _|refine qd ?_|refine qa ?_ _));exact BK148.out⟩,⟨by repeat (first|(with_reducible first|exact HB.out|apply pa|apply pb|apply pd|refine pt ?_ GE148.out)|exact HB.out)⟩⟩
        case round =>
         clear H'
         try clear c1
         try clear p1
         try clear q1
         try clear hx1
         try clear c2
         try clear p2
         try clear p6
         try clear c8
         try clear c8b0
         try clear c9
         try clear c9b0
         try clear c9b1
         try clear c10
         try clear c10b0
         try clear c10b1
         try clear c11
         try clear p16
         try clear q16
         try clear hx16
         try clear c19
         try clear c19b0
         try clear c20
         try clear c20b0
         try clear c21
         try clear c21b0
         try clear hcz4_0
         try clear hcz4_1
         try clear hfz4_0
         try clear hfz4_1
         try clear hx162_0
         try clear p162
         try clear p2
         try clear p6
         try clear q162
         obtain ⟨x4_3,x5_3,x24_3,x31_3,rfl,rfl,HA,HK3,HO_4,HO_24,BK148,HB⟩:=hrel
         have hl24_3:=(Kd.R_reads' HO_24.out).1
         rw [hl24_3] at HO_24
         (try simp only [hl24_3])
         (try simp only [hl24_3] at BK148)
         (try simp only [hl24_3] at HO_4)
         cases gk with
         | zero=>exact absurd HA.out (by simp [impl_Msr_places.l2])
         | succ k3 =>
          have H:=HA.out
          clear HA
          simp only [impl_Msr_places.l2] at H
          by_cases c22:x31_3 < t149
          ·rw [if_pos c22] at H
           have c22b0:decide (x31_3 < t149)=true:=decide_eq_true c22
           clear c22
           have H':=am H
           clear H
           go_wp2
           go_loopg [5,9] k3 (fun kq v5 v9 w'=>∃ (x4_4:List (List Int)) (x5_4:Int) (x9_4:Int) (x24_4:List Int),v5 = .int .i64 x5_4∧v9 = .int .i64 x9_4∧Aside0 (impl_Msr_places.l3 kq t149 x4_4 x5_4 (rd x24_2 x26_2) x31_3 x9_4 x24_4 (y159.length:Int) x26_2 t149 x31_3=some r)∧Aside0 (kq≤k3)∧Aside0 (Kd.S (Kd.slice 3 (Kd.int .i64)) 25 w' w.heap.size (fun k_=>some k_ ≠ ((.slice (some ad162) x24_3.length co18):Value).ownBlock) u4 x4_4)∧Aside0 (Kd.R (Kd.int .i64) 3 w' w.heap.size (fun _=>True) (.slice (some ad162) x24_3.length co18) x24_4)∧Aside0 (w'.heap[gb148]? = some (.cells #[.int .i64 a0_0, .int .i64 a0_1] 72 (0,0)))∧Aside0 (Below w.heap.size w w'))
           case atStart=>exact ⟨(x4_3),(x5_3),(x31_3),(x24_3),d2,d2,H',⟨Nat.le_refl _⟩,⟨d61⟩,⟨d60⟩,⟨by (try simp only [hl24_2]);(try simp only [hl24_3]);(with_reducible repeat (first|refine qn ?_ _|refine qd ?_|refine qa ?_ _));exact BK148.out⟩,⟨by repeat (first|(with_reducible first|exact HB.out|apply pa|apply pb|apply pd|refine pt ?_ GE148.out)|exact HB.out)⟩⟩
           case round =>
            clear H'
            try clear c1
            try clear p1
            try clear q1
            try clear hx1
            try clear c2
            try clear p2
            try clear p6
            try clear c8
            try clear c8b0
            try clear c9
            try clear c9b0
            try clear c9b1
            try clear c10
            try clear c10b0
            try clear c10b1
            try clear c11
            try clear p16
            try clear q16
            try clear hx16
            try clear c19
            try clear c19b0
            try clear c20
            try clear c20b0
            try clear c21
            try clear c21b0
            try clear c22
            try clear c22b0
            try clear hcz4_0
            try clear hcz4_1
            try clear hfz4_0
            try clear hfz4_1
            try clear hx162_0
            try clear p1
            try clear p16
            try clear p162
            try clear p2
            try clear p6
            try clear q1
            try clear q16
            try clear q162
            obtain ⟨x4_4,x5_4,x9_4,x24_4,rfl,rfl,HA,HK4,HO_4,HO_24,BK148,HB⟩:=hrel
            have hl24_4:=(Kd.R_reads' HO_24.out).1
            rw [hl24_4] at HO_24
            (try simp only [hl24_4])
            (try simp only [hl24_4] at BK148)
            (try simp only [hl24_4] at HO_4)
            cases gk with
            | zero=>exact absurd HA.out (by simp [impl_Msr_places.l3])
            | succ k4 =>
             have H:=HA.out
             clear HA
             simp only [impl_Msr_places.l3] at H
             by_cases c23:x9_4 < t149
             ·rw [if_pos c23] at H
              have c23b0:decide (x9_4 < t149)=true:=decide_eq_true c23
              clear c23
              obtain ⟨ji24,hji24⟩:∃ j_:Int,(wrap64 ((rd x24_2 x26_2)+x31_3))=j_:=⟨_,rfl⟩
              replace H:(if 0≤(ji24) then (if (ji24) < (x4_4.length:Int) then (if 0≤x9_4 then (if x9_4 < ((rd_II x4_4 (ji24)).length:Int) then ((some (x4_4.set ((ji24):Int).toNat ((rd_II x4_4 (ji24)).set (x9_4:Int).toNat x5_4):List (List Int))).bind fun y166=>(if 0≤(wrap64 ((rd x24_2 x26_2)+x9_4)) then (if (wrap64 ((rd x24_2 x26_2)+x9_4)) < (x4_4.length:Int) then (if 0≤x31_3 then (if x31_3 < ((rd_II y166 (wrap64 ((rd x24_2 x26_2)+x9_4))).length:Int) then (impl_Msr_places.l3 k4 t149 (y166.set ((wrap64 ((rd x24_2 x26_2)+x9_4)):Int).toNat ((rd_II y166 (wrap64 ((rd x24_2 x26_2)+x9_4))).set (x31_3:Int).toNat x5_4)) (wrap64 (x5_4+1)) (rd x24_2 x26_2) x31_3 (wrap64 (x9_4+1)) x24_4 (y159.length:Int) x26_2 t149 x31_3) else (none)) else (none)) else (none)) else (none))) else (none)) else (none)) else (none)) else (none))=some r:=by first|(rw [hji24] at H;exact H)|(simp only [hji24] at H ⊢;exact H)
              have hji24w:(IntKind.i64.wrap ((rd x24_2 x26_2)+x31_3))=ji24:=(i64_w _).trans hji24
              by_cases c25:0≤(ji24)
              ·rw [if_pos c25] at H
               have c25b0:decide (0≤(ji24))=true:=decide_eq_true c25
               clear c25
               by_cases c26:(ji24) < (x4_4.length:Int)
               ·rw [if_pos c26] at H
                have c26b0:decide ((ji24) < (x4_4.length:Int))=true:=decide_eq_true c26
                clear c26
                by_cases c27:0≤x9_4
                ·rw [if_pos c27] at H
                 have c27b0:decide (0≤x9_4)=true:=decide_eq_true c27
                 clear c27
                 by_cases c28:x9_4 < ((rd_II x4_4 (ji24)).length:Int)
                 ·rw [if_pos c28] at H
                  have c28b0:decide (x9_4 < ((rd_II x4_4 (ji24)).length:Int))=true:=decide_eq_true c28
                  clear c28
                  obtain ⟨y164,hy164⟩:∃ y_:List Int,y_=((rd_II x4_4 (ji24)).set (x9_4:Int).toNat x5_4):=⟨_,rfl⟩
                  replace H:((some (x4_4.set ((ji24):Int).toNat y164:List (List Int))).bind fun y166=>(if 0≤(wrap64 ((rd x24_2 x26_2)+x9_4)) then (if (wrap64 ((rd x24_2 x26_2)+x9_4)) < (x4_4.length:Int) then (if 0≤x31_3 then (if x31_3 < ((rd_II y166 (wrap64 ((rd x24_2 x26_2)+x9_4))).length:Int) then (impl_Msr_places.l3 k4 t149 (y166.set ((wrap64 ((rd x24_2 x26_2)+x9_4)):Int).toNat ((rd_II y166 (wrap64 ((rd x24_2 x26_2)+x9_4))).set (x31_3:Int).toNat x5_4)) (wrap64 (x5_4+1)) (rd x24_2 x26_2) x31_3 (wrap64 (x9_4+1)) x24_4 (y159.length:Int) x26_2 t149 x31_3) else (none)) else (none)) else (none)) else (none)))=some r:=by first|(rw [hy164];with_reducible exact H)|(have H2_:=(Option.bind_some _ _).symm.trans H;rw [hy164];with_reducible exact H2_)|(have H2_:=(Option.bind_some _ _).symm.trans H;with_reducible exact H2_)|with_reducible exact H|(rw [hy164];exact H)|exact H
                  have Ny164:=am hy164
                  clear hy164
                  obtain ⟨y166,hy166⟩:∃ y_:List (List Int),y_=(x4_4.set ((ji24):Int).toNat y164):=⟨_,rfl⟩
                  replace H:(if 0≤(wrap64 ((rd x24_2 x26_2)+x9_4)) then (if (wrap64 ((rd x24_2 x26_2)+x9_4)) < (x4_4.length:Int) then (if 0≤x31_3 then (if x31_3 < ((rd_II y166 (wrap64 ((rd x24_2 x26_2)+x9_4))).length:Int) then (impl_Msr_places.l3 k4 t149 (y166.set ((wrap64 ((rd x24_2 x26_2)+x9_4)):Int).toNat ((rd_II y166 (wrap64 ((rd x24_2 x26_2)+x9_4))).set (x31_3:Int).toNat x5_4)) (wrap64 (x5_4+1)) (rd x24_2 x26_2) x31_3 (wrap64 (x9_4+1)) x24_4 (y159.length:Int) x26_2 t149 x31_3) else (none)) else (none)) else (none)) else (none))=some r:=by first|(rw [hy166];with_reducible exact H)|(have H2_:=(Option.bind_some _ _).symm.trans H;rw [hy166];with_reducible exact H2_)|(have H2_:=(Option.bind_some _ _).symm.trans H;with_reducible exact H2_)|with_reducible exact H|(rw [hy166];exact H)|exact H
                  have Ny166:=am hy166
                  clear hy166
                  obtain ⟨ji30,hji30⟩:∃ j_:Int,(wrap64 ((rd x24_2 x26_2)+x9_4))=j_:=⟨_,rfl⟩
                  replace H:(if 0≤(ji30) then (if (ji30) < (x4_4.length:Int) then (if 0≤x31_3 then (if x31_3 < ((rd_II y166 (ji30)).length:Int) then (impl_Msr_places.l3 k4 t149 (y166.set ((ji30):Int).toNat ((rd_II y166 (ji30)).set (x31_3:Int).toNat x5_4)) (wrap64 (x5_4+1)) (rd x24_2 x26_2) x31_3 (wrap64 (x9_4+1)) x24_4 (y159.length:Int) x26_2 t149 x31_3) else (none)) else (none)) else (none)) else (none))=some r:=by first|(rw [hji30] at H;exact H)|(simp only [hji30] at H ⊢;exact H)
                  have hji30w:(IntKind.i64.wrap ((rd x24_2 x26_2)+x9_4))=ji30:=(i64_w _).trans hji30
                  by_cases c31:0≤(ji30)
                  ·rw [if_pos c31] at H
                   have c31b0:decide (0≤(ji30))=true:=decide_eq_true c31
                   clear c31
                   by_cases c32:(ji30) < (x4_4.length:Int)
                   ·rw [if_pos c32] at H
                    have c32b0:decide ((ji30) < (x4_4.length:Int))=true:=decide_eq_true c32
                    clear c32
                    by_cases c33:0≤x31_3
                    ·rw [if_pos c33] at H
                     have c33b0:decide (0≤x31_3)=true:=decide_eq_true c33
                     clear c33
                     by_cases c34:x31_3 < ((rd_II y166 (ji30)).length:Int)
                     ·rw [if_pos c34] at H
                      have c34b0:decide (x31_3 < ((rd_II y166 (ji30)).length:Int))=true:=decide_eq_true c34
                      clear c34
                      obtain ⟨y168,hy168⟩:∃ y_:List Int,y_=((rd_II y166 (ji30)).set (x31_3:Int).toNat x5_4):=⟨_,rfl⟩
                      replace H:(impl_Msr_places.l3 k4 t149 (y166.set ((ji30):Int).toNat y168) (wrap64 (x5_4+1)) (rd x24_2 x26_2) x31_3 (wrap64 (x9_4+1)) x24_4 (y159.length:Int) x26_2 t149 x31_3)=some r:=by first|(rw [hy168];with_reducible exact H)|(have H2_:=(Option.bind_some _ _).symm.trans H;rw [hy168];with_reducible exact H2_)|(have H2_:=(Option.bind_some _ _).symm.trans H;with_reducible exact H2_)|with_reducible exact H|(rw [hy168];exact H)|exact H
                      have Ny168:=am hy168
                      clear hy168
                      obtain ⟨y170,hy170⟩:∃ y_:List (List Int),y_=(y166.set ((ji30):Int).toNat y168):=⟨_,rfl⟩
                      replace H:(impl_Msr_places.l3 k4 t149 y170 (wrap64 (x5_4+1)) (rd x24_2 x26_2) x31_3 (wrap64 (x9_4+1)) x24_4 (y159.length:Int) x26_2 t149 x31_3)=some r:=by first|(rw [hy170];with_reducible exact H)|(have H2_:=(Option.bind_some _ _).symm.trans H;rw [hy170];with_reducible exact H2_)|(have H2_:=(Option.bind_some _ _).symm.trans H;with_reducible exact H2_)|with_reducible exact H|(rw [hy170];exact H)|exact H
                      have Ny170:=am hy170
                      clear hy170
                      have H':=am H
                      clear H
                      try go_wp2
                      have n0_:=am (Kd.S_drew HO_4.out)
                      have n1_:=am (Kd.R_drew HO_24.out)
                      have n2_:=am (qd BK148.out)
                      have n3_:=am (pd HB.out)
                      clear HO_4
                      clear HO_24
                      clear BK148
                      clear HB
                      have HO_4:=n0_
                      have HO_24:=n1_
                      have BK148:=n2_
                      have HB:=n3_
                      clear n0_ n1_ n2_ n3_
                      obtain ⟨Ao37,co37,eo37⟩:=Kd.S_slice HO_4.out
                      (first|subst eo37|(injection eo37 with f1_ f2_ f3_;have f4_:=f1_.symm;have f5_:=f3_.symm;clear f1_ f2_ f3_;subst f4_;subst f5_))
                      have p163:0≤((ji24):Int):=od d1
                      have q163:(ji24) < (x4_4.length:Int):=od d1
                      obtain ⟨ad163,A163_0,c163_0,e163,hx163_0,hl163_0,hi163_0⟩:=at_II (Kd.S_reads' HO_4.out).2.2 (ji24) p163 q163
                      cases e163
                      obtain ⟨ce163,hce163,hMe163,hcc163⟩:=Kd.S_get HO_4.out [] (ji24) p163 (by first|exact q163|exact od d1|(have e_:=(Kd.S_reads' HO_4.out).1;omega))
                      obtain ⟨ve163_0,rfl,ge163_0⟩:=hMe163
                      have hv163_0:=hcc163 0 _ rfl
                      rw [Nat.add_zero,show ((Kd.slice 3 (Kd.int .i64))).sz=1 from rfl,Nat.mul_one] at hv163_0
                      replace hv163_0:=Option.some.inj (hv163_0.symm.trans hx163_0)
                      rw [hv163_0] at ge163_0
                      have HL163_0:=am (show Kd.R (Kd.int .i64) 3 _ _ _ _ (rd_II x4_4 (ji24)) from ge163_0)
                      clear hv163_0 ge163_0
                      have HX163_0:=am hx163_0
                      clear hcc163 hce163
                      have HR163_0:=am hi163_0
                      have HC163_0:=am hl163_0
                      clear hi163_0 hl163_0
                      replace p163:=eq_true p163
                      replace q163:=eq_true q163
                      have p29:0≤(x9_4:Int):=od d1
                      have q29:(x9_4:Int) < (((rd_II x4_4 (ji24)).length:Int):Int):=od d1
                      obtain ⟨go29,co29,eo29,gb29,gl29,cl29,HG29⟩:=Kd.R_form HL163_0.out d10
                      (first|cases eo29|(injection eo29 with ea_ en_ ec_;(first|subst ea_|(injection ea_ with ea_;subst ea_));subst ec_;clear en_))
                      have GB29:=am gb29
                      have GG29:=am HG29
                      clear gb29 gl29 HG29
                      obtain ⟨hx29_0,hf29_0⟩:=Kd.R_celln 0 HL163_0.out (x9_4:Int) p29 q29
                      replace p29:=eq_true p29
                      replace q29:=eq_true q29
                      have hq38:((ji24):Int) < (x4_4.length:Int):=(by have h_:((ji24):Int) < ((x4_4.length:Int):Int):=od d1;first|exact h_|(have e_:=(Kd.S_reads' HO_4.out).1;omega)|simpa only [List.length_set,List.length_set] using h_)
                      obtain ⟨oki38,ce38,hcl38,hM38,hcc38,hok38,hbk38⟩:=Kd.S_borrow HO_4.out [] ((ji24):Int) (od d1) hq38
                      obtain ⟨ve38_0,rfl,ge38_0⟩:=hM38
                      have hv38:=hcc38 0 _ rfl
                      rw [Nat.add_zero,show ((Kd.slice 3 (Kd.int .i64))).sz=1 from rfl,Nat.mul_one] at hv38
                      replace hv38:=Option.some.inj (hv38.symm.trans HX163_0.out)
                      subst hv38
                      clear hcc38 hcl38
                      replace ge38_0:=(show Kd.R (Kd.int .i64) 3 _ _ _ _ (rd_II x4_4 (ji24)) from ge38_0)
                      have HP38:=Kd.R_putg ge38_0 (x9_4:Int) x5_4
                      rw [← Ny164.out] at HP38
                      have HS38:=hbk38 HP38.2 (fun k_ e_=>by injection e_ with e_;subst e_;exact ge38_0.1 _ rfl) (x':=y164) (Kd.M_row HP38.1)
                      rw [← Ny166.out] at HS38
                      have HQ38:=am HS38
                      have hne_:go29 ≠ ad163.block:=fun e_=>(hok38 go29 (ge38_0.1 _ rfl)).2 d59
                      clear HP38 HS38 hbk38 hok38
                      have p2_:0≤((ji30):Int):=od d1
                      have q2_:(ji30) < (x4_4.length:Int):=od d1
                      obtain ⟨ad2_,A2_,c2_,e2_,hx2_,_,_⟩:=at_II (Kd.S_reads' HO_4.out).2.2 (ji30) p2_ q2_
                      obtain rfl:ad163=ad2_:=(by injection e2_)
                      obtain ⟨N2_,hN2_⟩:∃ N_:Nat,N_=(rd_II x4_4 (ji30)).length:=⟨_,rfl⟩
                      rw [← hN2_] at hx2_
                      clear e2_ hN2_
                      replace p2_:=eq_true p2_
                      replace q2_:=eq_true q2_
                      refine KitR.rS (n:=20) (B:=[0,0,0,0,0,0,0,0,0,0,0,0,0,0,0,0,0,86143,0,524287]) (S:=fun w'=>w'.cell? (ad163.add ((ji24)).toNat)=some (.slice (some ⟨go29,0,none⟩) (rd_II x4_4 (ji24)).length c163_0)∧w'.cell? (ad163.add ((ji30)).toNat)=some (.slice A2_ N2_ c2_)) (ds:=[17,19]) [(0,40),(1,41),(2,42),(3,43),(4,44),(6,46),(7,47),(8,48),(9,49),(10,50),(11,51),(13,53),(14,54),(15,55),(5,45),(12,52),(16,56),(17,0),(18,57),(19,0)] d3 rfl rfl d3 ⟨hx163_0,hx2_⟩ (fun hHeld HT_ HW_=>?_)
                      generalize wr.drew=w36 at HO_4 HO_24 BK148 HB GG29 HL163_0 HQ38 HR163_0 HX163_0 hf29_0 hx163_0 hx29_0 hHeld hx2_ ⊢
                      refine KitR.rR ?_
                      refine KitR.rL (N:=none) HT_ rfl rfl d3 d11 (fun K hK=>?_)
                      refine skip_ (w1:=?_) d18 rfl ?_ ?_
                      rotate_left
                      ·go_simp
                       rfl
                      refine hK.out _ _ ?_
                      clear hK K hHeld
                      have n0_:Aside0 (Kd.S (Kd.slice 3 (Kd.int .i64)) 25 (w36.setCell ⟨go29,(x9_4:Int).toNat,none⟩ (.int .i64 x5_4)) w.heap.size (fun k_=>some k_ ≠ (.slice (some ad162) x24_4.length co18:Value).ownBlock) (.slice (some ad163) x4_4.length co37) y166):=⟨by (with_reducible repeat (first|apply Kd.S_alloc|apply Kd.S_drewN|apply Kd.S_drew));exact HQ38.out⟩
                      have n1_:Aside0 (Kd.R (Kd.int .i64) 3 (w36.setCell ⟨go29,(x9_4:Int).toNat,none⟩ (.int .i64 x5_4)) w.heap.size (fun _=>True) (.slice (some ad162) x24_4.length co18) x24_4):=⟨by (with_reducible repeat (first|apply Kd.R_alloc|apply Kd.R_drewN|apply Kd.R_drew));exact Kd.R_mono (Kd.R_far (p:=⟨go29,(x9_4:Int).toNat,none⟩) (Kd.R_far1 HO_24.out rfl ((HL163_0.out.1 _ rfl).1)) (fun _ hk=>hk.2) (.int .i64 x5_4)) (fun _ hk=>trivial)⟩
                      have n2_:Aside0 ((w36.setCell ⟨go29,(x9_4:Int).toNat,none⟩ (.int .i64 x5_4)).heap[gb148]? = some (.cells #[.int .i64 a0_0, .int .i64 a0_1] 72 (0,0))):=⟨by (with_reducible repeat (first|refine qn ?_ _|refine qd ?_|refine qa ?_ _));refine blk_far ?_ (by have h_:=Kd.R_ne HL163_0.out BK148.out d11;intro e_;exact h_ d59) _;(with_reducible repeat (first|refine qn ?_ _|refine qd ?_|refine qa ?_ _));exact BK148.out⟩
                      have n3_:Aside0 (Below w.heap.size w (w36.setCell ⟨go29,(x9_4:Int).toNat,none⟩ (.int .i64 x5_4))):=⟨by repeat (first|(with_reducible first|exact HB.out|apply pa|apply pb|apply pd|refine pt ?_ GB29.out|refine pt ?_ GE148.out)|exact HB.out)⟩
                      (try clear HO_4)
                      (try clear HO_24)
                      (try clear BK148)
                      (try clear HB)
                      have hx3_:(w36.setCell ⟨go29,(x9_4:Int).toNat,none⟩ (.int .i64 x5_4)).cell? (ad163.add ((ji30)).toNat)=some (.slice A2_ N2_ c2_):=(cell_far (fun e_=>hne_ (((pl_add _ _).symm.trans e_).symm)) _).trans hx2_
                      clear hx2_ hne_
                      generalize (w36.setCell ⟨go29,(x9_4:Int).toNat,none⟩ (.int .i64 x5_4))=w40 at n0_ n1_ n2_ n3_ hx3_ ⊢
                      have HO_4:=n0_
                      have HO_24:=n1_
                      have BK148:=n2_
                      have HB:=n3_
                      clear n0_ n1_ n2_ n3_
                      have p167:0≤((ji30):Int):=od d1
                      have q167:(ji30) < (y166.length:Int):=(by have h_:((ji30):Int) < ((x4_4.length:Int):Int):=od d1;first|(have e_:=(Kd.S_reads' HO_4.out).1;omega)|simpa only [Ny166.out,List.length_set] using h_)
                      have ql167:(((ji30):Int) < ((x4_4.length:Int):Int))=True:=eq_true (od d1)
                      obtain ⟨ad167,A167_0,c167_0,e167,hx167_0,hl167_0,hi167_0⟩:=at_II (Kd.S_reads' HO_4.out).2.2 (ji30) p167 q167
                      obtain rfl:ad163=ad167:=(by injection e167)
                      have he_:=Option.some.inj (hx167_0.symm.trans hx3_)
                      clear hx3_
                      injection he_ with he1_ he2_ he3_
                      subst he1_
                      subst he2_
                      subst he3_
                      obtain ⟨ce167,hce167,hMe167,hcc167⟩:=Kd.S_get HO_4.out [] (ji30) p167 (by first|exact q167|exact od d1|(have e_:=(Kd.S_reads' HO_4.out).1;omega))
                      obtain ⟨ve167_0,rfl,ge167_0⟩:=hMe167
                      have hv167_0:=hcc167 0 _ rfl
                      rw [Nat.add_zero,show ((Kd.slice 3 (Kd.int .i64))).sz=1 from rfl,Nat.mul_one] at hv167_0
                      replace hv167_0:=Option.some.inj (hv167_0.symm.trans hx167_0)
                      rw [hv167_0] at ge167_0
                      have HL167_0:=am (show Kd.R (Kd.int .i64) 3 _ _ _ _ (rd_II y166 (ji30)) from ge167_0)
                      clear hv167_0 ge167_0
                      have HX167_0:=am hx167_0
                      clear hcc167 hce167
                      have HR167_0:=am hi167_0
                      have HC167_0:=am hl167_0
                      clear hi167_0 hl167_0
                      replace p167:=eq_true p167
                      replace q167:=eq_true q167
                      have p35:0≤(x31_3:Int):=od d1
                      have q35:(x31_3:Int) < (((rd_II y166 (ji30)).length:Int):Int):=od d1
                      obtain ⟨go35,co35,eo35,gb35,gl35,cl35,HG35⟩:=Kd.R_form HL167_0.out d10
                      (first|cases eo35|(injection eo35 with ea_ en_ ec_;(first|subst ea_|(injection ea_ with ea_;subst ea_));subst ec_;clear en_))
                      have GB35:=am gb35
                      have GG35:=am HG35
                      clear gb35 gl35 HG35
                      obtain ⟨hx35_0,hf35_0⟩:=Kd.R_celln 0 HL167_0.out (x31_3:Int) p35 q35
                      replace p35:=eq_true p35
                      replace q35:=eq_true q35
                      have hq42:((ji30):Int) < (x4_4.length:Int):=od d1
                      obtain ⟨oki42,ce42,hcl42,hM42,hcc42,hok42,hbk42⟩:=Kd.S_borrow HO_4.out [] ((ji30):Int) (od d1) hq42
                      obtain ⟨ve42_0,rfl,ge42_0⟩:=hM42
                      have hv42:=hcc42 0 _ rfl
                      rw [Nat.add_zero,show ((Kd.slice 3 (Kd.int .i64))).sz=1 from rfl,Nat.mul_one] at hv42
                      replace hv42:=Option.some.inj (hv42.symm.trans HX167_0.out)
                      subst hv42
                      clear hcc42 hcl42
                      replace ge42_0:=(show Kd.R (Kd.int .i64) 3 _ _ _ _ (rd_II y166 (ji30)) from ge42_0)
                      have HP42:=Kd.R_putg ge42_0 (x31_3:Int) x5_4
                      rw [← Ny168.out] at HP42
                      have HS42:=hbk42 HP42.2 (fun k_ e_=>by injection e_ with e_;subst e_;exact ge42_0.1 _ rfl) (x':=y168) (Kd.M_row HP42.1)
                      rw [← Ny170.out] at HS42
                      have HQ42:=am HS42
                      clear HP42 HS42 hbk42 hok42
                      refine KitR.rR ?_
                      refine KitR.rL (N:=none) HT_ rfl rfl d3 d11 (fun K hK=>?_)
                      refine skip_ (w1:=?_) d18 rfl ?_ ?_
                      rotate_left
                      ·go_simp
                       rfl
                      refine hK.out _ _ ?_
                      clear hK K
                      refine KitR.rD HT_ d3 ?_
                      try go_wp2
                      (try simp only [← hl24_4])
                      go_roundg k4
                      case measure=>have:=HK1.out;have:=HK2.out;have:=HK3.out;have:=HK4.out;omega
                      case rel=>exact ⟨(y170),(wrap64 (x5_4+1)),(wrap64 (x9_4+1)),(x24_4),d2,d2,H',⟨by have:=HK1.out;have:=HK2.out;have:=HK3.out;have:=HK4.out;omega⟩,⟨by (try simp only [hl24_2]);(try simp only [hl24_3]);(try simp only [hl24_4]);(with_reducible repeat (first|apply Kd.S_alloc|apply Kd.S_drewN|apply Kd.S_drew));exact HQ42.out⟩,⟨by (try simp only [hl24_2]);(try simp only [hl24_3]);(try simp only [hl24_4]);(with_reducible repeat (first|apply Kd.R_alloc|apply Kd.R_drewN|apply Kd.R_drew));exact Kd.R_mono (Kd.R_far (p:=⟨go35,(x31_3:Int).toNat,none⟩) (Kd.R_far1 HO_24.out rfl ((HL167_0.out.1 _ rfl).1)) (fun _ hk=>hk.2) (.int .i64 x5_4)) (fun _ hk=>trivial)⟩,⟨by (try simp only [hl24_2]);(try simp only [hl24_3]);(try simp only [hl24_4]);(with_reducible repeat (first|refine qn ?_ _|refine qd ?_|refine qa ?_ _));refine blk_far ?_ (by have h_:=Kd.R_ne HL167_0.out BK148.out d11;intro e_;exact h_ d59) _;(with_reducible repeat (first|refine qn ?_ _|refine qd ?_|refine qa ?_ _));exact BK148.out⟩,⟨by repeat (first|(with_reducible first|exact HB.out|apply pa|apply pb|apply pd|refine pt ?_ GB35.out|refine pt ?_ GE148.out)|exact HB.out)⟩⟩
                     rw [if_neg c34] at H
                     exact absurd H d20
                    rw [if_neg c33] at H
                    exact absurd H d20
                   rw [if_neg c32] at H
                   exact absurd H d20
                  rw [if_neg c31] at H
                  exact absurd H d20
                 rw [if_neg c28] at H
                 exact absurd H d20
                rw [if_neg c27] at H
                exact absurd H d20
               rw [if_neg c26] at H
               exact absurd H d20
              rw [if_neg c25] at H
              exact absurd H d20
             rw [if_neg c23] at H
             have c23b0:decide (x9_4 < t149)=false:=decide_eq_false c23
             clear c23
             have H':=am H
             clear H
             go_wp2
             (try simp only [← hl24_3,← hl24_4])
             go_roundg k4
             case measure=>have:=HK1.out;have:=HK2.out;have:=HK3.out;have:=HK4.out;omega
             case rel=>exact ⟨(x4_4),(x5_4),(x24_4),(wrap64 (x31_3+1)),d2,d2,H',⟨by have:=HK1.out;have:=HK2.out;have:=HK3.out;have:=HK4.out;omega⟩,⟨by (try simp only [hl24_2]);(try simp only [hl24_3]);(try simp only [hl24_4]);(with_reducible repeat (first|apply Kd.S_alloc|apply Kd.S_drewN|apply Kd.S_drew));exact HO_4.out⟩,⟨by (try simp only [hl24_2]);(try simp only [hl24_3]);(try simp only [hl24_4]);(with_reducible repeat (first|apply Kd.R_alloc|apply Kd.R_drewN|apply Kd.R_drew));exact HO_24.out⟩,⟨by (try simp only [hl24_2]);(try simp only [hl24_3]);(try simp only [hl24_4]);(with_reducible repeat (first|refine qn ?_ _|refine qd ?_|refine qa ?_ _));exact BK148.out⟩,⟨by repeat (first|(with_reducible first|exact HB.out|apply pa|apply pb|apply pd|refine pt ?_ GE148.out)|exact HB.out)⟩⟩
          rw [if_neg c22] at H
          have c22b0:decide (x31_3 < t149)=false:=decide_eq_false c22
          clear c22
          have H':=am H
          clear H
          go_wp2
          (try simp only [← hl24_2,← hl24_3])
          go_roundg k3
          case measure=>have:=HK1.out;have:=HK2.out;have:=HK3.out;omega
          case rel=>exact ⟨(x4_3),(x5_3),(x24_3),(wrap64 (x26_2+1)),d2,d2,H',⟨d56⟩,⟨d61⟩,⟨d60⟩,⟨by (try simp only [hl24_2]);(try simp only [hl24_3]);(with_reducible repeat (first|refine qn ?_ _|refine qd ?_|refine qa ?_ _));exact BK148.out⟩,⟨by repeat (first|(with_reducible first|exact HB.out|apply pa|apply pb|apply pd|refine pt ?_ GE148.out)|exact HB.out)⟩⟩
       rw [if_neg c21] at H
       exact absurd H d20
      rw [if_neg c20] at H
      exact absurd H d20
     rw [if_neg c19] at H
     have c19b0:decide (x26_2 < (y159.length:Int))=false:=decide_eq_false c19
     (try simp only [hl24_2] at c19b0)
     (try simp only [hl24_2] at c19b0)
     clear c19
     obtain rfl:=Option.some.inj H
     go_wp2
     go_ret
     exact ⟨_,d4,by (with_reducible repeat (first|apply Kd.S_alloc|apply Kd.S_drewN|apply Kd.S_drew));exact Kd.S_mono HO_4.out (fun _ hk=>trivial),by repeat (first|(with_reducible first|exact HB.out|apply pa|apply pb|apply pd|refine pt ?_ GE148.out)|exact HB.out)⟩
end

def impl_Msr_size.f (a0_0:Int) (a0_1:Int):Option (Int):=(impl_Msr_alpha.f a0_0 a0_1).bind fun t371=>(some (wrap64 (a0_1*t371)))
theorem impl_Msr_size.calls (a0_0:Int) (a0_1:Int) (r:Int) (w:World) (h:impl_Msr_size.f a0_0 a0_1=some r) :
  Calls Try.prog 157 #[.agg #[.int .i64 a0_0, .int .i64 a0_1]] w fun e w'=>e = .returned (.int .i64 r)∧Below w.heap.size w w':=by
 have hu72:=Try.underlying72
 have HB:=am (Below.refl w.heap.size w)
 have H:((impl_Msr_alpha.f a0_0 a0_1).bind fun t371=>(some (wrap64 (a0_1*t371))))=some r:=h
 clear h
 replace H:=Option.bind_eq_some_iff.mp H
 obtain ⟨t371,A20,H⟩:=H
 replace H:(some (wrap64 (a0_1*t371)))=some r:=H
 have A2:=am A20
 clear A20
 obtain rfl:=Option.some.inj H
 go_enter Try.func157,Try.ntmps157
 try go_wp2_with (first|((with_reducible refine gate_dst (N:=1) rfl ?_);refine box_event ?hg (N:=1) ?hd (cs:=#[.int .i64 a0_0, .int .i64 a0_1]) (t:=72) ?hr ?_;(case hd=>rfl);(case hg=>rfl);(case hr=>first|(go_simp;done)|(go_simp;rfl));intro gb370 hg w3 hbox hb;have n0_:=am (pu d0 hb);have n1_:=am (hbox);have n2_:=am ((by rw [hg];exact (pz d0):w.heap.size≤gb370));have n3_:=n2_;clear HB;have HB:=n0_;have BK370:=n1_;have GW370:=n2_;have GE370:=n3_;clear n0_ n1_ n2_ n3_;clear hb hbox hg))
 have n0_:=am (qd BK370.out)
 have n1_:=am (pd HB.out)
 clear BK370
 clear HB
 have BK370:=n0_
 have HB:=n1_
 clear n0_ n1_
 refine start_ (n:=6) (S:=fun w'=>w'.cell? ⟨gb370,0,none⟩=some (.int .i64 a0_0)∧w'.cell? ⟨gb370,1,none⟩=some (.int .i64 a0_1)) (ds:=[]) #[Z,Z,Z,Z,Z,Z] d3 rfl rfl ⟨(blk_cell BK370.out 0).trans rfl,(blk_cell BK370.out 1).trans rfl⟩ (fun hHeld=>?_)
 generalize w3.drew=w4 at BK370 HB hHeld ⊢
 refine pure_ (i:=0) (N:=some 3) (v:=?_) (a':=?_) #[Y,Z,Z,Z,Z,Z] rfl rfl d3 hh (Or.inl ⟨d18,?_⟩) ?_ ?_
 rotate_left
 ·intro w'
  go_simp
  with_reducible rfl
 rotate_left
 ·simp only [Act.put,q1,q2,q3,i64_w,i32_w]
  rfl
 refine take_ (i:=1) (N:=some 4) (v:=?_) (a':=?_) #[Y,Y,Z,Z,Z,Z] rfl rfl d3 hh (Or.inl ⟨d18,?_⟩) hHeld ?_ ?_
 rotate_left
 ·rintro w' ⟨s0,s1⟩
  go_simp
  with_reducible rfl
 rotate_left
 ·simp only [Act.put,q1,q2,q3,i64_w,i32_w]
  rfl
 refine take_ (i:=2) (N:=some 5) (v:=?_) (a':=?_) #[Y,Y,Y,Z,Z,Z] rfl rfl d3 hh (Or.inl ⟨d18,?_⟩) hHeld ?_ ?_
 rotate_left
 ·rintro w' ⟨s0,s1⟩
  go_simp
  with_reducible rfl
 rotate_left
 ·simp only [Act.put,q1,q2,q3,i64_w,i32_w]
  rfl
 refine one_ (i:=3) (N:=some 6) #[Y,Y,Y,Y,Z,Z] rfl rfl d3 d11 (fun K hK=>?_)
 refine goes_ Try.func128 d3 rfl #[.agg #[.int .i64 a0_0, .int .i64 a0_1]] d18 rfl rfl d5 ?_
 with_reducible refine (impl_Msr_alpha.calls a0_0 a0_1 t371 _ A2.out).mono ?_
 rintro e w5 ⟨rfl,hb⟩
 refine ⟨_,rfl,?_⟩
 have n0_:=am (qb (g:=gb370) (o:=.cells #[.int .i64 a0_0, .int .i64 a0_1] 72 (0,0)) (by (with_reducible repeat (first|refine qn ?_ _|refine qd ?_|refine qa ?_ _));exact BK370.out) hb)
 have n1_:=am (pu (by repeat (first|(with_reducible first|exact HB.out|apply pa|apply pb|apply pd|refine pt ?_ GE370.out)|exact HB.out)) hb)
 clear BK370
 clear HB
 have BK370:=n0_
 have HB:=n1_
 clear n0_ n1_
 (try clear hb)
 (try clear hb2)
 (try clear hk)
 (try clear hi)
 refine hK.out _ _ ⟨(blk_cell BK370.out 0).trans rfl,(blk_cell BK370.out 1).trans rfl⟩ (fun hHeld=>?_)
 clear hK K
 refine norm_ (a':=?_) ?_ ?_
 rotate_left
 ·show Act.put _ (some 6) _=_
  simp only [Act.put,q1,q2,q3,i64_w,i32_w]
  rfl
 refine pure_ (i:=4) (N:=some 7) (v:=?_) (a':=?_) #[Y,Y,Y,Y,Y,Z] rfl rfl d3 hh (Or.inl ⟨d18,?_⟩) ?_ ?_
 rotate_left
 ·intro w'
  go_simp
  with_reducible rfl
 rotate_left
 ·simp only [Act.put,q1,q2,q3,i64_w,i32_w]
  rfl
 refine pure_ (i:=5) (N:=some 2) (v:=?_) (a':=?_) #[Y,Y,Y,Y,Y,Y] rfl rfl d3 hh (Or.inl ⟨d18,?_⟩) ?_ ?_
 rotate_left
 ·intro w'
  go_simp
  with_reducible rfl
 rotate_left
 ·simp only [Act.put,q1,q2,q3,i64_w,i32_w]
  rfl
 refine done_ d3 ?_
 try go_wp2
 go_ret
 exact ⟨d4,by repeat (first|(with_reducible first|exact HB.out|apply pa|apply pb|apply pd|refine pt ?_ GE370.out)|exact HB.out)⟩

end Go.Proofs.Ytajikfnpcobnpaa.PFnExactDecodeMsr
-- HALVED
-- SQUEEZED
-- SQUEEZED2
-- SQUEEZED3
-- SQUEEZED4
-- SQUEEZED5
-- SQUEEZED6
