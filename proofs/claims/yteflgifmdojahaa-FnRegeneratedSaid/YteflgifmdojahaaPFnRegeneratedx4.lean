import Derived.Test.YteflgifmdojahaaVFnRegeneratedB
import Derived.Test.YteflgifmdojahaaPFnRegeneratedx0
import Derived.Test.YteflgifmdojahaaPFnRegeneratedx1
import Derived.Test.YteflgifmdojahaaPFnRegeneratedx2
import Derived.Test.YteflgifmdojahaaPFnRegeneratedx3
namespace Go.Proofs.Yteflgifmdojahaa.PFnRegenerated
open Go.RowKit Go.Proofs.YteflgifmdojahaaW.PrintWords Go.Proofs.YteflgifmdojahaaW.PrintLast Go.Proofs.YteflgifmdojahaaW.PrintMore Go.Proofs.Yteflgifmdojahaa.KitS
attribute [local go_sem] max2_int min2_int max_two min_two max_three min_three max_four min_four
set_option linter.unusedVariables false
set_option maxHeartbeats 8000000
set_option maxRecDepth 100000
set_option linter.unusedSimpArgs false
mutual
def impl_RegeneratePiece.j0:Nat→Int→List (S85)→Bool→Int→Int→Option (Int × List Int × Bool)
 | 0,_,_,_,_,_=>none
 | k+1,x1,x2,x27,x394000,x394001=>if x27=true then (some (0,([]:List Int),false)) else (impl_RegeneratePiece.l0 k x1 x2 (([]:List (List Int))) (([]:List Int)) x2 (x2.length:Int) 0 x394000 x394001)
def impl_RegeneratePiece.l0:Nat→Int→List (S85)→List (List Int)→List Int→List (S85)→Int→Int→Int→Int→Option (Int × List Int × Bool)
 | 0,_,_,_,_,_,_,_,_,_=>none
 | k+1,x1,x2,x8,x9,x31,x32,x33,x394000,x394001=>if x33 < x32 then (if 0≤x33 then (if x33 < (x31.length:Int) then ((impl_Msr_isNode.f x394000 x394001 ((rd_T85 x31 x33).f0)).bind fun t405=>(if t405=true then (if ((rd_T85 x31 x33).f0)=x1 then (some (0,([]:List Int),false)) else (if x33 > 0 then (if 0≤(wrap64 (x33 - 1)) then (if (wrap64 (x33 - 1)) < (x2.length:Int) then (if ((rd_T85 x31 x33).f0)≤((rd_T85 x2 (wrap64 (x33 - 1))).f0) then (some (0,([]:List Int),false)) else ((impl_Msr_row.f k x394000 x394001 ((rd_T85 x31 x33).f0)).bind fun t407=>(if x8.length < 5864062014805 then (if x9.length < 140737488355328 then (impl_RegeneratePiece.l0 k x1 x2 (x8 ++ [t407]) (x9 ++ [(rd_T85 x31 x33).f1]) x31 x32 (wrap64 (x33+1)) x394000 x394001) else (none)) else (none)))) else (none)) else (none)) else ((impl_Msr_row.f k x394000 x394001 ((rd_T85 x31 x33).f0)).bind fun t416=>(if x8.length < 5864062014805 then (if x9.length < 140737488355328 then (impl_RegeneratePiece.l0 k x1 x2 (x8 ++ [t416]) (x9 ++ [(rd_T85 x31 x33).f1]) x31 x32 (wrap64 (x33+1)) x394000 x394001) else (none)) else (none))))) else (some (0,([]:List Int),false)))) else (none)) else (none)) else ((impl_solve.f k x8 x9).bind fun bt425=>(if bt425.2=true then ((impl_Msr_powers.f k x394000 x394001 x1).bind fun bt429=>((impl_Msr_alpha.f x394000 x394001).bind fun t433=>(if 0≤t433 then (if t433≤(bt425.1.length:Int) then ((impl_Msr_alpha.f x394000 x394001).bind fun t438=>(if 0≤t438 then (if t438≤(bt425.1.length:Int) then ((impl_scaled.f k bt429.2 (bt425.1.drop (t438:Int).toNat)).bind fun t443=>((impl_added.f k (bt425.1.take (t433:Int).toNat) t443).bind fun t446=>(some (x1,t446,true)))) else (none)) else (none))) else (none)) else (none)))) else (some (0,([]:List Int),false))))
end
def impl_RegeneratePiece.f (k:Nat) (a0_0:Int) (a0_1:Int) (a1:Int) (l2:List (S85)):Option (Int × List Int × Bool):=(impl_Msr_isNode.f a0_0 a0_1 a1).bind fun t395=>(if t395=true then ((impl_Msr_alpha.f a0_0 a0_1).bind fun t396=>(impl_RegeneratePiece.j0 k a1 l2 ((l2.length:Int) != (wrap64 (2*t396))) a0_0 a0_1)) else (impl_RegeneratePiece.j0 k a1 l2 true a0_0 a0_1))
theorem impl_RegeneratePiece.mono_l:∀ k,(∀ y0 y1 y2 y3 y4,LeO (impl_RegeneratePiece.j0 k y0 y1 y2 y3 y4) (impl_RegeneratePiece.j0 (k+1) y0 y1 y2 y3 y4))∧(∀ y0 y1 y2 y3 y4 y5 y6 y7 y8,LeO (impl_RegeneratePiece.l0 k y0 y1 y2 y3 y4 y5 y6 y7 y8) (impl_RegeneratePiece.l0 (k+1) y0 y1 y2 y3 y4 y5 y6 y7 y8))
 | 0=>⟨fun _ _ _ _ _ r h=>by simp [impl_RegeneratePiece.j0] at h,fun _ _ _ _ _ _ _ _ _ r h=>by simp [impl_RegeneratePiece.l0] at h⟩
 | k+1=>by
  obtain ⟨ih0,ih1⟩:=impl_RegeneratePiece.mono_l k
  refine ⟨?_,?_⟩
  ·intro y0 y1 y2 y3 y4
   unfold impl_RegeneratePiece.j0
   exact mm
  intro y0 y1 y2 y3 y4 y5 y6 y7 y8
  unfold impl_RegeneratePiece.l0
  exact mm
theorem impl_RegeneratePiece.mono:∀ a0 a1 a2 a3 k,LeO (impl_RegeneratePiece.f k a0 a1 a2 a3) (impl_RegeneratePiece.f (k+1) a0 a1 a2 a3):=by
 intro a0 a1 a2 a3 k
 obtain ⟨ih0,ih1⟩:=impl_RegeneratePiece.mono_l k
 unfold impl_RegeneratePiece.f
 exact mm
def impl_RegeneratePiece.T7:Bool × List (List Nat × List Nat):=(true,[([],[]),([],[]),([1],[1]),([0,2],[0,2]),([3],[3]),([4,3],[4]),([5],[5]),([6,5],[5,6]),([5],[5]),([7,8,5],[5,7,8]),([5,9],[5,9]),([10,5],[10]),([11],[11]),([12,11],[11,12]),([13,11,11],[11,13]),([14],[14]),([15,14],[14,15]),([14],[14]),([14],[14]),([18,14],[14,18]),([17,19,14],[14,17,19]),([20,14],[14,20]),([21,14],[14,21]),([16,22,14],[14,16,22]),([14,23,11],[11,14,23]),([11,24],[11,24])])
def impl_RegeneratePiece.B7:List Nat:=[0,0,2,7,15,31,63,127,63,511,1023,2047,4095,8191,16383,32767,65535,32767,32767,294911,950271,1998847,4095999,8388607,16777215,33554431]
theorem impl_RegeneratePiece.tab7:rtab .any (opsOf Try.f55 7)=impl_RegeneratePiece.T7:=by kernel_rfl
theorem impl_RegeneratePiece.bits7:waitsOk impl_RegeneratePiece.T7.2 impl_RegeneratePiece.B7=true:=by kernel_rfl
def impl_RegeneratePiece.T16:Bool × List (List Nat × List Nat):=(true,[([],[]),([],[]),([],[]),([2],[2]),([1,3],[1,3]),([],[]),([],[]),([],[]),([7,3],[7]),([6,8],[6,8]),([5,9,8],[5,9]),([4,10,10],[4,10]),([0,11],[0,11]),([12,11,0,1,2,3,4,5,6,7,8,9,10,11,12],[12]),([13,0,1,2,3,4,5,6,7,8,9,10,11,12,13],[])])
def impl_RegeneratePiece.B16:List Nat:=[0,0,0,4,14,0,0,0,140,460,1004,2046,4095,8191,16383]
theorem impl_RegeneratePiece.tab16:rtab .any (opsOf Try.f55 16)=impl_RegeneratePiece.T16:=by kernel_rfl
theorem impl_RegeneratePiece.bits16:waitsOk impl_RegeneratePiece.T16.2 impl_RegeneratePiece.B16=true:=by kernel_rfl
theorem impl_RegeneratePiece.calls (k:Nat) (a0_0:Int) (a0_1:Int) (a1:Int) (A2:Option Addr) (c2:Nat) (l2:List (S85)) (r1:Int) (r2:List Int) (r3:Bool) (w:World) (hr2:Kd.C k85 w A2 l2.length l2) (hc2:l2.length≤c2) (h:impl_RegeneratePiece.f k a0_0 a0_1 a1 l2=some (r1,r2,r3)) :
  Calls Try.prog 55 #[.agg #[.int .i64 a0_0, .int .i64 a0_1], .int .i64 a1, .slice A2 l2.length c2] w fun e w'=>∃ v1_:Value,e = .returned (.tuple #[.agg #[.int .i64 r1,v1_], .bool r3])∧Kd.R (Kd.int .u8) 5 w' w.heap.size (fun _=>True) v1_ r2∧Below w.heap.size w w':=by
 have hu30:=Try.underlying30
 have hu76:=Try.underlying76
 have hu85:=Try.underlying85
 have HR2:=am hr2
 have HC2:=am hc2
 clear hr2 hc2
 have HB:=am (Below.refl w.heap.size w)
 have H:=h
 unfold impl_RegeneratePiece.f at H
 clear h
 have HC4:=am H
 clear H
 go_enter Try.func55,Try.ntmps55
 go_upto_region 1 with (first|((with_reducible refine gD 3 ?_);(try (refine gate_guard D16 ?_;dsimp only));refine gB (cs:=#[.int .i64 a0_0, .int .i64 a0_1]) 30 ?_;intro gb393 hg w5 hbox hb;have BK393:=am (hbox);have GW393:=ye HB hg;replace HB:=yH HB hb;have GE393:=GW393;clear hb hbox hg)|((with_reducible refine gD 6 ?_);(try (refine gate_guard D16 ?_;dsimp only));refine gB (cs:=#[.int .i64 0, .slice none 0 0]) 76 ?_;intro gb394 hg w6 hbox hb;have BK394:=am (hbox);have GW394:=ye HB hg;replace HB:=yH HB hb;have NB393_394:=yl BK393 hg;have NB394_393:=yg BK393 hg;replace BK393:=yb BK393 hb;have GE394:=GW394;clear hb hbox hg))
 (try simp only [Act.put,q1,q2,q3])
 go_cut [27] (fun v27 wc=>∃ (kq:Nat) (x27_3:Bool),v27 = .bool x27_3∧Aside0 (impl_RegeneratePiece.j0 kq a1 l2 x27_3 a0_0 a0_1=some (r1,r2,r3))∧Aside0 (kq≤k)∧Aside0 (wc.heap[gb393]? = some (.cells #[.int .i64 a0_0, .int .i64 a0_1] 30 (0,0)))∧Aside0 (wc.heap[gb394]? = some (.cells #[.int .i64 0,(.slice none 0 0)] 76 (0,0)))∧Aside0 (Below w.heap.size w wc))
 case first =>
  have H:=HC4.out
  clear HC4
  obtain ⟨t395,A7,H⟩:=yo H
  by_cases c8:t395=true
  ·subst c8
   replace H:=yt H
   obtain ⟨t396,A9,H⟩:=yo H
   have H':=am H
   clear H
   have hnb10:=NB393_394.out
   have hnc10:=NB394_393.out
   obtain ⟨hcz11_0,hcz11_1,hfz11_0,hfz11_1⟩:=yk2 BK393
   go_wp2_with (first|((with_reducible refine gC 110 ?_);refine gM (some 18) Try.func110 (args:=#[.agg #[.int .i64 a0_0, .int .i64 a0_1], .int .i64 a1]) (impl_Msr_isNode.calls a0_0 a0_1 a1 true _ A7.out) ?_;rintro e w12 ⟨rfl,hb⟩;refine ⟨_,rfl,?_⟩;replace BK393:=yb BK393 hb;replace BK394:=yb BK394 hb;replace HB:=yH HB hb;clear hb;obtain ⟨hcz13_0,hcz13_1,hfz13_0,hfz13_1⟩:=yk2 BK393)|(go_at_call 103;(with_reducible refine (impl_Msr_alpha.calls a0_0 a0_1 t396 _ A9.out).mono ?_);rintro e w14 ⟨rfl,hb⟩;replace BK393:=yb BK393 hb;replace BK394:=yb BK394 hb;replace HB:=yH HB hb;clear hb))
   go_meet
   case rel=>exact ⟨_,(((l2.length:Int) != (wrap64 (2*t396)))),D1,H',⟨D57⟩,⟨yB BK393⟩,⟨yB BK394⟩,⟨yW HB⟩⟩
  replace c8:=Bool.eq_false_iff.mpr c8
  subst c8
  replace H:=yn H
  have H':=am H
  clear H
  have hnb15:=NB393_394.out
  have hnc15:=NB394_393.out
  obtain ⟨hcz16_0,hcz16_1,hfz16_0,hfz16_1⟩:=yk2 BK393
  go_wp2_with (first|((with_reducible refine gC 110 ?_);refine gM (some 18) Try.func110 (args:=#[.agg #[.int .i64 a0_0, .int .i64 a0_1], .int .i64 a1]) (impl_Msr_isNode.calls a0_0 a0_1 a1 false _ A7.out) ?_;rintro e w17 ⟨rfl,hb⟩;refine ⟨_,rfl,?_⟩;replace BK393:=yb BK393 hb;replace BK394:=yb BK394 hb;replace HB:=yH HB hb;clear hb))
  go_meet
  case rel=>exact ⟨_,(true),D1,H',⟨D57⟩,⟨yB BK393⟩,⟨yB BK394⟩,⟨yW HB⟩⟩
 case rest =>
  clear HC4
  try clear c1
  try clear c2
  try clear p2
  try clear c5
  try clear p6
  try clear c8
  try clear c10
  try clear c11
  try clear c15
  try clear hcz11_0
  try clear hcz11_1
  try clear hcz13_0
  try clear hcz13_1
  try clear hcz16_0
  try clear hcz16_1
  try clear hfz11_0
  try clear hfz11_1
  try clear hfz13_0
  try clear hfz13_1
  try clear hfz16_0
  try clear hfz16_1
  obtain ⟨kq,x27_3,rfl,HA,HJ3,BK393,BK394,HB⟩:=hcut
  cases kq with
  | zero=>exact absurd HA.out (by simp [impl_RegeneratePiece.j0])
  | succ kj3 =>
   have H:=HA.out
   clear HA
   simp only [impl_RegeneratePiece.j0] at H
   by_cases c18:x27_3=true
   ·subst c18
    replace H:=yt H
    simp only [Option.some.injEq,Prod.mk.injEq] at H
    obtain ⟨rfl,rfl,rfl⟩:=H
    have hnb19:=NB394_393.out
    have hnc19:=NB393_394.out
    obtain ⟨hcz20_0,hcz20_1,hfz20_0,hfz20_1⟩:=yk2 BK394
    go_wp2
    refine bodyPost_ret (results_ct rfl _ _ gb394 76 #[.int .i64 0, .slice none 0 0] (0,0) _ rfl (by refine sB ?_;refine blk_put (cs:=#[.int .i64 0, .slice none 0 0]) ?_ 1 _ rfl;refine sB ?_;refine blk_put (cs:=#[.int .i64 0, .slice none 0 0]) ?_ 0 _ rfl;exact yB BK394) Try.underlying76 rfl D2) rfl ?_
    exact ⟨_,D3,D10,yW HB⟩
   replace c18:=Bool.eq_false_iff.mpr c18
   subst c18
   replace H:=yn H
   generalize hy397:(([]:List (List Int)):List (List Int))=y397 at H
   have Ny397:=am hy397.symm
   clear hy397
   generalize hy400:(([]:List Int):List Int)=y400 at H
   have Ny400:=am hy400.symm
   clear hy400
   have H':=am H
   clear H
   go_wp2_with (first|((with_reducible refine gD 29 ?_);(try (refine gate_guard D16 ?_;dsimp only));refine Kd.S_lit (Kd.slice 5 (Kd.int .u8)) _ 24 D16 (N:=29) D16 (xs:=([]:List (List Int))) (inner:=[]) (ok:=fun _=>True) (okp:=fun _=>True) D33 D65 (fun _ hk=>hk) trivial (Below.refl _ _) (Nat.le_refl _) D44 ?_;intro v398 w21 ho22 hb hg_ hnew_;clear hg_ hnew_;(first|rw [← Ny397.out] at ho22|(simp only [Int.reduceToNat] at ho22;rw [← Ny397.out] at ho22));have HO399:=am (Kd.S_lower ho22 (pz (yW HB)));replace BK393:=yb BK393 hb;replace BK394:=yb BK394 hb;replace HB:=yH HB hb;clear hb ho22)|((with_reducible refine gD 30 ?_);(try (refine gate_guard D16 ?_;dsimp only));refine Kd.R_lit (Kd.int .u8) _ 5 D16 (N:=30) D16 (xs:=([]:List Int)) (inner:=[]) (ok:=fun _=>True) (okp:=fun _=>True) D33 D65 (fun _ hk=>hk) trivial (Below.refl _ _) (Nat.le_refl _) D44 ?_;intro v401 w23 ho24 hb hg_ hnew_;clear hg_ hnew_;(first|rw [← Ny400.out] at ho24|(simp only [Int.reduceToNat] at ho24;rw [← Ny400.out] at ho24));replace HO399:=eS HO399 (Kd.R_base ho24) hb;have HO402:=am (Kd.R_lower ho24 (pz (yW HB)));replace BK393:=yb BK393 hb;replace BK394:=yb BK394 hb;replace HB:=yH HB hb;clear hb ho24))
   go_loopg [8,9,33] kj3 (fun kq v8 v9 v33 w'=>∃ (x8_2:List (List Int)) (x9_2:List Int) (x33_2:Int) (x395000_2:Int),v33 = .int .i64 x33_2∧Aside0 (impl_RegeneratePiece.l0 kq a1 l2 x8_2 x9_2 l2 (l2.length:Int) x33_2 a0_0 a0_1=some (r1,r2,r3))∧Aside0 (kq≤kj3)∧Aside0 (Kd.S (Kd.slice 5 (Kd.int .u8)) 24 w' w.heap.size (fun k_=>some k_ ≠ (v9:Value).ownBlock) v8 x8_2)∧Aside0 (Kd.R (Kd.int .u8) 5 w' w.heap.size (fun _=>True) v9 x9_2)∧Aside0 (w'.heap[gb393]? = some (.cells #[.int .i64 a0_0, .int .i64 a0_1] 30 (0,0)))∧Aside0 (w'.heap[gb394]? = some (.cells #[.int .i64 x395000_2,(.slice none 0 0)] 76 (0,0)))∧Aside0 (Below w.heap.size w w'))
   case atStart=>exact ⟨(y397),(y400),(0),(0),D1,H',⟨Nat.le_refl _⟩,⟨by refine sS ?_;exact Kd.S_mono HO399.out (fun _ hk=>hk.2)⟩,⟨yR HO402⟩,⟨yB BK393⟩,⟨yB BK394⟩,⟨yW HB⟩⟩
   case round =>
    clear H'
    try clear c1
    try clear c2
    try clear p2
    try clear c5
    try clear p6
    try clear c8
    try clear c10
    try clear c11
    try clear c15
    try clear c18
    try clear c19
    try clear hcz11_0
    try clear hcz11_1
    try clear hcz13_0
    try clear hcz13_1
    try clear hcz16_0
    try clear hcz16_1
    try clear hcz20_0
    try clear hcz20_1
    try clear hfz11_0
    try clear hfz11_1
    try clear hfz13_0
    try clear hfz13_1
    try clear hfz16_0
    try clear hfz16_1
    try clear hfz20_0
    try clear hfz20_1
    try clear p2
    try clear p6
    obtain ⟨x8_2,x9_2,x33_2,x395000_2,rfl,HA,HK2,HO_8,HO_9,BK393,BK394,HB⟩:=hrel
    cases gk with
    | zero=>exact absurd HA.out (by simp [impl_RegeneratePiece.l0])
    | succ k2 =>
     have H:=HA.out
     clear HA
     simp only [impl_RegeneratePiece.l0] at H
     by_cases c25:x33_2 < (l2.length:Int)
     ·rw [if_pos c25] at H
      have c25b0:=decide_eq_true c25
      clear c25
      obtain ⟨c26,H⟩:=yi H
      have c26b0:=decide_eq_true c26
      clear c26
      obtain ⟨c27,H⟩:=yi H
      have c27b0:=decide_eq_true c27
      clear c27
      obtain ⟨t405,A28,H⟩:=yo H
      by_cases c29:t405=true
      ·subst c29
       replace H:=yt H
       by_cases c30:((rd_T85 l2 x33_2).f0)=a1
       ·rw [if_pos c30] at H
        have c30b0:(((rd_T85 l2 x33_2).f0) == a1)=true:=beq_iff_eq.mpr c30
        have c30b1:(((rd_T85 l2 x33_2).f0) != a1)=false:=bne_eq_false_iff_eq.mpr c30
        clear c30
        simp only [Option.some.injEq,Prod.mk.injEq] at H
        obtain ⟨rfl,rfl,rfl⟩:=H
        have p403:0≤(x33_2:Int):=od D0
        have q403:x33_2 < (l2.length:Int):=od D0
        obtain ⟨ad403,e403,hx403_0,hx403_1⟩:=at_T85 HR2.out x33_2 p403 q403
        cases e403
        replace hx403_0:=(HB.out.cell (World.block_lt_of_cell? w _ hx403_0)).trans hx403_0
        replace hx403_1:=(HB.out.cell (World.block_lt_of_cell? w _ hx403_1)).trans hx403_1
        replace p403:=eq_true p403
        replace q403:=eq_true q403
        try go_wp2_with (first|((with_reducible refine gD 11 ?_);(try (refine gate_guard D16 ?_;dsimp only));refine gB (cs:=#[.int .i64 0, .int .u8 0]) 85 ?_;intro gb404 hg w31 hbox hb;replace HO_8:=bS HO_8 hb;replace HO_9:=bR HO_9 hb;have BK404:=am (hbox);have GW404:=ye HB hg;replace HB:=yH HB hb;have NB393_404:=yl BK393 hg;have NB404_393:=yg BK393 hg;replace BK393:=yb BK393 hb;have NB394_404:=yl BK394 hg;have NB404_394:=yg BK394 hg;replace BK394:=yb BK394 hb;have GE404:=GW404;clear hb hbox hg;have hnb32:=NB404_393.out;have hnc32:=NB393_404.out;have hnb33:=NB404_394.out;have hnc33:=NB394_404.out;obtain ⟨hcz34_0,hcz34_1,hfz34_0,hfz34_1⟩:=yk2 BK404))
        generalize hw_:((w31.setCell ⟨gb404,0,none⟩ (.int .i64 ((rd_T85 l2 x33_2).f0))).setCell ⟨gb404,1,none⟩ (.int .u8 ((rd_T85 l2 x33_2).f1)))=w35
        replace HO_8:Aside0 (Kd.S (Kd.slice 5 (Kd.int .u8)) 24 w35 w.heap.size (fun k_=>some k_ ≠ (u9:Value).ownBlock) u8 x8_2):=⟨D31⟩
        replace HO_9:Aside0 (Kd.R (Kd.int .u8) 5 w35 w.heap.size (fun _=>True) u9 x9_2):=⟨D30⟩
        replace BK393:Aside0 (w35.heap[gb393]? = some (.cells #[.int .i64 a0_0, .int .i64 a0_1] 30 (0,0))):=⟨by rw [← hw_];exact yF BK393⟩
        replace BK394:Aside0 (w35.heap[gb394]? = some (.cells #[.int .i64 x395000_2, .slice none 0 0] 76 (0,0))):=⟨by rw [← hw_];exact yF BK394⟩
        replace BK404:Aside0 (w35.heap[gb404]? = some (.cells #[.int .i64 ((rd_T85 l2 x33_2).f0), .int .u8 ((rd_T85 l2 x33_2).f1)] 85 (0,0))):=⟨D36⟩
        replace HB:Aside0 (Below w.heap.size w w35):=⟨D69⟩
        clear hw_
        replace HO_8:=am (Kd.S_drew HO_8.out)
        replace HO_9:=am (Kd.R_drew HO_9.out)
        replace BK393:=am (qd BK393.out)
        replace BK394:=am (qd BK394.out)
        replace BK404:=am (qd BK404.out)
        replace HB:=am (pd HB.out)
        refine rS (n:=26) (S:=fun w'=>w'.cell? ⟨gb393,0,none⟩=some (.int .i64 a0_0)∧w'.cell? ⟨gb393,1,none⟩=some (.int .i64 a0_1)∧w'.cell? ⟨gb404,0,none⟩=some (.int .i64 ((rd_T85 l2 x33_2).f0))∧w'.cell? ⟨gb404,1,none⟩=some (.int .u8 ((rd_T85 l2 x33_2).f1))) (ds:=[]) [(1,39),(0,38),(2,40),(3,0),(4,42),(5,43),(6,44),(8,46),(7,45),(9,47),(10,48),(11,49),(12,50),(13,51),(14,52),(15,53),(16,54),(17,55),(18,56),(19,57),(20,58),(21,59),(22,60),(23,61),(24,62),(25,63)] D2 rfl impl_RegeneratePiece.tab7 impl_RegeneratePiece.bits7 ⟨yk BK393 0,yk BK393 1,yk BK404 0,yk BK404 1⟩ (fun hHeld HT_ HW_=>?_)
        generalize w35.drew=w36 at HO_8 HO_9 BK393 BK394 BK404 HB hHeld ⊢
        refine rR ?_
        refine rO (N:=some 41) HT_ rfl rfl D2 D5 (fun K hK=>?_)
        refine goes_ Try.func110 D2 rfl #[.agg #[.int .i64 a0_0, .int .i64 a0_1], .int .i64 ((rd_T85 l2 x33_2).f0)] D16 rfl rfl D8 ?_
        with_reducible refine (impl_Msr_isNode.calls a0_0 a0_1 ((rd_T85 l2 x33_2).f0) true _ A28.out).mono ?_
        rintro e w37 ⟨rfl,hb⟩
        refine ⟨_,rfl,?_⟩
        replace HO_8:=bS HO_8 hb
        replace HO_9:=bR HO_9 hb
        replace BK393:=yb BK393 hb
        replace BK394:=yb BK394 hb
        replace BK404:=yb BK404 hb
        replace HB:=yH HB hb
        (try clear hb)
        (try clear hb2)
        (try clear hk)
        (try clear hi)
        refine hK.out _ _ ⟨yk BK393 0,yk BK393 1,yk BK404 0,yk BK404 1⟩ (fun hHeld=>?_)
        clear hK K
        refine rN (nA 41) ?_
        refine rR ?_
        refine rD HT_ D2 ?_
        have hnb38:=NB394_393.out
        have hnc38:=NB393_394.out
        obtain ⟨hcz39_0,hcz39_1,hfz39_0,hfz39_1⟩:=yk2 BK394
        try go_wp2
        refine bodyPost_ret (results_ct rfl _ _ gb394 76 #[.int .i64 0, .slice none 0 0] (0,0) _ rfl D49 Try.underlying76 rfl D2) rfl ?_
        exact ⟨_,D3,D10,yW HB⟩
       rw [if_neg c30] at H
       have c30b0:(((rd_T85 l2 x33_2).f0) == a1)=false:=beq_eq_false_iff_ne.mpr c30
       have c30b1:(((rd_T85 l2 x33_2).f0) != a1)=true:=bne_iff_ne.mpr c30
       by_cases c40:x33_2 > 0
       ·rw [if_pos c40] at H
        have c40b0:decide (0 < x33_2)=true:=decide_eq_true c40
        clear c40
        generalize hji41:(wrap64 (x33_2 - 1))=ji41 at H
        (try rw [hji41] at A28)
        have hji41w:(IntKind.i64.wrap (x33_2 - 1))=ji41:=(i64_w _).trans hji41
        obtain ⟨c42,H⟩:=yi H
        have c42b0:=decide_eq_true c42
        clear c42
        obtain ⟨c43,H⟩:=yi H
        have c43b0:=decide_eq_true c43
        clear c43
        by_cases c44:((rd_T85 l2 x33_2).f0)≤((rd_T85 l2 (ji41)).f0)
        ·rw [if_pos c44] at H
         have c44b0:=decide_eq_true c44
         clear c44
         simp only [Option.some.injEq,Prod.mk.injEq] at H
         obtain ⟨rfl,rfl,rfl⟩:=H
         have p403:0≤(x33_2:Int):=od D0
         have q403:x33_2 < (l2.length:Int):=od D0
         obtain ⟨ad403,e403,hx403_0,hx403_1⟩:=at_T85 HR2.out x33_2 p403 q403
         cases e403
         replace hx403_0:=(HB.out.cell (World.block_lt_of_cell? w _ hx403_0)).trans hx403_0
         replace hx403_1:=(HB.out.cell (World.block_lt_of_cell? w _ hx403_1)).trans hx403_1
         replace p403:=eq_true p403
         replace q403:=eq_true q403
         try go_wp2_with (first|((with_reducible refine gD 11 ?_);(try (refine gate_guard D16 ?_;dsimp only));refine gB (cs:=#[.int .i64 0, .int .u8 0]) 85 ?_;intro gb404 hg w45 hbox hb;replace HO_8:=bS HO_8 hb;replace HO_9:=bR HO_9 hb;have BK404:=am (hbox);have GW404:=ye HB hg;replace HB:=yH HB hb;have NB393_404:=yl BK393 hg;have NB404_393:=yg BK393 hg;replace BK393:=yb BK393 hb;have NB394_404:=yl BK394 hg;have NB404_394:=yg BK394 hg;replace BK394:=yb BK394 hb;have GE404:=GW404;clear hb hbox hg;have hnb46:=NB404_393.out;have hnc46:=NB393_404.out;have hnb47:=NB404_394.out;have hnc47:=NB394_404.out;obtain ⟨hcz48_0,hcz48_1,hfz48_0,hfz48_1⟩:=yk2 BK404))
         generalize hw_:((w45.setCell ⟨gb404,0,none⟩ (.int .i64 ((rd_T85 l2 x33_2).f0))).setCell ⟨gb404,1,none⟩ (.int .u8 ((rd_T85 l2 x33_2).f1)))=w49
         replace HO_8:Aside0 (Kd.S (Kd.slice 5 (Kd.int .u8)) 24 w49 w.heap.size (fun k_=>some k_ ≠ (u9:Value).ownBlock) u8 x8_2):=⟨D31⟩
         replace HO_9:Aside0 (Kd.R (Kd.int .u8) 5 w49 w.heap.size (fun _=>True) u9 x9_2):=⟨D30⟩
         replace BK393:Aside0 (w49.heap[gb393]? = some (.cells #[.int .i64 a0_0, .int .i64 a0_1] 30 (0,0))):=⟨by rw [← hw_];exact yF BK393⟩
         replace BK394:Aside0 (w49.heap[gb394]? = some (.cells #[.int .i64 x395000_2, .slice none 0 0] 76 (0,0))):=⟨by rw [← hw_];exact yF BK394⟩
         replace BK404:Aside0 (w49.heap[gb404]? = some (.cells #[.int .i64 ((rd_T85 l2 x33_2).f0), .int .u8 ((rd_T85 l2 x33_2).f1)] 85 (0,0))):=⟨D36⟩
         replace HB:Aside0 (Below w.heap.size w w49):=⟨D69⟩
         clear hw_
         replace HO_8:=am (Kd.S_drew HO_8.out)
         replace HO_9:=am (Kd.R_drew HO_9.out)
         replace BK393:=am (qd BK393.out)
         replace BK394:=am (qd BK394.out)
         replace BK404:=am (qd BK404.out)
         replace HB:=am (pd HB.out)
         have p406:0≤((ji41):Int):=od D0
         have q406:(ji41) < (l2.length:Int):=od D0
         obtain ⟨ad406,e406,hx406_0,hx406_1⟩:=at_T85 HR2.out (ji41) p406 q406
         have hw406_1:=hx406_1
         have hw406_0:=hx406_0
         obtain rfl:ad403=ad406:=(by injection e406)
         replace hx406_0:=(HB.out.cell (World.block_lt_of_cell? w _ hx406_0)).trans hx406_0
         replace hx406_1:=(HB.out.cell (World.block_lt_of_cell? w _ hx406_1)).trans hx406_1
         replace p406:=eq_true p406
         replace q406:=eq_true q406
         refine rS (n:=26) (S:=fun w'=>w'.cell? ⟨gb393,0,none⟩=some (.int .i64 a0_0)∧w'.cell? ⟨gb393,1,none⟩=some (.int .i64 a0_1)∧w'.cell? ⟨gb404,0,none⟩=some (.int .i64 ((rd_T85 l2 x33_2).f0))∧w'.cell? ⟨gb404,1,none⟩=some (.int .u8 ((rd_T85 l2 x33_2).f1))∧w'.cell? (ad403.add (((ji41)).toNat*2))=some (.int .i64 ((rd_T85 l2 (ji41)).f0))∧w'.cell? ⟨(ad403.add (((ji41)).toNat*2)).block,(ad403.add (((ji41)).toNat*2)).off+1,none⟩=some (.int .u8 ((rd_T85 l2 (ji41)).f1))) (ds:=[]) [(1,39),(0,38),(2,40),(3,0),(4,42),(5,43),(6,44),(8,46),(7,45),(9,47),(10,48),(11,49),(12,50),(13,51),(14,52),(15,53),(17,55),(18,56),(19,57),(20,58),(21,59),(16,54),(22,60),(23,61),(24,62),(25,63)] D2 rfl impl_RegeneratePiece.tab7 impl_RegeneratePiece.bits7 ⟨yk BK393 0,yk BK393 1,yk BK404 0,yk BK404 1,((HB.out.cell (World.block_lt_of_cell? w _ hw406_0)).trans hw406_0),((HB.out.cell (World.block_lt_of_cell? w _ hw406_1)).trans hw406_1)⟩ (fun hHeld HT_ HW_=>?_)
         generalize w49.drew=w50 at HO_8 HO_9 BK393 BK394 BK404 HB hx406_0 hx406_1 hHeld ⊢
         refine rR ?_
         refine rO (N:=some 41) HT_ rfl rfl D2 D5 (fun K hK=>?_)
         refine goes_ Try.func110 D2 rfl #[.agg #[.int .i64 a0_0, .int .i64 a0_1], .int .i64 ((rd_T85 l2 x33_2).f0)] D16 rfl rfl D8 ?_
         with_reducible refine (impl_Msr_isNode.calls a0_0 a0_1 ((rd_T85 l2 x33_2).f0) true _ A28.out).mono ?_
         rintro e w51 ⟨rfl,hb⟩
         refine ⟨_,rfl,?_⟩
         replace HO_8:=bS HO_8 hb
         replace HO_9:=bR HO_9 hb
         replace BK393:=yb BK393 hb
         replace BK394:=yb BK394 hb
         replace BK404:=yb BK404 hb
         replace HB:=yH HB hb
         (try clear hb)
         (try clear hb2)
         (try clear hk)
         (try clear hi)
         refine hK.out _ _ ⟨yk BK393 0,yk BK393 1,yk BK404 0,yk BK404 1,((HB.out.cell (World.block_lt_of_cell? w _ hw406_0)).trans hw406_0),((HB.out.cell (World.block_lt_of_cell? w _ hw406_1)).trans hw406_1)⟩ (fun hHeld=>?_)
         clear hK K
         refine rN (nA 41) ?_
         refine rR ?_
         refine rD HT_ D2 ?_
         have hnb52:=NB394_393.out
         have hnc52:=NB393_394.out
         obtain ⟨hcz53_0,hcz53_1,hfz53_0,hfz53_1⟩:=yk2 BK394
         try go_wp2
         refine bodyPost_ret (results_ct rfl _ _ gb394 76 #[.int .i64 0, .slice none 0 0] (0,0) _ rfl D49 Try.underlying76 rfl D2) rfl ?_
         exact ⟨_,by first|rfl|(simp [errW_none,errW_some] <;> rfl)|(simp only [← hji41];first|rfl|(simp [errW_none,errW_some] <;> rfl))|(simp [*,errW_none,errW_some] <;> rfl),D10,yW HB⟩
        rw [if_neg c44] at H
        have c44b0:=decide_eq_false c44
        clear c44
        obtain ⟨t407,A54,H⟩:=yo H
        obtain ⟨c55,H⟩:=yi H
        have LMc55:=am c55
        clear c55
        generalize hy410:(x8_2 ++ [t407]:List (List Int))=y410 at H
        have Ny410:=am hy410.symm
        clear hy410
        obtain ⟨c56,H⟩:=yi H
        have LMc56:=am c56
        clear c56
        generalize hy413:(x9_2 ++ [(rd_T85 l2 x33_2).f1]:List Int)=y413 at H
        have Ny413:=am hy413.symm
        clear hy413
        have H':=am H
        clear H
        have p403:0≤(x33_2:Int):=od D0
        have q403:x33_2 < (l2.length:Int):=od D0
        obtain ⟨ad403,e403,hx403_0,hx403_1⟩:=at_T85 HR2.out x33_2 p403 q403
        cases e403
        replace hx403_0:=(HB.out.cell (World.block_lt_of_cell? w _ hx403_0)).trans hx403_0
        replace hx403_1:=(HB.out.cell (World.block_lt_of_cell? w _ hx403_1)).trans hx403_1
        replace p403:=eq_true p403
        replace q403:=eq_true q403
        try go_wp2_with (first|((with_reducible refine gD 11 ?_);(try (refine gate_guard D16 ?_;dsimp only));refine gB (cs:=#[.int .i64 0, .int .u8 0]) 85 ?_;intro gb404 hg w57 hbox hb;replace HO_8:=bS HO_8 hb;replace HO_9:=bR HO_9 hb;have BK404:=am (hbox);have GW404:=ye HB hg;replace HB:=yH HB hb;have NB393_404:=yl BK393 hg;have NB404_393:=yg BK393 hg;replace BK393:=yb BK393 hb;have NB394_404:=yl BK394 hg;have NB404_394:=yg BK394 hg;replace BK394:=yb BK394 hb;have GE404:=GW404;clear hb hbox hg;have hnb58:=NB404_393.out;have hnc58:=NB393_404.out;have hnb59:=NB404_394.out;have hnc59:=NB394_404.out;obtain ⟨hcz60_0,hcz60_1,hfz60_0,hfz60_1⟩:=yk2 BK404))
        generalize hw_:((w57.setCell ⟨gb404,0,none⟩ (.int .i64 ((rd_T85 l2 x33_2).f0))).setCell ⟨gb404,1,none⟩ (.int .u8 ((rd_T85 l2 x33_2).f1)))=w61
        replace HO_8:Aside0 (Kd.S (Kd.slice 5 (Kd.int .u8)) 24 w61 w.heap.size (fun k_=>some k_ ≠ (u9:Value).ownBlock) u8 x8_2):=⟨D31⟩
        replace HO_9:Aside0 (Kd.R (Kd.int .u8) 5 w61 w.heap.size (fun _=>True) u9 x9_2):=⟨D30⟩
        replace BK393:Aside0 (w61.heap[gb393]? = some (.cells #[.int .i64 a0_0, .int .i64 a0_1] 30 (0,0))):=⟨by rw [← hw_];exact yF BK393⟩
        replace BK394:Aside0 (w61.heap[gb394]? = some (.cells #[.int .i64 x395000_2, .slice none 0 0] 76 (0,0))):=⟨by rw [← hw_];exact yF BK394⟩
        replace BK404:Aside0 (w61.heap[gb404]? = some (.cells #[.int .i64 ((rd_T85 l2 x33_2).f0), .int .u8 ((rd_T85 l2 x33_2).f1)] 85 (0,0))):=⟨D36⟩
        replace HB:Aside0 (Below w.heap.size w w61):=⟨D69⟩
        clear hw_
        replace HO_8:=am (Kd.S_drew HO_8.out)
        replace HO_9:=am (Kd.R_drew HO_9.out)
        replace BK393:=am (qd BK393.out)
        replace BK394:=am (qd BK394.out)
        replace BK404:=am (qd BK404.out)
        replace HB:=am (pd HB.out)
        have p406:0≤((ji41):Int):=od D0
        have q406:(ji41) < (l2.length:Int):=od D0
        obtain ⟨ad406,e406,hx406_0,hx406_1⟩:=at_T85 HR2.out (ji41) p406 q406
        have hw406_1:=hx406_1
        have hw406_0:=hx406_0
        obtain rfl:ad403=ad406:=(by injection e406)
        replace hx406_0:=(HB.out.cell (World.block_lt_of_cell? w _ hx406_0)).trans hx406_0
        replace hx406_1:=(HB.out.cell (World.block_lt_of_cell? w _ hx406_1)).trans hx406_1
        replace p406:=eq_true p406
        replace q406:=eq_true q406
        refine rS (n:=26) (S:=fun w'=>w'.cell? ⟨gb393,0,none⟩=some (.int .i64 a0_0)∧w'.cell? ⟨gb393,1,none⟩=some (.int .i64 a0_1)∧w'.cell? ⟨gb404,0,none⟩=some (.int .i64 ((rd_T85 l2 x33_2).f0))∧w'.cell? ⟨gb404,1,none⟩=some (.int .u8 ((rd_T85 l2 x33_2).f1))∧w'.cell? (ad403.add (((ji41)).toNat*2))=some (.int .i64 ((rd_T85 l2 (ji41)).f0))∧w'.cell? ⟨(ad403.add (((ji41)).toNat*2)).block,(ad403.add (((ji41)).toNat*2)).off+1,none⟩=some (.int .u8 ((rd_T85 l2 (ji41)).f1))) (ds:=[]) [(1,39),(0,38),(2,40),(3,0),(4,42),(5,43),(6,44),(8,46),(7,45),(9,47),(10,48),(11,49),(12,50),(13,51),(14,52),(15,53),(17,55),(18,56),(19,57),(20,58),(21,59),(16,54),(22,60),(23,61),(24,62),(25,63)] D2 rfl impl_RegeneratePiece.tab7 impl_RegeneratePiece.bits7 ⟨yk BK393 0,yk BK393 1,yk BK404 0,yk BK404 1,((HB.out.cell (World.block_lt_of_cell? w _ hw406_0)).trans hw406_0),((HB.out.cell (World.block_lt_of_cell? w _ hw406_1)).trans hw406_1)⟩ (fun hHeld HT_ HW_=>?_)
        generalize w61.drew=w62 at HO_8 HO_9 BK393 BK394 BK404 HB hx406_0 hx406_1 hHeld ⊢
        refine rR ?_
        refine rO (N:=some 41) HT_ rfl rfl D2 D5 (fun K hK=>?_)
        refine goes_ Try.func110 D2 rfl #[.agg #[.int .i64 a0_0, .int .i64 a0_1], .int .i64 ((rd_T85 l2 x33_2).f0)] D16 rfl rfl D8 ?_
        with_reducible refine (impl_Msr_isNode.calls a0_0 a0_1 ((rd_T85 l2 x33_2).f0) true _ A28.out).mono ?_
        rintro e w63 ⟨rfl,hb⟩
        refine ⟨_,rfl,?_⟩
        replace HO_8:=bS HO_8 hb
        replace HO_9:=bR HO_9 hb
        replace BK393:=yb BK393 hb
        replace BK394:=yb BK394 hb
        replace BK404:=yb BK404 hb
        replace HB:=yH HB hb
        (try clear hb)
        (try clear hb2)
        (try clear hk)
        (try clear hi)
        refine hK.out _ _ ⟨yk BK393 0,yk BK393 1,yk BK404 0,yk BK404 1,((HB.out.cell (World.block_lt_of_cell? w _ hw406_0)).trans hw406_0),((HB.out.cell (World.block_lt_of_cell? w _ hw406_1)).trans hw406_1)⟩ (fun hHeld=>?_)
        clear hK K
        refine rN (nA 41) ?_
        refine rR ?_
        refine rD HT_ D2 ?_
        have hnb64:=NB393_394.out
        have hnc64:=NB394_393.out
        obtain ⟨hcz65_0,hcz65_1,hfz65_0,hfz65_1⟩:=yk2 BK393
        obtain ⟨hcz66_0,hcz66_1,hfz66_0,hfz66_1⟩:=yk2 BK404
        try go_wp2_with (first|((with_reducible refine gC 66 ?_);refine gM (some 69) Try.func66 (args:=#[.agg #[.int .i64 a0_0, .int .i64 a0_1], .int .i64 ((rd_T85 l2 x33_2).f0)]) (impl_Msr_row.calls k2 a0_0 a0_1 ((rd_T85 l2 x33_2).f0) t407 _ A54.out) ?_;rintro e w67 ⟨v408,rfl,ho0,hb⟩;refine ⟨_,rfl,?_⟩;replace HO_8:=eS HO_8 (Kd.R_base ho0) hb;have HO409:=am (Kd.R_lower (Kd.R_new' ho0 (Kd.R_lt (yR HO_9))) (pz (yW HB)));replace HO_9:=eR HO_9 (Kd.R_base ho0) hb;replace BK393:=yb BK393 hb;replace BK394:=yb BK394 hb;replace BK404:=yb BK404 hb;replace HB:=yH HB hb;clear hb ho0;obtain ⟨Ao69,co69,eo69⟩:=Kd.R_slice HO409.out;subst eo69)|((with_reducible refine gate_builtin (b:=.append) (xs:=#[.tmp 65, .tmp 70]) rfl ?_);(try (refine gate_guard D16 ?_;dsimp only));at_builtin;refine Kd.S_append (Kd.slice 5 (Kd.int .u8)) (w0:=w) w.heap.size rfl (.tmp 65) (.tmp 70) 25 24 (.slice none 0 0) 24 rfl Try.underlying25 info24 rfl D5 D13 u8 x8_2 t407 [.slice Ao69 t407.length co69] (fun k_=>some k_ ≠ (u9:Value).ownBlock) (fun k_=>some k_=(.slice Ao69 t407.length co69:Value).ownBlock) rfl rfl (by exact Kd.M_row (Kd.R_mono (Kd.R_tight rfl (Kd.R_mono (ok':=fun k_=>((fun k_=>some k_ ≠ (u9:Value).ownBlock)) k_∧some k_ ≠ (u8:Value).ownBlock) (Kd.R_apart' (HO409.out) (Kd.S_typed HO_8.out) D5) (fun k_ hk=>⟨hk.1.2,hk.2⟩))) (fun _ h_=>h_))) (fun k_ hk_=>((Kd.R_mono (ok':=fun k_=>((fun k_=>some k_ ≠ (u9:Value).ownBlock)) k_∧some k_ ≠ (u8:Value).ownBlock) (Kd.R_apart' (HO409.out) (Kd.S_typed HO_8.out) D5) (fun k_ hk=>⟨hk.1.2,hk.2⟩))).1 k_ hk_.symm) (by exact (fun k_ hk=>Kd.fresh' (Kd.R_lt (yR HO_9)) k_ hk)) (by exact (by refine sS ?_;exact Kd.S_mono HO_8.out (fun k_ hk=>⟨hk.1,fun e_=>hk.2 e_⟩))) D64 D47 (by have:=LMc55.out;omega) ?_;intro v411 w68 ho hb hg hat;rw [← Ny410.out] at ho;have n0_:=am (Kd.R_over' (yR HO_9) (Kd.S_typed (yS HO_8)) D5 hg);have n1_:=am (blk_grown (g:=gb393) (o:=.cells #[.int .i64 a0_0, .int .i64 a0_1] 30 (0,0)) (yB BK393) hg (Kd.S_ne HO_8.out BK393.out D5));have n2_:=am (blk_grown (g:=gb394) (o:=.cells #[.int .i64 x395000_2, .slice none 0 0] 76 (0,0)) (yB BK394) hg (Kd.S_ne HO_8.out BK394.out D5));have n3_:=am (blk_grown (g:=gb404) (o:=.cells #[.int .i64 ((rd_T85 l2 x33_2).f0), .int .u8 ((rd_T85 l2 x33_2).f1)] 85 (0,0)) (yB BK404) hg (Kd.S_ne HO_8.out BK404.out D5));have n4_:=am (hb);have n5_:=am (ho);clear HO_9 BK393 BK394 BK404 HB HO_8 HO409;have HO_9:=n0_;have BK393:=n1_;have BK394:=n2_;have BK404:=n3_;have HB:=n4_;have HO412:=n5_;clear n0_ n1_ n2_ n3_ n4_ n5_ ho hb hg hat;obtain ⟨hcz70_0,hcz70_1,hfz70_0,hfz70_1⟩:=yk2 BK404)|((with_reducible refine gate_builtin (b:=.append) (xs:=#[.tmp 72, .tmp 75]) rfl ?_);(try (refine gate_guard D16 ?_;dsimp only));at_builtin;refine Kd.R_append (Kd.int .u8) (w0:=w) w.heap.size rfl (.tmp 72) (.tmp 75) 24 5 (.int .u8 0) 1 rfl Try.underlying24 info5 rfl D5 D13 u9 x9_2 ((rd_T85 l2 x33_2).f1) [.int .u8 ((rd_T85 l2 x33_2).f1)] (fun _=>True) (fun _=>False) rfl rfl D98 (fun _ hk=>hk.elim) D43 (by exact (by refine sR ?_;exact Kd.R_mono HO_9.out (fun _ hk=>trivial))) D64 D47 (by have:=LMc56.out;omega) ?_;intro v414 w71 ho hb hg hat;rw [← Ny413.out] at ho;have n0_:=am (blk_grown (g:=gb393) (o:=.cells #[.int .i64 a0_0, .int .i64 a0_1] 30 (0,0)) (yB BK393) hg (Kd.R_ne HO_9.out BK393.out D5));have n1_:=am (blk_grown (g:=gb394) (o:=.cells #[.int .i64 x395000_2, .slice none 0 0] 76 (0,0)) (yB BK394) hg (Kd.R_ne HO_9.out BK394.out D5));have n2_:=am (blk_grown (g:=gb404) (o:=.cells #[.int .i64 ((rd_T85 l2 x33_2).f0), .int .u8 ((rd_T85 l2 x33_2).f1)] 85 (0,0)) (yB BK404) hg (Kd.R_ne HO_9.out BK404.out D5));have n3_:=am (Kd.S_after (ok:=(fun _=>True)) (by refine sS ?_;exact Kd.S_mono HO412.out (fun _ hk=>⟨trivial,hk⟩)) hg hat);have n4_:=am (hb);have n5_:=am (ho);clear BK393 BK394 BK404 HO412 HB HO_9;have BK393:=n0_;have BK394:=n1_;have BK404:=n2_;have HO412:=n3_;have HB:=n4_;have HO415:=n5_;clear n0_ n1_ n2_ n3_ n4_ n5_ ho hb hg hat))
        go_roundg k2
        case measure=>have:=HJ3.out;have:=HK2.out;omega
        case rel=>exact ⟨(y410),(y413),(wrap64 (x33_2+1)),(x395000_2),D1,H',⟨by have:=HJ3.out;have:=HK2.out;omega⟩,⟨by refine sS ?_;exact Kd.S_mono HO412.out (fun _ hk=>hk.2)⟩,⟨yR HO415⟩,⟨yB BK393⟩,⟨yB BK394⟩,⟨yW HB⟩⟩
       rw [if_neg c40] at H
       have c40b0:decide (0 < x33_2)=false:=decide_eq_false c40
       clear c40
       obtain ⟨t416,A72,H⟩:=yo H
       obtain ⟨c73,H⟩:=yi H
       have LMc73:=am c73
       clear c73
       generalize hy419:(x8_2 ++ [t416]:List (List Int))=y419 at H
       have Ny419:=am hy419.symm
       clear hy419
       obtain ⟨c74,H⟩:=yi H
       have LMc74:=am c74
       clear c74
       generalize hy422:(x9_2 ++ [(rd_T85 l2 x33_2).f1]:List Int)=y422 at H
       have Ny422:=am hy422.symm
       clear hy422
       have H':=am H
       clear H
       have p403:0≤(x33_2:Int):=od D0
       have q403:x33_2 < (l2.length:Int):=od D0
       obtain ⟨ad403,e403,hx403_0,hx403_1⟩:=at_T85 HR2.out x33_2 p403 q403
       cases e403
       replace hx403_0:=(HB.out.cell (World.block_lt_of_cell? w _ hx403_0)).trans hx403_0
       replace hx403_1:=(HB.out.cell (World.block_lt_of_cell? w _ hx403_1)).trans hx403_1
       replace p403:=eq_true p403
       replace q403:=eq_true q403
       try go_wp2_with (first|((with_reducible refine gD 11 ?_);(try (refine gate_guard D16 ?_;dsimp only));refine gB (cs:=#[.int .i64 0, .int .u8 0]) 85 ?_;intro gb404 hg w75 hbox hb;replace HO_8:=bS HO_8 hb;replace HO_9:=bR HO_9 hb;have BK404:=am (hbox);have GW404:=ye HB hg;replace HB:=yH HB hb;have NB393_404:=yl BK393 hg;have NB404_393:=yg BK393 hg;replace BK393:=yb BK393 hb;have NB394_404:=yl BK394 hg;have NB404_394:=yg BK394 hg;replace BK394:=yb BK394 hb;have GE404:=GW404;clear hb hbox hg;have hnb76:=NB404_393.out;have hnc76:=NB393_404.out;have hnb77:=NB404_394.out;have hnc77:=NB394_404.out;obtain ⟨hcz78_0,hcz78_1,hfz78_0,hfz78_1⟩:=yk2 BK404))
       generalize hw_:((w75.setCell ⟨gb404,0,none⟩ (.int .i64 ((rd_T85 l2 x33_2).f0))).setCell ⟨gb404,1,none⟩ (.int .u8 ((rd_T85 l2 x33_2).f1)))=w79
       replace HO_8:Aside0 (Kd.S (Kd.slice 5 (Kd.int .u8)) 24 w79 w.heap.size (fun k_=>some k_ ≠ (u9:Value).ownBlock) u8 x8_2):=⟨D31⟩
       replace HO_9:Aside0 (Kd.R (Kd.int .u8) 5 w79 w.heap.size (fun _=>True) u9 x9_2):=⟨D30⟩
       replace BK393:Aside0 (w79.heap[gb393]? = some (.cells #[.int .i64 a0_0, .int .i64 a0_1] 30 (0,0))):=⟨by rw [← hw_];exact yF BK393⟩
       replace BK394:Aside0 (w79.heap[gb394]? = some (.cells #[.int .i64 x395000_2, .slice none 0 0] 76 (0,0))):=⟨by rw [← hw_];exact yF BK394⟩
       replace BK404:Aside0 (w79.heap[gb404]? = some (.cells #[.int .i64 ((rd_T85 l2 x33_2).f0), .int .u8 ((rd_T85 l2 x33_2).f1)] 85 (0,0))):=⟨D36⟩
       replace HB:Aside0 (Below w.heap.size w w79):=⟨D69⟩
       clear hw_
       replace HO_8:=am (Kd.S_drew HO_8.out)
       replace HO_9:=am (Kd.R_drew HO_9.out)
       replace BK393:=am (qd BK393.out)
       replace BK394:=am (qd BK394.out)
       replace BK404:=am (qd BK404.out)
       replace HB:=am (pd HB.out)
       refine rS (n:=26) (S:=fun w'=>w'.cell? ⟨gb393,0,none⟩=some (.int .i64 a0_0)∧w'.cell? ⟨gb393,1,none⟩=some (.int .i64 a0_1)∧w'.cell? ⟨gb404,0,none⟩=some (.int .i64 ((rd_T85 l2 x33_2).f0))∧w'.cell? ⟨gb404,1,none⟩=some (.int .u8 ((rd_T85 l2 x33_2).f1))) (ds:=[]) [(1,39),(0,38),(2,40),(3,0),(4,42),(5,43),(6,44),(8,46),(7,45),(9,47),(10,48),(11,49),(12,50),(13,51),(14,52),(15,53),(16,54),(17,55),(18,56),(19,57),(20,58),(21,59),(22,60),(23,61),(24,62),(25,63)] D2 rfl impl_RegeneratePiece.tab7 impl_RegeneratePiece.bits7 ⟨yk BK393 0,yk BK393 1,yk BK404 0,yk BK404 1⟩ (fun hHeld HT_ HW_=>?_)
       generalize w79.drew=w80 at HO_8 HO_9 BK393 BK394 BK404 HB hHeld ⊢
       refine rR ?_
       refine rO (N:=some 41) HT_ rfl rfl D2 D5 (fun K hK=>?_)
       refine goes_ Try.func110 D2 rfl #[.agg #[.int .i64 a0_0, .int .i64 a0_1], .int .i64 ((rd_T85 l2 x33_2).f0)] D16 rfl rfl D8 ?_
       with_reducible refine (impl_Msr_isNode.calls a0_0 a0_1 ((rd_T85 l2 x33_2).f0) true _ A28.out).mono ?_
       rintro e w81 ⟨rfl,hb⟩
       refine ⟨_,rfl,?_⟩
       replace HO_8:=bS HO_8 hb
       replace HO_9:=bR HO_9 hb
       replace BK393:=yb BK393 hb
       replace BK394:=yb BK394 hb
       replace BK404:=yb BK404 hb
       replace HB:=yH HB hb
       (try clear hb)
       (try clear hb2)
       (try clear hk)
       (try clear hi)
       refine hK.out _ _ ⟨yk BK393 0,yk BK393 1,yk BK404 0,yk BK404 1⟩ (fun hHeld=>?_)
       clear hK K
       refine rN (nA 41) ?_
       refine rR ?_
       refine rD HT_ D2 ?_
       have hnb82:=NB393_394.out
       have hnc82:=NB394_393.out
       obtain ⟨hcz83_0,hcz83_1,hfz83_0,hfz83_1⟩:=yk2 BK393
       obtain ⟨hcz84_0,hcz84_1,hfz84_0,hfz84_1⟩:=yk2 BK404
       try go_wp2_with (first|((with_reducible refine gC 66 ?_);refine gM (some 69) Try.func66 (args:=#[.agg #[.int .i64 a0_0, .int .i64 a0_1], .int .i64 ((rd_T85 l2 x33_2).f0)]) (impl_Msr_row.calls k2 a0_0 a0_1 ((rd_T85 l2 x33_2).f0) t416 _ A72.out) ?_;rintro e w85 ⟨v417,rfl,ho0,hb⟩;refine ⟨_,rfl,?_⟩;replace HO_8:=eS HO_8 (Kd.R_base ho0) hb;have HO418:=am (Kd.R_lower (Kd.R_new' ho0 (Kd.R_lt (yR HO_9))) (pz (yW HB)));replace HO_9:=eR HO_9 (Kd.R_base ho0) hb;replace BK393:=yb BK393 hb;replace BK394:=yb BK394 hb;replace BK404:=yb BK404 hb;replace HB:=yH HB hb;clear hb ho0;obtain ⟨Ao87,co87,eo87⟩:=Kd.R_slice HO418.out;subst eo87)|((with_reducible refine gate_builtin (b:=.append) (xs:=#[.tmp 65, .tmp 70]) rfl ?_);(try (refine gate_guard D16 ?_;dsimp only));at_builtin;refine Kd.S_append (Kd.slice 5 (Kd.int .u8)) (w0:=w) w.heap.size rfl (.tmp 65) (.tmp 70) 25 24 (.slice none 0 0) 24 rfl Try.underlying25 info24 rfl D5 D13 u8 x8_2 t416 [.slice Ao87 t416.length co87] (fun k_=>some k_ ≠ (u9:Value).ownBlock) (fun k_=>some k_=(.slice Ao87 t416.length co87:Value).ownBlock) rfl rfl (by exact Kd.M_row (Kd.R_mono (Kd.R_tight rfl (Kd.R_mono (ok':=fun k_=>((fun k_=>some k_ ≠ (u9:Value).ownBlock)) k_∧some k_ ≠ (u8:Value).ownBlock) (Kd.R_apart' (HO418.out) (Kd.S_typed HO_8.out) D5) (fun k_ hk=>⟨hk.1.2,hk.2⟩))) (fun _ h_=>h_))) (fun k_ hk_=>((Kd.R_mono (ok':=fun k_=>((fun k_=>some k_ ≠ (u9:Value).ownBlock)) k_∧some k_ ≠ (u8:Value).ownBlock) (Kd.R_apart' (HO418.out) (Kd.S_typed HO_8.out) D5) (fun k_ hk=>⟨hk.1.2,hk.2⟩))).1 k_ hk_.symm) (by exact (fun k_ hk=>Kd.fresh' (Kd.R_lt (yR HO_9)) k_ hk)) (by exact (by refine sS ?_;exact Kd.S_mono HO_8.out (fun k_ hk=>⟨hk.1,fun e_=>hk.2 e_⟩))) D64 D47 (by have:=LMc73.out;omega) ?_;intro v420 w86 ho hb hg hat;rw [← Ny419.out] at ho;have n0_:=am (Kd.R_over' (yR HO_9) (Kd.S_typed (yS HO_8)) D5 hg);have n1_:=am (blk_grown (g:=gb393) (o:=.cells #[.int .i64 a0_0, .int .i64 a0_1] 30 (0,0)) (yB BK393) hg (Kd.S_ne HO_8.out BK393.out D5));have n2_:=am (blk_grown (g:=gb394) (o:=.cells #[.int .i64 x395000_2, .slice none 0 0] 76 (0,0)) (yB BK394) hg (Kd.S_ne HO_8.out BK394.out D5));have n3_:=am (blk_grown (g:=gb404) (o:=.cells #[.int .i64 ((rd_T85 l2 x33_2).f0), .int .u8 ((rd_T85 l2 x33_2).f1)] 85 (0,0)) (yB BK404) hg (Kd.S_ne HO_8.out BK404.out D5));have n4_:=am (hb);have n5_:=am (ho);clear HO_9 BK393 BK394 BK404 HB HO_8 HO418;have HO_9:=n0_;have BK393:=n1_;have BK394:=n2_;have BK404:=n3_;have HB:=n4_;have HO421:=n5_;clear n0_ n1_ n2_ n3_ n4_ n5_ ho hb hg hat;obtain ⟨hcz88_0,hcz88_1,hfz88_0,hfz88_1⟩:=yk2 BK404)|((with_reducible refine gate_builtin (b:=.append) (xs:=#[.tmp 72, .tmp 75]) rfl ?_);(try (refine gate_guard D16 ?_;dsimp only));at_builtin;refine Kd.R_append (Kd.int .u8) (w0:=w) w.heap.size rfl (.tmp 72) (.tmp 75) 24 5 (.int .u8 0) 1 rfl Try.underlying24 info5 rfl D5 D13 u9 x9_2 ((rd_T85 l2 x33_2).f1) [.int .u8 ((rd_T85 l2 x33_2).f1)] (fun _=>True) (fun _=>False) rfl rfl D98 (fun _ hk=>hk.elim) D43 (by exact (by refine sR ?_;exact Kd.R_mono HO_9.out (fun _ hk=>trivial))) D64 D47 (by have:=LMc74.out;omega) ?_;intro v423 w89 ho hb hg hat;rw [← Ny422.out] at ho;have n0_:=am (blk_grown (g:=gb393) (o:=.cells #[.int .i64 a0_0, .int .i64 a0_1] 30 (0,0)) (yB BK393) hg (Kd.R_ne HO_9.out BK393.out D5));have n1_:=am (blk_grown (g:=gb394) (o:=.cells #[.int .i64 x395000_2, .slice none 0 0] 76 (0,0)) (yB BK394) hg (Kd.R_ne HO_9.out BK394.out D5));have n2_:=am (blk_grown (g:=gb404) (o:=.cells #[.int .i64 ((rd_T85 l2 x33_2).f0), .int .u8 ((rd_T85 l2 x33_2).f1)] 85 (0,0)) (yB BK404) hg (Kd.R_ne HO_9.out BK404.out D5));have n3_:=am (Kd.S_after (ok:=(fun _=>True)) (by refine sS ?_;exact Kd.S_mono HO421.out (fun _ hk=>⟨trivial,hk⟩)) hg hat);have n4_:=am (hb);have n5_:=am (ho);clear BK393 BK394 BK404 HO421 HB HO_9;have BK393:=n0_;have BK394:=n1_;have BK404:=n2_;have HO421:=n3_;have HB:=n4_;have HO424:=n5_;clear n0_ n1_ n2_ n3_ n4_ n5_ ho hb hg hat))
       go_roundg k2
       case measure=>have:=HJ3.out;have:=HK2.out;omega
       case rel=>exact ⟨(y419),(y422),(wrap64 (x33_2+1)),(x395000_2),D1,H',⟨by have:=HJ3.out;have:=HK2.out;omega⟩,⟨by refine sS ?_;exact Kd.S_mono HO421.out (fun _ hk=>hk.2)⟩,⟨yR HO424⟩,⟨yB BK393⟩,⟨yB BK394⟩,⟨yW HB⟩⟩
      replace c29:=Bool.eq_false_iff.mpr c29
      subst c29
      replace H:=yn H
      simp only [Option.some.injEq,Prod.mk.injEq] at H
      obtain ⟨rfl,rfl,rfl⟩:=H
      have p403:0≤(x33_2:Int):=od D0
      have q403:x33_2 < (l2.length:Int):=od D0
      obtain ⟨ad403,e403,hx403_0,hx403_1⟩:=at_T85 HR2.out x33_2 p403 q403
      cases e403
      replace hx403_0:=(HB.out.cell (World.block_lt_of_cell? w _ hx403_0)).trans hx403_0
      replace hx403_1:=(HB.out.cell (World.block_lt_of_cell? w _ hx403_1)).trans hx403_1
      replace p403:=eq_true p403
      replace q403:=eq_true q403
      try go_wp2_with (first|((with_reducible refine gD 11 ?_);(try (refine gate_guard D16 ?_;dsimp only));refine gB (cs:=#[.int .i64 0, .int .u8 0]) 85 ?_;intro gb404 hg w90 hbox hb;replace HO_8:=bS HO_8 hb;replace HO_9:=bR HO_9 hb;have BK404:=am (hbox);have GW404:=ye HB hg;replace HB:=yH HB hb;have NB393_404:=yl BK393 hg;have NB404_393:=yg BK393 hg;replace BK393:=yb BK393 hb;have NB394_404:=yl BK394 hg;have NB404_394:=yg BK394 hg;replace BK394:=yb BK394 hb;have GE404:=GW404;clear hb hbox hg;have hnb91:=NB404_393.out;have hnc91:=NB393_404.out;have hnb92:=NB404_394.out;have hnc92:=NB394_404.out;obtain ⟨hcz93_0,hcz93_1,hfz93_0,hfz93_1⟩:=yk2 BK404))
      generalize hw_:((w90.setCell ⟨gb404,0,none⟩ (.int .i64 ((rd_T85 l2 x33_2).f0))).setCell ⟨gb404,1,none⟩ (.int .u8 ((rd_T85 l2 x33_2).f1)))=w94
      replace HO_8:Aside0 (Kd.S (Kd.slice 5 (Kd.int .u8)) 24 w94 w.heap.size (fun k_=>some k_ ≠ (u9:Value).ownBlock) u8 x8_2):=⟨D31⟩
      replace HO_9:Aside0 (Kd.R (Kd.int .u8) 5 w94 w.heap.size (fun _=>True) u9 x9_2):=⟨D30⟩
      replace BK393:Aside0 (w94.heap[gb393]? = some (.cells #[.int .i64 a0_0, .int .i64 a0_1] 30 (0,0))):=⟨by rw [← hw_];exact yF BK393⟩
      replace BK394:Aside0 (w94.heap[gb394]? = some (.cells #[.int .i64 x395000_2, .slice none 0 0] 76 (0,0))):=⟨by rw [← hw_];exact yF BK394⟩
      replace BK404:Aside0 (w94.heap[gb404]? = some (.cells #[.int .i64 ((rd_T85 l2 x33_2).f0), .int .u8 ((rd_T85 l2 x33_2).f1)] 85 (0,0))):=⟨D36⟩
      replace HB:Aside0 (Below w.heap.size w w94):=⟨D69⟩
      clear hw_
      replace HO_8:=am (Kd.S_drew HO_8.out)
      replace HO_9:=am (Kd.R_drew HO_9.out)
      replace BK393:=am (qd BK393.out)
      replace BK394:=am (qd BK394.out)
      replace BK404:=am (qd BK404.out)
      replace HB:=am (pd HB.out)
      refine rS (n:=26) (S:=fun w'=>w'.cell? ⟨gb393,0,none⟩=some (.int .i64 a0_0)∧w'.cell? ⟨gb393,1,none⟩=some (.int .i64 a0_1)∧w'.cell? ⟨gb404,0,none⟩=some (.int .i64 ((rd_T85 l2 x33_2).f0))∧w'.cell? ⟨gb404,1,none⟩=some (.int .u8 ((rd_T85 l2 x33_2).f1))) (ds:=[]) [(1,39),(0,38),(2,40),(3,0),(4,42),(5,43),(6,44),(7,45),(8,46),(9,47),(10,48),(11,49),(12,50),(13,51),(14,52),(15,53),(16,54),(17,55),(18,56),(19,57),(20,58),(21,59),(22,60),(23,61),(24,62),(25,63)] D2 rfl impl_RegeneratePiece.tab7 impl_RegeneratePiece.bits7 ⟨yk BK393 0,yk BK393 1,yk BK404 0,yk BK404 1⟩ (fun hHeld HT_ HW_=>?_)
      generalize w94.drew=w95 at HO_8 HO_9 BK393 BK394 BK404 HB hHeld ⊢
      refine rR ?_
      refine rO (N:=some 41) HT_ rfl rfl D2 D5 (fun K hK=>?_)
      refine goes_ Try.func110 D2 rfl #[.agg #[.int .i64 a0_0, .int .i64 a0_1], .int .i64 ((rd_T85 l2 x33_2).f0)] D16 rfl rfl D8 ?_
      with_reducible refine (impl_Msr_isNode.calls a0_0 a0_1 ((rd_T85 l2 x33_2).f0) false _ A28.out).mono ?_
      rintro e w96 ⟨rfl,hb⟩
      refine ⟨_,rfl,?_⟩
      replace HO_8:=bS HO_8 hb
      replace HO_9:=bR HO_9 hb
      replace BK393:=yb BK393 hb
      replace BK394:=yb BK394 hb
      replace BK404:=yb BK404 hb
      replace HB:=yH HB hb
      (try clear hb)
      (try clear hb2)
      (try clear hk)
      (try clear hi)
      refine hK.out _ _ ⟨yk BK393 0,yk BK393 1,yk BK404 0,yk BK404 1⟩ (fun hHeld=>?_)
      clear hK K
      refine rN (nA 41) ?_
      refine rR ?_
      refine rD HT_ D2 ?_
      have hnb97:=NB394_393.out
      have hnc97:=NB393_394.out
      obtain ⟨hcz98_0,hcz98_1,hfz98_0,hfz98_1⟩:=yk2 BK394
      try go_wp2
      refine bodyPost_ret (results_ct rfl _ _ gb394 76 #[.int .i64 0, .slice none 0 0] (0,0) _ rfl D49 Try.underlying76 rfl D2) rfl ?_
      exact ⟨_,D3,D10,yW HB⟩
     rw [if_neg c25] at H
     have c25b0:=decide_eq_false c25
     clear c25
     obtain ⟨⟨t425,t426⟩,A99,H⟩:=yo H
     try dsimp only at H
     by_cases c100:t426=true
     ·subst c100
      replace H:=yt H
      obtain ⟨⟨t429,t432⟩,A101,H⟩:=yo H
      try dsimp only at H
      obtain ⟨t433,A102,H⟩:=yo H
      obtain ⟨c103,H⟩:=yi H
      have c103b0:=eq_true c103
      have c103b1:decide (0≤t433)=true:=decide_eq_true c103
      clear c103
      obtain ⟨c104,H⟩:=yi H
      have c104b0:=eq_true c104
      have c104b1:decide (t433≤(t425.length:Int))=true:=decide_eq_true c104
      clear c104
      generalize hy434:(t425.take (t433:Int).toNat:List Int)=y434 at H
      have Ny434:=am hy434.symm
      clear hy434
      obtain ⟨t438,A105,H⟩:=yo H
      obtain ⟨c106,H⟩:=yi H
      have c106b0:=eq_true c106
      have c106b1:decide (0≤t438)=true:=decide_eq_true c106
      clear c106
      obtain ⟨c107,H⟩:=yi H
      have c107b0:=eq_true c107
      have c107b1:decide (t438≤(t425.length:Int))=true:=decide_eq_true c107
      clear c107
      generalize hy439:(t425.drop (t438:Int).toNat:List Int)=y439 at H
      have Ny439:=am hy439.symm
      clear hy439
      obtain ⟨t443,A108,H⟩:=yo H
      obtain ⟨t446,A109,H⟩:=yo H
      simp only [Option.some.injEq,Prod.mk.injEq] at H
      obtain ⟨rfl,rfl,rfl⟩:=H
      obtain ⟨Ao110,co110,eo110⟩:=Kd.S_slice HO_8.out
      subst eo110
      obtain ⟨Ao111,co111,eo111⟩:=Kd.R_slice HO_9.out
      subst eo111
      try go_wp2_with (first|((with_reducible refine gC 109 ?_);refine gM (some 81) Try.func109 (args:=#[.slice Ao110 x8_2.length co110, .slice Ao111 x9_2.length co111]) (impl_solve.calls k2 _ _ x8_2 _ _ x9_2 t425 true _ (yc (Kd.S_reads' HO_8.out).2.2) (Kd.S_reads' HO_8.out).2.1 (yc (Kd.R_reads' HO_9.out).2.2) (Kd.R_reads' HO_9.out).2.1 A99.out) ?_;rintro e w112 ⟨v427,rfl,ho0,hb⟩;refine ⟨_,rfl,?_⟩;replace HO_8:=eS HO_8 (Kd.R_base ho0) hb;have HO428:=am (Kd.R_lower (Kd.R_new' ho0 (Kd.R_lt (yR HO_9))) (pz (yW HB)));replace HO_9:=eR HO_9 (Kd.R_base ho0) hb;replace BK393:=yb BK393 hb;replace BK394:=yb BK394 hb;replace HB:=yH HB hb;clear hb ho0;have hnb113:=NB393_394.out;have hnc113:=NB394_393.out;obtain ⟨hcz114_0,hcz114_1,hfz114_0,hfz114_1⟩:=yk2 BK393)|((with_reducible refine gC 116 ?_);refine gM (some 90) Try.func116 (args:=#[.agg #[.int .i64 a0_0, .int .i64 a0_1], .int .i64 a1]) (impl_Msr_powers.calls k2 a0_0 a0_1 a1 t429 t432 _ A101.out) ?_;rintro e w115 ⟨v430,rfl,ho0,hb⟩;refine ⟨_,rfl,?_⟩;replace HO_8:=eS HO_8 (Kd.R_base ho0) hb;have HO431:=am (Kd.R_lower (Kd.R_new' (Kd.R_new' ho0 (Kd.R_lt (yR HO_9))) (Kd.R_lt (yR HO428))) (pz (yW HB)));replace HO_9:=eR HO_9 (Kd.R_base ho0) hb;replace HO428:=eR HO428 (Kd.R_base ho0) hb;replace BK393:=yb BK393 hb;replace BK394:=yb BK394 hb;replace HB:=yH HB hb;clear hb ho0))
      replace HO_8:=am (Kd.S_drew HO_8.out)
      replace HO_9:=am (Kd.R_drew HO_9.out)
      replace HO428:=am (Kd.R_drew HO428.out)
      replace HO431:=am (Kd.R_drew HO431.out)
      replace BK393:=am (qd BK393.out)
      replace BK394:=am (qd BK394.out)
      replace HB:=am (pd HB.out)
      refine rS (n:=15) (S:=fun w'=>w'.cell? ⟨gb393,0,none⟩=some (.int .i64 a0_0)∧w'.cell? ⟨gb393,1,none⟩=some (.int .i64 a0_1)) (ds:=[]) [(0,93),(1,94),(5,98),(6,99),(2,95),(7,100),(3,0),(4,97),(8,0),(9,102),(10,0),(11,0),(12,105),(13,0),(14,7)] D2 rfl impl_RegeneratePiece.tab16 impl_RegeneratePiece.bits16 ⟨yk BK393 0,yk BK393 1⟩ (fun hHeld HT_ HW_=>?_)
      generalize w115.drew=w116 at HO_8 HO_9 HO428 HO431 BK393 BK394 HB hHeld ⊢
      refine rR ?_
      refine rO (N:=some 96) HT_ rfl rfl D2 D5 (fun K hK=>?_)
      refine goes_ Try.func103 D2 rfl #[.agg #[.int .i64 a0_0, .int .i64 a0_1]] D16 rfl rfl D8 ?_
      with_reducible refine (impl_Msr_alpha.calls a0_0 a0_1 t433 _ A102.out).mono ?_
      rintro e w117 ⟨rfl,hb⟩
      refine ⟨_,rfl,?_⟩
      replace HO_8:=bS HO_8 hb
      replace HO_9:=bR HO_9 hb
      replace HO428:=bR HO428 hb
      replace HO431:=bR HO431 hb
      replace BK393:=yb BK393 hb
      replace BK394:=yb BK394 hb
      replace HB:=yH HB hb
      (try clear hb)
      (try clear hb2)
      (try clear hk)
      (try clear hi)
      obtain ⟨Ao119,co119,eo119⟩:=Kd.R_slice HO428.out
      (first|subst eo119|(injection eo119 with f1_ f2_ f3_;have f4_:=f1_.symm;have f5_:=f3_.symm;clear f1_ f2_ f3_;subst f4_;subst f5_))
      have q118:(t433:Int)≤((t425.length:Int):Int):=od D0
      obtain ⟨i0118,hi0118,_,hsz118,_⟩:=info_parts info5
      have hroom118:t425.length≤co119:=(Kd.R_reads' HO428.out).2.1
      have hC118:Kd.C (Kd.int .u8) _ Ao119 t425.length t425:=(Kd.R_reads' HO428.out).2.2
      have hcut118:=cut_to (P:=Try.prog) 24 5 .i64 Try.underlying24 hi0118 Ao119 t425.length co119 t433 (od D0) q118 hroom118
      have hr118:=Kd.C_take (m:=(t433:Int).toNat) hC118 D13
      have hy118:y434.length=(t433:Int).toNat:=(by rw [Ny434.out,List.length_take];omega)
      rw [← Ny434.out] at hr118
      rw [← hy118] at hcut118
      have HR437:=am hr118
      have HC437:=am (show y434.length≤co119 from by omega)
      clear hr118 hC118 hroom118 hi0118 hsz118
      have KY118:=am hy118
      clear hy118
      have KL118:=am (show (t433:Int).toNat≤t425.length from by omega)
      replace q118:=eq_true q118
      refine hK.out _ _ ⟨yk BK393 0,yk BK393 1⟩ (fun hHeld=>?_)
      clear hK K
      refine rN (nA 96) ?_
      refine rR ?_
      refine rO (N:=some 101) HT_ rfl rfl D2 D5 (fun K hK=>?_)
      refine goes_ Try.func103 D2 rfl #[.agg #[.int .i64 a0_0, .int .i64 a0_1]] D16 rfl rfl D8 ?_
      with_reducible refine (impl_Msr_alpha.calls a0_0 a0_1 t438 _ A105.out).mono ?_
      rintro e w120 ⟨rfl,hb⟩
      refine ⟨_,rfl,?_⟩
      replace HO_8:=bS HO_8 hb
      replace HO_9:=bR HO_9 hb
      replace HO428:=bR HO428 hb
      replace HO431:=bR HO431 hb
      replace BK393:=yb BK393 hb
      replace BK394:=yb BK394 hb
      replace HR437:=am (Kd.C_below D48 hb)
      replace HB:=yH HB hb
      (try clear hb)
      (try clear hb2)
      (try clear hk)
      (try clear hi)
      have q121:(t438:Int)≤((t425.length:Int):Int):=od D0
      obtain ⟨i0121,hi0121,_,hsz121,_⟩:=info_parts info5
      have hroom121:t425.length≤co119:=(Kd.R_reads' HO428.out).2.1
      have hC121:Kd.C (Kd.int .u8) _ Ao119 t425.length t425:=(Kd.R_reads' HO428.out).2.2
      have q0121:(0:Int)≤(t438:Int):=od D0
      have hcut121:=cut_from (P:=Try.prog) 24 5 .i64 Try.underlying24 hi0121 1 hsz121 Ao119 t425.length co119 t438 q0121 q121
      have hr121:=Kd.C_drop (m:=(t438:Int).toNat) (c:=co119) hC121 D13 hroom121
      obtain ⟨A121,hA121⟩:∃ A1,A1=(if co119=(t438:Int).toNat then Ao119 else (Ao119:Option Addr).map (·.add ((t438:Int).toNat*1))):=⟨_,rfl⟩
      obtain ⟨c121,hc121⟩:∃ c1,c1=co119 - (t438:Int).toNat:=⟨_,rfl⟩
      have hy121:y439.length=t425.length - (t438:Int).toNat:=(by rw [Ny439.out,List.length_drop] <;> omega)
      rw [show (t425).drop (t438:Int).toNat=y439 from Ny439.out.symm] at hr121
      replace hr121:Kd.C (Kd.int .u8) _ A121 y439.length y439:=(by rw [hA121];exact hr121)
      rw [← hy121,← hA121,← hc121] at hcut121
      have HR442:=am hr121
      have HC442:=am (show y439.length≤c121 from by rw [hy121,hc121];exact Nat.sub_le_sub_right hroom121 _)
      clear hr121 hC121 hroom121 hi0121 hsz121 hc121
      have KY121:=am hy121
      have KA121:=am hA121
      clear hy121 hA121
      have KL121:=am (show (t438:Int).toNat≤t425.length from by omega)
      replace q121:=eq_true q121
      refine hK.out _ _ ⟨yk BK393 0,yk BK393 1⟩ (fun hHeld=>?_)
      clear hK K
      refine rN (nA 101) ?_
      refine rR ?_
      refine rO (N:=some 103) HT_ rfl rfl D2 D5 (fun K hK=>?_)
      refine goes_ Try.func119 D2 rfl #[.int .u8 t432, .slice A121 y439.length c121] D16 rfl rfl D8 ?_
      with_reducible refine (impl_scaled.calls k2 t432 _ _ y439 t443 _ ?side1 ?side2 A108.out).mono ?_
      (case side1=>repeat (first|exact D68|(with_reducible refine Kd.C_alloc ?_ _)|(with_reducible refine Kd.C_drewN ?_ _)|(with_reducible refine Kd.C_drew ?_)))
      (case side2=>exact HC442.out)
      rintro e w122 ⟨v444,rfl,ho0,hb⟩
      refine ⟨_,rfl,?_⟩
      replace HO_8:=eS HO_8 (Kd.R_base ho0) hb
      have HO445:=am (Kd.R_lower (Kd.R_new' (Kd.R_new' (Kd.R_new' ho0 (Kd.R_lt (yR HO_9))) (Kd.R_lt (yR HO428))) (Kd.R_lt (yR HO431))) (pz (yW HB)))
      replace HO_9:=eR HO_9 (Kd.R_base ho0) hb
      replace HO428:=eR HO428 (Kd.R_base ho0) hb
      replace HO431:=eR HO431 (Kd.R_base ho0) hb
      replace BK393:=yb BK393 hb
      replace BK394:=yb BK394 hb
      replace HR437:=am (Kd.C_below D48 hb)
      replace HR442:=am (Kd.C_below D68 hb)
      replace HB:=yH HB hb
      (try clear hb)
      (try clear hb2)
      (try clear hk)
      (try clear hi)
      (try clear ho0)
      obtain ⟨Ao123,co123,eo123⟩:=Kd.R_slice HO445.out
      (first|subst eo123|(injection eo123 with f1_ f2_ f3_;have f4_:=f1_.symm;have f5_:=f3_.symm;clear f1_ f2_ f3_;subst f4_;subst f5_))
      refine hK.out _ _ ⟨yk BK393 0,yk BK393 1⟩ (fun hHeld=>?_)
      clear hK K
      refine rN (nA 103) ?_
      refine rO (N:=some 104) HT_ rfl rfl D2 D5 (fun K hK=>?_)
      refine goes_ Try.func118 D2 rfl #[.slice Ao119 y434.length co119, .slice Ao123 t443.length co123] D16 rfl rfl D8 ?_
      with_reducible refine (impl_added.calls k2 _ _ y434 _ _ t443 t446 _ ?side1 ?side2 ?side3 ?side4 A109.out).mono ?_
      (case side1=>repeat (first|exact D48|(with_reducible refine Kd.C_alloc ?_ _)|(with_reducible refine Kd.C_drewN ?_ _)|(with_reducible refine Kd.C_drew ?_)))
      (case side2=>exact HC437.out)
      (case side3=>repeat (first|exact (Kd.R_reads' HO445.out).2.2|(with_reducible refine Kd.C_alloc ?_ _)|(with_reducible refine Kd.C_drewN ?_ _)|(with_reducible refine Kd.C_drew ?_)))
      (case side4=>exact (Kd.R_reads' HO445.out).2.1)
      rintro e w124 ⟨v447,rfl,ho0,hb⟩
      refine ⟨_,rfl,?_⟩
      replace HO_8:=eS HO_8 (Kd.R_base ho0) hb
      have HO448:=am (Kd.R_lower (Kd.R_new' (Kd.R_new' (Kd.R_new' (Kd.R_new' ho0 (Kd.R_lt (yR HO_9))) (Kd.R_lt (yR HO428))) (Kd.R_lt (yR HO431))) (Kd.R_lt (yR HO445))) (pz (yW HB)))
      replace HO_9:=eR HO_9 (Kd.R_base ho0) hb
      replace HO428:=eR HO428 (Kd.R_base ho0) hb
      replace HO431:=eR HO431 (Kd.R_base ho0) hb
      replace HO445:=eR HO445 (Kd.R_base ho0) hb
      replace BK393:=yb BK393 hb
      replace BK394:=yb BK394 hb
      replace HR437:=am (Kd.C_below D48 hb)
      replace HR442:=am (Kd.C_below D68 hb)
      replace HB:=yH HB hb
      (try clear hb)
      (try clear hb2)
      (try clear hk)
      (try clear hi)
      (try clear ho0)
      obtain ⟨Ao125,co125,eo125⟩:=Kd.R_slice HO448.out
      (first|subst eo125|(injection eo125 with f1_ f2_ f3_;have f4_:=f1_.symm;have f5_:=f3_.symm;clear f1_ f2_ f3_;subst f4_;subst f5_))
      refine hK.out _ _ ⟨yk BK393 0,yk BK393 1⟩ (fun hHeld=>?_)
      clear hK K
      refine rN (nA 104) ?_
      refine rR ?_
      refine rO (N:=none) HT_ rfl rfl D2 D5 (fun K hK=>?_)
      have hs126:w124.cell? ⟨gb394,0,none⟩=some (.int .i64 x395000_2):=(blk_cell BK394.out 0).trans rfl
      have hfs126:=blk_frozen BK394.out 0
      have hns126_0:=NB393_394.out
      have hms126_0:=NB394_393.out
      have hs127:w124.cell? ⟨gb394,1,none⟩=some (.slice none 0 0):=(blk_cell BK394.out 1).trans rfl
      have hfs127:=blk_frozen BK394.out 1
      have hns127_0:=NB393_394.out
      have hms127_0:=NB394_393.out
      refine skip_ (w1:=?_) D16 rfl ?_ ?_
      rotate_left
      ·go_simp
       rfl
      refine hK.out _ _ ⟨((cell_far (p:=⟨gb394,_,none⟩) NB393_394.out _).trans (((cell_far (p:=⟨gb394,_,none⟩) NB393_394.out _).trans (hHeld.1)))),((cell_far (p:=⟨gb394,_,none⟩) NB393_394.out _).trans (((cell_far (p:=⟨gb394,_,none⟩) NB393_394.out _).trans (hHeld.2))))⟩ (fun hHeld=>?_)
      clear hK K
      refine rR ?_
      refine rD HT_ D2 ?_
      try go_wp2
      refine bodyPost_ret (results_ct rfl _ _ gb394 76 #[.int .i64 a1, .slice Ao125 t446.length co125] (0,0) _ rfl (by refine sB ?_;refine blk_put (cs:=#[.int .i64 a1, .slice none 0 0]) ?_ 1 _ rfl;refine sB ?_;refine blk_put (cs:=#[.int .i64 x395000_2, .slice none 0 0]) ?_ 0 _ rfl;exact yB BK394) Try.underlying76 rfl D2) rfl ?_
      exact ⟨_,D3,by refine sR ?_;exact Kd.R_mono (Kd.R_far (p:=⟨gb394,1,none⟩) (Kd.R_far (p:=⟨gb394,0,none⟩) (Kd.R_types HO448.out BK394.out D5) (fun _ hk=>hk.2) (.int .i64 a1)) (fun _ hk=>hk.2) (.slice Ao125 t446.length co125)) (fun _ hk=>trivial),yW HB⟩
     replace c100:=Bool.eq_false_iff.mpr c100
     subst c100
     replace H:=yn H
     simp only [Option.some.injEq,Prod.mk.injEq] at H
     obtain ⟨rfl,rfl,rfl⟩:=H
     obtain ⟨Ao128,co128,eo128⟩:=Kd.S_slice HO_8.out
     subst eo128
     obtain ⟨Ao129,co129,eo129⟩:=Kd.R_slice HO_9.out
     subst eo129
     go_wp2_with (first|((with_reducible refine gC 109 ?_);refine gM (some 81) Try.func109 (args:=#[.slice Ao128 x8_2.length co128, .slice Ao129 x9_2.length co129]) (impl_solve.calls k2 _ _ x8_2 _ _ x9_2 t425 false _ (yc (Kd.S_reads' HO_8.out).2.2) (Kd.S_reads' HO_8.out).2.1 (yc (Kd.R_reads' HO_9.out).2.2) (Kd.R_reads' HO_9.out).2.1 A99.out) ?_;rintro e w130 ⟨v427,rfl,ho0,hb⟩;refine ⟨_,rfl,?_⟩;replace HO_8:=eS HO_8 (Kd.R_base ho0) hb;have HO428:=am (Kd.R_lower (Kd.R_new' ho0 (Kd.R_lt (yR HO_9))) (pz (yW HB)));replace HO_9:=eR HO_9 (Kd.R_base ho0) hb;replace BK393:=yb BK393 hb;replace BK394:=yb BK394 hb;replace HB:=yH HB hb;clear hb ho0;have hnb131:=NB394_393.out;have hnc131:=NB393_394.out;obtain ⟨hcz132_0,hcz132_1,hfz132_0,hfz132_1⟩:=yk2 BK394))
     refine bodyPost_ret (results_ct rfl _ _ gb394 76 #[.int .i64 0, .slice none 0 0] (0,0) _ rfl D49 Try.underlying76 rfl D2) rfl ?_
     exact ⟨_,D3,D10,yW HB⟩
def spec_l5Piece.f (a0_0:Int) (a0_1:Int) (a1_0:Int) (l1_1:List Int):Option (Bool):=(spec_l1In.f a1_0 0 (wrap64 (a0_0 - 1))).bind fun t451=>(if t451=true then (some ((l1_1.length:Int) == (wrap64 (a0_1 - 1)))) else (some false))
theorem spec_l5Piece.calls (a0_0:Int) (a0_1:Int) (a1_0:Int) (A1_1:Option Addr) (c1_1:Nat) (l1_1:List Int) (r:Bool) (w:World) (hr1_1:Kd.C (Kd.int .u8) w A1_1 l1_1.length l1_1) (hc1_1:l1_1.length≤c1_1) (h:spec_l5Piece.f a0_0 a0_1 a1_0 l1_1=some r) :
  Calls Try.prog 112 #[.agg #[.int .i64 a0_0, .int .i64 a0_1], .agg #[.int .i64 a1_0, .slice A1_1 l1_1.length c1_1]] w fun e w'=>e = .returned (.bool r)∧Below w.heap.size w w':=by
 have hu30:=Try.underlying30
 have hu76:=Try.underlying76
 have HR1_1:=am hr1_1
 have HC1_1:=am hc1_1
 clear hr1_1 hc1_1
 have HB:=am (Below.refl w.heap.size w)
 have H:=h
 unfold spec_l5Piece.f at H
 clear h
 obtain ⟨t451,A3,H⟩:=yo H
 by_cases c4:t451=true
 ·subst c4
  replace H:=yt H
  obtain rfl:=Option.some.inj H
  go_enter Try.func112,Try.ntmps112
  go_wp2_with (first|((with_reducible refine gD 2 ?_);(try (refine gate_guard D16 ?_;dsimp only));refine gB (cs:=#[.int .i64 a0_0, .int .i64 a0_1]) 30 ?_;intro gb449 hg w5 hbox hb;have BK449:=am (hbox);have GW449:=ye HB hg;replace HB:=yH HB hb;have GE449:=GW449;clear hb hbox hg)|((with_reducible refine gD 3 ?_);(try (refine gate_guard D16 ?_;dsimp only));refine gB (cs:=#[.int .i64 a1_0, .slice A1_1 l1_1.length c1_1]) 76 ?_;intro gb450 hg w6 hbox hb;have BK450:=am (hbox);have GW450:=ye HB hg;replace HB:=yH HB hb;have NB449_450:=yl BK449 hg;have NB450_449:=yg BK449 hg;replace BK449:=yb BK449 hb;have GE450:=GW450;clear hb hbox hg;have hnb7:=NB450_449.out;have hnc7:=NB449_450.out;obtain ⟨hcz8_0,hcz8_1,hfz8_0,hfz8_1⟩:=yk2 BK450;obtain ⟨hcz9_0,hcz9_1,hfz9_0,hfz9_1⟩:=yk2 BK449)|((with_reducible refine gC 84 ?_);refine gM (some 10) Try.func84 (args:=#[.int .i64 a1_0, .int .i64 0, .int .i64 (wrap64 (a0_0 - 1))]) (spec_l1In.calls a1_0 0 (wrap64 (a0_0 - 1)) true _ A3.out) ?_;rintro e w' ⟨rfl,⟨nd,rfl⟩⟩;refine ⟨_,rfl,?_⟩))
  go_ret
  exact ⟨D3,yW HB⟩
 replace c4:=Bool.eq_false_iff.mpr c4
 subst c4
 replace H:=yn H
 obtain rfl:=Option.some.inj H
 go_enter Try.func112,Try.ntmps112
 go_wp2_with (first|((with_reducible refine gD 2 ?_);(try (refine gate_guard D16 ?_;dsimp only));refine gB (cs:=#[.int .i64 a0_0, .int .i64 a0_1]) 30 ?_;intro gb449 hg w10 hbox hb;have BK449:=am (hbox);have GW449:=ye HB hg;replace HB:=yH HB hb;have GE449:=GW449;clear hb hbox hg)|((with_reducible refine gD 3 ?_);(try (refine gate_guard D16 ?_;dsimp only));refine gB (cs:=#[.int .i64 a1_0, .slice A1_1 l1_1.length c1_1]) 76 ?_;intro gb450 hg w11 hbox hb;have BK450:=am (hbox);have GW450:=ye HB hg;replace HB:=yH HB hb;have NB449_450:=yl BK449 hg;have NB450_449:=yg BK449 hg;replace BK449:=yb BK449 hb;have GE450:=GW450;clear hb hbox hg;have hnb12:=NB450_449.out;have hnc12:=NB449_450.out;obtain ⟨hcz13_0,hcz13_1,hfz13_0,hfz13_1⟩:=yk2 BK450;obtain ⟨hcz14_0,hcz14_1,hfz14_0,hfz14_1⟩:=yk2 BK449)|((with_reducible refine gC 84 ?_);refine gM (some 10) Try.func84 (args:=#[.int .i64 a1_0, .int .i64 0, .int .i64 (wrap64 (a0_0 - 1))]) (spec_l1In.calls a1_0 0 (wrap64 (a0_0 - 1)) false _ A3.out) ?_;rintro e w' ⟨rfl,⟨nd,rfl⟩⟩;refine ⟨_,rfl,?_⟩))
 go_ret
 exact ⟨D3,yW HB⟩

def spec_HelpFor.j0:Nat→Int→Bool→Int→Int→Int→List Int→Option (Int × Int × Bool)
 | 0,_,_,_,_,_,_=>none
 | k+1,x2,x30,x453000,x453001,x454000,x454001=>if x30=true then (some (0,0,false)) else ((spec_l5Short.f k x453000 x453001 x2).bind fun t458=>((spec_l1Dot.f k x454001 t458).bind fun t461=>(some (x454000,t461,true))))
def spec_HelpFor.f (k:Nat) (a0_0:Int) (a0_1:Int) (a1_0:Int) (l1_1:List Int) (a2:Int):Option (Int × Int × Bool):=(spec_GoodMsr.f a0_0 a0_1).bind fun t455=>(if t455=true then ((spec_l5Piece.f a0_0 a0_1 a1_0 l1_1).bind fun t456=>(if t456=true then ((spec_l1In.f a2 0 (wrap64 (a0_0 - 1))).bind fun t457=>(if t457=true then (spec_HelpFor.j0 k a2 (a2 == a1_0) a0_0 a0_1 a1_0 l1_1) else (spec_HelpFor.j0 k a2 true a0_0 a0_1 a1_0 l1_1))) else (spec_HelpFor.j0 k a2 true a0_0 a0_1 a1_0 l1_1))) else (spec_HelpFor.j0 k a2 true a0_0 a0_1 a1_0 l1_1))
theorem spec_HelpFor.mono_l:∀ k,(∀ y0 y1 y2 y3 y4 y5,LeO (spec_HelpFor.j0 k y0 y1 y2 y3 y4 y5) (spec_HelpFor.j0 (k+1) y0 y1 y2 y3 y4 y5))
 | 0=>fun _ _ _ _ _ _ r h=>by simp [spec_HelpFor.j0] at h
 | k+1=>by
  have ih0:=spec_HelpFor.mono_l k
  intro y0 y1 y2 y3 y4 y5
  unfold spec_HelpFor.j0
  exact mm
theorem spec_HelpFor.mono:∀ a0 a1 a2 a3 a4 k,LeO (spec_HelpFor.f k a0 a1 a2 a3 a4) (spec_HelpFor.f (k+1) a0 a1 a2 a3 a4):=by
 intro a0 a1 a2 a3 a4 k
 have ih0:=spec_HelpFor.mono_l k
 unfold spec_HelpFor.f
 exact mm
def spec_HelpFor.T3:Bool × List (List Nat × List Nat):=(true,[([],[]),([0],[0]),([],[]),([2],[2]),([],[]),([],[]),([4,5],[4,5]),([3,6,6],[3,6]),([1,7],[1,7]),([8,7,0,1,2,3,4,5,6,7,8],[8]),([9,0,1,2,3,4,5,6,7,8,9],[])])
def spec_HelpFor.B3:List Nat:=[0,1,0,4,0,0,48,124,255,511,1023]
theorem spec_HelpFor.tab3:rtab .any (opsOf Try.f120 3)=spec_HelpFor.T3:=by kernel_rfl
theorem spec_HelpFor.bits3:waitsOk spec_HelpFor.T3.2 spec_HelpFor.B3=true:=by kernel_rfl
theorem spec_HelpFor.calls (k:Nat) (a0_0:Int) (a0_1:Int) (a1_0:Int) (A1_1:Option Addr) (c1_1:Nat) (l1_1:List Int) (a2:Int) (r1:Int) (r2:Int) (r3:Bool) (w:World) (hr1_1:Kd.C (Kd.int .u8) w A1_1 l1_1.length l1_1) (hc1_1:l1_1.length≤c1_1) (h:spec_HelpFor.f k a0_0 a0_1 a1_0 l1_1 a2=some (r1,r2,r3)) :
  Calls Try.prog 120 #[.agg #[.int .i64 a0_0, .int .i64 a0_1], .agg #[.int .i64 a1_0, .slice A1_1 l1_1.length c1_1], .int .i64 a2] w fun e w'=>e = .returned (.tuple #[.agg #[.int .i64 r1, .int .u8 r2], .bool r3])∧Below w.heap.size w w':=by
 have hu30:=Try.underlying30
 have hu76:=Try.underlying76
 have hu85:=Try.underlying85
 have HR1_1:=am hr1_1
 have HC1_1:=am hc1_1
 clear hr1_1 hc1_1
 have HB:=am (Below.refl w.heap.size w)
 have H:=h
 unfold spec_HelpFor.f at H
 clear h
 have HC4:=am H
 clear H
 go_enter Try.func120,Try.ntmps120
 go_upto_region 1 with (first|((with_reducible refine gD 3 ?_);refine gB (cs:=#[.int .i64 a0_0, .int .i64 a0_1]) 30 ?_;intro gb452 hg w5 hbox hb;have BK452:=am (hbox);have GW452:=ye HB hg;replace HB:=yH HB hb;have GE452:=GW452;clear hb hbox hg)|((with_reducible refine gD 4 ?_);refine gB (cs:=#[.int .i64 a1_0, .slice A1_1 l1_1.length c1_1]) 76 ?_;intro gb453 hg w6 hbox hb;have BK453:=am (hbox);have GW453:=ye HB hg;replace HB:=yH HB hb;have NB452_453:=yl BK452 hg;have NB453_452:=yg BK452 hg;replace BK452:=yb BK452 hb;have GE453:=GW453;clear hb hbox hg)|((with_reducible refine gD 6 ?_);refine gB (cs:=#[.int .i64 0, .int .u8 0]) 85 ?_;intro gb454 hg w7 hbox hb;have BK454:=am (hbox);have GW454:=ye HB hg;replace HB:=yH HB hb;have NB452_454:=yl BK452 hg;have NB454_452:=yg BK452 hg;replace BK452:=yb BK452 hb;have NB453_454:=yl BK453 hg;have NB454_453:=yg BK453 hg;replace BK453:=yb BK453 hb;have GE454:=GW454;clear hb hbox hg))
 (try simp only [Act.put,q1,q2,q3])
 go_cut [30] (fun v30 wc=>∃ (kq:Nat) (x30_3:Bool),v30 = .bool x30_3∧Aside0 (spec_HelpFor.j0 kq a2 x30_3 a0_0 a0_1 a1_0 l1_1=some (r1,r2,r3))∧Aside0 (kq≤k)∧Aside0 (wc.heap[gb452]? = some (.cells #[.int .i64 a0_0, .int .i64 a0_1] 30 (0,0)))∧Aside0 (wc.heap[gb453]? = some (.cells #[.int .i64 a1_0,(.slice A1_1 l1_1.length c1_1)] 76 (0,0)))∧Aside0 (wc.heap[gb454]? = some (.cells #[.int .i64 0, .int .u8 0] 85 (0,0)))∧Aside0 (Below w.heap.size w wc))
 case first =>
  have H:=HC4.out
  clear HC4
  obtain ⟨t455,A8,H⟩:=yo H
  by_cases c9:t455=true
  ·subst c9
   replace H:=yt H
   obtain ⟨t456,A10,H⟩:=yo H
   by_cases c11:t456=true
   ·subst c11
    replace H:=yt H
    obtain ⟨t457,A12,H⟩:=yo H
    by_cases c13:t457=true
    ·subst c13
     replace H:=yt H
     have H':=am H
     clear H
     have hnb14:=NB452_453.out
     have hnc14:=NB453_452.out
     have hnb15:=NB452_454.out
     have hnc15:=NB454_452.out
     obtain ⟨hcz16_0,hcz16_1,hfz16_0,hfz16_1⟩:=yk2 BK452
     go_wp2_with (first|((with_reducible refine gC 47 ?_);refine gM (some 9) Try.func47 (args:=#[.agg #[.int .i64 a0_0, .int .i64 a0_1]]) (spec_GoodMsr.calls a0_0 a0_1 true _ A8.out) ?_;rintro e w17 ⟨rfl,hb⟩;refine ⟨_,rfl,?_⟩;replace BK452:=yb BK452 hb;replace BK453:=yb BK453 hb;replace BK454:=yb BK454 hb;replace HB:=yH HB hb;clear hb;obtain ⟨hcz18_0,hcz18_1,hfz18_0,hfz18_1⟩:=yk2 BK452;have hnb19:=NB453_454.out;have hnc19:=NB454_453.out;obtain ⟨hcz20_0,hcz20_1,hfz20_0,hfz20_1⟩:=yk2 BK453)|(go_at_call 112;(with_reducible refine (spec_l5Piece.calls a0_0 a0_1 a1_0 _ _ l1_1 true _ (yc (Kd.C_below HR1_1.out HB.out)) HC1_1.out A10.out).mono ?_);rintro e w21 ⟨rfl,hb⟩;replace BK452:=yb BK452 hb;replace BK453:=yb BK453 hb;replace BK454:=yb BK454 hb;replace HB:=yH HB hb;clear hb;obtain ⟨hcz22_0,hcz22_1,hfz22_0,hfz22_1⟩:=yk2 BK452)|(go_at_call 84;(with_reducible refine (spec_l1In.calls a2 0 (wrap64 (a0_0 - 1)) true _ A12.out).mono ?_);rintro e w' ⟨rfl,⟨nd,rfl⟩⟩;obtain ⟨hcz23_0,hcz23_1,hfz23_0,hfz23_1⟩:=yk2 BK453))
     go_meet
     case rel=>exact ⟨_,((a2 == a1_0)),D1,H',⟨D57⟩,⟨yB BK452⟩,⟨yB BK453⟩,⟨yB BK454⟩,⟨yW HB⟩⟩
    replace c13:=Bool.eq_false_iff.mpr c13
    subst c13
    replace H:=yn H
    have H':=am H
    clear H
    have hnb24:=NB452_453.out
    have hnc24:=NB453_452.out
    have hnb25:=NB452_454.out
    have hnc25:=NB454_452.out
    obtain ⟨hcz26_0,hcz26_1,hfz26_0,hfz26_1⟩:=yk2 BK452
    go_wp2_with (first|((with_reducible refine gC 47 ?_);refine gM (some 9) Try.func47 (args:=#[.agg #[.int .i64 a0_0, .int .i64 a0_1]]) (spec_GoodMsr.calls a0_0 a0_1 true _ A8.out) ?_;rintro e w27 ⟨rfl,hb⟩;refine ⟨_,rfl,?_⟩;replace BK452:=yb BK452 hb;replace BK453:=yb BK453 hb;replace BK454:=yb BK454 hb;replace HB:=yH HB hb;clear hb;obtain ⟨hcz28_0,hcz28_1,hfz28_0,hfz28_1⟩:=yk2 BK452;have hnb29:=NB453_454.out;have hnc29:=NB454_453.out;obtain ⟨hcz30_0,hcz30_1,hfz30_0,hfz30_1⟩:=yk2 BK453)|(go_at_call 112;(with_reducible refine (spec_l5Piece.calls a0_0 a0_1 a1_0 _ _ l1_1 true _ (yc (Kd.C_below HR1_1.out HB.out)) HC1_1.out A10.out).mono ?_);rintro e w31 ⟨rfl,hb⟩;replace BK452:=yb BK452 hb;replace BK453:=yb BK453 hb;replace BK454:=yb BK454 hb;replace HB:=yH HB hb;clear hb;obtain ⟨hcz32_0,hcz32_1,hfz32_0,hfz32_1⟩:=yk2 BK452)|(go_at_call 84;(with_reducible refine (spec_l1In.calls a2 0 (wrap64 (a0_0 - 1)) false _ A12.out).mono ?_);rintro e w' ⟨rfl,⟨nd,rfl⟩⟩))
    go_meet
    case rel=>exact ⟨_,(true),D1,H',⟨D57⟩,⟨yB BK452⟩,⟨yB BK453⟩,⟨yB BK454⟩,⟨yW HB⟩⟩
   replace c11:=Bool.eq_false_iff.mpr c11
   subst c11
   replace H:=yn H
   have H':=am H
   clear H
   have hnb33:=NB452_453.out
   have hnc33:=NB453_452.out
   have hnb34:=NB452_454.out
   have hnc34:=NB454_452.out
   obtain ⟨hcz35_0,hcz35_1,hfz35_0,hfz35_1⟩:=yk2 BK452
   go_wp2_with (first|((with_reducible refine gC 47 ?_);refine gM (some 9) Try.func47 (args:=#[.agg #[.int .i64 a0_0, .int .i64 a0_1]]) (spec_GoodMsr.calls a0_0 a0_1 true _ A8.out) ?_;rintro e w36 ⟨rfl,hb⟩;refine ⟨_,rfl,?_⟩;replace BK452:=yb BK452 hb;replace BK453:=yb BK453 hb;replace BK454:=yb BK454 hb;replace HB:=yH HB hb;clear hb;obtain ⟨hcz37_0,hcz37_1,hfz37_0,hfz37_1⟩:=yk2 BK452;have hnb38:=NB453_454.out;have hnc38:=NB454_453.out;obtain ⟨hcz39_0,hcz39_1,hfz39_0,hfz39_1⟩:=yk2 BK453)|(go_at_call 112;(with_reducible refine (spec_l5Piece.calls a0_0 a0_1 a1_0 _ _ l1_1 false _ (yc (Kd.C_below HR1_1.out HB.out)) HC1_1.out A10.out).mono ?_);rintro e w40 ⟨rfl,hb⟩;replace BK452:=yb BK452 hb;replace BK453:=yb BK453 hb;replace BK454:=yb BK454 hb;replace HB:=yH HB hb;clear hb))
   go_meet
   case rel=>exact ⟨_,(true),D1,H',⟨D57⟩,⟨yB BK452⟩,⟨yB BK453⟩,⟨yB BK454⟩,⟨yW HB⟩⟩
  replace c9:=Bool.eq_false_iff.mpr c9
  subst c9
  replace H:=yn H
  have H':=am H
  clear H
  have hnb41:=NB452_453.out
  have hnc41:=NB453_452.out
  have hnb42:=NB452_454.out
  have hnc42:=NB454_452.out
  obtain ⟨hcz43_0,hcz43_1,hfz43_0,hfz43_1⟩:=yk2 BK452
  go_wp2_with (first|((with_reducible refine gC 47 ?_);refine gM (some 9) Try.func47 (args:=#[.agg #[.int .i64 a0_0, .int .i64 a0_1]]) (spec_GoodMsr.calls a0_0 a0_1 false _ A8.out) ?_;rintro e w44 ⟨rfl,hb⟩;refine ⟨_,rfl,?_⟩;replace BK452:=yb BK452 hb;replace BK453:=yb BK453 hb;replace BK454:=yb BK454 hb;replace HB:=yH HB hb;clear hb))
  go_meet
  case rel=>exact ⟨_,(true),D1,H',⟨D57⟩,⟨yB BK452⟩,⟨yB BK453⟩,⟨yB BK454⟩,⟨yW HB⟩⟩
 case rest =>
  clear HC4
  try clear c1
  try clear c2
  try clear p2
  try clear c3
  try clear c4
  try clear p6
  try clear c9
  try clear c11
  try clear c12
  try clear c13
  try clear c14
  try clear c15
  try clear c19
  try clear c24
  try clear c25
  try clear c29
  try clear c33
  try clear c34
  try clear c38
  try clear c41
  try clear c42
  try clear hcz16_0
  try clear hcz16_1
  try clear hcz18_0
  try clear hcz18_1
  try clear hcz20_0
  try clear hcz20_1
  try clear hcz22_0
  try clear hcz22_1
  try clear hcz23_0
  try clear hcz23_1
  try clear hcz26_0
  try clear hcz26_1
  try clear hcz28_0
  try clear hcz28_1
  try clear hcz30_0
  try clear hcz30_1
  try clear hcz32_0
  try clear hcz32_1
  try clear hcz35_0
  try clear hcz35_1
  try clear hcz37_0
  try clear hcz37_1
  try clear hcz39_0
  try clear hcz39_1
  try clear hcz43_0
  try clear hcz43_1
  try clear hfz16_0
  try clear hfz16_1
  try clear hfz18_0
  try clear hfz18_1
  try clear hfz20_0
  try clear hfz20_1
  try clear hfz22_0
  try clear hfz22_1
  try clear hfz23_0
  try clear hfz23_1
  try clear hfz26_0
  try clear hfz26_1
  try clear hfz28_0
  try clear hfz28_1
  try clear hfz30_0
  try clear hfz30_1
  try clear hfz32_0
  try clear hfz32_1
  try clear hfz35_0
  try clear hfz35_1
  try clear hfz37_0
  try clear hfz37_1
  try clear hfz39_0
  try clear hfz39_1
  try clear hfz43_0
  try clear hfz43_1
  obtain ⟨kq,x30_3,rfl,HA,HJ3,BK452,BK453,BK454,HB⟩:=hcut
  cases kq with
  | zero=>exact absurd HA.out (by simp [spec_HelpFor.j0])
  | succ kj3 =>
   have H:=HA.out
   clear HA
   simp only [spec_HelpFor.j0] at H
   by_cases c45:x30_3=true
   ·subst c45
    replace H:=yt H
    simp only [Option.some.injEq,Prod.mk.injEq] at H
    obtain ⟨rfl,rfl,rfl⟩:=H
    have hnb46:=NB454_452.out
    have hnc46:=NB452_454.out
    have hnb47:=NB454_453.out
    have hnc47:=NB453_454.out
    obtain ⟨hcz48_0,hcz48_1,hfz48_0,hfz48_1⟩:=yk2 BK454
    go_wp2
    refine bodyPost_ret (results_ct rfl _ _ gb454 85 #[.int .i64 0, .int .u8 0] (0,0) _ rfl (by refine sB ?_;refine blk_put (cs:=#[.int .i64 0, .int .u8 0]) ?_ 1 _ rfl;refine sB ?_;refine blk_put (cs:=#[.int .i64 0, .int .u8 0]) ?_ 0 _ rfl;exact yB BK454) Try.underlying85 rfl D2) rfl ?_
    exact ⟨D3,yW HB⟩
   replace c45:=Bool.eq_false_iff.mpr c45
   subst c45
   replace H:=yn H
   obtain ⟨t458,A49,H⟩:=yo H
   obtain ⟨t461,A50,H⟩:=yo H
   simp only [Option.some.injEq,Prod.mk.injEq] at H
   obtain ⟨rfl,rfl,rfl⟩:=H
   try go_wp2
   replace BK452:=am (qd BK452.out)
   replace BK453:=am (qd BK453.out)
   replace BK454:=am (qd BK454.out)
   replace HB:=am (pd HB.out)
   refine rS (n:=11) (S:=fun w'=>w'.cell? ⟨gb453,0,none⟩=some (.int .i64 a1_0)∧w'.cell? ⟨gb453,1,none⟩=some (.slice A1_1 l1_1.length c1_1)∧w'.cell? ⟨gb452,0,none⟩=some (.int .i64 a0_0)∧w'.cell? ⟨gb452,1,none⟩=some (.int .i64 a0_1)) (ds:=[]) [(0,32),(2,34),(5,37),(1,33),(3,35),(4,36),(6,0),(7,0),(8,40),(9,0),(10,7)] D2 rfl spec_HelpFor.tab3 spec_HelpFor.bits3 ⟨yk BK453 0,yk BK453 1,yk BK452 0,yk BK452 1⟩ (fun hHeld HT_ HW_=>?_)
   generalize wc.drew=w51 at BK452 BK453 BK454 HB hHeld ⊢
   refine rR ?_
   refine rO (N:=some 38) HT_ rfl rfl D2 D5 (fun K hK=>?_)
   refine goes_ Try.func151 D2 rfl #[.agg #[.int .i64 a0_0, .int .i64 a0_1], .int .i64 a2] D16 rfl rfl D8 ?_
   with_reducible refine (spec_l5Short.calls kj3 a0_0 a0_1 a2 t458 _ A49.out).mono ?_
   rintro e w52 ⟨v459,rfl,ho0,hb⟩
   refine ⟨_,rfl,?_⟩
   have HO460:=am (Kd.R_lower ho0 (pz (yW HB)))
   replace BK452:=yb BK452 hb
   replace BK453:=yb BK453 hb
   replace BK454:=yb BK454 hb
   replace HB:=yH HB hb
   (try clear hb)
   (try clear hb2)
   (try clear hk)
   (try clear hi)
   (try clear ho0)
   obtain ⟨Ao53,co53,eo53⟩:=Kd.R_slice HO460.out
   (first|subst eo53|(injection eo53 with f1_ f2_ f3_;have f4_:=f1_.symm;have f5_:=f3_.symm;clear f1_ f2_ f3_;subst f4_;subst f5_))
   refine hK.out _ _ ⟨yk BK453 0,yk BK453 1,yk BK452 0,yk BK452 1⟩ (fun hHeld=>?_)
   clear hK K
   refine rN (nA 38) ?_
   refine rO (N:=some 39) HT_ rfl rfl D2 D5 (fun K hK=>?_)
   refine goes_ Try.func150 D2 rfl #[.slice A1_1 l1_1.length c1_1, .slice Ao53 t458.length co53] D16 rfl rfl D8 ?_
   with_reducible refine (spec_l1Dot.calls kj3 _ _ l1_1 _ _ t458 t461 _ (yc (Kd.C_below HR1_1.out HB.out)) HC1_1.out (yc (Kd.R_reads' HO460.out).2.2) (Kd.R_reads' HO460.out).2.1 A50.out).mono ?_
   rintro e w' ⟨rfl,⟨nd,rfl⟩⟩
   refine ⟨_,rfl,?_⟩
   refine hK.out _ _ ⟨yk BK453 0,yk BK453 1,yk BK452 0,yk BK452 1⟩ (fun hHeld=>?_)
   clear hK K
   refine rN (nA 39) ?_
   refine rR ?_
   refine rO (N:=none) HT_ rfl rfl D2 D5 (fun K hK=>?_)
   have hs54:w52.cell? ⟨gb454,0,none⟩=some (.int .i64 0):=(blk_cell BK454.out 0).trans rfl
   have hfs54:=blk_frozen BK454.out 0
   have hns54_0:=NB452_454.out
   have hns54_1:=NB453_454.out
   have hms54_0:=NB454_452.out
   have hms54_1:=NB454_453.out
   have hs55:w52.cell? ⟨gb454,1,none⟩=some (.int .u8 0):=(blk_cell BK454.out 1).trans rfl
   have hfs55:=blk_frozen BK454.out 1
   have hns55_0:=NB452_454.out
   have hns55_1:=NB453_454.out
   have hms55_0:=NB454_452.out
   have hms55_1:=NB454_453.out
   refine skip_ (w1:=?_) D16 rfl ?_ ?_
   rotate_left
   ·go_simp
    rfl
   refine hK.out _ _ ⟨((cell_far (p:=⟨gb454,_,none⟩) NB453_454.out _).trans (((cell_far (p:=⟨gb454,_,none⟩) NB453_454.out _).trans (hHeld.1)))),((cell_far (p:=⟨gb454,_,none⟩) NB453_454.out _).trans (((cell_far (p:=⟨gb454,_,none⟩) NB453_454.out _).trans (hHeld.2.1)))),((cell_far (p:=⟨gb454,_,none⟩) NB452_454.out _).trans (((cell_far (p:=⟨gb454,_,none⟩) NB452_454.out _).trans (hHeld.2.2.1)))),((cell_far (p:=⟨gb454,_,none⟩) NB452_454.out _).trans (((cell_far (p:=⟨gb454,_,none⟩) NB452_454.out _).trans (hHeld.2.2.2))))⟩ (fun hHeld=>?_)
   clear hK K
   refine rR ?_
   refine rD HT_ D2 ?_
   try go_wp2
   refine bodyPost_ret (results_ct rfl _ _ gb454 85 #[.int .i64 a1_0, .int .u8 t461] (0,0) _ rfl (by refine sB ?_;refine blk_put (cs:=#[.int .i64 a1_0, .int .u8 0]) ?_ 1 _ rfl;refine sB ?_;refine blk_put (cs:=#[.int .i64 0, .int .u8 0]) ?_ 0 _ rfl;exact yB BK454) Try.underlying85 rfl D2) rfl ?_
   exact ⟨D3,yW HB⟩
mutual
def spec_DrawRegeneratePiece.l0:Nat→Int→List (S85)→List (S76)→Int→Int→List Int→Int→Int→Int→Int→Option (Int × Int × Int × (List (S85)) × Int × Int)
 | 0,_,_,_,_,_,_,_,_,_,_=>none
 | k+1,x7,x8,x37,x38,x39,x1000,x1001,x1002,x301000,x301001=>if x39 < x38 then (if 0≤x39 then (if x39 < (x37.length:Int) then ((spec_HelpFor.f k x301000 x301001 ((rd_T76 x37 x39).f0) ((rd_T76 x37 x39).f1) x7).bind fun bt318=>(if bt318.2.2=true then (if (x8.length:Int) < (wrap64 (2*(wrap64 (x301001 - 1)))) then ((spec_l1Cur_one.f x1000 x1001 x1002 2).bind fun bt322=>(if bt322.1=true then (spec_DrawRegeneratePiece.j1 k x7 x8 x37 x38 x39 true x1000 bt322.2.1 bt322.2.2 x301000 x301001 bt318.1 bt318.2.1) else (spec_DrawRegeneratePiece.j1 k x7 x8 x37 x38 x39 (decide ((wrap64 (x301000 - ((rd_T76 x37 x39).f0)))≤(wrap64 ((wrap64 ((wrap64 (2*(wrap64 (x301001 - 1)))) - (x8.length:Int)))+1)))) x1000 bt322.2.1 bt322.2.2 x301000 x301001 bt318.1 bt318.2.1))) else (spec_DrawRegeneratePiece.j1 k x7 x8 x37 x38 x39 false x1000 x1001 x1002 x301000 x301001 bt318.1 bt318.2.1)) else (spec_DrawRegeneratePiece.j1 k x7 x8 x37 x38 x39 false x1000 x1001 x1002 x301000 x301001 bt318.1 bt318.2.1))) else (none)) else (none)) else (if (x8.length:Int) > 0 then ((spec_l1Cur_one.f x1000 x1001 x1002 12).bind fun bt328=>(if bt328.1=true then ((spec_l1Cur_pick.f x1000 bt328.2.1 bt328.2.2 9).bind fun bt331=>(if 0 < (x8.length:Int) then (some (x301000,x301001,x7,(x8.set (0:Int).toNat (⟨bt331.1,(rd_T85 x8 0).f1⟩:S85)),bt331.2.1,bt331.2.2)) else (none))) else (some (x301000,x301001,x7,x8,bt328.2.1,bt328.2.2)))) else (some (x301000,x301001,x7,x8,x1001,x1002)))
def spec_DrawRegeneratePiece.j1:Nat→Int→List (S85)→List (S76)→Int→Int→Bool→List Int→Int→Int→Int→Int→Int→Int→Option (Int × Int × Int × (List (S85)) × Int × Int)
 | 0,_,_,_,_,_,_,_,_,_,_,_,_,_=>none
 | k+1,x7,x8,x37,x38,x39,x79,x1000,x1001,x1002,x301000,x301001,x322000,x322001=>if x79=true then (if x8.length < 8796093022208 then (spec_DrawRegeneratePiece.l0 k x7 (x8 ++ [(⟨x322000,x322001⟩:S85)]) x37 x38 (wrap64 (x39+1)) x1000 x1001 x1002 x301000 x301001) else (none)) else (spec_DrawRegeneratePiece.l0 k x7 x8 x37 x38 (wrap64 (x39+1)) x1000 x1001 x1002 x301000 x301001)
end
def spec_DrawRegeneratePiece.g (k:Nat) (s0_0:List Int) (s0_1:Int) (s0_2:Int):Option (Int × Int × Int × (List (S85)) × Int × Int):=(spec_l1Cur_msr.f s0_0 s0_1 s0_2).bind fun bt296=>((spec_GoodMsr.f bt296.1 bt296.2.1).bind fun t301=>(if t301=true then ((spec_l1Cur_pick.f s0_0 bt296.2.2.1 bt296.2.2.2 bt296.1).bind fun bt305=>((spec_l1Cur_vector.f k s0_0 bt305.2.1 bt305.2.2 (wrap64 (bt296.2.1*(wrap64 (bt296.2.1 - 1))))).bind fun bt308=>((spec_l5Encode.f k bt296.1 bt296.2.1 bt308.1).bind fun t313=>(spec_DrawRegeneratePiece.l0 k bt305.1 ([]:List (S85)) t313 (t313.length:Int) 0 s0_0 bt308.2.1 bt308.2.2 bt296.1 bt296.2.1)))) else (some (bt296.1,bt296.2.1,0,(([(⟨1,0⟩:S85)]:List (S85))),bt296.2.2.1,bt296.2.2.2))))
theorem spec_DrawRegeneratePiece.monog_l:∀ k,(∀ y0 y1 y2 y3 y4 y5 y6 y7 y8 y9,LeO (spec_DrawRegeneratePiece.l0 k y0 y1 y2 y3 y4 y5 y6 y7 y8 y9) (spec_DrawRegeneratePiece.l0 (k+1) y0 y1 y2 y3 y4 y5 y6 y7 y8 y9))∧(∀ y0 y1 y2 y3 y4 y5 y6 y7 y8 y9 y10 y11 y12,LeO (spec_DrawRegeneratePiece.j1 k y0 y1 y2 y3 y4 y5 y6 y7 y8 y9 y10 y11 y12) (spec_DrawRegeneratePiece.j1 (k+1) y0 y1 y2 y3 y4 y5 y6 y7 y8 y9 y10 y11 y12))
 | 0=>⟨fun _ _ _ _ _ _ _ _ _ _ r h=>by simp [spec_DrawRegeneratePiece.l0] at h,fun _ _ _ _ _ _ _ _ _ _ _ _ _ r h=>by simp [spec_DrawRegeneratePiece.j1] at h⟩
 | k+1=>by
  obtain ⟨ih0,ih1⟩:=spec_DrawRegeneratePiece.monog_l k
  refine ⟨?_,?_⟩
  ·intro y0 y1 y2 y3 y4 y5 y6 y7 y8 y9
   unfold spec_DrawRegeneratePiece.l0
   exact mm
  intro y0 y1 y2 y3 y4 y5 y6 y7 y8 y9 y10 y11 y12
  unfold spec_DrawRegeneratePiece.j1
  exact mm
theorem spec_DrawRegeneratePiece.monog:∀ a0 a1 a2 k,LeO (spec_DrawRegeneratePiece.g k a0 a1 a2) (spec_DrawRegeneratePiece.g (k+1) a0 a1 a2):=by
 intro a0 a1 a2 k
 obtain ⟨ih0,ih1⟩:=spec_DrawRegeneratePiece.monog_l k
 unfold spec_DrawRegeneratePiece.g
 exact mm
def spec_DrawRegeneratePiece.T7:Bool × List (List Nat × List Nat):=(true,[([],[]),([],[]),([],[]),([2],[2]),([],[]),([4],[4]),([5],[5]),([3,6],[3,6]),([1,7],[1,7]),([0,8,8],[0,8]),([9],[9]),([],[])])
def spec_DrawRegeneratePiece.B7:List Nat:=[0,0,0,4,0,16,48,124,254,511,1023,0]
theorem spec_DrawRegeneratePiece.tab7:rtab .any (opsOf Try.f56 7)=spec_DrawRegeneratePiece.T7:=by kernel_rfl
theorem spec_DrawRegeneratePiece.bits7:waitsOk spec_DrawRegeneratePiece.T7.2 spec_DrawRegeneratePiece.B7=true:=by kernel_rfl
def spec_DrawRegeneratePiece.f (k:Nat) (l0:List Int):Option (Int × Int × Int × (List (S85))):=(spec_DrawRegeneratePiece.g k l0 0 0).bind fun b=>some (b.1,b.2.1,b.2.2.1,b.2.2.2.1)
theorem spec_DrawRegeneratePiece.mono:∀ a0 k,LeO (spec_DrawRegeneratePiece.f k a0) (spec_DrawRegeneratePiece.f (k+1) a0):=fun a0 k=>LeO.bind (spec_DrawRegeneratePiece.monog _ _ _ k) (fun _=>LeO.refl _)
theorem spec_DrawRegeneratePiece.calls (k:Nat) (A0:Option Addr) (c0:Nat) (l0:List Int) (p1:Int) (p2:Int) (p3:Int) (p4:(List (S85))) (w0:World) (hr0:Kd.C (Kd.int .u8) w0 A0 l0.length l0) (hc0:l0.length≤c0) (h:spec_DrawRegeneratePiece.f k l0=some (p1,p2,p3,p4)) :
  Calls Try.prog 56 #[.slice A0 l0.length c0] w0 fun e w'=>∃ v3_:Value,e = .returned (.tuple #[.agg #[.int .i64 p1, .int .i64 p2], .int .i64 p3,v3_])∧Kd.R k85 85 w' w0.heap.size (fun _=>True) v3_ p4∧Below w0.heap.size w0 w':=by
 unfold spec_DrawRegeneratePiece.f at h
 obtain ⟨⟨r1,r2,r3,r4,r5,r6⟩,hG_,he_⟩:=Option.bind_eq_some_iff.mp h
 clear h
 have h:=hG_
 clear hG_
 simp only [Option.some.injEq,Prod.mk.injEq] at he_
 obtain ⟨rfl,rfl,rfl,rfl⟩:=he_
 have HR:=am hr0
 clear hr0 hc0
 have HB:=am (Below.refl w0.heap.size w0)
 have HL:=am (Nat.le_refl w0.heap.size)
 have HW0:=HL
 have hu127:=Try.underlying127
 have hu30:=Try.underlying30
 have hu85:=Try.underlying85
 have hu76:=Try.underlying76
 have H:=h
 unfold spec_DrawRegeneratePiece.f at H
 clear h
 obtain ⟨⟨t296,t297,t298,t299⟩,A2,H⟩:=yo H
 try dsimp only at H
 obtain ⟨t301,A3,H⟩:=yo H
 by_cases c4:t301=true
 ·subst c4
  replace H:=yt H
  obtain ⟨⟨t305,t306,t307⟩,A5,H⟩:=yo H
  try dsimp only at H
  obtain ⟨⟨t308,t311,t312⟩,A6,H⟩:=yo H
  try dsimp only at H
  obtain ⟨t313,A7,H⟩:=yo H
  have H':=am H
  clear H
  go_enter Try.func56,Try.ntmps56
  try go_wp2_with (first|((with_reducible refine gD 15 ?_);refine gB (cs:=#[.slice A0 l0.length c0, .int .i64 0, .int .u64 0]) 127 ?_;intro g hg wS hbox hb;have n0_:=yH HB hb;have HI0:=am (show IsS127 w0 _ g l0 0 0 from ⟨A0,c0,hbox,by rw [hg];exact pz (yW HB),HR.out⟩);have m0_:=yb BK295 hb;have NB0_295:=yg BK295 hg;have NB295_0:=am (Ne.symm NB0_295.out);clear BK295;have BK295:=m0_;clear m0_ HB;have HB:=n0_;clear n0_;have HK:=am (KeepBut.of_below HB.out g none);clear hb hbox hg)|((with_reducible refine gD 2 ?_);(try (refine gate_guard D16 ?_;dsimp only));refine gB (cs:=#[.int .i64 0, .int .i64 0]) 30 ?_;intro gb295 hg w8 hbox hb;have n2_:=am (pu D12 hb);have n3_:=am (hbox);have n4_:=am ((by rw [hg];exact (pz (yW HB)):w0.heap.size≤gb295));have n5_:=n4_;clear HB;have HB:=n2_;have BK295:=n3_;have GW295:=n4_;have GE295:=n5_;clear n2_ n3_ n4_ n5_ hb hbox hg)|((with_reducible refine gC 100 ?_);refine gM (some 17) Try.func100 (args:=#[.pointer (some ⟨g,0,none⟩)]) (spec_l1Cur_msr.calls g l0 0 0 t296 t297 t298 t299 w0 _ ?side1 ?side2 A2.out) ?_;(case side1=>repeat (first|(with_reducible first|exact HI0.out|apply IsS127.alloc|apply IsS127.drewN|apply IsS127.drew|apply IsS127.set_1|apply IsS127.set_2|refine IsS127.far ?_ NB0_295.out _)|exact HI0.out));(case side2=>repeat (first|(with_reducible first|exact HB.out|apply pa|apply pb|apply pd|refine pt ?_ (IsS127.ge HI0.out)|refine pt ?_ GE295.out)|exact HB.out));rintro e w9 ⟨rfl,hi,hb,hk⟩;refine ⟨_,rfl,?_⟩;replace BK295:=am (KeepBut.blk hk (g':=gb295) (o:=.cells #[.int .i64 0, .int .i64 0] 30 (0,0)) (yB BK295) NB295_0.out D44);replace HK:=am (KeepBut.trans D25 hk (.inl rfl));replace HB:=am (hb);replace HI0:=am (hi);clear hb hk hi)|((with_reducible refine gD 6 ?_);(try (refine gate_guard D16 ?_;dsimp only));refine gB (cs:=#[.int .i64 0, .int .i64 0]) 30 ?_;intro gb300 hg w10 hbox hb;replace HB:=am (pu D115 hb);have BK300:=am (hbox);have GW300:=am ((by rw [hg];exact (keep_size (w:=w0) (g:=g) (row:=none) D25):w0.heap.size≤gb300));have GE300:=am ((Nat.le_trans HW0.out (by rw [hg];exact (keep_size (w:=w0) (g:=g) (row:=none) D25):w0.heap.size≤gb300):w0.heap.size≤gb300));replace HK:=am (KeepBut.trans D25 (KeepBut.of_below hb g none) (.inl rfl));have NB295_300:=yl BK295 hg;have NB300_295:=yg BK295 hg;replace BK295:=yb BK295 hb;have NB0_300:=am ((by rw [hg];exact Nat.ne_of_lt (IsS127.lt (show IsS127 w0 _ g l0 t298 t299 from by repeat (first|(with_reducible first|exact HI0.out|apply IsS127.alloc|apply IsS127.drewN|apply IsS127.drew|apply IsS127.set_1|apply IsS127.set_2|refine IsS127.far ?_ NB0_295.out _)|exact HI0.out))):g ≠ gb300));have NB300_0:=am ((by rw [hg];exact Nat.ne_of_gt (IsS127.lt (show IsS127 w0 _ g l0 t298 t299 from by repeat (first|(with_reducible first|exact HI0.out|apply IsS127.alloc|apply IsS127.drewN|apply IsS127.drew|apply IsS127.set_1|apply IsS127.set_2|refine IsS127.far ?_ NB0_295.out _)|exact HI0.out))):gb300 ≠ g));replace HI0:=am (IsS127.below D103 hb);clear hb hbox hg;have hnb11:=NB300_295.out;have hnc11:=NB295_300.out;have hnb12:=NB300_0.out;have hnc12:=NB0_300.out;obtain ⟨hcz13_0,hcz13_1,hfz13_0,hfz13_1⟩:=yk2 BK300)|((with_reducible refine gC 47 ?_);refine gM (some 19) Try.func47 (args:=#[.agg #[.int .i64 t296, .int .i64 t297]]) (spec_GoodMsr.calls t296 t297 true _ A3.out) ?_;rintro e w14 ⟨rfl,hb⟩;refine ⟨_,rfl,?_⟩;replace BK295:=am (qb (g:=gb295) (o:=.cells #[.int .i64 0, .int .i64 0] 30 (0,0)) (yF BK295) hb);replace BK300:=am (qb (g:=gb300) (o:=.cells #[.int .i64 t296, .int .i64 t297] 30 (0,0)) D110 hb);replace HK:=am (KeepBut.trans D7 (KeepBut.of_below hb g none) (.inl rfl));replace HB:=am (pu D14 hb);replace HI0:=am (IsS127.below (show IsS127 w0 ((w10.setCell ⟨gb300,0,none⟩ (.int .i64 t296)).setCell ⟨gb300,1,none⟩ (.int .i64 t297)) g l0 t298 t299 from by repeat (first|(with_reducible first|exact HI0.out|apply IsS127.alloc|apply IsS127.drewN|apply IsS127.drew|apply IsS127.set_1|apply IsS127.set_2|refine IsS127.far ?_ NB0_295.out _|refine IsS127.far ?_ NB0_300.out _)|exact HI0.out)) hb);clear hb;obtain ⟨hcz15_0,hcz15_1,hfz15_0,hfz15_1⟩:=yk2 BK300)|((with_reducible refine gC 95 ?_);refine gM (some 27) Try.func95 (args:=#[.pointer (some ⟨g,0,none⟩), .int .i64 t296]) (spec_l1Cur_pick.calls g l0 t298 t299 t296 t305 t306 t307 w0 _ ?side1 ?side2 A5.out) ?_;(case side1=>repeat (first|(with_reducible first|exact HI0.out|apply IsS127.alloc|apply IsS127.drewN|apply IsS127.drew|apply IsS127.set_1|apply IsS127.set_2|refine IsS127.far ?_ NB0_295.out _|refine IsS127.far ?_ NB0_300.out _)|exact HI0.out));(case side2=>repeat (first|(with_reducible first|exact HB.out|apply pa|apply pb|apply pd|refine pt ?_ (IsS127.ge HI0.out)|refine pt ?_ GE295.out|refine pt ?_ GE300.out)|exact HB.out));rintro e w16 ⟨rfl,hi,hb,hk⟩;refine ⟨_,rfl,?_⟩;replace BK295:=am (KeepBut.blk hk (g':=gb295) (o:=.cells #[.int .i64 0, .int .i64 0] 30 (0,0)) (yB BK295) NB295_0.out D44);replace BK300:=am (KeepBut.blk hk (g':=gb300) (o:=.cells #[.int .i64 t296, .int .i64 t297] 30 (0,0)) (yB BK300) NB300_0.out D44);replace HK:=am (KeepBut.trans D7 hk (.inl rfl));replace HB:=am (hb);replace HI0:=am (hi);clear hb hk hi))
  replace BK295:=am (qd BK295.out)
  replace BK300:=am (qd BK300.out)
  replace HI0:=am (IsS127.drew HI0.out)
  replace HK:=am (keep_drew HK.out)
  replace HB:=am (pd HB.out)
  refine rS (n:=12) (S:=fun w'=>w'.cell? ⟨gb300,0,none⟩=some (.int .i64 t296)∧w'.cell? ⟨gb300,1,none⟩=some (.int .i64 t297)) (ds:=[]) [(1,29),(2,30),(4,32),(11,39),(0,28),(3,31),(5,33),(6,34),(7,35),(8,0),(9,0),(10,38)] D2 rfl spec_DrawRegeneratePiece.tab7 spec_DrawRegeneratePiece.bits7 ⟨yk BK300 0,yk BK300 1⟩ (fun hHeld HT_ HW_=>?_)
  generalize w16.drew=w17 at BK295 BK300 HI0 HK HB hHeld ⊢
  refine rR ?_
  refine rO (N:=some 36) HT_ rfl rfl D2 D5 (fun K hK=>?_)
  refine goes_ Try.func102 D2 rfl #[.pointer (some ⟨g,0,none⟩), .int .i64 (wrap64 (t297*(wrap64 (t297 - 1))))] D16 rfl rfl D8 ?_
  with_reducible refine (spec_l1Cur_vector.calls k g l0 t306 t307 (wrap64 (t297*(wrap64 (t297 - 1)))) t308 t311 t312 w0 _ ?side1 ?side2 A6.out).mono ?_
  (case side1=>repeat (first|(with_reducible first|exact HI0.out|apply IsS127.alloc|apply IsS127.drewN|apply IsS127.drew|apply IsS127.set_1|apply IsS127.set_2|refine IsS127.far ?_ NB0_295.out _|refine IsS127.far ?_ NB0_300.out _)|exact HI0.out))
  (case side2=>repeat (first|(with_reducible first|exact HB.out|apply pa|apply pb|apply pd|refine pt ?_ (IsS127.ge HI0.out)|refine pt ?_ GE295.out|refine pt ?_ GE300.out)|exact HB.out))
  rintro e w18 ⟨v309,rfl,ho0,hi,hb,hk⟩
  refine ⟨_,rfl,?_⟩
  replace BK295:=am (KeepBut.blk hk (g':=gb295) (o:=.cells #[.int .i64 0, .int .i64 0] 30 (0,0)) (yB BK295) NB295_0.out D44)
  replace BK300:=am (KeepBut.blk hk (g':=gb300) (o:=.cells #[.int .i64 t296, .int .i64 t297] 30 (0,0)) (yB BK300) NB300_0.out D44)
  have HO310:=am (Kd.R_lower ho0 (keep_size (w:=w0) (g:=g) (row:=none) D7))
  replace HK:=am (KeepBut.trans D7 hk (.inl rfl))
  replace HB:=am (hb)
  replace HI0:=am (hi)
  (try clear hb)
  (try clear hb2)
  (try clear hk)
  (try clear hi)
  (try clear ho0)
  obtain ⟨Ao19,co19,eo19⟩:=Kd.R_slice HO310.out
  (first|subst eo19|(injection eo19 with f1_ f2_ f3_;have f4_:=f1_.symm;have f5_:=f3_.symm;clear f1_ f2_ f3_;subst f4_;subst f5_))
  refine hK.out _ _ ⟨yk BK300 0,yk BK300 1⟩ (fun hHeld=>?_)
  clear hK K
  refine rN (nA 36) ?_
  refine rO (N:=some 37) HT_ rfl rfl D2 D5 (fun K hK=>?_)
  refine goes_ Try.func64 D2 rfl #[.agg #[.int .i64 t296, .int .i64 t297], .slice Ao19 t308.length co19] D16 rfl rfl D8 ?_
  with_reducible refine (spec_l5Encode.calls k t296 t297 _ _ t308 t313 _ (yc (Kd.R_reads' HO310.out).2.2) (Kd.R_reads' HO310.out).2.1 A7.out).mono ?_
  rintro e w20 ⟨v314,rfl,ho0,hb⟩
  refine ⟨_,rfl,?_⟩
  have HO315:=am (Kd.S_lower (Kd.S_new' ho0 (Kd.R_lt (yR HO310))) (keep_size (w:=w0) (g:=g) (row:=none) D7))
  replace HO310:=bR HO310 hb
  replace BK295:=yb BK295 hb
  replace BK300:=yb BK300 hb
  replace HK:=am (KeepBut.trans D7 (KeepBut.of_below hb g none) (.inl rfl))
  replace HB:=am (pu D14 hb)
  replace HI0:=am (IsS127.below D21 hb)
  (try clear hb)
  (try clear hb2)
  (try clear hk)
  (try clear hi)
  (try clear ho0)
  obtain ⟨Ao21,co21,eo21⟩:=Kd.S_slice HO315.out
  (first|subst eo21|(injection eo21 with f1_ f2_ f3_;have f4_:=f1_.symm;have f5_:=f3_.symm;clear f1_ f2_ f3_;subst f4_;subst f5_))
  refine hK.out _ _ ⟨yk BK300 0,yk BK300 1⟩ (fun hHeld=>?_)
  clear hK K
  refine rN (nA 37) ?_
  refine rR ?_
  refine rD HT_ D2 ?_
  try go_wp2
  go_loopg [8,39] k (fun kq v8 v39 w'=>∃ (x8_1:List (S85)) (x39_1:Int) (x1001_1:Int) (x1002_1:Int),v39 = .int .i64 x39_1∧Aside0 (spec_DrawRegeneratePiece.l0 kq t305 x8_1 t313 (t313.length:Int) x39_1 l0 x1001_1 x1002_1 t296 t297=some (r1,r2,r3,r4,r5,r6))∧Aside0 (kq≤k)∧Aside0 (Kd.R k85 85 w' w0.heap.size (fun _=>True) v8 x8_1)∧Aside0 (Kd.S k76 76 w' w0.heap.size (fun _=>True) (.slice Ao21 t313.length co21) t313)∧Aside0 (w'.heap[gb295]? = some (.cells #[.int .i64 0, .int .i64 0] 30 (0,0)))∧Aside0 (w'.heap[gb300]? = some (.cells #[.int .i64 t296, .int .i64 t297] 30 (0,0)))∧Aside0 (IsS127 w0 w' g l0 x1001_1 x1002_1)∧Aside0 (KeepBut w0 w' g none)∧Aside0 (Below w0.heap.size w0 w'))
  case atStart=>exact ⟨(([]:List (S85))),(0),(t311),(t312),D1,H',⟨Nat.le_refl _⟩,⟨D10⟩,⟨by refine sS ?_;exact Kd.S_mono HO315.out (fun _ hk=>trivial)⟩,⟨yB BK295⟩,⟨yB BK300⟩,⟨D21⟩,⟨D7⟩,⟨D14⟩⟩
  case round =>
   clear H'
   try clear c1
   try clear p2
   try clear c4
   try clear c5
   try clear c6
   try clear p6
   try clear c9
   try clear c10
   try clear c11
   try clear c12
   try clear hcz13_0
   try clear hcz13_1
   try clear hcz15_0
   try clear hcz15_1
   try clear hfz13_0
   try clear hfz13_1
   try clear hfz15_0
   try clear hfz15_1
   obtain ⟨x8_1,x39_1,x1001_1,x1002_1,rfl,HA,HK1,HO_8,HO_37,BK295,BK300,HI0,HK,HB⟩:=hrel
   cases gk with
   | zero=>exact absurd HA.out (by simp [spec_DrawRegeneratePiece.l0])
   | succ k1 =>
    have H:=HA.out
    clear HA
    simp only [spec_DrawRegeneratePiece.l0] at H
    by_cases c22:x39_1 < (t313.length:Int)
    ·rw [if_pos c22] at H
     have c22b0:=decide_eq_true c22
     clear c22
     obtain ⟨c23,H⟩:=yi H
     have c23b0:=decide_eq_true c23
     clear c23
     obtain ⟨c24,H⟩:=yi H
     have c24b0:=decide_eq_true c24
     clear c24
     obtain ⟨⟨t318,t319,t320⟩,A25,H⟩:=yo H
     try dsimp only at H
     have HC26:=am H
     clear H
     have p316:0≤(x39_1:Int):=od D0
     have q316:x39_1 < (t313.length:Int):=od D0
     obtain ⟨ad316,A316_1,c316_1,e316,hx316_0,hx316_1,hl316_1,hi316_1⟩:=at_T76 (Kd.S_reads' HO_37.out).2.2 x39_1 p316 q316
     cases e316
     obtain ⟨ce316,hce316,hMe316,hcc316⟩:=Kd.S_get HO_37.out z76 x39_1 p316 (by first|exact q316|exact od D0|(have e_:=(Kd.S_reads' HO_37.out).1;omega))
     obtain ⟨ve316_1,rfl,ge316_1⟩:=k76_openM hMe316
     have hv316_1:=hcc316 1 _ rfl
     rw [add_field _ _ 1 D13] at hv316_1
     replace hv316_1:=Option.some.inj (hv316_1.symm.trans hx316_1)
     rw [hv316_1] at ge316_1
     have HL316_1:=am (show Kd.R (Kd.int .u8) 5 _ _ _ _ ((rd_T76 t313 x39_1).f1) from ge316_1)
     clear hv316_1 ge316_1
     clear hcc316 hce316
     have HR316_1:=am hi316_1
     have HC316_1:=am hl316_1
     clear hi316_1 hl316_1
     replace p316:=eq_true p316
     replace q316:=eq_true q316
     go_upto_region 11 with (first|((with_reducible refine gD 10 ?_);(try (refine gate_guard D16 ?_;dsimp only));refine gB (cs:=#[.int .i64 0, .slice none 0 0]) 76 ?_;intro gb317 hg w27 hbox hb;replace HO_8:=bR HO_8 hb;replace HO_37:=oS HO_37 hg hb;replace HL316_1:=bR HL316_1 hb;replace HR316_1:=am (Kd.C_below D105 hb);replace HB:=am (pu D14 hb);have BK317:=am (hbox);have GW317:=am ((by rw [hg];exact (keep_size (w:=w0) (g:=g) (row:=none) D7):w0.heap.size≤gb317));have GE317:=am ((Nat.le_trans HW0.out (by rw [hg];exact (keep_size (w:=w0) (g:=g) (row:=none) D7):w0.heap.size≤gb317):w0.heap.size≤gb317));replace HK:=am (KeepBut.trans D7 (KeepBut.of_below hb g none) (.inl rfl));have NB295_317:=yl BK295 hg;have NB317_295:=yg BK295 hg;replace BK295:=yb BK295 hb;have NB300_317:=yl BK300 hg;have NB317_300:=yg BK300 hg;replace BK300:=yb BK300 hb;have NB0_317:=am ((by rw [hg];exact Nat.ne_of_lt (IsS127.lt (show IsS127 w0 _ g l0 x1001_1 x1002_1 from by repeat (first|(with_reducible first|exact HI0.out|apply IsS127.alloc|apply IsS127.drewN|apply IsS127.drew|apply IsS127.set_1|apply IsS127.set_2|refine IsS127.far ?_ NB0_295.out _|refine IsS127.far ?_ NB0_300.out _)|exact HI0.out))):g ≠ gb317));have NB317_0:=am ((by rw [hg];exact Nat.ne_of_gt (IsS127.lt (show IsS127 w0 _ g l0 x1001_1 x1002_1 from by repeat (first|(with_reducible first|exact HI0.out|apply IsS127.alloc|apply IsS127.drewN|apply IsS127.drew|apply IsS127.set_1|apply IsS127.set_2|refine IsS127.far ?_ NB0_295.out _|refine IsS127.far ?_ NB0_300.out _)|exact HI0.out))):gb317 ≠ g));replace HI0:=am (IsS127.below D21 hb);clear hb hbox hg;have hnb28:=NB317_295.out;have hnc28:=NB295_317.out;have hnb29:=NB317_300.out;have hnc29:=NB300_317.out;have hnb30:=NB317_0.out;have hnc30:=NB0_317.out;obtain ⟨hcz31_0,hcz31_1,hfz31_0,hfz31_1⟩:=yk2 BK317;have hnb32:=NB300_295.out;have hnc32:=NB295_300.out;have hnb33:=NB300_0.out;have hnc33:=NB0_300.out;obtain ⟨hcz34_0,hcz34_1,hfz34_0,hfz34_1⟩:=yk2 BK300)|((with_reducible refine gC 120 ?_);refine gM (some 47) Try.func120 (args:=#[.agg #[.int .i64 t296, .int .i64 t297], .agg #[.int .i64 ((rd_T76 t313 x39_1).f0), .slice A316_1 ((rd_T76 t313 x39_1).f1).length c316_1], .int .i64 t305]) (spec_HelpFor.calls k1 t296 t297 ((rd_T76 t313 x39_1).f0) _ _ ((rd_T76 t313 x39_1).f1) t305 t318 t319 t320 _ ?side1 ?side2 A25.out) ?_;(case side1=>repeat (first|exact ((Kd.R_reads' D46).2.2)|(with_reducible refine Kd.C_alloc ?_ _)|(with_reducible refine Kd.C_drewN ?_ _)|(with_reducible refine Kd.C_drew ?_)));(case side2=>exact HC316_1.out);rintro e w35 ⟨rfl,hb⟩;refine ⟨_,rfl,?_⟩;replace HO_8:=am (Kd.R_below (by refine sR ?_;exact (Kd.R_mono (Kd.R_far (p:=⟨gb317,1,none⟩) (Kd.R_far (p:=⟨gb317,0,none⟩) (Kd.R_types HO_8.out BK317.out D5) (fun _ hk=>hk.2) (.int .i64 ((rd_T76 t313 x39_1).f0))) (fun _ hk=>hk.2) (.slice A316_1 ((rd_T76 t313 x39_1).f1).length c316_1)) (fun _ h_=>h_.1))) hb);replace HO_37:=am (Kd.S_below (by refine sS ?_;exact (Kd.S_mono (Kd.S_far (p:=⟨gb317,1,none⟩) (Kd.S_far (p:=⟨gb317,0,none⟩) (Kd.S_mono HO_37.out (fun k_ hk=>(⟨hk,hk.2⟩:_∧k_ ≠ gb317))) (fun _ hk=>hk.2) (.int .i64 ((rd_T76 t313 x39_1).f0))) (fun _ hk=>hk.2) (.slice A316_1 ((rd_T76 t313 x39_1).f1).length c316_1)) (fun _ h_=>h_.1))) hb);replace BK295:=am (qb (g:=gb295) (o:=.cells #[.int .i64 0, .int .i64 0] 30 (0,0)) (yF BK295) hb);replace BK300:=am (qb (g:=gb300) (o:=.cells #[.int .i64 t296, .int .i64 t297] 30 (0,0)) (yF BK300) hb);replace HR316_1:=am (Kd.C_below ((Kd.R_reads' D46).2.2) hb);replace HL316_1:=am (Kd.R_below D46 hb);replace BK317:=am (qb (g:=gb317) (o:=.cells #[.int .i64 ((rd_T76 t313 x39_1).f0), .slice A316_1 ((rd_T76 t313 x39_1).f1).length c316_1] 76 (0,0)) (by refine sB ?_;refine blk_put (cs:=#[.int .i64 ((rd_T76 t313 x39_1).f0), .slice none 0 0]) ?_ 1 _ rfl;refine sB ?_;refine blk_put (cs:=#[.int .i64 0, .slice none 0 0]) ?_ 0 _ rfl;exact yB BK317) hb);replace HK:=am (KeepBut.trans D40 (KeepBut.of_below hb g none) (.inl rfl));replace HB:=am (pu D104 hb);replace HI0:=am (IsS127.below (show IsS127 w0 ((w27.setCell ⟨gb317,0,none⟩ (.int .i64 ((rd_T76 t313 x39_1).f0))).setCell ⟨gb317,1,none⟩ (.slice A316_1 ((rd_T76 t313 x39_1).f1).length c316_1)) g l0 x1001_1 x1002_1 from by repeat (first|(with_reducible first|exact HI0.out|apply IsS127.alloc|apply IsS127.drewN|apply IsS127.drew|apply IsS127.set_1|apply IsS127.set_2|refine IsS127.far ?_ NB0_295.out _|refine IsS127.far ?_ NB0_300.out _|refine IsS127.far ?_ NB0_317.out _)|exact HI0.out)) hb);clear hb)|((with_reducible refine gD 11 ?_);(try (refine gate_guard D16 ?_;dsimp only));refine gB (cs:=#[.int .i64 0, .int .u8 0]) 85 ?_;intro gb321 hg w36 hbox hb;replace HO_8:=oR HO_8 hg hb;replace HO_37:=bS HO_37 hb;replace HL316_1:=bR HL316_1 hb;replace HR316_1:=am (Kd.C_below D105 hb);replace HB:=am (pu D104 hb);have BK321:=am (hbox);have GW321:=am ((by rw [hg];exact (keep_size (w:=w0) (g:=g) (row:=none) D40):w0.heap.size≤gb321));have GE321:=am ((Nat.le_trans HW0.out (by rw [hg];exact (keep_size (w:=w0) (g:=g) (row:=none) D40):w0.heap.size≤gb321):w0.heap.size≤gb321));replace HK:=am (KeepBut.trans D40 (KeepBut.of_below hb g none) (.inl rfl));have NB295_321:=yl BK295 hg;have NB321_295:=yg BK295 hg;replace BK295:=yb BK295 hb;have NB300_321:=yl BK300 hg;have NB321_300:=yg BK300 hg;replace BK300:=yb BK300 hb;have NB317_321:=yl BK317 hg;have NB321_317:=yg BK317 hg;replace BK317:=yb BK317 hb;have NB0_321:=am ((by rw [hg];exact Nat.ne_of_lt (IsS127.lt (show IsS127 w0 _ g l0 x1001_1 x1002_1 from by repeat (first|(with_reducible first|exact HI0.out|apply IsS127.alloc|apply IsS127.drewN|apply IsS127.drew|apply IsS127.set_1|apply IsS127.set_2|refine IsS127.far ?_ NB0_295.out _|refine IsS127.far ?_ NB0_300.out _|refine IsS127.far ?_ NB0_317.out _)|exact HI0.out))):g ≠ gb321));have NB321_0:=am ((by rw [hg];exact Nat.ne_of_gt (IsS127.lt (show IsS127 w0 _ g l0 x1001_1 x1002_1 from by repeat (first|(with_reducible first|exact HI0.out|apply IsS127.alloc|apply IsS127.drewN|apply IsS127.drew|apply IsS127.set_1|apply IsS127.set_2|refine IsS127.far ?_ NB0_295.out _|refine IsS127.far ?_ NB0_300.out _|refine IsS127.far ?_ NB0_317.out _)|exact HI0.out))):gb321 ≠ g));replace HI0:=am (IsS127.below (by repeat (first|(with_reducible first|exact HI0.out|apply IsS127.alloc|apply IsS127.drewN|apply IsS127.drew|apply IsS127.set_1|apply IsS127.set_2|refine IsS127.far ?_ NB0_295.out _|refine IsS127.far ?_ NB0_300.out _|refine IsS127.far ?_ NB0_317.out _)|exact HI0.out)) hb);clear hb hbox hg;have hnb37:=NB321_295.out;have hnc37:=NB295_321.out;have hnb38:=NB321_300.out;have hnc38:=NB300_321.out;have hnb39:=NB321_317.out;have hnc39:=NB317_321.out;have hnb40:=NB321_0.out;have hnc40:=NB0_321.out;obtain ⟨hcz41_0,hcz41_1,hfz41_0,hfz41_1⟩:=yk2 BK321))
     (try simp only [Act.put,q1,q2,q3])
     go_cut [79] (fun v79 wc=>∃ (kq:Nat) (x79_25:Bool) (x1001_25:Int) (x1002_25:Int),v79 = .bool x79_25∧Aside0 (spec_DrawRegeneratePiece.j1 kq t305 x8_1 t313 (t313.length:Int) x39_1 x79_25 l0 x1001_25 x1002_25 t296 t297 t318 t319=some (r1,r2,r3,r4,r5,r6))∧Aside0 (kq≤k1)∧Aside0 (Kd.R k85 85 wc w0.heap.size (fun k_=>k_ ≠ gb321) u8 x8_1)∧Aside0 (Kd.S k76 76 wc w0.heap.size (fun _=>True) (.slice (some ad316) t313.length co21) t313)∧Aside0 (wc.heap[gb295]? = some (.cells #[.int .i64 0, .int .i64 0] 30 (0,0)))∧Aside0 (wc.heap[gb300]? = some (.cells #[.int .i64 t296, .int .i64 t297] 30 (0,0)))∧Aside0 (wc.heap[gb321]? = some (.cells #[.int .i64 t318, .int .u8 t319] 85 (0,0)))∧Aside0 (IsS127 w0 wc g l0 x1001_25 x1002_25)∧Aside0 (KeepBut w0 wc g none)∧Aside0 (Below w0.heap.size w0 wc))
     case first =>
      have H:=HC26.out
      clear HC26
      by_cases c42:t320=true
      ·subst c42
       replace H:=yt H
       by_cases c43:(x8_1.length:Int) < (wrap64 (2*(wrap64 (t297 - 1))))
       ·rw [if_pos c43] at H
        have c43b0:=decide_eq_true c43
        clear c43
        (first|rw [c43b0]|(simp only [i64_w,i32_w];rw [c43b0])|skip)
        obtain ⟨⟨t322,t323,t324⟩,A44,H⟩:=yo H
        try dsimp only at H
        by_cases c45:t322=true
        ·subst c45
         replace H:=yt H
         have H':=am H
         clear H
         obtain ⟨Ao46,co46,eo46⟩:=Kd.R_slice HO_8.out
         subst eo46
         have hnb47:=NB300_295.out
         have hnc47:=NB295_300.out
         have hnb48:=NB300_317.out
         have hnc48:=NB317_300.out
         have hnb49:=NB300_321.out
         have hnc49:=NB321_300.out
         have hnb50:=NB300_0.out
         have hnc50:=NB0_300.out
         obtain ⟨hcz51_0,hcz51_1,hfz51_0,hfz51_1⟩:=yk2 BK300
         go_wp2_with (first|(go_at_call 101;(with_reducible refine (spec_l1Cur_one.calls g l0 x1001_1 x1002_1 2 true t323 t324 w0 _ D19 D29 A44.out).mono ?_);rintro e w52 ⟨rfl,hi,hb,hk⟩;replace HO_8:=am (Kd.R_mono (Kd.R_keep (IsS127.apart (show IsS127 w0 _ g l0 x1001_1 x1002_1 from by repeat (first|(with_reducible first|exact HI0.out|apply IsS127.alloc|apply IsS127.drewN|apply IsS127.drew|apply IsS127.set_1|apply IsS127.set_2|refine IsS127.far ?_ NB0_295.out _|refine IsS127.far ?_ NB0_300.out _|refine IsS127.far ?_ NB0_317.out _|refine IsS127.far ?_ NB0_321.out _)|exact HI0.out)) D84 D5) hk (fun _ h=>h.2)) (fun _ h=>h.1));replace HO_37:=am (Kd.S_mono (Kd.S_keep (IsS127.apartS (show IsS127 w0 _ g l0 x1001_1 x1002_1 from by repeat (first|(with_reducible first|exact HI0.out|apply IsS127.alloc|apply IsS127.drewN|apply IsS127.drew|apply IsS127.set_1|apply IsS127.set_2|refine IsS127.far ?_ NB0_295.out _|refine IsS127.far ?_ NB0_300.out _|refine IsS127.far ?_ NB0_317.out _|refine IsS127.far ?_ NB0_321.out _)|exact HI0.out)) D96 D5) hk (fun _ h=>h.2)) (fun _ h=>h.1));replace BK295:=am (KeepBut.blk hk (g':=gb295) (o:=.cells #[.int .i64 0, .int .i64 0] 30 (0,0)) (yF BK295) NB295_0.out D44);replace BK300:=am (KeepBut.blk hk (g':=gb300) (o:=.cells #[.int .i64 t296, .int .i64 t297] 30 (0,0)) (yF BK300) NB300_0.out D44);replace HL316_1:=am (Kd.R_mono (Kd.R_keep (IsS127.apart (show IsS127 w0 _ g l0 x1001_1 x1002_1 from by repeat (first|(with_reducible first|exact HI0.out|apply IsS127.alloc|apply IsS127.drewN|apply IsS127.drew|apply IsS127.set_1|apply IsS127.set_2|refine IsS127.far ?_ NB0_295.out _|refine IsS127.far ?_ NB0_300.out _|refine IsS127.far ?_ NB0_317.out _|refine IsS127.far ?_ NB0_321.out _)|exact HI0.out)) D95 D5) hk (fun _ h=>h.2)) (fun _ h=>h.1));replace BK317:=am (KeepBut.blk hk (g':=gb317) (o:=.cells #[.int .i64 ((rd_T76 t313 x39_1).f0), .slice A316_1 ((rd_T76 t313 x39_1).f1).length c316_1] 76 (0,0)) (yF BK317) NB317_0.out D44);replace BK321:=am (KeepBut.blk hk (g':=gb321) (o:=.cells #[.int .i64 t318, .int .u8 t319] 85 (0,0)) D58 NB321_0.out D44);replace HK:=am (KeepBut.trans D23 hk (.inl rfl));replace HB:=am (hb);replace HI0:=am (hi);clear hb hk hi))
         go_meet
         case rel=>exact ⟨_,(true),(t323),(t324),D1,H',⟨D120⟩,⟨by refine sR ?_;exact Kd.R_mono HO_8.out (fun _ hk=>hk.2)⟩,⟨by refine sS ?_;exact Kd.S_mono HO_37.out (fun _ hk=>trivial)⟩,⟨yB BK295⟩,⟨yB BK300⟩,⟨yB BK321⟩,⟨D19⟩,⟨D23⟩,⟨D29⟩⟩
        replace c45:=Bool.eq_false_iff.mpr c45
        subst c45
        replace H:=yn H
        have H':=am H
        clear H
        obtain ⟨Ao53,co53,eo53⟩:=Kd.R_slice HO_8.out
        subst eo53
        have hnb54:=NB300_295.out
        have hnc54:=NB295_300.out
        have hnb55:=NB300_317.out
        have hnc55:=NB317_300.out
        have hnb56:=NB300_321.out
        have hnc56:=NB321_300.out
        have hnb57:=NB300_0.out
        have hnc57:=NB0_300.out
        obtain ⟨hcz58_0,hcz58_1,hfz58_0,hfz58_1⟩:=yk2 BK300
        go_wp2_with (first|(go_at_call 101;(with_reducible refine (spec_l1Cur_one.calls g l0 x1001_1 x1002_1 2 false t323 t324 w0 _ D19 D29 A44.out).mono ?_);rintro e w59 ⟨rfl,hi,hb,hk⟩;replace HO_8:=am (Kd.R_mono (Kd.R_keep (IsS127.apart (show IsS127 w0 _ g l0 x1001_1 x1002_1 from by repeat (first|(with_reducible first|exact HI0.out|apply IsS127.alloc|apply IsS127.drewN|apply IsS127.drew|apply IsS127.set_1|apply IsS127.set_2|refine IsS127.far ?_ NB0_295.out _|refine IsS127.far ?_ NB0_300.out _|refine IsS127.far ?_ NB0_317.out _|refine IsS127.far ?_ NB0_321.out _)|exact HI0.out)) D84 D5) hk (fun _ h=>h.2)) (fun _ h=>h.1));replace HO_37:=am (Kd.S_mono (Kd.S_keep (IsS127.apartS (show IsS127 w0 _ g l0 x1001_1 x1002_1 from by repeat (first|(with_reducible first|exact HI0.out|apply IsS127.alloc|apply IsS127.drewN|apply IsS127.drew|apply IsS127.set_1|apply IsS127.set_2|refine IsS127.far ?_ NB0_295.out _|refine IsS127.far ?_ NB0_300.out _|refine IsS127.far ?_ NB0_317.out _|refine IsS127.far ?_ NB0_321.out _)|exact HI0.out)) D96 D5) hk (fun _ h=>h.2)) (fun _ h=>h.1));replace BK295:=am (KeepBut.blk hk (g':=gb295) (o:=.cells #[.int .i64 0, .int .i64 0] 30 (0,0)) (yF BK295) NB295_0.out D44);replace BK300:=am (KeepBut.blk hk (g':=gb300) (o:=.cells #[.int .i64 t296, .int .i64 t297] 30 (0,0)) (yF BK300) NB300_0.out D44);replace HL316_1:=am (Kd.R_mono (Kd.R_keep (IsS127.apart (show IsS127 w0 _ g l0 x1001_1 x1002_1 from by repeat (first|(with_reducible first|exact HI0.out|apply IsS127.alloc|apply IsS127.drewN|apply IsS127.drew|apply IsS127.set_1|apply IsS127.set_2|refine IsS127.far ?_ NB0_295.out _|refine IsS127.far ?_ NB0_300.out _|refine IsS127.far ?_ NB0_317.out _|refine IsS127.far ?_ NB0_321.out _)|exact HI0.out)) D95 D5) hk (fun _ h=>h.2)) (fun _ h=>h.1));replace BK317:=am (KeepBut.blk hk (g':=gb317) (o:=.cells #[.int .i64 ((rd_T76 t313 x39_1).f0), .slice A316_1 ((rd_T76 t313 x39_1).f1).length c316_1] 76 (0,0)) (yF BK317) NB317_0.out D44);replace BK321:=am (KeepBut.blk hk (g':=gb321) (o:=.cells #[.int .i64 t318, .int .u8 t319] 85 (0,0)) D58 NB321_0.out D44);replace HK:=am (KeepBut.trans D23 hk (.inl rfl));replace HB:=am (hb);replace HI0:=am (hi);clear hb hk hi;obtain ⟨hcz60_0,hcz60_1,hfz60_0,hfz60_1⟩:=yk2 BK300;have hnb61:=NB317_295.out;have hnc61:=NB295_317.out;have hnb62:=NB317_321.out;have hnc62:=NB321_317.out;have hnb63:=NB317_0.out;have hnc63:=NB0_317.out;obtain ⟨hcz64_0,hcz64_1,hfz64_0,hfz64_1⟩:=yk2 BK317))
        go_meet
        case rel=>exact ⟨_,(decide ((wrap64 (t296 - ((rd_T76 t313 x39_1).f0)))≤(wrap64 ((wrap64 ((wrap64 (2*(wrap64 (t297 - 1)))) - (x8_1.length:Int)))+1)))),(t323),(t324),D1,H',⟨D120⟩,⟨by refine sR ?_;exact Kd.R_mono HO_8.out (fun _ hk=>hk.2)⟩,⟨by refine sS ?_;exact Kd.S_mono HO_37.out (fun _ hk=>trivial)⟩,⟨yB BK295⟩,⟨yB BK300⟩,⟨yB BK321⟩,⟨D19⟩,⟨D23⟩,⟨D29⟩⟩
       rw [if_neg c43] at H
       have c43b0:=decide_eq_false c43
       clear c43
       (first|rw [c43b0]|(simp only [i64_w,i32_w];rw [c43b0])|skip)
       have H':=am H
       clear H
       obtain ⟨Ao65,co65,eo65⟩:=Kd.R_slice HO_8.out
       subst eo65
       have hnb66:=NB300_295.out
       have hnc66:=NB295_300.out
       have hnb67:=NB300_317.out
       have hnc67:=NB317_300.out
       have hnb68:=NB300_321.out
       have hnc68:=NB321_300.out
       have hnb69:=NB300_0.out
       have hnc69:=NB0_300.out
       obtain ⟨hcz70_0,hcz70_1,hfz70_0,hfz70_1⟩:=yk2 BK300
       go_wp2
       go_meet
       case rel=>exact ⟨_,(false),(x1001_1),(x1002_1),D1,H',⟨D120⟩,⟨D85⟩,⟨D97⟩,⟨yF BK295⟩,⟨yF BK300⟩,⟨D58⟩,⟨D19⟩,⟨D23⟩,⟨D29⟩⟩
      replace c42:=Bool.eq_false_iff.mpr c42
      subst c42
      replace H:=yn H
      have H':=am H
      clear H
      go_wp2
      go_meet
      case rel=>exact ⟨_,(false),(x1001_1),(x1002_1),D1,H',⟨D120⟩,⟨D85⟩,⟨D97⟩,⟨yF BK295⟩,⟨yF BK300⟩,⟨D58⟩,⟨D19⟩,⟨D23⟩,⟨D29⟩⟩
     case rest =>
      clear HC26
      try clear c1
      try clear c2
      try clear p2
      try clear c3
      try clear p3
      try clear q3
      try clear hx3
      try clear c4
      try clear c5
      try clear c6
      try clear p6
      try clear c9
      try clear c10
      try clear c11
      try clear c12
      try clear c22
      try clear c22b0
      try clear c23
      try clear c23b0
      try clear c24
      try clear c24b0
      try clear c28
      try clear c29
      try clear c30
      try clear c31
      try clear p31
      try clear q31
      try clear hx31
      try clear c32
      try clear c33
      try clear c37
      try clear c38
      try clear c39
      try clear c40
      try clear c42
      try clear c43
      try clear c43b0
      try clear c45
      try clear c47
      try clear c48
      try clear c49
      try clear c50
      try clear c54
      try clear c55
      try clear c56
      try clear c57
      try clear c61
      try clear c62
      try clear c63
      try clear c64
      try clear p64
      try clear c66
      try clear c67
      try clear c68
      try clear c69
      try clear hcz13_0
      try clear hcz13_1
      try clear hcz15_0
      try clear hcz15_1
      try clear hcz31_0
      try clear hcz31_1
      try clear hcz34_0
      try clear hcz34_1
      try clear hcz41_0
      try clear hcz41_1
      try clear hcz51_0
      try clear hcz51_1
      try clear hcz58_0
      try clear hcz58_1
      try clear hcz60_0
      try clear hcz60_1
      try clear hcz64_0
      try clear hcz64_1
      try clear hcz70_0
      try clear hcz70_1
      try clear hfz13_0
      try clear hfz13_1
      try clear hfz15_0
      try clear hfz15_1
      try clear hfz31_0
      try clear hfz31_1
      try clear hfz34_0
      try clear hfz34_1
      try clear hfz41_0
      try clear hfz41_1
      try clear hfz51_0
      try clear hfz51_1
      try clear hfz58_0
      try clear hfz58_1
      try clear hfz60_0
      try clear hfz60_1
      try clear hfz64_0
      try clear hfz64_1
      try clear hfz70_0
      try clear hfz70_1
      try clear hx316_0
      try clear hx316_1
      try clear p2
      try clear p316
      try clear p6
      try clear q316
      obtain ⟨kq,x79_25,x1001_25,x1002_25,rfl,HA,HJ25,HO_8,HO_37,BK295,BK300,BK321,HI0,HK,HB⟩:=hcut
      cases kq with
      | zero=>exact absurd HA.out (by simp [spec_DrawRegeneratePiece.j1])
      | succ kj25 =>
       have H:=HA.out
       clear HA
       simp only [spec_DrawRegeneratePiece.j1] at H
       by_cases c71:x79_25=true
       ·subst c71
        replace H:=yt H
        obtain ⟨c72,H⟩:=yi H
        have LMc72:=am c72
        clear c72
        generalize hy325:(x8_1 ++ [(⟨t318,t319⟩:S85)]:List (S85))=y325 at H
        have Ny325:=am hy325.symm
        clear hy325
        have H':=am H
        clear H
        have hnb73:=NB321_295.out
        have hnc73:=NB295_321.out
        have hnb74:=NB321_300.out
        have hnc74:=NB300_321.out
        have hnb75:=NB321_0.out
        have hnc75:=NB0_321.out
        obtain ⟨hcz76_0,hcz76_1,hfz76_0,hfz76_1⟩:=yk2 BK321
        go_wp2_with (first|((with_reducible refine gate_builtin (b:=.append) (xs:=#[.tmp 80, .tmp 82]) rfl ?_);(try (refine gate_guard D16 ?_;dsimp only));at_builtin;refine Kd.R_append k85 w0.heap.size rfl (.tmp 80) (.tmp 82) 83 85 (.agg #[(.int .i64 0),(.int .u8 0)]) 16 rfl Try.underlying83 info85 rfl D5 D13 u8 x8_1 (⟨t318,t319⟩:S85) [.int .i64 t318, .int .u8 t319] (fun k_=>k_ ≠ gb321) (fun _=>False) rfl rfl (by exact k85_mkM _ _ _ (⟨t318,t319⟩:S85)) (fun _ hk=>hk.elim) (by exact (fun k_ hk=>yz BK321 k_ hk)) (by exact (yR HO_8)) (Below.refl _ _) (by exact (keep_size (w:=w0) (g:=g) (row:=none) D41)) (by have:=LMc72.out;omega) ?_;intro v326 w77 ho hb hg hat;rw [← Ny325.out] at ho;have n0_:=am (Kd.S_over' (yS HO_37) (Kd.R_typed (yR HO_8)) D5 hg);have n1_:=am (blk_grown (g:=gb295) (o:=.cells #[.int .i64 0, .int .i64 0] 30 (0,0)) (yB BK295) hg (Kd.R_ne HO_8.out BK295.out D5));have n2_:=am (blk_grown (g:=gb300) (o:=.cells #[.int .i64 t296, .int .i64 t297] 30 (0,0)) (yB BK300) hg (Kd.R_ne HO_8.out BK300.out D5));have n3_:=am (blk_grown (g:=gb321) (o:=.cells #[.int .i64 t318, .int .u8 t319] 85 (0,0)) (yB BK321) hg (Kd.R_away HO_8.out (fun _ hk=>hk)));have n4_:=am (IsS127.grown D50 hg (IsS127.own_ne HI0.out HO_8.out D5));have n5_:=am (below_weaken D66 HL.out hb);have n6_:=am (KeepBut.trans D41 (KeepBut.of_grown hg g) (Kd.R_base2 HO_8.out));have n7_:=am (ho);clear HO_37 BK295 BK300 BK321 HI0 HB HK HO_8;have HO_37:=n0_;have BK295:=n1_;have BK300:=n2_;have BK321:=n3_;have HI0:=n4_;have HB:=n5_;have HK:=n6_;have HO327:=n7_;clear n0_ n1_ n2_ n3_ n4_ n5_ n6_ n7_ ho hb hg hat))
        go_roundg kj25
        case measure=>have:=HK1.out;have:=HJ25.out;omega
        case rel=>exact ⟨(y325),(wrap64 (x39_1+1)),(x1001_25),(x1002_25),D1,H',⟨by have:=HK1.out;have:=HJ25.out;omega⟩,⟨by refine sR ?_;exact Kd.R_mono HO327.out (fun _ hk=>trivial)⟩,⟨yS HO_37⟩,⟨yB BK295⟩,⟨yB BK300⟩,⟨D50⟩,⟨D41⟩,⟨D66⟩⟩
       replace c71:=Bool.eq_false_iff.mpr c71
       subst c71
       replace H:=yn H
       have H':=am H
       clear H
       go_wp2
       go_roundg kj25
       case measure=>have:=HK1.out;have:=HJ25.out;omega
       case rel=>exact ⟨(x8_1),(wrap64 (x39_1+1)),(x1001_25),(x1002_25),D1,H',⟨by have:=HK1.out;have:=HJ25.out;omega⟩,⟨by refine sR ?_;exact Kd.R_mono HO_8.out (fun _ hk=>trivial)⟩,⟨yS HO_37⟩,⟨yB BK295⟩,⟨yB BK300⟩,⟨D50⟩,⟨D41⟩,⟨D66⟩⟩
    rw [if_neg c22] at H
    have c22b0:=decide_eq_false c22
    clear c22
    by_cases c78:(x8_1.length:Int) > 0
    ·rw [if_pos c78] at H
     have c78b0:decide (0 < (x8_1.length:Int))=true:=decide_eq_true c78
     have c78b1:decide (0 < x8_1.length)=true:=decide_eq_true D13
     clear c78
     obtain ⟨⟨t328,t329,t330⟩,A79,H⟩:=yo H
     try dsimp only at H
     by_cases c80:t328=true
     ·subst c80
      replace H:=yt H
      obtain ⟨⟨t331,t332,t333⟩,A81,H⟩:=yo H
      try dsimp only at H
      obtain ⟨c82,H⟩:=yi H
      have c82b0:=decide_eq_true c82
      have c82b1:decide (0 < x8_1.length)=true:=decide_eq_true D13
      clear c82
      generalize hy334:(x8_1.set (0:Int).toNat (⟨t331,(rd_T85 x8_1 0).f1⟩:S85):List (S85))=y334 at H
      have Ny334:=am hy334.symm
      clear hy334
      simp only [Option.some.injEq,Prod.mk.injEq] at H
      obtain ⟨rfl,rfl,rfl,rfl,rfl,rfl⟩:=H
      obtain ⟨Ao84,co84,eo84⟩:=Kd.R_slice HO_8.out
      subst eo84
      go_wp2_with (first|(go_at_call 101;(with_reducible refine (spec_l1Cur_one.calls g l0 x1001_1 x1002_1 12 true t329 t330 w0 _ D21 D14 A79.out).mono ?_);rintro e w85 ⟨rfl,hi,hb,hk⟩;replace HO_8:=am (Kd.R_mono (Kd.R_keep (IsS127.apart (show IsS127 w0 _ g l0 x1001_1 x1002_1 from by repeat (first|(with_reducible first|exact HI0.out|apply IsS127.alloc|apply IsS127.drewN|apply IsS127.drew|apply IsS127.set_1|apply IsS127.set_2|refine IsS127.far ?_ NB0_295.out _|refine IsS127.far ?_ NB0_300.out _)|exact HI0.out)) (yR HO_8) D5) hk (fun _ h=>h.2)) (fun _ h=>h.1));replace HO_37:=am (Kd.S_mono (Kd.S_keep (IsS127.apartS (show IsS127 w0 _ g l0 x1001_1 x1002_1 from by repeat (first|(with_reducible first|exact HI0.out|apply IsS127.alloc|apply IsS127.drewN|apply IsS127.drew|apply IsS127.set_1|apply IsS127.set_2|refine IsS127.far ?_ NB0_295.out _|refine IsS127.far ?_ NB0_300.out _)|exact HI0.out)) (yS HO_37) D5) hk (fun _ h=>h.2)) (fun _ h=>h.1));replace BK295:=am (KeepBut.blk hk (g':=gb295) (o:=.cells #[.int .i64 0, .int .i64 0] 30 (0,0)) (yB BK295) NB295_0.out D44);replace BK300:=am (KeepBut.blk hk (g':=gb300) (o:=.cells #[.int .i64 t296, .int .i64 t297] 30 (0,0)) (yB BK300) NB300_0.out D44);replace HK:=am (KeepBut.trans D7 hk (.inl rfl));replace HB:=am (hb);replace HI0:=am (hi);clear hb hk hi)|((with_reducible refine gC 95 ?_);refine gM (some 94) Try.func95 (args:=#[.pointer (some ⟨g,0,none⟩), .int .i64 9]) (spec_l1Cur_pick.calls g l0 t329 t330 9 t331 t332 t333 w0 _ ?side1 ?side2 A81.out) ?_;(case side1=>repeat (first|(with_reducible first|exact HI0.out|apply IsS127.alloc|apply IsS127.drewN|apply IsS127.drew|apply IsS127.set_1|apply IsS127.set_2|refine IsS127.far ?_ NB0_295.out _|refine IsS127.far ?_ NB0_300.out _)|exact HI0.out));(case side2=>repeat (first|(with_reducible first|exact HB.out|apply pa|apply pb|apply pd|refine pt ?_ (IsS127.ge HI0.out)|refine pt ?_ GE295.out|refine pt ?_ GE300.out)|exact HB.out));rintro e w86 ⟨rfl,hi,hb,hk⟩;refine ⟨_,rfl,?_⟩;replace HO_8:=am (Kd.R_mono (Kd.R_keep (IsS127.apart (show IsS127 w0 _ g l0 t329 t330 from by repeat (first|(with_reducible first|exact HI0.out|apply IsS127.alloc|apply IsS127.drewN|apply IsS127.drew|apply IsS127.set_1|apply IsS127.set_2|refine IsS127.far ?_ NB0_295.out _|refine IsS127.far ?_ NB0_300.out _)|exact HI0.out)) (yR HO_8) D5) hk (fun _ h=>h.2)) (fun _ h=>h.1));replace HO_37:=am (Kd.S_mono (Kd.S_keep (IsS127.apartS (show IsS127 w0 _ g l0 t329 t330 from by repeat (first|(with_reducible first|exact HI0.out|apply IsS127.alloc|apply IsS127.drewN|apply IsS127.drew|apply IsS127.set_1|apply IsS127.set_2|refine IsS127.far ?_ NB0_295.out _|refine IsS127.far ?_ NB0_300.out _)|exact HI0.out)) (yS HO_37) D5) hk (fun _ h=>h.2)) (fun _ h=>h.1));replace BK295:=am (KeepBut.blk hk (g':=gb295) (o:=.cells #[.int .i64 0, .int .i64 0] 30 (0,0)) (yB BK295) NB295_0.out D44);replace BK300:=am (KeepBut.blk hk (g':=gb300) (o:=.cells #[.int .i64 t296, .int .i64 t297] 30 (0,0)) (yB BK300) NB300_0.out D44);replace HK:=am (KeepBut.trans D7 hk (.inl rfl));replace HB:=am (hb);replace HI0:=am (hi);clear hb hk hi;have p83:0≤(0:Int):=D13;have q83:(0:Int) < ((x8_1.length:Int):Int):=od D0;have qi83:(0 < x8_1.length)=True:=eq_true D13;obtain ⟨go83,co83,eo83,gb83,gl83,cl83,HG83⟩:=Kd.R_form HO_8.out D13;(first|cases eo83|(injection eo83 with ea_ en_ ec_;(first|subst ea_|(injection ea_ with ea_;subst ea_));subst ec_;clear en_));have GB83:=am gb83;have GG83:=am HG83;clear gb83 gl83 HG83;obtain ⟨ce83,hcl83,hM83,hcc83,hfr83⟩:=Kd.R_elem HO_8.out z85 (0:Int) p83 q83;obtain rfl:=k85_openM hM83;have hx83_0:w86.cell? ⟨go83,(0:Int).toNat*2,none⟩=some (.int .i64 ((rd_T85 x8_1 0).f0)):=hcc83 0 _ rfl;have hx83_1:w86.cell? ⟨go83,(0:Int).toNat*2+1,none⟩=some (.int .u8 ((rd_T85 x8_1 0).f1)):=hcc83 1 _ rfl;have hf83_0:w86.frozen? ⟨go83,(0:Int).toNat*2,none⟩=false:=hfr83 0;have hf83_1:w86.frozen? ⟨go83,(0:Int).toNat*2+1,none⟩=false:=hfr83 1;clear hcl83 hcc83 hfr83 hM83;(try rw [show ((0:Int)).toNat=0 from rfl] at hx83_0);(try simp only [Nat.reduceMul,Nat.zero_mul,Nat.zero_add,Nat.reduceAdd] at hx83_0);(try rw [show ((0:Int)).toNat=0 from rfl] at hf83_0);(try simp only [Nat.reduceMul,Nat.zero_mul,Nat.zero_add,Nat.reduceAdd] at hf83_0);(try rw [show ((0:Int)).toNat=0 from rfl] at hx83_1);(try simp only [Nat.reduceMul,Nat.zero_mul,Nat.zero_add,Nat.reduceAdd] at hx83_1);(try rw [show ((0:Int)).toNat=0 from rfl] at hf83_1);(try simp only [Nat.reduceMul,Nat.zero_mul,Nat.zero_add,Nat.reduceAdd] at hf83_1);replace p83:=eq_true p83;replace q83:=eq_true q83;have HX87:=am (show Kd.R k85 85 w86 w0.heap.size (fun _=>True) (.slice (some ⟨go83,0,none⟩) x8_1.length co84) x8_1 from (yR HO_8));obtain ⟨ce87,hcl87,hM87,hcc87,hfr87⟩:=Kd.R_elem HX87.out z85 (0:Int) D13 (by have h_:(0:Int) < ((x8_1.length:Int):Int):=od D0;first|exact h_|(have e_:=(Kd.R_reads' HO_8.out).1;omega)|simpa using h_);obtain rfl:=k85_openM hM87;have HP87:=Kd.R_seg HX87.out (0:Int) D13 (by have h_:(0:Int) < ((x8_1.length:Int):Int):=od D0;first|exact h_|(have e_:=(Kd.R_reads' HO_8.out).1;omega)|simpa using h_) (seg:=[.int .i64 t331]) (j:=0) hcl87 hcc87 (show 1≤2 from by decide) (x':=(⟨t331,(rd_T85 x8_1 0).f1⟩:S85)) (k85_mkM _ _ _ (⟨t331,(rd_T85 x8_1 0).f1⟩:S85) ) (fun _ hk=>hk);have hx87_0:=hcc87 0 _ rfl;(try simp only [show (k85).sz=2 from rfl,Nat.mul_one,Nat.add_zero] at hx87_0);(try rw [show ((0:Int)).toNat=0 from rfl] at hx87_0);(try simp only [Nat.reduceMul,Nat.zero_mul,Nat.zero_add,Nat.reduceAdd] at hx87_0);have hf87_0:=hfr87 0;(try simp only [show (k85).sz=2 from rfl,Nat.mul_one,Nat.add_zero] at hf87_0);(try rw [show ((0:Int)).toNat=0 from rfl] at hf87_0);(try simp only [Nat.reduceMul,Nat.zero_mul,Nat.zero_add,Nat.reduceAdd] at hf87_0);clear hcl87 hcc87 hfr87 hM87)|((with_reducible refine gate_store (t:=3) (p:=96) rfl ?_);refine store_event (t:=3) (p:=96) (v:=?vo_w88) (w1:=(w86.setCell ⟨go83,0,none⟩ (.int .i64 t331))) ?hg ?ho ?hn ?hr ?_;(case ho=>rfl);(case hg=>rfl);(case hn=>rfl);(case hr=>first|(go_simp;done)|(go_simp;rfl));intro w88 hw;have hg:w86.grownBy w88 (some go83):=(by rw [hw];exact HP87.2);have hp_:Kd.R k85 85 w88 w0.heap.size (fun _=>True) (.slice (some ⟨go83,0,none⟩) x8_1.length co84) y334:=(by rw [hw,Ny334.out];exact HP87.1);clear HP87;replace HO_37:=am (Kd.S_over' (v:=(.slice (some ⟨go83,0,none⟩) x8_1.length co84)) (yS HO_37) (Kd.R_typed HO_8.out) D5 hg);replace BK295:=am (blk_grown (g:=gb295) (o:=.cells #[.int .i64 0, .int .i64 0] 30 (0,0)) (yB BK295) hg (Kd.R_ne HO_8.out BK295.out D5));replace BK300:=am (blk_grown (g:=gb300) (o:=.cells #[.int .i64 t296, .int .i64 t297] 30 (0,0)) (yB BK300) hg (Kd.R_ne HO_8.out BK300.out D5));replace HI0:=am (IsS127.grown D21 hg (IsS127.own_ne HI0.out HO_8.out D5));replace HB:=am ((by rw [hw];exact pt (HB.out) (Nat.le_trans HL.out GB83.out):Below w0.heap.size w0 w88));replace HK:=am (KeepBut.trans D7 (KeepBut.of_grown hg g) (Kd.R_base2 HO_8.out));replace HO_8:=am (hp_);clear hg hw hp_;have hnb89:=NB300_295.out;have hnc89:=NB295_300.out;have hnb90:=NB300_0.out;have hnc90:=NB0_300.out;obtain ⟨hcz91_0,hcz91_1,hfz91_0,hfz91_1⟩:=yk2 BK300;have hnb92:=NB295_0.out;have hnc92:=NB0_295.out;obtain ⟨hcz93_0,hcz93_1,hfz93_0,hfz93_1⟩:=yk2 BK295))
      refine bodyPost_ret (results_ctt rfl _ _ gb295 30 #[.int .i64 t296, .int .i64 t297] (0,0) _ rfl D56 Try.underlying30 rfl D2) rfl ?_
      exact ⟨_,D3,D63,D14⟩
     replace c80:=Bool.eq_false_iff.mpr c80
     subst c80
     replace H:=yn H
     simp only [Option.some.injEq,Prod.mk.injEq] at H
     obtain ⟨rfl,rfl,rfl,rfl,rfl,rfl⟩:=H
     obtain ⟨Ao94,co94,eo94⟩:=Kd.R_slice HO_8.out
     subst eo94
     go_wp2_with (first|(go_at_call 101;(with_reducible refine (spec_l1Cur_one.calls g l0 x1001_1 x1002_1 12 false t329 t330 w0 _ D21 D14 A79.out).mono ?_);rintro e w95 ⟨rfl,hi,hb,hk⟩;replace HO_8:=am (Kd.R_mono (Kd.R_keep (IsS127.apart (show IsS127 w0 _ g l0 x1001_1 x1002_1 from by repeat (first|(with_reducible first|exact HI0.out|apply IsS127.alloc|apply IsS127.drewN|apply IsS127.drew|apply IsS127.set_1|apply IsS127.set_2|refine IsS127.far ?_ NB0_295.out _|refine IsS127.far ?_ NB0_300.out _)|exact HI0.out)) (yR HO_8) D5) hk (fun _ h=>h.2)) (fun _ h=>h.1));replace HO_37:=am (Kd.S_mono (Kd.S_keep (IsS127.apartS (show IsS127 w0 _ g l0 x1001_1 x1002_1 from by repeat (first|(with_reducible first|exact HI0.out|apply IsS127.alloc|apply IsS127.drewN|apply IsS127.drew|apply IsS127.set_1|apply IsS127.set_2|refine IsS127.far ?_ NB0_295.out _|refine IsS127.far ?_ NB0_300.out _)|exact HI0.out)) (yS HO_37) D5) hk (fun _ h=>h.2)) (fun _ h=>h.1));replace BK295:=am (KeepBut.blk hk (g':=gb295) (o:=.cells #[.int .i64 0, .int .i64 0] 30 (0,0)) (yB BK295) NB295_0.out D44);replace BK300:=am (KeepBut.blk hk (g':=gb300) (o:=.cells #[.int .i64 t296, .int .i64 t297] 30 (0,0)) (yB BK300) NB300_0.out D44);replace HK:=am (KeepBut.trans D7 hk (.inl rfl));replace HB:=am (hb);replace HI0:=am (hi);clear hb hk hi;have hnb96:=NB300_295.out;have hnc96:=NB295_300.out;have hnb97:=NB300_0.out;have hnc97:=NB0_300.out;obtain ⟨hcz98_0,hcz98_1,hfz98_0,hfz98_1⟩:=yk2 BK300;have hnb99:=NB295_0.out;have hnc99:=NB0_295.out;obtain ⟨hcz100_0,hcz100_1,hfz100_0,hfz100_1⟩:=yk2 BK295))
     refine bodyPost_ret (results_ctt rfl _ _ gb295 30 #[.int .i64 t296, .int .i64 t297] (0,0) _ rfl D56 Try.underlying30 rfl D2) rfl ?_
     exact ⟨_,D3,D63,D14⟩
    rw [if_neg c78] at H
    have c78b0:decide (0 < (x8_1.length:Int))=false:=decide_eq_false c78
    have c78b1:decide (0 < x8_1.length)=false:=decide_eq_false D13
    clear c78
    simp only [Option.some.injEq,Prod.mk.injEq] at H
    obtain ⟨rfl,rfl,rfl,rfl,rfl,rfl⟩:=H
    obtain ⟨Ao101,co101,eo101⟩:=Kd.R_slice HO_8.out
    subst eo101
    have hnb102:=NB300_295.out
    have hnc102:=NB295_300.out
    have hnb103:=NB300_0.out
    have hnc103:=NB0_300.out
    obtain ⟨hcz104_0,hcz104_1,hfz104_0,hfz104_1⟩:=yk2 BK300
    have hnb105:=NB295_0.out
    have hnc105:=NB0_295.out
    obtain ⟨hcz106_0,hcz106_1,hfz106_0,hfz106_1⟩:=yk2 BK295
    go_wp2
    refine bodyPost_ret (results_ctt rfl _ _ gb295 30 #[.int .i64 t296, .int .i64 t297] (0,0) _ rfl D56 Try.underlying30 rfl D2) rfl ?_
    exact ⟨_,D3,D63,D14⟩
 replace c4:=Bool.eq_false_iff.mpr c4
 subst c4
 replace H:=yn H
 generalize hy302:(([(⟨1,0⟩:S85)]:List (S85)):List (S85))=y302 at H
 have Ny302:=am hy302.symm
 clear hy302
 simp only [Option.some.injEq,Prod.mk.injEq] at H
 obtain ⟨rfl,rfl,rfl,rfl,rfl,rfl⟩:=H
 go_enter Try.func56,Try.ntmps56
 go_wp2_with (first|((with_reducible refine gD 15 ?_);refine gB (cs:=#[.slice A0 l0.length c0, .int .i64 0, .int .u64 0]) 127 ?_;intro g hg wS hbox hb;have n0_:=yH HB hb;have HI0:=am (show IsS127 w0 _ g l0 0 0 from ⟨A0,c0,hbox,by rw [hg];exact pz (yW HB),HR.out⟩);have m0_:=yb BK295 hb;have NB0_295:=yg BK295 hg;have NB295_0:=am (Ne.symm NB0_295.out);clear BK295;have BK295:=m0_;clear m0_ HB;have HB:=n0_;clear n0_;have HK:=am (KeepBut.of_below HB.out g none);clear hb hbox hg)|((with_reducible refine gD 2 ?_);(try (refine gate_guard D16 ?_;dsimp only));refine gB (cs:=#[.int .i64 0, .int .i64 0]) 30 ?_;intro gb295 hg w107 hbox hb;have n2_:=am (pu D12 hb);have n3_:=am (hbox);have n4_:=am ((by rw [hg];exact (pz (yW HB)):w0.heap.size≤gb295));have n5_:=n4_;clear HB;have HB:=n2_;have BK295:=n3_;have GW295:=n4_;have GE295:=n5_;clear n2_ n3_ n4_ n5_ hb hbox hg)|((with_reducible refine gC 100 ?_);refine gM (some 17) Try.func100 (args:=#[.pointer (some ⟨g,0,none⟩)]) (spec_l1Cur_msr.calls g l0 0 0 t296 t297 t298 t299 w0 _ ?side1 ?side2 A2.out) ?_;(case side1=>repeat (first|(with_reducible first|exact HI0.out|apply IsS127.alloc|apply IsS127.drewN|apply IsS127.drew|apply IsS127.set_1|apply IsS127.set_2|refine IsS127.far ?_ NB0_295.out _)|exact HI0.out));(case side2=>repeat (first|(with_reducible first|exact HB.out|apply pa|apply pb|apply pd|refine pt ?_ (IsS127.ge HI0.out)|refine pt ?_ GE295.out)|exact HB.out));rintro e w108 ⟨rfl,hi,hb,hk⟩;refine ⟨_,rfl,?_⟩;replace BK295:=am (KeepBut.blk hk (g':=gb295) (o:=.cells #[.int .i64 0, .int .i64 0] 30 (0,0)) (yB BK295) NB295_0.out D44);replace HK:=am (KeepBut.trans D25 hk (.inl rfl));replace HB:=am (hb);replace HI0:=am (hi);clear hb hk hi)|((with_reducible refine gD 6 ?_);(try (refine gate_guard D16 ?_;dsimp only));refine gB (cs:=#[.int .i64 0, .int .i64 0]) 30 ?_;intro gb300 hg w109 hbox hb;replace HB:=am (pu D115 hb);have BK300:=am (hbox);have GW300:=am ((by rw [hg];exact (keep_size (w:=w0) (g:=g) (row:=none) D25):w0.heap.size≤gb300));have GE300:=am ((Nat.le_trans HW0.out (by rw [hg];exact (keep_size (w:=w0) (g:=g) (row:=none) D25):w0.heap.size≤gb300):w0.heap.size≤gb300));replace HK:=am (KeepBut.trans D25 (KeepBut.of_below hb g none) (.inl rfl));have NB295_300:=yl BK295 hg;have NB300_295:=yg BK295 hg;replace BK295:=yb BK295 hb;have NB0_300:=am ((by rw [hg];exact Nat.ne_of_lt (IsS127.lt (show IsS127 w0 _ g l0 t298 t299 from by repeat (first|(with_reducible first|exact HI0.out|apply IsS127.alloc|apply IsS127.drewN|apply IsS127.drew|apply IsS127.set_1|apply IsS127.set_2|refine IsS127.far ?_ NB0_295.out _)|exact HI0.out))):g ≠ gb300));have NB300_0:=am ((by rw [hg];exact Nat.ne_of_gt (IsS127.lt (show IsS127 w0 _ g l0 t298 t299 from by repeat (first|(with_reducible first|exact HI0.out|apply IsS127.alloc|apply IsS127.drewN|apply IsS127.drew|apply IsS127.set_1|apply IsS127.set_2|refine IsS127.far ?_ NB0_295.out _)|exact HI0.out))):gb300 ≠ g));replace HI0:=am (IsS127.below D103 hb);clear hb hbox hg;have hnb110:=NB300_295.out;have hnc110:=NB295_300.out;have hnb111:=NB300_0.out;have hnc111:=NB0_300.out;obtain ⟨hcz112_0,hcz112_1,hfz112_0,hfz112_1⟩:=yk2 BK300)|((with_reducible refine gC 47 ?_);refine gM (some 19) Try.func47 (args:=#[.agg #[.int .i64 t296, .int .i64 t297]]) (spec_GoodMsr.calls t296 t297 false _ A3.out) ?_;rintro e w113 ⟨rfl,hb⟩;refine ⟨_,rfl,?_⟩;replace BK295:=am (qb (g:=gb295) (o:=.cells #[.int .i64 0, .int .i64 0] 30 (0,0)) (yF BK295) hb);replace BK300:=am (qb (g:=gb300) (o:=.cells #[.int .i64 t296, .int .i64 t297] 30 (0,0)) D110 hb);replace HK:=am (KeepBut.trans D7 (KeepBut.of_below hb g none) (.inl rfl));replace HB:=am (pu D14 hb);replace HI0:=am (IsS127.below (show IsS127 w0 ((w109.setCell ⟨gb300,0,none⟩ (.int .i64 t296)).setCell ⟨gb300,1,none⟩ (.int .i64 t297)) g l0 t298 t299 from by repeat (first|(with_reducible first|exact HI0.out|apply IsS127.alloc|apply IsS127.drewN|apply IsS127.drew|apply IsS127.set_1|apply IsS127.set_2|refine IsS127.far ?_ NB0_295.out _|refine IsS127.far ?_ NB0_300.out _)|exact HI0.out)) hb);clear hb;obtain ⟨hcz114_0,hcz114_1,hfz114_0,hfz114_1⟩:=yk2 BK300)|((with_reducible refine gD 23 ?_);(try (refine gate_guard D16 ?_;dsimp only));refine Kd.R_lit k85 _ 85 D16 (N:=23) D16 (xs:=([(⟨1,0⟩:S85)]:List (S85))) (inner:=[.int .i64 1, .int .u8 0]) (ok:=fun _=>True) (okp:=fun _=>True) D33 (by exact (Reps.c2 (show Kd.M k85 _ _ _ (⟨1,0⟩:S85) [.int .i64 1, .int .u8 0] from (k85_mkM _ _ _ (⟨1,0⟩:S85) )) (Reps.none _ _))) (fun _ hk=>hk) trivial (Below.refl _ _) (Nat.le_refl _) D44 ?_;intro v303 w115 ho116 hb hg_ hnew_;clear hg_ hnew_;(first|rw [← Ny302.out] at ho116|(simp only [Int.reduceToNat] at ho116;rw [← Ny302.out] at ho116));have HO304:=am (Kd.R_lower ho116 (keep_size (w:=w0) (g:=g) (row:=none) D7));replace BK295:=yb BK295 hb;replace BK300:=yb BK300 hb;replace HK:=am (KeepBut.trans D7 (KeepBut.of_below hb g none) (.inl rfl));replace HB:=am (pu D14 hb);replace HI0:=am (IsS127.below D21 hb);clear hb ho116;have hnb117:=NB295_0.out;have hnc117:=NB0_295.out;obtain ⟨hcz118_0,hcz118_1,hfz118_0,hfz118_1⟩:=yk2 BK295))
 refine bodyPost_ret (results_ctt rfl _ _ gb295 30 #[.int .i64 t296, .int .i64 t297] (0,0) _ rfl D56 Try.underlying30 rfl D2) rfl ?_
 exact ⟨_,D3,by refine sR ?_;exact Kd.R_mono (Kd.R_far (p:=⟨gb295,1,none⟩) (Kd.R_far (p:=⟨gb295,0,none⟩) (Kd.R_types HO304.out BK295.out D5) (fun _ hk=>hk.2) (.int .i64 t296)) (fun _ hk=>hk.2) (.int .i64 t297)) (fun _ hk=>trivial),D14⟩
end Go.Proofs.Yteflgifmdojahaa.PFnRegenerated
-- SQUEEZED
