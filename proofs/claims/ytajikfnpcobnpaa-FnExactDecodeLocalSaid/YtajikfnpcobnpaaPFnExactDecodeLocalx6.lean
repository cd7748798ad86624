import Derived.Test.YtajikfnpcobnpaaVDecodeLocalB
import Derived.Test.YtajikfnpcobnpaaPFnExactDecodeLocalx0
import Derived.Test.YtajikfnpcobnpaaPFnExactDecodeLocalx4
import Derived.Test.YtajikfnpcobnpaaPFnExactDecodeLocalx5
import Derived.Test.YtajikfnpcobnpaaPFnExactDecodeLocalx1
import Derived.Test.YtajikfnpcobnpaaPFnExactDecodeLocalx2
import Derived.Test.YtajikfnpcobnpaaPFnExactDecodeLocalx3
namespace Go.Proofs.Ytajikfnpcobnpaa.PFnExactDecodeLocal
open Go.RowKit Go.Proofs.YtajikfnpcobnpaaW.PrintWords Go.Proofs.YtajikfnpcobnpaaW.PrintLast Go.Proofs.YtajikfnpcobnpaaW.PrintMore Go.Proofs.Ytajikfnpcobnpaa.KitS
attribute [local go_sem] max2_int min2_int max_two min_two max_three min_three max_four min_four
set_option linter.unusedVariables false
set_option maxHeartbeats 8000000
set_option maxRecDepth 100000
set_option linter.unusedSimpArgs false
mutual
def impl_DecodeLocal.j0:Nat→List (S84)→Bool→Int→Int→Int→Option (List ByteArray × Bool)
 | 0,_,_,_,_,_=>none
 | k+1,x1,x21,x397000,x397001,x397002=>if x21=true then (some (([]:List ByteArray),false)) else ((impl_localRows.f k x397000 x397001 x397002).bind fun t400=>(impl_DecodeLocal.l0 k t400 (([]:List (List Int))) (([]:List (S84))) x1 (x1.length:Int) 0 x397000 x397001 x397002))
def impl_DecodeLocal.l0:Nat→List (List Int)→List (List Int)→List (S84)→List (S84)→Int→Int→Int→Int→Int→Option (List ByteArray × Bool)
 | 0,_,_,_,_,_,_,_,_,_=>none
 | k+1,x6,x7,x8,x26,x27,x28,x397000,x397001,x397002=>if x28 < x27 then (if 0≤x28 then (if x28 < (x26.length:Int) then ((slices_Clone_byte_byte_SS.f x7).bind fun t411=>(if 0≤((rd_T84 x26 x28).f0) then (if ((rd_T84 x26 x28).f0) < (x6.length:Int) then ((some (([rd_L1 x6 ((rd_T84 x26 x28).f0)]:List (List Int)):List (List Int))).bind fun y415=>(if t411.length+y415.length < 5864062014805 then ((some (t411 ++ y415:List (List Int))).bind fun y418=>((impl_rankOf.f y418).bind fun t421=>(if t421=(y418.length:Int) then ((some (([(⟨(rd_T84 x26 x28).f0,(rd_T84 x26 x28).f1⟩:S84)]:List (S84)):List (S84))).bind fun y422=>(if x8.length+y422.length < 5864062014805 then (impl_DecodeLocal.l0 k x6 y418 (x8 ++ y422) x26 x27 (wrap64 (x28+1)) x397000 x397001 x397002) else (none))) else (impl_DecodeLocal.l0 k x6 x7 x8 x26 x27 (wrap64 (x28+1)) x397000 x397001 x397002)))) else (none))) else (none)) else (none))) else (none)) else (none)) else ((impl_Local_data.f x397000 x397001 x397002).bind fun t428=>(if (x8.length:Int) < t428 then (some (([]:List ByteArray),false)) else ((impl_decoded.f k x6 x8).bind fun bt429=>(some (bt429.1,bt429.2)))))
end
def impl_DecodeLocal.f (k:Nat) (a0_0:Int) (a0_1:Int) (a0_2:Int) (l1:List (S84)):Option (List ByteArray × Bool):=(impl_GoodLocal.f a0_0 a0_1 a0_2).bind fun t397=>(if t397=true then ((impl_Local_all.f a0_0 a0_1 a0_2).bind fun t398=>((impl_areShards.f k l1 t398).bind fun t399=>(impl_DecodeLocal.j0 k l1 (!t399) a0_0 a0_1 a0_2))) else (impl_DecodeLocal.j0 k l1 true a0_0 a0_1 a0_2))
theorem impl_DecodeLocal.mono_l:∀ k,(∀ y0 y1 y2 y3 y4,LeO (impl_DecodeLocal.j0 k y0 y1 y2 y3 y4) (impl_DecodeLocal.j0 (k+1) y0 y1 y2 y3 y4))∧(∀ y0 y1 y2 y3 y4 y5 y6 y7 y8,LeO (impl_DecodeLocal.l0 k y0 y1 y2 y3 y4 y5 y6 y7 y8) (impl_DecodeLocal.l0 (k+1) y0 y1 y2 y3 y4 y5 y6 y7 y8))
 | 0=>⟨fun _ _ _ _ _ r h=>by simp [impl_DecodeLocal.j0] at h,fun _ _ _ _ _ _ _ _ _ r h=>by simp [impl_DecodeLocal.l0] at h⟩
 | k+1=>by
  obtain ⟨ih0,ih1⟩:=impl_DecodeLocal.mono_l k
  refine ⟨?_,?_⟩
  ·intro y0 y1 y2 y3 y4
   unfold impl_DecodeLocal.j0
   exact mm
  intro y0 y1 y2 y3 y4 y5 y6 y7 y8
  unfold impl_DecodeLocal.l0
  exact mm
theorem impl_DecodeLocal.mono:∀ a0 a1 a2 a3 k,LeO (impl_DecodeLocal.f k a0 a1 a2 a3) (impl_DecodeLocal.f (k+1) a0 a1 a2 a3):=by
 intro a0 a1 a2 a3 k
 obtain ⟨ih0,ih1⟩:=impl_DecodeLocal.mono_l k
 unfold impl_DecodeLocal.f
 exact mm
def impl_DecodeLocal.T8:Bool × List (List Nat × List Nat):=(true,[([],[]),([0],[0]),([],[]),([],[]),([3],[3]),([2,4],[2,4]),([5],[5]),([6],[6]),([1,7,1],[1,7]),([8,8,0,1,2,3,4,5,6,7,8],[8])])
def impl_DecodeLocal.B8:List Nat:=[0,1,0,0,8,28,60,124,255,511]
theorem impl_DecodeLocal.tab8:rtab .any (opsOf Try.f74 8)=impl_DecodeLocal.T8:=by kernel_rfl
theorem impl_DecodeLocal.bits8:waitsOk impl_DecodeLocal.T8.2 impl_DecodeLocal.B8=true:=by kernel_rfl
theorem impl_DecodeLocal.calls (k:Nat) (a0_0:Int) (a0_1:Int) (a0_2:Int) (A1:Option Addr) (c1:Nat) (l1:List (S84)) (r1:List ByteArray) (r2:Bool) (w:World) (hr1:Kd.C k84 w A1 l1.length l1) (hc1:l1.length≤c1) (h:impl_DecodeLocal.f k a0_0 a0_1 a0_2 l1=some (r1,r2)) :
  Calls Try.prog 74 #[.agg #[.int .i64 a0_0, .int .i64 a0_1, .int .i64 a0_2], .slice A1 l1.length c1] w fun e w'=>∃ v0_:Value,e = .returned (.tuple #[v0_, .bool r2])∧Kd.R Kd.string 9 w' w.heap.size (fun _=>True) v0_ r1∧Below w.heap.size w w':=by
 have hu51:=Try.underlying51
 have hu84:=Try.underlying84
 have HR1:=am hr1
 have HC1:=am hc1
 clear hr1 hc1
 have HB:=am (Below.refl w.heap.size w)
 have H:=h
 unfold impl_DecodeLocal.f at H
 clear h
 have HC3:=am H
 clear H
 go_enter Try.func74,Try.ntmps74
 go_upto_region 1 with (first|((with_reducible refine gD 2 ?_);refine gB (cs:=#[.int .i64 a0_0, .int .i64 a0_1, .int .i64 a0_2]) 51 ?_;intro gb396 hg w4 hbox hb;have BK396:=am (hbox);have GW396:=ye HB hg;replace HB:=yH HB hb;have GE396:=GW396;clear hb hbox hg))
 (try simp only [Act.put,q1,q2,q3])
 go_cut [21] (fun v21 wc=>∃ (kq:Nat) (x21_2:Bool),v21 = .bool x21_2∧Aside0 (impl_DecodeLocal.j0 kq l1 x21_2 a0_0 a0_1 a0_2=some (r1,r2))∧Aside0 (kq≤k)∧Aside0 (wc.heap[gb396]? = some (.cells #[.int .i64 a0_0, .int .i64 a0_1, .int .i64 a0_2] 51 (0,0)))∧Aside0 (Below w.heap.size w wc))
 case first =>
  have H:=HC3.out
  clear HC3
  obtain ⟨t397,A5,H⟩:=yo H
  by_cases c6:t397=true
  ·subst c6
   replace H:=yt H
   obtain ⟨t398,A7,H⟩:=yo H
   obtain ⟨t399,A8,H⟩:=yo H
   have H':=am H
   clear H
   obtain ⟨hcz9_0,hcz9_1,hcz9_2,hfz9_0,hfz9_1,hfz9_2⟩:=yk3 BK396
   go_wp2_with (first|((with_reducible refine gC 112 ?_);refine gM (some 13) Try.func112 (args:=#[.agg #[.int .i64 a0_0, .int .i64 a0_1, .int .i64 a0_2]]) (impl_GoodLocal.calls a0_0 a0_1 a0_2 true _ A5.out) ?_;rintro e w10 ⟨rfl,hb⟩;refine ⟨_,rfl,?_⟩;replace BK396:=yb BK396 hb;replace HB:=yH HB hb;clear hb;obtain ⟨hcz11_0,hcz11_1,hcz11_2,hfz11_0,hfz11_1,hfz11_2⟩:=yk3 BK396)|(go_at_call 113;(with_reducible refine (impl_Local_all.calls a0_0 a0_1 a0_2 t398 _ A7.out).mono ?_);rintro e w12 ⟨rfl,hb⟩;replace BK396:=yb BK396 hb;replace HB:=yH HB hb;clear hb)|(go_at_call 145;(with_reducible refine (impl_areShards.calls k _ _ l1 t398 t399 _ (yc (Kd.C_below HR1.out HB.out)) HC1.out A8.out).mono ?_);rintro e w13 ⟨rfl,hb⟩;replace BK396:=yb BK396 hb;replace HB:=yH HB hb;clear hb))
   go_meet
   case rel=>exact ⟨_,(!t399),D2,H',⟨D57⟩,⟨yB BK396⟩,⟨yW HB⟩⟩
  replace c6:=Bool.eq_false_iff.mpr c6
  subst c6
  replace H:=yn H
  have H':=am H
  clear H
  obtain ⟨hcz14_0,hcz14_1,hcz14_2,hfz14_0,hfz14_1,hfz14_2⟩:=yk3 BK396
  go_wp2_with (first|((with_reducible refine gC 112 ?_);refine gM (some 13) Try.func112 (args:=#[.agg #[.int .i64 a0_0, .int .i64 a0_1, .int .i64 a0_2]]) (impl_GoodLocal.calls a0_0 a0_1 a0_2 false _ A5.out) ?_;rintro e w15 ⟨rfl,hb⟩;refine ⟨_,rfl,?_⟩;replace BK396:=yb BK396 hb;replace HB:=yH HB hb;clear hb))
  go_meet
  case rel=>exact ⟨_,(true),D2,H',⟨D57⟩,⟨yB BK396⟩,⟨yW HB⟩⟩
 case rest =>
  clear HC3
  try clear c1
  try clear p2
  try clear c6
  try clear c7
  try clear c11
  try clear hcz11_0
  try clear hcz11_1
  try clear hcz11_2
  try clear hcz14_0
  try clear hcz14_1
  try clear hcz14_2
  try clear hcz9_0
  try clear hcz9_1
  try clear hcz9_2
  try clear hfz11_0
  try clear hfz11_1
  try clear hfz11_2
  try clear hfz14_0
  try clear hfz14_1
  try clear hfz14_2
  try clear hfz9_0
  try clear hfz9_1
  try clear hfz9_2
  obtain ⟨kq,x21_2,rfl,HA,HJ2,BK396,HB⟩:=hcut
  cases kq with
  | zero=>exact absurd HA.out (by simp [impl_DecodeLocal.j0])
  | succ kj2 =>
   have H:=HA.out
   clear HA
   simp only [impl_DecodeLocal.j0] at H
   by_cases c16:x21_2=true
   ·subst c16
    replace H:=yt H
    simp only [Option.some.injEq,Prod.mk.injEq] at H
    obtain ⟨rfl,rfl⟩:=H
    go_wp2
    go_ret2
    exact ⟨_,D1,D10,yW HB⟩
   replace c16:=Bool.eq_false_iff.mpr c16
   subst c16
   replace H:=yn H
   obtain ⟨t400,A17,H⟩:=yo H
   generalize hy403:(([]:List (List Int)):List (List Int))=y403 at H
   have Ny403:=am hy403.symm
   clear hy403
   generalize hy406:(([]:List (S84)):List (S84))=y406 at H
   have Ny406:=am hy406.symm
   clear hy406
   have H':=am H
   clear H
   obtain ⟨hcz18_0,hcz18_1,hcz18_2,hfz18_0,hfz18_1,hfz18_2⟩:=yk3 BK396
   go_wp2_with (first|((with_reducible refine gC 114 ?_);refine gM (some 23) Try.func114 (args:=#[.agg #[.int .i64 a0_0, .int .i64 a0_1, .int .i64 a0_2]]) (impl_localRows.calls kj2 a0_0 a0_1 a0_2 t400 _ A17.out) ?_;rintro e w19 ⟨v401,rfl,ho0,hb⟩;refine ⟨_,rfl,?_⟩;have HO402:=am (Kd.N_lower (Kd.N_mono (ok':=fun k_=>k_ ≠ gb396) (Kd.S_N (Kd.S_bound ho0)) (fun k_ hk_=>(yz BK396 k_ hk_.2.1))) (pz (yW HB)));replace BK396:=yb BK396 hb;replace HB:=yH HB hb;clear hb ho0)|((with_reducible refine gD 24 ?_);refine Kd.N_lit (Kd.slice 5 (Kd.int .u8)) _ 57 D11 (N':=24) D11 (xs:=([]:List (List Int))) (inner:=[]) (ok:=(fun k_=>some k_ ≠ (v401:Value).ownBlock∧k_ ≠ gb396)) (okp:=(fun k_=>some k_ ≠ (v401:Value).ownBlock∧k_ ≠ gb396)) D16 D25 (fun _ hk=>hk) ((show ∀ k_,w19.heap.size≤k_→(fun k_=>some k_ ≠ (v401:Value).ownBlock∧k_ ≠ gb396) k_ from fun k_ hk=>⟨Kd.fresh' (Kd.N_lt (yN HO402)) k_ hk,yz BK396 k_ hk⟩) _ (Nat.le_refl _)) (Below.refl _ _) (Nat.le_refl _) D36 ?_;intro v404 w20 ho21 hb hg_ hnew_;clear hg_ hnew_;(first|rw [← Ny403.out] at ho21|(simp only [Int.reduceToNat] at ho21;rw [← Ny403.out] at ho21));replace HO402:=eN HO402 (Kd.N_base ho21) hb;have HO405:=am (Kd.N_lower ho21 (pz (yW HB)));replace BK396:=yb BK396 hb;replace HB:=yH HB hb;clear hb ho21)|((with_reducible refine gD 25 ?_);refine Kd.R_lit k84 _ 84 D11 (N:=25) D11 (xs:=([]:List (S84))) (inner:=[]) (ok:=fun _=>True) (okp:=fun _=>True) D16 D25 (fun _ hk=>hk) trivial (Below.refl _ _) (Nat.le_refl _) D36 ?_;intro v407 w22 ho23 hb hg_ hnew_;clear hg_ hnew_;(first|rw [← Ny406.out] at ho23|(simp only [Int.reduceToNat] at ho23;rw [← Ny406.out] at ho23));replace HO402:=eN HO402 (Kd.R_base ho23) hb;replace HO405:=eN HO405 (Kd.R_base ho23) hb;have HO408:=am (Kd.R_lower ho23 (pz (yW HB)));replace BK396:=yb BK396 hb;replace HB:=yH HB hb;clear hb ho23))
   go_loopg [7,8,28] kj2 (fun kq v7 v8 v28 w'=>∃ (x7_2:List (List Int)) (x8_2:List (S84)) (x28_2:Int),v28 = .int .i64 x28_2∧Aside0 (impl_DecodeLocal.l0 kq t400 x7_2 x8_2 l1 (l1.length:Int) x28_2 a0_0 a0_1 a0_2=some (r1,r2))∧Aside0 (kq≤kj2)∧Aside0 (Kd.N (Kd.slice 5 (Kd.int .u8)) 57 w' w.heap.size (fun k_=>some k_ ≠ (v7:Value).ownBlock∧some k_ ≠ (v8:Value).ownBlock∧k_ ≠ gb396) v401 t400)∧Aside0 (Kd.N (Kd.slice 5 (Kd.int .u8)) 57 w' w.heap.size (fun k_=>some k_ ≠ (v401:Value).ownBlock∧some k_ ≠ (v8:Value).ownBlock∧k_ ≠ gb396) v7 x7_2)∧Aside0 (Kd.R k84 84 w' w.heap.size (fun _=>True) v8 x8_2)∧Aside0 (w'.heap[gb396]? = some (.cells #[.int .i64 a0_0, .int .i64 a0_1, .int .i64 a0_2] 51 (0,0)))∧Aside0 (Below w.heap.size w w'))
   case atStart=>exact ⟨(y403),(y406),(0),D2,H',⟨Nat.le_refl _⟩,⟨by refine sN ?_;exact Kd.N_mono HO402.out (fun _ hk=>⟨hk.1.2,⟨hk.2,hk.1.1⟩⟩)⟩,⟨by refine sN ?_;exact Kd.N_mono HO405.out (fun _ hk=>⟨hk.1.1,⟨hk.2,hk.1.2⟩⟩)⟩,⟨yR HO408⟩,⟨yB BK396⟩,⟨yW HB⟩⟩
   case round =>
    clear H'
    try clear c1
    try clear p2
    try clear c6
    try clear c7
    try clear c11
    try clear c16
    try clear hcz11_0
    try clear hcz11_1
    try clear hcz11_2
    try clear hcz14_0
    try clear hcz14_1
    try clear hcz14_2
    try clear hcz18_0
    try clear hcz18_1
    try clear hcz18_2
    try clear hcz9_0
    try clear hcz9_1
    try clear hcz9_2
    try clear hfz11_0
    try clear hfz11_1
    try clear hfz11_2
    try clear hfz14_0
    try clear hfz14_1
    try clear hfz14_2
    try clear hfz18_0
    try clear hfz18_1
    try clear hfz18_2
    try clear hfz9_0
    try clear hfz9_1
    try clear hfz9_2
    try clear p2
    obtain ⟨x7_2,x8_2,x28_2,rfl,HA,HK2,HO_6,HO_7,HO_8,BK396,HB⟩:=hrel
    cases gk with
    | zero=>exact absurd HA.out (by simp [impl_DecodeLocal.l0])
    | succ k2 =>
     have H:=HA.out
     clear HA
     simp only [impl_DecodeLocal.l0] at H
     by_cases c24:x28_2 < (l1.length:Int)
     ·rw [if_pos c24] at H
      have c24b0:=decide_eq_true c24
      clear c24
      obtain ⟨c25,H⟩:=yi H
      have c25b0:=decide_eq_true c25
      clear c25
      obtain ⟨c26,H⟩:=yi H
      have c26b0:=decide_eq_true c26
      clear c26
      obtain ⟨t411,A27,H⟩:=yo H
      obtain ⟨c28,H⟩:=yi H
      have c28b0:=decide_eq_true c28
      clear c28
      obtain ⟨c29,H⟩:=yi H
      have c29b0:=decide_eq_true c29
      clear c29
      obtain ⟨y415,hy415,H⟩:=ys H
      have Ny415:=am hy415
      clear hy415
      obtain ⟨c30,H⟩:=yi H
      have LMc30:=am c30
      clear c30
      obtain ⟨y418,hy418,H⟩:=ys H
      have Ny418:=am hy418
      clear hy418
      obtain ⟨t421,A31,H⟩:=yo H
      by_cases c32:t421=(y418.length:Int)
      ·rw [if_pos c32] at H
       have c32b0:(t421 == (y418.length:Int))=true:=beq_iff_eq.mpr c32
       have c32b1:(t421 != (y418.length:Int))=false:=bne_eq_false_iff_eq.mpr c32
       clear c32
       obtain ⟨y422,hy422,H⟩:=ys H
       have Ny422:=am hy422
       clear hy422
       obtain ⟨c33,H⟩:=yi H
       have LMc33:=am c33
       clear c33
       generalize hy425:(x8_2 ++ y422:List (S84))=y425 at H
       have Ny425:=am hy425.symm
       clear hy425
       have H':=am H
       clear H
       have p409:0≤(x28_2:Int):=od D0
       have q409:x28_2 < (l1.length:Int):=od D0
       obtain ⟨ad409,e409,hx409_0,hx409_1⟩:=at_T84 HR1.out x28_2 p409 q409
       cases e409
       replace hx409_0:=(HB.out.cell (World.block_lt_of_cell? w _ hx409_0)).trans hx409_0
       replace hx409_1:=(HB.out.cell (World.block_lt_of_cell? w _ hx409_1)).trans hx409_1
       replace p409:=eq_true p409
       replace q409:=eq_true q409
       try go_wp2_with (first|((with_reducible refine gD 10 ?_);refine gB (cs:=#[.int .i64 0, .string (⟨#[]⟩:ByteArray)]) 84 ?_;intro gb410 hg w34 hbox hb;replace HO_6:=oN HO_6 hg hb;replace HO_7:=oN HO_7 hg hb;replace HO_8:=oR HO_8 hg hb;have BK410:=am (hbox);have GW410:=ye HB hg;replace HB:=yH HB hb;have NB396_410:=yl BK396 hg;have NB410_396:=yg BK396 hg;replace BK396:=yb BK396 hb;have GE410:=GW410;clear hb hbox hg;have hnb35:=NB410_396.out;have hnc35:=NB396_410.out;obtain ⟨hcz36_0,hcz36_1,hfz36_0,hfz36_1⟩:=yk2 BK410;obtain ⟨Ao37,co37,eo37⟩:=Kd.N_slice HO_7.out;subst eo37))
       generalize hw_:((w34.setCell ⟨gb410,0,none⟩ (.int .i64 ((rd_T84 l1 x28_2).f0))).setCell ⟨gb410,1,none⟩ (.string ((rd_T84 l1 x28_2).f1)))=w38
       replace HO_6:Aside0 (Kd.N (Kd.slice 5 (Kd.int .u8)) 57 w38 w.heap.size (fun k_=>some k_ ≠ (.slice Ao37 x7_2.length co37:Value).ownBlock∧some k_ ≠ (u8:Value).ownBlock∧k_ ≠ gb396∧k_ ≠ gb410) v401 t400):=⟨D31⟩
       replace HO_7:Aside0 (Kd.N (Kd.slice 5 (Kd.int .u8)) 57 w38 w.heap.size (fun k_=>some k_ ≠ (v401:Value).ownBlock∧some k_ ≠ (u8:Value).ownBlock∧k_ ≠ gb396∧k_ ≠ gb410) (.slice Ao37 x7_2.length co37) x7_2):=⟨D30⟩
       replace HO_8:Aside0 (Kd.R k84 84 w38 w.heap.size (fun k_=>k_ ≠ gb410) u8 x8_2):=⟨D39⟩
       replace BK396:Aside0 (w38.heap[gb396]? = some (.cells #[.int .i64 a0_0, .int .i64 a0_1, .int .i64 a0_2] 51 (0,0))):=⟨by rw [← hw_];exact yF BK396⟩
       replace BK410:Aside0 (w38.heap[gb410]? = some (.cells #[.int .i64 ((rd_T84 l1 x28_2).f0), .string ((rd_T84 l1 x28_2).f1)] 84 (0,0))):=⟨D48⟩
       replace HB:Aside0 (Below w.heap.size w w38):=⟨D41⟩
       clear hw_
       replace HO_6:=am (Kd.N_drew HO_6.out)
       replace HO_7:=am (Kd.N_drew HO_7.out)
       replace HO_8:=am (Kd.R_drew HO_8.out)
       replace BK396:=am (qd BK396.out)
       replace BK410:=am (qd BK410.out)
       replace HB:=am (pd HB.out)
       obtain ⟨Ao40,co40,eo40⟩:=Kd.N_slice HO_6.out
       (first|subst eo40|(injection eo40 with f1_ f2_ f3_;have f4_:=f1_.symm;have f5_:=f3_.symm;clear f1_ f2_ f3_;subst f4_;subst f5_))
       have p414:0≤(((rd_T84 l1 x28_2).f0):Int):=od D0
       have q414:((rd_T84 l1 x28_2).f0) < (t400.length:Int):=od D0
       obtain ⟨ad414,A414_0,c414_0,e414,hx414_0,hl414_0,hi414_0⟩:=at_L1 (Kd.N_reads' HO_6.out).2.2 ((rd_T84 l1 x28_2).f0) p414 q414
       cases e414
       obtain ⟨ce414,hce414,hMe414,hcc414⟩:=Kd.N_get HO_6.out [] ((rd_T84 l1 x28_2).f0) p414 (by first|exact q414|exact od D0|(have e_:=(Kd.N_reads' HO_6.out).1;omega))
       obtain ⟨ua414_0,uc414_0,rfl,ul414_0,ge414_0⟩:=Kd.FK_slice_open hMe414
       have hv414_0:=hcc414 0 _ rfl
       rw [Nat.add_zero,show ((Kd.slice 5 (Kd.int .u8))).sz=1 from rfl,Nat.mul_one] at hv414_0
       replace hv414_0:=Option.some.inj (hv414_0.symm.trans hx414_0)
       injection hv414_0 with hva_ hvn_ hvc_
       rw [hva_] at ge414_0
       rw [hvc_] at ul414_0
       have HL414_0:=am (show Kd.V (Kd.int .u8) 5 _ w.heap.size _ _ (rd_L1 t400 ((rd_T84 l1 x28_2).f0)) from Kd.V_mk ul414_0 ge414_0)
       clear hva_ hvn_ hvc_ ge414_0 ul414_0
       clear hcc414 hce414
       have HR414_0:=am hi414_0
       have HC414_0:=am hl414_0
       clear hi414_0 hl414_0
       replace p414:=eq_true p414
       replace q414:=eq_true q414
       refine start_ (n:=10) (S:=fun w'=>w'.cell? ⟨gb410,0,none⟩=some (.int .i64 ((rd_T84 l1 x28_2).f0))∧w'.cell? ⟨gb410,1,none⟩=some (.string ((rd_T84 l1 x28_2).f1))∧w'.cell? (ad414.add (((rd_T84 l1 x28_2).f0)).toNat)=some (.slice A414_0 (rd_L1 t400 ((rd_T84 l1 x28_2).f0)).length c414_0)) (ds:=[8]) #[Z,Z,Z,Z,Z,Z,Z,Z,Z,Z] D3 rfl rfl ⟨yk BK410 0,yk BK410 1,hx414_0⟩ (fun hHeld=>?_);refine with_tabW impl_DecodeLocal.tab8 impl_DecodeLocal.bits8 (fun HT_ HW_=>?_)
       generalize w38.drew=w39 at HO_6 HO_7 HO_8 BK396 BK410 HB HL414_0 HR414_0 hx414_0 hHeld ⊢
       refine pure_ (i:=0) (N:=some 32) (v:=?_) (a':=?_) #[Y,Z,Z,Z,Z,Z,Z,Z,Z,Z] rfl rfl (any_of HT_.out D3) hh (Or.inl ⟨D11,?_⟩) ?_ ?_
       rotate_left
       ·intro w'
        go_simp
        with_reducible rfl
       rotate_left
       ·simp only [Act.put,q1,q2,q3,i64_w,i32_w]
        rfl
       refine pure_ (i:=2) (N:=some 34) (v:=?_) (a':=?_) #[Y,Z,Y,Z,Z,Z,Z,Z,Z,Z] rfl rfl (any_of HT_.out D3) hh (Or.inl ⟨D11,?_⟩) ?_ ?_
       rotate_left
       ·intro w'
        go_simp
        with_reducible rfl
       rotate_left
       ·simp only [Act.put,q1,q2,q3,i64_w,i32_w]
        rfl
       refine pure_ (i:=3) (N:=some 35) (v:=?_) (a':=?_) #[Y,Z,Y,Y,Z,Z,Z,Z,Z,Z] rfl rfl (any_of HT_.out D3) hh (Or.inl ⟨D11,?_⟩) ?_ ?_
       rotate_left
       ·intro w'
        go_simp
        with_reducible rfl
       rotate_left
       ·simp only [Act.put,q1,q2,q3,i64_w,i32_w]
        rfl
       refine take_ (i:=4) (N:=some 36) (v:=?_) (a':=?_) #[Y,Z,Y,Y,Y,Z,Z,Z,Z,Z] rfl rfl (take_ofW HT_.out HW_.out D3) hh (Or.inl ⟨D11,?_⟩) hHeld ?_ ?_
       rotate_left
       ·rintro w' ⟨s0,s1,s2⟩
        go_simp
        with_reducible rfl
       rotate_left
       ·simp only [Act.put,q1,q2,q3,i64_w,i32_w]
        rfl
       refine pure_ (i:=5) (N:=some 37) (v:=?_) (a':=?_) #[Y,Z,Y,Y,Y,Y,Z,Z,Z,Z] rfl rfl (any_of HT_.out D3) hh (Or.inl ⟨D11,?_⟩) ?_ ?_
       rotate_left
       ·intro w'
        go_simp
        with_reducible rfl
       rotate_left
       ·simp only [Act.put,q1,q2,q3,i64_w,i32_w]
        rfl
       refine take_ (i:=6) (N:=some 38) (v:=?_) (a':=?_) #[Y,Z,Y,Y,Y,Y,Y,Z,Z,Z] rfl rfl (take_ofW HT_.out HW_.out D3) hh (Or.inl ⟨D11,?_⟩) hHeld ?_ ?_
       rotate_left
       ·rintro w' ⟨s0,s1,s2⟩
        go_simp
        with_reducible rfl
       rotate_left
       ·simp only [Act.put,q1,q2,q3,i64_w,i32_w]
        rfl
       refine join_ (σ:=Value × Value) 2 #[Y,Y,Y,Y,Y,Y,Y,Y,Z,Z] (fun s_=>[(33,s_.1),(39,s_.2)]) (fun s_ w'=>(w'.cell? ⟨gb410,0,none⟩=some (.int .i64 ((rd_T84 l1 x28_2).f0))∧w'.cell? ⟨gb410,1,none⟩=some (.string ((rd_T84 l1 x28_2).f1))∧w'.cell? (ad414.add (((rd_T84 l1 x28_2).f0)).toNat)=some (.slice A414_0 (rd_L1 t400 ((rd_T84 l1 x28_2).f0)).length c414_0))∧(Kd.V (Kd.int .u8) 5 w' w.heap.size (fun k_=>some k_ ≠ (s_.1:Value).ownBlock∧some k_ ≠ (s_.2:Value).ownBlock∧some k_ ≠ (.slice (some ad414) t400.length co40:Value).ownBlock∧some k_ ≠ (.slice Ao37 x7_2.length co37:Value).ownBlock∧some k_ ≠ (u8:Value).ownBlock∧k_ ≠ gb396∧k_ ≠ gb410) (.slice A414_0 (rd_L1 t400 ((rd_T84 l1 x28_2).f0)).length c414_0) (rd_L1 t400 ((rd_T84 l1 x28_2).f0)))∧(Kd.N (Kd.slice 5 (Kd.int .u8)) 57 w' w.heap.size (fun k_=>some k_ ≠ (s_.2:Value).ownBlock∧some k_ ≠ (.slice (some ad414) t400.length co40:Value).ownBlock∧some k_ ≠ (u8:Value).ownBlock∧k_ ≠ gb396∧k_ ≠ gb410) s_.1 t411)∧(Kd.N (Kd.slice 5 (Kd.int .u8)) 57 w' w.heap.size (fun k_=>some k_ ≠ (s_.1:Value).ownBlock∧some k_ ≠ (.slice (some ad414) t400.length co40:Value).ownBlock∧some k_ ≠ (.slice Ao37 x7_2.length co37:Value).ownBlock∧some k_ ≠ (u8:Value).ownBlock∧k_ ≠ gb396∧k_ ≠ gb410) s_.2 y415)∧(Kd.N (Kd.slice 5 (Kd.int .u8)) 57 w' w.heap.size (fun k_=>some k_ ≠ (s_.1:Value).ownBlock∧some k_ ≠ (s_.2:Value).ownBlock∧some k_ ≠ (.slice Ao37 x7_2.length co37:Value).ownBlock∧some k_ ≠ (u8:Value).ownBlock∧k_ ≠ gb396∧k_ ≠ gb410) (.slice (some ad414) t400.length co40) t400)∧(Kd.N (Kd.slice 5 (Kd.int .u8)) 57 w' w.heap.size (fun k_=>some k_ ≠ (s_.1:Value).ownBlock∧some k_ ≠ (s_.2:Value).ownBlock∧some k_ ≠ (.slice (some ad414) t400.length co40:Value).ownBlock∧some k_ ≠ (u8:Value).ownBlock∧k_ ≠ gb396∧k_ ≠ gb410) (.slice Ao37 x7_2.length co37) x7_2)∧(Kd.R k84 84 w' w.heap.size (fun k_=>k_ ≠ gb410) u8 x8_2)∧(w'.heap[gb396]? = some (.cells #[.int .i64 a0_0, .int .i64 a0_1, .int .i64 a0_2] 51 (0,0)))∧(w'.heap[gb410]? = some (.cells #[.int .i64 ((rd_T84 l1 x28_2).f0), .string ((rd_T84 l1 x28_2).f1)] 84 (0,0)))∧(Below w.heap.size w w')) ?_ ?_
       rotate_left
       ·intro hCont
        refine two_ (i:=1) (j:=7) (Ni:=some 33) (Nj:=some 39) #[Y,Y,Y,Y,Y,Y,Y,Z,Z,Z] #[Y,Z,Y,Y,Y,Y,Y,Y,Z,Z] rfl rfl rfl rfl (two_of HT_.out D3) D4 D4 (fun K hK=>?_) (fun K hK=>?_)
        ·skip
         refine goes_ Try.func158 D3 rfl #[.slice Ao37 x7_2.length co37] D11 rfl rfl D8 ?_
         with_reducible refine (slices_Clone_byte_byte_SS.calls (fun k_=>(some k_ ≠ (.slice (some ad414) t400.length co40:Value).ownBlock∧(some k_ ≠ (u8:Value).ownBlock∧(k_ ≠ gb396∧k_ ≠ gb410)))) _ _ x7_2 t411 _ (Kd.N_V (HO_7.out)) A27.out).mono ?_
         rintro e w41 ⟨v412,rfl,ho0,hb⟩
         have HS2_:=(hb.cell (World.block_lt_of_cell? _ _ (hHeld.2.2))).trans (hHeld.2.2)
         refine ⟨_,rfl,?_⟩
         replace HO_7:=eN HO_7 D7 hb
         replace HL414_0:=eV HL414_0 D7 hb
         have HO413:=am (Kd.N_lower (Kd.N_mono (ok':=fun k_=>some k_ ≠ (.slice (some ad414) t400.length co40:Value).ownBlock∧some k_ ≠ (u8:Value).ownBlock∧k_ ≠ gb396∧k_ ≠ gb410) ho0 (fun k_ hk_=>⟨Or.elim hk_ (fun hs_=>hs_.1) (fun hn_=>(Kd.fresh' (Kd.N_lt (yN HO_6)) k_ hn_)),Or.elim hk_ (fun hs_=>hs_.2.1) (fun hn_=>(Kd.fresh' (Kd.R_lt (yR HO_8)) k_ hn_)),Or.elim hk_ (fun hs_=>hs_.2.2.1) (fun hn_=>(yz BK396 k_ hn_)),Or.elim hk_ (fun hs_=>hs_.2.2.2) (fun hn_=>(yz BK410 k_ hn_))⟩)) (pz (yW HB)))
         replace HO_6:=eN HO_6 D7 hb
         replace HO_8:=bR HO_8 hb
         replace BK396:=yb BK396 hb
         replace BK410:=yb BK410 hb
         replace HR414_0:=am (Kd.C_below D12 hb)
         replace HB:=yH HB hb
         (try clear hb)
         (try clear hb2)
         (try clear hk)
         (try clear hi)
         (try clear ho0)
         refine hK.out _ _ ⟨yk BK410 0,yk BK410 1,HS2_⟩ (fun hHeld=>?_)
         clear hK K
         refine norm_ (a':=?_) ?_ ?_
         rotate_left
         ·show Act.put _ (some 33) _=_
          simp only [Act.put,q1,q2,q3,i64_w,i32_w]
          rfl
         refine one_ (i:=7) (N:=some 39) #[Y,Y,Y,Y,Y,Y,Y,Y,Z,Z] rfl rfl (one_of HT_.out D3) D4 (fun K hK=>?_)
         refine Kd.N_lit_step (Kd.slice 5 (Kd.int .u8)) _ 57 ?hg (N':=39) ?hd (xs:=([rd_L1 t400 ((rd_T84 l1 x28_2).f0)]:List (List Int))) (inner:=[.slice A414_0 (rd_L1 t400 ((rd_T84 l1 x28_2).f0)).length c414_0]) (ok:=(fun k_=>some k_ ≠ (.slice (some ad414) t400.length co40:Value).ownBlock∧some k_ ≠ (.slice Ao37 x7_2.length co37:Value).ownBlock∧some k_ ≠ (u8:Value).ownBlock∧some k_ ≠ (v412:Value).ownBlock∧k_ ≠ gb396∧k_ ≠ gb410)) (okp:=(fun k_=>some k_ ≠ (.slice (some ad414) t400.length co40:Value).ownBlock∧some k_ ≠ (.slice Ao37 x7_2.length co37:Value).ownBlock∧some k_ ≠ (u8:Value).ownBlock∧some k_ ≠ (v412:Value).ownBlock∧k_ ≠ gb396∧k_ ≠ gb410)) ?hr ?hp (fun _ hk=>hk) ((show ∀ k_,w41.heap.size≤k_→(fun k_=>some k_ ≠ (.slice (some ad414) t400.length co40:Value).ownBlock∧some k_ ≠ (.slice Ao37 x7_2.length co37:Value).ownBlock∧some k_ ≠ (u8:Value).ownBlock∧some k_ ≠ (v412:Value).ownBlock∧k_ ≠ gb396∧k_ ≠ gb410) k_ from fun k_ hk=>⟨Kd.fresh' (Kd.N_lt (yN HO_6)) k_ hk,Kd.fresh' (Kd.N_lt (yN HO_7)) k_ hk,Kd.fresh' (Kd.R_lt (yR HO_8)) k_ hk,Kd.fresh' (Kd.N_lt (yN HO413)) k_ hk,yz BK396 k_ hk,yz BK410 k_ hk⟩) _ (Nat.le_refl _)) (Below.refl _ _) (Nat.le_refl _) D36 ?_;(case hd=>rfl);(case hg=>rfl);(case hr=>first|(go_simp;done)|(go_simp;rfl));(case hp=>exact (Reps.one (show Kd.FK (Kd.slice 5 (Kd.int .u8)) _ _ (rd_L1 t400 ((rd_T84 l1 x28_2).f0)) [.slice A414_0 (rd_L1 t400 ((rd_T84 l1 x28_2).f0)).length c414_0] from (Kd.FK_slice_mk (Kd.V_reads' (Kd.V_mono (ok':=(fun k_=>some k_ ≠ (.slice (some ad414) t400.length co40:Value).ownBlock∧some k_ ≠ (.slice Ao37 x7_2.length co37:Value).ownBlock∧some k_ ≠ (u8:Value).ownBlock∧some k_ ≠ (v412:Value).ownBlock∧k_ ≠ gb396∧k_ ≠ gb410)) (HL414_0.out) (fun k_ hk=>⟨hk.1.2,⟨hk.1.1.1,⟨hk.1.1.2.1,⟨hk.2,⟨hk.1.1.2.2.1,hk.1.1.2.2.2⟩⟩⟩⟩⟩))).2.1 (Kd.V_F (Kd.V_mono (ok':=(fun k_=>some k_ ≠ (.slice (some ad414) t400.length co40:Value).ownBlock∧some k_ ≠ (.slice Ao37 x7_2.length co37:Value).ownBlock∧some k_ ≠ (u8:Value).ownBlock∧some k_ ≠ (v412:Value).ownBlock∧k_ ≠ gb396∧k_ ≠ gb410)) (HL414_0.out) (fun k_ hk=>⟨hk.1.2,⟨hk.1.1.1,⟨hk.1.1.2.1,⟨hk.2,⟨hk.1.1.2.2.1,hk.1.1.2.2.2⟩⟩⟩⟩⟩))))) (Reps.none _ _)))
         intro v416 w42 ho43 hb hg_ hnew_
         have HS2_:=(hb.cell (World.block_lt_of_cell? _ _ (hHeld.2.2))).trans (hHeld.2.2)
         clear hg_ hnew_
         (first|rw [← Ny415.out] at ho43|(simp only [Int.reduceToNat] at ho43;rw [← Ny415.out] at ho43))
         replace HO_6:=eN HO_6 (Kd.N_base ho43) hb
         replace HO_7:=eN HO_7 (Kd.N_base ho43) hb
         replace HO_8:=bR HO_8 hb
         replace HL414_0:=eV HL414_0 (Kd.N_base ho43) hb
         replace HO413:=eN HO413 (Kd.N_base ho43) hb
         have HO417:=am (Kd.N_lower ho43 (pz (yW HB)))
         replace BK396:=yb BK396 hb
         replace BK410:=yb BK410 hb
         replace HR414_0:=am (Kd.C_below D12 hb)
         replace HB:=yH HB hb
         clear hb ho43
         refine hK.out _ _ ⟨yk BK410 0,yk BK410 1,HS2_⟩ (fun hHeld=>?_)
         clear hK K
         refine norm_ (a':=?_) ?_ ?_
         rotate_left
         ·show Act.put _ (some 39) _=_
          simp only [Act.put,q1,q2,q3,i64_w,i32_w]
          rfl
         exact norm_ D24 (hCont (v412,v416) _ ⟨hHeld,D53,D73,D60,D68,D65,(yR HO_8),(yB BK396),(yB BK410),(yW HB)⟩)
        skip
        refine Kd.N_lit_step (Kd.slice 5 (Kd.int .u8)) _ 57 ?hg (N':=39) ?hd (xs:=([rd_L1 t400 ((rd_T84 l1 x28_2).f0)]:List (List Int))) (inner:=[.slice A414_0 (rd_L1 t400 ((rd_T84 l1 x28_2).f0)).length c414_0]) (ok:=(fun k_=>some k_ ≠ (.slice (some ad414) t400.length co40:Value).ownBlock∧some k_ ≠ (.slice Ao37 x7_2.length co37:Value).ownBlock∧some k_ ≠ (u8:Value).ownBlock∧k_ ≠ gb396∧k_ ≠ gb410)) (okp:=(fun k_=>some k_ ≠ (.slice (some ad414) t400.length co40:Value).ownBlock∧some k_ ≠ (.slice Ao37 x7_2.length co37:Value).ownBlock∧some k_ ≠ (u8:Value).ownBlock∧k_ ≠ gb396∧k_ ≠ gb410)) ?hr ?hp (fun _ hk=>hk) ((show ∀ k_,w39.heap.size≤k_→(fun k_=>some k_ ≠ (.slice (some ad414) t400.length co40:Value).ownBlock∧some k_ ≠ (.slice Ao37 x7_2.length co37:Value).ownBlock∧some k_ ≠ (u8:Value).ownBlock∧k_ ≠ gb396∧k_ ≠ gb410) k_ from fun k_ hk=>⟨Kd.fresh' (Kd.N_lt (yN HO_6)) k_ hk,Kd.fresh' (Kd.N_lt (yN HO_7)) k_ hk,Kd.fresh' (Kd.R_lt (yR HO_8)) k_ hk,yz BK396 k_ hk,yz BK410 k_ hk⟩) _ (Nat.le_refl _)) (Below.refl _ _) (Nat.le_refl _) D36 ?_;(case hd=>rfl);(case hg=>rfl);(case hr=>first|(go_simp;done)|(go_simp;rfl));(case hp=>exact (Reps.one (show Kd.FK (Kd.slice 5 (Kd.int .u8)) _ _ (rd_L1 t400 ((rd_T84 l1 x28_2).f0)) [.slice A414_0 (rd_L1 t400 ((rd_T84 l1 x28_2).f0)).length c414_0] from (Kd.FK_slice_mk (Kd.V_reads' (Kd.V_mono (ok':=(fun k_=>some k_ ≠ (.slice (some ad414) t400.length co40:Value).ownBlock∧some k_ ≠ (.slice Ao37 x7_2.length co37:Value).ownBlock∧some k_ ≠ (u8:Value).ownBlock∧k_ ≠ gb396∧k_ ≠ gb410)) (HL414_0.out) (fun k_ hk=>⟨hk.2,⟨hk.1.1,⟨hk.1.2.1,⟨hk.1.2.2.1,hk.1.2.2.2⟩⟩⟩⟩))).2.1 (Kd.V_F (Kd.V_mono (ok':=(fun k_=>some k_ ≠ (.slice (some ad414) t400.length co40:Value).ownBlock∧some k_ ≠ (.slice Ao37 x7_2.length co37:Value).ownBlock∧some k_ ≠ (u8:Value).ownBlock∧k_ ≠ gb396∧k_ ≠ gb410)) (HL414_0.out) (fun k_ hk=>⟨hk.2,⟨hk.1.1,⟨hk.1.2.1,⟨hk.1.2.2.1,hk.1.2.2.2⟩⟩⟩⟩))))) (Reps.none _ _)))
        intro v416 w41 ho42 hb hg_ hnew_
        have HS2_:=(hb.cell (World.block_lt_of_cell? _ _ (hHeld.2.2))).trans (hHeld.2.2)
        clear hg_ hnew_
        (first|rw [← Ny415.out] at ho42|(simp only [Int.reduceToNat] at ho42;rw [← Ny415.out] at ho42))
        replace HO_6:=eN HO_6 (Kd.N_base ho42) hb
        replace HO_7:=eN HO_7 (Kd.N_base ho42) hb
        replace HO_8:=bR HO_8 hb
        replace HL414_0:=eV HL414_0 (Kd.N_base ho42) hb
        have HO417:=am (Kd.N_lower ho42 (pz (yW HB)))
        replace BK396:=yb BK396 hb
        replace BK410:=yb BK410 hb
        replace HR414_0:=am (Kd.C_below D12 hb)
        replace HB:=yH HB hb
        clear hb ho42
        refine hK.out _ _ ⟨yk BK410 0,yk BK410 1,HS2_⟩ (fun hHeld=>?_)
        clear hK K
        refine norm_ (a':=?_) ?_ ?_
        rotate_left
        ·show Act.put _ (some 39) _=_
         simp only [Act.put,q1,q2,q3,i64_w,i32_w]
         rfl
        refine one_ (i:=1) (N:=some 33) #[Y,Y,Y,Y,Y,Y,Y,Y,Z,Z] rfl rfl (one_of HT_.out D3) D4 (fun K hK=>?_)
        refine goes_ Try.func158 D3 rfl #[.slice Ao37 x7_2.length co37] D11 rfl rfl D8 ?_
        with_reducible refine (slices_Clone_byte_byte_SS.calls (fun k_=>((some k_ ≠ (.slice (some ad414) t400.length co40:Value).ownBlock∧(some k_ ≠ (u8:Value).ownBlock∧(k_ ≠ gb396∧k_ ≠ gb410)))∧some k_ ≠ (v416:Value).ownBlock)) _ _ x7_2 t411 _ (Kd.N_V (HO_7.out)) A27.out).mono ?_
        rintro e w43 ⟨v412,rfl,ho0,hb⟩
        have HS2_:=(hb.cell (World.block_lt_of_cell? _ _ (hHeld.2.2))).trans (hHeld.2.2)
        refine ⟨_,rfl,?_⟩
        replace HO_7:=eN HO_7 D7 hb
        replace HL414_0:=eV HL414_0 D7 hb
        have HO413:=am (Kd.N_lower (Kd.N_mono (ok':=fun k_=>some k_ ≠ (.slice (some ad414) t400.length co40:Value).ownBlock∧some k_ ≠ (u8:Value).ownBlock∧some k_ ≠ (v416:Value).ownBlock∧k_ ≠ gb396∧k_ ≠ gb410) ho0 (fun k_ hk_=>⟨Or.elim hk_ (fun hs_=>hs_.1.1) (fun hn_=>(Kd.fresh' (Kd.N_lt (yN HO_6)) k_ hn_)),Or.elim hk_ (fun hs_=>hs_.1.2.1) (fun hn_=>(Kd.fresh' (Kd.R_lt (yR HO_8)) k_ hn_)),Or.elim hk_ (fun hs_=>hs_.2) (fun hn_=>(Kd.fresh' (Kd.N_lt (yN HO417)) k_ hn_)),Or.elim hk_ (fun hs_=>hs_.1.2.2.1) (fun hn_=>(yz BK396 k_ hn_)),Or.elim hk_ (fun hs_=>hs_.1.2.2.2) (fun hn_=>(yz BK410 k_ hn_))⟩)) (pz (yW HB)))
        replace HO_6:=eN HO_6 D7 hb
        replace HO_8:=bR HO_8 hb
        replace HO417:=eN HO417 D7 hb
        replace BK396:=yb BK396 hb
        replace BK410:=yb BK410 hb
        replace HR414_0:=am (Kd.C_below D12 hb)
        replace HB:=yH HB hb
        (try clear hb)
        (try clear hb2)
        (try clear hk)
        (try clear hi)
        (try clear ho0)
        refine hK.out _ _ ⟨yk BK410 0,yk BK410 1,HS2_⟩ (fun hHeld=>?_)
        clear hK K
        refine norm_ (a':=?_) ?_ ?_
        rotate_left
        ·show Act.put _ (some 33) _=_
         simp only [Act.put,q1,q2,q3,i64_w,i32_w]
         rfl
        exact norm_ D24 (hCont (v412,v416) _ ⟨hHeld,D52,D72,D61,D67,D64,(yR HO_8),(yB BK396),(yB BK410),(yW HB)⟩)
       rintro ⟨v412,v416⟩ w44 ⟨hS_,h0_,h1_,h2_,h3_,h4_,h5_,h6_,h7_,h8_⟩
       have n0_:Aside0 (Kd.V (Kd.int .u8) 5 w44 w.heap.size (fun k_=>some k_ ≠ (v412:Value).ownBlock∧some k_ ≠ (v416:Value).ownBlock∧some k_ ≠ (.slice (some ad414) t400.length co40:Value).ownBlock∧some k_ ≠ (.slice Ao37 x7_2.length co37:Value).ownBlock∧some k_ ≠ (u8:Value).ownBlock∧k_ ≠ gb396∧k_ ≠ gb410) (.slice A414_0 (rd_L1 t400 ((rd_T84 l1 x28_2).f0)).length c414_0) (rd_L1 t400 ((rd_T84 l1 x28_2).f0))):=⟨h0_⟩
       have n1_:Aside0 (Kd.N (Kd.slice 5 (Kd.int .u8)) 57 w44 w.heap.size (fun k_=>some k_ ≠ (v416:Value).ownBlock∧some k_ ≠ (.slice (some ad414) t400.length co40:Value).ownBlock∧some k_ ≠ (u8:Value).ownBlock∧k_ ≠ gb396∧k_ ≠ gb410) v412 t411):=⟨h1_⟩
       have n2_:Aside0 (Kd.N (Kd.slice 5 (Kd.int .u8)) 57 w44 w.heap.size (fun k_=>some k_ ≠ (v412:Value).ownBlock∧some k_ ≠ (.slice (some ad414) t400.length co40:Value).ownBlock∧some k_ ≠ (.slice Ao37 x7_2.length co37:Value).ownBlock∧some k_ ≠ (u8:Value).ownBlock∧k_ ≠ gb396∧k_ ≠ gb410) v416 y415):=⟨h2_⟩
       have n3_:Aside0 (Kd.N (Kd.slice 5 (Kd.int .u8)) 57 w44 w.heap.size (fun k_=>some k_ ≠ (v412:Value).ownBlock∧some k_ ≠ (v416:Value).ownBlock∧some k_ ≠ (.slice Ao37 x7_2.length co37:Value).ownBlock∧some k_ ≠ (u8:Value).ownBlock∧k_ ≠ gb396∧k_ ≠ gb410) (.slice (some ad414) t400.length co40) t400):=⟨h3_⟩
       have n4_:Aside0 (Kd.N (Kd.slice 5 (Kd.int .u8)) 57 w44 w.heap.size (fun k_=>some k_ ≠ (v412:Value).ownBlock∧some k_ ≠ (v416:Value).ownBlock∧some k_ ≠ (.slice (some ad414) t400.length co40:Value).ownBlock∧some k_ ≠ (u8:Value).ownBlock∧k_ ≠ gb396∧k_ ≠ gb410) (.slice Ao37 x7_2.length co37) x7_2):=⟨h4_⟩
       have n5_:Aside0 (Kd.R k84 84 w44 w.heap.size (fun k_=>k_ ≠ gb410) u8 x8_2):=⟨h5_⟩
       have n6_:Aside0 (w44.heap[gb396]? = some (.cells #[.int .i64 a0_0, .int .i64 a0_1, .int .i64 a0_2] 51 (0,0))):=⟨h6_⟩
       have n7_:Aside0 (w44.heap[gb410]? = some (.cells #[.int .i64 ((rd_T84 l1 x28_2).f0), .string ((rd_T84 l1 x28_2).f1)] 84 (0,0))):=⟨h7_⟩
       have n8_:Aside0 (Below w.heap.size w w44):=⟨h8_⟩
       clear HO_6
       clear HO_7
       clear HO_8
       clear BK396
       clear BK410
       clear HB
       clear h0_ h1_ h2_ h3_ h4_ h5_ h6_ h7_ h8_
       have HL414_0:=n0_
       have HO413:=n1_
       have HO417:=n2_
       have HO_6:=n3_
       have HO_7:=n4_
       have HO_8:=n5_
       have BK396:=n6_
       have BK410:=n7_
       have HB:=n8_
       clear n0_ n1_ n2_ n3_ n4_ n5_ n6_ n7_ n8_
       have hHeld:w44.cell? ⟨gb410,0,none⟩=some (.int .i64 ((rd_T84 l1 x28_2).f0))∧w44.cell? ⟨gb410,1,none⟩=some (.string ((rd_T84 l1 x28_2).f1))∧w44.cell? (ad414.add (((rd_T84 l1 x28_2).f0)).toNat)=some (.slice A414_0 (rd_L1 t400 ((rd_T84 l1 x28_2).f0)).length c414_0):=hS_
       obtain ⟨Ao46,co46,eo46⟩:=Kd.N_slice HO417.out
       (first|subst eo46|(injection eo46 with f1_ f2_ f3_;have f4_:=f1_.symm;have f5_:=f3_.symm;clear f1_ f2_ f3_;subst f4_;subst f5_))
       refine norm_ (a':=?_) ?_ ?_
       rotate_left
       ·simp only [putAll,Act.put,q1,q2,q3]
        rfl
       refine last_ (i:=8) (N:=some 40) #[Y,Y,Y,Y,Y,Y,Y,Y,Y,Z] rfl rfl (one_of HT_.out D3) D4 (fun K hK=>?_)
       refine Kd.N_append_rows_step (Kd.slice 5 (Kd.int .u8)) (w0:=w) w.heap.size D11 (.tmp 33) (.tmp 39) 37 57 (.slice none 0 0) 24 rfl Try.underlying37 info57 rfl D4 D5 v412 t411 y415 _ _ _ (fun k_=>some k_ ≠ (.slice (some ad414) t400.length co40:Value).ownBlock∧some k_ ≠ (u8:Value).ownBlock∧k_ ≠ gb396∧k_ ≠ gb410) (fun k_=>((fun k_=>some k_ ≠ (.slice (some ad414) t400.length co40:Value).ownBlock∧some k_ ≠ (u8:Value).ownBlock∧k_ ≠ gb396∧k_ ≠ gb410)) k_∧some k_ ≠ (v412:Value).ownBlock) rfl rfl ?aO ?aR (fun _ hk=>hk) ?aF ?aB ?aS ?aL ?_
       (case aR=>exact (by skip;exact Kd.N_F (Kd.N_mono (ok':=(fun k_=>((fun k_=>some k_ ≠ (.slice (some ad414) t400.length co40:Value).ownBlock∧some k_ ≠ (u8:Value).ownBlock∧k_ ≠ gb396∧k_ ≠ gb410)) k_∧some k_ ≠ (v412:Value).ownBlock)) (HO417.out) (fun k_ hk=>⟨⟨hk.2.1,⟨hk.2.2.2.1,⟨hk.2.2.2.2.1,hk.2.2.2.2.2⟩⟩⟩,hk.1⟩))))
       (case aB=>exact (yW HB))
       (case aF=>exact (fun k_ hk=>⟨Kd.fresh' (Kd.N_lt (yN HO_6)) k_ hk,Kd.fresh' (Kd.R_lt (yR HO_8)) k_ hk,yz BK396 k_ hk,yz BK410 k_ hk⟩))
       (case aO=>exact D76)
       (case aS=>exact (pz (yW HB)))
       (case aL=>have:=LMc30.out;omega)
       intro v419 w45 ho hb hg hat
       rw [← Ny418.out] at ho
       have n0_:=am (Kd.N_afterv (ok:=(fun k_=>some k_ ≠ (.slice Ao37 x7_2.length co37:Value).ownBlock∧some k_ ≠ (u8:Value).ownBlock∧some k_ ≠ (.slice Ao46 y415.length co46:Value).ownBlock∧k_ ≠ gb396∧k_ ≠ gb410)) D66 hg hat)
       have n1_:=am (Kd.N_afterv (ok:=(fun k_=>some k_ ≠ (.slice (some ad414) t400.length co40:Value).ownBlock∧some k_ ≠ (u8:Value).ownBlock∧some k_ ≠ (.slice Ao46 y415.length co46:Value).ownBlock∧k_ ≠ gb396∧k_ ≠ gb410)) D63 hg hat)
       have n2_:=am (Kd.R_over' (yR HO_8) (Kd.N_typed (yN HO413)) D4 hg)
       have n3_:=am (blk_grown (g:=gb396) (o:=.cells #[.int .i64 a0_0, .int .i64 a0_1, .int .i64 a0_2] 51 (0,0)) (yB BK396) hg (Kd.N_ne HO413.out BK396.out D4))
       have n4_:=am (blk_grown (g:=gb410) (o:=.cells #[.int .i64 ((rd_T84 l1 x28_2).f0), .string ((rd_T84 l1 x28_2).f1)] 84 (0,0)) (yB BK410) hg (Kd.N_ne HO413.out BK410.out D4))
       have n5_:=am (Kd.V_afterv (ok:=(fun k_=>some k_ ≠ (.slice (some ad414) t400.length co40:Value).ownBlock∧some k_ ≠ (.slice Ao37 x7_2.length co37:Value).ownBlock∧some k_ ≠ (u8:Value).ownBlock∧some k_ ≠ (.slice Ao46 y415.length co46:Value).ownBlock∧k_ ≠ gb396∧k_ ≠ gb410)) D51 hg hat)
       have n6_:=am (Kd.N_afterv (ok:=(fun k_=>some k_ ≠ (.slice (some ad414) t400.length co40:Value).ownBlock∧some k_ ≠ (.slice Ao37 x7_2.length co37:Value).ownBlock∧some k_ ≠ (u8:Value).ownBlock∧k_ ≠ gb396∧k_ ≠ gb410)) D59 hg hat)
       have n7_:=am (hb)
       have n8_:=am (ho)
       clear HO_6
       clear HO_7
       clear HO_8
       clear BK396
       clear BK410
       clear HL414_0
       clear HO417
       clear HB
       clear HO413
       have HO_6:=n0_
       have HO_7:=n1_
       have HO_8:=n2_
       have BK396:=n3_
       have BK410:=n4_
       have HL414_0:=n5_
       have HO417:=n6_
       have HB:=n7_
       have HO420:=n8_
       clear n0_ n1_ n2_ n3_ n4_ n5_ n6_ n7_ n8_
       clear ho hb hg hat
       refine hK.out _ _ ?_
       clear hK K
       refine norm_ (a':=?_) ?_ ?_
       rotate_left
       ·show Act.put _ (some 40) _=_
        simp only [Act.put,q1,q2,q3,i64_w,i32_w]
        rfl
       refine pure_ (i:=9) (N:=some 11) (v:=?_) (a':=?_) #[Y,Y,Y,Y,Y,Y,Y,Y,Y,Y] rfl rfl (any_of HT_.out D3) hh (Or.inl ⟨D11,?_⟩) ?_ ?_
       rotate_left
       ·intro w'
        go_simp
        with_reducible rfl
       rotate_left
       ·simp only [Act.put,q1,q2,q3,i64_w,i32_w]
        rfl
       refine done_ (done_of HT_.out D3) ?_
       obtain ⟨Ao47,co47,eo47⟩:=Kd.N_slice HO420.out
       subst eo47
       try go_wp2_with (first|((with_reducible refine gC 106 ?_);refine gM (some 42) Try.func106 (args:=#[.slice Ao47 y418.length co47]) (impl_rankOf.calls _ _ y418 t421 _ (yc (Kd.N_reads' HO420.out).2.2) (Kd.N_reads' HO420.out).2.1 A31.out) ?_;rintro e w48 ⟨rfl,hb⟩;refine ⟨_,rfl,?_⟩;replace HO_6:=bN HO_6 hb;replace HO_7:=bN HO_7 hb;replace HO_8:=bR HO_8 hb;replace HL414_0:=bV HL414_0 hb;replace HO417:=bN HO417 hb;replace HO420:=bN HO420 hb;replace BK396:=yb BK396 hb;replace BK410:=yb BK410 hb;replace HB:=yH HB hb;clear hb;obtain ⟨hcz49_0,hcz49_1,hfz49_0,hfz49_1⟩:=yk2 BK410)|((with_reducible refine gD 49 ?_);refine Kd.R_lit k84 _ 84 D11 (N:=49) D11 (xs:=([(⟨(rd_T84 l1 x28_2).f0,(rd_T84 l1 x28_2).f1⟩:S84)]:List (S84))) (inner:=[.int .i64 ((rd_T84 l1 x28_2).f0), .string ((rd_T84 l1 x28_2).f1)]) (ok:=fun _=>True) (okp:=fun _=>True) D16 (by exact (Reps.c2 (show Kd.M k84 _ _ _ (⟨(rd_T84 l1 x28_2).f0,(rd_T84 l1 x28_2).f1⟩:S84) [.int .i64 ((rd_T84 l1 x28_2).f0), .string ((rd_T84 l1 x28_2).f1)] from (k84_mkM _ _ _ (⟨(rd_T84 l1 x28_2).f0,(rd_T84 l1 x28_2).f1⟩:S84) )) (Reps.none _ _))) (fun _ hk=>hk) trivial (Below.refl _ _) (Nat.le_refl _) D36 ?_;intro v423 w50 ho51 hb hg_ hnew_;clear hg_ hnew_;(first|rw [← Ny422.out] at ho51|(simp only [Int.reduceToNat] at ho51;rw [← Ny422.out] at ho51));replace HO_6:=eN HO_6 (Kd.R_base ho51) hb;replace HO_7:=eN HO_7 (Kd.R_base ho51) hb;replace HL414_0:=eV HL414_0 (Kd.R_base ho51) hb;replace HO417:=eN HO417 (Kd.R_base ho51) hb;replace HO420:=eN HO420 (Kd.R_base ho51) hb;have HO424:=am (Kd.R_lower (Kd.R_newB (Kd.R_new' ho51 (Kd.R_lt (yR HO_8))) (g:=gb410) (o:=.cells #[.int .i64 ((rd_T84 l1 x28_2).f0), .string ((rd_T84 l1 x28_2).f1)] 84 (0,0)) (yB BK410)) (pz (yW HB)));replace HO_8:=eR HO_8 (Kd.R_base ho51) hb;replace BK396:=yb BK396 hb;replace BK410:=yb BK410 hb;replace HB:=yH HB hb;clear hb ho51;obtain ⟨Ao53,co53,eo53⟩:=Kd.R_slice HO424.out;subst eo53)|((with_reducible refine gate_builtin (b:=.append) (xs:=#[.tmp 47, .tmp 49]) rfl ?_);at_builtin;refine Kd.R_append_rows k84 (w0:=w) w.heap.size rfl (.tmp 47) (.tmp 49) 87 84 (.agg #[(.int .i64 0),(.string ⟨#[]⟩)]) 24 rfl Try.underlying87 info84 rfl D4 D5 u8 x8_2 y422 _ _ _ (fun k_=>some k_ ≠ (.slice Ao53 y422.length co53:Value).ownBlock∧k_ ≠ gb410) (fun _=>False) rfl rfl (by exact (by refine sR ?_;exact Kd.R_mono HO_8.out (fun _ hk=>⟨hk.2,hk.1⟩))) (by repeat (first|exact (Kd.R_reads' HO424.out).2.2|(with_reducible refine Kd.C_alloc ?_ _)|(with_reducible refine Kd.C_drewN ?_ _)|(with_reducible refine Kd.C_drew ?_))) (fun _ _ h=>h) (fun _ h=>h.elim) (by exact (fun k_ hk=>⟨Kd.fresh' (Kd.R_lt (yR HO424)) k_ hk,yz BK410 k_ hk⟩)) D46 D26 (by have:=LMc33.out;omega) ?_;intro v426 w52 ho hb hg hat;rw [← Ny425.out] at ho;have n0_:=am (Kd.N_afterv (ok:=(fun k_=>some k_ ≠ (.slice Ao37 x7_2.length co37:Value).ownBlock∧some k_ ≠ (.slice Ao46 y415.length co46:Value).ownBlock∧some k_ ≠ (.slice Ao47 y418.length co47:Value).ownBlock∧some k_ ≠ (.slice Ao53 y422.length co53:Value).ownBlock∧k_ ≠ gb396∧k_ ≠ gb410)) (by refine sN ?_;exact Kd.N_mono HO_6.out (fun _ hk=>⟨⟨hk.1.1.1,⟨hk.1.1.2.2.1,⟨hk.1.2,⟨hk.2,⟨hk.1.1.2.2.2.1,hk.1.1.2.2.2.2⟩⟩⟩⟩⟩,hk.1.1.2.1⟩)) hg hat);have n1_:=am (Kd.N_afterv (ok:=(fun k_=>some k_ ≠ (.slice (some ad414) t400.length co40:Value).ownBlock∧some k_ ≠ (.slice Ao46 y415.length co46:Value).ownBlock∧some k_ ≠ (.slice Ao47 y418.length co47:Value).ownBlock∧some k_ ≠ (.slice Ao53 y422.length co53:Value).ownBlock∧k_ ≠ gb396∧k_ ≠ gb410)) (by refine sN ?_;exact Kd.N_mono HO_7.out (fun _ hk=>⟨⟨hk.1.1.1,⟨hk.1.1.2.2.1,⟨hk.1.2,⟨hk.2,⟨hk.1.1.2.2.2.1,hk.1.1.2.2.2.2⟩⟩⟩⟩⟩,hk.1.1.2.1⟩)) hg hat);have n2_:=am (blk_grown (g:=gb396) (o:=.cells #[.int .i64 a0_0, .int .i64 a0_1, .int .i64 a0_2] 51 (0,0)) (yB BK396) hg (Kd.R_ne HO_8.out BK396.out D4));have n3_:=am (blk_grown (g:=gb410) (o:=.cells #[.int .i64 ((rd_T84 l1 x28_2).f0), .string ((rd_T84 l1 x28_2).f1)] 84 (0,0)) (yB BK410) hg (Kd.R_away HO_8.out (fun _ hk=>hk.1)));have n4_:=am (Kd.V_afterv (ok:=(fun k_=>some k_ ≠ (.slice (some ad414) t400.length co40:Value).ownBlock∧some k_ ≠ (.slice Ao37 x7_2.length co37:Value).ownBlock∧some k_ ≠ (.slice Ao46 y415.length co46:Value).ownBlock∧some k_ ≠ (.slice Ao47 y418.length co47:Value).ownBlock∧some k_ ≠ (.slice Ao53 y422.length co53:Value).ownBlock∧k_ ≠ gb396∧k_ ≠ gb410)) (by refine sV ?_;exact Kd.V_mono HL414_0.out (fun _ hk=>⟨⟨hk.1.1.1,⟨hk.1.1.2.1,⟨hk.1.1.2.2.2.1,⟨hk.1.2,⟨hk.2,⟨hk.1.1.2.2.2.2.1,hk.1.1.2.2.2.2.2⟩⟩⟩⟩⟩⟩,hk.1.1.2.2.1⟩)) hg hat);have n5_:=am (Kd.N_afterv (ok:=(fun k_=>some k_ ≠ (.slice (some ad414) t400.length co40:Value).ownBlock∧some k_ ≠ (.slice Ao37 x7_2.length co37:Value).ownBlock∧some k_ ≠ (.slice Ao47 y418.length co47:Value).ownBlock∧some k_ ≠ (.slice Ao53 y422.length co53:Value).ownBlock∧k_ ≠ gb396∧k_ ≠ gb410)) (by refine sN ?_;exact Kd.N_mono HO417.out (fun _ hk=>⟨⟨hk.1.1.1,⟨hk.1.1.2.1,⟨hk.1.2,⟨hk.2,⟨hk.1.1.2.2.2.1,hk.1.1.2.2.2.2⟩⟩⟩⟩⟩,hk.1.1.2.2.1⟩)) hg hat);have n6_:=am (Kd.N_afterv (ok:=(fun k_=>some k_ ≠ (.slice (some ad414) t400.length co40:Value).ownBlock∧some k_ ≠ (.slice Ao53 y422.length co53:Value).ownBlock∧k_ ≠ gb396∧k_ ≠ gb410)) (by refine sN ?_;exact Kd.N_mono HO420.out (fun _ hk=>⟨⟨hk.1.1,⟨hk.2,⟨hk.1.2.2.1,hk.1.2.2.2⟩⟩⟩,hk.1.2.1⟩)) hg hat);have n7_:=am (Kd.R_after (ok:=(fun k_=>k_ ≠ gb410)) (by refine sR ?_;exact Kd.R_mono HO424.out (fun _ hk=>⟨hk.2,hk.1.2⟩)) hg hat);have n8_:=am (hb);have n9_:=am (ho);clear HO_6 HO_7 BK396 BK410 HL414_0 HO417 HO420 HO424 HB HO_8;have HO_6:=n0_;have HO_7:=n1_;have BK396:=n2_;have BK410:=n3_;have HL414_0:=n4_;have HO417:=n5_;have HO420:=n6_;have HO424:=n7_;have HB:=n8_;have HO427:=n9_;clear n0_ n1_ n2_ n3_ n4_ n5_ n6_ n7_ n8_ n9_ ho hb hg hat))
       go_roundg k2
       case measure=>have:=HJ2.out;have:=HK2.out;omega
       case rel=>exact ⟨(y418),(y425),(wrap64 (x28_2+1)),D2,H',⟨D70⟩,⟨by refine sN ?_;exact Kd.N_mono HO_6.out (fun _ hk=>⟨hk.1.2.2.1,⟨hk.2,hk.1.2.2.2.2.1⟩⟩)⟩,⟨by refine sN ?_;exact Kd.N_mono HO420.out (fun _ hk=>⟨hk.1.1,⟨hk.2,hk.1.2.2.1⟩⟩)⟩,⟨by refine sR ?_;exact Kd.R_mono HO427.out (fun _ hk=>trivial)⟩,⟨yB BK396⟩,⟨yW HB⟩⟩
      rw [if_neg c32] at H
      have c32b0:(t421 == (y418.length:Int))=false:=beq_eq_false_iff_ne.mpr c32
      have c32b1:(t421 != (y418.length:Int))=true:=bne_iff_ne.mpr c32
      have H':=am H
      clear H
      have p409:0≤(x28_2:Int):=od D0
      have q409:x28_2 < (l1.length:Int):=od D0
      obtain ⟨ad409,e409,hx409_0,hx409_1⟩:=at_T84 HR1.out x28_2 p409 q409
      cases e409
      replace hx409_0:=(HB.out.cell (World.block_lt_of_cell? w _ hx409_0)).trans hx409_0
      replace hx409_1:=(HB.out.cell (World.block_lt_of_cell? w _ hx409_1)).trans hx409_1
      replace p409:=eq_true p409
      replace q409:=eq_true q409
      try go_wp2_with (first|((with_reducible refine gD 10 ?_);refine gB (cs:=#[.int .i64 0, .string (⟨#[]⟩:ByteArray)]) 84 ?_;intro gb410 hg w54 hbox hb;replace HO_6:=oN HO_6 hg hb;replace HO_7:=oN HO_7 hg hb;replace HO_8:=oR HO_8 hg hb;have BK410:=am (hbox);have GW410:=ye HB hg;replace HB:=yH HB hb;have NB396_410:=yl BK396 hg;have NB410_396:=yg BK396 hg;replace BK396:=yb BK396 hb;have GE410:=GW410;clear hb hbox hg;have hnb55:=NB410_396.out;have hnc55:=NB396_410.out;obtain ⟨hcz56_0,hcz56_1,hfz56_0,hfz56_1⟩:=yk2 BK410;obtain ⟨Ao57,co57,eo57⟩:=Kd.N_slice HO_7.out;subst eo57))
      generalize hw_:((w54.setCell ⟨gb410,0,none⟩ (.int .i64 ((rd_T84 l1 x28_2).f0))).setCell ⟨gb410,1,none⟩ (.string ((rd_T84 l1 x28_2).f1)))=w58
      replace HO_6:Aside0 (Kd.N (Kd.slice 5 (Kd.int .u8)) 57 w58 w.heap.size (fun k_=>some k_ ≠ (.slice Ao57 x7_2.length co57:Value).ownBlock∧some k_ ≠ (u8:Value).ownBlock∧k_ ≠ gb396∧k_ ≠ gb410) v401 t400):=⟨D31⟩
      replace HO_7:Aside0 (Kd.N (Kd.slice 5 (Kd.int .u8)) 57 w58 w.heap.size (fun k_=>some k_ ≠ (v401:Value).ownBlock∧some k_ ≠ (u8:Value).ownBlock∧k_ ≠ gb396∧k_ ≠ gb410) (.slice Ao57 x7_2.length co57) x7_2):=⟨D30⟩
      replace HO_8:Aside0 (Kd.R k84 84 w58 w.heap.size (fun k_=>k_ ≠ gb410) u8 x8_2):=⟨D39⟩
      replace BK396:Aside0 (w58.heap[gb396]? = some (.cells #[.int .i64 a0_0, .int .i64 a0_1, .int .i64 a0_2] 51 (0,0))):=⟨by rw [← hw_];exact yF BK396⟩
      replace BK410:Aside0 (w58.heap[gb410]? = some (.cells #[.int .i64 ((rd_T84 l1 x28_2).f0), .string ((rd_T84 l1 x28_2).f1)] 84 (0,0))):=⟨D48⟩
      replace HB:Aside0 (Below w.heap.size w w58):=⟨D41⟩
      clear hw_
      replace HO_6:=am (Kd.N_drew HO_6.out)
      replace HO_7:=am (Kd.N_drew HO_7.out)
      replace HO_8:=am (Kd.R_drew HO_8.out)
      replace BK396:=am (qd BK396.out)
      replace BK410:=am (qd BK410.out)
      replace HB:=am (pd HB.out)
      obtain ⟨Ao60,co60,eo60⟩:=Kd.N_slice HO_6.out
      (first|subst eo60|(injection eo60 with f1_ f2_ f3_;have f4_:=f1_.symm;have f5_:=f3_.symm;clear f1_ f2_ f3_;subst f4_;subst f5_))
      have p414:0≤(((rd_T84 l1 x28_2).f0):Int):=od D0
      have q414:((rd_T84 l1 x28_2).f0) < (t400.length:Int):=od D0
      obtain ⟨ad414,A414_0,c414_0,e414,hx414_0,hl414_0,hi414_0⟩:=at_L1 (Kd.N_reads' HO_6.out).2.2 ((rd_T84 l1 x28_2).f0) p414 q414
      cases e414
      obtain ⟨ce414,hce414,hMe414,hcc414⟩:=Kd.N_get HO_6.out [] ((rd_T84 l1 x28_2).f0) p414 (by first|exact q414|exact od D0|(have e_:=(Kd.N_reads' HO_6.out).1;omega))
      obtain ⟨ua414_0,uc414_0,rfl,ul414_0,ge414_0⟩:=Kd.FK_slice_open hMe414
      have hv414_0:=hcc414 0 _ rfl
      rw [Nat.add_zero,show ((Kd.slice 5 (Kd.int .u8))).sz=1 from rfl,Nat.mul_one] at hv414_0
      replace hv414_0:=Option.some.inj (hv414_0.symm.trans hx414_0)
      injection hv414_0 with hva_ hvn_ hvc_
      rw [hva_] at ge414_0
      rw [hvc_] at ul414_0
      have HL414_0:=am (show Kd.V (Kd.int .u8) 5 _ w.heap.size _ _ (rd_L1 t400 ((rd_T84 l1 x28_2).f0)) from Kd.V_mk ul414_0 ge414_0)
      clear hva_ hvn_ hvc_ ge414_0 ul414_0
      clear hcc414 hce414
      have HR414_0:=am hi414_0
      have HC414_0:=am hl414_0
      clear hi414_0 hl414_0
      replace p414:=eq_true p414
      replace q414:=eq_true q414
      refine start_ (n:=10) (S:=fun w'=>w'.cell? ⟨gb410,0,none⟩=some (.int .i64 ((rd_T84 l1 x28_2).f0))∧w'.cell? ⟨gb410,1,none⟩=some (.string ((rd_T84 l1 x28_2).f1))∧w'.cell? (ad414.add (((rd_T84 l1 x28_2).f0)).toNat)=some (.slice A414_0 (rd_L1 t400 ((rd_T84 l1 x28_2).f0)).length c414_0)) (ds:=[8]) #[Z,Z,Z,Z,Z,Z,Z,Z,Z,Z] D3 rfl rfl ⟨yk BK410 0,yk BK410 1,hx414_0⟩ (fun hHeld=>?_);refine with_tabW impl_DecodeLocal.tab8 impl_DecodeLocal.bits8 (fun HT_ HW_=>?_)
      generalize w58.drew=w59 at HO_6 HO_7 HO_8 BK396 BK410 HB HL414_0 HR414_0 hx414_0 hHeld ⊢
      refine pure_ (i:=0) (N:=some 32) (v:=?_) (a':=?_) #[Y,Z,Z,Z,Z,Z,Z,Z,Z,Z] rfl rfl (any_of HT_.out D3) hh (Or.inl ⟨D11,?_⟩) ?_ ?_
      rotate_left
      ·intro w'
       go_simp
       with_reducible rfl
      rotate_left
      ·simp only [Act.put,q1,q2,q3,i64_w,i32_w]
       rfl
      refine pure_ (i:=2) (N:=some 34) (v:=?_) (a':=?_) #[Y,Z,Y,Z,Z,Z,Z,Z,Z,Z] rfl rfl (any_of HT_.out D3) hh (Or.inl ⟨D11,?_⟩) ?_ ?_
      rotate_left
      ·intro w'
       go_simp
       with_reducible rfl
      rotate_left
      ·simp only [Act.put,q1,q2,q3,i64_w,i32_w]
       rfl
      refine pure_ (i:=3) (N:=some 35) (v:=?_) (a':=?_) #[Y,Z,Y,Y,Z,Z,Z,Z,Z,Z] rfl rfl (any_of HT_.out D3) hh (Or.inl ⟨D11,?_⟩) ?_ ?_
      rotate_left
      ·intro w'
       go_simp
       with_reducible rfl
      rotate_left
      ·simp only [Act.put,q1,q2,q3,i64_w,i32_w]
       rfl
      refine take_ (i:=4) (N:=some 36) (v:=?_) (a':=?_) #[Y,Z,Y,Y,Y,Z,Z,Z,Z,Z] rfl rfl (take_ofW HT_.out HW_.out D3) hh (Or.inl ⟨D11,?_⟩) hHeld ?_ ?_
      rotate_left
      ·rintro w' ⟨s0,s1,s2⟩
       go_simp
       with_reducible rfl
      rotate_left
      ·simp only [Act.put,q1,q2,q3,i64_w,i32_w]
       rfl
      refine pure_ (i:=5) (N:=some 37) (v:=?_) (a':=?_) #[Y,Z,Y,Y,Y,Y,Z,Z,Z,Z] rfl rfl (any_of HT_.out D3) hh (Or.inl ⟨D11,?_⟩) ?_ ?_
      rotate_left
      ·intro w'
       go_simp
       with_reducible rfl
      rotate_left
      ·simp only [Act.put,q1,q2,q3,i64_w,i32_w]
       rfl
      refine take_ (i:=6) (N:=some 38) (v:=?_) (a':=?_) #[Y,Z,Y,Y,Y,Y,Y,Z,Z,Z] rfl rfl (take_ofW HT_.out HW_.out D3) hh (Or.inl ⟨D11,?_⟩) hHeld ?_ ?_
      rotate_left
      ·rintro w' ⟨s0,s1,s2⟩
       go_simp
       with_reducible rfl
      rotate_left
      ·simp only [Act.put,q1,q2,q3,i64_w,i32_w]
       rfl
      refine join_ (σ:=Value × Value) 2 #[Y,Y,Y,Y,Y,Y,Y,Y,Z,Z] (fun s_=>[(33,s_.1),(39,s_.2)]) (fun s_ w'=>(w'.cell? ⟨gb410,0,none⟩=some (.int .i64 ((rd_T84 l1 x28_2).f0))∧w'.cell? ⟨gb410,1,none⟩=some (.string ((rd_T84 l1 x28_2).f1))∧w'.cell? (ad414.add (((rd_T84 l1 x28_2).f0)).toNat)=some (.slice A414_0 (rd_L1 t400 ((rd_T84 l1 x28_2).f0)).length c414_0))∧(Kd.V (Kd.int .u8) 5 w' w.heap.size (fun k_=>some k_ ≠ (s_.1:Value).ownBlock∧some k_ ≠ (s_.2:Value).ownBlock∧some k_ ≠ (.slice (some ad414) t400.length co60:Value).ownBlock∧some k_ ≠ (.slice Ao57 x7_2.length co57:Value).ownBlock∧some k_ ≠ (u8:Value).ownBlock∧k_ ≠ gb396∧k_ ≠ gb410) (.slice A414_0 (rd_L1 t400 ((rd_T84 l1 x28_2).f0)).length c414_0) (rd_L1 t400 ((rd_T84 l1 x28_2).f0)))∧(Kd.N (Kd.slice 5 (Kd.int .u8)) 57 w' w.heap.size (fun k_=>some k_ ≠ (s_.2:Value).ownBlock∧some k_ ≠ (.slice (some ad414) t400.length co60:Value).ownBlock∧some k_ ≠ (u8:Value).ownBlock∧k_ ≠ gb396∧k_ ≠ gb410) s_.1 t411)∧(Kd.N (Kd.slice 5 (Kd.int .u8)) 57 w' w.heap.size (fun k_=>some k_ ≠ (s_.1:Value).ownBlock∧some k_ ≠ (.slice (some ad414) t400.length co60:Value).ownBlock∧some k_ ≠ (.slice Ao57 x7_2.length co57:Value).ownBlock∧some k_ ≠ (u8:Value).ownBlock∧k_ ≠ gb396∧k_ ≠ gb410) s_.2 y415)∧(Kd.N (Kd.slice 5 (Kd.int .u8)) 57 w' w.heap.size (fun k_=>some k_ ≠ (s_.1:Value).ownBlock∧some k_ ≠ (s_.2:Value).ownBlock∧some k_ ≠ (.slice Ao57 x7_2.length co57:Value).ownBlock∧some k_ ≠ (u8:Value).ownBlock∧k_ ≠ gb396∧k_ ≠ gb410) (.slice (some ad414) t400.length co60) t400)∧(Kd.N (Kd.slice 5 (Kd.int .u8)) 57 w' w.heap.size (fun k_=>some k_ ≠ (s_.1:Value).ownBlock∧some k_ ≠ (s_.2:Value).ownBlock∧some k_ ≠ (.slice (some ad414) t400.length co60:Value).ownBlock∧some k_ ≠ (u8:Value).ownBlock∧k_ ≠ gb396∧k_ ≠ gb410) (.slice Ao57 x7_2.length co57) x7_2)∧(Kd.R k84 84 w' w.heap.size (fun k_=>k_ ≠ gb410) u8 x8_2)∧(w'.heap[gb396]? = some (.cells #[.int .i64 a0_0, .int .i64 a0_1, .int .i64 a0_2] 51 (0,0)))∧(w'.heap[gb410]? = some (.cells #[.int .i64 ((rd_T84 l1 x28_2).f0), .string ((rd_T84 l1 x28_2).f1)] 84 (0,0)))∧(Below w.heap.size w w')) ?_ ?_
      rotate_left
      ·intro hCont
       refine two_ (i:=1) (j:=7) (Ni:=some 33) (Nj:=some 39) #[Y,Y,Y,Y,Y,Y,Y,Z,Z,Z] #[Y,Z,Y,Y,Y,Y,Y,Y,Z,Z] rfl rfl rfl rfl (two_of HT_.out D3) D4 D4 (fun K hK=>?_) (fun K hK=>?_)
       ·skip
        refine goes_ Try.func158 D3 rfl #[.slice Ao57 x7_2.length co57] D11 rfl rfl D8 ?_
        with_reducible refine (slices_Clone_byte_byte_SS.calls (fun k_=>(some k_ ≠ (.slice (some ad414) t400.length co60:Value).ownBlock∧(some k_ ≠ (u8:Value).ownBlock∧(k_ ≠ gb396∧k_ ≠ gb410)))) _ _ x7_2 t411 _ (Kd.N_V (HO_7.out)) A27.out).mono ?_
        rintro e w61 ⟨v412,rfl,ho0,hb⟩
        have HS2_:=(hb.cell (World.block_lt_of_cell? _ _ (hHeld.2.2))).trans (hHeld.2.2)
        refine ⟨_,rfl,?_⟩
        replace HO_7:=eN HO_7 D7 hb
        replace HL414_0:=eV HL414_0 D7 hb
        have HO413:=am (Kd.N_lower (Kd.N_mono (ok':=fun k_=>some k_ ≠ (.slice (some ad414) t400.length co60:Value).ownBlock∧some k_ ≠ (u8:Value).ownBlock∧k_ ≠ gb396∧k_ ≠ gb410) ho0 (fun k_ hk_=>⟨Or.elim hk_ (fun hs_=>hs_.1) (fun hn_=>(Kd.fresh' (Kd.N_lt (yN HO_6)) k_ hn_)),Or.elim hk_ (fun hs_=>hs_.2.1) (fun hn_=>(Kd.fresh' (Kd.R_lt (yR HO_8)) k_ hn_)),Or.elim hk_ (fun hs_=>hs_.2.2.1) (fun hn_=>(yz BK396 k_ hn_)),Or.elim hk_ (fun hs_=>hs_.2.2.2) (fun hn_=>(yz BK410 k_ hn_))⟩)) (pz (yW HB)))
        replace HO_6:=eN HO_6 D7 hb
        replace HO_8:=bR HO_8 hb
        replace BK396:=yb BK396 hb
        replace BK410:=yb BK410 hb
        replace HR414_0:=am (Kd.C_below D12 hb)
        replace HB:=yH HB hb
        (try clear hb)
        (try clear hb2)
        (try clear hk)
        (try clear hi)
        (try clear ho0)
        refine hK.out _ _ ⟨yk BK410 0,yk BK410 1,HS2_⟩ (fun hHeld=>?_)
        clear hK K
        refine norm_ (a':=?_) ?_ ?_
        rotate_left
        ·show Act.put _ (some 33) _=_
         simp only [Act.put,q1,q2,q3,i64_w,i32_w]
         rfl
        refine one_ (i:=7) (N:=some 39) #[Y,Y,Y,Y,Y,Y,Y,Y,Z,Z] rfl rfl (one_of HT_.out D3) D4 (fun K hK=>?_)
        refine Kd.N_lit_step (Kd.slice 5 (Kd.int .u8)) _ 57 ?hg (N':=39) ?hd (xs:=([rd_L1 t400 ((rd_T84 l1 x28_2).f0)]:List (List Int))) (inner:=[.slice A414_0 (rd_L1 t400 ((rd_T84 l1 x28_2).f0)).length c414_0]) (ok:=(fun k_=>some k_ ≠ (.slice (some ad414) t400.length co60:Value).ownBlock∧some k_ ≠ (.slice Ao57 x7_2.length co57:Value).ownBlock∧some k_ ≠ (u8:Value).ownBlock∧some k_ ≠ (v412:Value).ownBlock∧k_ ≠ gb396∧k_ ≠ gb410)) (okp:=(fun k_=>some k_ ≠ (.slice (some ad414) t400.length co60:Value).ownBlock∧some k_ ≠ (.slice Ao57 x7_2.length co57:Value).ownBlock∧some k_ ≠ (u8:Value).ownBlock∧some k_ ≠ (v412:Value).ownBlock∧k_ ≠ gb396∧k_ ≠ gb410)) ?hr ?hp (fun _ hk=>hk) ((show ∀ k_,w61.heap.size≤k_→(fun k_=>some k_ ≠ (.slice (some ad414) t400.length co60:Value).ownBlock∧some k_ ≠ (.slice Ao57 x7_2.length co57:Value).ownBlock∧some k_ ≠ (u8:Value).ownBlock∧some k_ ≠ (v412:Value).ownBlock∧k_ ≠ gb396∧k_ ≠ gb410) k_ from fun k_ hk=>⟨Kd.fresh' (Kd.N_lt (yN HO_6)) k_ hk,Kd.fresh' (Kd.N_lt (yN HO_7)) k_ hk,Kd.fresh' (Kd.R_lt (yR HO_8)) k_ hk,Kd.fresh' (Kd.N_lt (yN HO413)) k_ hk,yz BK396 k_ hk,yz BK410 k_ hk⟩) _ (Nat.le_refl _)) (Below.refl _ _) (Nat.le_refl _) D36 ?_;(case hd=>rfl);(case hg=>rfl);(case hr=>first|(go_simp;done)|(go_simp;rfl));(case hp=>exact (Reps.one (show Kd.FK (Kd.slice 5 (Kd.int .u8)) _ _ (rd_L1 t400 ((rd_T84 l1 x28_2).f0)) [.slice A414_0 (rd_L1 t400 ((rd_T84 l1 x28_2).f0)).length c414_0] from (Kd.FK_slice_mk (Kd.V_reads' (Kd.V_mono (ok':=(fun k_=>some k_ ≠ (.slice (some ad414) t400.length co60:Value).ownBlock∧some k_ ≠ (.slice Ao57 x7_2.length co57:Value).ownBlock∧some k_ ≠ (u8:Value).ownBlock∧some k_ ≠ (v412:Value).ownBlock∧k_ ≠ gb396∧k_ ≠ gb410)) (HL414_0.out) (fun k_ hk=>⟨hk.1.2,⟨hk.1.1.1,⟨hk.1.1.2.1,⟨hk.2,⟨hk.1.1.2.2.1,hk.1.1.2.2.2⟩⟩⟩⟩⟩))).2.1 (Kd.V_F (Kd.V_mono (ok':=(fun k_=>some k_ ≠ (.slice (some ad414) t400.length co60:Value).ownBlock∧some k_ ≠ (.slice Ao57 x7_2.length co57:Value).ownBlock∧some k_ ≠ (u8:Value).ownBlock∧some k_ ≠ (v412:Value).ownBlock∧k_ ≠ gb396∧k_ ≠ gb410)) (HL414_0.out) (fun k_ hk=>⟨hk.1.2,⟨hk.1.1.1,⟨hk.1.1.2.1,⟨hk.2,⟨hk.1.1.2.2.1,hk.1.1.2.2.2⟩⟩⟩⟩⟩))))) (Reps.none _ _)))
        intro v416 w62 ho63 hb hg_ hnew_
        have HS2_:=(hb.cell (World.block_lt_of_cell? _ _ (hHeld.2.2))).trans (hHeld.2.2)
        clear hg_ hnew_
        (first|rw [← Ny415.out] at ho63|(simp only [Int.reduceToNat] at ho63;rw [← Ny415.out] at ho63))
        replace HO_6:=eN HO_6 (Kd.N_base ho63) hb
        replace HO_7:=eN HO_7 (Kd.N_base ho63) hb
        replace HO_8:=bR HO_8 hb
        replace HL414_0:=eV HL414_0 (Kd.N_base ho63) hb
        replace HO413:=eN HO413 (Kd.N_base ho63) hb
        have HO417:=am (Kd.N_lower ho63 (pz (yW HB)))
        replace BK396:=yb BK396 hb
        replace BK410:=yb BK410 hb
        replace HR414_0:=am (Kd.C_below D12 hb)
        replace HB:=yH HB hb
        clear hb ho63
        refine hK.out _ _ ⟨yk BK410 0,yk BK410 1,HS2_⟩ (fun hHeld=>?_)
        clear hK K
        refine norm_ (a':=?_) ?_ ?_
        rotate_left
        ·show Act.put _ (some 39) _=_
         simp only [Act.put,q1,q2,q3,i64_w,i32_w]
         rfl
        exact norm_ D24 (hCont (v412,v416) _ ⟨hHeld,D53,D73,D60,D68,D65,(yR HO_8),(yB BK396),(yB BK410),(yW HB)⟩)
       skip
       refine Kd.N_lit_step (Kd.slice 5 (Kd.int .u8)) _ 57 ?hg (N':=39) ?hd (xs:=([rd_L1 t400 ((rd_T84 l1 x28_2).f0)]:List (List Int))) (inner:=[.slice A414_0 (rd_L1 t400 ((rd_T84 l1 x28_2).f0)).length c414_0]) (ok:=(fun k_=>some k_ ≠ (.slice (some ad414) t400.length co60:Value).ownBlock∧some k_ ≠ (.slice Ao57 x7_2.length co57:Value).ownBlock∧some k_ ≠ (u8:Value).ownBlock∧k_ ≠ gb396∧k_ ≠ gb410)) (okp:=(fun k_=>some k_ ≠ (.slice (some ad414) t400.length co60:Value).ownBlock∧some k_ ≠ (.slice Ao57 x7_2.length co57:Value).ownBlock∧some k_ ≠ (u8:Value).ownBlock∧k_ ≠ gb396∧k_ ≠ gb410)) ?hr ?hp (fun _ hk=>hk) ((show ∀ k_,w59.heap.size≤k_→(fun k_=>some k_ ≠ (.slice (some ad414) t400.length co60:Value).ownBlock∧some k_ ≠ (.slice Ao57 x7_2.length co57:Value).ownBlock∧some k_ ≠ (u8:Value).ownBlock∧k_ ≠ gb396∧k_ ≠ gb410) k_ from fun k_ hk=>⟨Kd.fresh' (Kd.N_lt (yN HO_6)) k_ hk,Kd.fresh' (Kd.N_lt (yN HO_7)) k_ hk,Kd.fresh' (Kd.R_lt (yR HO_8)) k_ hk,yz BK396 k_ hk,yz BK410 k_ hk⟩) _ (Nat.le_refl _)) (Below.refl _ _) (Nat.le_refl _) D36 ?_;(case hd=>rfl);(case hg=>rfl);(case hr=>first|(go_simp;done)|(go_simp;rfl));(case hp=>exact (Reps.one (show Kd.FK (Kd.slice 5 (Kd.int .u8)) _ _ (rd_L1 t400 ((rd_T84 l1 x28_2).f0)) [.slice A414_0 (rd_L1 t400 ((rd_T84 l1 x28_2).f0)).length c414_0] from (Kd.FK_slice_mk (Kd.V_reads' (Kd.V_mono (ok':=(fun k_=>some k_ ≠ (.slice (some ad414) t400.length co60:Value).ownBlock∧some k_ ≠ (.slice Ao57 x7_2.length co57:Value).ownBlock∧some k_ ≠ (u8:Value).ownBlock∧k_ ≠ gb396∧k_ ≠ gb410)) (HL414_0.out) (fun k_ hk=>⟨hk.2,⟨hk.1.1,⟨hk.1.2.1,⟨hk.1.2.2.1,hk.1.2.2.2⟩⟩⟩⟩))).2.1 (Kd.V_F (Kd.V_mono (ok':=(fun k_=>some k_ ≠ (.slice (some ad414) t400.length co60:Value).ownBlock∧some k_ ≠ (.slice Ao57 x7_2.length co57:Value).ownBlock∧some k_ ≠ (u8:Value).ownBlock∧k_ ≠ gb396∧k_ ≠ gb410)) (HL414_0.out) (fun k_ hk=>⟨hk.2,⟨hk.1.1,⟨hk.1.2.1,⟨hk.1.2.2.1,hk.1.2.2.2⟩⟩⟩⟩))))) (Reps.none _ _)))
       intro v416 w61 ho62 hb hg_ hnew_
       have HS2_:=(hb.cell (World.block_lt_of_cell? _ _ (hHeld.2.2))).trans (hHeld.2.2)
       clear hg_ hnew_
       (first|rw [← Ny415.out] at ho62|(simp only [Int.reduceToNat] at ho62;rw [← Ny415.out] at ho62))
       replace HO_6:=eN HO_6 (Kd.N_base ho62) hb
       replace HO_7:=eN HO_7 (Kd.N_base ho62) hb
       replace HO_8:=bR HO_8 hb
       replace HL414_0:=eV HL414_0 (Kd.N_base ho62) hb
       have HO417:=am (Kd.N_lower ho62 (pz (yW HB)))
       replace BK396:=yb BK396 hb
       replace BK410:=yb BK410 hb
       replace HR414_0:=am (Kd.C_below D12 hb)
       replace HB:=yH HB hb
       clear hb ho62
       refine hK.out _ _ ⟨yk BK410 0,yk BK410 1,HS2_⟩ (fun hHeld=>?_)
       clear hK K
       refine norm_ (a':=?_) ?_ ?_
       rotate_left
       ·show Act.put _ (some 39) _=_
        simp only [Act.put,q1,q2,q3,i64_w,i32_w]
        rfl
       refine one_ (i:=1) (N:=some 33) #[Y,Y,Y,Y,Y,Y,Y,Y,Z,Z] rfl rfl (one_of HT_.out D3) D4 (fun K hK=>?_)
       refine goes_ Try.func158 D3 rfl #[.slice Ao57 x7_2.length co57] D11 rfl rfl D8 ?_
       with_reducible refine (slices_Clone_byte_byte_SS.calls (fun k_=>((some k_ ≠ (.slice (some ad414) t400.length co60:Value).ownBlock∧(some k_ ≠ (u8:Value).ownBlock∧(k_ ≠ gb396∧k_ ≠ gb410)))∧some k_ ≠ (v416:Value).ownBlock)) _ _ x7_2 t411 _ (Kd.N_V (HO_7.out)) A27.out).mono ?_
       rintro e w63 ⟨v412,rfl,ho0,hb⟩
       have HS2_:=(hb.cell (World.block_lt_of_cell? _ _ (hHeld.2.2))).trans (hHeld.2.2)
       refine ⟨_,rfl,?_⟩
       replace HO_7:=eN HO_7 D7 hb
       replace HL414_0:=eV HL414_0 D7 hb
       have HO413:=am (Kd.N_lower (Kd.N_mono (ok':=fun k_=>some k_ ≠ (.slice (some ad414) t400.length co60:Value).ownBlock∧some k_ ≠ (u8:Value).ownBlock∧some k_ ≠ (v416:Value).ownBlock∧k_ ≠ gb396∧k_ ≠ gb410) ho0 (fun k_ hk_=>⟨Or.elim hk_ (fun hs_=>hs_.1.1) (fun hn_=>(Kd.fresh' (Kd.N_lt (yN HO_6)) k_ hn_)),Or.elim hk_ (fun hs_=>hs_.1.2.1) (fun hn_=>(Kd.fresh' (Kd.R_lt (yR HO_8)) k_ hn_)),Or.elim hk_ (fun hs_=>hs_.2) (fun hn_=>(Kd.fresh' (Kd.N_lt (yN HO417)) k_ hn_)),Or.elim hk_ (fun hs_=>hs_.1.2.2.1) (fun hn_=>(yz BK396 k_ hn_)),Or.elim hk_ (fun hs_=>hs_.1.2.2.2) (fun hn_=>(yz BK410 k_ hn_))⟩)) (pz (yW HB)))
       replace HO_6:=eN HO_6 D7 hb
       replace HO_8:=bR HO_8 hb
       replace HO417:=eN HO417 D7 hb
       replace BK396:=yb BK396 hb
       replace BK410:=yb BK410 hb
       replace HR414_0:=am (Kd.C_below D12 hb)
       replace HB:=yH HB hb
       (try clear hb)
       (try clear hb2)
       (try clear hk)
       (try clear hi)
       (try clear ho0)
       refine hK.out _ _ ⟨yk BK410 0,yk BK410 1,HS2_⟩ (fun hHeld=>?_)
       clear hK K
       refine norm_ (a':=?_) ?_ ?_
       rotate_left
       ·show Act.put _ (some 33) _=_
        simp only [Act.put,q1,q2,q3,i64_w,i32_w]
        rfl
       exact norm_ D24 (hCont (v412,v416) _ ⟨hHeld,D52,D72,D61,D67,D64,(yR HO_8),(yB BK396),(yB BK410),(yW HB)⟩)
      rintro ⟨v412,v416⟩ w64 ⟨hS_,h0_,h1_,h2_,h3_,h4_,h5_,h6_,h7_,h8_⟩
      have n0_:Aside0 (Kd.V (Kd.int .u8) 5 w64 w.heap.size (fun k_=>some k_ ≠ (v412:Value).ownBlock∧some k_ ≠ (v416:Value).ownBlock∧some k_ ≠ (.slice (some ad414) t400.length co60:Value).ownBlock∧some k_ ≠ (.slice Ao57 x7_2.length co57:Value).ownBlock∧some k_ ≠ (u8:Value).ownBlock∧k_ ≠ gb396∧k_ ≠ gb410) (.slice A414_0 (rd_L1 t400 ((rd_T84 l1 x28_2).f0)).length c414_0) (rd_L1 t400 ((rd_T84 l1 x28_2).f0))):=⟨h0_⟩
      have n1_:Aside0 (Kd.N (Kd.slice 5 (Kd.int .u8)) 57 w64 w.heap.size (fun k_=>some k_ ≠ (v416:Value).ownBlock∧some k_ ≠ (.slice (some ad414) t400.length co60:Value).ownBlock∧some k_ ≠ (u8:Value).ownBlock∧k_ ≠ gb396∧k_ ≠ gb410) v412 t411):=⟨h1_⟩
      have n2_:Aside0 (Kd.N (Kd.slice 5 (Kd.int .u8)) 57 w64 w.heap.size (fun k_=>some k_ ≠ (v412:Value).ownBlock∧some k_ ≠ (.slice (some ad414) t400.length co60:Value).ownBlock∧some k_ ≠ (.slice Ao57 x7_2.length co57:Value).ownBlock∧some k_ ≠ (u8:Value).ownBlock∧k_ ≠ gb396∧k_ ≠ gb410) v416 y415):=⟨h2_⟩
      have n3_:Aside0 (Kd.N (Kd.slice 5 (Kd.int .u8)) 57 w64 w.heap.size (fun k_=>some k_ ≠ (v412:Value).ownBlock∧some k_ ≠ (v416:Value).ownBlock∧some k_ ≠ (.slice Ao57 x7_2.length co57:Value).ownBlock∧some k_ ≠ (u8:Value).ownBlock∧k_ ≠ gb396∧k_ ≠ gb410) (.slice (some ad414) t400.length co60) t400):=⟨h3_⟩
      have n4_:Aside0 (Kd.N (Kd.slice 5 (Kd.int .u8)) 57 w64 w.heap.size (fun k_=>some k_ ≠ (v412:Value).ownBlock∧some k_ ≠ (v416:Value).ownBlock∧some k_ ≠ (.slice (some ad414) t400.length co60:Value).ownBlock∧some k_ ≠ (u8:Value).ownBlock∧k_ ≠ gb396∧k_ ≠ gb410) (.slice Ao57 x7_2.length co57) x7_2):=⟨h4_⟩
      have n5_:Aside0 (Kd.R k84 84 w64 w.heap.size (fun k_=>k_ ≠ gb410) u8 x8_2):=⟨h5_⟩
      have n6_:Aside0 (w64.heap[gb396]? = some (.cells #[.int .i64 a0_0, .int .i64 a0_1, .int .i64 a0_2] 51 (0,0))):=⟨h6_⟩
      have n7_:Aside0 (w64.heap[gb410]? = some (.cells #[.int .i64 ((rd_T84 l1 x28_2).f0), .string ((rd_T84 l1 x28_2).f1)] 84 (0,0))):=⟨h7_⟩
      have n8_:Aside0 (Below w.heap.size w w64):=⟨h8_⟩
      clear HO_6
      clear HO_7
      clear HO_8
      clear BK396
      clear BK410
      clear HB
      clear h0_ h1_ h2_ h3_ h4_ h5_ h6_ h7_ h8_
      have HL414_0:=n0_
      have HO413:=n1_
      have HO417:=n2_
      have HO_6:=n3_
      have HO_7:=n4_
      have HO_8:=n5_
      have BK396:=n6_
      have BK410:=n7_
      have HB:=n8_
      clear n0_ n1_ n2_ n3_ n4_ n5_ n6_ n7_ n8_
      have hHeld:w64.cell? ⟨gb410,0,none⟩=some (.int .i64 ((rd_T84 l1 x28_2).f0))∧w64.cell? ⟨gb410,1,none⟩=some (.string ((rd_T84 l1 x28_2).f1))∧w64.cell? (ad414.add (((rd_T84 l1 x28_2).f0)).toNat)=some (.slice A414_0 (rd_L1 t400 ((rd_T84 l1 x28_2).f0)).length c414_0):=hS_
      obtain ⟨Ao66,co66,eo66⟩:=Kd.N_slice HO417.out
      (first|subst eo66|(injection eo66 with f1_ f2_ f3_;have f4_:=f1_.symm;have f5_:=f3_.symm;clear f1_ f2_ f3_;subst f4_;subst f5_))
      refine norm_ (a':=?_) ?_ ?_
      rotate_left
      ·simp only [putAll,Act.put,q1,q2,q3]
       rfl
      refine last_ (i:=8) (N:=some 40) #[Y,Y,Y,Y,Y,Y,Y,Y,Y,Z] rfl rfl (one_of HT_.out D3) D4 (fun K hK=>?_)
      refine Kd.N_append_rows_step (Kd.slice 5 (Kd.int .u8)) (w0:=w) w.heap.size D11 (.tmp 33) (.tmp 39) 37 57 (.slice none 0 0) 24 rfl Try.underlying37 info57 rfl D4 D5 v412 t411 y415 _ _ _ (fun k_=>some k_ ≠ (.slice (some ad414) t400.length co60:Value).ownBlock∧some k_ ≠ (u8:Value).ownBlock∧k_ ≠ gb396∧k_ ≠ gb410) (fun k_=>((fun k_=>some k_ ≠ (.slice (some ad414) t400.length co60:Value).ownBlock∧some k_ ≠ (u8:Value).ownBlock∧k_ ≠ gb396∧k_ ≠ gb410)) k_∧some k_ ≠ (v412:Value).ownBlock) rfl rfl ?aO ?aR (fun _ hk=>hk) ?aF ?aB ?aS ?aL ?_
      (case aR=>exact (by skip;exact Kd.N_F (Kd.N_mono (ok':=(fun k_=>((fun k_=>some k_ ≠ (.slice (some ad414) t400.length co60:Value).ownBlock∧some k_ ≠ (u8:Value).ownBlock∧k_ ≠ gb396∧k_ ≠ gb410)) k_∧some k_ ≠ (v412:Value).ownBlock)) (HO417.out) (fun k_ hk=>⟨⟨hk.2.1,⟨hk.2.2.2.1,⟨hk.2.2.2.2.1,hk.2.2.2.2.2⟩⟩⟩,hk.1⟩))))
      (case aB=>exact (yW HB))
      (case aF=>exact (fun k_ hk=>⟨Kd.fresh' (Kd.N_lt (yN HO_6)) k_ hk,Kd.fresh' (Kd.R_lt (yR HO_8)) k_ hk,yz BK396 k_ hk,yz BK410 k_ hk⟩))
      (case aO=>exact D76)
      (case aS=>exact (pz (yW HB)))
      (case aL=>have:=LMc30.out;omega)
      intro v419 w65 ho hb hg hat
      rw [← Ny418.out] at ho
      have n0_:=am (Kd.N_afterv (ok:=(fun k_=>some k_ ≠ (.slice Ao57 x7_2.length co57:Value).ownBlock∧some k_ ≠ (u8:Value).ownBlock∧some k_ ≠ (.slice Ao66 y415.length co66:Value).ownBlock∧k_ ≠ gb396∧k_ ≠ gb410)) D66 hg hat)
      have n1_:=am (Kd.N_afterv (ok:=(fun k_=>some k_ ≠ (.slice (some ad414) t400.length co60:Value).ownBlock∧some k_ ≠ (u8:Value).ownBlock∧some k_ ≠ (.slice Ao66 y415.length co66:Value).ownBlock∧k_ ≠ gb396∧k_ ≠ gb410)) D63 hg hat)
      have n2_:=am (Kd.R_over' (yR HO_8) (Kd.N_typed (yN HO413)) D4 hg)
      have n3_:=am (blk_grown (g:=gb396) (o:=.cells #[.int .i64 a0_0, .int .i64 a0_1, .int .i64 a0_2] 51 (0,0)) (yB BK396) hg (Kd.N_ne HO413.out BK396.out D4))
      have n4_:=am (blk_grown (g:=gb410) (o:=.cells #[.int .i64 ((rd_T84 l1 x28_2).f0), .string ((rd_T84 l1 x28_2).f1)] 84 (0,0)) (yB BK410) hg (Kd.N_ne HO413.out BK410.out D4))
      have n5_:=am (Kd.V_afterv (ok:=(fun k_=>some k_ ≠ (.slice (some ad414) t400.length co60:Value).ownBlock∧some k_ ≠ (.slice Ao57 x7_2.length co57:Value).ownBlock∧some k_ ≠ (u8:Value).ownBlock∧some k_ ≠ (.slice Ao66 y415.length co66:Value).ownBlock∧k_ ≠ gb396∧k_ ≠ gb410)) D51 hg hat)
      have n6_:=am (Kd.N_afterv (ok:=(fun k_=>some k_ ≠ (.slice (some ad414) t400.length co60:Value).ownBlock∧some k_ ≠ (.slice Ao57 x7_2.length co57:Value).ownBlock∧some k_ ≠ (u8:Value).ownBlock∧k_ ≠ gb396∧k_ ≠ gb410)) D59 hg hat)
      have n7_:=am (hb)
      have n8_:=am (ho)
      clear HO_6
      clear HO_7
      clear HO_8
      clear BK396
      clear BK410
      clear HL414_0
      clear HO417
      clear HB
      clear HO413
      have HO_6:=n0_
      have HO_7:=n1_
      have HO_8:=n2_
      have BK396:=n3_
      have BK410:=n4_
      have HL414_0:=n5_
      have HO417:=n6_
      have HB:=n7_
      have HO420:=n8_
      clear n0_ n1_ n2_ n3_ n4_ n5_ n6_ n7_ n8_
      clear ho hb hg hat
      refine hK.out _ _ ?_
      clear hK K
      refine norm_ (a':=?_) ?_ ?_
      rotate_left
      ·show Act.put _ (some 40) _=_
       simp only [Act.put,q1,q2,q3,i64_w,i32_w]
       rfl
      refine pure_ (i:=9) (N:=some 11) (v:=?_) (a':=?_) #[Y,Y,Y,Y,Y,Y,Y,Y,Y,Y] rfl rfl (any_of HT_.out D3) hh (Or.inl ⟨D11,?_⟩) ?_ ?_
      rotate_left
      ·intro w'
       go_simp
       with_reducible rfl
      rotate_left
      ·simp only [Act.put,q1,q2,q3,i64_w,i32_w]
       rfl
      refine done_ (done_of HT_.out D3) ?_
      obtain ⟨Ao67,co67,eo67⟩:=Kd.N_slice HO420.out
      subst eo67
      try go_wp2_with (first|((with_reducible refine gC 106 ?_);refine gM (some 42) Try.func106 (args:=#[.slice Ao67 y418.length co67]) (impl_rankOf.calls _ _ y418 t421 _ (yc (Kd.N_reads' HO420.out).2.2) (Kd.N_reads' HO420.out).2.1 A31.out) ?_;rintro e w68 ⟨rfl,hb⟩;refine ⟨_,rfl,?_⟩;replace HO_6:=bN HO_6 hb;replace HO_7:=bN HO_7 hb;replace HO_8:=bR HO_8 hb;replace HL414_0:=bV HL414_0 hb;replace HO417:=bN HO417 hb;replace HO420:=bN HO420 hb;replace BK396:=yb BK396 hb;replace BK410:=yb BK410 hb;replace HB:=yH HB hb;clear hb))
      go_roundg k2
      case measure=>have:=HJ2.out;have:=HK2.out;omega
      case rel=>exact ⟨(x7_2),(x8_2),(wrap64 (x28_2+1)),D2,H',⟨D70⟩,⟨by refine sN ?_;exact Kd.N_mono HO_6.out (fun _ hk=>⟨hk.1.1,⟨hk.1.2.1,hk.1.2.2.2.1⟩⟩)⟩,⟨by refine sN ?_;exact Kd.N_mono HO_7.out (fun _ hk=>⟨hk.1.1,⟨hk.1.2.1,hk.1.2.2.2.1⟩⟩)⟩,⟨by refine sR ?_;exact Kd.R_mono HO_8.out (fun _ hk=>trivial)⟩,⟨yB BK396⟩,⟨yW HB⟩⟩
     rw [if_neg c24] at H
     have c24b0:=decide_eq_false c24
     clear c24
     obtain ⟨t428,A69,H⟩:=yo H
     by_cases c70:(x8_2.length:Int) < t428
     ·rw [if_pos c70] at H
      have c70b0:=decide_eq_true c70
      clear c70
      simp only [Option.some.injEq,Prod.mk.injEq] at H
      obtain ⟨rfl,rfl⟩:=H
      obtain ⟨Ao71,co71,eo71⟩:=Kd.R_slice HO_8.out
      subst eo71
      obtain ⟨hcz72_0,hcz72_1,hcz72_2,hfz72_0,hfz72_1,hfz72_2⟩:=yk3 BK396
      go_wp2_with (first|((with_reducible refine gC 115 ?_);refine gM (some 55) Try.func115 (args:=#[.agg #[.int .i64 a0_0, .int .i64 a0_1, .int .i64 a0_2]]) (impl_Local_data.calls a0_0 a0_1 a0_2 t428 _ A69.out) ?_;rintro e w73 ⟨rfl,hb⟩;refine ⟨_,rfl,?_⟩;replace HO_6:=bN HO_6 hb;replace HO_7:=bN HO_7 hb;replace HO_8:=bR HO_8 hb;replace BK396:=yb BK396 hb;replace HB:=yH HB hb;clear hb))
      go_ret2
      exact ⟨_,D1,D10,yW HB⟩
     rw [if_neg c70] at H
     have c70b0:=decide_eq_false c70
     clear c70
     obtain ⟨⟨t429,t432⟩,A74,H⟩:=yo H
     try dsimp only at H
     simp only [Option.some.injEq,Prod.mk.injEq] at H
     obtain ⟨rfl,rfl⟩:=H
     obtain ⟨Ao75,co75,eo75⟩:=Kd.R_slice HO_8.out
     subst eo75
     obtain ⟨hcz76_0,hcz76_1,hcz76_2,hfz76_0,hfz76_1,hfz76_2⟩:=yk3 BK396
     go_wp2_with (first|((with_reducible refine gC 115 ?_);refine gM (some 55) Try.func115 (args:=#[.agg #[.int .i64 a0_0, .int .i64 a0_1, .int .i64 a0_2]]) (impl_Local_data.calls a0_0 a0_1 a0_2 t428 _ A69.out) ?_;rintro e w77 ⟨rfl,hb⟩;refine ⟨_,rfl,?_⟩;replace HO_6:=bN HO_6 hb;replace HO_7:=bN HO_7 hb;replace HO_8:=bR HO_8 hb;replace BK396:=yb BK396 hb;replace HB:=yH HB hb;clear hb;obtain ⟨Ao78,co78,eo78⟩:=Kd.N_slice HO_6.out;subst eo78)|((with_reducible refine gC 146 ?_);refine gM (some 59) Try.func146 (args:=#[.slice Ao78 t400.length co78, .slice Ao75 x8_2.length co75]) (impl_decoded.calls k2 (fun k_=>(some k_ ≠ (u7:Value).ownBlock∧(some k_ ≠ (.slice Ao75 x8_2.length co75:Value).ownBlock∧k_ ≠ gb396))) _ _ t400 _ _ x8_2 t429 t432 _ (Kd.N_V (HO_6.out)) (yc (Kd.R_reads' HO_8.out).2.2) (Kd.R_reads' HO_8.out).2.1 A74.out) ?_;rintro e w79 ⟨v430,rfl,ho0,hb⟩;refine ⟨_,rfl,?_⟩;replace HO_6:=eN HO_6 (Kd.R_base ho0) hb;replace HO_7:=eN HO_7 (Kd.R_base ho0) hb;replace HO_8:=bR HO_8 hb;have HO431:=am (Kd.R_lower (Kd.R_mono (ok':=fun k_=>True) ho0 (fun _ hk_=>trivial)) (pz (yW HB)));replace BK396:=yb BK396 hb;replace HB:=yH HB hb;clear hb ho0))
     go_ret2
     exact ⟨_,D1,yR HO431,yW HB⟩
mutual
def laws_FnExactDecodeLocal.j0:Nat→List (S160)→List ByteArray→Bool→List (S84)→List ByteArray→Bool→Bool→Int→Int→Int→Option (Bool)
 | 0,_,_,_,_,_,_,_,_,_,_=>none
 | k+1,x1,x6,x7,x8,x9,x10,x46,x434000,x434001,x434002=>if x46=true then (some false) else ((laws_toShardS.f k x1).bind fun t456=>((laws_eqShardS.f k x8 t456).bind fun t459=>(if t459=true then ((laws_markShardS.f k x8 1).bind fun bt460=>(if bt460.1 < 0 then (laws_FnExactDecodeLocal.j1 k x1 x6 x7 x9 true x434000 x434001 x434002) else ((laws_eqStringS.f k x9 x6).bind fun t462=>(if t462=true then (laws_FnExactDecodeLocal.j1 k x1 x6 x7 x9 (x10 != x7) x434000 x434001 x434002) else (laws_FnExactDecodeLocal.j1 k x1 x6 x7 x9 true x434000 x434001 x434002))))) else (some false))))
def laws_FnExactDecodeLocal.j1:Nat→List (S160)→List ByteArray→Bool→List ByteArray→Bool→Int→Int→Int→Option (Bool)
 | 0,_,_,_,_,_,_,_,_=>none
 | k+1,x1,x6,x7,x9,x67,x434000,x434001,x434002=>if x67=true then (some false) else ((laws_markStringS.f k x9 1).bind fun bt463=>((laws_heldStringS.f k bt463.2 1).bind fun t465=>(if t465 < 0 then (some false) else (if t465=bt463.1 then ((laws_toLocal.f x434000 x434001 x434002).bind fun bt466=>((laws_toShardS.f k x1).bind fun t469=>((impl_DecodeLocal.f k bt466.1 bt466.2.1 bt466.2.2 t469).bind fun bt472=>((laws_eqStringS.f k bt472.1 x6).bind fun t476=>(if t476=true then (laws_FnExactDecodeLocal.j2 k bt463.2 bt463.1 (bt472.2 != x7)) else (laws_FnExactDecodeLocal.j2 k bt463.2 bt463.1 true)))))) else (some false)))))
def laws_FnExactDecodeLocal.j2:Nat→List ByteArray→Int→Bool→Option (Bool)
 | 0,_,_,_=>none
 | k+1,x9,x12,x95=>if x95=true then (some false) else ((laws_heldStringS.f k x9 1).bind fun t477=>(if t477 < 0 then (some false) else (if t477=x12 then (some true) else (some false))))
end
def laws_FnExactDecodeLocal.f (k:Nat) (a0_0:Int) (a0_1:Int) (a0_2:Int) (l1:List (S160)):Option (Bool):=(laws_szShardS.f k l1 1048576).bind fun t434=>(if t434 < 0 then (some true) else ((laws_toLocal.f a0_0 a0_1 a0_2).bind fun bt435=>((laws_toShardS.f k l1).bind fun t438=>((spec_DecodeLocal.f k bt435.1 bt435.2.1 bt435.2.2 t438).bind fun bt441=>((laws_toShardS.f k l1).bind fun t445=>((laws_toLocal.f a0_0 a0_1 a0_2).bind fun bt448=>((impl_DecodeLocal.f k bt448.1 bt448.2.1 bt448.2.2 t445).bind fun bt451=>((laws_eqStringS.f k bt451.1 bt441.1).bind fun t455=>(if t455=true then (laws_FnExactDecodeLocal.j0 k l1 bt441.1 bt441.2 t445 bt451.1 bt451.2 (bt451.2 != bt441.2) a0_0 a0_1 a0_2) else (laws_FnExactDecodeLocal.j0 k l1 bt441.1 bt441.2 t445 bt451.1 bt451.2 true a0_0 a0_1 a0_2))))))))))
theorem laws_FnExactDecodeLocal.mono_l:∀ k,(∀ y0 y1 y2 y3 y4 y5 y6 y7 y8 y9,LeO (laws_FnExactDecodeLocal.j0 k y0 y1 y2 y3 y4 y5 y6 y7 y8 y9) (laws_FnExactDecodeLocal.j0 (k+1) y0 y1 y2 y3 y4 y5 y6 y7 y8 y9))∧(∀ y0 y1 y2 y3 y4 y5 y6 y7,LeO (laws_FnExactDecodeLocal.j1 k y0 y1 y2 y3 y4 y5 y6 y7) (laws_FnExactDecodeLocal.j1 (k+1) y0 y1 y2 y3 y4 y5 y6 y7))∧(∀ y0 y1 y2,LeO (laws_FnExactDecodeLocal.j2 k y0 y1 y2) (laws_FnExactDecodeLocal.j2 (k+1) y0 y1 y2))
 | 0=>⟨fun _ _ _ _ _ _ _ _ _ _ r h=>by simp [laws_FnExactDecodeLocal.j0] at h,fun _ _ _ _ _ _ _ _ r h=>by simp [laws_FnExactDecodeLocal.j1] at h,fun _ _ _ r h=>by simp [laws_FnExactDecodeLocal.j2] at h⟩
 | k+1=>by
  obtain ⟨ih0,ih1,ih2⟩:=laws_FnExactDecodeLocal.mono_l k
  refine ⟨?_,?_,?_⟩
  ·intro y0 y1 y2 y3 y4 y5 y6 y7 y8 y9
   unfold laws_FnExactDecodeLocal.j0
   exact mm
  ·intro y0 y1 y2 y3 y4 y5 y6 y7
   unfold laws_FnExactDecodeLocal.j1
   exact mm
  intro y0 y1 y2
  unfold laws_FnExactDecodeLocal.j2
  exact mm
theorem laws_FnExactDecodeLocal.mono:∀ a0 a1 a2 a3 k,LeO (laws_FnExactDecodeLocal.f k a0 a1 a2 a3) (laws_FnExactDecodeLocal.f (k+1) a0 a1 a2 a3):=by
 intro a0 a1 a2 a3 k
 obtain ⟨ih0,ih1,ih2⟩:=laws_FnExactDecodeLocal.mono_l k
 unfold laws_FnExactDecodeLocal.f
 exact mm
theorem laws_FnExactDecodeLocal.calls (k:Nat) (a0_0:Int) (a0_1:Int) (a0_2:Int) (A1:Option Addr) (c1:Nat) (l1:List (S160)) (r:Bool) (w:World) (hr1:Kd.C k160 w A1 l1.length l1) (hc1:l1.length≤c1) (h:laws_FnExactDecodeLocal.f k a0_0 a0_1 a0_2 l1=some r) :
  Calls Try.prog 13 #[.agg #[.int .i64 a0_0, .int .i64 a0_1, .int .i64 a0_2], .slice A1 l1.length c1] w fun e w'=>e = .returned (.bool r)∧Below w.heap.size w w':=by
 have hu48:=Try.underlying48
 have HR1:=am hr1
 have HC1:=am hc1
 clear hr1 hc1
 have HB:=am (Below.refl w.heap.size w)
 have H:=h
 unfold laws_FnExactDecodeLocal.f at H
 clear h
 obtain ⟨t434,A3,H⟩:=yo H
 by_cases c4:t434 < 0
 ·rw [if_pos c4] at H
  have c4b0:=decide_eq_true c4
  clear c4
  obtain rfl:=Option.some.inj H
  go_enter Try.func13,Try.ntmps13
  go_wp2_with (first|((with_reducible refine gD 2 ?_);refine gB (cs:=#[.int .i64 a0_0, .int .i64 a0_1, .int .i64 a0_2]) 48 ?_;intro gb433 hg w5 hbox hb;have BK433:=am (hbox);have GW433:=ye HB hg;replace HB:=yH HB hb;have GE433:=GW433;clear hb hbox hg)|((with_reducible refine gC 53 ?_);refine gM (some 18) Try.func53 (args:=#[.slice A1 l1.length c1, .int .i64 1048576]) (laws_szShardS.calls k _ _ l1 1048576 t434 _ (yc (Kd.C_below HR1.out HB.out)) HC1.out A3.out) ?_;rintro e w6 ⟨rfl,hb⟩;refine ⟨_,rfl,?_⟩;replace BK433:=yb BK433 hb;replace HB:=yH HB hb;clear hb))
  go_ret
  exact ⟨D1,yW HB⟩
 rw [if_neg c4] at H
 have c4b0:=decide_eq_false c4
 clear c4
 obtain ⟨⟨t435,t436,t437⟩,A7,H⟩:=yo H
 try dsimp only at H
 obtain ⟨t438,A8,H⟩:=yo H
 obtain ⟨⟨t441,t444⟩,A9,H⟩:=yo H
 try dsimp only at H
 obtain ⟨t445,A10,H⟩:=yo H
 obtain ⟨⟨t448,t449,t450⟩,A11,H⟩:=yo H
 try dsimp only at H
 obtain ⟨⟨t451,t454⟩,A12,H⟩:=yo H
 try dsimp only at H
 have HC13:=am H
 clear H
 go_enter Try.func13,Try.ntmps13
 go_upto_region 8 with (first|((with_reducible refine gD 2 ?_);refine gB (cs:=#[.int .i64 a0_0, .int .i64 a0_1, .int .i64 a0_2]) 48 ?_;intro gb433 hg w14 hbox hb;have BK433:=am (hbox);have GW433:=ye HB hg;replace HB:=yH HB hb;have GE433:=GW433;clear hb hbox hg)|((with_reducible refine gC 53 ?_);refine gM (some 18) Try.func53 (args:=#[.slice A1 l1.length c1, .int .i64 1048576]) (laws_szShardS.calls k _ _ l1 1048576 t434 _ (yc (Kd.C_below HR1.out HB.out)) HC1.out A3.out) ?_;rintro e w15 ⟨rfl,hb⟩;refine ⟨_,rfl,?_⟩;replace BK433:=yb BK433 hb;replace HB:=yH HB hb;clear hb;obtain ⟨hcz16_0,hcz16_1,hcz16_2,hfz16_0,hfz16_1,hfz16_2⟩:=yk3 BK433)|((with_reducible refine gC 31 ?_);have hz_:=w17;clear hz_;refine gM (some 33) Try.func31 (args:=#[.agg #[.int .i64 a0_0, .int .i64 a0_1, .int .i64 a0_2]]) (laws_toLocal.calls a0_0 a0_1 a0_2 t448 t449 t450 _ A11.out) ?_;rintro e w23 ⟨rfl,hb⟩;refine ⟨_,rfl,?_⟩;replace HO440:=bR HO440 hb;replace HO443:=bR HO443 hb;replace HO447:=bR HO447 hb;replace BK433:=yb BK433 hb;replace HB:=yH HB hb;clear hb;obtain ⟨Ao24,co24,eo24⟩:=Kd.R_slice HO447.out;subst eo24)|((with_reducible refine gC 55 ?_);have hz_:=w18;clear hz_;refine gM (some 30) Try.func55 (args:=#[.slice A1 l1.length c1]) (laws_toShardS.calls k _ _ l1 t445 _ (yc (Kd.C_below HR1.out HB.out)) HC1.out A10.out) ?_;rintro e w21 ⟨v446,rfl,ho0,hb⟩;refine ⟨_,rfl,?_⟩;replace HO443:=bR HO443 hb;have HO447:=am (Kd.R_lower (Kd.R_new' ho0 (Kd.R_lt (yR HO440))) (pz (yW HB)));replace HO440:=eR HO440 (Kd.R_base ho0) hb;replace BK433:=yb BK433 hb;replace HB:=yH HB hb;clear hb ho0;obtain ⟨hcz22_0,hcz22_1,hcz22_2,hfz22_0,hfz22_1,hfz22_2⟩:=yk3 BK433)|((with_reducible refine gC 73 ?_);refine gM (some 26) Try.func73 (args:=#[.agg #[.int .i64 t435, .int .i64 t436, .int .i64 t437], .slice Ao19 t438.length co19]) (spec_DecodeLocal.calls k t435 t436 t437 _ _ t438 t441 t444 _ (yc (Kd.R_reads' HO440.out).2.2) (Kd.R_reads' HO440.out).2.1 A9.out) ?_;rintro e w20 ⟨v442,rfl,ho0,hb⟩;refine ⟨_,rfl,?_⟩;replace HO440:=bR HO440 hb;have HO443:=am (Kd.R_lower ho0 (pz (yW HB)));replace BK433:=yb BK433 hb;replace HB:=yH HB hb;clear hb ho0)|((with_reducible refine gC 55 ?_);refine gM (some 25) Try.func55 (args:=#[.slice A1 l1.length c1]) (laws_toShardS.calls k _ _ l1 t438 _ (yc (Kd.C_below HR1.out HB.out)) HC1.out A8.out) ?_;rintro e w18 ⟨v439,rfl,ho0,hb⟩;refine ⟨_,rfl,?_⟩;have HO440:=am (Kd.R_lower ho0 (pz (yW HB)));replace BK433:=yb BK433 hb;replace HB:=yH HB hb;clear hb ho0;obtain ⟨Ao19,co19,eo19⟩:=Kd.R_slice HO440.out;subst eo19)|((with_reducible refine gC 31 ?_);refine gM (some 23) Try.func31 (args:=#[.agg #[.int .i64 a0_0, .int .i64 a0_1, .int .i64 a0_2]]) (laws_toLocal.calls a0_0 a0_1 a0_2 t435 t436 t437 _ A7.out) ?_;rintro e w17 ⟨rfl,hb⟩;refine ⟨_,rfl,?_⟩;replace BK433:=yb BK433 hb;replace HB:=yH HB hb;clear hb)|((with_reducible refine gC 74 ?_);refine gM (some 35) Try.func74 (args:=#[.agg #[.int .i64 t448, .int .i64 t449, .int .i64 t450], .slice Ao24 t445.length co24]) (impl_DecodeLocal.calls k t448 t449 t450 _ _ t445 t451 t454 _ (yc (Kd.R_reads' HO447.out).2.2) (Kd.R_reads' HO447.out).2.1 A12.out) ?_;rintro e w25 ⟨v452,rfl,ho0,hb⟩;refine ⟨_,rfl,?_⟩;replace HO440:=bR HO440 hb;replace HO447:=bR HO447 hb;have HO453:=am (Kd.R_lower (Kd.R_new' ho0 (Kd.R_lt (yR HO443))) (pz (yW HB)));replace HO443:=eR HO443 (Kd.R_base ho0) hb;replace BK433:=yb BK433 hb;replace HB:=yH HB hb;clear hb ho0))
 (try simp only [Act.put,q1,q2,q3])
 go_cut [46] (fun v46 wc=>∃ (kq:Nat) (x46_12:Bool),v46 = .bool x46_12∧Aside0 (laws_FnExactDecodeLocal.j0 kq l1 t441 t444 t445 t451 t454 x46_12 a0_0 a0_1 a0_2=some r)∧Aside0 (kq≤k)∧Aside0 (Kd.R Kd.string 9 wc w.heap.size (fun k_=>some k_ ≠ (v452:Value).ownBlock) v442 t441)∧Aside0 (Kd.R k84 84 wc w.heap.size (fun _=>True) (.slice Ao24 t445.length co24) t445)∧Aside0 (Kd.R Kd.string 9 wc w.heap.size (fun k_=>some k_ ≠ (v442:Value).ownBlock) v452 t451)∧Aside0 (wc.heap[gb433]? = some (.cells #[.int .i64 a0_0, .int .i64 a0_1, .int .i64 a0_2] 48 (0,0)))∧Aside0 (Below w.heap.size w wc))
 case first =>
  have H:=HC13.out
  clear HC13
  obtain ⟨t455,A26,H⟩:=yo H
  by_cases c27:t455=true
  ·subst c27
   replace H:=yt H
   have H':=am H
   clear H
   obtain ⟨Ao28,co28,eo28⟩:=Kd.R_slice HO453.out
   subst eo28
   obtain ⟨Ao29,co29,eo29⟩:=Kd.R_slice HO443.out
   subst eo29
   go_wp2_with (first|((with_reducible refine gC 63 ?_);refine gM (some 40) Try.func63 (args:=#[.slice Ao28 t451.length co28, .slice Ao29 t441.length co29]) (laws_eqStringS.calls k _ _ t451 _ _ t441 true _ (yc (Kd.R_reads' HO453.out).2.2) (Kd.R_reads' HO453.out).2.1 (yc (Kd.R_reads' HO443.out).2.2) (Kd.R_reads' HO443.out).2.1 A26.out) ?_;rintro e w' ⟨rfl,⟨nd,rfl⟩⟩;refine ⟨_,rfl,?_⟩))
   go_meet
   case rel=>exact ⟨_,((t454 != t444)),D2,H',⟨D57⟩,⟨by refine sR ?_;exact Kd.R_mono HO443.out (fun _ hk=>hk.2)⟩,⟨by refine sR ?_;exact Kd.R_mono HO447.out (fun _ hk=>trivial)⟩,⟨by refine sR ?_;exact Kd.R_mono HO453.out (fun _ hk=>hk.2)⟩,⟨yB BK433⟩,⟨yW HB⟩⟩
  replace c27:=Bool.eq_false_iff.mpr c27
  subst c27
  replace H:=yn H
  have H':=am H
  clear H
  obtain ⟨Ao30,co30,eo30⟩:=Kd.R_slice HO453.out
  subst eo30
  obtain ⟨Ao31,co31,eo31⟩:=Kd.R_slice HO443.out
  subst eo31
  go_wp2_with (first|((with_reducible refine gC 63 ?_);refine gM (some 40) Try.func63 (args:=#[.slice Ao30 t451.length co30, .slice Ao31 t441.length co31]) (laws_eqStringS.calls k _ _ t451 _ _ t441 false _ (yc (Kd.R_reads' HO453.out).2.2) (Kd.R_reads' HO453.out).2.1 (yc (Kd.R_reads' HO443.out).2.2) (Kd.R_reads' HO443.out).2.1 A26.out) ?_;rintro e w' ⟨rfl,⟨nd,rfl⟩⟩;refine ⟨_,rfl,?_⟩))
  go_meet
  case rel=>exact ⟨_,(true),D2,H',⟨D57⟩,⟨by refine sR ?_;exact Kd.R_mono HO443.out (fun _ hk=>hk.2)⟩,⟨by refine sR ?_;exact Kd.R_mono HO447.out (fun _ hk=>trivial)⟩,⟨by refine sR ?_;exact Kd.R_mono HO453.out (fun _ hk=>hk.2)⟩,⟨yB BK433⟩,⟨yW HB⟩⟩
 case rest =>
  clear HC13
  try clear c1
  try clear c2
  try clear p2
  try clear c3
  try clear c4
  try clear c4b0
  try clear c5
  try clear c6
  try clear c7
  try clear c13
  try clear c27
  try clear c31
  try clear hcz16_0
  try clear hcz16_1
  try clear hcz16_2
  try clear hcz22_0
  try clear hcz22_1
  try clear hcz22_2
  try clear hfz16_0
  try clear hfz16_1
  try clear hfz16_2
  try clear hfz22_0
  try clear hfz22_1
  try clear hfz22_2
  obtain ⟨kq,x46_12,rfl,HA,HJ12,HO_6,HO_8,HO_9,BK433,HB⟩:=hcut
  cases kq with
  | zero=>exact absurd HA.out (by simp [laws_FnExactDecodeLocal.j0])
  | succ kj12 =>
   have H:=HA.out
   clear HA
   simp only [laws_FnExactDecodeLocal.j0] at H
   by_cases c32:x46_12=true
   ·subst c32
    replace H:=yt H
    obtain rfl:=Option.some.inj H
    go_wp2
    go_ret
    exact ⟨D1,yW HB⟩
   replace c32:=Bool.eq_false_iff.mpr c32
   subst c32
   replace H:=yn H
   obtain ⟨t456,A33,H⟩:=yo H
   obtain ⟨t459,A34,H⟩:=yo H
   by_cases c35:t459=true
   ·subst c35
    replace H:=yt H
    obtain ⟨⟨t460,t461⟩,A36,H⟩:=yo H
    try dsimp only at H
    have HC37:=am H
    clear H
    go_upto_region 14 with (first|((with_reducible refine gC 55 ?_);refine gM (some 49) Try.func55 (args:=#[.slice A1 l1.length c1]) (laws_toShardS.calls kj12 _ _ l1 t456 _ (yc (Kd.C_below HR1.out HB.out)) HC1.out A33.out) ?_;rintro e w38 ⟨v457,rfl,ho0,hb⟩;refine ⟨_,rfl,?_⟩;replace HO_6:=bR HO_6 hb;replace HO_9:=bR HO_9 hb;have HO458:=am (Kd.R_lower (Kd.R_new' ho0 (Kd.R_lt (yR HO_8))) (pz (yW HB)));replace HO_8:=eR HO_8 (Kd.R_base ho0) hb;replace BK433:=yb BK433 hb;replace HB:=yH HB hb;clear hb ho0;obtain ⟨Ao39,co39,eo39⟩:=Kd.R_slice HO458.out;subst eo39)|((with_reducible refine gC 58 ?_);refine gM (some 50) Try.func58 (args:=#[.slice Ao24 t445.length co24, .slice Ao39 t456.length co39]) (laws_eqShardS.calls kj12 _ _ t445 _ _ t456 true _ (yc (Kd.R_reads' HO_8.out).2.2) (Kd.R_reads' HO_8.out).2.1 (yc (Kd.R_reads' HO458.out).2.2) (Kd.R_reads' HO458.out).2.1 A34.out) ?_;rintro e w40 ⟨rfl,hb⟩;refine ⟨_,rfl,?_⟩;replace HO_6:=bR HO_6 hb;replace HO_8:=bR HO_8 hb;replace HO_9:=bR HO_9 hb;replace HO458:=bR HO458 hb;replace BK433:=yb BK433 hb;replace HB:=yH HB hb;clear hb)|((with_reducible refine gC 64 ?_);refine gM (some 54) Try.func64 (args:=#[.slice Ao24 t445.length co24, .int .i64 1]) (laws_markShardS.calls kj12 (fun k_=>some k_=(.slice Ao24 t445.length co24:Value).ownBlock) (.slice Ao24 t445.length co24) t445 1 t460 t461 w _ ?side1 ?side2 A36.out) ?_;(case side1=>repeat (first|(with_reducible first|exact HB.out|apply pa|apply pb|apply pd|refine pt ?_ GE433.out)|exact HB.out));(case side2=>exact Kd.R_tight rfl HO_8.out);rintro e w41 ⟨rfl,hy0,hb,hkp⟩;refine ⟨_,rfl,?_⟩;replace HO_6:=am (Kd.R_mono (ok':=fun k_=>some k_ ≠ (v452:Value).ownBlock) (Kd.R_keptB ((Kd.R_apart' HO_6.out (Kd.R_typed HO_8.out) D4)) hkp (fun k_ hk_ hs_=>(hk_.2) hs_)) (fun k_ hk_=>hk_.1.1));replace HO_9:=am (Kd.R_mono (ok':=fun k_=>some k_ ≠ (v442:Value).ownBlock) (Kd.R_keptB ((Kd.R_apart' HO_9.out (Kd.R_typed HO_8.out) D4)) hkp (fun k_ hk_ hs_=>(hk_.2) hs_)) (fun k_ hk_=>hk_.1.1));replace BK433:=am (blk_kept (yB BK433) hkp (fun hs_=>(fun e_=>(Kd.R_ne HO_8.out BK433.out D4) e_) hs_));replace HO_8:=am (Kd.R_reok rfl hy0 (fun k_ e_=>HO_8.out.1 k_ e_));replace HO458:=am (Kd.R_mono (ok':=fun k_=>some k_ ≠ (.slice Ao24 t445.length co24:Value).ownBlock) (Kd.R_keptB (HO458.out) hkp (fun k_ hk_ hs_=>(hk_.2) hs_)) (fun k_ hk_=>hk_.1.2));replace HB:=am (hb);clear hb hkp hy0))
    (try simp only [Act.put,q1,q2,q3])
    go_cut [67] (fun v67 wc=>∃ (kq:Nat) (x67_36:Bool),v67 = .bool x67_36∧Aside0 (laws_FnExactDecodeLocal.j1 kq l1 t441 t444 t451 x67_36 a0_0 a0_1 a0_2=some r)∧Aside0 (kq≤kj12)∧Aside0 (Kd.R Kd.string 9 wc w.heap.size (fun k_=>some k_ ≠ (v452:Value).ownBlock) v442 t441)∧Aside0 (Kd.R Kd.string 9 wc w.heap.size (fun k_=>some k_ ≠ (v442:Value).ownBlock) v452 t451)∧Aside0 (wc.heap[gb433]? = some (.cells #[.int .i64 a0_0, .int .i64 a0_1, .int .i64 a0_2] 48 (0,0)))∧Aside0 (Below w.heap.size w wc))
    case first =>
     have H:=HC37.out
     clear HC37
     by_cases c42:t460 < 0
     ·rw [if_pos c42] at H
      have c42b0:=decide_eq_true c42
      clear c42
      (first|rw [c42b0]|(simp only [i64_w,i32_w];rw [c42b0])|skip)
      have H':=am H
      clear H
      go_wp2
      go_meet
      case rel=>exact ⟨_,(true),D2,H',⟨by have:=HJ12.out;first|omega|exact Nat.le_refl _⟩,⟨yR HO_6⟩,⟨yR HO_9⟩,⟨yB BK433⟩,⟨yW HB⟩⟩
     rw [if_neg c42] at H
     have c42b0:=decide_eq_false c42
     clear c42
     (first|rw [c42b0]|(simp only [i64_w,i32_w];rw [c42b0])|skip)
     obtain ⟨t462,A43,H⟩:=yo H
     by_cases c44:t462=true
     ·subst c44
      replace H:=yt H
      have H':=am H
      clear H
      obtain ⟨Ao45,co45,eo45⟩:=Kd.R_slice HO_9.out
      subst eo45
      obtain ⟨Ao46,co46,eo46⟩:=Kd.R_slice HO_6.out
      subst eo46
      go_wp2_with (first|(go_at_call 63;(with_reducible refine (laws_eqStringS.calls kj12 _ _ t451 _ _ t441 true _ (yc (Kd.R_reads' HO_9.out).2.2) (Kd.R_reads' HO_9.out).2.1 (yc (Kd.R_reads' HO_6.out).2.2) (Kd.R_reads' HO_6.out).2.1 A43.out).mono ?_);rintro e w' ⟨rfl,⟨nd,rfl⟩⟩))
      go_meet
      case rel=>exact ⟨_,((t454 != t444)),D2,H',⟨by have:=HJ12.out;first|omega|exact Nat.le_refl _⟩,⟨yR HO_6⟩,⟨yR HO_9⟩,⟨yB BK433⟩,⟨yW HB⟩⟩
     replace c44:=Bool.eq_false_iff.mpr c44
     subst c44
     replace H:=yn H
     have H':=am H
     clear H
     obtain ⟨Ao47,co47,eo47⟩:=Kd.R_slice HO_9.out
     subst eo47
     obtain ⟨Ao48,co48,eo48⟩:=Kd.R_slice HO_6.out
     subst eo48
     go_wp2_with (first|(go_at_call 63;(with_reducible refine (laws_eqStringS.calls kj12 _ _ t451 _ _ t441 false _ (yc (Kd.R_reads' HO_9.out).2.2) (Kd.R_reads' HO_9.out).2.1 (yc (Kd.R_reads' HO_6.out).2.2) (Kd.R_reads' HO_6.out).2.1 A43.out).mono ?_);rintro e w' ⟨rfl,⟨nd,rfl⟩⟩))
     go_meet
     case rel=>exact ⟨_,(true),D2,H',⟨by have:=HJ12.out;first|omega|exact Nat.le_refl _⟩,⟨yR HO_6⟩,⟨yR HO_9⟩,⟨yB BK433⟩,⟨yW HB⟩⟩
    case rest =>
     clear HC37
     try clear c1
     try clear c2
     try clear p2
     try clear c3
     try clear c4
     try clear c4b0
     try clear c5
     try clear c6
     try clear c7
     try clear c13
     try clear c27
     try clear c31
     try clear c32
     try clear c35
     try clear c42
     try clear c42b0
     try clear c44
     try clear hcz16_0
     try clear hcz16_1
     try clear hcz16_2
     try clear hcz22_0
     try clear hcz22_1
     try clear hcz22_2
     try clear hfz16_0
     try clear hfz16_1
     try clear hfz16_2
     try clear hfz22_0
     try clear hfz22_1
     try clear hfz22_2
     try clear p2
     obtain ⟨kq,x67_36,rfl,HA,HJ36,HO_6,HO_9,BK433,HB⟩:=hcut
     cases kq with
     | zero=>exact absurd HA.out (by simp [laws_FnExactDecodeLocal.j1])
     | succ kj36 =>
      have H:=HA.out
      clear HA
      simp only [laws_FnExactDecodeLocal.j1] at H
      by_cases c49:x67_36=true
      ·subst c49
       replace H:=yt H
       obtain rfl:=Option.some.inj H
       go_wp2
       go_ret
       exact ⟨D1,yW HB⟩
      replace c49:=Bool.eq_false_iff.mpr c49
      subst c49
      replace H:=yn H
      obtain ⟨⟨t463,t464⟩,A50,H⟩:=yo H
      try dsimp only at H
      obtain ⟨t465,A51,H⟩:=yo H
      by_cases c52:t465 < 0
      ·rw [if_pos c52] at H
       have c52b0:=decide_eq_true c52
       clear c52
       obtain rfl:=Option.some.inj H
       obtain ⟨Ao53,co53,eo53⟩:=Kd.R_slice HO_9.out
       subst eo53
       go_wp2_with (first|((with_reducible refine gC 65 ?_);refine gM (some 70) Try.func65 (args:=#[.slice Ao53 t451.length co53, .int .i64 1]) (laws_markStringS.calls kj36 (fun k_=>some k_=(.slice Ao53 t451.length co53:Value).ownBlock) (.slice Ao53 t451.length co53) t451 1 t463 t464 w _ ?side1 ?side2 A50.out) ?_;(case side1=>repeat (first|(with_reducible first|exact HB.out|apply pa|apply pb|apply pd|refine pt ?_ GE433.out)|exact HB.out));(case side2=>exact Kd.R_tight rfl HO_9.out);rintro e w54 ⟨rfl,hy0,hb,hkp⟩;refine ⟨_,rfl,?_⟩;replace HO_6:=am (Kd.R_mono (ok':=fun k_=>some k_ ≠ (.slice Ao53 t451.length co53:Value).ownBlock) (Kd.R_keptB (HO_6.out) hkp (fun k_ hk_ hs_=>(hk_) hs_)) (fun k_ hk_=>hk_.1));replace BK433:=am (blk_kept (yB BK433) hkp (fun hs_=>(fun e_=>(Kd.R_ne HO_9.out BK433.out D4) e_) hs_));replace HO_9:=am (Kd.R_reok rfl hy0 (fun k_ e_=>HO_9.out.1 k_ e_));replace HB:=am (hb);clear hb hkp hy0)|((with_reducible refine gC 66 ?_);refine goesL_ (some 73) rfl rfl Try.func66 D3 rfl #[.slice Ao53 t464.length co53, .int .i64 1] rfl D40 ?_;(with_reducible refine (laws_heldStringS.calls kj36 _ _ t464 1 t465 _ D35 D49 A51.out).mono ?_);rintro e w55 ⟨rfl,hb⟩;refine ⟨_,rfl,?_⟩;replace HO_6:=bR HO_6 hb;replace HO_9:=bR HO_9 hb;replace BK433:=yb BK433 hb;replace HB:=yH HB hb;clear hb))
       go_ret
       exact ⟨D1,yW HB⟩
      rw [if_neg c52] at H
      have c52b0:=decide_eq_false c52
      clear c52
      by_cases c56:t465=t463
      ·rw [if_pos c56] at H
       have c56b0:(t465 == t463)=true:=beq_iff_eq.mpr c56
       have c56b1:(t465 != t463)=false:=bne_eq_false_iff_eq.mpr c56
       clear c56
       obtain ⟨⟨t466,t467,t468⟩,A57,H⟩:=yo H
       try dsimp only at H
       obtain ⟨t469,A58,H⟩:=yo H
       obtain ⟨⟨t472,t475⟩,A59,H⟩:=yo H
       try dsimp only at H
       have HC60:=am H
       clear H
       obtain ⟨Ao61,co61,eo61⟩:=Kd.R_slice HO_9.out
       subst eo61
       go_upto_region 25 with (first|((with_reducible refine gC 65 ?_);refine gM (some 70) Try.func65 (args:=#[.slice Ao61 t451.length co61, .int .i64 1]) (laws_markStringS.calls kj36 (fun k_=>some k_=(.slice Ao61 t451.length co61:Value).ownBlock) (.slice Ao61 t451.length co61) t451 1 t463 t464 w _ ?side1 ?side2 A50.out) ?_;(case side1=>repeat (first|(with_reducible first|exact HB.out|apply pa|apply pb|apply pd|refine pt ?_ GE433.out)|exact HB.out));(case side2=>exact Kd.R_tight rfl HO_9.out);rintro e w62 ⟨rfl,hy0,hb,hkp⟩;refine ⟨_,rfl,?_⟩;replace HO_6:=am (Kd.R_mono (ok':=fun k_=>some k_ ≠ (.slice Ao61 t451.length co61:Value).ownBlock) (Kd.R_keptB (HO_6.out) hkp (fun k_ hk_ hs_=>(hk_) hs_)) (fun k_ hk_=>hk_.1));replace BK433:=am (blk_kept (yB BK433) hkp (fun hs_=>(fun e_=>(Kd.R_ne HO_9.out BK433.out D4) e_) hs_));replace HO_9:=am (Kd.R_reok rfl hy0 (fun k_ e_=>HO_9.out.1 k_ e_));replace HB:=am (hb);clear hb hkp hy0)|((with_reducible refine gC 66 ?_);refine goesL_ (some 73) rfl rfl Try.func66 D3 rfl #[.slice Ao61 t464.length co61, .int .i64 1] rfl D40 ?_;(with_reducible refine (laws_heldStringS.calls kj36 _ _ t464 1 t465 _ D35 D49 A51.out).mono ?_);rintro e w63 ⟨rfl,hb⟩;refine ⟨_,rfl,?_⟩;replace HO_6:=bR HO_6 hb;replace HO_9:=bR HO_9 hb;replace BK433:=yb BK433 hb;replace HB:=yH HB hb;clear hb;obtain ⟨hcz64_0,hcz64_1,hcz64_2,hfz64_0,hfz64_1,hfz64_2⟩:=yk3 BK433)|((with_reducible refine gC 31 ?_);refine gM (some 81) Try.func31 (args:=#[.agg #[.int .i64 a0_0, .int .i64 a0_1, .int .i64 a0_2]]) (laws_toLocal.calls a0_0 a0_1 a0_2 t466 t467 t468 _ A57.out) ?_;rintro e w65 ⟨rfl,hb⟩;refine ⟨_,rfl,?_⟩;replace HO_6:=bR HO_6 hb;replace HO_9:=bR HO_9 hb;replace BK433:=yb BK433 hb;replace HB:=yH HB hb;clear hb)|((with_reducible refine gC 55 ?_);refine gM (some 83) Try.func55 (args:=#[.slice A1 l1.length c1]) (laws_toShardS.calls kj36 _ _ l1 t469 _ (yc (Kd.C_below HR1.out HB.out)) HC1.out A58.out) ?_;rintro e w66 ⟨v470,rfl,ho0,hb⟩;refine ⟨_,rfl,?_⟩;replace HO_6:=bR HO_6 hb;replace HO_9:=bR HO_9 hb;have HO471:=am (Kd.R_lower ho0 (pz (yW HB)));replace BK433:=yb BK433 hb;replace HB:=yH HB hb;clear hb ho0;obtain ⟨Ao67,co67,eo67⟩:=Kd.R_slice HO471.out;subst eo67)|((with_reducible refine gC 74 ?_);refine gM (some 84) Try.func74 (args:=#[.agg #[.int .i64 t466, .int .i64 t467, .int .i64 t468], .slice Ao67 t469.length co67]) (impl_DecodeLocal.calls kj36 t466 t467 t468 _ _ t469 t472 t475 _ (yc (Kd.R_reads' HO471.out).2.2) (Kd.R_reads' HO471.out).2.1 A59.out) ?_;rintro e w68 ⟨v473,rfl,ho0,hb⟩;refine ⟨_,rfl,?_⟩;replace HO471:=bR HO471 hb;have HO474:=am (Kd.R_lower (Kd.R_new' (Kd.R_new' ho0 (Kd.R_lt (yR HO_6))) (Kd.R_lt (yR HO_9))) (pz (yW HB)));replace HO_6:=eR HO_6 (Kd.R_base ho0) hb;replace HO_9:=eR HO_9 (Kd.R_base ho0) hb;replace BK433:=yb BK433 hb;replace HB:=yH HB hb;clear hb ho0))
       (try simp only [Act.put,q1,q2,q3])
       go_cut [95] (fun v95 wc=>∃ (kq:Nat) (x95_59:Bool),v95 = .bool x95_59∧Aside0 (laws_FnExactDecodeLocal.j2 kq t464 t463 x95_59=some r)∧Aside0 (kq≤kj36)∧Aside0 (Kd.R Kd.string 9 wc w.heap.size (fun _=>True) (.slice Ao61 t451.length co61) t464)∧Aside0 (wc.heap[gb433]? = some (.cells #[.int .i64 a0_0, .int .i64 a0_1, .int .i64 a0_2] 48 (0,0)))∧Aside0 (Below w.heap.size w wc))
       case first =>
        have H:=HC60.out
        clear HC60
        obtain ⟨t476,A69,H⟩:=yo H
        by_cases c70:t476=true
        ·subst c70
         replace H:=yt H
         have H':=am H
         clear H
         obtain ⟨Ao71,co71,eo71⟩:=Kd.R_slice HO474.out
         subst eo71
         obtain ⟨Ao72,co72,eo72⟩:=Kd.R_slice HO_6.out
         subst eo72
         go_wp2_with (first|((with_reducible refine gC 63 ?_);refine gM (some 89) Try.func63 (args:=#[.slice Ao71 t472.length co71, .slice Ao72 t441.length co72]) (laws_eqStringS.calls kj36 _ _ t472 _ _ t441 true _ (yc (Kd.R_reads' HO474.out).2.2) (Kd.R_reads' HO474.out).2.1 (yc (Kd.R_reads' HO_6.out).2.2) (Kd.R_reads' HO_6.out).2.1 A69.out) ?_;rintro e w' ⟨rfl,⟨nd,rfl⟩⟩;refine ⟨_,rfl,?_⟩))
         go_meet
         case rel=>exact ⟨_,((t475 != t444)),D2,H',⟨by have:=HJ12.out;have:=HJ36.out;first|omega|exact Nat.le_refl _⟩,⟨by refine sR ?_;exact Kd.R_mono HO_9.out (fun _ hk=>trivial)⟩,⟨yB BK433⟩,⟨yW HB⟩⟩
        replace c70:=Bool.eq_false_iff.mpr c70
        subst c70
        replace H:=yn H
        have H':=am H
        clear H
        obtain ⟨Ao73,co73,eo73⟩:=Kd.R_slice HO474.out
        subst eo73
        obtain ⟨Ao74,co74,eo74⟩:=Kd.R_slice HO_6.out
        subst eo74
        go_wp2_with (first|((with_reducible refine gC 63 ?_);refine gM (some 89) Try.func63 (args:=#[.slice Ao73 t472.length co73, .slice Ao74 t441.length co74]) (laws_eqStringS.calls kj36 _ _ t472 _ _ t441 false _ (yc (Kd.R_reads' HO474.out).2.2) (Kd.R_reads' HO474.out).2.1 (yc (Kd.R_reads' HO_6.out).2.2) (Kd.R_reads' HO_6.out).2.1 A69.out) ?_;rintro e w' ⟨rfl,⟨nd,rfl⟩⟩;refine ⟨_,rfl,?_⟩))
        go_meet
        case rel=>exact ⟨_,(true),D2,H',⟨by have:=HJ12.out;have:=HJ36.out;first|omega|exact Nat.le_refl _⟩,⟨by refine sR ?_;exact Kd.R_mono HO_9.out (fun _ hk=>trivial)⟩,⟨yB BK433⟩,⟨yW HB⟩⟩
       case rest =>
        clear HC60
        try clear c1
        try clear c2
        try clear p2
        try clear c3
        try clear c4
        try clear c4b0
        try clear c5
        try clear c6
        try clear c7
        try clear c13
        try clear c27
        try clear c31
        try clear c32
        try clear c35
        try clear c42
        try clear c42b0
        try clear c44
        try clear c49
        try clear c52
        try clear c52b0
        try clear c53
        try clear c55
        try clear c56
        try clear c56b0
        try clear c56b1
        try clear c58
        try clear c63
        try clear c64
        try clear c65
        try clear c66
        try clear c70
        try clear c73
        try clear c74
        try clear hcz16_0
        try clear hcz16_1
        try clear hcz16_2
        try clear hcz22_0
        try clear hcz22_1
        try clear hcz22_2
        try clear hcz64_0
        try clear hcz64_1
        try clear hcz64_2
        try clear hfz16_0
        try clear hfz16_1
        try clear hfz16_2
        try clear hfz22_0
        try clear hfz22_1
        try clear hfz22_2
        try clear hfz64_0
        try clear hfz64_1
        try clear hfz64_2
        try clear p2
        obtain ⟨kq,x95_59,rfl,HA,HJ59,HO_9,BK433,HB⟩:=hcut
        have hl9_59:=(Kd.R_reads' HO_9.out).1
        rw [hl9_59] at HO_9
        (try simp only [hl9_59])
        (try simp only [hl9_59] at BK433)
        cases kq with
        | zero=>exact absurd HA.out (by simp [laws_FnExactDecodeLocal.j2])
        | succ kj59 =>
         have H:=HA.out
         clear HA
         simp only [laws_FnExactDecodeLocal.j2] at H
         by_cases c75:x95_59=true
         ·subst c75
          replace H:=yt H
          obtain rfl:=Option.some.inj H
          go_wp2
          go_ret
          exact ⟨D1,yW HB⟩
         replace c75:=Bool.eq_false_iff.mpr c75
         subst c75
         replace H:=yn H
         obtain ⟨t477,A76,H⟩:=yo H
         by_cases c77:t477 < 0
         ·rw [if_pos c77] at H
          have c77b0:=decide_eq_true c77
          clear c77
          obtain rfl:=Option.some.inj H
          go_wp2_with (first|((with_reducible refine gC 66 ?_);refine gM (some 98) Try.func66 (args:=#[.slice Ao61 t464.length co61, .int .i64 1]) (laws_heldStringS.calls kj59 _ _ t464 1 t477 _ (yc (Kd.R_reads' HO_9.out).2.2) (Kd.R_reads' HO_9.out).2.1 A76.out) ?_;rintro e w78 ⟨rfl,hb⟩;refine ⟨_,rfl,?_⟩;replace HO_9:=bR HO_9 hb;replace BK433:=yb BK433 hb;replace HB:=yH HB hb;clear hb))
          go_ret
          exact ⟨D1,yW HB⟩
         rw [if_neg c77] at H
         have c77b0:=decide_eq_false c77
         clear c77
         by_cases c79:t477=t463
         ·rw [if_pos c79] at H
          have c79b0:(t477 == t463)=true:=beq_iff_eq.mpr c79
          have c79b1:(t477 != t463)=false:=bne_eq_false_iff_eq.mpr c79
          clear c79
          obtain rfl:=Option.some.inj H
          go_wp2_with (first|((with_reducible refine gC 66 ?_);refine gM (some 98) Try.func66 (args:=#[.slice Ao61 t464.length co61, .int .i64 1]) (laws_heldStringS.calls kj59 _ _ t464 1 t477 _ (yc (Kd.R_reads' HO_9.out).2.2) (Kd.R_reads' HO_9.out).2.1 A76.out) ?_;rintro e w80 ⟨rfl,hb⟩;refine ⟨_,rfl,?_⟩;replace HO_9:=bR HO_9 hb;replace BK433:=yb BK433 hb;replace HB:=yH HB hb;clear hb))
          go_ret
          exact ⟨D1,yW HB⟩
         rw [if_neg c79] at H
         have c79b0:(t477 == t463)=false:=beq_eq_false_iff_ne.mpr c79
         have c79b1:(t477 != t463)=true:=bne_iff_ne.mpr c79
         obtain rfl:=Option.some.inj H
         go_wp2_with (first|((with_reducible refine gC 66 ?_);refine gM (some 98) Try.func66 (args:=#[.slice Ao61 t464.length co61, .int .i64 1]) (laws_heldStringS.calls kj59 _ _ t464 1 t477 _ (yc (Kd.R_reads' HO_9.out).2.2) (Kd.R_reads' HO_9.out).2.1 A76.out) ?_;rintro e w81 ⟨rfl,hb⟩;refine ⟨_,rfl,?_⟩;replace HO_9:=bR HO_9 hb;replace BK433:=yb BK433 hb;replace HB:=yH HB hb;clear hb))
         go_ret
         exact ⟨D1,yW HB⟩
      rw [if_neg c56] at H
      have c56b0:(t465 == t463)=false:=beq_eq_false_iff_ne.mpr c56
      have c56b1:(t465 != t463)=true:=bne_iff_ne.mpr c56
      obtain rfl:=Option.some.inj H
      obtain ⟨Ao82,co82,eo82⟩:=Kd.R_slice HO_9.out
      subst eo82
      go_wp2_with (first|((with_reducible refine gC 65 ?_);refine gM (some 70) Try.func65 (args:=#[.slice Ao82 t451.length co82, .int .i64 1]) (laws_markStringS.calls kj36 (fun k_=>some k_=(.slice Ao82 t451.length co82:Value).ownBlock) (.slice Ao82 t451.length co82) t451 1 t463 t464 w _ ?side1 ?side2 A50.out) ?_;(case side1=>repeat (first|(with_reducible first|exact HB.out|apply pa|apply pb|apply pd|refine pt ?_ GE433.out)|exact HB.out));(case side2=>exact Kd.R_tight rfl HO_9.out);rintro e w83 ⟨rfl,hy0,hb,hkp⟩;refine ⟨_,rfl,?_⟩;replace HO_6:=am (Kd.R_mono (ok':=fun k_=>some k_ ≠ (.slice Ao82 t451.length co82:Value).ownBlock) (Kd.R_keptB (HO_6.out) hkp (fun k_ hk_ hs_=>(hk_) hs_)) (fun k_ hk_=>hk_.1));replace BK433:=am (blk_kept (yB BK433) hkp (fun hs_=>(fun e_=>(Kd.R_ne HO_9.out BK433.out D4) e_) hs_));replace HO_9:=am (Kd.R_reok rfl hy0 (fun k_ e_=>HO_9.out.1 k_ e_));replace HB:=am (hb);clear hb hkp hy0)|((with_reducible refine gC 66 ?_);refine goesL_ (some 73) rfl rfl Try.func66 D3 rfl #[.slice Ao82 t464.length co82, .int .i64 1] rfl D40 ?_;(with_reducible refine (laws_heldStringS.calls kj36 _ _ t464 1 t465 _ D35 D49 A51.out).mono ?_);rintro e w84 ⟨rfl,hb⟩;refine ⟨_,rfl,?_⟩;replace HO_6:=bR HO_6 hb;replace HO_9:=bR HO_9 hb;replace BK433:=yb BK433 hb;replace HB:=yH HB hb;clear hb))
      go_ret
      exact ⟨D1,yW HB⟩
   replace c35:=Bool.eq_false_iff.mpr c35
   subst c35
   replace H:=yn H
   obtain rfl:=Option.some.inj H
   go_wp2_with (first|((with_reducible refine gC 55 ?_);refine gM (some 49) Try.func55 (args:=#[.slice A1 l1.length c1]) (laws_toShardS.calls kj12 _ _ l1 t456 _ (yc (Kd.C_below HR1.out HB.out)) HC1.out A33.out) ?_;rintro e w85 ⟨v457,rfl,ho0,hb⟩;refine ⟨_,rfl,?_⟩;replace HO_6:=bR HO_6 hb;replace HO_9:=bR HO_9 hb;have HO458:=am (Kd.R_lower (Kd.R_new' ho0 (Kd.R_lt (yR HO_8))) (pz (yW HB)));replace HO_8:=eR HO_8 (Kd.R_base ho0) hb;replace BK433:=yb BK433 hb;replace HB:=yH HB hb;clear hb ho0;obtain ⟨Ao86,co86,eo86⟩:=Kd.R_slice HO458.out;subst eo86)|((with_reducible refine gC 58 ?_);refine gM (some 50) Try.func58 (args:=#[.slice Ao24 t445.length co24, .slice Ao86 t456.length co86]) (laws_eqShardS.calls kj12 _ _ t445 _ _ t456 false _ (yc (Kd.R_reads' HO_8.out).2.2) (Kd.R_reads' HO_8.out).2.1 (yc (Kd.R_reads' HO458.out).2.2) (Kd.R_reads' HO458.out).2.1 A34.out) ?_;rintro e w87 ⟨rfl,hb⟩;refine ⟨_,rfl,?_⟩;replace HO_6:=bR HO_6 hb;replace HO_8:=bR HO_8 hb;replace HO_9:=bR HO_9 hb;replace HO458:=bR HO458 hb;replace BK433:=yb BK433 hb;replace HB:=yH HB hb;clear hb))
   go_ret
   exact ⟨D1,yW HB⟩
open Go.RowKit Go.Proofs.YtajikfnpcobnpaaW.PrintWords Go.Proofs.YtajikfnpcobnpaaW.PrintLast Go.Proofs.YtajikfnpcobnpaaW.PrintMore
end Go.Proofs.Ytajikfnpcobnpaa.PFnExactDecodeLocal
-- SQUEEZED
