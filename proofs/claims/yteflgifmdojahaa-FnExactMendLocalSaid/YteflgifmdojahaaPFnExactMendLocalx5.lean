-- Laid by a program of this session.
import Derived.Test.YteflgifmdojahaaPFnExactMendLocalx0
import Derived.Test.YteflgifmdojahaaPFnExactMendLocalx4
namespace Go.Proofs.Yteflgifmdojahaa.PFnExactMendLocal
open Go.RowKit Go.Proofs.YteflgifmdojahaaW.PrintWords Go.Proofs.YteflgifmdojahaaW.PrintLast Go.Proofs.YteflgifmdojahaaW.PrintMore
attribute [local go_sem] max2_int min2_int max_two min_two max_three min_three max_four min_four   -- for this text's walks alone
set_option linter.unusedVariables false
set_option maxHeartbeats 8000000
set_option maxRecDepth 100000
set_option linter.unusedSimpArgs false

def laws_toShardS.l0:Nat→List (S102)→List (S48)→Int→Option ((List (S48)))
 | 0,_,_,_=>none
 | k+1,x0,x3,x4=>if x4 < (x0.length:Int) then (if 0≤x4 then ((laws_toShard.f ((rd_T102 x0 x4).f0) ((rd_T102 x0 x4).f1)).bind fun bt145=>(if x4 < (x3.length:Int) then (laws_toShardS.l0 k x0 (x3.set (x4:Int).toNat (⟨bt145.1,bt145.2⟩:S48)) (wrap64 (x4+1))) else (none))) else (none)) else (some x3)
def laws_toShardS.f (k:Nat) (l0:List (S102)):Option ((List (S48))):=if 0≤(l0.length:Int) then (if ((l0.length:Int):Int).toNat≤11728124029610 then (laws_toShardS.l0 k l0 (List.replicate ((l0.length:Int):Int).toNat z48) 0) else (none)) else (none)
theorem laws_toShardS.mono_l:∀ k,(∀ y0 y1 y2,LeO (laws_toShardS.l0 k y0 y1 y2) (laws_toShardS.l0 (k+1) y0 y1 y2))
 | 0=>fun _ _ _ r h=>by simp [laws_toShardS.l0] at h
 | k+1=>by
  have ih0:=laws_toShardS.mono_l k
  intro y0 y1 y2
  unfold laws_toShardS.l0
  repeat' first
  | (with_reducible exact ih0 _ _ _)
  |(with_reducible exact LeO.refl _)|(with_reducible exact LeO.none _)|(with_reducible refine LeO.ite ?_ ?_)|(with_reducible refine LeO.bind ?_ (fun _=>?_))|exact ih0 _ _ _|exact LeO.none _|refine LeO.ite ?_ ?_|refine LeO.bind ?_ (fun _=>?_)
theorem laws_toShardS.mono:∀ a0 k,LeO (laws_toShardS.f k a0) (laws_toShardS.f (k+1) a0):=by
 intro a0 k
 have ih0:=laws_toShardS.mono_l k
 unfold laws_toShardS.f
 repeat' first
   | (with_reducible exact ih0 _ _ _)
   |(with_reducible exact LeO.refl _)|(with_reducible exact LeO.none _)|(with_reducible refine LeO.ite ?_ ?_)|(with_reducible refine LeO.bind ?_ (fun _=>?_))|exact ih0 _ _ _|exact LeO.none _|refine LeO.ite ?_ ?_|refine LeO.bind ?_ (fun _=>?_)
theorem laws_toShardS.calls (k:Nat) (A0:Option Addr) (c0:Nat) (l0:List (S102)) (r:List (S48)) (w:World) (hr0:Kd.C k102 w A0 l0.length l0) (hc0:l0.length≤c0) (h:laws_toShardS.f k l0=some r) :
  Calls Try.prog 26 #[.slice A0 l0.length c0] w fun e w'=>∃ v0_:Value,e = .returned (v0_)∧Kd.R k48 48 w' w.heap.size (fun _=>True) v0_ r∧Below w.heap.size w w':=by
 have hu102:=Try.underlying102
 have hu48:=Try.underlying48
 have HR0:=am hr0
 have HC0:=am hc0
 clear hr0 hc0
 have HB:=am (Below.refl w.heap.size w)
 have H:(if 0≤(l0.length:Int) then (if ((l0.length:Int):Int).toNat≤11728124029610 then (laws_toShardS.l0 k l0 (List.replicate ((l0.length:Int):Int).toNat z48) 0) else (none)) else (none))=some r:=h
 clear h
 by_cases c2:0≤(l0.length:Int)
 ·rw [if_pos c2] at H
  have c2b0:=eq_true c2
  have c2b1:decide (0≤(l0.length:Int))=true:=decide_eq_true c2
  clear c2
  by_cases c3:((l0.length:Int):Int).toNat≤11728124029610
  ·rw [if_pos c3] at H
   have c3b0:=eq_true c3
   have c3b1:decide (((l0.length:Int):Int).toNat≤11728124029610)=true:=decide_eq_true c3
   clear c3
   obtain ⟨y141,hy141⟩:∃ y_:List (S48),y_=(List.replicate ((l0.length:Int):Int).toNat z48):=⟨_,rfl⟩
   replace H:(laws_toShardS.l0 k l0 y141 0)=some r:=by first|(rw [hy141];with_reducible exact H)|(have H2_:=(Option.bind_some _ _).symm.trans H;rw [hy141];with_reducible exact H2_)|(have H2_:=(Option.bind_some _ _).symm.trans H;with_reducible exact H2_)|with_reducible exact H|(rw [hy141];exact H)|exact H
   have Ny141:=am hy141
   clear hy141
   have H':=am H
   clear H
   go_enter Try.func26,Try.ntmps26
   go_wp2_with (first|((with_reducible refine gate_dst (N:=7) rfl ?_);refine Kd.R_make k48 _ 48 rfl (N:=7) rfl 53 _ _ rfl (l0.length:Int) rfl rfl Try.underlying53 (.agg #[(.int .i64 0),(.string ⟨#[]⟩)]) 24 info48 rfl d12 d16 z48 (ok:=fun _=>True) (okp:=fun _=>True) (k48_mkM _ _ _ z48 ) (fun _ hk=>hk) trivial (od d3) (Nat.le_trans (Nat.mul_le_mul_right _ (od d3:(l0.length:Int).toNat≤11728124029610)) d16) (Below.refl _ _) (Nat.le_refl _) ?_;intro v142 w4 ho5 hb hg_ hnew_;clear hg_ hnew_;(first|rw [← Ny141.out] at ho5|(simp only [Int.reduceToNat] at ho5;rw [← Ny141.out] at ho5));have n0_:=am (Kd.R_lower ho5 (pz d0));have n1_:=am (pu d0 hb);clear HB;have HO143:=n0_;have HB:=n1_;clear n0_ n1_;clear hb ho5))
   go_loopg [4] k (fun kq v4 w'=>∃ (x3_1:List (S48)) (x4_1:Int),v4 = .int .i64 x4_1∧Aside0 (laws_toShardS.l0 kq l0 x3_1 x4_1=some r)∧Aside0 (kq≤k)∧Aside0 (Kd.R k48 48 w' w.heap.size (fun _=>True) v142 x3_1)∧Aside0 (Below w.heap.size w w'))
   case atStart=>exact ⟨(y141),(0),d4,H',⟨Nat.le_refl _⟩,⟨by (with_reducible repeat (first|apply Kd.R_alloc|apply Kd.R_drewN|apply Kd.R_drew));exact HO143.out⟩,⟨d0⟩⟩
   case round =>
    clear H'
    try clear c2
    try clear c2b0
    try clear c2b1
    try clear p2
    try clear c3
    try clear c3b0
    try clear c3b1
    obtain ⟨x3_1,x4_1,rfl,HA,HK1,HO_3,HB⟩:=hrel
    cases gk with
    | zero=>exact absurd HA.out (by simp [laws_toShardS.l0])
    | succ k1 =>
     have H:=HA.out
     clear HA
     simp only [laws_toShardS.l0] at H
     by_cases c6:x4_1 < (l0.length:Int)
     ·rw [if_pos c6] at H
      have c6b0:decide (x4_1 < (l0.length:Int))=true:=decide_eq_true c6
      clear c6
      by_cases c7:0≤x4_1
      ·rw [if_pos c7] at H
       have c7b0:decide (0≤x4_1)=true:=decide_eq_true c7
       clear c7
       replace H:=Option.bind_eq_some_iff.mp H
       obtain ⟨⟨t145,t146⟩,A80,H⟩:=H
       replace H:(if x4_1 < (x3_1.length:Int) then (laws_toShardS.l0 k1 l0 (x3_1.set (x4_1:Int).toNat (⟨t145,t146⟩:S48)) (wrap64 (x4_1+1))) else (none))=some r:=H
       have A8:=am A80
       clear A80
       by_cases c9:x4_1 < (x3_1.length:Int)
       ·rw [if_pos c9] at H
        have c9b0:decide (x4_1 < (x3_1.length:Int))=true:=decide_eq_true c9
        clear c9
        obtain ⟨y147,hy147⟩:∃ y_:List (S48),y_=(x3_1.set (x4_1:Int).toNat (⟨t145,t146⟩:S48)):=⟨_,rfl⟩
        replace H:(laws_toShardS.l0 k1 l0 y147 (wrap64 (x4_1+1)))=some r:=by first|(rw [hy147];with_reducible exact H)|(have H2_:=(Option.bind_some _ _).symm.trans H;rw [hy147];with_reducible exact H2_)|(have H2_:=(Option.bind_some _ _).symm.trans H;with_reducible exact H2_)|with_reducible exact H|(rw [hy147];exact H)|exact H
        have Ny147:=am hy147
        clear hy147
        have H':=am H
        clear H
        have p144:0≤(x4_1:Int):=od d3
        have q144:x4_1 < (l0.length:Int):=od d3
        obtain ⟨ad144,e144,hx144_0,hx144_1⟩:=at_T102 HR0.out x4_1 p144 q144
        cases e144
        replace hx144_0:=(HB.out.cell (World.block_lt_of_cell? w _ hx144_0)).trans hx144_0
        replace hx144_1:=(HB.out.cell (World.block_lt_of_cell? w _ hx144_1)).trans hx144_1
        replace p144:=eq_true p144
        replace q144:=eq_true q144
        go_wp2_with (first|((with_reducible refine gate_callee (f:=74) rfl ?_);refine goesL_ (some 20) rfl rfl Try.func74 d5 rfl #[.agg #[.int .i64 ((rd_T102 l0 x4_1).f0), .string ((rd_T102 l0 x4_1).f1)]] rfl d1 ?_;(with_reducible refine (laws_toShard.calls ((rd_T102 l0 x4_1).f0) ((rd_T102 l0 x4_1).f1) t145 t146 _ A8.out).mono ?_);rintro e w11 ⟨rfl,hb⟩;refine ⟨_,rfl,?_⟩;have n0_:=am (Kd.R_below d23 hb);have n1_:=am (pu d0 hb);clear HO_3;clear HB;have HO_3:=n0_;have HB:=n1_;clear n0_ n1_;(try clear hb);(try clear hb2);(try clear hk);(try clear hi);have p10:0≤(x4_1:Int):=od d3;have q10:(x4_1:Int) < ((x3_1.length:Int):Int):=od d3;obtain ⟨go10,co10,eo10,gb10,gl10,cl10,HG10⟩:=Kd.R_form HO_3.out d16;(first|cases eo10|(injection eo10 with ea_ en_ ec_;(first|subst ea_|(injection ea_ with ea_;subst ea_));subst ec_;clear en_));have GB10:=am gb10;have GG10:=am HG10;clear gb10 gl10 HG10;obtain ⟨ce10,hcl10,hM10,hcc10,hfr10⟩:=Kd.R_elem HO_3.out z48 (x4_1:Int) p10 q10;obtain rfl:=k48_openM hM10;have hx10_0:w11.cell? ⟨go10,(x4_1:Int).toNat*2,none⟩=some (.int .i64 ((rd_T48 x3_1 x4_1).f0)):=hcc10 0 _ rfl;have hx10_1:w11.cell? ⟨go10,(x4_1:Int).toNat*2+1,none⟩=some (.string ((rd_T48 x3_1 x4_1).f1)):=hcc10 1 _ rfl;have hf10_0:w11.frozen? ⟨go10,(x4_1:Int).toNat*2,none⟩=false:=hfr10 0;have hf10_1:w11.frozen? ⟨go10,(x4_1:Int).toNat*2+1,none⟩=false:=hfr10 1;clear hcl10 hcc10 hfr10;(try clear hM10);replace p10:=eq_true p10;replace q10:=eq_true q10;have HX12:=am (show Kd.R k48 48 w11 w.heap.size (fun _=>True) (.slice (some ⟨go10,0,none⟩) x3_1.length co10) x3_1 from d23);obtain ⟨ce12,hcl12,hM12,hcc12,hfr12⟩:=Kd.R_elem HX12.out z48 (x4_1:Int) (od d3) (by have h_:(x4_1:Int) < ((x3_1.length:Int):Int):=od d3;first|exact h_|(have e_:=(Kd.R_reads' HO_3.out).1;omega)|simpa using h_);obtain rfl:=k48_openM hM12;have HP12:=Kd.R_seg HX12.out (x4_1:Int) (od d3) (by have h_:(x4_1:Int) < ((x3_1.length:Int):Int):=od d3;first|exact h_|(have e_:=(Kd.R_reads' HO_3.out).1;omega)|simpa using h_) (seg:=[.int .i64 t145, .string t146]) (j:=0) hcl12 hcc12 (show 2≤2 from by decide) (x':=(⟨t145,t146⟩:S48)) (k48_mkM _ _ _ (⟨t145,t146⟩:S48) ) (fun _ hk=>hk);have hx12_0:=hcc12 0 _ rfl;(try simp only [show (k48).sz=2 from rfl,Nat.mul_one,Nat.add_zero] at hx12_0);have hf12_0:=hfr12 0;(try simp only [show (k48).sz=2 from rfl,Nat.mul_one,Nat.add_zero] at hf12_0);have hx12_1:=hcc12 1 _ rfl;(try simp only [show (k48).sz=2 from rfl,Nat.mul_one,Nat.add_zero] at hx12_1);have hf12_1:=hfr12 1;(try simp only [show (k48).sz=2 from rfl,Nat.mul_one,Nat.add_zero] at hf12_1);clear hcl12 hcc12 hfr12 hM12)|((with_reducible refine gate_store (t:=48) (p:=21) rfl ?_);refine store_event (t:=48) (p:=21) (v:=?vo_w13) (w1:=((w11.setCell ⟨go10,(x4_1:Int).toNat*2,none⟩ (.int .i64 t145)).setCell ⟨go10,(x4_1:Int).toNat*2+1,none⟩ (.string t146))) ?hg ?ho ?hn ?hr ?_;(case ho=>rfl);(case hg=>rfl);(case hn=>rfl);(case hr=>first|(go_simp;done)|(go_simp;rfl));intro w13 hw;have hg:w11.grownBy w13 (some go10):=(by rw [hw];exact HP12.2);have hp_:Kd.R k48 48 w13 w.heap.size (fun _=>True) (.slice (some ⟨go10,0,none⟩) x3_1.length co10) y147:=(by rw [hw,Ny147.out];exact HP12.1);clear HP12;have n0_:=am (hp_);have n1_:=am ((by rw [hw];exact pt (pt (HB.out) GB10.out) GB10.out:Below w.heap.size w w13));clear HO_3;clear HB;have HO_3:=n0_;have HB:=n1_;clear n0_ n1_;clear hg hw hp_))
        go_roundg k1
        case measure=>have:=HK1.out;omega
        case rel=>exact ⟨(y147),(wrap64 (x4_1+1)),d4,H',⟨d26⟩,⟨d23⟩,⟨d0⟩⟩
       rw [if_neg c9] at H
       exact absurd H d24
      rw [if_neg c7] at H
      exact absurd H d24
     rw [if_neg c6] at H
     have c6b0:decide (x4_1 < (l0.length:Int))=false:=decide_eq_false c6
     clear c6
     obtain rfl:=Option.some.inj H
     go_wp2
     go_ret
     exact ⟨_,d2,d23,d0⟩
  rw [if_neg c3] at H
  exact absurd H d24
 rw [if_neg c2] at H
 exact absurd H d24

def impl_within.f (a0:Int) (a1:Int) (a2:Int):Option (Bool):=if a0 ≥ a1 then (some (decide (a0≤a2))) else (some false)
theorem impl_within.calls (a0:Int) (a1:Int) (a2:Int) (r:Bool) (w:World) (h:impl_within.f a0 a1 a2=some r) :
  Calls Try.prog 104 #[.int .i64 a0, .int .i64 a1, .int .i64 a2] w fun e w'=>e = .returned (.bool r)∧Drawn0 w w':=by
 have H:(if a0 ≥ a1 then (some (decide (a0≤a2))) else (some false))=some r:=h
 clear h
 by_cases c4:a0 ≥ a1
 ·rw [if_pos c4] at H
  have c4b0:decide (a1≤a0)=true:=decide_eq_true c4
  clear c4
  obtain rfl:=Option.some.inj H
  go_enter Try.func104,Try.ntmps104
  go_wp2
  go_ret
  exact ⟨d4,d11⟩
 rw [if_neg c4] at H
 have c4b0:decide (a1≤a0)=false:=decide_eq_false c4
 clear c4
 obtain rfl:=Option.some.inj H
 go_enter Try.func104,Try.ntmps104
 go_wp2
 go_ret
 exact ⟨d4,d11⟩

def impl_Local_data.f (a0_0:Int) (a0_1:Int) (a0_2:Int):Option (Int):=some (wrap64 (a0_0*a0_1))
theorem impl_Local_data.calls (a0_0:Int) (a0_1:Int) (a0_2:Int) (r:Int) (w:World) (h:impl_Local_data.f a0_0 a0_1 a0_2=some r) :
  Calls Try.prog 132 #[.agg #[.int .i64 a0_0, .int .i64 a0_1, .int .i64 a0_2]] w fun e w'=>e = .returned (.int .i64 r)∧Below w.heap.size w w':=by
 have hu51:=Try.underlying51
 have HB:=am (Below.refl w.heap.size w)
 have H:(some (wrap64 (a0_0*a0_1)))=some r:=h
 clear h
 obtain rfl:=Option.some.inj H
 go_enter Try.func132,Try.ntmps132
 go_wp2_with (first|((with_reducible refine gate_dst (N:=1) rfl ?_);refine box_event ?hg (N:=1) ?hd (cs:=#[.int .i64 a0_0, .int .i64 a0_1, .int .i64 a0_2]) (t:=51) ?hr ?_;(case hd=>rfl);(case hg=>rfl);(case hr=>first|(go_simp;done)|(go_simp;rfl));intro gb148 hg w2 hbox hb;have n0_:=am (pu d0 hb);have n1_:=am (hbox);have n2_:=am ((by rw [hg];exact (pz d0):w.heap.size≤gb148));have n3_:=n2_;clear HB;have HB:=n0_;have BK148:=n1_;have GW148:=n2_;have GE148:=n3_;clear n0_ n1_ n2_ n3_;clear hb hbox hg;have hcz3_0:w2.cell? ⟨gb148,0,none⟩=some (.int .i64 a0_0):=(blk_cell BK148.out 0).trans rfl;have hcz3_1:w2.cell? ⟨gb148,1,none⟩=some (.int .i64 a0_1):=(blk_cell BK148.out 1).trans rfl;have hcz3_2:w2.cell? ⟨gb148,2,none⟩=some (.int .i64 a0_2):=(blk_cell BK148.out 2).trans rfl;have hfz3_0:=blk_frozen BK148.out 0;have hfz3_1:=blk_frozen BK148.out 1;have hfz3_2:=blk_frozen BK148.out 2))
 go_ret
 exact ⟨d2,by repeat (first|(with_reducible first|exact HB.out|apply pa|apply pb|apply pd|refine pt ?_ GE148.out)|exact HB.out)⟩

def impl_GoodLocal.f (a0_0:Int) (a0_1:Int) (a0_2:Int):Option (Bool):=(impl_within.f a0_0 1 4).bind fun t150=>(if t150=true then ((impl_within.f a0_1 1 4).bind fun t151=>(if t151=true then (if (wrap64 (a0_0*a0_1))≤8 then ((impl_within.f a0_2 1 4).bind fun t152=>(some t152)) else (some false)) else (some false))) else (some false))
theorem impl_GoodLocal.calls (a0_0:Int) (a0_1:Int) (a0_2:Int) (r:Bool) (w:World) (h:impl_GoodLocal.f a0_0 a0_1 a0_2=some r) :
  Calls Try.prog 155 #[.agg #[.int .i64 a0_0, .int .i64 a0_1, .int .i64 a0_2]] w fun e w'=>e = .returned (.bool r)∧Below w.heap.size w w':=by
 have hu51:=Try.underlying51
 have HB:=am (Below.refl w.heap.size w)
 have H:((impl_within.f a0_0 1 4).bind fun t150=>(if t150=true then ((impl_within.f a0_1 1 4).bind fun t151=>(if t151=true then (if (wrap64 (a0_0*a0_1))≤8 then ((impl_within.f a0_2 1 4).bind fun t152=>(some t152)) else (some false)) else (some false))) else (some false)))=some r:=h
 clear h
 replace H:=Option.bind_eq_some_iff.mp H
 obtain ⟨t150,A20,H⟩:=H
 replace H:(if t150=true then ((impl_within.f a0_1 1 4).bind fun t151=>(if t151=true then (if (wrap64 (a0_0*a0_1))≤8 then ((impl_within.f a0_2 1 4).bind fun t152=>(some t152)) else (some false)) else (some false))) else (some false))=some r:=H
 have A2:=am A20
 clear A20
 by_cases c3:t150=true
 ·subst c3
  have H1:((impl_within.f a0_1 1 4).bind fun t151=>(if t151=true then (if (wrap64 (a0_0*a0_1))≤8 then ((impl_within.f a0_2 1 4).bind fun t152=>(some t152)) else (some false)) else (some false)))=some r:=by rw [if_pos rfl] at H;exact H
  clear H
  have H:=H1
  clear H1
  replace H:=Option.bind_eq_some_iff.mp H
  obtain ⟨t151,A40,H⟩:=H
  replace H:(if t151=true then (if (wrap64 (a0_0*a0_1))≤8 then ((impl_within.f a0_2 1 4).bind fun t152=>(some t152)) else (some false)) else (some false))=some r:=H
  have A4:=am A40
  clear A40
  by_cases c5:t151=true
  ·subst c5
   have H1:(if (wrap64 (a0_0*a0_1))≤8 then ((impl_within.f a0_2 1 4).bind fun t152=>(some t152)) else (some false))=some r:=by rw [if_pos rfl] at H;exact H
   clear H
   have H:=H1
   clear H1
   by_cases c6:(wrap64 (a0_0*a0_1))≤8
   ·rw [if_pos c6] at H
    have c6b0:decide ((wrap64 (a0_0*a0_1))≤8)=true:=decide_eq_true c6
    clear c6
    replace H:=Option.bind_eq_some_iff.mp H
    obtain ⟨t152,A70,H⟩:=H
    replace H:(some t152)=some r:=H
    have A7:=am A70
    clear A70
    obtain rfl:=Option.some.inj H
    go_enter Try.func155,Try.ntmps155
    go_wp2_with (first|((with_reducible refine gate_dst (N:=1) rfl ?_);refine box_event ?hg (N:=1) ?hd (cs:=#[.int .i64 a0_0, .int .i64 a0_1, .int .i64 a0_2]) (t:=51) ?hr ?_;(case hd=>rfl);(case hg=>rfl);(case hr=>first|(go_simp;done)|(go_simp;rfl));intro gb149 hg w8 hbox hb;have n0_:=am (pu d0 hb);have n1_:=am (hbox);have n2_:=am ((by rw [hg];exact (pz d0):w.heap.size≤gb149));have n3_:=n2_;clear HB;have HB:=n0_;have BK149:=n1_;have GW149:=n2_;have GE149:=n3_;clear n0_ n1_ n2_ n3_;clear hb hbox hg;have hcz9_0:w8.cell? ⟨gb149,0,none⟩=some (.int .i64 a0_0):=(blk_cell BK149.out 0).trans rfl;have hcz9_1:w8.cell? ⟨gb149,1,none⟩=some (.int .i64 a0_1):=(blk_cell BK149.out 1).trans rfl;have hcz9_2:w8.cell? ⟨gb149,2,none⟩=some (.int .i64 a0_2):=(blk_cell BK149.out 2).trans rfl;have hfz9_0:=blk_frozen BK149.out 0;have hfz9_1:=blk_frozen BK149.out 1;have hfz9_2:=blk_frozen BK149.out 2)|((with_reducible refine gate_callee (f:=104) rfl ?_);refine goesL_ (some 5) rfl rfl Try.func104 d5 rfl #[.int .i64 a0_0, .int .i64 1, .int .i64 4] rfl d1 ?_;(with_reducible refine (impl_within.calls a0_0 1 4 true _ A2.out).mono ?_);rintro e w' ⟨rfl,⟨nd,rfl⟩⟩;refine ⟨_,rfl,?_⟩)|(go_at_call 104;(with_reducible refine (impl_within.calls a0_1 1 4 true _ A4.out).mono ?_);rintro e w' ⟨rfl,⟨nd,rfl⟩⟩)|(go_at_call 104;(with_reducible refine (impl_within.calls a0_2 1 4 t152 _ A7.out).mono ?_);rintro e w' ⟨rfl,⟨nd,rfl⟩⟩))
    go_ret
    exact ⟨d2,by repeat (first|(with_reducible first|exact HB.out|apply pa|apply pb|apply pd|refine pt ?_ GE149.out)|exact HB.out)⟩
   rw [if_neg c6] at H
   have c6b0:decide ((wrap64 (a0_0*a0_1))≤8)=false:=decide_eq_false c6
   clear c6
   obtain rfl:=Option.some.inj H
   go_enter Try.func155,Try.ntmps155
   go_wp2_with (first|((with_reducible refine gate_dst (N:=1) rfl ?_);refine box_event ?hg (N:=1) ?hd (cs:=#[.int .i64 a0_0, .int .i64 a0_1, .int .i64 a0_2]) (t:=51) ?hr ?_;(case hd=>rfl);(case hg=>rfl);(case hr=>first|(go_simp;done)|(go_simp;rfl));intro gb149 hg w10 hbox hb;have n0_:=am (pu d0 hb);have n1_:=am (hbox);have n2_:=am ((by rw [hg];exact (pz d0):w.heap.size≤gb149));have n3_:=n2_;clear HB;have HB:=n0_;have BK149:=n1_;have GW149:=n2_;have GE149:=n3_;clear n0_ n1_ n2_ n3_;clear hb hbox hg;have hcz11_0:w10.cell? ⟨gb149,0,none⟩=some (.int .i64 a0_0):=(blk_cell BK149.out 0).trans rfl;have hcz11_1:w10.cell? ⟨gb149,1,none⟩=some (.int .i64 a0_1):=(blk_cell BK149.out 1).trans rfl;have hcz11_2:w10.cell? ⟨gb149,2,none⟩=some (.int .i64 a0_2):=(blk_cell BK149.out 2).trans rfl;have hfz11_0:=blk_frozen BK149.out 0;have hfz11_1:=blk_frozen BK149.out 1;have hfz11_2:=blk_frozen BK149.out 2)|((with_reducible refine gate_callee (f:=104) rfl ?_);refine goesL_ (some 5) rfl rfl Try.func104 d5 rfl #[.int .i64 a0_0, .int .i64 1, .int .i64 4] rfl d1 ?_;(with_reducible refine (impl_within.calls a0_0 1 4 true _ A2.out).mono ?_);rintro e w' ⟨rfl,⟨nd,rfl⟩⟩;refine ⟨_,rfl,?_⟩)|(go_at_call 104;(with_reducible refine (impl_within.calls a0_1 1 4 true _ A4.out).mono ?_);rintro e w' ⟨rfl,⟨nd,rfl⟩⟩))
   go_ret
   exact ⟨d2,by repeat (first|(with_reducible first|exact HB.out|apply pa|apply pb|apply pd|refine pt ?_ GE149.out)|exact HB.out)⟩
  replace c5:=Bool.eq_false_iff.mpr c5
  subst c5
  have H1:(some false)=some r:=by rw [if_neg (show ¬ (false=true) by decide)] at H;exact H
  clear H
  have H:=H1
  clear H1
  obtain rfl:=Option.some.inj H
  go_enter Try.func155,Try.ntmps155
  go_wp2_with (first|((with_reducible refine gate_dst (N:=1) rfl ?_);refine box_event ?hg (N:=1) ?hd (cs:=#[.int .i64 a0_0, .int .i64 a0_1, .int .i64 a0_2]) (t:=51) ?hr ?_;(case hd=>rfl);(case hg=>rfl);(case hr=>first|(go_simp;done)|(go_simp;rfl));intro gb149 hg w12 hbox hb;have n0_:=am (pu d0 hb);have n1_:=am (hbox);have n2_:=am ((by rw [hg];exact (pz d0):w.heap.size≤gb149));have n3_:=n2_;clear HB;have HB:=n0_;have BK149:=n1_;have GW149:=n2_;have GE149:=n3_;clear n0_ n1_ n2_ n3_;clear hb hbox hg;have hcz13_0:w12.cell? ⟨gb149,0,none⟩=some (.int .i64 a0_0):=(blk_cell BK149.out 0).trans rfl;have hcz13_1:w12.cell? ⟨gb149,1,none⟩=some (.int .i64 a0_1):=(blk_cell BK149.out 1).trans rfl;have hcz13_2:w12.cell? ⟨gb149,2,none⟩=some (.int .i64 a0_2):=(blk_cell BK149.out 2).trans rfl;have hfz13_0:=blk_frozen BK149.out 0;have hfz13_1:=blk_frozen BK149.out 1;have hfz13_2:=blk_frozen BK149.out 2)|((with_reducible refine gate_callee (f:=104) rfl ?_);refine goesL_ (some 5) rfl rfl Try.func104 d5 rfl #[.int .i64 a0_0, .int .i64 1, .int .i64 4] rfl d1 ?_;(with_reducible refine (impl_within.calls a0_0 1 4 true _ A2.out).mono ?_);rintro e w' ⟨rfl,⟨nd,rfl⟩⟩;refine ⟨_,rfl,?_⟩)|(go_at_call 104;(with_reducible refine (impl_within.calls a0_1 1 4 false _ A4.out).mono ?_);rintro e w' ⟨rfl,⟨nd,rfl⟩⟩))
  go_ret
  exact ⟨d2,by repeat (first|(with_reducible first|exact HB.out|apply pa|apply pb|apply pd|refine pt ?_ GE149.out)|exact HB.out)⟩
 replace c3:=Bool.eq_false_iff.mpr c3
 subst c3
 have H1:(some false)=some r:=by rw [if_neg (show ¬ (false=true) by decide)] at H;exact H
 clear H
 have H:=H1
 clear H1
 obtain rfl:=Option.some.inj H
 go_enter Try.func155,Try.ntmps155
 go_wp2_with (first|((with_reducible refine gate_dst (N:=1) rfl ?_);refine box_event ?hg (N:=1) ?hd (cs:=#[.int .i64 a0_0, .int .i64 a0_1, .int .i64 a0_2]) (t:=51) ?hr ?_;(case hd=>rfl);(case hg=>rfl);(case hr=>first|(go_simp;done)|(go_simp;rfl));intro gb149 hg w14 hbox hb;have n0_:=am (pu d0 hb);have n1_:=am (hbox);have n2_:=am ((by rw [hg];exact (pz d0):w.heap.size≤gb149));have n3_:=n2_;clear HB;have HB:=n0_;have BK149:=n1_;have GW149:=n2_;have GE149:=n3_;clear n0_ n1_ n2_ n3_;clear hb hbox hg;have hcz15_0:w14.cell? ⟨gb149,0,none⟩=some (.int .i64 a0_0):=(blk_cell BK149.out 0).trans rfl;have hcz15_1:w14.cell? ⟨gb149,1,none⟩=some (.int .i64 a0_1):=(blk_cell BK149.out 1).trans rfl;have hcz15_2:w14.cell? ⟨gb149,2,none⟩=some (.int .i64 a0_2):=(blk_cell BK149.out 2).trans rfl;have hfz15_0:=blk_frozen BK149.out 0;have hfz15_1:=blk_frozen BK149.out 1;have hfz15_2:=blk_frozen BK149.out 2)|((with_reducible refine gate_callee (f:=104) rfl ?_);refine goesL_ (some 5) rfl rfl Try.func104 d5 rfl #[.int .i64 a0_0, .int .i64 1, .int .i64 4] rfl d1 ?_;(with_reducible refine (impl_within.calls a0_0 1 4 false _ A2.out).mono ?_);rintro e w' ⟨rfl,⟨nd,rfl⟩⟩;refine ⟨_,rfl,?_⟩))
 go_ret
 exact ⟨d2,by repeat (first|(with_reducible first|exact HB.out|apply pa|apply pb|apply pd|refine pt ?_ GE149.out)|exact HB.out)⟩

def impl_GroupOf.j0:Nat→Int→Bool→Int→Int→Int→Option (Int × Bool)
 | 0,_,_,_,_,_=>none
 | k+1,x1,x6,x154000,x154001,x154002=>if x6=true then (some (0,false)) else ((impl_Local_data.f x154000 x154001 x154002).bind fun t157=>(if x1 < t157 then (if x154001=0 then (none) else (some (wrap64 (Int.tdiv x1 x154001),true))) else ((impl_Local_data.f x154000 x154001 x154002).bind fun t158=>(some (wrap64 (x1 - t158),true)))))
def impl_GroupOf.f (k:Nat) (a0_0:Int) (a0_1:Int) (a0_2:Int) (a1:Int):Option (Int × Bool):=(impl_GoodLocal.f a0_0 a0_1 a0_2).bind fun t154=>(if t154=true then ((impl_Local_data.f a0_0 a0_1 a0_2).bind fun t155=>((impl_within.f a1 0 (wrap64 ((wrap64 (t155+a0_0)) - 1))).bind fun t156=>(impl_GroupOf.j0 k a1 (!t156) a0_0 a0_1 a0_2))) else (impl_GroupOf.j0 k a1 true a0_0 a0_1 a0_2))
theorem impl_GroupOf.mono_l:∀ k,(∀ y0 y1 y2 y3 y4,LeO (impl_GroupOf.j0 k y0 y1 y2 y3 y4) (impl_GroupOf.j0 (k+1) y0 y1 y2 y3 y4))
 | 0=>fun _ _ _ _ _ r h=>by simp [impl_GroupOf.j0] at h
 | k+1=>by
  have ih0:=impl_GroupOf.mono_l k
  intro y0 y1 y2 y3 y4
  unfold impl_GroupOf.j0
  repeat' first
  | (with_reducible exact ih0 _ _ _ _ _)
  |(with_reducible exact LeO.refl _)|(with_reducible exact LeO.none _)|(with_reducible refine LeO.ite ?_ ?_)|(with_reducible refine LeO.bind ?_ (fun _=>?_))|exact ih0 _ _ _ _ _|exact LeO.none _|refine LeO.ite ?_ ?_|refine LeO.bind ?_ (fun _=>?_)
theorem impl_GroupOf.mono:∀ a0 a1 a2 a3 k,LeO (impl_GroupOf.f k a0 a1 a2 a3) (impl_GroupOf.f (k+1) a0 a1 a2 a3):=by
 intro a0 a1 a2 a3 k
 have ih0:=impl_GroupOf.mono_l k
 unfold impl_GroupOf.f
 repeat' first
   | (with_reducible exact ih0 _ _ _ _ _)
   |(with_reducible exact LeO.refl _)|(with_reducible exact LeO.none _)|(with_reducible refine LeO.ite ?_ ?_)|(with_reducible refine LeO.bind ?_ (fun _=>?_))|exact ih0 _ _ _ _ _|exact LeO.none _|refine LeO.ite ?_ ?_|refine LeO.bind ?_ (fun _=>?_)
def impl_GroupOf.T1:Bool × List (List Nat × List Nat):=(true,[([],[]),([0],[0]),([1],[1]),([2,1],[2]),([3],[3]),([3],[3]),([5,3,3],[3,5]),([3],[3]),([7,3],[3,7]),([6,8,3],[3,6,8]),([9,3],[3,9]),([4,10,6,3],[3,4,10]),([11,3],[3,11]),([3,12],[3,12]),([13,11],[13])])
def impl_GroupOf.B1:List Nat:=[0,1,3,7,15,15,47,15,143,495,1007,2047,4095,8191,16383]
theorem impl_GroupOf.tab1:rtab .any (opsOf Try.f131 1)=impl_GroupOf.T1:=by kernel_rfl
theorem impl_GroupOf.bits1:waitsOk impl_GroupOf.T1.2 impl_GroupOf.B1=true:=by kernel_rfl
theorem impl_GroupOf.calls (k:Nat) (a0_0:Int) (a0_1:Int) (a0_2:Int) (a1:Int) (r1:Int) (r2:Bool) (w:World) (h:impl_GroupOf.f k a0_0 a0_1 a0_2 a1=some (r1,r2)) :
  Calls Try.prog 131 #[.agg #[.int .i64 a0_0, .int .i64 a0_1, .int .i64 a0_2], .int .i64 a1] w fun e w'=>e = .returned (.tuple #[.int .i64 r1, .bool r2])∧Below w.heap.size w w':=by
 have hu51:=Try.underlying51
 have HB:=am (Below.refl w.heap.size w)
 have H:((impl_GoodLocal.f a0_0 a0_1 a0_2).bind fun t154=>(if t154=true then ((impl_Local_data.f a0_0 a0_1 a0_2).bind fun t155=>((impl_within.f a1 0 (wrap64 ((wrap64 (t155+a0_0)) - 1))).bind fun t156=>(impl_GroupOf.j0 k a1 (!t156) a0_0 a0_1 a0_2))) else (impl_GroupOf.j0 k a1 true a0_0 a0_1 a0_2)))=some (r1,r2):=h
 clear h
 have HC3:=am H
 clear H
 go_enter Try.func131,Try.ntmps131
 go_upto_region 1 with (first|((with_reducible refine gate_dst (N:=2) rfl ?_);refine box_event ?hg (N:=2) ?hd (cs:=#[.int .i64 a0_0, .int .i64 a0_1, .int .i64 a0_2]) (t:=51) ?hr ?_;(case hd=>rfl);(case hg=>rfl);(case hr=>first|(go_simp;done)|(go_simp;rfl));intro gb153 hg w4 hbox hb;have n0_:=am (pu d0 hb);have n1_:=am (hbox);have n2_:=am ((by rw [hg];exact (pz d0):w.heap.size≤gb153));have n3_:=n2_;clear HB;have HB:=n0_;have BK153:=n1_;have GW153:=n2_;have GE153:=n3_;clear n0_ n1_ n2_ n3_;clear hb hbox hg))
 (try simp only [Act.put,q1,q2,q3])
 go_cut [6] (fun v6 wc=>∃ (kq:Nat) (x6_2:Bool),v6 = .bool x6_2∧Aside0 (impl_GroupOf.j0 kq a1 x6_2 a0_0 a0_1 a0_2=some (r1,r2))∧Aside0 (kq≤k)∧Aside0 (wc.heap[gb153]? = some (.cells #[.int .i64 a0_0, .int .i64 a0_1, .int .i64 a0_2] 51 (0,0)))∧Aside0 (Below w.heap.size w wc))
 case first =>
  have H:=HC3.out
  clear HC3
  replace H:=Option.bind_eq_some_iff.mp H
  obtain ⟨t154,A50,H⟩:=H
  replace H:(if t154=true then ((impl_Local_data.f a0_0 a0_1 a0_2).bind fun t155=>((impl_within.f a1 0 (wrap64 ((wrap64 (t155+a0_0)) - 1))).bind fun t156=>(impl_GroupOf.j0 k a1 (!t156) a0_0 a0_1 a0_2))) else (impl_GroupOf.j0 k a1 true a0_0 a0_1 a0_2))=some (r1,r2):=H
  have A5:=am A50
  clear A50
  by_cases c6:t154=true
  ·subst c6
   have H1:((impl_Local_data.f a0_0 a0_1 a0_2).bind fun t155=>((impl_within.f a1 0 (wrap64 ((wrap64 (t155+a0_0)) - 1))).bind fun t156=>(impl_GroupOf.j0 k a1 (!t156) a0_0 a0_1 a0_2)))=some (r1,r2):=by rw [if_pos rfl] at H;exact H
   clear H
   have H:=H1
   clear H1
   replace H:=Option.bind_eq_some_iff.mp H
   obtain ⟨t155,A70,H⟩:=H
   replace H:((impl_within.f a1 0 (wrap64 ((wrap64 (t155+a0_0)) - 1))).bind fun t156=>(impl_GroupOf.j0 k a1 (!t156) a0_0 a0_1 a0_2))=some (r1,r2):=H
   have A7:=am A70
   clear A70
   replace H:=Option.bind_eq_some_iff.mp H
   obtain ⟨t156,A80,H⟩:=H
   replace H:(impl_GroupOf.j0 k a1 (!t156) a0_0 a0_1 a0_2)=some (r1,r2):=H
   have A8:=am A80
   clear A80
   have H':=am H
   clear H
   try go_wp2
   have n0_:=am (qd BK153.out)
   have n1_:=am (pd HB.out)
   clear BK153
   clear HB
   have BK153:=n0_
   have HB:=n1_
   clear n0_ n1_
   refine rS (n:=15) (S:=fun w'=>w'.cell? ⟨gb153,0,none⟩=some (.int .i64 a0_0)∧w'.cell? ⟨gb153,1,none⟩=some (.int .i64 a0_1)∧w'.cell? ⟨gb153,2,none⟩=some (.int .i64 a0_2)) (ds:=[]) [(0,7),(1,0),(2,9),(3,10),(4,11),(7,14),(5,12),(8,15),(6,0),(9,16),(10,17),(11,0),(12,19),(13,20),(14,6)] d5 rfl impl_GroupOf.tab1 impl_GroupOf.bits1 ⟨(blk_cell BK153.out 0).trans rfl,(blk_cell BK153.out 1).trans rfl,(blk_cell BK153.out 2).trans rfl⟩ (fun hHeld HT_ HW_=>?_)
   generalize w4.drew=w9 at BK153 HB hHeld ⊢
   refine rR ?_
   refine rO (N:=some 8) HT_ rfl rfl d5 d12 (fun K hK=>?_)
   refine goes_ Try.func155 d5 rfl #[.agg #[.int .i64 a0_0, .int .i64 a0_1, .int .i64 a0_2]] d28 rfl rfl d1 ?_
   with_reducible refine (impl_GoodLocal.calls a0_0 a0_1 a0_2 true _ A5.out).mono ?_
   rintro e w10 ⟨rfl,hb⟩
   refine ⟨_,rfl,?_⟩
   have n0_:=am (qb (g:=gb153) (o:=.cells #[.int .i64 a0_0, .int .i64 a0_1, .int .i64 a0_2] 51 (0,0)) (by (with_reducible repeat (first|refine qn ?_ _|refine qd ?_|refine qa ?_ _));exact BK153.out) hb)
   have n1_:=am (pu (by repeat (first|(with_reducible first|exact HB.out|apply pa|apply pb|apply pd|refine pt ?_ GE153.out)|exact HB.out)) hb)
   clear BK153
   clear HB
   have BK153:=n0_
   have HB:=n1_
   clear n0_ n1_
   (try clear hb)
   (try clear hb2)
   (try clear hk)
   (try clear hi)
   refine hK.out _ _ ⟨(blk_cell BK153.out 0).trans rfl,(blk_cell BK153.out 1).trans rfl,(blk_cell BK153.out 2).trans rfl⟩ (fun hHeld=>?_)
   clear hK K
   refine rN (a':=?_) ?_ ?_
   rotate_left
   ·show Act.put _ (some 8) _=_
    simp only [Act.put,q1,q2,q3,i64_w,i32_w]
    rfl
   refine rR ?_
   refine rO (N:=some 13) HT_ rfl rfl d5 d12 (fun K hK=>?_)
   refine goes_ Try.func132 d5 rfl #[.agg #[.int .i64 a0_0, .int .i64 a0_1, .int .i64 a0_2]] d28 rfl rfl d1 ?_
   with_reducible refine (impl_Local_data.calls a0_0 a0_1 a0_2 t155 _ A7.out).mono ?_
   rintro e w11 ⟨rfl,hb⟩
   refine ⟨_,rfl,?_⟩
   have n0_:=am (qb (g:=gb153) (o:=.cells #[.int .i64 a0_0, .int .i64 a0_1, .int .i64 a0_2] 51 (0,0)) (by (with_reducible repeat (first|refine qn ?_ _|refine qd ?_|refine qa ?_ _));exact BK153.out) hb)
   have n1_:=am (pu (by repeat (first|(with_reducible first|exact HB.out|apply pa|apply pb|apply pd|refine pt ?_ GE153.out)|exact HB.out)) hb)
   clear BK153
   clear HB
   have BK153:=n0_
   have HB:=n1_
   clear n0_ n1_
   (try clear hb)
   (try clear hb2)
   (try clear hk)
   (try clear hi)
   refine hK.out _ _ ⟨(blk_cell BK153.out 0).trans rfl,(blk_cell BK153.out 1).trans rfl,(blk_cell BK153.out 2).trans rfl⟩ (fun hHeld=>?_)
   clear hK K
   refine rN (a':=?_) ?_ ?_
   rotate_left
   ·show Act.put _ (some 13) _=_
    simp only [Act.put,q1,q2,q3,i64_w,i32_w]
    rfl
   refine rR ?_
   refine rO (N:=some 18) HT_ rfl rfl d5 d12 (fun K hK=>?_)
   refine goes_ Try.func104 d5 rfl #[.int .i64 a1, .int .i64 0, .int .i64 (wrap64 ((wrap64 (t155+a0_0)) - 1))] d28 rfl rfl d1 ?_
   with_reducible refine (impl_within.calls a1 0 (wrap64 ((wrap64 (t155+a0_0)) - 1)) t156 _ A8.out).mono ?_
   rintro e w' ⟨rfl,⟨nd,rfl⟩⟩
   refine ⟨_,rfl,?_⟩
   refine hK.out _ _ ⟨(blk_cell BK153.out 0).trans rfl,(blk_cell BK153.out 1).trans rfl,(blk_cell BK153.out 2).trans rfl⟩ (fun hHeld=>?_)
   clear hK K
   refine rN (a':=?_) ?_ ?_
   rotate_left
   ·show Act.put _ (some 18) _=_
    simp only [Act.put,q1,q2,q3,i64_w,i32_w]
    rfl
   refine rR ?_
   refine rD HT_ d5 ?_
   try go_wp2
   go_meet
   case rel=>exact ⟨_,(!t156),d4,H',⟨d25⟩,⟨by (with_reducible repeat (first|refine qn ?_ _|refine qd ?_|refine qa ?_ _));exact BK153.out⟩,⟨by repeat (first|(with_reducible first|exact HB.out|apply pa|apply pb|apply pd|refine pt ?_ GE153.out)|exact HB.out)⟩⟩
  replace c6:=Bool.eq_false_iff.mpr c6
  subst c6
  have H1:(impl_GroupOf.j0 k a1 true a0_0 a0_1 a0_2)=some (r1,r2):=by rw [if_neg (show ¬ (false=true) by decide)] at H;exact H
  clear H
  have H:=H1
  clear H1
  have H':=am H
  clear H
  try go_wp2
  have n0_:=am (qd BK153.out)
  have n1_:=am (pd HB.out)
  clear BK153
  clear HB
  have BK153:=n0_
  have HB:=n1_
  clear n0_ n1_
  refine rS (n:=15) (S:=fun w'=>w'.cell? ⟨gb153,0,none⟩=some (.int .i64 a0_0)∧w'.cell? ⟨gb153,1,none⟩=some (.int .i64 a0_1)∧w'.cell? ⟨gb153,2,none⟩=some (.int .i64 a0_2)) (ds:=[]) [(0,7),(1,0),(2,9),(3,10),(4,11),(5,12),(6,13),(7,14),(8,15),(9,16),(10,17),(11,18),(12,19),(13,20),(14,6)] d5 rfl impl_GroupOf.tab1 impl_GroupOf.bits1 ⟨(blk_cell BK153.out 0).trans rfl,(blk_cell BK153.out 1).trans rfl,(blk_cell BK153.out 2).trans rfl⟩ (fun hHeld HT_ HW_=>?_)
  generalize w4.drew=w12 at BK153 HB hHeld ⊢
  refine rR ?_
  refine rO (N:=some 8) HT_ rfl rfl d5 d12 (fun K hK=>?_)
  refine goes_ Try.func155 d5 rfl #[.agg #[.int .i64 a0_0, .int .i64 a0_1, .int .i64 a0_2]] d28 rfl rfl d1 ?_
  with_reducible refine (impl_GoodLocal.calls a0_0 a0_1 a0_2 false _ A5.out).mono ?_
  rintro e w13 ⟨rfl,hb⟩
  refine ⟨_,rfl,?_⟩
  have n0_:=am (qb (g:=gb153) (o:=.cells #[.int .i64 a0_0, .int .i64 a0_1, .int .i64 a0_2] 51 (0,0)) (by (with_reducible repeat (first|refine qn ?_ _|refine qd ?_|refine qa ?_ _));exact BK153.out) hb)
  have n1_:=am (pu (by repeat (first|(with_reducible first|exact HB.out|apply pa|apply pb|apply pd|refine pt ?_ GE153.out)|exact HB.out)) hb)
  clear BK153
  clear HB
  have BK153:=n0_
  have HB:=n1_
  clear n0_ n1_
  (try clear hb)
  (try clear hb2)
  (try clear hk)
  (try clear hi)
  refine hK.out _ _ ⟨(blk_cell BK153.out 0).trans rfl,(blk_cell BK153.out 1).trans rfl,(blk_cell BK153.out 2).trans rfl⟩ (fun hHeld=>?_)
  clear hK K
  refine rN (a':=?_) ?_ ?_
  rotate_left
  ·show Act.put _ (some 8) _=_
   simp only [Act.put,q1,q2,q3,i64_w,i32_w]
   rfl
  refine rR ?_
  refine rD HT_ d5 ?_
  try go_wp2
  go_meet
  case rel=>exact ⟨_,(true),d4,H',⟨d25⟩,⟨by (with_reducible repeat (first|refine qn ?_ _|refine qd ?_|refine qa ?_ _));exact BK153.out⟩,⟨by repeat (first|(with_reducible first|exact HB.out|apply pa|apply pb|apply pd|refine pt ?_ GE153.out)|exact HB.out)⟩⟩
 case rest =>
  clear HC3
  try clear c1
  try clear p2
  try clear c6
  try clear p6
  try clear c10
  try clear c13
  obtain ⟨kq,x6_2,rfl,HA,HJ2,BK153,HB⟩:=hcut
  cases kq with
  | zero=>exact absurd HA.out (by simp [impl_GroupOf.j0])
  | succ kj2 =>
   have H:=HA.out
   clear HA
   simp only [impl_GroupOf.j0] at H
   by_cases c14:x6_2=true
   ·subst c14
    have H1:(some (0,false))=some (r1,r2):=by rw [if_pos rfl] at H;exact H
    clear H
    have H:=H1
    clear H1
    simp only [Option.some.injEq,Prod.mk.injEq] at H
    obtain ⟨rfl,rfl⟩:=H
    go_wp2
    go_ret2
    exact ⟨d2,by repeat (first|(with_reducible first|exact HB.out|apply pa|apply pb|apply pd|refine pt ?_ GE153.out)|exact HB.out)⟩
   replace c14:=Bool.eq_false_iff.mpr c14
   subst c14
   have H1:((impl_Local_data.f a0_0 a0_1 a0_2).bind fun t157=>(if a1 < t157 then (if a0_1=0 then (none) else (some (wrap64 (Int.tdiv a1 a0_1),true))) else ((impl_Local_data.f a0_0 a0_1 a0_2).bind fun t158=>(some (wrap64 (a1 - t158),true)))))=some (r1,r2):=by rw [if_neg (show ¬ (false=true) by decide)] at H;exact H
   clear H
   have H:=H1
   clear H1
   replace H:=Option.bind_eq_some_iff.mp H
   obtain ⟨t157,A150,H⟩:=H
   replace H:(if a1 < t157 then (if a0_1=0 then (none) else (some (wrap64 (Int.tdiv a1 a0_1),true))) else ((impl_Local_data.f a0_0 a0_1 a0_2).bind fun t158=>(some (wrap64 (a1 - t158),true))))=some (r1,r2):=H
   have A15:=am A150
   clear A150
   by_cases c16:a1 < t157
   ·rw [if_pos c16] at H
    have c16b0:decide (a1 < t157)=true:=decide_eq_true c16
    clear c16
    by_cases c17:a0_1=0
    ·rw [if_pos c17] at H
     exact absurd H d24
    rw [if_neg c17] at H
    have c17b0:(a0_1 == 0)=false:=beq_eq_false_iff_ne.mpr c17
    have c17b1:(a0_1 != 0)=true:=bne_iff_ne.mpr c17
    simp only [Option.some.injEq,Prod.mk.injEq] at H
    obtain ⟨rfl,rfl⟩:=H
    have hcz18_0:wc.cell? ⟨gb153,0,none⟩=some (.int .i64 a0_0):=(blk_cell BK153.out 0).trans rfl
    have hcz18_1:wc.cell? ⟨gb153,1,none⟩=some (.int .i64 a0_1):=(blk_cell BK153.out 1).trans rfl
    have hcz18_2:wc.cell? ⟨gb153,2,none⟩=some (.int .i64 a0_2):=(blk_cell BK153.out 2).trans rfl
    have hfz18_0:=blk_frozen BK153.out 0
    have hfz18_1:=blk_frozen BK153.out 1
    have hfz18_2:=blk_frozen BK153.out 2
    go_wp2_with (first|((with_reducible refine gate_callee (f:=132) rfl ?_);refine goesL_ (some 24) rfl rfl Try.func132 d5 rfl #[.agg #[.int .i64 a0_0, .int .i64 a0_1, .int .i64 a0_2]] rfl d1 ?_;(with_reducible refine (impl_Local_data.calls a0_0 a0_1 a0_2 t157 _ A15.out).mono ?_);rintro e w19 ⟨rfl,hb⟩;refine ⟨_,rfl,?_⟩;have n0_:=am (qb (g:=gb153) (o:=.cells #[.int .i64 a0_0, .int .i64 a0_1, .int .i64 a0_2] 51 (0,0)) (by (with_reducible repeat (first|refine qn ?_ _|refine qd ?_|refine qa ?_ _));exact BK153.out) hb);have n1_:=am (pu (by repeat (first|(with_reducible first|exact HB.out|apply pa|apply pb|apply pd|refine pt ?_ GE153.out)|exact HB.out)) hb);clear BK153;clear HB;have BK153:=n0_;have HB:=n1_;clear n0_ n1_;(try clear hb);(try clear hb2);(try clear hk);(try clear hi);have hcz20_0:w19.cell? ⟨gb153,0,none⟩=some (.int .i64 a0_0):=(blk_cell BK153.out 0).trans rfl;have hcz20_1:w19.cell? ⟨gb153,1,none⟩=some (.int .i64 a0_1):=(blk_cell BK153.out 1).trans rfl;have hcz20_2:w19.cell? ⟨gb153,2,none⟩=some (.int .i64 a0_2):=(blk_cell BK153.out 2).trans rfl;have hfz20_0:=blk_frozen BK153.out 0;have hfz20_1:=blk_frozen BK153.out 1;have hfz20_2:=blk_frozen BK153.out 2))
    go_ret2
    exact ⟨d2,by repeat (first|(with_reducible first|exact HB.out|apply pa|apply pb|apply pd|refine pt ?_ GE153.out)|exact HB.out)⟩
   rw [if_neg c16] at H
   have c16b0:decide (a1 < t157)=false:=decide_eq_false c16
   clear c16
   replace H:=Option.bind_eq_some_iff.mp H
   obtain ⟨t158,A210,H⟩:=H
   replace H:(some (wrap64 (a1 - t158),true))=some (r1,r2):=H
   have A21:=am A210
   clear A210
   simp only [Option.some.injEq,Prod.mk.injEq] at H
   obtain ⟨rfl,rfl⟩:=H
   have hcz22_0:wc.cell? ⟨gb153,0,none⟩=some (.int .i64 a0_0):=(blk_cell BK153.out 0).trans rfl
   have hcz22_1:wc.cell? ⟨gb153,1,none⟩=some (.int .i64 a0_1):=(blk_cell BK153.out 1).trans rfl
   have hcz22_2:wc.cell? ⟨gb153,2,none⟩=some (.int .i64 a0_2):=(blk_cell BK153.out 2).trans rfl
   have hfz22_0:=blk_frozen BK153.out 0
   have hfz22_1:=blk_frozen BK153.out 1
   have hfz22_2:=blk_frozen BK153.out 2
   go_wp2_with (first|((with_reducible refine gate_callee (f:=132) rfl ?_);refine goesL_ (some 24) rfl rfl Try.func132 d5 rfl #[.agg #[.int .i64 a0_0, .int .i64 a0_1, .int .i64 a0_2]] rfl d1 ?_;(with_reducible refine (impl_Local_data.calls a0_0 a0_1 a0_2 t157 _ A15.out).mono ?_);rintro e w23 ⟨rfl,hb⟩;refine ⟨_,rfl,?_⟩;have n0_:=am (qb (g:=gb153) (o:=.cells #[.int .i64 a0_0, .int .i64 a0_1, .int .i64 a0_2] 51 (0,0)) (by (with_reducible repeat (first|refine qn ?_ _|refine qd ?_|refine qa ?_ _));exact BK153.out) hb);have n1_:=am (pu (by repeat (first|(with_reducible first|exact HB.out|apply pa|apply pb|apply pd|refine pt ?_ GE153.out)|exact HB.out)) hb);clear BK153;clear HB;have BK153:=n0_;have HB:=n1_;clear n0_ n1_;(try clear hb);(try clear hb2);(try clear hk);(try clear hi);have hcz24_0:w23.cell? ⟨gb153,0,none⟩=some (.int .i64 a0_0):=(blk_cell BK153.out 0).trans rfl;have hcz24_1:w23.cell? ⟨gb153,1,none⟩=some (.int .i64 a0_1):=(blk_cell BK153.out 1).trans rfl;have hcz24_2:w23.cell? ⟨gb153,2,none⟩=some (.int .i64 a0_2):=(blk_cell BK153.out 2).trans rfl;have hfz24_0:=blk_frozen BK153.out 0;have hfz24_1:=blk_frozen BK153.out 1;have hfz24_2:=blk_frozen BK153.out 2)|((with_reducible refine gate_callee (f:=132) rfl ?_);refine goesL_ (some 32) rfl rfl Try.func132 d5 rfl #[.agg #[.int .i64 a0_0, .int .i64 a0_1, .int .i64 a0_2]] rfl d1 ?_;(with_reducible refine (impl_Local_data.calls a0_0 a0_1 a0_2 t158 _ A21.out).mono ?_);rintro e w25 ⟨rfl,hb⟩;refine ⟨_,rfl,?_⟩;have n0_:=am (qb (g:=gb153) (o:=.cells #[.int .i64 a0_0, .int .i64 a0_1, .int .i64 a0_2] 51 (0,0)) (by (with_reducible repeat (first|refine qn ?_ _|refine qd ?_|refine qa ?_ _));exact BK153.out) hb);have n1_:=am (pu (by repeat (first|(with_reducible first|exact HB.out|apply pa|apply pb|apply pd|refine pt ?_ GE153.out)|exact HB.out)) hb);clear BK153;clear HB;have BK153:=n0_;have HB:=n1_;clear n0_ n1_;(try clear hb);(try clear hb2);(try clear hk);(try clear hi)))
   go_ret2
   exact ⟨d2,by repeat (first|(with_reducible first|exact HB.out|apply pa|apply pb|apply pd|refine pt ?_ GE153.out)|exact HB.out)⟩

end Go.Proofs.Yteflgifmdojahaa.PFnExactMendLocal
-- HALVED
-- SQUEEZED
-- SQUEEZED2
-- SQUEEZED3
-- SQUEEZED4
-- SQUEEZED5
-- SQUEEZED6
