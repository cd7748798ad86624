-- Laid by a program of this session.
import Derived.Test.YtajikfnpcobnpaaPFnExactDecodeMsrx0
import Derived.Test.YtajikfnpcobnpaaPFnExactDecodeMsrx1
namespace Go.Proofs.Ytajikfnpcobnpaa.PFnExactDecodeMsr
open Go.RowKit Go.Proofs.YtajikfnpcobnpaaW.PrintWords Go.Proofs.YtajikfnpcobnpaaW.PrintLast Go.Proofs.YtajikfnpcobnpaaW.PrintMore
attribute [local go_sem] max2_int min2_int max_two min_two max_three min_three max_four min_four   -- for this text's walks alone
set_option linter.unusedVariables false
set_option maxHeartbeats 8000000
set_option maxRecDepth 100000
set_option linter.unusedSimpArgs false

def laws_toByteS.l0:Nat→List Int→List Int→Int→Option (List Int)
 | 0,_,_,_=>none
 | k+1,x0,x3,x4=>if x4 < (x0.length:Int) then (if 0≤x4 then (if x4 < (x3.length:Int) then (laws_toByteS.l0 k x0 (x3.set (x4:Int).toNat (rd x0 x4)) (wrap64 (x4+1))) else (none)) else (none)) else (some x3)
def laws_toByteS.f (k:Nat) (l0:List Int):Option (List Int):=if 0≤(l0.length:Int) then (if ((l0.length:Int):Int).toNat≤281474976710656 then (laws_toByteS.l0 k l0 (List.replicate ((l0.length:Int):Int).toNat 0) 0) else (none)) else (none)
theorem laws_toByteS.mono_l:∀ k,(∀ y0 y1 y2,LeO (laws_toByteS.l0 k y0 y1 y2) (laws_toByteS.l0 (k+1) y0 y1 y2))
 | 0=>fun _ _ _ r h=>by simp [laws_toByteS.l0] at h
 | k+1=>by
  have ih0:=laws_toByteS.mono_l k
  intro y0 y1 y2
  unfold laws_toByteS.l0
  repeat' first
  | (with_reducible exact ih0 _ _ _)
  |(with_reducible exact LeO.refl _)|(with_reducible exact LeO.none _)|(with_reducible refine LeO.ite ?_ ?_)|(with_reducible refine LeO.bind ?_ (fun _=>?_))|exact ih0 _ _ _|exact LeO.none _|refine LeO.ite ?_ ?_|refine LeO.bind ?_ (fun _=>?_)
theorem laws_toByteS.mono:∀ a0 k,LeO (laws_toByteS.f k a0) (laws_toByteS.f (k+1) a0):=by
 intro a0 k
 have ih0:=laws_toByteS.mono_l k
 unfold laws_toByteS.f
 repeat' first
   | (with_reducible exact ih0 _ _ _)
   |(with_reducible exact LeO.refl _)|(with_reducible exact LeO.none _)|(with_reducible refine LeO.ite ?_ ?_)|(with_reducible refine LeO.bind ?_ (fun _=>?_))|exact ih0 _ _ _|exact LeO.none _|refine LeO.ite ?_ ?_|refine LeO.bind ?_ (fun _=>?_)
theorem laws_toByteS.calls (k:Nat) (A0:Option Addr) (c0:Nat) (l0:List Int) (r:List Int) (w:World) (hr0:Kd.C (Kd.int .u8) w A0 l0.length l0) (hc0:l0.length≤c0) (h:laws_toByteS.f k l0=some r) :
  Calls Try.prog 38 #[.slice A0 l0.length c0] w fun e w'=>∃ v0_:Value,e = .returned (v0_)∧Kd.R (Kd.int .u8) 5 w' w.heap.size (fun _=>True) v0_ r∧Below w.heap.size w w':=by
 have HR0:=am hr0
 have HC0:=am hc0
 clear hr0 hc0
 have HB:=am (Below.refl w.heap.size w)
 have H:(if 0≤(l0.length:Int) then (if ((l0.length:Int):Int).toNat≤281474976710656 then (laws_toByteS.l0 k l0 (List.replicate ((l0.length:Int):Int).toNat 0) 0) else (none)) else (none))=some r:=h
 clear h
 by_cases c2:0≤(l0.length:Int)
 ·rw [if_pos c2] at H
  have c2b0:=eq_true c2
  have c2b1:decide (0≤(l0.length:Int))=true:=decide_eq_true c2
  clear c2
  by_cases c3:((l0.length:Int):Int).toNat≤281474976710656
  ·rw [if_pos c3] at H
   have c3b0:=eq_true c3
   have c3b1:decide (((l0.length:Int):Int).toNat≤281474976710656)=true:=decide_eq_true c3
   clear c3
   obtain ⟨y281,hy281⟩:∃ y_:List Int,y_=(List.replicate ((l0.length:Int):Int).toNat 0):=⟨_,rfl⟩
   replace H:(laws_toByteS.l0 k l0 y281 0)=some r:=by first|(rw [hy281];with_reducible exact H)|(have H2_:=(Option.bind_some _ _).symm.trans H;rw [hy281];with_reducible exact H2_)|(have H2_:=(Option.bind_some _ _).symm.trans H;with_reducible exact H2_)|with_reducible exact H|(rw [hy281];exact H)|exact H
   have Ny281:=am hy281
   clear hy281
   have H':=am H
   clear H
   go_enter Try.func38,Try.ntmps38
   go_wp2_with (first|((with_reducible refine gate_dst (N:=7) rfl ?_);refine Kd.R_make (Kd.int .u8) _ 5 rfl (N:=7) rfl 57 _ _ rfl (l0.length:Int) rfl rfl Try.underlying57 (.int .u8 0) 1 info5 rfl d11 d10 0 (ok:=fun _=>True) (okp:=fun _=>True) rfl (fun _ hk=>hk) trivial (od d1) (Nat.le_trans (Nat.mul_le_mul_right _ (od d1:(l0.length:Int).toNat≤281474976710656)) d10) (Below.refl _ _) (Nat.le_refl _) ?_;intro v282 w4 ho5 hb hg_ hnew_;clear hg_ hnew_;(first|rw [← Ny281.out] at ho5|(simp only [Int.reduceToNat] at ho5;rw [← Ny281.out] at ho5));have n0_:=am (Kd.R_lower ho5 (pz d0));have n1_:=am (pu d0 hb);clear HB;have HO283:=n0_;have HB:=n1_;clear n0_ n1_;clear hb ho5))
   go_loopg [4] k (fun kq v4 w'=>∃ (x3_1:List Int) (x4_1:Int),v4 = .int .i64 x4_1∧Aside0 (laws_toByteS.l0 kq l0 x3_1 x4_1=some r)∧Aside0 (kq≤k)∧Aside0 (Kd.R (Kd.int .u8) 5 w' w.heap.size (fun _=>True) v282 x3_1)∧Aside0 (Below w.heap.size w w'))
   case atStart=>exact ⟨(y281),(0),d2,H',⟨Nat.le_refl _⟩,⟨by (with_reducible repeat (first|apply Kd.R_alloc|apply Kd.R_drewN|apply Kd.R_drew));exact HO283.out⟩,⟨d0⟩⟩
   case round =>
    clear H'
    try clear c2
    try clear c2b0
    try clear c2b1
    try clear p2
    try clear c3
    try clear c3b0
    try clear c3b1
    obtain ⟨x3_1,x4_1,rfl,HA,HK1,HO_3,HB⟩:=hrel
    cases gk with
    | zero=>exact absurd HA.out (by simp [laws_toByteS.l0])
    | succ k1 =>
     have H:=HA.out
     clear HA
     simp only [laws_toByteS.l0] at H
     by_cases c6:x4_1 < (l0.length:Int)
     ·rw [if_pos c6] at H
      have c6b0:decide (x4_1 < (l0.length:Int))=true:=decide_eq_true c6
      clear c6
      by_cases c7:0≤x4_1
      ·rw [if_pos c7] at H
       have c7b0:decide (0≤x4_1)=true:=decide_eq_true c7
       clear c7
       by_cases c8:x4_1 < (x3_1.length:Int)
       ·rw [if_pos c8] at H
        have c8b0:decide (x4_1 < (x3_1.length:Int))=true:=decide_eq_true c8
        clear c8
        obtain ⟨y285,hy285⟩:∃ y_:List Int,y_=(x3_1.set (x4_1:Int).toNat (rd l0 x4_1)):=⟨_,rfl⟩
        replace H:(laws_toByteS.l0 k1 l0 y285 (wrap64 (x4_1+1)))=some r:=by first|(rw [hy285];with_reducible exact H)|(have H2_:=(Option.bind_some _ _).symm.trans H;rw [hy285];with_reducible exact H2_)|(have H2_:=(Option.bind_some _ _).symm.trans H;with_reducible exact H2_)|with_reducible exact H|(rw [hy285];exact H)|exact H
        have Ny285:=am hy285
        clear hy285
        have H':=am H
        clear H
        have p284:0≤(x4_1:Int):=od d1
        have q284:x4_1 < (l0.length:Int):=od d1
        obtain ⟨ad284,e284,hx284_0⟩:=Kd.at_int HR0.out x4_1 p284 q284
        cases e284
        replace hx284_0:=(HB.out.cell (World.block_lt_of_cell? w _ hx284_0)).trans hx284_0
        replace p284:=eq_true p284
        replace q284:=eq_true q284
        have p9:0≤(x4_1:Int):=od d1
        have q9:(x4_1:Int) < ((x3_1.length:Int):Int):=od d1
        obtain ⟨go9,co9,eo9,gb9,gl9,cl9,HG9⟩:=Kd.R_form HO_3.out d10
        (first|cases eo9|(injection eo9 with ea_ en_ ec_;(first|subst ea_|(injection ea_ with ea_;subst ea_));subst ec_;clear en_))
        have GB9:=am gb9
        have GG9:=am HG9
        clear gb9 gl9 HG9
        obtain ⟨hx9_0,hf9_0⟩:=Kd.R_celln 0 HO_3.out (x4_1:Int) p9 q9
        replace p9:=eq_true p9
        replace q9:=eq_true q9
        have HP10:=Kd.R_putg HO_3.out (x4_1:Int) (rd l0 x4_1)
        go_wp2_with (first|((with_reducible refine gate_store (t:=5) (p:=20) rfl ?_);refine store_event (t:=5) (p:=20) (v:=?vo_w11) (w1:=(wr.setCell ⟨go9,(x4_1:Int).toNat,none⟩ (.int .u8 (rd l0 x4_1)))) ?hg ?ho ?hn ?hr ?_;(case ho=>rfl);(case hg=>rfl);(case hn=>rfl);(case hr=>first|(go_simp;done)|(go_simp;rfl));intro w11 hw;have hg:wr.grownBy w11 (some go9):=(by rw [hw];exact HP10.2);have hp_:Kd.R (Kd.int .u8) 5 w11 w.heap.size (fun _=>True) (.slice (some ⟨go9,0,none⟩) x3_1.length co9) y285:=(by rw [hw,Ny285.out];exact HP10.1);clear HP10;have n0_:=am (hp_);have n1_:=am ((by rw [hw];exact pt (HB.out) GB9.out:Below w.heap.size w w11));clear HO_3;clear HB;have HO_3:=n0_;have HB:=n1_;clear n0_ n1_;clear hg hw hp_))
        go_roundg k1
        case measure=>have:=HK1.out;omega
        case rel=>exact ⟨(y285),(wrap64 (x4_1+1)),d2,H',⟨d30⟩,⟨by (with_reducible repeat (first|apply Kd.R_alloc|apply Kd.R_drewN|apply Kd.R_drew));exact HO_3.out⟩,⟨d0⟩⟩
       rw [if_neg c8] at H
       exact absurd H d20
      rw [if_neg c7] at H
      exact absurd H d20
     rw [if_neg c6] at H
     have c6b0:decide (x4_1 < (l0.length:Int))=false:=decide_eq_false c6
     clear c6
     obtain rfl:=Option.some.inj H
     go_wp2
     go_ret
     exact ⟨_,d4,by (with_reducible repeat (first|apply Kd.R_alloc|apply Kd.R_drewN|apply Kd.R_drew));exact HO_3.out,d0⟩
  rw [if_neg c3] at H
  exact absurd H d20
 rw [if_neg c2] at H
 exact absurd H d20

def laws_toPiece.f (k:Nat) (a0_0:Int) (l0_1:List Int):Option (Int × List Int):=(laws_toByteS.f k l0_1).bind fun t289=>(some (a0_0,t289))
theorem laws_toPiece.mono:∀ a0 a1 k,LeO (laws_toPiece.f k a0 a1) (laws_toPiece.f (k+1) a0 a1):=by
 intro a0 a1 k
 unfold laws_toPiece.f
 repeat' first
   | (with_reducible exact laws_toByteS.mono _ _)
   |(with_reducible exact LeO.refl _)|(with_reducible exact LeO.none _)|(with_reducible refine LeO.ite ?_ ?_)|(with_reducible refine LeO.bind ?_ (fun _=>?_))|exact laws_toByteS.mono _ _|exact LeO.none _|refine LeO.ite ?_ ?_|refine LeO.bind ?_ (fun _=>?_)
theorem laws_toPiece.calls (k:Nat) (a0_0:Int) (A0_1:Option Addr) (c0_1:Nat) (l0_1:List Int) (r1:Int) (r2:List Int) (w:World) (hr0_1:Kd.C (Kd.int .u8) w A0_1 l0_1.length l0_1) (hc0_1:l0_1.length≤c0_1) (h:laws_toPiece.f k a0_0 l0_1=some (r1,r2)) :
  Calls Try.prog 151 #[.agg #[.int .i64 a0_0, .slice A0_1 l0_1.length c0_1]] w fun e w'=>∃ v1_:Value,e = .returned (.agg #[.int .i64 r1,v1_])∧Kd.R (Kd.int .u8) 5 w' w.heap.size (fun _=>True) v1_ r2∧Below w.heap.size w w':=by
 have hu169:=Try.underlying169
 have hu69:=Try.underlying69
 have HR0_1:=am hr0_1
 have HC0_1:=am hc0_1
 clear hr0_1 hc0_1
 have HB:=am (Below.refl w.heap.size w)
 have H:((laws_toByteS.f k l0_1).bind fun t289=>(some (a0_0,t289)))=some (r1,r2):=h
 clear h
 replace H:=Option.bind_eq_some_iff.mp H
 obtain ⟨t289,A20,H⟩:=H
 replace H:(some (a0_0,t289))=some (r1,r2):=H
 have A2:=am A20
 clear A20
 simp only [Option.some.injEq,Prod.mk.injEq] at H
 obtain ⟨rfl,rfl⟩:=H
 go_enter Try.func151,Try.ntmps151
 go_wp2_with (first|((with_reducible refine gate_dst (N:=1) rfl ?_);refine box_event ?hg (N:=1) ?hd (cs:=#[.int .i64 a0_0, .slice A0_1 l0_1.length c0_1]) (t:=169) ?hr ?_;(case hd=>rfl);(case hg=>rfl);(case hr=>first|(go_simp;done)|(go_simp;rfl));intro gb286 hg w3 hbox hb;have n0_:=am (pu d0 hb);have n1_:=am (hbox);have n2_:=am ((by rw [hg];exact (pz d0):w.heap.size≤gb286));have n3_:=n2_;clear HB;have HB:=n0_;have BK286:=n1_;have GW286:=n2_;have GE286:=n3_;clear n0_ n1_ n2_ n3_;clear hb hbox hg)|((with_reducible refine gate_dst (N:=2) rfl ?_);refine box_event ?hg (N:=2) ?hd (cs:=#[.int .i64 0, .slice none 0 0]) (t:=69) ?hr ?_;(case hd=>rfl);(case hg=>rfl);(case hr=>first|(go_simp;done)|(go_simp;rfl));intro gb287 hg w4 hbox hb;have n0_:=am (qb (g:=gb286) (o:=.cells #[.int .i64 a0_0, .slice A0_1 l0_1.length c0_1] 169 (0,0)) (by (with_reducible repeat (first|refine qn ?_ _|refine qd ?_|refine qa ?_ _));exact BK286.out) hb);have n1_:=am (pu (by repeat (first|(with_reducible first|exact HB.out|apply pa|apply pb|apply pd|refine pt ?_ GE286.out)|exact HB.out)) hb);have n2_:=am (hbox);have n3_:=am ((by rw [hg];exact (pz (by repeat (first|(with_reducible first|exact HB.out|apply pa|apply pb|apply pd|refine pt ?_ GE286.out)|exact HB.out))):w.heap.size≤gb287));have n4_:=n3_;have n5_:=am ((by rw [hg];exact Nat.ne_of_lt (blk_lt (g:=gb286) (o:=.cells #[.int .i64 a0_0, .slice A0_1 l0_1.length c0_1] 169 (0,0)) (by (with_reducible repeat (first|refine qn ?_ _|refine qd ?_|refine qa ?_ _));exact BK286.out)):gb286 ≠ gb287));have n6_:=am ((by rw [hg];exact Nat.ne_of_gt (blk_lt (g:=gb286) (o:=.cells #[.int .i64 a0_0, .slice A0_1 l0_1.length c0_1] 169 (0,0)) (by (with_reducible repeat (first|refine qn ?_ _|refine qd ?_|refine qa ?_ _));exact BK286.out)):gb287 ≠ gb286));clear BK286;clear HB;have BK286:=n0_;have HB:=n1_;have BK287:=n2_;have GW287:=n3_;have GE287:=n4_;have NB286_287:=n5_;have NB287_286:=n6_;clear n0_ n1_ n2_ n3_ n4_ n5_ n6_;clear hb hbox hg)|((with_reducible refine gate_dst (N:=3) rfl ?_);refine box_event ?hg (N:=3) ?hd (cs:=#[.int .i64 0, .slice none 0 0]) (t:=69) ?hr ?_;(case hd=>rfl);(case hg=>rfl);(case hr=>first|(go_simp;done)|(go_simp;rfl));intro gb288 hg w5 hbox hb;have n0_:=am (qb (g:=gb286) (o:=.cells #[.int .i64 a0_0, .slice A0_1 l0_1.length c0_1] 169 (0,0)) (by (with_reducible repeat (first|refine qn ?_ _|refine qd ?_|refine qa ?_ _));exact BK286.out) hb);have n1_:=am (qb (g:=gb287) (o:=.cells #[.int .i64 0, .slice none 0 0] 69 (0,0)) (by (with_reducible repeat (first|refine qn ?_ _|refine qd ?_|refine qa ?_ _));exact BK287.out) hb);have n2_:=am (pu (by repeat (first|(with_reducible first|exact HB.out|apply pa|apply pb|apply pd|refine pt ?_ GE286.out|refine pt ?_ GE287.out)|exact HB.out)) hb);have n3_:=am (hbox);have n4_:=am ((by rw [hg];exact (pz (by repeat (first|(with_reducible first|exact HB.out|apply pa|apply pb|apply pd|refine pt ?_ GE286.out|refine pt ?_ GE287.out)|exact HB.out))):w.heap.size≤gb288));have n5_:=n4_;have n6_:=am ((by rw [hg];exact Nat.ne_of_lt (blk_lt (g:=gb286) (o:=.cells #[.int .i64 a0_0, .slice A0_1 l0_1.length c0_1] 169 (0,0)) (by (with_reducible repeat (first|refine qn ?_ _|refine qd ?_|refine qa ?_ _));exact BK286.out)):gb286 ≠ gb288));have n7_:=am ((by rw [hg];exact Nat.ne_of_gt (blk_lt (g:=gb286) (o:=.cells #[.int .i64 a0_0, .slice A0_1 l0_1.length c0_1] 169 (0,0)) (by (with_reducible repeat (first|refine qn ?_ _|refine qd ?_|refine qa ?_ _));exact BK286.out)):gb288 ≠ gb286));have n8_:=am ((by rw [hg];exact Nat.ne_of_lt (blk_lt (g:=gb287) (o:=.cells #[.int .i64 0, .slice none 0 0] 69 (0,0)) (by (with_reducible repeat (first|refine qn ?_ _|refine qd ?_|refine qa ?_ _));exact BK287.out)):gb287 ≠ gb288));have n9_:=am ((by rw [hg];exact Nat.ne_of_gt (blk_lt (g:=gb287) (o:=.cells #[.int .i64 0, .slice none 0 0] 69 (0,0)) (by (with_reducible repeat (first|refine qn ?_ _|refine qd ?_|refine qa ?_ _));exact BK287.out)):gb288 ≠ gb287));clear BK286;clear BK287;clear HB;have BK286:=n0_;have BK287:=n1_;have HB:=n2_;have BK288:=n3_;have GW288:=n4_;have GE288:=n5_;have NB286_288:=n6_;have NB288_286:=n7_;have NB287_288:=n8_;have NB288_287:=n9_;clear n0_ n1_ n2_ n3_ n4_ n5_ n6_ n7_ n8_ n9_;clear hb hbox hg;have hnb6:=NB286_287.out;have hnc6:=NB287_286.out;have hnb7:=NB286_288.out;have hnc7:=NB288_286.out;have hcz8_0:w5.cell? ⟨gb286,0,none⟩=some (.int .i64 a0_0):=(blk_cell BK286.out 0).trans rfl;have hcz8_1:w5.cell? ⟨gb286,1,none⟩=some (.slice A0_1 l0_1.length c0_1):=(blk_cell BK286.out 1).trans rfl;have hfz8_0:=blk_frozen BK286.out 0;have hfz8_1:=blk_frozen BK286.out 1;have hnb9:=NB288_287.out;have hnc9:=NB287_288.out;have hcz10_0:w5.cell? ⟨gb288,0,none⟩=some (.int .i64 0):=(blk_cell BK288.out 0).trans rfl;have hcz10_1:w5.cell? ⟨gb288,1,none⟩=some (.slice none 0 0):=(blk_cell BK288.out 1).trans rfl;have hfz10_0:=blk_frozen BK288.out 0;have hfz10_1:=blk_frozen BK288.out 1)|((with_reducible refine gate_callee (f:=38) rfl ?_);refine goesL_ (some 9) rfl rfl Try.func38 d3 rfl #[.slice A0_1 l0_1.length c0_1] rfl d5 ?_;(with_reducible refine (laws_toByteS.calls k _ _ l0_1 t289 _ ?side1 ?side2 A2.out).mono ?_);(case side1=>exact Kd.C_below HR0_1.out (by repeat (first|(with_reducible first|exact HB.out|apply pa|apply pb|apply pd|refine pt ?_ GE286.out|refine pt ?_ GE287.out|refine pt ?_ GE288.out)|exact HB.out)));(case side2=>exact HC0_1.out);rintro e w11 ⟨v290,rfl,ho0,hb⟩;refine ⟨_,rfl,?_⟩;have n0_:=am (Kd.R_lower ho0 (pz (by repeat (first|(with_reducible first|exact HB.out|apply pa|apply pb|apply pd|refine pt ?_ GE286.out|refine pt ?_ GE287.out|refine pt ?_ GE288.out)|exact HB.out))));have n1_:=am (qb (g:=gb286) (o:=.cells #[.int .i64 a0_0, .slice A0_1 l0_1.length c0_1] 169 (0,0)) (by (with_reducible repeat (first|refine qn ?_ _|refine qd ?_|refine qa ?_ _));refine blk_far ?_ NB286_288.out _;(with_reducible repeat (first|refine qn ?_ _|refine qd ?_|refine qa ?_ _));exact BK286.out) hb);have n2_:=am (qb (g:=gb287) (o:=.cells #[.int .i64 0, .slice none 0 0] 69 (0,0)) (by (with_reducible repeat (first|refine qn ?_ _|refine qd ?_|refine qa ?_ _));refine blk_far ?_ NB287_288.out _;(with_reducible repeat (first|refine qn ?_ _|refine qd ?_|refine qa ?_ _));exact BK287.out) hb);have n3_:=am (qb (g:=gb288) (o:=.cells #[.int .i64 a0_0, .slice none 0 0] 69 (0,0)) (by (with_reducible repeat (first|refine qn ?_ _|refine qd ?_|refine qa ?_ _));refine blk_put (cs:=#[.int .i64 0, .slice none 0 0]) ?_ 0 _ rfl;(with_reducible repeat (first|refine qn ?_ _|refine qd ?_|refine qa ?_ _));exact BK288.out) hb);have n4_:=am (pu (by repeat (first|(with_reducible first|exact HB.out|apply pa|apply pb|apply pd|refine pt ?_ GE286.out|refine pt ?_ GE287.out|refine pt ?_ GE288.out)|exact HB.out)) hb);clear BK286;clear BK287;clear BK288;clear HB;have HO291:=n0_;have BK286:=n1_;have BK287:=n2_;have BK288:=n3_;have HB:=n4_;clear n0_ n1_ n2_ n3_ n4_;(try clear hb);(try clear hb2);(try clear hk);(try clear hi);(try clear ho0);obtain ⟨Ao12,co12,eo12⟩:=Kd.R_slice HO291.out;subst eo12;have hcz13_0:w11.cell? ⟨gb288,0,none⟩=some (.int .i64 a0_0):=(blk_cell BK288.out 0).trans rfl;have hcz13_1:w11.cell? ⟨gb288,1,none⟩=some (.slice none 0 0):=(blk_cell BK288.out 1).trans rfl;have hfz13_0:=blk_frozen BK288.out 0;have hfz13_1:=blk_frozen BK288.out 1;have hcz14_0:w11.cell? ⟨gb287,0,none⟩=some (.int .i64 0):=(blk_cell BK287.out 0).trans rfl;have hcz14_1:w11.cell? ⟨gb287,1,none⟩=some (.slice none 0 0):=(blk_cell BK287.out 1).trans rfl;have hfz14_0:=blk_frozen BK287.out 0;have hfz14_1:=blk_frozen BK287.out 1))
 refine bodyPost_ret (results_cell_row rfl _ _ gb287 69 #[.int .i64 a0_0, .slice Ao12 t289.length co12] (0,0) _ rfl (by (with_reducible repeat (first|refine qn ?_ _|refine qd ?_|refine qa ?_ _));refine blk_put (cs:=#[.int .i64 a0_0, .slice none 0 0]) ?_ 1 _ rfl;(with_reducible repeat (first|refine qn ?_ _|refine qd ?_|refine qa ?_ _));refine blk_put (cs:=#[.int .i64 0, .slice none 0 0]) ?_ 0 _ rfl;(with_reducible repeat (first|refine qn ?_ _|refine qd ?_|refine qa ?_ _));refine blk_far ?_ NB287_288.out _;(with_reducible repeat (first|refine qn ?_ _|refine qd ?_|refine qa ?_ _));exact BK287.out) Try.underlying69 rfl d3) rfl ?_
 exact ⟨_,d4,by (with_reducible repeat (first|apply Kd.R_alloc|apply Kd.R_drewN|apply Kd.R_drew));exact Kd.R_mono (Kd.R_far (p:=⟨gb287,1,none⟩) (Kd.R_far (p:=⟨gb287,0,none⟩) (Kd.R_far (p:=⟨gb288,1,none⟩) (Kd.R_types (Kd.R_types HO291.out BK288.out d11) BK287.out d11) (fun _ hk=>hk.1.2) (.slice Ao12 t289.length co12)) (fun _ hk=>hk.2) (.int .i64 a0_0)) (fun _ hk=>hk.2) (.slice Ao12 t289.length co12)) (fun _ hk=>trivial),by repeat (first|(with_reducible first|exact HB.out|apply pa|apply pb|apply pd|refine pt ?_ GE286.out|refine pt ?_ GE287.out|refine pt ?_ GE288.out)|exact HB.out)⟩

def laws_toPieceS.l0:Nat→List (S169)→List (S69)→Int→Option ((List (S69)))
 | 0,_,_,_=>none
 | k+1,x0,x3,x4=>if x4 < (x0.length:Int) then (if 0≤x4 then ((laws_toPiece.f k ((rd_T169 x0 x4).f0) ((rd_T169 x0 x4).f1)).bind fun bt296=>(if x4 < (x3.length:Int) then (laws_toPieceS.l0 k x0 (x3.set (x4:Int).toNat (⟨bt296.1,bt296.2⟩:S69)) (wrap64 (x4+1))) else (none))) else (none)) else (some x3)
def laws_toPieceS.f (k:Nat) (l0:List (S169)):Option ((List (S69))):=if 0≤(l0.length:Int) then (if ((l0.length:Int):Int).toNat≤8796093022208 then (laws_toPieceS.l0 k l0 (List.replicate ((l0.length:Int):Int).toNat z69) 0) else (none)) else (none)
theorem laws_toPieceS.mono_l:∀ k,(∀ y0 y1 y2,LeO (laws_toPieceS.l0 k y0 y1 y2) (laws_toPieceS.l0 (k+1) y0 y1 y2))
 | 0=>fun _ _ _ r h=>by simp [laws_toPieceS.l0] at h
 | k+1=>by
  have ih0:=laws_toPieceS.mono_l k
  intro y0 y1 y2
  unfold laws_toPieceS.l0
  repeat' first
  | (with_reducible exact ih0 _ _ _)
  | (with_reducible exact laws_toPiece.mono _ _ _)
  |(with_reducible exact LeO.refl _)|(with_reducible exact LeO.none _)|(with_reducible refine LeO.ite ?_ ?_)|(with_reducible refine LeO.bind ?_ (fun _=>?_))|exact ih0 _ _ _|exact laws_toPiece.mono _ _ _|exact LeO.none _|refine LeO.ite ?_ ?_|refine LeO.bind ?_ (fun _=>?_)
theorem laws_toPieceS.mono:∀ a0 k,LeO (laws_toPieceS.f k a0) (laws_toPieceS.f (k+1) a0):=by
 intro a0 k
 have ih0:=laws_toPieceS.mono_l k
 unfold laws_toPieceS.f
 repeat' first
   | (with_reducible exact ih0 _ _ _)
   | (with_reducible exact laws_toPiece.mono _ _ _)
   |(with_reducible exact LeO.refl _)|(with_reducible exact LeO.none _)|(with_reducible refine LeO.ite ?_ ?_)|(with_reducible refine LeO.bind ?_ (fun _=>?_))|exact ih0 _ _ _|exact laws_toPiece.mono _ _ _|exact LeO.none _|refine LeO.ite ?_ ?_|refine LeO.bind ?_ (fun _=>?_)
theorem laws_toPieceS.calls (k:Nat) (A0:Option Addr) (c0:Nat) (l0:List (S169)) (r:List (S69)) (w:World) (hr0:Kd.C k169 w A0 l0.length l0) (hc0:l0.length≤c0) (h:laws_toPieceS.f k l0=some r) :
  Calls Try.prog 69 #[.slice A0 l0.length c0] w fun e w'=>∃ v0_:Value,e = .returned (v0_)∧Kd.S k69 69 w' w.heap.size (fun _=>True) v0_ r∧Below w.heap.size w w':=by
 have hu169:=Try.underlying169
 have hu69:=Try.underlying69
 have HR0:=am hr0
 have HC0:=am hc0
 clear hr0 hc0
 have HB:=am (Below.refl w.heap.size w)
 have H:(if 0≤(l0.length:Int) then (if ((l0.length:Int):Int).toNat≤8796093022208 then (laws_toPieceS.l0 k l0 (List.replicate ((l0.length:Int):Int).toNat z69) 0) else (none)) else (none))=some r:=h
 clear h
 by_cases c2:0≤(l0.length:Int)
 ·rw [if_pos c2] at H
  have c2b0:=eq_true c2
  have c2b1:decide (0≤(l0.length:Int))=true:=decide_eq_true c2
  clear c2
  by_cases c3:((l0.length:Int):Int).toNat≤8796093022208
  ·rw [if_pos c3] at H
   have c3b0:=eq_true c3
   have c3b1:decide (((l0.length:Int):Int).toNat≤8796093022208)=true:=decide_eq_true c3
   clear c3
   obtain ⟨y292,hy292⟩:∃ y_:List (S69),y_=(List.replicate ((l0.length:Int):Int).toNat z69):=⟨_,rfl⟩
   replace H:(laws_toPieceS.l0 k l0 y292 0)=some r:=by first|(rw [hy292];with_reducible exact H)|(have H2_:=(Option.bind_some _ _).symm.trans H;rw [hy292];with_reducible exact H2_)|(have H2_:=(Option.bind_some _ _).symm.trans H;with_reducible exact H2_)|with_reducible exact H|(rw [hy292];exact H)|exact H
   have Ny292:=am hy292
   clear hy292
   have H':=am H
   clear H
   go_enter Try.func69,Try.ntmps69
   go_wp2_with (first|((with_reducible refine gate_dst (N:=7) rfl ?_);refine Kd.S_make k69 _ 69 rfl (N:=7) rfl 102 _ _ rfl (l0.length:Int) rfl rfl Try.underlying102 (.agg #[(.int .i64 0),(.slice none 0 0)]) 32 info69 rfl d11 d10 z69 (ok:=fun _=>True) (okp:=fun _=>True) (k69_mkM _ _ _ z69 (Kd.R_nil _ _ _ _ _)) (fun _ hk=>hk) trivial (od d1) (Nat.le_trans (Nat.mul_le_mul_right _ (od d1:(l0.length:Int).toNat≤8796093022208)) d10) (Below.refl _ _) (Nat.le_refl _) ?_;intro v293 w4 ho5 hb hg_ hnew_;clear hg_ hnew_;(first|rw [← Ny292.out] at ho5|(simp only [Int.reduceToNat] at ho5;rw [← Ny292.out] at ho5));have n0_:=am (Kd.S_lower ho5 (pz d0));have n1_:=am (pu d0 hb);clear HB;have HO294:=n0_;have HB:=n1_;clear n0_ n1_;clear hb ho5))
   go_loopg [4] k (fun kq v4 w'=>∃ (x3_1:List (S69)) (x4_1:Int),v4 = .int .i64 x4_1∧Aside0 (laws_toPieceS.l0 kq l0 x3_1 x4_1=some r)∧Aside0 (kq≤k)∧Aside0 (Kd.S k69 69 w' w.heap.size (fun _=>True) v293 x3_1)∧Aside0 (Below w.heap.size w w'))
   case atStart=>exact ⟨(y292),(0),d2,H',⟨Nat.le_refl _⟩,⟨by (with_reducible repeat (first|apply Kd.S_alloc|apply Kd.S_drewN|apply Kd.S_drew));exact HO294.out⟩,⟨d0⟩⟩
   case round =>
    clear H'
    try clear c2
    try clear c2b0
    try clear c2b1
    try clear p2
    try clear c3
    try clear c3b0
    try clear c3b1
    obtain ⟨x3_1,x4_1,rfl,HA,HK1,HO_3,HB⟩:=hrel
    cases gk with
    | zero=>exact absurd HA.out (by simp [laws_toPieceS.l0])
    | succ k1 =>
     have H:=HA.out
     clear HA
     simp only [laws_toPieceS.l0] at H
     by_cases c6:x4_1 < (l0.length:Int)
     ·rw [if_pos c6] at H
      have c6b0:decide (x4_1 < (l0.length:Int))=true:=decide_eq_true c6
      clear c6
      by_cases c7:0≤x4_1
      ·rw [if_pos c7] at H
       have c7b0:decide (0≤x4_1)=true:=decide_eq_true c7
       clear c7
       replace H:=Option.bind_eq_some_iff.mp H
       obtain ⟨⟨t296,t297⟩,A80,H⟩:=H
       replace H:(if x4_1 < (x3_1.length:Int) then (laws_toPieceS.l0 k1 l0 (x3_1.set (x4_1:Int).toNat (⟨t296,t297⟩:S69)) (wrap64 (x4_1+1))) else (none))=some r:=H
       have A8:=am A80
       clear A80
       by_cases c9:x4_1 < (x3_1.length:Int)
       ·rw [if_pos c9] at H
        have c9b0:decide (x4_1 < (x3_1.length:Int))=true:=decide_eq_true c9
        clear c9
        obtain ⟨y300,hy300⟩:∃ y_:List (S69),y_=(x3_1.set (x4_1:Int).toNat (⟨t296,t297⟩:S69)):=⟨_,rfl⟩
        replace H:(laws_toPieceS.l0 k1 l0 y300 (wrap64 (x4_1+1)))=some r:=by first|(rw [hy300];with_reducible exact H)|(have H2_:=(Option.bind_some _ _).symm.trans H;rw [hy300];with_reducible exact H2_)|(have H2_:=(Option.bind_some _ _).symm.trans H;with_reducible exact H2_)|with_reducible exact H|(rw [hy300];exact H)|exact H
        have Ny300:=am hy300
        clear hy300
        have H':=am H
        clear H
        have p295:0≤(x4_1:Int):=od d1
        have q295:x4_1 < (l0.length:Int):=od d1
        obtain ⟨ad295,A295_1,c295_1,e295,hx295_0,hx295_1,hl295_1,hi295_1⟩:=at_T169 HR0.out x4_1 p295 q295
        cases e295
        replace hx295_0:=(HB.out.cell (World.block_lt_of_cell? w _ hx295_0)).trans hx295_0
        replace hx295_1:=(HB.out.cell (World.block_lt_of_cell? w _ hx295_1)).trans hx295_1
        have HR295_1:=am hi295_1
        have HC295_1:=am hl295_1
        clear hi295_1 hl295_1
        replace p295:=eq_true p295
        replace q295:=eq_true q295
        go_wp2_with (first|((with_reducible refine gate_callee (f:=151) rfl ?_);refine goesL_ (some 20) rfl rfl Try.func151 d3 rfl #[.agg #[.int .i64 ((rd_T169 l0 x4_1).f0), .slice A295_1 ((rd_T169 l0 x4_1).f1).length c295_1]] rfl d5 ?_;(with_reducible refine (laws_toPiece.calls k1 ((rd_T169 l0 x4_1).f0) _ _ ((rd_T169 l0 x4_1).f1) t296 t297 _ ?side1 ?side2 A8.out).mono ?_);(case side1=>repeat (first|exact (Kd.C_below HR295_1.out HB.out)|(with_reducible refine Kd.C_alloc ?_ _)|(with_reducible refine Kd.C_drewN ?_ _)|(with_reducible refine Kd.C_drew ?_)));(case side2=>exact HC295_1.out);rintro e w11 ⟨v298,rfl,ho0,hb⟩;refine ⟨_,rfl,?_⟩;have n0_:=am (Kd.S_elder' d32 (Kd.R_base ho0) hb);have n1_:=am (Kd.R_lower ho0 (pz d0));have n2_:=am (pu d0 hb);clear HO_3;clear HB;have HO_3:=n0_;have HO299:=n1_;have HB:=n2_;clear n0_ n1_ n2_;(try clear hb);(try clear hb2);(try clear hk);(try clear hi);(try clear ho0);obtain ⟨Ao298,co298,rfl⟩:=Kd.R_slice HO299.out;have p10:0≤(x4_1:Int):=od d1;have q10:(x4_1:Int) < ((x3_1.length:Int):Int):=od d1;obtain ⟨go10,co10,eo10,gb10,gl10,cl10,HG10⟩:=Kd.S_form HO_3.out d10;(first|cases eo10|(injection eo10 with ea_ en_ ec_;(first|subst ea_|(injection ea_ with ea_;subst ea_));subst ec_;clear en_));have GB10:=am gb10;have GG10:=am HG10;clear gb10 gl10 HG10;obtain ⟨_,ce10,hcl10,hM10,hcc10,hfr10,_,_⟩:=Kd.S_elem HO_3.out z69 (x4_1:Int) p10 q10;obtain ⟨ve10_1,rfl,ge10_1⟩:=k69_openM hM10;have hx10_0:w11.cell? ⟨go10,(x4_1:Int).toNat*2,none⟩=some (.int .i64 ((rd_T69 x3_1 x4_1).f0)):=hcc10 0 _ rfl;have hx10_1:w11.cell? ⟨go10,(x4_1:Int).toNat*2+1,none⟩=some (ve10_1):=hcc10 1 _ rfl;have hf10_0:w11.frozen? ⟨go10,(x4_1:Int).toNat*2,none⟩=false:=hfr10 0;have hf10_1:w11.frozen? ⟨go10,(x4_1:Int).toNat*2+1,none⟩=false:=hfr10 1;clear hcl10 hcc10 hfr10;(try clear hM10);replace p10:=eq_true p10;replace q10:=eq_true q10;have n_:=am (Kd.S_mono (ok':=(fun k_=>some k_ ≠ ((.slice Ao298 t297.length co298):Value).ownBlock)) HO_3.out (fun k_ hk=>hk.2));clear HO_3;have HO_3:=n_;clear n_;have HX12:=am (show Kd.S k69 69 w11 w.heap.size (fun k_=>((fun _=>True)) k_∧¬ ((fun k_=>some k_=((.slice Ao298 t297.length co298):Value).ownBlock)) k_) (.slice (some ⟨go10,0,none⟩) x3_1.length co10) x3_1 from (by (with_reducible repeat (first|apply Kd.S_alloc|apply Kd.S_drewN|apply Kd.S_drew));exact Kd.S_mono HO_3.out (fun k_ hk=>⟨trivial,fun e_=>hk e_⟩)));obtain ⟨oki12,ce12,hcl12,hM12,hcc12,hfr12,hoki12,hH12⟩:=Kd.S_elem HX12.out z69 (x4_1:Int) (od d1) (by have h_:(x4_1:Int) < ((x3_1.length:Int):Int):=od d1;first|exact h_|(have e_:=(Kd.S_reads' HO_3.out).1;omega)|simpa using h_);obtain ⟨ve12_1,rfl,ge12_1⟩:=k69_openM hM12;have HP12:=Kd.S_seg hH12 (od d1) (by have h_:(x4_1:Int) < ((x3_1.length:Int):Int):=od d1;first|exact h_|(have e_:=(Kd.S_reads' HO_3.out).1;omega)|simpa using h_) (seg:=[.int .i64 t296,(.slice Ao298 t297.length co298)]) (j:=0) (show 2≤2 from by decide) (x':=(⟨t296,t297⟩:S69)) (k69_mkM _ _ _ (⟨t296,t297⟩:S69) (Kd.R_mono (Kd.R_tight rfl (Kd.R_mono (ok':=fun k_=>((fun _=>True)) k_∧k_ ≠ go10) (Kd.R_apart' (HO299.out) (Kd.S_typed HO_3.out) d11) (fun k_ hk=>⟨trivial,fun e_=>(hk.2) d59⟩))) (fun _ h_=>Or.inr (h_)))) (fun _ hk=>hk) (fun k_ hk_=>((Kd.R_mono (ok':=fun k_=>((fun _=>True)) k_∧k_ ≠ go10) (Kd.R_apart' (HO299.out) (Kd.S_typed HO_3.out) d11) (fun k_ hk=>⟨trivial,fun e_=>(hk.2) d59⟩))).1 k_ hk_.symm);have hx12_0:=hcc12 0 _ rfl;(try simp only [show (k69).sz=2 from rfl,Nat.mul_one,Nat.add_zero] at hx12_0);have hf12_0:=hfr12 0;(try simp only [show (k69).sz=2 from rfl,Nat.mul_one,Nat.add_zero] at hf12_0);have hx12_1:=hcc12 1 _ rfl;(try simp only [show (k69).sz=2 from rfl,Nat.mul_one,Nat.add_zero] at hx12_1);have hf12_1:=hfr12 1;(try simp only [show (k69).sz=2 from rfl,Nat.mul_one,Nat.add_zero] at hf12_1);clear hcl12 hcc12 hfr12 hM12 hoki12 hH12)|((with_reducible refine gate_store (t:=69) (p:=21) rfl ?_);refine store_event (t:=69) (p:=21) (v:=?vo_w13) (w1:=((w11.setCell ⟨go10,(x4_1:Int).toNat*2,none⟩ (.int .i64 t296)).setCell ⟨go10,(x4_1:Int).toNat*2+1,none⟩ ((.slice Ao298 t297.length co298)))) ?hg ?ho ?hn ?hr ?_;(case ho=>rfl);(case hg=>rfl);(case hn=>rfl);(case hr=>first|(go_simp;done)|(go_simp;rfl));intro w13 hw;have hg:w11.grownBy w13 (some go10):=(by rw [hw];exact HP12.2);have hp_:Kd.S k69 69 w13 w.heap.size (fun _=>True) (.slice (some ⟨go10,0,none⟩) x3_1.length co10) y300:=(by rw [hw,Ny300.out];exact HP12.1);clear HP12;have n0_:=am (hp_);have n1_:=am ((by rw [hw];exact pt (pt (HB.out) GB10.out) GB10.out:Below w.heap.size w w13));clear HO_3;clear HB;clear HO299;have HO_3:=n0_;have HB:=n1_;clear n0_ n1_;clear hg hw hp_))
        go_roundg k1
        case measure=>have:=HK1.out;omega
        case rel=>exact ⟨(y300),(wrap64 (x4_1+1)),d2,H',⟨d30⟩,⟨d32⟩,⟨d0⟩⟩
       rw [if_neg c9] at H
       exact absurd H d20
      rw [if_neg c7] at H
      exact absurd H d20
     rw [if_neg c6] at H
     have c6b0:decide (x4_1 < (l0.length:Int))=false:=decide_eq_false c6
     clear c6
     obtain rfl:=Option.some.inj H
     go_wp2
     go_ret
     exact ⟨_,d4,d32,d0⟩
  rw [if_neg c3] at H
  exact absurd H d20
 rw [if_neg c2] at H
 exact absurd H d20

def impl_identity.l0:Nat→Int→List (List Int)→Int→Int→Option ((List (List Int)))
 | 0,_,_,_,_=>none
 | k+1,x0,x3,x7,x8=>if x8 < x7 then (if 0≤x0 then (if (x0:Int).toNat≤281474976710656 then ((some (List.replicate (x0:Int).toNat 0:List Int)).bind fun y304=>(if 0≤x8 then (if x8 < (y304.length:Int) then (if x3.length < 5864062014805 then (impl_identity.l0 k x0 (x3 ++ [(y304.set (x8:Int).toNat 1)]) x7 (wrap64 (x8+1))) else (none)) else (none)) else (none))) else (none)) else (none)) else (some x3)
def impl_identity.f (k:Nat) (a0:Int):Option ((List (List Int))):=impl_identity.l0 k a0 (([]:List (List Int))) a0 0
theorem impl_identity.mono_l:∀ k,(∀ y0 y1 y2 y3,LeO (impl_identity.l0 k y0 y1 y2 y3) (impl_identity.l0 (k+1) y0 y1 y2 y3))
 | 0=>fun _ _ _ _ r h=>by simp [impl_identity.l0] at h
 | k+1=>by
  have ih0:=impl_identity.mono_l k
  intro y0 y1 y2 y3
  unfold impl_identity.l0
  repeat' first
  | (with_reducible exact ih0 _ _ _ _)
  |(with_reducible exact LeO.refl _)|(with_reducible exact LeO.none _)|(with_reducible refine LeO.ite ?_ ?_)|(with_reducible refine LeO.bind ?_ (fun _=>?_))|exact ih0 _ _ _ _|exact LeO.none _|refine LeO.ite ?_ ?_|refine LeO.bind ?_ (fun _=>?_)
theorem impl_identity.mono:∀ a0 k,LeO (impl_identity.f k a0) (impl_identity.f (k+1) a0):=by
 intro a0 k
 have ih0:=impl_identity.mono_l k
 unfold impl_identity.f
 repeat' first
   | (with_reducible exact ih0 _ _ _ _)
   |(with_reducible exact LeO.refl _)|(with_reducible exact LeO.none _)|(with_reducible refine LeO.ite ?_ ?_)|(with_reducible refine LeO.bind ?_ (fun _=>?_))|exact ih0 _ _ _ _|exact LeO.none _|refine LeO.ite ?_ ?_|refine LeO.bind ?_ (fun _=>?_)
theorem impl_identity.calls (k:Nat) (a0:Int) (r:List (List Int)) (w:World) (h:impl_identity.f k a0=some r) :
  Calls Try.prog 168 #[.int .i64 a0] w fun e w'=>∃ v0_:Value,e = .returned (v0_)∧Kd.S (Kd.slice 5 (Kd.int .u8)) 57 w' w.heap.size (fun _=>True) v0_ r∧Below w.heap.size w w':=by
 have HB:=am (Below.refl w.heap.size w)
 have H:(impl_identity.l0 k a0 (([]:List (List Int))) a0 0)=some r:=h
 clear h
 obtain ⟨y301,hy301⟩:∃ y_:List (List Int),y_=(([]:List (List Int))):=⟨_,rfl⟩
 replace H:(impl_identity.l0 k a0 y301 a0 0)=some r:=by first|(rw [hy301];with_reducible exact H)|(have H2_:=(Option.bind_some _ _).symm.trans H;rw [hy301];with_reducible exact H2_)|(have H2_:=(Option.bind_some _ _).symm.trans H;with_reducible exact H2_)|with_reducible exact H|(rw [hy301];exact H)|exact H
 have Ny301:=am hy301
 clear hy301
 have H':=am H
 clear H
 go_enter Try.func168,Try.ntmps168
 go_wp2_with (first|((with_reducible refine gate_dst (N:=6) rfl ?_);refine Kd.S_lit (Kd.slice 5 (Kd.int .u8)) _ 57 ?hg (N:=6) ?hd (xs:=([]:List (List Int))) (inner:=[]) (ok:=fun _=>True) (okp:=fun _=>True) ?hr ?hp (fun _ hk=>hk) trivial (Below.refl _ _) (Nat.le_refl _) d20 ?_;(case hd=>rfl);(case hg=>rfl);(case hr=>first|(go_simp;done)|(go_simp;rfl));(case hp=>exact (Reps.none _ _));intro v302 w2 ho3 hb hg_ hnew_;clear hg_ hnew_;(first|rw [← Ny301.out] at ho3|(simp only [Int.reduceToNat] at ho3;rw [← Ny301.out] at ho3));have n0_:=am (Kd.S_lower ho3 (pz d0));have n1_:=am (pu d0 hb);clear HB;have HO303:=n0_;have HB:=n1_;clear n0_ n1_;clear hb ho3))
 go_loopg [3,8] k (fun kq v3 v8 w'=>∃ (x3_1:List (List Int)) (x8_1:Int),v8 = .int .i64 x8_1∧Aside0 (impl_identity.l0 kq a0 x3_1 a0 x8_1=some r)∧Aside0 (kq≤k)∧Aside0 (Kd.S (Kd.slice 5 (Kd.int .u8)) 57 w' w.heap.size (fun _=>True) v3 x3_1)∧Aside0 (Below w.heap.size w w'))
 case atStart=>exact ⟨(y301),(0),d2,H',⟨Nat.le_refl _⟩,⟨by (with_reducible repeat (first|apply Kd.S_alloc|apply Kd.S_drewN|apply Kd.S_drew));exact HO303.out⟩,⟨d0⟩⟩
 case round =>
  clear H'
  try clear c1
  try clear p2
  obtain ⟨x3_1,x8_1,rfl,HA,HK1,HO_3,HB⟩:=hrel
  cases gk with
  | zero=>exact absurd HA.out (by simp [impl_identity.l0])
  | succ k1 =>
   have H:=HA.out
   clear HA
   simp only [impl_identity.l0] at H
   by_cases c4:x8_1 < a0
   ·rw [if_pos c4] at H
    have c4b0:decide (x8_1 < a0)=true:=decide_eq_true c4
    clear c4
    by_cases c5:0≤a0
    ·rw [if_pos c5] at H
     have c5b0:=eq_true c5
     have c5b1:decide (0≤a0)=true:=decide_eq_true c5
     clear c5
     by_cases c6:(a0:Int).toNat≤281474976710656
     ·rw [if_pos c6] at H
      have c6b0:=eq_true c6
      have c6b1:decide ((a0:Int).toNat≤281474976710656)=true:=decide_eq_true c6
      clear c6
      obtain ⟨y304,hy304⟩:∃ y_:List Int,y_=(List.replicate (a0:Int).toNat 0):=⟨_,rfl⟩
      replace H:(if 0≤x8_1 then (if x8_1 < (y304.length:Int) then (if x3_1.length < 5864062014805 then (impl_identity.l0 k1 a0 (x3_1 ++ [(y304.set (x8_1:Int).toNat 1)]) a0 (wrap64 (x8_1+1))) else (none)) else (none)) else (none))=some r:=by first|(rw [hy304];with_reducible exact H)|(have H2_:=(Option.bind_some _ _).symm.trans H;rw [hy304];with_reducible exact H2_)|(have H2_:=(Option.bind_some _ _).symm.trans H;with_reducible exact H2_)|with_reducible exact H|(rw [hy304];exact H)|exact H
      have Ny304:=am hy304
      clear hy304
      by_cases c7:0≤x8_1
      ·rw [if_pos c7] at H
       have c7b0:decide (0≤x8_1)=true:=decide_eq_true c7
       clear c7
       by_cases c8:x8_1 < (y304.length:Int)
       ·rw [if_pos c8] at H
        have c8b0:decide (x8_1 < (y304.length:Int))=true:=decide_eq_true c8
        clear c8
        obtain ⟨y307,hy307⟩:∃ y_:List Int,y_=(y304.set (x8_1:Int).toNat 1):=⟨_,rfl⟩
        replace H:(if x3_1.length < 5864062014805 then (impl_identity.l0 k1 a0 (x3_1 ++ [y307]) a0 (wrap64 (x8_1+1))) else (none))=some r:=by first|(rw [hy307];with_reducible exact H)|(have H2_:=(Option.bind_some _ _).symm.trans H;rw [hy307];with_reducible exact H2_)|(have H2_:=(Option.bind_some _ _).symm.trans H;with_reducible exact H2_)|with_reducible exact H|(rw [hy307];exact H)|exact H
        have Ny307:=am hy307
        clear hy307
        by_cases c10:x3_1.length < 5864062014805
        ·rw [if_pos c10] at H
         have LMc10:=am c10
         clear c10
         obtain ⟨y308,hy308⟩:∃ y_:List (List Int),y_=(x3_1 ++ [y307]):=⟨_,rfl⟩
         replace H:(impl_identity.l0 k1 a0 y308 a0 (wrap64 (x8_1+1)))=some r:=by first|(rw [hy308];with_reducible exact H)|(have H2_:=(Option.bind_some _ _).symm.trans H;rw [hy308];with_reducible exact H2_)|(have H2_:=(Option.bind_some _ _).symm.trans H;with_reducible exact H2_)|with_reducible exact H|(rw [hy308];exact H)|exact H
         have Ny308:=am hy308
         clear hy308
         have H':=am H
         clear H
         go_wp2_with (first|((with_reducible refine gate_dst (N:=12) rfl ?_);refine Kd.R_make (Kd.int .u8) _ 5 rfl (N:=12) rfl 57 _ _ rfl a0 rfl rfl Try.underlying57 (.int .u8 0) 1 info5 rfl d11 d10 0 (ok:=fun _=>True) (okp:=fun _=>True) rfl (fun _ hk=>hk) trivial (od d1) (Nat.le_trans (Nat.mul_le_mul_right _ (od d1:a0.toNat≤281474976710656)) d10) (Below.refl _ _) (Nat.le_refl _) ?_;intro v305 w11 ho12 hb hg_ hnew_;clear hg_ hnew_;(first|rw [← Ny304.out] at ho12|(simp only [Int.reduceToNat] at ho12;rw [← Ny304.out] at ho12));have n0_:=am (Kd.S_elder' d32 (Kd.R_base ho12) hb);have n1_:=am (Kd.R_lower ho12 (pz d0));have n2_:=am (pu d0 hb);clear HO_3;clear HB;have HO_3:=n0_;have HO306:=n1_;have HB:=n2_;clear n0_ n1_ n2_;clear hb ho12;have p9:0≤(x8_1:Int):=od d1;have q9:(x8_1:Int) < ((y304.length:Int):Int):=od d1;obtain ⟨go9,co9,eo9,gb9,gl9,cl9,HG9⟩:=Kd.R_form HO306.out d10;(first|cases eo9|(injection eo9 with ea_ en_ ec_;(first|subst ea_|(injection ea_ with ea_;subst ea_));subst ec_;clear en_));have GB9:=am gb9;have GG9:=am HG9;clear gb9 gl9 HG9;obtain ⟨hx9_0,hf9_0⟩:=Kd.R_celln 0 HO306.out (x8_1:Int) p9 q9;replace p9:=eq_true p9;replace q9:=eq_true q9;obtain ⟨hy13_,hz13_⟩:=Kd.R_celln 0 HO306.out (x8_1:Int) (od d1) (od d1);have HP13:=Kd.R_putg HO306.out (x8_1:Int) 1)|((with_reducible refine gate_store (t:=5) (p:=15) rfl ?_);refine store_event (t:=5) (p:=15) (v:=?vo_w14) (w1:=(w11.setCell ⟨go9,(x8_1:Int).toNat,none⟩ (.int .u8 1))) ?hg ?ho ?hn ?hr ?_;(case ho=>rfl);(case hg=>rfl);(case hn=>rfl);(case hr=>first|(go_simp;done)|(go_simp;rfl));intro w14 hw;have hg:w11.grownBy w14 (some go9):=(by rw [hw];exact HP13.2);have hp_:Kd.R (Kd.int .u8) 5 w14 w.heap.size (fun _=>True) (.slice (some ⟨go9,0,none⟩) y304.length co9) y307:=(by rw [hw,Ny307.out];exact HP13.1);clear HP13;have n0_:=am (Kd.S_after (v:=(.slice (some ⟨go9,0,none⟩) y304.length co9)) (v1:=(.slice (some ⟨go9,0,none⟩) y304.length co9)) (ok:=(fun _=>True)) d32 hg (.inl rfl));have n1_:=am (hp_);have n2_:=am ((by rw [hw];exact pt (HB.out) GB9.out:Below w.heap.size w w14));clear HO_3;clear HO306;clear HB;have HO_3:=n0_;have HO306:=n1_;have HB:=n2_;clear n0_ n1_ n2_;clear hg hw hp_)|((with_reducible refine gate_builtin (b:=.append) (xs:=#[.tmp 16, .tmp 18]) rfl ?_);at_builtin;refine Kd.S_append (Kd.slice 5 (Kd.int .u8)) (w0:=w) w.heap.size rfl (.tmp 16) (.tmp 18) 37 57 (.slice none 0 0) 24 rfl Try.underlying37 info57 rfl d11 d10 u3 x3_1 y307 [.slice (some ⟨go9,0,none⟩) y304.length co9] (fun _=>True) (fun k_=>some k_=(.slice (some ⟨go9,0,none⟩) y304.length co9:Value).ownBlock) rfl rfl ?aP (fun k_ hk_=>((Kd.R_mono (ok':=fun k_=>((fun _=>True)) k_∧some k_ ≠ (u3:Value).ownBlock) (Kd.R_apart' (HO306.out) (Kd.S_typed HO_3.out) d11) (fun k_ hk=>⟨trivial,hk.2⟩))).1 k_ hk_.symm) ?aF ?aO ?aB ?aS ?aL ?_;(case aP=>exact Kd.M_row (Kd.R_mono (Kd.R_tight rfl (Kd.R_mono (ok':=fun k_=>((fun _=>True)) k_∧some k_ ≠ (u3:Value).ownBlock) (Kd.R_apart' (HO306.out) (Kd.S_typed HO_3.out) d11) (fun k_ hk=>⟨trivial,hk.2⟩))) (fun _ h_=>h_)));(case aB=>exact d0);(case aF=>exact (fun _ _=>trivial));(case aO=>exact (by (with_reducible repeat (first|apply Kd.S_alloc|apply Kd.S_drewN|apply Kd.S_drew));exact Kd.S_mono HO_3.out (fun k_ hk=>⟨trivial,fun e_=>hk.2 e_⟩)));(case aS=>exact (pz d0));(case aL=>have:=LMc10.out;omega);intro v309 w15 ho hb hg hat;rw [← Ny308.out] at ho;have n0_:=am (hb);have n1_:=am (ho);clear HB;clear HO_3;clear HO306;have HB:=n0_;have HO310:=n1_;clear n0_ n1_;clear ho hb hg hat))
         go_roundg k1
         case measure=>have:=HK1.out;omega
         case rel=>exact ⟨(y308),(wrap64 (x8_1+1)),d2,H',⟨d30⟩,⟨by (with_reducible repeat (first|apply Kd.S_alloc|apply Kd.S_drewN|apply Kd.S_drew));exact HO310.out⟩,⟨d0⟩⟩
        rw [if_neg c10] at H
        exact absurd H d20
       rw [if_neg c8] at H
       exact absurd H d20
      rw [if_neg c7] at H
      exact absurd H d20
     rw [if_neg c6] at H
     exact absurd H d20
    rw [if_neg c5] at H
    exact absurd H d20
   rw [if_neg c4] at H
   have c4b0:decide (x8_1 < a0)=false:=decide_eq_false c4
   clear c4
   obtain rfl:=Option.some.inj H
   go_wp2
   go_ret
   exact ⟨_,d4,d32,d0⟩

def slices_Clone_byte_byte.f (l0:List Int):Option (List Int):=(some (([]:List Int):List Int)).bind fun y181=>(if y181.length+l0.length < 140737488355328 then (some (y181 ++ l0)) else (none))
theorem slices_Clone_byte_byte.calls (A0:Option Addr) (c0:Nat) (l0:List Int) (r:List Int) (w:World) (hr0:Kd.C (Kd.int .u8) w A0 l0.length l0) (hc0:l0.length≤c0) (h:slices_Clone_byte_byte.f l0=some r) :
  Calls Try.prog 183 #[.slice A0 l0.length c0] w fun e w'=>∃ v0_:Value,e = .returned (v0_)∧Kd.R (Kd.int .u8) 5 w' w.heap.size (fun _=>True) v0_ r∧Below w.heap.size w w':=by
 have HR0:=am hr0
 have HC0:=am hc0
 clear hr0 hc0
 have HB:=am (Below.refl w.heap.size w)
 have H:((some (([]:List Int):List Int)).bind fun y181=>(if y181.length+l0.length < 140737488355328 then (some (y181 ++ l0)) else (none)))=some r:=h
 clear h
 obtain ⟨y181,hy181⟩:∃ y_:List Int,y_=(([]:List Int)):=⟨_,rfl⟩
 replace H:(if y181.length+l0.length < 140737488355328 then (some (y181 ++ l0)) else (none))=some r:=by first|(rw [hy181];with_reducible exact H)|(have H2_:=(Option.bind_some _ _).symm.trans H;rw [hy181];with_reducible exact H2_)|(have H2_:=(Option.bind_some _ _).symm.trans H;with_reducible exact H2_)|with_reducible exact H|(rw [hy181];exact H)|exact H
 have Ny181:=am hy181
 clear hy181
 by_cases c2:y181.length+l0.length < 140737488355328
 ·rw [if_pos c2] at H
  have LMc2:=am c2
  clear c2
  obtain ⟨y184,hy184⟩:∃ y_:List Int,y_=(y181 ++ l0):=⟨_,rfl⟩
  replace H:(some y184)=some r:=by first|(rw [hy184];with_reducible exact H)|(have H2_:=(Option.bind_some _ _).symm.trans H;rw [hy184];with_reducible exact H2_)|(have H2_:=(Option.bind_some _ _).symm.trans H;with_reducible exact H2_)|with_reducible exact H|(rw [hy184];exact H)|exact H
  have Ny184:=am hy184
  clear hy184
  obtain rfl:=Option.some.inj H
  have keq:=fun (W:World) (a:Option Addr) (n c:Nat)=>Lib.run_eql_slice_nil (P:=Try.prog) W 57 5 a n c 0 0 Try.underlying57
  cases A0 with
  | none =>
   have e0:l0=[]:=by
    have hc:=HR0.out
    by_cases hp:0 < l0.length
    ·obtain ⟨ad,h1,_⟩:=hc.2.2 hp
     cases h1
    exact List.eq_nil_of_length_eq_zero d10
   have ey:y184=[]:=by rw [Ny184.out,Ny181.out,e0];rfl
   subst ey
   go_enter Try.func183,Try.ntmps183
   go_wp2
   go_ret
   exact ⟨_,rfl,Kd.R_nil _ _ _ _ _,HB.out⟩
  | some ad0 =>
  go_enter Try.func183,Try.ntmps183
  go_wp2_with (first|((with_reducible refine gate_dst (N:=5) rfl ?_);refine Kd.R_lit (Kd.int .u8) _ 5 ?hg (N:=5) ?hd (xs:=([]:List Int)) (inner:=[]) (ok:=fun _=>True) (okp:=fun _=>True) ?hr ?hp (fun _ hk=>hk) trivial (Below.refl _ _) (Nat.le_refl _) d20 ?_;(case hd=>rfl);(case hg=>rfl);(case hr=>first|(go_simp;done)|(go_simp;rfl));(case hp=>exact (Reps.none _ _));intro v182 w3 ho4 hb hg_ hnew_;clear hg_ hnew_;(first|rw [← Ny181.out] at ho4|(simp only [Int.reduceToNat] at ho4;rw [← Ny181.out] at ho4));have n0_:=am (Kd.R_lower ho4 (pz d0));have n1_:=am (pu d0 hb);clear HB;have HO183:=n0_;have HB:=n1_;clear n0_ n1_;clear hb ho4)|((with_reducible refine gate_builtin (b:=.append) (xs:=#[.tmp 5, .tmp 6]) rfl ?_);at_builtin;refine Kd.R_append_rows (Kd.int .u8) (w0:=w) w.heap.size rfl (.tmp 5) (.tmp 6) 57 5 (.int .u8 0) 1 rfl Try.underlying57 info5 rfl d11 d10 v182 y181 l0 _ _ _ (fun _=>True) (fun _=>False) rfl rfl ?aO ?aR (fun _ _ h=>h) (fun _ h=>h.elim) ?aF ?aB ?aS ?aL ?_;(case aR=>repeat (first|exact (Kd.C_below HR0.out HB.out)|(with_reducible refine Kd.C_alloc ?_ _)|(with_reducible refine Kd.C_drewN ?_ _)|(with_reducible refine Kd.C_drew ?_)));(case aB=>exact d0);(case aF=>exact (fun _ _=>trivial));(case aO=>exact d24);(case aS=>exact (pz d0));(case aL=>have:=LMc2.out;omega);intro v185 w5 ho hb hg hat;rw [← Ny184.out] at ho;have n0_:=am (hb);have n1_:=am (ho);clear HB;clear HO183;have HB:=n0_;have HO186:=n1_;clear n0_ n1_;clear ho hb hg hat))
  go_ret
  exact ⟨_,d4,by (with_reducible repeat (first|apply Kd.R_alloc|apply Kd.R_drewN|apply Kd.R_drew));exact HO186.out,d0⟩
 rw [if_neg c2] at H
 exact absurd H d20

def impl_added.l0:Nat→List Int→List Int→List Int→Int→Int→Option (List Int)
 | 0,_,_,_,_,_=>none
 | k+1,x1,x5,x9,x10,x11=>if x11 < x10 then (if 0≤x11 then (if x11 < (x9.length:Int) then (if x11 < (x1.length:Int) then (if x5.length < 140737488355328 then (impl_added.l0 k x1 (x5 ++ [Go.bits .xor .u8 (rd x9 x11) (rd x1 x11)]) x9 x10 (wrap64 (x11+1))) else (none)) else (none)) else (none)) else (none)) else (some x5)
def impl_added.f (k:Nat) (l0:List Int) (l1:List Int):Option (List Int):=impl_added.l0 k l1 (([]:List Int)) l0 (l0.length:Int) 0
theorem impl_added.mono_l:∀ k,(∀ y0 y1 y2 y3 y4,LeO (impl_added.l0 k y0 y1 y2 y3 y4) (impl_added.l0 (k+1) y0 y1 y2 y3 y4))
 | 0=>fun _ _ _ _ _ r h=>by simp [impl_added.l0] at h
 | k+1=>by
  have ih0:=impl_added.mono_l k
  intro y0 y1 y2 y3 y4
  unfold impl_added.l0
  repeat' first
  | (with_reducible exact ih0 _ _ _ _ _)
  |(with_reducible exact LeO.refl _)|(with_reducible exact LeO.none _)|(with_reducible refine LeO.ite ?_ ?_)|(with_reducible refine LeO.bind ?_ (fun _=>?_))|exact ih0 _ _ _ _ _|exact LeO.none _|refine LeO.ite ?_ ?_|refine LeO.bind ?_ (fun _=>?_)
theorem impl_added.mono:∀ a0 a1 k,LeO (impl_added.f k a0 a1) (impl_added.f (k+1) a0 a1):=by
 intro a0 a1 k
 have ih0:=impl_added.mono_l k
 unfold impl_added.f
 repeat' first
   | (with_reducible exact ih0 _ _ _ _ _)
   |(with_reducible exact LeO.refl _)|(with_reducible exact LeO.none _)|(with_reducible refine LeO.ite ?_ ?_)|(with_reducible refine LeO.bind ?_ (fun _=>?_))|exact ih0 _ _ _ _ _|exact LeO.none _|refine LeO.ite ?_ ?_|refine LeO.bind ?_ (fun _=>?_)
theorem impl_added.calls (k:Nat) (A0:Option Addr) (c0:Nat) (l0:List Int) (A1:Option Addr) (c1:Nat) (l1:List Int) (r:List Int) (w:World) (hr0:Kd.C (Kd.int .u8) w A0 l0.length l0) (hc0:l0.length≤c0) (hr1:Kd.C (Kd.int .u8) w A1 l1.length l1) (hc1:l1.length≤c1) (h:impl_added.f k l0 l1=some r) :
  Calls Try.prog 131 #[.slice A0 l0.length c0, .slice A1 l1.length c1] w fun e w'=>∃ v0_:Value,e = .returned (v0_)∧Kd.R (Kd.int .u8) 5 w' w.heap.size (fun _=>True) v0_ r∧Below w.heap.size w w':=by
 have HR0:=am hr0
 have HC0:=am hc0
 clear hr0 hc0
 have HR1:=am hr1
 have HC1:=am hc1
 clear hr1 hc1
 have HB:=am (Below.refl w.heap.size w)
 have H:(impl_added.l0 k l1 (([]:List Int)) l0 (l0.length:Int) 0)=some r:=h
 clear h
 obtain ⟨y311,hy311⟩:∃ y_:List Int,y_=(([]:List Int)):=⟨_,rfl⟩
 replace H:(impl_added.l0 k l1 y311 l0 (l0.length:Int) 0)=some r:=by first|(rw [hy311];with_reducible exact H)|(have H2_:=(Option.bind_some _ _).symm.trans H;rw [hy311];with_reducible exact H2_)|(have H2_:=(Option.bind_some _ _).symm.trans H;with_reducible exact H2_)|with_reducible exact H|(rw [hy311];exact H)|exact H
 have Ny311:=am hy311
 clear hy311
 have H':=am H
 clear H
 go_enter Try.func131,Try.ntmps131
 go_wp2_with (first|((with_reducible refine gate_dst (N:=8) rfl ?_);refine Kd.R_lit (Kd.int .u8) _ 5 ?hg (N:=8) ?hd (xs:=([]:List Int)) (inner:=[]) (ok:=fun _=>True) (okp:=fun _=>True) ?hr ?hp (fun _ hk=>hk) trivial (Below.refl _ _) (Nat.le_refl _) d20 ?_;(case hd=>rfl);(case hg=>rfl);(case hr=>first|(go_simp;done)|(go_simp;rfl));(case hp=>exact (Reps.none _ _));intro v312 w3 ho4 hb hg_ hnew_;clear hg_ hnew_;(first|rw [← Ny311.out] at ho4|(simp only [Int.reduceToNat] at ho4;rw [← Ny311.out] at ho4));have n0_:=am (Kd.R_lower ho4 (pz d0));have n1_:=am (pu d0 hb);clear HB;have HO313:=n0_;have HB:=n1_;clear n0_ n1_;clear hb ho4))
 go_loopg [5,11] k (fun kq v5 v11 w'=>∃ (x5_1:List Int) (x11_1:Int),v11 = .int .i64 x11_1∧Aside0 (impl_added.l0 kq l1 x5_1 l0 (l0.length:Int) x11_1=some r)∧Aside0 (kq≤k)∧Aside0 (Kd.R (Kd.int .u8) 5 w' w.heap.size (fun _=>True) v5 x5_1)∧Aside0 (Below w.heap.size w w'))
 case atStart=>exact ⟨(y311),(0),d2,H',⟨Nat.le_refl _⟩,⟨by (with_reducible repeat (first|apply Kd.R_alloc|apply Kd.R_drewN|apply Kd.R_drew));exact HO313.out⟩,⟨d0⟩⟩
 case round =>
  clear H'
  try clear c1
  try clear p2
  obtain ⟨x5_1,x11_1,rfl,HA,HK1,HO_5,HB⟩:=hrel
  cases gk with
  | zero=>exact absurd HA.out (by simp [impl_added.l0])
  | succ k1 =>
   have H:=HA.out
   clear HA
   simp only [impl_added.l0] at H
   by_cases c5:x11_1 < (l0.length:Int)
   ·rw [if_pos c5] at H
    have c5b0:decide (x11_1 < (l0.length:Int))=true:=decide_eq_true c5
    clear c5
    by_cases c6:0≤x11_1
    ·rw [if_pos c6] at H
     have c6b0:decide (0≤x11_1)=true:=decide_eq_true c6
     clear c6
     by_cases c7:x11_1 < (l0.length:Int)
     ·rw [if_pos c7] at H
      have c7b0:decide (x11_1 < (l0.length:Int))=true:=decide_eq_true c7
      clear c7
      by_cases c8:x11_1 < (l1.length:Int)
      ·rw [if_pos c8] at H
       have c8b0:decide (x11_1 < (l1.length:Int))=true:=decide_eq_true c8
       clear c8
       by_cases c9:x5_1.length < 140737488355328
       ·rw [if_pos c9] at H
        have LMc9:=am c9
        clear c9
        obtain ⟨y316,hy316⟩:∃ y_:List Int,y_=(x5_1 ++ [Go.bits .xor .u8 (rd l0 x11_1) (rd l1 x11_1)]):=⟨_,rfl⟩
        replace H:(impl_added.l0 k1 l1 y316 l0 (l0.length:Int) (wrap64 (x11_1+1)))=some r:=by first|(rw [hy316];with_reducible exact H)|(have H2_:=(Option.bind_some _ _).symm.trans H;rw [hy316];with_reducible exact H2_)|(have H2_:=(Option.bind_some _ _).symm.trans H;with_reducible exact H2_)|with_reducible exact H|(rw [hy316];exact H)|exact H
        have Ny316:=am hy316
        clear hy316
        have H':=am H
        clear H
        have p314:0≤(x11_1:Int):=od d1
        have q314:x11_1 < (l0.length:Int):=od d1
        obtain ⟨ad314,e314,hx314_0⟩:=Kd.at_int HR0.out x11_1 p314 q314
        cases e314
        replace hx314_0:=(HB.out.cell (World.block_lt_of_cell? w _ hx314_0)).trans hx314_0
        replace p314:=eq_true p314
        replace q314:=eq_true q314
        have p315:0≤(x11_1:Int):=od d1
        have q315:x11_1 < (l1.length:Int):=od d1
        obtain ⟨ad315,e315,hx315_0⟩:=Kd.at_int HR1.out x11_1 p315 q315
        cases e315
        replace hx315_0:=(HB.out.cell (World.block_lt_of_cell? w _ hx315_0)).trans hx315_0
        replace p315:=eq_true p315
        replace q315:=eq_true q315
        go_wp2_with (first|((with_reducible refine gate_builtin (b:=.append) (xs:=#[.tmp 16, .tmp 23]) rfl ?_);at_builtin;refine Kd.R_append (Kd.int .u8) (w0:=w) w.heap.size rfl (.tmp 16) (.tmp 23) 57 5 (.int .u8 0) 1 rfl Try.underlying57 info5 rfl d11 d10 u5 x5_1 (Go.bits .xor .u8 (rd l0 x11_1) (rd l1 x11_1)) [.int .u8 (Go.bits .xor .u8 (rd l0 x11_1) (rd l1 x11_1))] (fun _=>True) (fun _=>False) rfl rfl ?aP (fun _ hk=>hk.elim) ?aF ?aO ?aB ?aS ?aL ?_;(case aP=>exact rfl);(case aB=>exact d0);(case aF=>exact (fun _ _=>trivial));(case aO=>exact d19);(case aS=>exact (pz d0));(case aL=>have:=LMc9.out;omega);intro v317 w10 ho hb hg hat;rw [← Ny316.out] at ho;have n0_:=am (hb);have n1_:=am (ho);clear HB;clear HO_5;have HB:=n0_;have HO318:=n1_;clear n0_ n1_;clear ho hb hg hat))
        go_roundg k1
        case measure=>have:=HK1.out;omega
        case rel=>exact ⟨(y316),(wrap64 (x11_1+1)),d2,H',⟨d30⟩,⟨by (with_reducible repeat (first|apply Kd.R_alloc|apply Kd.R_drewN|apply Kd.R_drew));exact HO318.out⟩,⟨d0⟩⟩
       rw [if_neg c9] at H
       exact absurd H d20
      rw [if_neg c8] at H
      exact absurd H d20
     rw [if_neg c7] at H
     exact absurd H d20
    rw [if_neg c6] at H
    exact absurd H d20
   rw [if_neg c5] at H
   have c5b0:decide (x11_1 < (l0.length:Int))=false:=decide_eq_false c5
   clear c5
   obtain rfl:=Option.some.inj H
   go_wp2
   go_ret
   exact ⟨_,d4,d19,d0⟩

def impl_scaled.l0:Nat→Int→List Int→List Int→Int→Int→Option (List Int)
 | 0,_,_,_,_,_=>none
 | k+1,x0,x5,x9,x10,x11=>if x11 < x10 then (if 0≤x11 then (if x11 < (x9.length:Int) then ((impl_Times.f k x0 (rd x9 x11)).bind fun t323=>(if x5.length < 140737488355328 then (impl_scaled.l0 k x0 (x5 ++ [t323]) x9 x10 (wrap64 (x11+1))) else (none))) else (none)) else (none)) else (some x5)
def impl_scaled.f (k:Nat) (a0:Int) (l1:List Int):Option (List Int):=impl_scaled.l0 k a0 (([]:List Int)) l1 (l1.length:Int) 0
theorem impl_scaled.mono_l:∀ k,(∀ y0 y1 y2 y3 y4,LeO (impl_scaled.l0 k y0 y1 y2 y3 y4) (impl_scaled.l0 (k+1) y0 y1 y2 y3 y4))
 | 0=>fun _ _ _ _ _ r h=>by simp [impl_scaled.l0] at h
 | k+1=>by
  have ih0:=impl_scaled.mono_l k
  intro y0 y1 y2 y3 y4
  unfold impl_scaled.l0
  repeat' first
  | (with_reducible exact ih0 _ _ _ _ _)
  | (with_reducible exact impl_Times.mono _ _ _)
  |(with_reducible exact LeO.refl _)|(with_reducible exact LeO.none _)|(with_reducible refine LeO.ite ?_ ?_)|(with_reducible refine LeO.bind ?_ (fun _=>?_))|exact ih0 _ _ _ _ _|exact impl_Times.mono _ _ _|exact LeO.none _|refine LeO.ite ?_ ?_|refine LeO.bind ?_ (fun _=>?_)
theorem impl_scaled.mono:∀ a0 a1 k,LeO (impl_scaled.f k a0 a1) (impl_scaled.f (k+1) a0 a1):=by
 intro a0 a1 k
 have ih0:=impl_scaled.mono_l k
 unfold impl_scaled.f
 repeat' first
   | (with_reducible exact ih0 _ _ _ _ _)
   | (with_reducible exact impl_Times.mono _ _ _)
   |(with_reducible exact LeO.refl _)|(with_reducible exact LeO.none _)|(with_reducible refine LeO.ite ?_ ?_)|(with_reducible refine LeO.bind ?_ (fun _=>?_))|exact ih0 _ _ _ _ _|exact impl_Times.mono _ _ _|exact LeO.none _|refine LeO.ite ?_ ?_|refine LeO.bind ?_ (fun _=>?_)
theorem impl_scaled.calls (k:Nat) (a0:Int) (A1:Option Addr) (c1:Nat) (l1:List Int) (r:List Int) (w:World) (hr1:Kd.C (Kd.int .u8) w A1 l1.length l1) (hc1:l1.length≤c1) (h:impl_scaled.f k a0 l1=some r) :
  Calls Try.prog 132 #[.int .u8 a0, .slice A1 l1.length c1] w fun e w'=>∃ v0_:Value,e = .returned (v0_)∧Kd.R (Kd.int .u8) 5 w' w.heap.size (fun _=>True) v0_ r∧Below w.heap.size w w':=by
 have HR1:=am hr1
 have HC1:=am hc1
 clear hr1 hc1
 have HB:=am (Below.refl w.heap.size w)
 have H:(impl_scaled.l0 k a0 (([]:List Int)) l1 (l1.length:Int) 0)=some r:=h
 clear h
 obtain ⟨y319,hy319⟩:∃ y_:List Int,y_=(([]:List Int)):=⟨_,rfl⟩
 replace H:(impl_scaled.l0 k a0 y319 l1 (l1.length:Int) 0)=some r:=by first|(rw [hy319];with_reducible exact H)|(have H2_:=(Option.bind_some _ _).symm.trans H;rw [hy319];with_reducible exact H2_)|(have H2_:=(Option.bind_some _ _).symm.trans H;with_reducible exact H2_)|with_reducible exact H|(rw [hy319];exact H)|exact H
 have Ny319:=am hy319
 clear hy319
 have H':=am H
 clear H
 go_enter Try.func132,Try.ntmps132
 go_wp2_with (first|((with_reducible refine gate_dst (N:=8) rfl ?_);refine Kd.R_lit (Kd.int .u8) _ 5 ?hg (N:=8) ?hd (xs:=([]:List Int)) (inner:=[]) (ok:=fun _=>True) (okp:=fun _=>True) ?hr ?hp (fun _ hk=>hk) trivial (Below.refl _ _) (Nat.le_refl _) d20 ?_;(case hd=>rfl);(case hg=>rfl);(case hr=>first|(go_simp;done)|(go_simp;rfl));(case hp=>exact (Reps.none _ _));intro v320 w3 ho4 hb hg_ hnew_;clear hg_ hnew_;(first|rw [← Ny319.out] at ho4|(simp only [Int.reduceToNat] at ho4;rw [← Ny319.out] at ho4));have n0_:=am (Kd.R_lower ho4 (pz d0));have n1_:=am (pu d0 hb);clear HB;have HO321:=n0_;have HB:=n1_;clear n0_ n1_;clear hb ho4))
 go_loopg [5,11] k (fun kq v5 v11 w'=>∃ (x5_1:List Int) (x11_1:Int),v11 = .int .i64 x11_1∧Aside0 (impl_scaled.l0 kq a0 x5_1 l1 (l1.length:Int) x11_1=some r)∧Aside0 (kq≤k)∧Aside0 (Kd.R (Kd.int .u8) 5 w' w.heap.size (fun _=>True) v5 x5_1)∧Aside0 (Below w.heap.size w w'))
 case atStart=>exact ⟨(y319),(0),d2,H',⟨Nat.le_refl _⟩,⟨by (with_reducible repeat (first|apply Kd.R_alloc|apply Kd.R_drewN|apply Kd.R_drew));exact HO321.out⟩,⟨d0⟩⟩
 case round =>
  clear H'
  try clear c1
  try clear p2
  obtain ⟨x5_1,x11_1,rfl,HA,HK1,HO_5,HB⟩:=hrel
  cases gk with
  | zero=>exact absurd HA.out (by simp [impl_scaled.l0])
  | succ k1 =>
   have H:=HA.out
   clear HA
   simp only [impl_scaled.l0] at H
   by_cases c5:x11_1 < (l1.length:Int)
   ·rw [if_pos c5] at H
    have c5b0:decide (x11_1 < (l1.length:Int))=true:=decide_eq_true c5
    clear c5
    by_cases c6:0≤x11_1
    ·rw [if_pos c6] at H
     have c6b0:decide (0≤x11_1)=true:=decide_eq_true c6
     clear c6
     by_cases c7:x11_1 < (l1.length:Int)
     ·rw [if_pos c7] at H
      have c7b0:decide (x11_1 < (l1.length:Int))=true:=decide_eq_true c7
      clear c7
      replace H:=Option.bind_eq_some_iff.mp H
      obtain ⟨t323,A80,H⟩:=H
      replace H:(if x5_1.length < 140737488355328 then (impl_scaled.l0 k1 a0 (x5_1 ++ [t323]) l1 (l1.length:Int) (wrap64 (x11_1+1))) else (none))=some r:=H
      have A8:=am A80
      clear A80
      by_cases c9:x5_1.length < 140737488355328
      ·rw [if_pos c9] at H
       have LMc9:=am c9
       clear c9
       obtain ⟨y324,hy324⟩:∃ y_:List Int,y_=(x5_1 ++ [t323]):=⟨_,rfl⟩
       replace H:(impl_scaled.l0 k1 a0 y324 l1 (l1.length:Int) (wrap64 (x11_1+1)))=some r:=by first|(rw [hy324];with_reducible exact H)|(have H2_:=(Option.bind_some _ _).symm.trans H;rw [hy324];with_reducible exact H2_)|(have H2_:=(Option.bind_some _ _).symm.trans H;with_reducible exact H2_)|with_reducible exact H|(rw [hy324];exact H)|exact H
       have Ny324:=am hy324
       clear hy324
       have H':=am H
       clear H
       have p322:0≤(x11_1:Int):=od d1
       have q322:x11_1 < (l1.length:Int):=od d1
       obtain ⟨ad322,e322,hx322_0⟩:=Kd.at_int HR1.out x11_1 p322 q322
       cases e322
       replace hx322_0:=(HB.out.cell (World.block_lt_of_cell? w _ hx322_0)).trans hx322_0
       replace p322:=eq_true p322
       replace q322:=eq_true q322
       go_wp2_with (first|((with_reducible refine gate_callee (f:=192) rfl ?_);refine goesL_ (some 18) rfl rfl Try.func192 d3 rfl #[.int .u8 a0, .int .u8 (rd l1 x11_1)] rfl d5 ?_;(with_reducible refine (impl_Times.calls k1 a0 (rd l1 x11_1) t323 _ A8.out).mono ?_);rintro e w' ⟨rfl,⟨nd,rfl⟩⟩;refine ⟨_,rfl,?_⟩)|((with_reducible refine gate_builtin (b:=.append) (xs:=#[.tmp 15, .tmp 19]) rfl ?_);at_builtin;refine Kd.R_append (Kd.int .u8) (w0:=w) w.heap.size rfl (.tmp 15) (.tmp 19) 57 5 (.int .u8 0) 1 rfl Try.underlying57 info5 rfl d11 d10 u5 x5_1 t323 [.int .u8 t323] (fun _=>True) (fun _=>False) rfl rfl ?aP (fun _ hk=>hk.elim) ?aF ?aO ?aB ?aS ?aL ?_;(case aP=>exact rfl);(case aB=>exact d0);(case aF=>exact (fun _ _=>trivial));(case aO=>exact d19);(case aS=>exact (pz d0));(case aL=>have:=LMc9.out;omega);intro v325 w10 ho hb hg hat;rw [← Ny324.out] at ho;have n0_:=am (hb);have n1_:=am (ho);clear HB;clear HO_5;have HB:=n0_;have HO326:=n1_;clear n0_ n1_;clear ho hb hg hat))
       go_roundg k1
       case measure=>have:=HK1.out;omega
       case rel=>exact ⟨(y324),(wrap64 (x11_1+1)),d2,H',⟨d30⟩,⟨by (with_reducible repeat (first|apply Kd.R_alloc|apply Kd.R_drewN|apply Kd.R_drew));exact HO326.out⟩,⟨d0⟩⟩
      rw [if_neg c9] at H
      exact absurd H d20
     rw [if_neg c7] at H
     exact absurd H d20
    rw [if_neg c6] at H
    exact absurd H d20
   rw [if_neg c5] at H
   have c5b0:decide (x11_1 < (l1.length:Int))=false:=decide_eq_false c5
   clear c5
   obtain rfl:=Option.some.inj H
   go_wp2
   go_ret
   exact ⟨_,d4,d19,d0⟩

-- NOT PRINTED: function 200 (slices_IndexFunc_byte_byte)

def impl_Inverse.f (k:Nat) (a0:Int):Option (Int):=(impl_power.f k a0 254).bind fun t327=>(some t327)
theorem impl_Inverse.mono:∀ a0 k,LeO (impl_Inverse.f k a0) (impl_Inverse.f (k+1) a0):=by
 intro a0 k
 unfold impl_Inverse.f
 repeat' first
   | (with_reducible exact impl_power.mono _ _ _)
   |(with_reducible exact LeO.refl _)|(with_reducible exact LeO.none _)|(with_reducible refine LeO.ite ?_ ?_)|(with_reducible refine LeO.bind ?_ (fun _=>?_))|exact impl_power.mono _ _ _|exact LeO.none _|refine LeO.ite ?_ ?_|refine LeO.bind ?_ (fun _=>?_)
theorem impl_Inverse.calls (k:Nat) (a0:Int) (r:Int) (w:World) (h:impl_Inverse.f k a0=some r) :
  Calls Try.prog 207 #[.int .u8 a0] w fun e w'=>e = .returned (.int .u8 r)∧Drawn0 w w':=by
 have H:((impl_power.f k a0 254).bind fun t327=>(some t327))=some r:=h
 clear h
 replace H:=Option.bind_eq_some_iff.mp H
 obtain ⟨t327,A20,H⟩:=H
 replace H:(some t327)=some r:=H
 have A2:=am A20
 clear A20
 obtain rfl:=Option.some.inj H
 go_enter Try.func207,Try.ntmps207
 go_wp2_with (first|((with_reducible refine gate_callee (f:=180) rfl ?_);refine goesL_ (some 4) rfl rfl Try.func180 d3 rfl #[.int .u8 a0, .int .i64 254] rfl d5 ?_;(with_reducible refine (impl_power.calls k a0 254 t327 _ A2.out).mono ?_);rintro e w' ⟨rfl,⟨nd,rfl⟩⟩;refine ⟨_,rfl,?_⟩))
 go_ret
 exact ⟨d2,d12⟩

end Go.Proofs.Ytajikfnpcobnpaa.PFnExactDecodeMsr
-- HALVED
-- SQUEEZED
-- SQUEEZED2
-- SQUEEZED3
-- SQUEEZED4
-- SQUEEZED5
-- SQUEEZED6
