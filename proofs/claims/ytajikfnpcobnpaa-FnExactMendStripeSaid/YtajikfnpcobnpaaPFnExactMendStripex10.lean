-- Laid by a program of this session.
import Derived.Test.YtajikfnpcobnpaaVMendStripeB
import Derived.Test.YtajikfnpcobnpaaPFnExactMendStripex0
namespace Go.Proofs.Ytajikfnpcobnpaa.PFnExactMendStripe
open Go.RowKit Go.Proofs.YtajikfnpcobnpaaW.PrintWords Go.Proofs.YtajikfnpcobnpaaW.PrintLast Go.Proofs.YtajikfnpcobnpaaW.PrintMore Go.Proofs.Ytajikfnpcobnpaa.KitS
attribute [local go_sem] max2_int min2_int max_two min_two max_three min_three max_four min_four   -- for this text's walks alone
set_option linter.unusedVariables false
set_option maxHeartbeats 8000000
set_option maxRecDepth 100000
set_option linter.unusedSimpArgs false

mutual
def spec_l2Part.l0:Nat→List Int→List Int→Int→Int→List (List Int)→List (List Int)→Option ((List (List Int)))
 | 0,_,_,_,_,_,_=>none
 | k+1,x2,x14,x15,x16,x210000,x212000=>if x16 < x15 then (if 0≤x16 then (if x16 < (x14.length:Int) then (spec_l2Part.l1 k x2 (rd x14 x16) ([]:List Int) x14 x15 x16 x2 (x2.length:Int) 0 x210000 x212000) else (none)) else (none)) else (some x212000)
def spec_l2Part.l1:Nat→List Int→Int→List Int→List Int→Int→Int→List Int→Int→Int→List (List Int)→List (List Int)→Option ((List (List Int)))
 | 0,_,_,_,_,_,_,_,_,_,_,_=>none
 | k+1,x2,x9,x10,x14,x15,x16,x20,x21,x22,x210000,x212000=>if x22 < x21 then (if 0≤x22 then (if x22 < (x20.length:Int) then (if 0≤x9 then (if x9 < (x210000.length:Int) then (if 0≤(rd x20 x22) then (if (rd x20 x22) < ((rd_L3 x210000 x9).length:Int) then (if x10.length < 140737488355328 then (spec_l2Part.l1 k x2 x9 (x10 ++ [rd (rd_L3 x210000 x9) (rd x20 x22)]) x14 x15 x16 x20 x21 (wrap64 (x22+1)) x210000 x212000) else (none)) else (none)) else (none)) else (none)) else (none)) else (none)) else (none)) else (if x212000.length < 5864062014805 then (spec_l2Part.l0 k x2 x14 x15 (wrap64 (x16+1)) x210000 (x212000 ++ [x10])) else (none))
end
def spec_l2Part.f (k:Nat) (l0_0:List (List Int)) (l1:List Int) (l2:List Int):Option ((List (List Int))):=spec_l2Part.l0 k l2 l1 (l1.length:Int) 0 l0_0 ([]:List (List Int))
theorem spec_l2Part.mono_l:∀ k,(∀ y0 y1 y2 y3 y4 y5,LeO (spec_l2Part.l0 k y0 y1 y2 y3 y4 y5) (spec_l2Part.l0 (k+1) y0 y1 y2 y3 y4 y5))∧(∀ y0 y1 y2 y3 y4 y5 y6 y7 y8 y9 y10,LeO (spec_l2Part.l1 k y0 y1 y2 y3 y4 y5 y6 y7 y8 y9 y10) (spec_l2Part.l1 (k+1) y0 y1 y2 y3 y4 y5 y6 y7 y8 y9 y10))
 | 0=>⟨fun _ _ _ _ _ _ r h=>by simp [spec_l2Part.l0] at h,fun _ _ _ _ _ _ _ _ _ _ _ r h=>by simp [spec_l2Part.l1] at h⟩
 | k+1=>by
  obtain ⟨ih0,ih1⟩:=spec_l2Part.mono_l k
  refine ⟨?_,?_⟩
  ·intro y0 y1 y2 y3 y4 y5
   unfold spec_l2Part.l0
   exact mm
  intro y0 y1 y2 y3 y4 y5 y6 y7 y8 y9 y10
  unfold spec_l2Part.l1
  exact mm
theorem spec_l2Part.mono:∀ a0 a1 a2 k,LeO (spec_l2Part.f k a0 a1 a2) (spec_l2Part.f (k+1) a0 a1 a2):=by
 intro a0 a1 a2 k
 obtain ⟨ih0,ih1⟩:=spec_l2Part.mono_l k
 unfold spec_l2Part.f
 exact mm
theorem spec_l2Part.calls (k:Nat) (A0_0:Option Addr) (c0_0:Nat) (l0_0:List (List Int)) (A1:Option Addr) (c1:Nat) (l1:List Int) (A2:Option Addr) (c2:Nat) (l2:List Int) (r:List (List Int)) (w:World) (hr0_0:Kd.C (Kd.slice 5 (Kd.int .u8)) w A0_0 l0_0.length l0_0) (hc0_0:l0_0.length≤c0_0) (hr1:Kd.C (Kd.int .i64) w A1 l1.length l1) (hc1:l1.length≤c1) (hr2:Kd.C (Kd.int .i64) w A2 l2.length l2) (hc2:l2.length≤c2) (h:spec_l2Part.f k l0_0 l1 l2=some r) :
  Calls Try.prog 92 #[.agg #[.slice A0_0 l0_0.length c0_0], .slice A1 l1.length c1, .slice A2 l2.length c2] w fun e w'=>∃ v0_:Value,e = .returned (.agg #[v0_])∧Kd.S (Kd.slice 5 (Kd.int .u8)) 57 w' w.heap.size (fun _=>True) v0_ r∧Below w.heap.size w w':=by
 have hu43:=Try.underlying43
 have HR0_0:=am hr0_0
 have HC0_0:=am hc0_0
 clear hr0_0 hc0_0
 have HR1:=am hr1
 have HC1:=am hc1
 clear hr1 hc1
 have HR2:=am hr2
 have HC2:=am hc2
 clear hr2 hc2
 have HB:=am (Below.refl w.heap.size w)
 have H:=h
 unfold spec_l2Part.f at H
 clear h
 have H':=am H
 clear H
 go_enter Try.func92,Try.ntmps92
 go_wp2_with (first|(refine gD 3 ?_;refine gB (cs:=#[.slice A0_0 l0_0.length c0_0]) 43 ?_;intro gb209 hg w4 hbox hb;have BK209:=am (hbox);have GW209:=ye HB hg;replace HB:=yH HB hb;have GE209:=GW209;clear hb hbox hg)|(refine gD 6 ?_;refine gB (cs:=#[.slice none 0 0]) 43 ?_;intro gb210 hg w5 hbox hb;have BK210:=am (hbox);have GW210:=ye HB hg;replace HB:=yH HB hb;have NB209_210:=yl BK209 hg;have NB210_209:=yg BK209 hg;replace BK209:=yb BK209 hb;have GE210:=GW210;clear hb hbox hg)|(refine gD 7 ?_;refine gB (cs:=#[.slice none 0 0]) 43 ?_;intro gb211 hg w6 hbox hb;have BK211:=am (hbox);have GW211:=ye HB hg;replace HB:=yH HB hb;have NB209_211:=yl BK209 hg;have NB211_209:=yg BK209 hg;replace BK209:=yb BK209 hb;have NB210_211:=yl BK210 hg;have NB211_210:=yg BK210 hg;replace BK210:=yb BK210 hb;have GE211:=GW211;clear hb hbox hg;have hnb7:=NB211_209.out;have hnc7:=NB209_211.out;have hnb8:=NB211_210.out;have hnc8:=NB210_211.out;obtain ⟨hcz9_0,hfz9_0⟩:=yk1 BK211))
 go_loopg [16] k (fun kq v16 w'=>∃ (x16_1:Int) (x212000_1:List (List Int)) (u212000:Value),v16 = .int .i64 x16_1∧Aside0 (spec_l2Part.l0 kq l2 l1 (l1.length:Int) x16_1 l0_0 x212000_1=some r)∧Aside0 (kq≤k)∧Aside0 (Kd.S (Kd.slice 5 (Kd.int .u8)) 57 w' w.heap.size (fun _=>True) u212000 x212000_1)∧Aside0 (w'.heap[gb209]? = some (.cells #[(.slice A0_0 l0_0.length c0_0)] 43 (0,0)))∧Aside0 (w'.heap[gb210]? = some (.cells #[(.slice none 0 0)] 43 (0,0)))∧Aside0 (w'.heap[gb211]? = some (.cells #[u212000] 43 (0,0)))∧Aside0 (Below w.heap.size w w'))
 case atStart=>exact ⟨(0),(([]:List (List Int))),(.slice none 0 0),D1,H',⟨Nat.le_refl _⟩,⟨D40⟩,⟨yF BK209⟩,⟨yF BK210⟩,⟨by refine sB ?_;refine blk_put (cs:=#[.slice none 0 0]) ?_ 0 _ rfl;exact yB BK211⟩,⟨yW HB⟩⟩
 case round =>
  clear H'
  try clear c1
  try clear c2
  try clear p2
  try clear c7
  try clear c8
  try clear c9
  try clear hcz9_0
  try clear hfz9_0
  obtain ⟨x16_1,x212000_1,u212000,rfl,HA,HK1,HO_212000,BK209,BK210,BK211,HB⟩:=hrel
  cases gk with
  | zero=>exact absurd HA.out (by simp [spec_l2Part.l0])
  | succ k1 =>
   have H:=HA.out
   clear HA
   simp only [spec_l2Part.l0] at H
   by_cases c10:x16_1 < (l1.length:Int)
   ·rw [if_pos c10] at H
    have c10b0:=decide_eq_true c10
    clear c10
    obtain ⟨c11,H⟩:=yi H
    have c11b0:=decide_eq_true c11
    clear c11
    obtain ⟨c12,H⟩:=yi H
    have c12b0:=decide_eq_true c12
    clear c12
    have H':=am H
    clear H
    have p212:0≤(x16_1:Int):=od D0
    have q212:x16_1 < (l1.length:Int):=od D0
    obtain ⟨ad212,e212,hx212_0⟩:=Kd.at_int HR1.out x16_1 p212 q212
    cases e212
    replace hx212_0:=(HB.out.cell (World.block_lt_of_cell? w _ hx212_0)).trans hx212_0
    replace p212:=eq_true p212
    replace q212:=eq_true q212
    go_wp2
    go_loopg [10,22] k1 (fun kq v10 v22 w'=>∃ (x10_2:List Int) (x22_2:Int),v22 = .int .i64 x22_2∧Aside0 (spec_l2Part.l1 kq l2 (rd l1 x16_1) x10_2 l1 (l1.length:Int) x16_1 l2 (l2.length:Int) x22_2 l0_0 x212000_1=some r)∧Aside0 (kq≤k1)∧Aside0 (Kd.R (Kd.int .u8) 5 w' w.heap.size (fun _=>True) v10 x10_2)∧Aside0 (Kd.S (Kd.slice 5 (Kd.int .u8)) 57 w' w.heap.size (fun k_=>some k_ ≠ (v10:Value).ownBlock) u212000 x212000_1)∧Aside0 (w'.heap[gb209]? = some (.cells #[(.slice A0_0 l0_0.length c0_0)] 43 (0,0)))∧Aside0 (w'.heap[gb210]? = some (.cells #[(.slice none 0 0)] 43 (0,0)))∧Aside0 (w'.heap[gb211]? = some (.cells #[u212000] 43 (0,0)))∧Aside0 (Below w.heap.size w w'))
    case atStart=>exact ⟨(([]:List Int)),(0),D1,H',⟨Nat.le_refl _⟩,⟨D9⟩,⟨by refine sS ?_;exact Kd.S_mono HO_212000.out (fun _ hk=>D46)⟩,⟨yB BK209⟩,⟨yB BK210⟩,⟨yB BK211⟩,⟨yW HB⟩⟩
    case round =>
     clear H'
     try clear c1
     try clear c2
     try clear p2
     try clear q2
     try clear hx2
     try clear c7
     try clear c8
     try clear c9
     try clear c10
     try clear c10b0
     try clear c11
     try clear c11b0
     try clear c12
     try clear c12b0
     try clear hcz9_0
     try clear hfz9_0
     try clear hx212_0
     try clear p2
     try clear p212
     try clear q212
     obtain ⟨x10_2,x22_2,rfl,HA,HK2,HO_10,HO_212000,BK209,BK210,BK211,HB⟩:=hrel
     cases gk with
     | zero=>exact absurd HA.out (by simp [spec_l2Part.l1])
     | succ k2 =>
      have H:=HA.out
      clear HA
      simp only [spec_l2Part.l1] at H
      by_cases c13:x22_2 < (l2.length:Int)
      ·rw [if_pos c13] at H
       have c13b0:=decide_eq_true c13
       clear c13
       obtain ⟨c14,H⟩:=yi H
       have c14b0:=decide_eq_true c14
       clear c14
       obtain ⟨c15,H⟩:=yi H
       have c15b0:=decide_eq_true c15
       clear c15
       obtain ⟨c16,H⟩:=yi H
       have c16b0:=decide_eq_true c16
       clear c16
       obtain ⟨c17,H⟩:=yi H
       have c17b0:=decide_eq_true c17
       clear c17
       obtain ⟨c18,H⟩:=yi H
       have c18b0:=decide_eq_true c18
       clear c18
       obtain ⟨c19,H⟩:=yi H
       have c19b0:=decide_eq_true c19
       clear c19
       obtain ⟨c20,H⟩:=yi H
       have LMc20:=am c20
       clear c20
       generalize hy216:(x10_2 ++ [rd (rd_L3 l0_0 (rd l1 x16_1)) (rd l2 x22_2)]:List Int)=y216 at H
       have Ny216:=am hy216.symm
       clear hy216
       have H':=am H
       clear H
       have p213:0≤(x22_2:Int):=od D0
       have q213:x22_2 < (l2.length:Int):=od D0
       obtain ⟨ad213,e213,hx213_0⟩:=Kd.at_int HR2.out x22_2 p213 q213
       cases e213
       replace hx213_0:=(HB.out.cell (World.block_lt_of_cell? w _ hx213_0)).trans hx213_0
       replace p213:=eq_true p213
       replace q213:=eq_true q213
       have hnb21:=NB209_210.out
       have hnc21:=NB210_209.out
       have hnb22:=NB209_211.out
       have hnc22:=NB211_209.out
       obtain ⟨hcz23_0,hfz23_0⟩:=yk1 BK209
       have p214:0≤((rd l1 x16_1):Int):=od D0
       have q214:(rd l1 x16_1) < (l0_0.length:Int):=od D0
       obtain ⟨ad214,A214_0,c214_0,e214,hx214_0,hl214_0,hi214_0⟩:=at_L3 HR0_0.out (rd l1 x16_1) p214 q214
       cases e214
       replace hx214_0:=(HB.out.cell (World.block_lt_of_cell? w _ hx214_0)).trans hx214_0
       have HR214_0:=am hi214_0
       have HC214_0:=am hl214_0
       clear hi214_0 hl214_0
       replace p214:=eq_true p214
       replace q214:=eq_true q214
       have p215:0≤((rd l2 x22_2):Int):=od D0
       have q215:(rd l2 x22_2) < ((rd_L3 l0_0 (rd l1 x16_1)).length:Int):=od D0
       obtain ⟨ad215,e215,hx215_0⟩:=Kd.at_int HR214_0.out (rd l2 x22_2) p215 q215
       cases e215
       replace hx215_0:=(HB.out.cell (World.block_lt_of_cell? w _ hx215_0)).trans hx215_0
       replace p215:=eq_true p215
       replace q215:=eq_true q215
       go_wp2_with (first|((with_reducible refine gate_builtin (b:=.append) (xs:=#[.tmp 26, .tmp 35]) rfl ?_);at_builtin;refine Kd.R_append (Kd.int .u8) (w0:=w) w.heap.size rfl (.tmp 26) (.tmp 35) 57 5 (.int .u8 0) 1 rfl Try.underlying57 info5 rfl D6 D8 u10 x10_2 (rd (rd_L3 l0_0 (rd l1 x16_1)) (rd l2 x22_2)) [.int .u8 (rd (rd_L3 l0_0 (rd l1 x16_1)) (rd l2 x22_2))] (fun _=>True) (fun _=>False) rfl rfl D65 (fun _ hk=>hk.elim) D20 (by exact (yR HO_10)) D50 D25 (by have:=LMc20.out;omega) ?_;intro v217 w24 ho hb hg hat;rw [← Ny216.out] at ho;have n0_:=am (Kd.S_after (ok:=(fun _=>True)) (by refine sS ?_;exact Kd.S_mono HO_212000.out (fun _ hk=>⟨trivial,hk⟩)) hg hat);have n1_:=am (blk_grown (g:=gb209) (o:=.cells #[.slice (some ad214) l0_0.length c0_0] 43 (0,0)) (yB BK209) hg (Kd.R_ne HO_10.out BK209.out D6));have n2_:=am (blk_grown (g:=gb210) (o:=.cells #[.slice none 0 0] 43 (0,0)) (yB BK210) hg (Kd.R_ne HO_10.out BK210.out D6));have n3_:=am (blk_grown (g:=gb211) (o:=.cells #[u212000] 43 (0,0)) (yB BK211) hg (Kd.R_ne HO_10.out BK211.out D6));have n4_:=am (hb);have n5_:=am (ho);clear HO_212000 BK209 BK210 BK211 HB HO_10;have HO_212000:=n0_;have BK209:=n1_;have BK210:=n2_;have BK211:=n3_;have HB:=n4_;have HO218:=n5_;clear n0_ n1_ n2_ n3_ n4_ n5_ ho hb hg hat))
       go_roundg k2
       case measure=>have:=HK1.out;have:=HK2.out;omega
       case rel=>exact ⟨(y216),(wrap64 (x22_2+1)),D1,H',⟨D39⟩,⟨yR HO218⟩,⟨by refine sS ?_;exact Kd.S_mono HO_212000.out (fun _ hk=>hk.2)⟩,⟨yB BK209⟩,⟨yB BK210⟩,⟨yB BK211⟩,⟨yW HB⟩⟩
      rw [if_neg c13] at H
      have c13b0:=decide_eq_false c13
      clear c13
      obtain ⟨c25,H⟩:=yi H
      have LMc25:=am c25
      clear c25
      generalize hy219:(x212000_1 ++ [x10_2]:List (List Int))=y219 at H
      have Ny219:=am hy219.symm
      clear hy219
      have H':=am H
      clear H
      have hnb26:=NB211_209.out
      have hnc26:=NB209_211.out
      have hnb27:=NB211_210.out
      have hnc27:=NB210_211.out
      obtain ⟨hcz28_0,hfz28_0⟩:=yk1 BK211
      obtain ⟨Ao30,co30,eo30⟩:=Kd.R_slice HO_10.out
      subst eo30
      go_wp2_with (first|((with_reducible refine gate_builtin (b:=.append) (xs:=#[.tmp 39, .tmp 41]) rfl ?_);at_builtin;refine Kd.S_append (Kd.slice 5 (Kd.int .u8)) (w0:=w) w.heap.size rfl (.tmp 39) (.tmp 41) 37 57 (.slice none 0 0) 24 rfl Try.underlying37 info57 rfl D6 D8 u212000 x212000_1 x10_2 [.slice Ao30 x10_2.length co30] (fun _=>True) (fun k_=>some k_=(.slice Ao30 x10_2.length co30:Value).ownBlock) rfl rfl (by exact Kd.M_row (Kd.R_mono (Kd.R_tight rfl (Kd.R_mono (ok':=fun k_=>((fun _=>True)) k_∧some k_ ≠ (u212000:Value).ownBlock) (Kd.R_apart' (HO_10.out) (Kd.S_typed HO_212000.out) D6) (fun k_ hk=>⟨trivial,hk.2⟩))) (fun _ h_=>h_))) (fun k_ hk_=>((Kd.R_mono (ok':=fun k_=>((fun _=>True)) k_∧some k_ ≠ (u212000:Value).ownBlock) (Kd.R_apart' (HO_10.out) (Kd.S_typed HO_212000.out) D6) (fun k_ hk=>⟨trivial,hk.2⟩))).1 k_ hk_.symm) D20 (by exact (by refine sS ?_;exact Kd.S_mono HO_212000.out (fun k_ hk=>⟨trivial,fun e_=>hk e_⟩))) D50 D25 (by have:=LMc25.out;omega) ?_;intro v220 w29 ho hb hg hat;rw [← Ny219.out] at ho;have n0_:=am (blk_grown (g:=gb209) (o:=.cells #[.slice A0_0 l0_0.length c0_0] 43 (0,0)) (yB BK209) hg (Kd.S_ne HO_212000.out BK209.out D6));have n1_:=am (blk_grown (g:=gb210) (o:=.cells #[.slice none 0 0] 43 (0,0)) (yB BK210) hg (Kd.S_ne HO_212000.out BK210.out D6));have n2_:=am (blk_grown (g:=gb211) (o:=.cells #[u212000] 43 (0,0)) (yB BK211) hg (Kd.S_ne HO_212000.out BK211.out D6));have n3_:=am (hb);have n4_:=am (ho);clear BK209 BK210 BK211 HB HO_212000 HO_10;have BK209:=n0_;have BK210:=n1_;have BK211:=n2_;have HB:=n3_;have HO221:=n4_;clear n0_ n1_ n2_ n3_ n4_ ho hb hg hat;obtain ⟨Ao31,co31,eo31⟩:=Kd.S_slice HO221.out;subst eo31;obtain ⟨hcz32_0,hfz32_0⟩:=yk1 BK211))
      go_roundg k2
      case measure=>have:=HK1.out;have:=HK2.out;omega
      case rel=>exact ⟨(wrap64 (x16_1+1)),(y219),(.slice Ao31 y219.length co31),D1,H',⟨D39⟩,⟨by refine sS ?_;exact Kd.S_mono (Kd.S_far (p:=⟨gb211,0,none⟩) (Kd.S_types HO221.out BK211.out D6) (fun _ hk=>hk.2) (.slice Ao31 y219.length co31)) (fun _ hk=>trivial)⟩,⟨yF BK209⟩,⟨yF BK210⟩,⟨by refine sB ?_;refine blk_put (cs:=#[u212000]) ?_ 0 _ rfl;exact yB BK211⟩,⟨yW HB⟩⟩
   rw [if_neg c10] at H
   have c10b0:=decide_eq_false c10
   clear c10
   obtain rfl:=Option.some.inj H
   have hnb33:=NB211_209.out
   have hnc33:=NB209_211.out
   have hnb34:=NB211_210.out
   have hnc34:=NB210_211.out
   obtain ⟨hcz35_0,hfz35_0⟩:=yk1 BK211
   obtain ⟨Ao36,co36,eo36⟩:=Kd.S_slice HO_212000.out
   subst eo36
   have hnb37:=NB210_209.out
   have hnc37:=NB209_210.out
   obtain ⟨hcz38_0,hfz38_0⟩:=yk1 BK210
   go_wp2
   refine bodyPost_ret (results_cell_row rfl _ _ gb210 43 #[.slice Ao36 x212000_1.length co36] (0,0) _ rfl (by refine sB ?_;refine blk_put (cs:=#[.slice none 0 0]) ?_ 0 _ rfl;exact yB BK210) Try.underlying43 rfl D2) rfl ?_
   exact ⟨_,D3,by refine sS ?_;exact Kd.S_mono (Kd.S_far (p:=⟨gb210,0,none⟩) (Kd.S_types HO_212000.out BK210.out D6) (fun _ hk=>hk.2) (.slice Ao36 x212000_1.length co36)) (fun _ hk=>trivial),yW HB⟩

def spec_l3All.l0:Nat→Int→List Int→Int→Option (List Int)
 | 0,_,_,_=>none
 | k+1,x0,x3,x4=>if x4 < x0 then (if x3.length < 17592186044416 then (spec_l3All.l0 k x0 (x3 ++ [x4]) (wrap64 (x4+1))) else (none)) else (some x3)
def spec_l3All.f (k:Nat) (a0:Int):Option (List Int):=spec_l3All.l0 k a0 ([]:List Int) 0
theorem spec_l3All.mono_l:∀ k,(∀ y0 y1 y2,LeO (spec_l3All.l0 k y0 y1 y2) (spec_l3All.l0 (k+1) y0 y1 y2))
 | 0=>fun _ _ _ r h=>by simp [spec_l3All.l0] at h
 | k+1=>by
  have ih0:=spec_l3All.mono_l k
  intro y0 y1 y2
  unfold spec_l3All.l0
  exact mm
theorem spec_l3All.mono:∀ a0 k,LeO (spec_l3All.f k a0) (spec_l3All.f (k+1) a0):=by
 intro a0 k
 have ih0:=spec_l3All.mono_l k
 unfold spec_l3All.f
 exact mm
theorem spec_l3All.calls (k:Nat) (a0:Int) (r:List Int) (w:World) (h:spec_l3All.f k a0=some r) :
  Calls Try.prog 93 #[.int .i64 a0] w fun e w'=>∃ v0_:Value,e = .returned (v0_)∧Kd.R (Kd.int .i64) 3 w' w.heap.size (fun _=>True) v0_ r∧Below w.heap.size w w':=by
 have HB:=am (Below.refl w.heap.size w)
 have H:=h
 unfold spec_l3All.f at H
 clear h
 have H':=am H
 clear H
 go_enter Try.func93,Try.ntmps93
 go_wp2
 go_loopg [3,4] k (fun kq v3 v4 w'=>∃ (x3_1:List Int) (x4_1:Int),v4 = .int .i64 x4_1∧Aside0 (spec_l3All.l0 kq a0 x3_1 x4_1=some r)∧Aside0 (kq≤k)∧Aside0 (Kd.R (Kd.int .i64) 3 w' w.heap.size (fun _=>True) v3 x3_1)∧Aside0 (Below w.heap.size w w'))
 case atStart=>exact ⟨(([]:List Int)),(0),D1,H',⟨Nat.le_refl _⟩,⟨D9⟩,⟨yW HB⟩⟩
 case round =>
  clear H'
  obtain ⟨x3_1,x4_1,rfl,HA,HK1,HO_3,HB⟩:=hrel
  cases gk with
  | zero=>exact absurd HA.out (by simp [spec_l3All.l0])
  | succ k1 =>
   have H:=HA.out
   clear HA
   simp only [spec_l3All.l0] at H
   by_cases c2:x4_1 < a0
   ·rw [if_pos c2] at H
    have c2b0:=decide_eq_true c2
    clear c2
    obtain ⟨c3,H⟩:=yi H
    have LMc3:=am c3
    clear c3
    generalize hy222:(x3_1 ++ [x4_1]:List Int)=y222 at H
    have Ny222:=am hy222.symm
    clear hy222
    have H':=am H
    clear H
    go_wp2_with (first|((with_reducible refine gate_builtin (b:=.append) (xs:=#[.tmp 10, .tmp 12]) rfl ?_);at_builtin;refine Kd.R_append (Kd.int .i64) (w0:=w) w.heap.size rfl (.tmp 10) (.tmp 12) 25 3 (.int .i64 0) 8 rfl Try.underlying25 info3 rfl D6 D8 u3 x3_1 x4_1 [.int .i64 x4_1] (fun _=>True) (fun _=>False) rfl rfl D65 (fun _ hk=>hk.elim) D20 (by exact (yR HO_3)) D50 D25 (by have:=LMc3.out;omega) ?_;intro v223 w4 ho hb hg hat;rw [← Ny222.out] at ho;have n0_:=am (hb);have n1_:=am (ho);clear HB HO_3;have HB:=n0_;have HO224:=n1_;clear n0_ n1_ ho hb hg hat))
    go_roundg k1
    case measure=>have:=HK1.out;omega
    case rel=>exact ⟨(y222),(wrap64 (x4_1+1)),D1,H',⟨D17⟩,⟨yR HO224⟩,⟨yW HB⟩⟩
   rw [if_neg c2] at H
   have c2b0:=decide_eq_false c2
   clear c2
   obtain rfl:=Option.some.inj H
   go_wp2
   go_ret
   exact ⟨_,D3,yR HO_3,yW HB⟩

end Go.Proofs.Ytajikfnpcobnpaa.PFnExactMendStripe
-- SHRUNK
-- HALVED
-- SQUEEZED
-- SQUEEZED2
-- SQUEEZED3
-- SQUEEZED4
-- SQUEEZED5
-- SQUEEZED6
