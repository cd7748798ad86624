-- Laid by a program of this session.
import Derived.Test.YtajikfnpcobnpaaVMendStripeB
import Derived.Test.YtajikfnpcobnpaaPFnExactMendStripex0
import Derived.Test.YtajikfnpcobnpaaPFnExactMendStripex1
import Derived.Test.YtajikfnpcobnpaaPFnExactMendStripex14
namespace Go.Proofs.Ytajikfnpcobnpaa.PFnExactMendStripe
open Go.RowKit Go.Proofs.YtajikfnpcobnpaaW.PrintWords Go.Proofs.YtajikfnpcobnpaaW.PrintLast Go.Proofs.YtajikfnpcobnpaaW.PrintMore Go.Proofs.Ytajikfnpcobnpaa.KitS
attribute [local go_sem] max2_int min2_int max_two min_two max_three min_three max_four min_four   -- for this text's walks alone
set_option linter.unusedVariables false
set_option maxHeartbeats 8000000
set_option maxRecDepth 100000
set_option linter.unusedSimpArgs false

mutual
def impl_combined.l0:Nat→List ByteArray→List ByteArray→List (List Int)→Int→Int→Option (List ByteArray)
 | 0,_,_,_,_,_=>none
 | k+1,x1,x5,x12,x13,x14=>if x14 < x13 then (if 0≤x14 then (if x14 < (x12.length:Int) then (if 0 < (x1.length:Int) then (if 0≤((rdOf ByteArray.empty x1 0).size:Int) then (if (((rdOf ByteArray.empty x1 0).size:Int):Int).toNat≤281474976710656 then (impl_combined.l1 k x1 x5 (rd_L3 x12 x14) (strOfNums (List.replicate (((rdOf ByteArray.empty x1 0).size:Int):Int).toNat 0)) x12 x13 x14 x1 (x1.length:Int) 0) else (none)) else (none)) else (none)) else (none)) else (none)) else (some x5)
def impl_combined.l1:Nat→List ByteArray→List ByteArray→List Int→ByteArray→List (List Int)→Int→Int→List ByteArray→Int→Int→Option (List ByteArray)
 | 0,_,_,_,_,_,_,_,_,_,_=>none
 | k+1,x1,x5,x7,x8,x12,x13,x14,x24,x25,x26=>if x26 < x25 then (if 0≤x26 then (if x26 < (x24.length:Int) then (if x26 < (x7.length:Int) then ((impl_timesOf.f k (rd x7 x26) (rdOf ByteArray.empty x24 x26)).bind fun t292=>((impl_sumOf.f k x8 t292).bind fun t293=>(impl_combined.l1 k x1 x5 x7 t293 x12 x13 x14 x24 x25 (wrap64 (x26+1))))) else (none)) else (none)) else (none)) else (if x5.length < 8796093022208 then (impl_combined.l0 k x1 (x5 ++ [x8]) x12 x13 (wrap64 (x14+1))) else (none))
end
def impl_combined.f (k:Nat) (l0:List (List Int)) (l1:List ByteArray):Option (List ByteArray):=impl_combined.l0 k l1 (([]:List ByteArray)) l0 (l0.length:Int) 0
theorem impl_combined.mono_l:∀ k,(∀ y0 y1 y2 y3 y4,LeO (impl_combined.l0 k y0 y1 y2 y3 y4) (impl_combined.l0 (k+1) y0 y1 y2 y3 y4))∧(∀ y0 y1 y2 y3 y4 y5 y6 y7 y8 y9,LeO (impl_combined.l1 k y0 y1 y2 y3 y4 y5 y6 y7 y8 y9) (impl_combined.l1 (k+1) y0 y1 y2 y3 y4 y5 y6 y7 y8 y9))
 | 0=>⟨fun _ _ _ _ _ r h=>by simp [impl_combined.l0] at h,fun _ _ _ _ _ _ _ _ _ _ r h=>by simp [impl_combined.l1] at h⟩
 | k+1=>by
  obtain ⟨ih0,ih1⟩:=impl_combined.mono_l k
  refine ⟨?_,?_⟩
  ·intro y0 y1 y2 y3 y4
   unfold impl_combined.l0
   exact mm
  intro y0 y1 y2 y3 y4 y5 y6 y7 y8 y9
  unfold impl_combined.l1
  exact mm
theorem impl_combined.mono:∀ a0 a1 k,LeO (impl_combined.f k a0 a1) (impl_combined.f (k+1) a0 a1):=by
 intro a0 a1 k
 obtain ⟨ih0,ih1⟩:=impl_combined.mono_l k
 unfold impl_combined.f
 exact mm
theorem impl_combined.calls (k:Nat) (A0:Option Addr) (c0:Nat) (l0:List (List Int)) (A1:Option Addr) (c1:Nat) (l1:List ByteArray) (r:List ByteArray) (w:World) (hr0:Kd.C (Kd.slice 5 (Kd.int .u8)) w A0 l0.length l0) (hc0:l0.length≤c0) (hr1:Kd.C Kd.string w A1 l1.length l1) (hc1:l1.length≤c1) (h:impl_combined.f k l0 l1=some r) :
  Calls Try.prog 100 #[.slice A0 l0.length c0, .slice A1 l1.length c1] w fun e w'=>∃ v0_:Value,e = .returned (v0_)∧Kd.R Kd.string 9 w' w.heap.size (fun _=>True) v0_ r∧Below w.heap.size w w':=by
 have HR0:=am hr0
 have HC0:=am hc0
 clear hr0 hc0
 have HR1:=am hr1
 have HC1:=am hc1
 clear hr1 hc1
 have HB:=am (Below.refl w.heap.size w)
 have H:=h
 unfold impl_combined.f at H
 clear h
 generalize hy282:(([]:List ByteArray):List ByteArray)=y282 at H
 have Ny282:=am hy282.symm
 clear hy282
 have H':=am H
 clear H
 go_enter Try.func100,Try.ntmps100
 go_wp2_with (first|(refine gD 11 ?_;refine Kd.R_lit Kd.string _ 9 D10 (N:=11) D10 (xs:=([]:List ByteArray)) (inner:=[]) (ok:=fun _=>True) (okp:=fun _=>True) D19 D29 (fun _ hk=>hk) trivial (Below.refl _ _) (Nat.le_refl _) D38 ?_;intro v283 w3 ho4 hb hg_ hnew_;clear hg_ hnew_;(first|rw [← Ny282.out] at ho4|(simp only [Int.reduceToNat] at ho4;rw [← Ny282.out] at ho4));have HO284:=am (Kd.R_lower ho4 (pz (yW HB)));replace HB:=yH HB hb;clear hb ho4))
 go_loopg [5,14] k (fun kq v5 v14 w'=>∃ (x5_1:List ByteArray) (x14_1:Int),v14 = .int .i64 x14_1∧Aside0 (impl_combined.l0 kq l1 x5_1 l0 (l0.length:Int) x14_1=some r)∧Aside0 (kq≤k)∧Aside0 (Kd.R Kd.string 9 w' w.heap.size (fun _=>True) v5 x5_1)∧Aside0 (Below w.heap.size w w'))
 case atStart=>exact ⟨(y282),(0),D1,H',⟨Nat.le_refl _⟩,⟨yR HO284⟩,⟨yW HB⟩⟩
 case round =>
  clear H'
  try clear c1
  try clear p2
  obtain ⟨x5_1,x14_1,rfl,HA,HK1,HO_5,HB⟩:=hrel
  cases gk with
  | zero=>exact absurd HA.out (by simp [impl_combined.l0])
  | succ k1 =>
   have H:=HA.out
   clear HA
   simp only [impl_combined.l0] at H
   by_cases c5:x14_1 < (l0.length:Int)
   ·rw [if_pos c5] at H
    have c5b0:=decide_eq_true c5
    clear c5
    obtain ⟨c6,H⟩:=yi H
    have c6b0:=decide_eq_true c6
    clear c6
    obtain ⟨c7,H⟩:=yi H
    have c7b0:=decide_eq_true c7
    clear c7
    obtain ⟨c8,H⟩:=yi H
    have c8b0:=decide_eq_true c8
    have c8b1:decide (0 < l1.length)=true:=decide_eq_true D8
    clear c8
    obtain ⟨c9,H⟩:=yi H
    have c9b0:=eq_true c9
    have c9b1:decide (0≤((rdOf ByteArray.empty l1 0).size:Int))=true:=decide_eq_true c9
    clear c9
    obtain ⟨c10,H⟩:=yi H
    have c10b0:=eq_true c10
    have c10b1:decide ((((rdOf ByteArray.empty l1 0).size:Int):Int).toNat≤281474976710656)=true:=decide_eq_true c10
    clear c10
    generalize hy287:(List.replicate (((rdOf ByteArray.empty l1 0).size:Int):Int).toNat 0:List Int)=y287 at H
    have Ny287:=am hy287.symm
    clear hy287
    have H':=am H
    clear H
    have p285:0≤(x14_1:Int):=od D0
    have q285:x14_1 < (l0.length:Int):=od D0
    obtain ⟨ad285,A285_0,c285_0,e285,hx285_0,hl285_0,hi285_0⟩:=at_L3 HR0.out x14_1 p285 q285
    cases e285
    replace hx285_0:=(HB.out.cell (World.block_lt_of_cell? w _ hx285_0)).trans hx285_0
    have HR285_0:=am hi285_0
    have HC285_0:=am hl285_0
    clear hi285_0 hl285_0
    replace p285:=eq_true p285
    replace q285:=eq_true q285
    have p286:0≤(0:Int):=D8
    have q286:0 < (l1.length:Int):=od D0
    obtain ⟨ad286,e286,hx286_0⟩:=Kd.at_string HR1.out 0 p286 q286
    cases e286
    have qi286:(0 < l1.length)=True:=eq_true D8
    (try rw [show ((0:Int)).toNat=0 from rfl] at hx286_0)
    (try rw [Addr.add_zero'] at hx286_0)
    replace hx286_0:=(HB.out.cell (World.block_lt_of_cell? w _ hx286_0)).trans hx286_0
    replace p286:=eq_true p286
    replace q286:=eq_true q286
    go_wp2_with (first|(refine gD 22 ?_;refine Kd.R_make (Kd.int .u8) _ 5 rfl (N:=22) rfl 57 _ _ rfl ((rdOf ByteArray.empty l1 0).size:Int) rfl rfl Try.underlying57 (.int .u8 0) 1 info5 rfl D6 D8 0 (ok:=fun _=>True) (okp:=fun _=>True) rfl (fun _ hk=>hk) trivial (od D0) (Nat.le_trans (Nat.mul_le_mul_right _ (od D0:((rdOf ByteArray.empty l1 0).size:Int).toNat≤281474976710656)) D8) (Below.refl _ _) (Nat.le_refl _) ?_;intro v288 w11 ho12 hb hg_ hnew_;clear hg_ hnew_;(first|rw [← Ny287.out] at ho12|(simp only [Int.reduceToNat] at ho12;rw [← Ny287.out] at ho12));replace HO_5:=bR HO_5 hb;have HO289:=am (Kd.R_lower ho12 (pz (yW HB)));replace HB:=yH HB hb;clear hb ho12;have hcv13:=own_string (P:=Try.prog) Try.underlying57 Try.underlying5 Try.underlying9 (Kd.own_of_R HO289.out)))
    go_loopg [8,26] k1 (fun kq v8 v26 w'=>∃ (x8_2:ByteArray) (x26_2:Int),v8 = .string x8_2∧v26 = .int .i64 x26_2∧Aside0 (impl_combined.l1 kq l1 x5_1 (rd_L3 l0 x14_1) x8_2 l0 (l0.length:Int) x14_1 l1 (l1.length:Int) x26_2=some r)∧Aside0 (kq≤k1)∧Aside0 (Kd.R Kd.string 9 w' w.heap.size (fun _=>True) u5 x5_1)∧Aside0 (Below w.heap.size w w'))
    case atStart=>exact ⟨(strOfNums y287),(0),D1,D1,H',⟨Nat.le_refl _⟩,⟨yR HO_5⟩,⟨yW HB⟩⟩
    case round =>
     clear H'
     try clear c1
     try clear hcv1
     try clear c2
     try clear p2
     try clear q2
     try clear hx2
     try clear qi2
     try clear c5
     try clear c5b0
     try clear c6
     try clear c6b0
     try clear c7
     try clear c7b0
     try clear c8
     try clear c8b0
     try clear c8b1
     try clear c9
     try clear c9b0
     try clear c9b1
     try clear c10
     try clear c10b0
     try clear c10b1
     try clear hcv13
     try clear hx285_0
     try clear hx286_0
     try clear p2
     try clear p285
     try clear p286
     try clear q285
     try clear q286
     obtain ⟨x8_2,x26_2,rfl,rfl,HA,HK2,HO_5,HB⟩:=hrel
     cases gk with
     | zero=>exact absurd HA.out (by simp [impl_combined.l1])
     | succ k2 =>
      have H:=HA.out
      clear HA
      simp only [impl_combined.l1] at H
      by_cases c14:x26_2 < (l1.length:Int)
      ·rw [if_pos c14] at H
       have c14b0:=decide_eq_true c14
       clear c14
       obtain ⟨c15,H⟩:=yi H
       have c15b0:=decide_eq_true c15
       clear c15
       obtain ⟨c16,H⟩:=yi H
       have c16b0:=decide_eq_true c16
       clear c16
       obtain ⟨c17,H⟩:=yi H
       have c17b0:=decide_eq_true c17
       clear c17
       obtain ⟨t292,A18,H⟩:=yo H
       obtain ⟨t293,A19,H⟩:=yo H
       have H':=am H
       clear H
       have p290:0≤(x26_2:Int):=od D0
       have q290:x26_2 < (l1.length:Int):=od D0
       obtain ⟨ad290,e290,hx290_0⟩:=Kd.at_string HR1.out x26_2 p290 q290
       obtain rfl:ad286=ad290:=(by injection e290)
       replace hx290_0:=(HB.out.cell (World.block_lt_of_cell? w _ hx290_0)).trans hx290_0
       replace p290:=eq_true p290
       replace q290:=eq_true q290
       have p291:0≤(x26_2:Int):=od D0
       have q291:x26_2 < ((rd_L3 l0 x14_1).length:Int):=od D0
       obtain ⟨ad291,e291,hx291_0⟩:=Kd.at_int HR285_0.out x26_2 p291 q291
       cases e291
       replace hx291_0:=(HB.out.cell (World.block_lt_of_cell? w _ hx291_0)).trans hx291_0
       replace p291:=eq_true p291
       replace q291:=eq_true q291
       go_wp2_with (first|(refine gC 182 ?_;refine gM (some 37) Try.func182 (args:=#[.int .u8 (rd (rd_L3 l0 x14_1) x26_2), .string (rdOf ByteArray.empty l1 x26_2)]) (impl_timesOf.calls k2 (rd (rd_L3 l0 x14_1) x26_2) (rdOf ByteArray.empty l1 x26_2) t292 _ A18.out) ?_;rintro e w20 ⟨rfl,hb⟩;refine ⟨_,rfl,?_⟩;replace HO_5:=bR HO_5 hb;replace HB:=yH HB hb;clear hb)|(refine gC 181 ?_;refine gM (some 38) Try.func181 (args:=#[.string x8_2, .string t292]) (impl_sumOf.calls k2 x8_2 t292 t293 _ A19.out) ?_;rintro e w21 ⟨rfl,hb⟩;refine ⟨_,rfl,?_⟩;replace HO_5:=bR HO_5 hb;replace HB:=yH HB hb;clear hb))
       go_roundg k2
       case measure=>have:=HK1.out;have:=HK2.out;omega
       case rel=>exact ⟨(t293),(wrap64 (x26_2+1)),D1,D1,H',⟨D39⟩,⟨yR HO_5⟩,⟨yW HB⟩⟩
      rw [if_neg c14] at H
      have c14b0:=decide_eq_false c14
      clear c14
      obtain ⟨c22,H⟩:=yi H
      have LMc22:=am c22
      clear c22
      generalize hy294:(x5_1 ++ [x8_2]:List ByteArray)=y294 at H
      have Ny294:=am hy294.symm
      clear hy294
      have H':=am H
      clear H
      go_wp2_with (first|((with_reducible refine gate_builtin (b:=.append) (xs:=#[.tmp 40, .tmp 42]) rfl ?_);at_builtin;refine Kd.R_append Kd.string (w0:=w) w.heap.size rfl (.tmp 40) (.tmp 42) 22 9 (.string ⟨#[]⟩) 16 rfl Try.underlying22 info9 rfl D6 D8 u5 x5_1 x8_2 [.string x8_2] (fun _=>True) (fun _=>False) rfl rfl D65 (fun _ hk=>hk.elim) D20 (by exact (yR HO_5)) D50 D25 (by have:=LMc22.out;omega) ?_;intro v295 w23 ho hb hg hat;rw [← Ny294.out] at ho;have n0_:=am (hb);have n1_:=am (ho);clear HB HO_5;have HB:=n0_;have HO296:=n1_;clear n0_ n1_ ho hb hg hat))
      go_roundg k2
      case measure=>have:=HK1.out;have:=HK2.out;omega
      case rel=>exact ⟨(y294),(wrap64 (x14_1+1)),D1,H',⟨D39⟩,⟨yR HO296⟩,⟨yW HB⟩⟩
   rw [if_neg c5] at H
   have c5b0:=decide_eq_false c5
   clear c5
   obtain rfl:=Option.some.inj H
   go_wp2
   go_ret
   exact ⟨_,D3,yR HO_5,yW HB⟩

def impl_identity.l0:Nat→Int→List (List Int)→Int→Int→Option ((List (List Int)))
 | 0,_,_,_,_=>none
 | k+1,x0,x3,x7,x8=>if x8 < x7 then (if 0≤x0 then (if (x0:Int).toNat≤281474976710656 then ((some (List.replicate (x0:Int).toNat 0:List Int)).bind fun y300=>(if 0≤x8 then (if x8 < (y300.length:Int) then (if x3.length < 5864062014805 then (impl_identity.l0 k x0 (x3 ++ [(y300.set (x8:Int).toNat 1)]) x7 (wrap64 (x8+1))) else (none)) else (none)) else (none))) else (none)) else (none)) else (some x3)
def impl_identity.f (k:Nat) (a0:Int):Option ((List (List Int))):=impl_identity.l0 k a0 (([]:List (List Int))) a0 0
theorem impl_identity.mono_l:∀ k,(∀ y0 y1 y2 y3,LeO (impl_identity.l0 k y0 y1 y2 y3) (impl_identity.l0 (k+1) y0 y1 y2 y3))
 | 0=>fun _ _ _ _ r h=>by simp [impl_identity.l0] at h
 | k+1=>by
  have ih0:=impl_identity.mono_l k
  intro y0 y1 y2 y3
  unfold impl_identity.l0
  exact mm
theorem impl_identity.mono:∀ a0 k,LeO (impl_identity.f k a0) (impl_identity.f (k+1) a0):=by
 intro a0 k
 have ih0:=impl_identity.mono_l k
 unfold impl_identity.f
 exact mm
theorem impl_identity.calls (k:Nat) (a0:Int) (r:List (List Int)) (w:World) (h:impl_identity.f k a0=some r) :
  Calls Try.prog 168 #[.int .i64 a0] w fun e w'=>∃ v0_:Value,e = .returned (v0_)∧Kd.S (Kd.slice 5 (Kd.int .u8)) 57 w' w.heap.size (fun _=>True) v0_ r∧Below w.heap.size w w':=by
 have HB:=am (Below.refl w.heap.size w)
 have H:=h
 unfold impl_identity.f at H
 clear h
 generalize hy297:(([]:List (List Int)):List (List Int))=y297 at H
 have Ny297:=am hy297.symm
 clear hy297
 have H':=am H
 clear H
 go_enter Try.func168,Try.ntmps168
 go_wp2_with (first|(refine gD 6 ?_;refine Kd.S_lit (Kd.slice 5 (Kd.int .u8)) _ 57 D10 (N:=6) D10 (xs:=([]:List (List Int))) (inner:=[]) (ok:=fun _=>True) (okp:=fun _=>True) D19 D29 (fun _ hk=>hk) trivial (Below.refl _ _) (Nat.le_refl _) D38 ?_;intro v298 w2 ho3 hb hg_ hnew_;clear hg_ hnew_;(first|rw [← Ny297.out] at ho3|(simp only [Int.reduceToNat] at ho3;rw [← Ny297.out] at ho3));have HO299:=am (Kd.S_lower ho3 (pz (yW HB)));replace HB:=yH HB hb;clear hb ho3))
 go_loopg [3,8] k (fun kq v3 v8 w'=>∃ (x3_1:List (List Int)) (x8_1:Int),v8 = .int .i64 x8_1∧Aside0 (impl_identity.l0 kq a0 x3_1 a0 x8_1=some r)∧Aside0 (kq≤k)∧Aside0 (Kd.S (Kd.slice 5 (Kd.int .u8)) 57 w' w.heap.size (fun _=>True) v3 x3_1)∧Aside0 (Below w.heap.size w w'))
 case atStart=>exact ⟨(y297),(0),D1,H',⟨Nat.le_refl _⟩,⟨yS HO299⟩,⟨yW HB⟩⟩
 case round =>
  clear H'
  try clear c1
  try clear p2
  obtain ⟨x3_1,x8_1,rfl,HA,HK1,HO_3,HB⟩:=hrel
  cases gk with
  | zero=>exact absurd HA.out (by simp [impl_identity.l0])
  | succ k1 =>
   have H:=HA.out
   clear HA
   simp only [impl_identity.l0] at H
   by_cases c4:x8_1 < a0
   ·rw [if_pos c4] at H
    have c4b0:=decide_eq_true c4
    clear c4
    obtain ⟨c5,H⟩:=yi H
    have c5b0:=eq_true c5
    have c5b1:decide (0≤a0)=true:=decide_eq_true c5
    clear c5
    obtain ⟨c6,H⟩:=yi H
    have c6b0:=eq_true c6
    have c6b1:decide ((a0:Int).toNat≤281474976710656)=true:=decide_eq_true c6
    clear c6
    obtain ⟨y300,hy300,H⟩:=ys H
    have Ny300:=am hy300
    clear hy300
    obtain ⟨c7,H⟩:=yi H
    have c7b0:=decide_eq_true c7
    clear c7
    obtain ⟨c8,H⟩:=yi H
    have c8b0:=decide_eq_true c8
    clear c8
    generalize hy303:(y300.set (x8_1:Int).toNat 1:List Int)=y303 at H
    have Ny303:=am hy303.symm
    clear hy303
    obtain ⟨c10,H⟩:=yi H
    have LMc10:=am c10
    clear c10
    generalize hy304:(x3_1 ++ [y303]:List (List Int))=y304 at H
    have Ny304:=am hy304.symm
    clear hy304
    have H':=am H
    clear H
    go_wp2_with (first|(refine gD 12 ?_;refine Kd.R_make (Kd.int .u8) _ 5 rfl (N:=12) rfl 57 _ _ rfl a0 rfl rfl Try.underlying57 (.int .u8 0) 1 info5 rfl D6 D8 0 (ok:=fun _=>True) (okp:=fun _=>True) rfl (fun _ hk=>hk) trivial (od D0) (Nat.le_trans (Nat.mul_le_mul_right _ (od D0:a0.toNat≤281474976710656)) D8) (Below.refl _ _) (Nat.le_refl _) ?_;intro v301 w11 ho12 hb hg_ hnew_;clear hg_ hnew_;(first|rw [← Ny300.out] at ho12|(simp only [Int.reduceToNat] at ho12;rw [← Ny300.out] at ho12));replace HO_3:=eS HO_3 (Kd.R_base ho12) hb;have HO302:=am (Kd.R_lower ho12 (pz (yW HB)));replace HB:=yH HB hb;clear hb ho12;have p9:0≤(x8_1:Int):=od D0;have q9:(x8_1:Int) < ((y300.length:Int):Int):=od D0;obtain ⟨go9,co9,eo9,gb9,gl9,cl9,HG9⟩:=Kd.R_form HO302.out D8;(first|cases eo9|(injection eo9 with ea_ en_ ec_;(first|subst ea_|(injection ea_ with ea_;subst ea_));subst ec_;clear en_));have GB9:=am gb9;have GG9:=am HG9;clear gb9 gl9 HG9;obtain ⟨hx9_0,hf9_0⟩:=Kd.R_celln 0 HO302.out (x8_1:Int) p9 q9;replace p9:=eq_true p9;replace q9:=eq_true q9;obtain ⟨hy13_,hz13_⟩:=Kd.R_celln 0 HO302.out (x8_1:Int) (od D0) (od D0);have HP13:=Kd.R_putg HO302.out (x8_1:Int) 1)|((with_reducible refine gate_store (t:=5) (p:=15) rfl ?_);refine store_event (t:=5) (p:=15) (v:=?vo_w14) (w1:=(w11.setCell ⟨go9,(x8_1:Int).toNat,none⟩ (.int .u8 1))) ?hg ?ho ?hn ?hr ?_;(case ho=>rfl);(case hg=>rfl);(case hn=>rfl);(case hr=>first|(go_simp;done)|(go_simp;rfl));intro w14 hw;have hg:w11.grownBy w14 (some go9):=(by rw [hw];exact HP13.2);have hp_:Kd.R (Kd.int .u8) 5 w14 w.heap.size (fun _=>True) (.slice (some ⟨go9,0,none⟩) y300.length co9) y303:=(by rw [hw,Ny303.out];exact HP13.1);clear HP13;replace HO_3:=am (Kd.S_after (v:=(.slice (some ⟨go9,0,none⟩) y300.length co9)) (v1:=(.slice (some ⟨go9,0,none⟩) y300.length co9)) (ok:=(fun _=>True)) (yS HO_3) hg (.inl rfl));replace HO302:=am (hp_);replace HB:=am ((by rw [hw];exact pt (HB.out) GB9.out:Below w.heap.size w w14));clear hg hw hp_)|((with_reducible refine gate_builtin (b:=.append) (xs:=#[.tmp 16, .tmp 18]) rfl ?_);at_builtin;refine Kd.S_append (Kd.slice 5 (Kd.int .u8)) (w0:=w) w.heap.size rfl (.tmp 16) (.tmp 18) 37 57 (.slice none 0 0) 24 rfl Try.underlying37 info57 rfl D6 D8 u3 x3_1 y303 [.slice (some ⟨go9,0,none⟩) y300.length co9] (fun _=>True) (fun k_=>some k_=(.slice (some ⟨go9,0,none⟩) y300.length co9:Value).ownBlock) rfl rfl (by exact Kd.M_row (Kd.R_mono (Kd.R_tight rfl (Kd.R_mono (ok':=fun k_=>((fun _=>True)) k_∧some k_ ≠ (u3:Value).ownBlock) (Kd.R_apart' (HO302.out) (Kd.S_typed HO_3.out) D6) (fun k_ hk=>⟨trivial,hk.2⟩))) (fun _ h_=>h_))) (fun k_ hk_=>((Kd.R_mono (ok':=fun k_=>((fun _=>True)) k_∧some k_ ≠ (u3:Value).ownBlock) (Kd.R_apart' (HO302.out) (Kd.S_typed HO_3.out) D6) (fun k_ hk=>⟨trivial,hk.2⟩))).1 k_ hk_.symm) D20 (by exact (by refine sS ?_;exact Kd.S_mono HO_3.out (fun k_ hk=>⟨trivial,fun e_=>hk.2 e_⟩))) D50 D25 (by have:=LMc10.out;omega) ?_;intro v305 w15 ho hb hg hat;rw [← Ny304.out] at ho;have n0_:=am (hb);have n1_:=am (ho);clear HB HO_3 HO302;have HB:=n0_;have HO306:=n1_;clear n0_ n1_ ho hb hg hat))
    go_roundg k1
    case measure=>have:=HK1.out;omega
    case rel=>exact ⟨(y304),(wrap64 (x8_1+1)),D1,H',⟨D17⟩,⟨yS HO306⟩,⟨yW HB⟩⟩
   rw [if_neg c4] at H
   have c4b0:=decide_eq_false c4
   clear c4
   obtain rfl:=Option.some.inj H
   go_wp2
   go_ret
   exact ⟨_,D3,yS HO_3,yW HB⟩

def slices_Clone_byte_byte.f (l0:List Int):Option (List Int):=(some (([]:List Int):List Int)).bind fun y181=>(if y181.length+l0.length < 140737488355328 then (some (y181 ++ l0)) else (none))
theorem slices_Clone_byte_byte.calls (A0:Option Addr) (c0:Nat) (l0:List Int) (r:List Int) (w:World) (hr0:Kd.C (Kd.int .u8) w A0 l0.length l0) (hc0:l0.length≤c0) (h:slices_Clone_byte_byte.f l0=some r) :
  Calls Try.prog 183 #[.slice A0 l0.length c0] w fun e w'=>∃ v0_:Value,e = .returned (v0_)∧Kd.R (Kd.int .u8) 5 w' w.heap.size (fun _=>True) v0_ r∧Below w.heap.size w w':=by
 have HR0:=am hr0
 have HC0:=am hc0
 clear hr0 hc0
 have HB:=am (Below.refl w.heap.size w)
 have H:=h
 unfold slices_Clone_byte_byte.f at H
 clear h
 obtain ⟨y181,hy181,H⟩:=ys H
 have Ny181:=am hy181
 clear hy181
 by_cases c2:y181.length+l0.length < 140737488355328
 ·rw [if_pos c2] at H
  have LMc2:=am c2
  clear c2
  generalize hy184:(y181 ++ l0:List Int)=y184 at H
  have Ny184:=am hy184.symm
  clear hy184
  obtain rfl:=Option.some.inj H
  have keq:=fun (W:World) (a:Option Addr) (n c:Nat)=>Lib.run_eql_slice_nil (P:=Try.prog) W 57 5 a n c 0 0 Try.underlying57
  cases A0 with
  | none =>
   have e0:l0=[]:=by
    have hc:=HR0.out
    by_cases hp:0 < l0.length
    ·obtain ⟨ad,h1,_⟩:=hc.2.2 hp
     cases h1
    exact List.eq_nil_of_length_eq_zero D8
   have ey:y184=[]:=by rw [Ny184.out,Ny181.out,e0];rfl
   subst ey
   go_enter Try.func183,Try.ntmps183
   go_wp2
   go_ret
   exact ⟨_,rfl,Kd.R_nil _ _ _ _ _,HB.out⟩
  | some ad0 =>
  go_enter Try.func183,Try.ntmps183
  go_wp2_with (first|(refine gD 5 ?_;refine Kd.R_lit (Kd.int .u8) _ 5 D10 (N:=5) D10 (xs:=([]:List Int)) (inner:=[]) (ok:=fun _=>True) (okp:=fun _=>True) D19 D29 (fun _ hk=>hk) trivial (Below.refl _ _) (Nat.le_refl _) D38 ?_;intro v182 w3 ho4 hb hg_ hnew_;clear hg_ hnew_;(first|rw [← Ny181.out] at ho4|(simp only [Int.reduceToNat] at ho4;rw [← Ny181.out] at ho4));have HO183:=am (Kd.R_lower ho4 (pz (yW HB)));replace HB:=yH HB hb;clear hb ho4)|((with_reducible refine gate_builtin (b:=.append) (xs:=#[.tmp 5, .tmp 6]) rfl ?_);at_builtin;refine Kd.R_append_rows (Kd.int .u8) (w0:=w) w.heap.size rfl (.tmp 5) (.tmp 6) 57 5 (.int .u8 0) 1 rfl Try.underlying57 info5 rfl D6 D8 v182 y181 l0 _ _ _ (fun _=>True) (fun _=>False) rfl rfl (by exact (yR HO183)) D59 (fun _ _ h=>h) (fun _ h=>h.elim) D20 D50 D25 (by have:=LMc2.out;omega) ?_;intro v185 w5 ho hb hg hat;rw [← Ny184.out] at ho;have n0_:=am (hb);have n1_:=am (ho);clear HB HO183;have HB:=n0_;have HO186:=n1_;clear n0_ n1_ ho hb hg hat))
  go_ret
  exact ⟨_,D3,yR HO186,yW HB⟩
 rw [if_neg c2] at H
 exact absurd H D38

-- NOT PRINTED: function 200 (slices_IndexFunc_byte_byte)

def impl_Inverse.f (k:Nat) (a0:Int):Option (Int):=(impl_power.f k a0 254).bind fun t307=>(some t307)
theorem impl_Inverse.mono:∀ a0 k,LeO (impl_Inverse.f k a0) (impl_Inverse.f (k+1) a0):=by
 intro a0 k
 unfold impl_Inverse.f
 exact mm
theorem impl_Inverse.calls (k:Nat) (a0:Int) (r:Int) (w:World) (h:impl_Inverse.f k a0=some r) :
  Calls Try.prog 207 #[.int .u8 a0] w fun e w'=>e = .returned (.int .u8 r)∧Drawn0 w w':=by
 have H:=h
 unfold impl_Inverse.f at H
 clear h
 obtain ⟨t307,A2,H⟩:=yo H
 obtain rfl:=Option.some.inj H
 go_enter Try.func207,Try.ntmps207
 go_wp2_with (first|(refine gC 180 ?_;refine gM (some 4) Try.func180 (args:=#[.int .u8 a0, .int .i64 254]) (impl_power.calls k a0 254 t307 _ A2.out) ?_;rintro e w' ⟨rfl,⟨nd,rfl⟩⟩;refine ⟨_,rfl,?_⟩))
 go_ret
 exact ⟨D1,D5⟩

end Go.Proofs.Ytajikfnpcobnpaa.PFnExactMendStripe
-- SHRUNK
-- HALVED
-- SQUEEZED
-- SQUEEZED2
-- SQUEEZED3
-- SQUEEZED4
-- SQUEEZED5
-- SQUEEZED6
