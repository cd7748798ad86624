-- Laid by a program of this session.
import Derived.Test.YteflgifmdojahaaPFnExactMendLocalx0
import Derived.Test.YteflgifmdojahaaPFnExactMendLocalx1
import Derived.Test.YteflgifmdojahaaPFnExactMendLocalx2
import Derived.Test.YteflgifmdojahaaPFnExactMendLocalx3
namespace Go.Proofs.Yteflgifmdojahaa.PFnExactMendLocal
open Go.RowKit Go.Proofs.YteflgifmdojahaaW.PrintWords Go.Proofs.YteflgifmdojahaaW.PrintLast Go.Proofs.YteflgifmdojahaaW.PrintMore
attribute [local go_sem] max2_int min2_int max_two min_two max_three min_three max_four min_four   -- for this text's walks alone
set_option linter.unusedVariables false
set_option maxHeartbeats 8000000
set_option maxRecDepth 100000
set_option linter.unusedSimpArgs false

def spec_l1Add.l0:Nat→List Int→List Int→List Int→Int→Int→Option (List Int)
 | 0,_,_,_,_,_=>none
 | k+1,x0,x1,x5,x8,x9=>if x9 < x8 then (if 0≤x9 then (if x9 < (x0.length:Int) then (if x9 < (x1.length:Int) then (if x5.length < 140737488355328 then (spec_l1Add.l0 k x0 x1 (x5 ++ [Go.bits .xor .u8 (rd x0 x9) (rd x1 x9)]) x8 (wrap64 (x9+1))) else (none)) else (none)) else (none)) else (none)) else (some x5)
def spec_l1Add.f (k:Nat) (l0:List Int) (l1:List Int):Option (List Int):=spec_l1Add.l0 k l0 l1 ([]:List Int) (l0.length:Int) 0
theorem spec_l1Add.mono_l:∀ k,(∀ y0 y1 y2 y3 y4,LeO (spec_l1Add.l0 k y0 y1 y2 y3 y4) (spec_l1Add.l0 (k+1) y0 y1 y2 y3 y4))
 | 0=>fun _ _ _ _ _ r h=>by simp [spec_l1Add.l0] at h
 | k+1=>by
  have ih0:=spec_l1Add.mono_l k
  intro y0 y1 y2 y3 y4
  unfold spec_l1Add.l0
  repeat' first
  | (with_reducible exact ih0 _ _ _ _ _)
  |(with_reducible exact LeO.refl _)|(with_reducible exact LeO.none _)|(with_reducible refine LeO.ite ?_ ?_)|(with_reducible refine LeO.bind ?_ (fun _=>?_))|exact ih0 _ _ _ _ _|exact LeO.none _|refine LeO.ite ?_ ?_|refine LeO.bind ?_ (fun _=>?_)
theorem spec_l1Add.mono:∀ a0 a1 k,LeO (spec_l1Add.f k a0 a1) (spec_l1Add.f (k+1) a0 a1):=by
 intro a0 a1 k
 have ih0:=spec_l1Add.mono_l k
 unfold spec_l1Add.f
 repeat' first
   | (with_reducible exact ih0 _ _ _ _ _)
   |(with_reducible exact LeO.refl _)|(with_reducible exact LeO.none _)|(with_reducible refine LeO.ite ?_ ?_)|(with_reducible refine LeO.bind ?_ (fun _=>?_))|exact ih0 _ _ _ _ _|exact LeO.none _|refine LeO.ite ?_ ?_|refine LeO.bind ?_ (fun _=>?_)
def spec_l1Add.T5:Bool × List (List Nat × List Nat):=(true,[([],[]),([],[]),([],[]),([1,2],[1,2]),([3],[3]),([],[]),([],[]),([5,6],[5,6]),([7],[7]),([4,8],[4,8]),([9],[9]),([0,10],[0,10]),([11,11,0,1,2,3,4,5,6,7,8,9,10,11],[0,11])])
def spec_l1Add.B5:List Nat:=[0,0,0,6,14,0,0,96,224,510,1022,2047,4095]
theorem spec_l1Add.tab5:rtab .any (opsOf Try.f73 5)=spec_l1Add.T5:=by kernel_rfl
theorem spec_l1Add.bits5:waitsOk spec_l1Add.T5.2 spec_l1Add.B5=true:=by kernel_rfl
theorem spec_l1Add.calls (k:Nat) (A0:Option Addr) (c0:Nat) (l0:List Int) (A1:Option Addr) (c1:Nat) (l1:List Int) (r:List Int) (w:World) (hr0:Kd.C (Kd.int .u8) w A0 l0.length l0) (hc0:l0.length≤c0) (hr1:Kd.C (Kd.int .u8) w A1 l1.length l1) (hc1:l1.length≤c1) (h:spec_l1Add.f k l0 l1=some r) :
  Calls Try.prog 73 #[.slice A0 l0.length c0, .slice A1 l1.length c1] w fun e w'=>∃ v0_:Value,e = .returned (v0_)∧Kd.R (Kd.int .u8) 5 w' w.heap.size (fun _=>True) v0_ r∧Below w.heap.size w w':=by
 have HR0:=am hr0
 have HC0:=am hc0
 clear hr0 hc0
 have HR1:=am hr1
 have HC1:=am hc1
 clear hr1 hc1
 have HB:=am (Below.refl w.heap.size w)
 have H:(spec_l1Add.l0 k l0 l1 ([]:List Int) (l0.length:Int) 0)=some r:=h
 clear h
 have H':=am H
 clear H
 go_enter Try.func73,Try.ntmps73
 go_wp2
 go_loopg [5,9] k (fun kq v5 v9 w'=>∃ (x5_1:List Int) (x9_1:Int),v9 = .int .i64 x9_1∧Aside0 (spec_l1Add.l0 kq l0 l1 x5_1 (l0.length:Int) x9_1=some r)∧Aside0 (kq≤k)∧Aside0 (Kd.R (Kd.int .u8) 5 w' w.heap.size (fun _=>True) v5 x5_1)∧Aside0 (Below w.heap.size w w'))
 case atStart=>exact ⟨(([]:List Int)),(0),d4,H',⟨Nat.le_refl _⟩,⟨d15⟩,⟨d0⟩⟩
 case round =>
  clear H'
  try clear c1
  try clear p2
  obtain ⟨x5_1,x9_1,rfl,HA,HK1,HO_5,HB⟩:=hrel
  cases gk with
  | zero=>exact absurd HA.out (by simp [spec_l1Add.l0])
  | succ k1 =>
   have H:=HA.out
   clear HA
   simp only [spec_l1Add.l0] at H
   by_cases c3:x9_1 < (l0.length:Int)
   ·rw [if_pos c3] at H
    have c3b0:decide (x9_1 < (l0.length:Int))=true:=decide_eq_true c3
    clear c3
    by_cases c4:0≤x9_1
    ·rw [if_pos c4] at H
     have c4b0:decide (0≤x9_1)=true:=decide_eq_true c4
     clear c4
     by_cases c5:x9_1 < (l0.length:Int)
     ·rw [if_pos c5] at H
      have c5b0:decide (x9_1 < (l0.length:Int))=true:=decide_eq_true c5
      clear c5
      by_cases c6:x9_1 < (l1.length:Int)
      ·rw [if_pos c6] at H
       have c6b0:decide (x9_1 < (l1.length:Int))=true:=decide_eq_true c6
       clear c6
       by_cases c7:x5_1.length < 140737488355328
       ·rw [if_pos c7] at H
        have LMc7:=am c7
        clear c7
        obtain ⟨y132,hy132⟩:∃ y_:List Int,y_=(x5_1 ++ [Go.bits .xor .u8 (rd l0 x9_1) (rd l1 x9_1)]):=⟨_,rfl⟩
        replace H:(spec_l1Add.l0 k1 l0 l1 y132 (l0.length:Int) (wrap64 (x9_1+1)))=some r:=by first|(rw [hy132];with_reducible exact H)|(have H2_:=(Option.bind_some _ _).symm.trans H;rw [hy132];with_reducible exact H2_)|(have H2_:=(Option.bind_some _ _).symm.trans H;with_reducible exact H2_)|with_reducible exact H|(rw [hy132];exact H)|exact H
        have Ny132:=am hy132
        clear hy132
        have H':=am H
        clear H
        try go_wp2
        have n0_:=am (Kd.R_drew HO_5.out)
        have n1_:=am (pd HB.out)
        clear HO_5
        clear HB
        have HO_5:=n0_
        have HB:=n1_
        clear n0_ n1_
        have p130:0≤(x9_1:Int):=od d3
        have q130:x9_1 < (l0.length:Int):=od d3
        obtain ⟨ad130,e130,hx130_0⟩:=Kd.at_int HR0.out x9_1 p130 q130
        have hw130_0:=hx130_0
        cases e130
        replace hx130_0:=(HB.out.cell (World.block_lt_of_cell? w _ hx130_0)).trans hx130_0
        replace p130:=eq_true p130
        replace q130:=eq_true q130
        have p131:0≤(x9_1:Int):=od d3
        have q131:x9_1 < (l1.length:Int):=od d3
        obtain ⟨ad131,e131,hx131_0⟩:=Kd.at_int HR1.out x9_1 p131 q131
        have hw131_0:=hx131_0
        cases e131
        replace hx131_0:=(HB.out.cell (World.block_lt_of_cell? w _ hx131_0)).trans hx131_0
        replace p131:=eq_true p131
        replace q131:=eq_true q131
        refine rS (n:=13) (S:=fun w'=>w'.cell? (ad130.add (x9_1).toNat)=some (.int .u8 (rd l0 x9_1))∧w'.cell? (ad131.add (x9_1).toNat)=some (.int .u8 (rd l1 x9_1))) (ds:=[]) [(0,12),(1,13),(2,14),(3,15),(5,17),(6,18),(7,19),(4,16),(8,20),(9,21),(10,0),(11,0),(12,5)] d5 rfl spec_l1Add.tab5 spec_l1Add.bits5 ⟨((HB.out.cell (World.block_lt_of_cell? w _ hw130_0)).trans hw130_0),((HB.out.cell (World.block_lt_of_cell? w _ hw131_0)).trans hw131_0)⟩ (fun hHeld HT_ HW_=>?_)
        generalize wr.drew=w8 at HO_5 HB hx130_0 hx131_0 hHeld ⊢
        refine rR ?_
        refine rO (N:=some 22) HT_ rfl rfl d5 d12 (fun K hK=>?_)
        refine value_ (w1:=?_) (v:=?_) d28 rfl ?_ ?_
        rotate_left 2
        ·go_simp
         constructor
         ·rfl
         rfl
        refine hK.out _ _ ⟨(World.cell?_alloc_lt _ _ _ (World.block_lt_of_cell? _ _ (((HB.out.cell (World.block_lt_of_cell? w _ hw130_0)).trans hw130_0)))).trans (((HB.out.cell (World.block_lt_of_cell? w _ hw130_0)).trans hw130_0)),(World.cell?_alloc_lt _ _ _ (World.block_lt_of_cell? _ _ (((HB.out.cell (World.block_lt_of_cell? w _ hw131_0)).trans hw131_0)))).trans (((HB.out.cell (World.block_lt_of_cell? w _ hw131_0)).trans hw131_0))⟩ (fun hHeld=>?_)
        clear hK K
        refine rN (a':=?_) ?_ ?_
        rotate_left
        ·show Act.put _ (some 22) _=_
         simp only [Act.put,q1,q2,q3,i64_w,i32_w]
         rfl
        refine rO (N:=some 23) HT_ rfl rfl d5 d12 (fun K hK=>?_)
        refine Kd.R_append_step (Kd.int .u8) (w0:=w) w.heap.size d28 (.tmp 12) (.tmp 22) 24 5 (.int .u8 0) 1 rfl Try.underlying24 info5 rfl d12 d16 u5 x5_1 (Go.bits .xor .u8 (rd l0 x9_1) (rd l1 x9_1)) [.int .u8 (Go.bits .xor .u8 (rd l0 x9_1) (rd l1 x9_1))] (fun _=>True) (fun _=>False) rfl rfl ?aP (fun _ hk=>hk.elim) ?aF ?aO ?aB ?aS ?aL ?_
        (case aP=>exact rfl)
        (case aB=>exact d0)
        (case aF=>exact (fun _ _=>trivial))
        (case aO=>exact d10)
        (case aS=>exact (pz d0))
        (case aL=>have:=LMc7.out;omega)
        intro v133 w9 ho hb hg hat
        rw [← Ny132.out] at ho
        have n0_:=am (hb)
        have n1_:=am (ho)
        clear HB
        clear HO_5
        have HB:=n0_
        have HO134:=n1_
        clear n0_ n1_
        clear ho hb hg hat
        refine hK.out _ _ ⟨((HB.out.cell (World.block_lt_of_cell? w _ hw130_0)).trans hw130_0),((HB.out.cell (World.block_lt_of_cell? w _ hw131_0)).trans hw131_0)⟩ (fun hHeld=>?_)
        clear hK K
        refine rN (a':=?_) ?_ ?_
        rotate_left
        ·show Act.put _ (some 23) _=_
         simp only [Act.put,q1,q2,q3,i64_w,i32_w]
         rfl
        refine rR ?_
        refine rD HT_ d5 ?_
        try go_wp2
        go_roundg k1
        case measure=>have:=HK1.out;omega
        case rel=>exact ⟨(y132),(wrap64 (x9_1+1)),d4,H',⟨d26⟩,⟨by (with_reducible repeat (first|apply Kd.R_alloc|apply Kd.R_drewN|apply Kd.R_drew));exact HO134.out⟩,⟨d0⟩⟩
       rw [if_neg c7] at H
       exact absurd H d24
      rw [if_neg c6] at H
      exact absurd H d24
     rw [if_neg c5] at H
     exact absurd H d24
    rw [if_neg c4] at H
    exact absurd H d24
   rw [if_neg c3] at H
   have c3b0:decide (x9_1 < (l0.length:Int))=false:=decide_eq_false c3
   clear c3
   obtain rfl:=Option.some.inj H
   go_wp2
   go_ret
   exact ⟨_,d2,d10,d0⟩

section
open Go.Proofs.Yteflgifmdojahaa.KitW
def spec_sumS.f (k:Nat) (a0:ByteArray) (a1:ByteArray):Option ByteArray:=if a0.size≤140737488355328∧a1.size≤140737488355328 then (spec_l1Add.f k (bytesOf a0) (bytesOf a1)).bind fun t=>some (strOfNums t) else none
theorem spec_sumS.mono:∀ a0 a1 k,LeO (spec_sumS.f k a0 a1) (spec_sumS.f (k+1) a0 a1):=by
 intro a0 a1 k
 unfold spec_sumS.f
 exact LeO.ite (LeO.bind (spec_l1Add.mono _ _ _) (fun _=>LeO.refl _)) (LeO.refl _)
theorem bytes_keep {p:Addr} {v:Value} (e:TypeId) (s:ByteArray) (W:World) (h:W.cell? p=some v):(Lib.bytesWorld W e s).cell? p=some v :=
 ((bytes_below (Below.refl W.heap.size W) (Nat.le_refl _) e s).cell (World.block_lt_of_cell? W _ h)).trans h
theorem spec_sumS.calls (k:Nat) (a0:ByteArray) (a1:ByteArray) (r:ByteArray) (w:World) (B:Nat) (hB:B=w.heap.size) (h:spec_sumS.f k a0 a1=some r) :
  Calls Try.prog 73 #[.slice (some ⟨B,0,none⟩) a0.size (grownCap w a0.size 0 5), .slice (some ⟨(Lib.bytesWorld w 5 a0).heap.size,0,none⟩) a1.size (grownCap (Lib.bytesWorld w 5 a0) a1.size 0 5)] (Lib.bytesWorld (Lib.bytesWorld w 5 a0) 5 a1) fun e w' =>
   ∃ A n c,e = .returned (.slice A n c)∧(convert 24 9 (.slice A n c)).run Try.prog w' = .ok (.string r) w'∧Below w.heap.size w w':=by
 subst hB
 unfold spec_sumS.f at h
 by_cases hs:a0.size≤140737488355328∧a1.size≤140737488355328
 case neg=>rw [if_neg hs] at h;cases h
 rw [if_pos hs] at h
 obtain ⟨x,hx,h⟩:=Option.bind_eq_some_iff.mp h
 obtain rfl:=Option.some.inj h
 clear h
 have e0:=bytesOf_length a0
 have e1:=bytesOf_length a1
 have h0:=bytes_C w 5 a0 hs.1
 have h1:=bytes_C (Lib.bytesWorld w 5 a0) 5 a1 hs.2
 have b1:Below (Lib.bytesWorld w 5 a0).heap.size (Lib.bytesWorld w 5 a0) (Lib.bytesWorld (Lib.bytesWorld w 5 a0) 5 a1):=bytes_below (Below.refl _ _) (Nat.le_refl _) _ _
 have b0:Below w.heap.size w (Lib.bytesWorld w 5 a0):=bytes_below (Below.refl _ _) (Nat.le_refl _) _ _
 have hc:=spec_l1Add.calls k _ (grownCap w a0.size 0 5) (bytesOf a0) _ (grownCap (Lib.bytesWorld w 5 a0) a1.size 0 5) (bytesOf a1) x _ (Kd.C_below h0 b1) (by rw [e0];exact bytes_cap _ _ _) h1 (by rw [e1];exact bytes_cap _ _ _) hx
 rw [e0,e1] at hc
 refine hc.mono ?_
 rintro e w' ⟨v0,rfl,ho,hb⟩
 obtain ⟨A,c,rfl⟩:=Kd.R_slice ho
 exact ⟨A,x.length,c,rfl,Kd.C_string (P:=Try.prog) Try.underlying24 Try.underlying5 Try.underlying9 (Kd.R_reads' ho).2.2,pu b0 (below_weaken b1 b1.size hb)⟩
mutual
def spec_MendLocal.j0:Nat→List (S48)→Int→List Int→Bool→Option (Int × ByteArray × Bool)
 | 0,_,_,_,_=>none
 | k+1,x1,x2,x8,x30=>if x30=true then (some (0,(⟨#[]⟩:ByteArray),false)) else (spec_MendLocal.l0 k x1 x8 (x8.length:Int) 0 x2 (⟨#[]⟩:ByteArray))
def spec_MendLocal.l0:Nat→List (S48)→List Int→Int→Int→Int→ByteArray→Option (Int × ByteArray × Bool)
 | 0,_,_,_,_,_,_=>none
 | k+1,x1,x34,x35,x36,x152000,x152001=>if x36 < x35 then (if 0≤x36 then (if x36 < (x34.length:Int) then (spec_MendLocal.l1 k x1 x36 (rd x34 x36) false x34 x35 x36 x1 (x1.length:Int) 0 x152000 x152001) else (none)) else (none)) else (some (x152000,x152001,true))
def spec_MendLocal.l1:Nat→List (S48)→Int→Int→Bool→List Int→Int→Int→List (S48)→Int→Int→Int→ByteArray→Option (Int × ByteArray × Bool)
 | 0,_,_,_,_,_,_,_,_,_,_,_,_=>none
 | k+1,x1,x11,x12,x13,x34,x35,x36,x41,x42,x43,x152000,x152001=>if x43 < x42 then (if 0≤x43 then (if x43 < (x41.length:Int) then (if ((rd_T48 x41 x43).f0)=x12 then (if x11=0 then (spec_MendLocal.l1 k x1 x11 x12 true x34 x35 x36 x41 x42 (wrap64 (x43+1)) x152000 ((rd_T48 x41 x43).f1)) else ((spec_sumS.f k x152001 ((rd_T48 x41 x43).f1)).bind fun t155=>(spec_MendLocal.l1 k x1 x11 x12 true x34 x35 x36 x41 x42 (wrap64 (x43+1)) x152000 t155))) else (spec_MendLocal.l1 k x1 x11 x12 x13 x34 x35 x36 x41 x42 (wrap64 (x43+1)) x152000 x152001)) else (none)) else (none)) else (if x13=true then (spec_MendLocal.l0 k x1 x34 x35 (wrap64 (x36+1)) x152000 x152001) else (some (0,(⟨#[]⟩:ByteArray),false)))
end
def spec_MendLocal.f (k:Nat) (a0_0:Int) (a0_1:Int) (a0_2:Int) (l1:List (S48)) (a2:Int):Option (Int × ByteArray × Bool):=(spec_HelpersOf.f k a0_0 a0_1 a0_2 a2).bind fun bt145=>(if bt145.2=true then ((spec_l4Many.f a0_0 a0_1 a0_2).bind fun t149=>((spec_l3Shards.f k l1 t149).bind fun t150=>(spec_MendLocal.j0 k l1 a2 bt145.1 (!t150)))) else (spec_MendLocal.j0 k l1 a2 bt145.1 true))
theorem spec_MendLocal.mono_l:∀ k,(∀ y0 y1 y2 y3,LeO (spec_MendLocal.j0 k y0 y1 y2 y3) (spec_MendLocal.j0 (k+1) y0 y1 y2 y3))∧(∀ y0 y1 y2 y3 y4 y5,LeO (spec_MendLocal.l0 k y0 y1 y2 y3 y4 y5) (spec_MendLocal.l0 (k+1) y0 y1 y2 y3 y4 y5))∧(∀ y0 y1 y2 y3 y4 y5 y6 y7 y8 y9 y10 y11,LeO (spec_MendLocal.l1 k y0 y1 y2 y3 y4 y5 y6 y7 y8 y9 y10 y11) (spec_MendLocal.l1 (k+1) y0 y1 y2 y3 y4 y5 y6 y7 y8 y9 y10 y11))
 | 0=>⟨fun _ _ _ _ r h=>by simp [spec_MendLocal.j0] at h,fun _ _ _ _ _ _ r h=>by simp [spec_MendLocal.l0] at h,fun _ _ _ _ _ _ _ _ _ _ _ _ r h=>by simp [spec_MendLocal.l1] at h⟩
 | k+1=>by
  obtain ⟨ih0,ih1,ih2⟩:=spec_MendLocal.mono_l k
  refine ⟨?_,?_,?_⟩
  ·intro y0 y1 y2 y3
   unfold spec_MendLocal.j0
   repeat' first
   | (with_reducible exact ih0 _ _ _ _)
   | (with_reducible exact ih1 _ _ _ _ _ _)
   | (with_reducible exact ih2 _ _ _ _ _ _ _ _ _ _ _ _)
   | (with_reducible exact spec_sumS.mono _ _ _)
   | (with_reducible exact spec_HelpersOf.mono _ _ _ _ _)
   | (with_reducible exact spec_l3Shards.mono _ _ _)
   |(with_reducible exact LeO.refl _)|(with_reducible exact LeO.none _)|(with_reducible refine LeO.ite ?_ ?_)|(with_reducible refine LeO.bind ?_ (fun _=>?_))|exact ih0 _ _ _ _|exact ih1 _ _ _ _ _ _|exact ih2 _ _ _ _ _ _ _ _ _ _ _ _|exact spec_sumS.mono _ _ _|exact spec_HelpersOf.mono _ _ _ _ _|exact spec_l3Shards.mono _ _ _|exact LeO.none _|refine LeO.ite ?_ ?_|refine LeO.bind ?_ (fun _=>?_)
  ·intro y0 y1 y2 y3 y4 y5
   unfold spec_MendLocal.l0
   repeat' first
   | (with_reducible exact ih0 _ _ _ _)
   | (with_reducible exact ih1 _ _ _ _ _ _)
   | (with_reducible exact ih2 _ _ _ _ _ _ _ _ _ _ _ _)
   | (with_reducible exact spec_sumS.mono _ _ _)
   | (with_reducible exact spec_HelpersOf.mono _ _ _ _ _)
   | (with_reducible exact spec_l3Shards.mono _ _ _)
   |(with_reducible exact LeO.refl _)|(with_reducible exact LeO.none _)|(with_reducible refine LeO.ite ?_ ?_)|(with_reducible refine LeO.bind ?_ (fun _=>?_))|exact ih0 _ _ _ _|exact ih1 _ _ _ _ _ _|exact ih2 _ _ _ _ _ _ _ _ _ _ _ _|exact spec_sumS.mono _ _ _|exact spec_HelpersOf.mono _ _ _ _ _|exact spec_l3Shards.mono _ _ _|exact LeO.none _|refine LeO.ite ?_ ?_|refine LeO.bind ?_ (fun _=>?_)
  intro y0 y1 y2 y3 y4 y5 y6 y7 y8 y9 y10 y11
  unfold spec_MendLocal.l1
  repeat' first
  | (with_reducible exact ih0 _ _ _ _)
  | (with_reducible exact ih1 _ _ _ _ _ _)
  | (with_reducible exact ih2 _ _ _ _ _ _ _ _ _ _ _ _)
  | (with_reducible exact spec_sumS.mono _ _ _)
  | (with_reducible exact spec_HelpersOf.mono _ _ _ _ _)
  | (with_reducible exact spec_l3Shards.mono _ _ _)
  |(with_reducible exact LeO.refl _)|(with_reducible exact LeO.none _)|(with_reducible refine LeO.ite ?_ ?_)|(with_reducible refine LeO.bind ?_ (fun _=>?_))|exact ih0 _ _ _ _|exact ih1 _ _ _ _ _ _|exact ih2 _ _ _ _ _ _ _ _ _ _ _ _|exact spec_sumS.mono _ _ _|exact spec_HelpersOf.mono _ _ _ _ _|exact spec_l3Shards.mono _ _ _|exact LeO.none _|refine LeO.ite ?_ ?_|refine LeO.bind ?_ (fun _=>?_)
theorem spec_MendLocal.mono:∀ a0 a1 a2 a3 a4 k,LeO (spec_MendLocal.f k a0 a1 a2 a3 a4) (spec_MendLocal.f (k+1) a0 a1 a2 a3 a4):=by
 intro a0 a1 a2 a3 a4 k
 obtain ⟨ih0,ih1,ih2⟩:=spec_MendLocal.mono_l k
 unfold spec_MendLocal.f
 repeat' first
   | (with_reducible exact ih0 _ _ _ _)
   | (with_reducible exact ih1 _ _ _ _ _ _)
   | (with_reducible exact ih2 _ _ _ _ _ _ _ _ _ _ _ _)
   | (with_reducible exact spec_sumS.mono _ _ _)
   | (with_reducible exact spec_HelpersOf.mono _ _ _ _ _)
   | (with_reducible exact spec_l3Shards.mono _ _ _)
   |(with_reducible exact LeO.refl _)|(with_reducible exact LeO.none _)|(with_reducible refine LeO.ite ?_ ?_)|(with_reducible refine LeO.bind ?_ (fun _=>?_))|exact ih0 _ _ _ _|exact ih1 _ _ _ _ _ _|exact ih2 _ _ _ _ _ _ _ _ _ _ _ _|exact spec_sumS.mono _ _ _|exact spec_HelpersOf.mono _ _ _ _ _|exact spec_l3Shards.mono _ _ _|exact LeO.none _|refine LeO.ite ?_ ?_|refine LeO.bind ?_ (fun _=>?_)
theorem spec_MendLocal.calls (k:Nat) (a0_0:Int) (a0_1:Int) (a0_2:Int) (A1:Option Addr) (c1:Nat) (l1:List (S48)) (a2:Int) (r1:Int) (r2:ByteArray) (r3:Bool) (w:World) (hr1:Kd.C k48 w A1 l1.length l1) (hc1:l1.length≤c1) (h:spec_MendLocal.f k a0_0 a0_1 a0_2 l1 a2=some (r1,r2,r3)) :
  Calls Try.prog 24 #[.agg #[.int .i64 a0_0, .int .i64 a0_1, .int .i64 a0_2], .slice A1 l1.length c1, .int .i64 a2] w fun e w'=>e = .returned (.tuple #[.agg #[.int .i64 r1, .string r2], .bool r3])∧Below w.heap.size w w':=by
 have hu51:=Try.underlying51
 have hu48:=Try.underlying48
 have HR1:=am hr1
 have HC1:=am hc1
 clear hr1 hc1
 have HB:=am (Below.refl w.heap.size w)
 have H:((spec_HelpersOf.f k a0_0 a0_1 a0_2 a2).bind fun bt145=>(if bt145.2=true then ((spec_l4Many.f a0_0 a0_1 a0_2).bind fun t149=>((spec_l3Shards.f k l1 t149).bind fun t150=>(spec_MendLocal.j0 k l1 a2 bt145.1 (!t150)))) else (spec_MendLocal.j0 k l1 a2 bt145.1 true)))=some (r1,r2,r3):=h
 clear h
 replace H:=Option.bind_eq_some_iff.mp H
 obtain ⟨⟨t145,t148⟩,A40,H⟩:=H
 replace H:(if t148=true then ((spec_l4Many.f a0_0 a0_1 a0_2).bind fun t149=>((spec_l3Shards.f k l1 t149).bind fun t150=>(spec_MendLocal.j0 k l1 a2 t145 (!t150)))) else (spec_MendLocal.j0 k l1 a2 t145 true))=some (r1,r2,r3):=H
 have A4:=am A40
 clear A40
 have HC5:=am H
 clear H
 go_enter Try.func24,Try.ntmps24
 go_upto_region 2 with (first|((with_reducible refine gate_dst (N:=3) rfl ?_);refine box_event ?hg (N:=3) ?hd (cs:=#[.int .i64 a0_0, .int .i64 a0_1, .int .i64 a0_2]) (t:=51) ?hr ?_;(case hd=>rfl);(case hg=>rfl);(case hr=>first|(go_simp;done)|(go_simp;rfl));intro gb143 hg w6 hbox hb;have n0_:=am (pu d0 hb);have n1_:=am (hbox);have n2_:=am ((by rw [hg];exact (pz d0):w.heap.size≤gb143));have n3_:=n2_;clear HB;have HB:=n0_;have BK143:=n1_;have GW143:=n2_;have GE143:=n3_;clear n0_ n1_ n2_ n3_;clear hb hbox hg)|((with_reducible refine gate_dst (N:=6) rfl ?_);refine box_event ?hg (N:=6) ?hd (cs:=#[.int .i64 0, .string (⟨#[]⟩:ByteArray)]) (t:=48) ?hr ?_;(case hd=>rfl);(case hg=>rfl);(case hr=>first|(go_simp;done)|(go_simp;rfl));intro gb144 hg w7 hbox hb;have n0_:=am (qb (g:=gb143) (o:=.cells #[.int .i64 a0_0, .int .i64 a0_1, .int .i64 a0_2] 51 (0,0)) (by (with_reducible repeat (first|refine qn ?_ _|refine qd ?_|refine qa ?_ _));exact BK143.out) hb);have n1_:=am (pu (by repeat (first|(with_reducible first|exact HB.out|apply pa|apply pb|apply pd|refine pt ?_ GE143.out)|exact HB.out)) hb);have n2_:=am (hbox);have n3_:=am ((by rw [hg];exact (pz (by repeat (first|(with_reducible first|exact HB.out|apply pa|apply pb|apply pd|refine pt ?_ GE143.out)|exact HB.out))):w.heap.size≤gb144));have n4_:=n3_;have n5_:=am ((by rw [hg];exact Nat.ne_of_lt (blk_lt (g:=gb143) (o:=.cells #[.int .i64 a0_0, .int .i64 a0_1, .int .i64 a0_2] 51 (0,0)) (by (with_reducible repeat (first|refine qn ?_ _|refine qd ?_|refine qa ?_ _));exact BK143.out)):gb143 ≠ gb144));have n6_:=am ((by rw [hg];exact Nat.ne_of_gt (blk_lt (g:=gb143) (o:=.cells #[.int .i64 a0_0, .int .i64 a0_1, .int .i64 a0_2] 51 (0,0)) (by (with_reducible repeat (first|refine qn ?_ _|refine qd ?_|refine qa ?_ _));exact BK143.out)):gb144 ≠ gb143));clear BK143;clear HB;have BK143:=n0_;have HB:=n1_;have BK144:=n2_;have GW144:=n3_;have GE144:=n4_;have NB143_144:=n5_;have NB144_143:=n6_;clear n0_ n1_ n2_ n3_ n4_ n5_ n6_;clear hb hbox hg;have hnb8:=NB143_144.out;have hnc8:=NB144_143.out;have hcz9_0:w7.cell? ⟨gb143,0,none⟩=some (.int .i64 a0_0):=(blk_cell BK143.out 0).trans rfl;have hcz9_1:w7.cell? ⟨gb143,1,none⟩=some (.int .i64 a0_1):=(blk_cell BK143.out 1).trans rfl;have hcz9_2:w7.cell? ⟨gb143,2,none⟩=some (.int .i64 a0_2):=(blk_cell BK143.out 2).trans rfl;have hfz9_0:=blk_frozen BK143.out 0;have hfz9_1:=blk_frozen BK143.out 1;have hfz9_2:=blk_frozen BK143.out 2)|((with_reducible refine gate_callee (f:=70) rfl ?_);refine goesL_ (some 19) rfl rfl Try.func70 d5 rfl #[.agg #[.int .i64 a0_0, .int .i64 a0_1, .int .i64 a0_2], .int .i64 a2] rfl d1 ?_;(with_reducible refine (spec_HelpersOf.calls k a0_0 a0_1 a0_2 a2 t145 t148 _ A4.out).mono ?_);rintro e w10 ⟨v146,rfl,ho0,hb⟩;refine ⟨_,rfl,?_⟩;have n0_:=am (Kd.R_lower ho0 (pz (by repeat (first|(with_reducible first|exact HB.out|apply pa|apply pb|apply pd|refine pt ?_ GE143.out|refine pt ?_ GE144.out)|exact HB.out))));have n1_:=am (qb (g:=gb143) (o:=.cells #[.int .i64 a0_0, .int .i64 a0_1, .int .i64 a0_2] 51 (0,0)) (by (with_reducible repeat (first|refine qn ?_ _|refine qd ?_|refine qa ?_ _));exact BK143.out) hb);have n2_:=am (qb (g:=gb144) (o:=.cells #[.int .i64 0, .string (⟨#[]⟩:ByteArray)] 48 (0,0)) (by (with_reducible repeat (first|refine qn ?_ _|refine qd ?_|refine qa ?_ _));exact BK144.out) hb);have n3_:=am (pu (by repeat (first|(with_reducible first|exact HB.out|apply pa|apply pb|apply pd|refine pt ?_ GE143.out|refine pt ?_ GE144.out)|exact HB.out)) hb);clear BK143;clear BK144;clear HB;have HO147:=n0_;have BK143:=n1_;have BK144:=n2_;have HB:=n3_;clear n0_ n1_ n2_ n3_;(try clear hb);(try clear hb2);(try clear hk);(try clear hi);(try clear ho0)))
 (try simp only [Act.put,q1,q2,q3])
 go_cut [30] (fun v30 wc=>∃ (kq:Nat) (x30_4:Bool),v30 = .bool x30_4∧Aside0 (spec_MendLocal.j0 kq l1 a2 t145 x30_4=some (r1,r2,r3))∧Aside0 (kq≤k)∧Aside0 (Kd.R (Kd.int .i64) 3 wc w.heap.size (fun _=>True) v146 t145)∧Aside0 (wc.heap[gb143]? = some (.cells #[.int .i64 a0_0, .int .i64 a0_1, .int .i64 a0_2] 51 (0,0)))∧Aside0 (wc.heap[gb144]? = some (.cells #[.int .i64 0, .string (⟨#[]⟩:ByteArray)] 48 (0,0)))∧Aside0 (Below w.heap.size w wc))
 case first =>
  have H:=HC5.out
  clear HC5
  by_cases c11:t148=true
  ·subst c11
   have H1:((spec_l4Many.f a0_0 a0_1 a0_2).bind fun t149=>((spec_l3Shards.f k l1 t149).bind fun t150=>(spec_MendLocal.j0 k l1 a2 t145 (!t150))))=some (r1,r2,r3):=by rw [if_pos rfl] at H;exact H
   clear H
   have H:=H1
   clear H1
   replace H:=Option.bind_eq_some_iff.mp H
   obtain ⟨t149,A120,H⟩:=H
   replace H:((spec_l3Shards.f k l1 t149).bind fun t150=>(spec_MendLocal.j0 k l1 a2 t145 (!t150)))=some (r1,r2,r3):=H
   have A12:=am A120
   clear A120
   replace H:=Option.bind_eq_some_iff.mp H
   obtain ⟨t150,A130,H⟩:=H
   replace H:(spec_MendLocal.j0 k l1 a2 t145 (!t150))=some (r1,r2,r3):=H
   have A13:=am A130
   clear A130
   have H':=am H
   clear H
   have hnb14:=NB143_144.out
   have hnc14:=NB144_143.out
   have hcz15_0:w10.cell? ⟨gb143,0,none⟩=some (.int .i64 a0_0):=(blk_cell BK143.out 0).trans rfl
   have hcz15_1:w10.cell? ⟨gb143,1,none⟩=some (.int .i64 a0_1):=(blk_cell BK143.out 1).trans rfl
   have hcz15_2:w10.cell? ⟨gb143,2,none⟩=some (.int .i64 a0_2):=(blk_cell BK143.out 2).trans rfl
   have hfz15_0:=blk_frozen BK143.out 0
   have hfz15_1:=blk_frozen BK143.out 1
   have hfz15_2:=blk_frozen BK143.out 2
   go_wp2_with (first|(go_at_call 72;(with_reducible refine (spec_l4Many.calls a0_0 a0_1 a0_2 t149 _ A12.out).mono ?_);rintro e w16 ⟨rfl,hb⟩;have n0_:=am (Kd.R_below d22 hb);have n1_:=am (qb (g:=gb143) (o:=.cells #[.int .i64 a0_0, .int .i64 a0_1, .int .i64 a0_2] 51 (0,0)) (by (with_reducible repeat (first|refine qn ?_ _|refine qd ?_|refine qa ?_ _));exact BK143.out) hb);have n2_:=am (qb (g:=gb144) (o:=.cells #[.int .i64 0, .string (⟨#[]⟩:ByteArray)] 48 (0,0)) (by (with_reducible repeat (first|refine qn ?_ _|refine qd ?_|refine qa ?_ _));exact BK144.out) hb);have n3_:=am (pu (by repeat (first|(with_reducible first|exact HB.out|apply pa|apply pb|apply pd|refine pt ?_ GE143.out|refine pt ?_ GE144.out)|exact HB.out)) hb);clear HO147;clear BK143;clear BK144;clear HB;have HO147:=n0_;have BK143:=n1_;have BK144:=n2_;have HB:=n3_;clear n0_ n1_ n2_ n3_;(try clear hb);(try clear hb2);(try clear hk);(try clear hi))|(go_at_call 71;(with_reducible refine (spec_l3Shards.calls k _ _ l1 t149 t150 _ ?side1 ?side2 A13.out).mono ?_);(case side1=>repeat (first|exact (Kd.C_below HR1.out HB.out)|(with_reducible refine Kd.C_alloc ?_ _)|(with_reducible refine Kd.C_drewN ?_ _)|(with_reducible refine Kd.C_drew ?_)));(case side2=>exact HC1.out);rintro e w17 ⟨rfl,hb⟩;have n0_:=am (Kd.R_below d22 hb);have n1_:=am (qb (g:=gb143) (o:=.cells #[.int .i64 a0_0, .int .i64 a0_1, .int .i64 a0_2] 51 (0,0)) (by (with_reducible repeat (first|refine qn ?_ _|refine qd ?_|refine qa ?_ _));exact BK143.out) hb);have n2_:=am (qb (g:=gb144) (o:=.cells #[.int .i64 0, .string (⟨#[]⟩:ByteArray)] 48 (0,0)) (by (with_reducible repeat (first|refine qn ?_ _|refine qd ?_|refine qa ?_ _));exact BK144.out) hb);have n3_:=am (pu (by repeat (first|(with_reducible first|exact HB.out|apply pa|apply pb|apply pd|refine pt ?_ GE143.out|refine pt ?_ GE144.out)|exact HB.out)) hb);clear HO147;clear BK143;clear BK144;clear HB;have HO147:=n0_;have BK143:=n1_;have BK144:=n2_;have HB:=n3_;clear n0_ n1_ n2_ n3_;(try clear hb);(try clear hb2);(try clear hk);(try clear hi)))
   go_meet
   case rel=>exact ⟨_,(!t150),d4,H',⟨d25⟩,⟨d22⟩,⟨by (with_reducible repeat (first|refine qn ?_ _|refine qd ?_|refine qa ?_ _));exact BK143.out⟩,⟨by (with_reducible repeat (first|refine qn ?_ _|refine qd ?_|refine qa ?_ _));exact BK144.out⟩,⟨by repeat (first|(with_reducible first|exact HB.out|apply pa|apply pb|apply pd|refine pt ?_ GE143.out|refine pt ?_ GE144.out)|exact HB.out)⟩⟩
  replace c11:=Bool.eq_false_iff.mpr c11
  subst c11
  have H1:(spec_MendLocal.j0 k l1 a2 t145 true)=some (r1,r2,r3):=by rw [if_neg (show ¬ (false=true) by decide)] at H;exact H
  clear H
  have H:=H1
  clear H1
  have H':=am H
  clear H
  go_wp2
  go_meet
  case rel=>exact ⟨_,(true),d4,H',⟨d25⟩,⟨d22⟩,⟨by (with_reducible repeat (first|refine qn ?_ _|refine qd ?_|refine qa ?_ _));exact BK143.out⟩,⟨by (with_reducible repeat (first|refine qn ?_ _|refine qd ?_|refine qa ?_ _));exact BK144.out⟩,⟨by repeat (first|(with_reducible first|exact HB.out|apply pa|apply pb|apply pd|refine pt ?_ GE143.out|refine pt ?_ GE144.out)|exact HB.out)⟩⟩
 case rest =>
  clear HC5
  try clear c1
  try clear c2
  try clear p2
  try clear c7
  try clear c8
  try clear c11
  try clear c14
  try clear hcz15_0
  try clear hcz15_1
  try clear hcz15_2
  try clear hcz9_0
  try clear hcz9_1
  try clear hcz9_2
  try clear hfz15_0
  try clear hfz15_1
  try clear hfz15_2
  try clear hfz9_0
  try clear hfz9_1
  try clear hfz9_2
  obtain ⟨kq,x30_4,rfl,HA,HJ4,HO_8,BK143,BK144,HB⟩:=hcut
  cases kq with
  | zero=>exact absurd HA.out (by simp [spec_MendLocal.j0])
  | succ kj4 =>
   have H:=HA.out
   clear HA
   simp only [spec_MendLocal.j0] at H
   by_cases c18:x30_4=true
   ·subst c18
    have H1:(some (0,(⟨#[]⟩:ByteArray),false))=some (r1,r2,r3):=by rw [if_pos rfl] at H;exact H
    clear H
    have H:=H1
    clear H1
    simp only [Option.some.injEq,Prod.mk.injEq] at H
    obtain ⟨rfl,rfl,rfl⟩:=H
    have hnb19:=NB144_143.out
    have hnc19:=NB143_144.out
    have hcz20_0:wc.cell? ⟨gb144,0,none⟩=some (.int .i64 0):=(blk_cell BK144.out 0).trans rfl
    have hcz20_1:wc.cell? ⟨gb144,1,none⟩=some (.string (⟨#[]⟩:ByteArray)):=(blk_cell BK144.out 1).trans rfl
    have hfz20_0:=blk_frozen BK144.out 0
    have hfz20_1:=blk_frozen BK144.out 1
    go_wp2
    refine bodyPost_ret (results_ct rfl _ _ gb144 48 #[.int .i64 0, .string (⟨#[]⟩:ByteArray)] (0,0) _ rfl (by (with_reducible repeat (first|refine qn ?_ _|refine qd ?_|refine qa ?_ _));refine blk_put (cs:=#[.int .i64 0, .string (⟨#[]⟩:ByteArray)]) ?_ 1 _ rfl;(with_reducible repeat (first|refine qn ?_ _|refine qd ?_|refine qa ?_ _));refine blk_put (cs:=#[.int .i64 0, .string (⟨#[]⟩:ByteArray)]) ?_ 0 _ rfl;(with_reducible repeat (first|refine qn ?_ _|refine qd ?_|refine qa ?_ _));exact BK144.out) Try.underlying48 rfl d5) rfl ?_
    exact ⟨d2,by repeat (first|(with_reducible first|exact HB.out|apply pa|apply pb|apply pd|refine pt ?_ GE143.out|refine pt ?_ GE144.out)|exact HB.out)⟩
   replace c18:=Bool.eq_false_iff.mpr c18
   subst c18
   have H1:(spec_MendLocal.l0 kj4 l1 t145 (t145.length:Int) 0 a2 (⟨#[]⟩:ByteArray))=some (r1,r2,r3):=by rw [if_neg (show ¬ (false=true) by decide)] at H;exact H
   clear H
   have H:=H1
   clear H1
   have H':=am H
   clear H
   go_wp2_with (first|((with_reducible refine gate_dst (N:=10) rfl ?_);refine box_event ?hg (N:=10) ?hd (cs:=#[.int .i64 0, .string (⟨#[]⟩:ByteArray)]) (t:=48) ?hr ?_;(case hd=>rfl);(case hg=>rfl);(case hr=>first|(go_simp;done)|(go_simp;rfl));intro gb151 hg w21 hbox hb;have n0_:=am (Kd.R_below d7 hb);have n1_:=am (qb (g:=gb143) (o:=.cells #[.int .i64 a0_0, .int .i64 a0_1, .int .i64 a0_2] 51 (0,0)) (by (with_reducible repeat (first|refine qn ?_ _|refine qd ?_|refine qa ?_ _));exact BK143.out) hb);have n2_:=am (qb (g:=gb144) (o:=.cells #[.int .i64 0, .string (⟨#[]⟩:ByteArray)] 48 (0,0)) (by (with_reducible repeat (first|refine qn ?_ _|refine qd ?_|refine qa ?_ _));exact BK144.out) hb);have n3_:=am (pu (by repeat (first|(with_reducible first|exact HB.out|apply pa|apply pb|apply pd|refine pt ?_ GE143.out|refine pt ?_ GE144.out)|exact HB.out)) hb);have n4_:=am (hbox);have n5_:=am ((by rw [hg];exact (pz (by repeat (first|(with_reducible first|exact HB.out|apply pa|apply pb|apply pd|refine pt ?_ GE143.out|refine pt ?_ GE144.out)|exact HB.out))):w.heap.size≤gb151));have n6_:=n5_;have n7_:=am ((by rw [hg];exact Nat.ne_of_lt (blk_lt (g:=gb143) (o:=.cells #[.int .i64 a0_0, .int .i64 a0_1, .int .i64 a0_2] 51 (0,0)) (by (with_reducible repeat (first|refine qn ?_ _|refine qd ?_|refine qa ?_ _));exact BK143.out)):gb143 ≠ gb151));have n8_:=am ((by rw [hg];exact Nat.ne_of_gt (blk_lt (g:=gb143) (o:=.cells #[.int .i64 a0_0, .int .i64 a0_1, .int .i64 a0_2] 51 (0,0)) (by (with_reducible repeat (first|refine qn ?_ _|refine qd ?_|refine qa ?_ _));exact BK143.out)):gb151 ≠ gb143));have n9_:=am ((by rw [hg];exact Nat.ne_of_lt (blk_lt (g:=gb144) (o:=.cells #[.int .i64 0, .string (⟨#[]⟩:ByteArray)] 48 (0,0)) (by (with_reducible repeat (first|refine qn ?_ _|refine qd ?_|refine qa ?_ _));exact BK144.out)):gb144 ≠ gb151));have n10_:=am ((by rw [hg];exact Nat.ne_of_gt (blk_lt (g:=gb144) (o:=.cells #[.int .i64 0, .string (⟨#[]⟩:ByteArray)] 48 (0,0)) (by (with_reducible repeat (first|refine qn ?_ _|refine qd ?_|refine qa ?_ _));exact BK144.out)):gb151 ≠ gb144));clear HO_8;clear BK143;clear BK144;clear HB;have HO_8:=n0_;have BK143:=n1_;have BK144:=n2_;have HB:=n3_;have BK151:=n4_;have GW151:=n5_;have GE151:=n6_;have NB143_151:=n7_;have NB151_143:=n8_;have NB144_151:=n9_;have NB151_144:=n10_;clear n0_ n1_ n2_ n3_ n4_ n5_ n6_ n7_ n8_ n9_ n10_;clear hb hbox hg;have hnb22:=NB151_143.out;have hnc22:=NB143_151.out;have hnb23:=NB151_144.out;have hnc23:=NB144_151.out;have hcz24_0:w21.cell? ⟨gb151,0,none⟩=some (.int .i64 0):=(blk_cell BK151.out 0).trans rfl;have hcz24_1:w21.cell? ⟨gb151,1,none⟩=some (.string (⟨#[]⟩:ByteArray)):=(blk_cell BK151.out 1).trans rfl;have hfz24_0:=blk_frozen BK151.out 0;have hfz24_1:=blk_frozen BK151.out 1;obtain ⟨Ao25,co25,eo25⟩:=Kd.R_slice HO_8.out;subst eo25))
   go_loopg [36] kj4 (fun kq v36 w'=>∃ (x36_2:Int) (x145000_2:Int) (x145001_2:ByteArray) (x152001_2:ByteArray),v36 = .int .i64 x36_2∧Aside0 (spec_MendLocal.l0 kq l1 t145 (t145.length:Int) x36_2 a2 x152001_2=some (r1,r2,r3))∧Aside0 (kq≤kj4)∧Aside0 (Kd.R (Kd.int .i64) 3 w' w.heap.size (fun _=>True) (.slice Ao25 t145.length co25) t145)∧Aside0 (w'.heap[gb143]? = some (.cells #[.int .i64 a0_0, .int .i64 a0_1, .int .i64 a0_2] 51 (0,0)))∧Aside0 (w'.heap[gb144]? = some (.cells #[.int .i64 x145000_2, .string x145001_2] 48 (0,0)))∧Aside0 (w'.heap[gb151]? = some (.cells #[.int .i64 a2, .string x152001_2] 48 (0,0)))∧Aside0 (Below w.heap.size w w'))
   case atStart=>exact ⟨(0),(0),((⟨#[]⟩:ByteArray)),((⟨#[]⟩:ByteArray)),d4,H',⟨Nat.le_refl _⟩,⟨by (with_reducible repeat (first|apply Kd.R_alloc|apply Kd.R_drewN|apply Kd.R_drew));exact Kd.R_mono (Kd.R_far (p:=⟨gb151,1,none⟩) (Kd.R_far (p:=⟨gb151,0,none⟩) (Kd.R_types HO_8.out BK151.out d12) (fun _ hk=>hk.2) (.int .i64 a2)) (fun _ hk=>hk.2) (.string (⟨#[]⟩:ByteArray))) (fun _ hk=>trivial)⟩,⟨by (with_reducible repeat (first|refine qn ?_ _|refine qd ?_|refine qa ?_ _));refine blk_far ?_ NB143_151.out _;(with_reducible repeat (first|refine qn ?_ _|refine qd ?_|refine qa ?_ _));refine blk_far ?_ NB143_151.out _;(with_reducible repeat (first|refine qn ?_ _|refine qd ?_|refine qa ?_ _));exact BK143.out⟩,⟨by (with_reducible repeat (first|refine qn ?_ _|refine qd ?_|refine qa ?_ _));refine blk_far ?_ NB144_151.out _;(with_reducible repeat (first|refine qn ?_ _|refine qd ?_|refine qa ?_ _));refine blk_far ?_ NB144_151.out _;(with_reducible repeat (first|refine qn ?_ _|refine qd ?_|refine qa ?_ _));exact BK144.out⟩,⟨by (with_reducible repeat (first|refine qn ?_ _|refine qd ?_|refine qa ?_ _));refine blk_put (cs:=#[.int .i64 a2, .string (⟨#[]⟩:ByteArray)]) ?_ 1 _ rfl;(with_reducible repeat (first|refine qn ?_ _|refine qd ?_|refine qa ?_ _));refine blk_put (cs:=#[.int .i64 0, .string (⟨#[]⟩:ByteArray)]) ?_ 0 _ rfl;(with_reducible repeat (first|refine qn ?_ _|refine qd ?_|refine qa ?_ _));exact BK151.out⟩,⟨by repeat (first|(with_reducible first|exact HB.out|apply pa|apply pb|apply pd|refine pt ?_ GE143.out|refine pt ?_ GE144.out|refine pt ?_ GE151.out)|exact HB.out)⟩⟩
   case round =>
    clear H'
    try clear c1
    try clear c2
    try clear p2
    try clear c7
    try clear c8
    try clear c11
    try clear c14
    try clear c18
    try clear c19
    try clear c22
    try clear c23
    try clear c24
    try clear hcz15_0
    try clear hcz15_1
    try clear hcz15_2
    try clear hcz20_0
    try clear hcz20_1
    try clear hcz24_0
    try clear hcz24_1
    try clear hcz9_0
    try clear hcz9_1
    try clear hcz9_2
    try clear hfz15_0
    try clear hfz15_1
    try clear hfz15_2
    try clear hfz20_0
    try clear hfz20_1
    try clear hfz24_0
    try clear hfz24_1
    try clear hfz9_0
    try clear hfz9_1
    try clear hfz9_2
    try clear p2
    obtain ⟨x36_2,x145000_2,x145001_2,x152001_2,rfl,HA,HK2,HO_34,BK143,BK144,BK151,HB⟩:=hrel
    cases gk with
    | zero=>exact absurd HA.out (by simp [spec_MendLocal.l0])
    | succ k2 =>
     have H:=HA.out
     clear HA
     simp only [spec_MendLocal.l0] at H
     by_cases c26:x36_2 < (t145.length:Int)
     ·rw [if_pos c26] at H
      have c26b0:decide (x36_2 < (t145.length:Int))=true:=decide_eq_true c26
      clear c26
      by_cases c27:0≤x36_2
      ·rw [if_pos c27] at H
       have c27b0:decide (0≤x36_2)=true:=decide_eq_true c27
       clear c27
       by_cases c28:x36_2 < (t145.length:Int)
       ·rw [if_pos c28] at H
        have c28b0:decide (x36_2 < (t145.length:Int))=true:=decide_eq_true c28
        clear c28
        have H':=am H
        clear H
        have p152:0≤(x36_2:Int):=od d3
        have q152:x36_2 < (t145.length:Int):=od d3
        obtain ⟨ad152,e152,hx152_0⟩:=Kd.at_int (Kd.R_reads' HO_34.out).2.2 x36_2 p152 q152
        cases e152
        replace p152:=eq_true p152
        replace q152:=eq_true q152
        go_wp2
        go_loopg [13,43] k2 (fun kq v13 v43 w'=>∃ (x13_3:Bool) (x43_3:Int) (x152001_3:ByteArray),v13 = .bool x13_3∧v43 = .int .i64 x43_3∧Aside0 (spec_MendLocal.l1 kq l1 x36_2 (rd t145 x36_2) x13_3 t145 (t145.length:Int) x36_2 l1 (l1.length:Int) x43_3 a2 x152001_3=some (r1,r2,r3))∧Aside0 (kq≤k2)∧Aside0 (Kd.R (Kd.int .i64) 3 w' w.heap.size (fun _=>True) (.slice (some ad152) t145.length co25) t145)∧Aside0 (w'.heap[gb143]? = some (.cells #[.int .i64 a0_0, .int .i64 a0_1, .int .i64 a0_2] 51 (0,0)))∧Aside0 (w'.heap[gb144]? = some (.cells #[.int .i64 x145000_2, .string x145001_2] 48 (0,0)))∧Aside0 (w'.heap[gb151]? = some (.cells #[.int .i64 a2, .string x152001_3] 48 (0,0)))∧Aside0 (Below w.heap.size w w'))
        case atStart=>exact ⟨(false),(0),(x152001_2),d4,d4,H',⟨Nat.le_refl _⟩,⟨d14⟩,⟨by (with_reducible repeat (first|refine qn ?_ _|refine qd ?_|refine qa ?_ _));exact BK143.out⟩,⟨by (with_reducible repeat (first|refine qn ?_ _|refine qd ?_|refine qa ?_ _));exact BK144.out⟩,⟨by (with_reducible repeat (first|refine qn ?_ _|refine qd ?_|refine qa ?_ _));exact BK151.out⟩,⟨by repeat (first|(with_reducible first|exact HB.out|apply pa|apply pb|apply pd|refine pt ?_ GE143.out|refine pt ?_ GE144.out|refine pt ?_ GE151.out)|exact HB.out)⟩⟩
        case round =>
         clear H'
         try clear c1
         try clear p1
         try clear q1
         try clear hx1
         try clear c2
         try clear p2
         try clear c7
         try clear c8
         try clear c11
         try clear c14
         try clear p15
         try clear q15
         try clear hx15
         try clear c18
         try clear c19
         try clear c22
         try clear c23
         try clear c24
         try clear c26
         try clear c26b0
         try clear c27
         try clear c27b0
         try clear c28
         try clear c28b0
         try clear hcz15_0
         try clear hcz15_1
         try clear hcz15_2
         try clear hcz20_0
         try clear hcz20_1
         try clear hcz24_0
         try clear hcz24_1
         try clear hcz9_0
         try clear hcz9_1
         try clear hcz9_2
         try clear hfz15_0
         try clear hfz15_1
         try clear hfz15_2
         try clear hfz20_0
         try clear hfz20_1
         try clear hfz24_0
         try clear hfz24_1
         try clear hfz9_0
         try clear hfz9_1
         try clear hfz9_2
         try clear hx152_0
         try clear p152
         try clear p2
         try clear q152
         obtain ⟨x13_3,x43_3,x152001_3,rfl,rfl,HA,HK3,HO_34,BK143,BK144,BK151,HB⟩:=hrel
         cases gk with
         | zero=>exact absurd HA.out (by simp [spec_MendLocal.l1])
         | succ k3 =>
          have H:=HA.out
          clear HA
          simp only [spec_MendLocal.l1] at H
          by_cases c29:x43_3 < (l1.length:Int)
          ·rw [if_pos c29] at H
           have c29b0:decide (x43_3 < (l1.length:Int))=true:=decide_eq_true c29
           clear c29
           by_cases c30:0≤x43_3
           ·rw [if_pos c30] at H
            have c30b0:decide (0≤x43_3)=true:=decide_eq_true c30
            clear c30
            by_cases c31:x43_3 < (l1.length:Int)
            ·rw [if_pos c31] at H
             have c31b0:decide (x43_3 < (l1.length:Int))=true:=decide_eq_true c31
             clear c31
             by_cases c32:((rd_T48 l1 x43_3).f0)=(rd t145 x36_2)
             ·rw [if_pos c32] at H
              have c32b0:(((rd_T48 l1 x43_3).f0) == (rd t145 x36_2))=true:=beq_iff_eq.mpr c32
              have c32b1:(((rd_T48 l1 x43_3).f0) != (rd t145 x36_2))=false:=bne_eq_false_iff_eq.mpr c32
              clear c32
              by_cases c33:x36_2=0
              ·rw [if_pos c33] at H
               have c33b0:(x36_2 == 0)=true:=beq_iff_eq.mpr c33
               have c33b1:(x36_2 != 0)=false:=bne_eq_false_iff_eq.mpr c33
               clear c33
               have H':=am H
               clear H
               have p153:0≤(x43_3:Int):=od d3
               have q153:x43_3 < (l1.length:Int):=od d3
               obtain ⟨ad153,e153,hx153_0,hx153_1⟩:=at_T48 HR1.out x43_3 p153 q153
               cases e153
               replace hx153_0:=(HB.out.cell (World.block_lt_of_cell? w _ hx153_0)).trans hx153_0
               replace hx153_1:=(HB.out.cell (World.block_lt_of_cell? w _ hx153_1)).trans hx153_1
               replace p153:=eq_true p153
               replace q153:=eq_true q153
               go_wp2_with (first|((with_reducible refine gate_dst (N:=15) rfl ?_);refine box_event ?hg (N:=15) ?hd (cs:=#[.int .i64 0, .string (⟨#[]⟩:ByteArray)]) (t:=48) ?hr ?_;(case hd=>rfl);(case hg=>rfl);(case hr=>first|(go_simp;done)|(go_simp;rfl));intro gb154 hg w34 hbox hb;have n0_:=am (Kd.R_below d14 hb);have n1_:=am (qb (g:=gb143) (o:=.cells #[.int .i64 a0_0, .int .i64 a0_1, .int .i64 a0_2] 51 (0,0)) (by (with_reducible repeat (first|refine qn ?_ _|refine qd ?_|refine qa ?_ _));exact BK143.out) hb);have n2_:=am (qb (g:=gb144) (o:=.cells #[.int .i64 x145000_2, .string x145001_2] 48 (0,0)) (by (with_reducible repeat (first|refine qn ?_ _|refine qd ?_|refine qa ?_ _));exact BK144.out) hb);have n3_:=am (qb (g:=gb151) (o:=.cells #[.int .i64 a2, .string x152001_3] 48 (0,0)) (by (with_reducible repeat (first|refine qn ?_ _|refine qd ?_|refine qa ?_ _));exact BK151.out) hb);have n4_:=am (pu (by repeat (first|(with_reducible first|exact HB.out|apply pa|apply pb|apply pd|refine pt ?_ GE143.out|refine pt ?_ GE144.out|refine pt ?_ GE151.out)|exact HB.out)) hb);have n5_:=am (hbox);have n6_:=am ((by rw [hg];exact (pz (by repeat (first|(with_reducible first|exact HB.out|apply pa|apply pb|apply pd|refine pt ?_ GE143.out|refine pt ?_ GE144.out|refine pt ?_ GE151.out)|exact HB.out))):w.heap.size≤gb154));have n7_:=n6_;have n8_:=am ((by rw [hg];exact Nat.ne_of_lt (blk_lt (g:=gb143) (o:=.cells #[.int .i64 a0_0, .int .i64 a0_1, .int .i64 a0_2] 51 (0,0)) (by (with_reducible repeat (first|refine qn ?_ _|refine qd ?_|refine qa ?_ _));exact BK143.out)):gb143 ≠ gb154));have n9_:=am ((by rw [hg];exact Nat.ne_of_gt (blk_lt (g:=gb143) (o:=.cells #[.int .i64 a0_0, .int .i64 a0_1, .int .i64 a0_2] 51 (0,0)) (by (with_reducible repeat (first|refine qn ?_ _|refine qd ?_|refine qa ?_ _));exact BK143.out)):gb154 ≠ gb143));have n10_:=am ((by rw [hg];exact Nat.ne_of_lt (blk_lt (g:=gb144) (o:=.cells #[.int .i64 x145000_2, .string x145001_2] 48 (0,0)) (by (with_reducible repeat (first|refine qn ?_ _|refine qd ?_|refine qa ?_ _));exact BK144.out)):gb144 ≠ gb154));have n11_:=am ((by rw [hg];exact Nat.ne_of_gt (blk_lt (g:=gb144) (o:=.cells #[.int .i64 x145000_2, .string x145001_2] 48 (0,0)) (by (with_reducible repeat (first|refine qn ?_ _|refine qd ?_|refine qa ?_ _));exact BK144.out)):gb154 ≠ gb144));have n12_:=am ((by rw [hg];exact Nat.ne_of_lt (blk_lt (g:=gb151) (o:=.cells #[.int .i64 a2, .string x152001_3] 48 (0,0)) (by (with_reducible repeat (first|refine qn ?_ _|refine qd ?_|refine qa ?_ _));exact BK151.out)):gb151 ≠ gb154));have n13_:=am ((by rw [hg];exact Nat.ne_of_gt (blk_lt (g:=gb151) (o:=.cells #[.int .i64 a2, .string x152001_3] 48 (0,0)) (by (with_reducible repeat (first|refine qn ?_ _|refine qd ?_|refine qa ?_ _));exact BK151.out)):gb154 ≠ gb151));clear HO_34;clear BK143;clear BK144;clear BK151;clear HB;have HO_34:=n0_;have BK143:=n1_;have BK144:=n2_;have BK151:=n3_;have HB:=n4_;have BK154:=n5_;have GW154:=n6_;have GE154:=n7_;have NB143_154:=n8_;have NB154_143:=n9_;have NB144_154:=n10_;have NB154_144:=n11_;have NB151_154:=n12_;have NB154_151:=n13_;clear n0_ n1_ n2_ n3_ n4_ n5_ n6_ n7_ n8_ n9_ n10_ n11_ n12_ n13_;clear hb hbox hg;have hnb35:=NB154_143.out;have hnc35:=NB143_154.out;have hnb36:=NB154_144.out;have hnc36:=NB144_154.out;have hnb37:=NB154_151.out;have hnc37:=NB151_154.out;have hcz38_0:w34.cell? ⟨gb154,0,none⟩=some (.int .i64 0):=(blk_cell BK154.out 0).trans rfl;have hcz38_1:w34.cell? ⟨gb154,1,none⟩=some (.string (⟨#[]⟩:ByteArray)):=(blk_cell BK154.out 1).trans rfl;have hfz38_0:=blk_frozen BK154.out 0;have hfz38_1:=blk_frozen BK154.out 1;have hnb39:=NB151_143.out;have hnc39:=NB143_151.out;have hnb40:=NB151_144.out;have hnc40:=NB144_151.out;have hcz41_0:w34.cell? ⟨gb151,0,none⟩=some (.int .i64 a2):=(blk_cell BK151.out 0).trans rfl;have hcz41_1:w34.cell? ⟨gb151,1,none⟩=some (.string x152001_3):=(blk_cell BK151.out 1).trans rfl;have hfz41_0:=blk_frozen BK151.out 0;have hfz41_1:=blk_frozen BK151.out 1))
               go_roundg k3
               case measure=>have:=HJ4.out;have:=HK2.out;have:=HK3.out;omega
               case rel=>exact ⟨(true),(wrap64 (x43_3+1)),((rd_T48 l1 x43_3).f1),d4,d4,H',⟨d29⟩,⟨by (with_reducible repeat (first|apply Kd.R_alloc|apply Kd.R_drewN|apply Kd.R_drew));exact Kd.R_mono (Kd.R_far (p:=⟨gb151,1,none⟩) (Kd.R_far (p:=⟨gb154,1,none⟩) (Kd.R_far (p:=⟨gb154,0,none⟩) (Kd.R_types (Kd.R_types HO_34.out BK154.out d12) BK151.out d12) (fun _ hk=>hk.1.2) (.int .i64 ((rd_T48 l1 x43_3).f0))) (fun _ hk=>hk.1.2) (.string ((rd_T48 l1 x43_3).f1))) (fun _ hk=>hk.2) (.string ((rd_T48 l1 x43_3).f1))) (fun _ hk=>trivial)⟩,⟨by (with_reducible repeat (first|refine qn ?_ _|refine qd ?_|refine qa ?_ _));refine blk_far ?_ NB143_151.out _;(with_reducible repeat (first|refine qn ?_ _|refine qd ?_|refine qa ?_ _));refine blk_far ?_ NB143_154.out _;(with_reducible repeat (first|refine qn ?_ _|refine qd ?_|refine qa ?_ _));refine blk_far ?_ NB143_154.out _;(with_reducible repeat (first|refine qn ?_ _|refine qd ?_|refine qa ?_ _));exact BK143.out⟩,⟨by (with_reducible repeat (first|refine qn ?_ _|refine qd ?_|refine qa ?_ _));refine blk_far ?_ NB144_151.out _;(with_reducible repeat (first|refine qn ?_ _|refine qd ?_|refine qa ?_ _));refine blk_far ?_ NB144_154.out _;(with_reducible repeat (first|refine qn ?_ _|refine qd ?_|refine qa ?_ _));refine blk_far ?_ NB144_154.out _;(with_reducible repeat (first|refine qn ?_ _|refine qd ?_|refine qa ?_ _));exact BK144.out⟩,⟨by (with_reducible repeat (first|refine qn ?_ _|refine qd ?_|refine qa ?_ _));refine blk_put (cs:=#[.int .i64 a2, .string x152001_3]) ?_ 1 _ rfl;(with_reducible repeat (first|refine qn ?_ _|refine qd ?_|refine qa ?_ _));refine blk_far ?_ NB151_154.out _;(with_reducible repeat (first|refine qn ?_ _|refine qd ?_|refine qa ?_ _));refine blk_far ?_ NB151_154.out _;(with_reducible repeat (first|refine qn ?_ _|refine qd ?_|refine qa ?_ _));exact BK151.out⟩,⟨by repeat (first|(with_reducible first|exact HB.out|apply pa|apply pb|apply pd|refine pt ?_ GE143.out|refine pt ?_ GE144.out|refine pt ?_ GE151.out|refine pt ?_ GE154.out)|exact HB.out)⟩⟩
              rw [if_neg c33] at H
              have c33b0:(x36_2 == 0)=false:=beq_eq_false_iff_ne.mpr c33
              have c33b1:(x36_2 != 0)=true:=bne_iff_ne.mpr c33
              replace H:=Option.bind_eq_some_iff.mp H
              obtain ⟨t155,A420,H⟩:=H
              replace H:(spec_MendLocal.l1 k3 l1 x36_2 (rd t145 x36_2) true t145 (t145.length:Int) x36_2 l1 (l1.length:Int) (wrap64 (x43_3+1)) a2 t155)=some (r1,r2,r3):=H
              have A42:=am A420
              clear A420
              have H':=am H
              clear H
              have p153:0≤(x43_3:Int):=od d3
              have q153:x43_3 < (l1.length:Int):=od d3
              obtain ⟨ad153,e153,hx153_0,hx153_1⟩:=at_T48 HR1.out x43_3 p153 q153
              cases e153
              replace hx153_0:=(HB.out.cell (World.block_lt_of_cell? w _ hx153_0)).trans hx153_0
              replace hx153_1:=(HB.out.cell (World.block_lt_of_cell? w _ hx153_1)).trans hx153_1
              replace p153:=eq_true p153
              replace q153:=eq_true q153
              go_wp2_with (first|((with_reducible refine gate_dst (N:=15) rfl ?_);refine box_event ?hg (N:=15) ?hd (cs:=#[.int .i64 0, .string (⟨#[]⟩:ByteArray)]) (t:=48) ?hr ?_;(case hd=>rfl);(case hg=>rfl);(case hr=>first|(go_simp;done)|(go_simp;rfl));intro gb154 hg w43 hbox hb;have n0_:=am (Kd.R_below d14 hb);have n1_:=am (qb (g:=gb143) (o:=.cells #[.int .i64 a0_0, .int .i64 a0_1, .int .i64 a0_2] 51 (0,0)) (by (with_reducible repeat (first|refine qn ?_ _|refine qd ?_|refine qa ?_ _));exact BK143.out) hb);have n2_:=am (qb (g:=gb144) (o:=.cells #[.int .i64 x145000_2, .string x145001_2] 48 (0,0)) (by (with_reducible repeat (first|refine qn ?_ _|refine qd ?_|refine qa ?_ _));exact BK144.out) hb);have n3_:=am (qb (g:=gb151) (o:=.cells #[.int .i64 a2, .string x152001_3] 48 (0,0)) (by (with_reducible repeat (first|refine qn ?_ _|refine qd ?_|refine qa ?_ _));exact BK151.out) hb);have n4_:=am (pu (by repeat (first|(with_reducible first|exact HB.out|apply pa|apply pb|apply pd|refine pt ?_ GE143.out|refine pt ?_ GE144.out|refine pt ?_ GE151.out)|exact HB.out)) hb);have n5_:=am (hbox);have n6_:=am ((by rw [hg];exact (pz (by repeat (first|(with_reducible first|exact HB.out|apply pa|apply pb|apply pd|refine pt ?_ GE143.out|refine pt ?_ GE144.out|refine pt ?_ GE151.out)|exact HB.out))):w.heap.size≤gb154));have n7_:=n6_;have n8_:=am ((by rw [hg];exact Nat.ne_of_lt (blk_lt (g:=gb143) (o:=.cells #[.int .i64 a0_0, .int .i64 a0_1, .int .i64 a0_2] 51 (0,0)) (by (with_reducible repeat (first|refine qn ?_ _|refine qd ?_|refine qa ?_ _));exact BK143.out)):gb143 ≠ gb154));have n9_:=am ((by rw [hg];exact Nat.ne_of_gt (blk_lt (g:=gb143) (o:=.cells #[.int .i64 a0_0, .int .i64 a0_1, .int .i64 a0_2] 51 (0,0)) (by (with_reducible repeat (first|refine qn ?_ _|refine qd ?_|refine qa ?_ _));exact BK143.out)):gb154 ≠ gb143));have n10_:=am ((by rw [hg];exact Nat.ne_of_lt (blk_lt (g:=gb144) (o:=.cells #[.int .i64 x145000_2, .string x145001_2] 48 (0,0)) (by (with_reducible repeat (first|refine qn ?_ _|refine qd ?_|refine qa ?_ _));exact BK144.out)):gb144 ≠ gb154));have n11_:=am ((by rw [hg];exact Nat.ne_of_gt (blk_lt (g:=gb144) (o:=.cells #[.int .i64 x145000_2, .string x145001_2] 48 (0,0)) (by (with_reducible repeat (first|refine qn ?_ _|refine qd ?_|refine qa ?_ _));exact BK144.out)):gb154 ≠ gb144));have n12_:=am ((by rw [hg];exact Nat.ne_of_lt (blk_lt (g:=gb151) (o:=.cells #[.int .i64 a2, .string x152001_3] 48 (0,0)) (by (with_reducible repeat (first|refine qn ?_ _|refine qd ?_|refine qa ?_ _));exact BK151.out)):gb151 ≠ gb154));have n13_:=am ((by rw [hg];exact Nat.ne_of_gt (blk_lt (g:=gb151) (o:=.cells #[.int .i64 a2, .string x152001_3] 48 (0,0)) (by (with_reducible repeat (first|refine qn ?_ _|refine qd ?_|refine qa ?_ _));exact BK151.out)):gb154 ≠ gb151));clear HO_34;clear BK143;clear BK144;clear BK151;clear HB;have HO_34:=n0_;have BK143:=n1_;have BK144:=n2_;have BK151:=n3_;have HB:=n4_;have BK154:=n5_;have GW154:=n6_;have GE154:=n7_;have NB143_154:=n8_;have NB154_143:=n9_;have NB144_154:=n10_;have NB154_144:=n11_;have NB151_154:=n12_;have NB154_151:=n13_;clear n0_ n1_ n2_ n3_ n4_ n5_ n6_ n7_ n8_ n9_ n10_ n11_ n12_ n13_;clear hb hbox hg;have hnb44:=NB154_143.out;have hnc44:=NB143_154.out;have hnb45:=NB154_144.out;have hnc45:=NB144_154.out;have hnb46:=NB154_151.out;have hnc46:=NB151_154.out;have hcz47_0:w43.cell? ⟨gb154,0,none⟩=some (.int .i64 0):=(blk_cell BK154.out 0).trans rfl;have hcz47_1:w43.cell? ⟨gb154,1,none⟩=some (.string (⟨#[]⟩:ByteArray)):=(blk_cell BK154.out 1).trans rfl;have hfz47_0:=blk_frozen BK154.out 0;have hfz47_1:=blk_frozen BK154.out 1;have hnb48:=NB151_143.out;have hnc48:=NB143_151.out;have hnb49:=NB151_144.out;have hnc49:=NB144_151.out;have hcz50_0:w43.cell? ⟨gb151,0,none⟩=some (.int .i64 a2):=(blk_cell BK151.out 0).trans rfl;have hcz50_1:w43.cell? ⟨gb151,1,none⟩=some (.string x152001_3):=(blk_cell BK151.out 1).trans rfl;have hfz50_0:=blk_frozen BK151.out 0;have hfz50_1:=blk_frozen BK151.out 1;have kb0:=fun W=>print_bytes (P:=Try.prog) 9 24 5 Try.underlying9 Try.underlying24 Try.underlying5 x152001_3 W;have kb1:=fun W=>print_bytes (P:=Try.prog) 9 24 5 Try.underlying9 Try.underlying24 Try.underlying5 ((rd_T48 l1 x43_3).f1) W;have hczB:=bytes_keep 5 x152001_3 _ ((blk_cell (blk_put (cs:=#[.int .i64 ((rd_T48 l1 x43_3).f0), .string (⟨#[]⟩:ByteArray)]) (blk_put (cs:=#[.int .i64 0, .string (⟨#[]⟩:ByteArray)]) BK154.out 0 (.int .i64 ((rd_T48 l1 x43_3).f0)) rfl) 1 (.string ((rd_T48 l1 x43_3).f1)) rfl) 1).trans rfl:_=some (.string ((rd_T48 l1 x43_3).f1))))|(go_at_call 73;(with_reducible refine (spec_sumS.calls k3 x152001_3 ((rd_T48 l1 x43_3).f1) t155 _ _ ?hB A42.out).mono ?_);(case hB=>first|rfl|(go_simp;done)|(simp;done));rintro e w51 ⟨A5_,n5_,c5_,rfl,hk_,hb⟩;clear kb0 kb1 hczB;have n0_:=am (Kd.R_below (by (with_reducible repeat (first|apply Kd.R_alloc|apply Kd.R_drewN|apply Kd.R_drew));exact (Kd.R_mono (Kd.R_far (p:=⟨gb154,1,none⟩) (Kd.R_far (p:=⟨gb154,0,none⟩) (Kd.R_types HO_34.out BK154.out d12) (fun _ hk=>hk.2) (.int .i64 ((rd_T48 l1 x43_3).f0))) (fun _ hk=>hk.2) (.string ((rd_T48 l1 x43_3).f1))) (fun _ h_=>h_.1))) hb);have n1_:=am (qb (g:=gb143) (o:=.cells #[.int .i64 a0_0, .int .i64 a0_1, .int .i64 a0_2] 51 (0,0)) (by (with_reducible repeat (first|refine qn ?_ _|refine qd ?_|refine qa ?_ _));refine blk_far ?_ NB143_154.out _;(with_reducible repeat (first|refine qn ?_ _|refine qd ?_|refine qa ?_ _));refine blk_far ?_ NB143_154.out _;(with_reducible repeat (first|refine qn ?_ _|refine qd ?_|refine qa ?_ _));exact BK143.out) hb);have n2_:=am (qb (g:=gb144) (o:=.cells #[.int .i64 x145000_2, .string x145001_2] 48 (0,0)) (by (with_reducible repeat (first|refine qn ?_ _|refine qd ?_|refine qa ?_ _));refine blk_far ?_ NB144_154.out _;(with_reducible repeat (first|refine qn ?_ _|refine qd ?_|refine qa ?_ _));refine blk_far ?_ NB144_154.out _;(with_reducible repeat (first|refine qn ?_ _|refine qd ?_|refine qa ?_ _));exact BK144.out) hb);have n3_:=am (qb (g:=gb151) (o:=.cells #[.int .i64 a2, .string x152001_3] 48 (0,0)) (by (with_reducible repeat (first|refine qn ?_ _|refine qd ?_|refine qa ?_ _));refine blk_far ?_ NB151_154.out _;(with_reducible repeat (first|refine qn ?_ _|refine qd ?_|refine qa ?_ _));refine blk_far ?_ NB151_154.out _;(with_reducible repeat (first|refine qn ?_ _|refine qd ?_|refine qa ?_ _));exact BK151.out) hb);have n4_:=am (qb (g:=gb154) (o:=.cells #[.int .i64 ((rd_T48 l1 x43_3).f0), .string ((rd_T48 l1 x43_3).f1)] 48 (0,0)) (by (with_reducible repeat (first|refine qn ?_ _|refine qd ?_|refine qa ?_ _));refine blk_put (cs:=#[.int .i64 ((rd_T48 l1 x43_3).f0), .string (⟨#[]⟩:ByteArray)]) ?_ 1 _ rfl;(with_reducible repeat (first|refine qn ?_ _|refine qd ?_|refine qa ?_ _));refine blk_put (cs:=#[.int .i64 0, .string (⟨#[]⟩:ByteArray)]) ?_ 0 _ rfl;(with_reducible repeat (first|refine qn ?_ _|refine qd ?_|refine qa ?_ _));exact BK154.out) hb);have n5_:=am (pu (by repeat (first|(with_reducible first|exact HB.out|apply pa|apply pb|apply pd|refine pt ?_ GE143.out|refine pt ?_ GE144.out|refine pt ?_ GE151.out|refine pt ?_ GE154.out)|exact HB.out)) hb);clear HO_34;clear BK143;clear BK144;clear BK151;clear BK154;clear HB;have HO_34:=n0_;have BK143:=n1_;have BK144:=n2_;have BK151:=n3_;have BK154:=n4_;have HB:=n5_;clear n0_ n1_ n2_ n3_ n4_ n5_;(try clear hb);(try clear hb2);(try clear hk);(try clear hi);have hcz52_0:w51.cell? ⟨gb151,0,none⟩=some (.int .i64 a2):=(blk_cell BK151.out 0).trans rfl;have hcz52_1:w51.cell? ⟨gb151,1,none⟩=some (.string x152001_3):=(blk_cell BK151.out 1).trans rfl;have hfz52_0:=blk_frozen BK151.out 0;have hfz52_1:=blk_frozen BK151.out 1))
              go_roundg k3
              case measure=>have:=HJ4.out;have:=HK2.out;have:=HK3.out;omega
              case rel=>exact ⟨(true),(wrap64 (x43_3+1)),(t155),d4,d4,H',⟨d29⟩,⟨by (with_reducible repeat (first|apply Kd.R_alloc|apply Kd.R_drewN|apply Kd.R_drew));exact Kd.R_mono (Kd.R_far (p:=⟨gb151,1,none⟩) (Kd.R_types HO_34.out BK151.out d12) (fun _ hk=>hk.2) (.string t155)) (fun _ hk=>trivial)⟩,⟨by (with_reducible repeat (first|refine qn ?_ _|refine qd ?_|refine qa ?_ _));refine blk_far ?_ NB143_151.out _;(with_reducible repeat (first|refine qn ?_ _|refine qd ?_|refine qa ?_ _));exact BK143.out⟩,⟨by (with_reducible repeat (first|refine qn ?_ _|refine qd ?_|refine qa ?_ _));refine blk_far ?_ NB144_151.out _;(with_reducible repeat (first|refine qn ?_ _|refine qd ?_|refine qa ?_ _));exact BK144.out⟩,⟨by (with_reducible repeat (first|refine qn ?_ _|refine qd ?_|refine qa ?_ _));refine blk_put (cs:=#[.int .i64 a2, .string x152001_3]) ?_ 1 _ rfl;(with_reducible repeat (first|refine qn ?_ _|refine qd ?_|refine qa ?_ _));exact BK151.out⟩,⟨by repeat (first|(with_reducible first|exact HB.out|apply pa|apply pb|apply pd|refine pt ?_ GE143.out|refine pt ?_ GE144.out|refine pt ?_ GE151.out|refine pt ?_ GE154.out)|exact HB.out)⟩⟩
             rw [if_neg c32] at H
             have c32b0:(((rd_T48 l1 x43_3).f0) == (rd t145 x36_2))=false:=beq_eq_false_iff_ne.mpr c32
             have c32b1:(((rd_T48 l1 x43_3).f0) != (rd t145 x36_2))=true:=bne_iff_ne.mpr c32
             have H':=am H
             clear H
             have p153:0≤(x43_3:Int):=od d3
             have q153:x43_3 < (l1.length:Int):=od d3
             obtain ⟨ad153,e153,hx153_0,hx153_1⟩:=at_T48 HR1.out x43_3 p153 q153
             cases e153
             replace hx153_0:=(HB.out.cell (World.block_lt_of_cell? w _ hx153_0)).trans hx153_0
             replace hx153_1:=(HB.out.cell (World.block_lt_of_cell? w _ hx153_1)).trans hx153_1
             replace p153:=eq_true p153
             replace q153:=eq_true q153
             go_wp2_with (first|((with_reducible refine gate_dst (N:=15) rfl ?_);refine box_event ?hg (N:=15) ?hd (cs:=#[.int .i64 0, .string (⟨#[]⟩:ByteArray)]) (t:=48) ?hr ?_;(case hd=>rfl);(case hg=>rfl);(case hr=>first|(go_simp;done)|(go_simp;rfl));intro gb154 hg w53 hbox hb;have n0_:=am (Kd.R_below d14 hb);have n1_:=am (qb (g:=gb143) (o:=.cells #[.int .i64 a0_0, .int .i64 a0_1, .int .i64 a0_2] 51 (0,0)) (by (with_reducible repeat (first|refine qn ?_ _|refine qd ?_|refine qa ?_ _));exact BK143.out) hb);have n2_:=am (qb (g:=gb144) (o:=.cells #[.int .i64 x145000_2, .string x145001_2] 48 (0,0)) (by (with_reducible repeat (first|refine qn ?_ _|refine qd ?_|refine qa ?_ _));exact BK144.out) hb);have n3_:=am (qb (g:=gb151) (o:=.cells #[.int .i64 a2, .string x152001_3] 48 (0,0)) (by (with_reducible repeat (first|refine qn ?_ _|refine qd ?_|refine qa ?_ _));exact BK151.out) hb);have n4_:=am (pu (by repeat (first|(with_reducible first|exact HB.out|apply pa|apply pb|apply pd|refine pt ?_ GE143.out|refine pt ?_ GE144.out|refine pt ?_ GE151.out)|exact HB.out)) hb);have n5_:=am (hbox);have n6_:=am ((by rw [hg];exact (pz (by repeat (first|(with_reducible first|exact HB.out|apply pa|apply pb|apply pd|refine pt ?_ GE143.out|refine pt ?_ GE144.out|refine pt ?_ GE151.out)|exact HB.out))):w.heap.size≤gb154));have n7_:=n6_;have n8_:=am ((by rw [hg];exact Nat.ne_of_lt (blk_lt (g:=gb143) (o:=.cells #[.int .i64 a0_0, .int .i64 a0_1, .int .i64 a0_2] 51 (0,0)) (by (with_reducible repeat (first|refine qn ?_ _|refine qd ?_|refine qa ?_ _));exact BK143.out)):gb143 ≠ gb154));have n9_:=am ((by rw [hg];exact Nat.ne_of_gt (blk_lt (g:=gb143) (o:=.cells #[.int .i64 a0_0, .int .i64 a0_1, .int .i64 a0_2] 51 (0,0)) (by (with_reducible repeat (first|refine qn ?_ _|refine qd ?_|refine qa ?_ _));exact BK143.out)):gb154 ≠ gb143));have n10_:=am ((by rw [hg];exact Nat.ne_of_lt (blk_lt (g:=gb144) (o:=.cells #[.int .i64 x145000_2, .string x145001_2] 48 (0,0)) (by (with_reducible repeat (first|refine qn ?_ _|refine qd ?_|refine qa ?_ _));exact BK144.out)):gb144 ≠ gb154));have n11_:=am ((by rw [hg];exact Nat.ne_of_gt (blk_lt (g:=gb144) (o:=.cells #[.int .i64 x145000_2, .string x145001_2] 48 (0,0)) (by (with_reducible repeat (first|refine qn ?_ _|refine qd ?_|refine qa ?_ _));exact BK144.out)):gb154 ≠ gb144));have n12_:=am ((by rw [hg];exact Nat.ne_of_lt (blk_lt (g:=gb151) (o:=.cells #[.int .i64 a2, .string x152001_3] 48 (0,0)) (by (with_reducible repeat (first|refine qn ?_ _|refine qd ?_|refine qa ?_ _));exact BK151.out)):gb151 ≠ gb154));have n13_:=am ((by rw [hg];exact Nat.ne_of_gt (blk_lt (g:=gb151) (o:=.cells #[.int .i64 a2, .string x152001_3] 48 (0,0)) (by (with_reducible repeat (first|refine qn ?_ _|refine qd ?_|refine qa ?_ _));exact BK151.out)):gb154 ≠ gb151));clear HO_34;clear BK143;clear BK144;clear BK151;clear HB;have HO_34:=n0_;have BK143:=n1_;have BK144:=n2_;have BK151:=n3_;have HB:=n4_;have BK154:=n5_;have GW154:=n6_;have GE154:=n7_;have NB143_154:=n8_;have NB154_143:=n9_;have NB144_154:=n10_;have NB154_144:=n11_;have NB151_154:=n12_;have NB154_151:=n13_;clear n0_ n1_ n2_ n3_ n4_ n5_ n6_ n7_ n8_ n9_ n10_ n11_ n12_ n13_;clear hb hbox hg;have hnb54:=NB154_143.out;have hnc54:=NB143_154.out;have hnb55:=NB154_144.out;have hnc55:=NB144_154.out;have hnb56:=NB154_151.out;have hnc56:=NB151_154.out;have hcz57_0:w53.cell? ⟨gb154,0,none⟩=some (.int .i64 0):=(blk_cell BK154.out 0).trans rfl;have hcz57_1:w53.cell? ⟨gb154,1,none⟩=some (.string (⟨#[]⟩:ByteArray)):=(blk_cell BK154.out 1).trans rfl;have hfz57_0:=blk_frozen BK154.out 0;have hfz57_1:=blk_frozen BK154.out 1))
             go_roundg k3
             case measure=>have:=HJ4.out;have:=HK2.out;have:=HK3.out;omega
             case rel=>exact ⟨(x13_3),(wrap64 (x43_3+1)),(x152001_3),d4,d4,H',⟨d29⟩,⟨by (with_reducible repeat (first|apply Kd.R_alloc|apply Kd.R_drewN|apply Kd.R_drew));exact Kd.R_mono (Kd.R_far (p:=⟨gb154,1,none⟩) (Kd.R_far (p:=⟨gb154,0,none⟩) (Kd.R_types HO_34.out BK154.out d12) (fun _ hk=>hk.2) (.int .i64 ((rd_T48 l1 x43_3).f0))) (fun _ hk=>hk.2) (.string ((rd_T48 l1 x43_3).f1))) (fun _ hk=>trivial)⟩,⟨by (with_reducible repeat (first|refine qn ?_ _|refine qd ?_|refine qa ?_ _));refine blk_far ?_ NB143_154.out _;(with_reducible repeat (first|refine qn ?_ _|refine qd ?_|refine qa ?_ _));refine blk_far ?_ NB143_154.out _;(with_reducible repeat (first|refine qn ?_ _|refine qd ?_|refine qa ?_ _));exact BK143.out⟩,⟨by (with_reducible repeat (first|refine qn ?_ _|refine qd ?_|refine qa ?_ _));refine blk_far ?_ NB144_154.out _;(with_reducible repeat (first|refine qn ?_ _|refine qd ?_|refine qa ?_ _));refine blk_far ?_ NB144_154.out _;(with_reducible repeat (first|refine qn ?_ _|refine qd ?_|refine qa ?_ _));exact BK144.out⟩,⟨by (with_reducible repeat (first|refine qn ?_ _|refine qd ?_|refine qa ?_ _));refine blk_far ?_ NB151_154.out _;(with_reducible repeat (first|refine qn ?_ _|refine qd ?_|refine qa ?_ _));refine blk_far ?_ NB151_154.out _;(with_reducible repeat (first|refine qn ?_ _|refine qd ?_|refine qa ?_ _));exact BK151.out⟩,⟨by repeat (first|(with_reducible first|exact HB.out|apply pa|apply pb|apply pd|refine pt ?_ GE143.out|refine pt ?_ GE144.out|refine pt ?_ GE151.out|refine pt ?_ GE154.out)|exact HB.out)⟩⟩
            rw [if_neg c31] at H
            exact absurd H d24
           rw [if_neg c30] at H
           exact absurd H d24
          rw [if_neg c29] at H
          have c29b0:decide (x43_3 < (l1.length:Int))=false:=decide_eq_false c29
          clear c29
          by_cases c58:x13_3=true
          ·subst c58
           have H1:(spec_MendLocal.l0 k3 l1 t145 (t145.length:Int) (wrap64 (x36_2+1)) a2 x152001_3)=some (r1,r2,r3):=by rw [if_pos rfl] at H;exact H
           clear H
           have H:=H1
           clear H1
           have H':=am H
           clear H
           go_wp2
           go_roundg k3
           case measure=>have:=HJ4.out;have:=HK2.out;have:=HK3.out;omega
           case rel=>exact ⟨(wrap64 (x36_2+1)),(x145000_2),(x145001_2),(x152001_3),d4,H',⟨d29⟩,⟨d14⟩,⟨by (with_reducible repeat (first|refine qn ?_ _|refine qd ?_|refine qa ?_ _));exact BK143.out⟩,⟨by (with_reducible repeat (first|refine qn ?_ _|refine qd ?_|refine qa ?_ _));exact BK144.out⟩,⟨by (with_reducible repeat (first|refine qn ?_ _|refine qd ?_|refine qa ?_ _));exact BK151.out⟩,⟨by repeat (first|(with_reducible first|exact HB.out|apply pa|apply pb|apply pd|refine pt ?_ GE143.out|refine pt ?_ GE144.out|refine pt ?_ GE151.out)|exact HB.out)⟩⟩
          replace c58:=Bool.eq_false_iff.mpr c58
          subst c58
          have H1:(some (0,(⟨#[]⟩:ByteArray),false))=some (r1,r2,r3):=by rw [if_neg (show ¬ (false=true) by decide)] at H;exact H
          clear H
          have H:=H1
          clear H1
          simp only [Option.some.injEq,Prod.mk.injEq] at H
          obtain ⟨rfl,rfl,rfl⟩:=H
          have hnb59:=NB144_143.out
          have hnc59:=NB143_144.out
          have hnb60:=NB144_151.out
          have hnc60:=NB151_144.out
          have hcz61_0:wr.cell? ⟨gb144,0,none⟩=some (.int .i64 x145000_2):=(blk_cell BK144.out 0).trans rfl
          have hcz61_1:wr.cell? ⟨gb144,1,none⟩=some (.string x145001_2):=(blk_cell BK144.out 1).trans rfl
          have hfz61_0:=blk_frozen BK144.out 0
          have hfz61_1:=blk_frozen BK144.out 1
          go_wp2
          refine bodyPost_ret (results_ct rfl _ _ gb144 48 #[.int .i64 0, .string (⟨#[]⟩:ByteArray)] (0,0) _ rfl (by (with_reducible repeat (first|refine qn ?_ _|refine qd ?_|refine qa ?_ _));refine blk_put (cs:=#[.int .i64 0, .string x145001_2]) ?_ 1 _ rfl;(with_reducible repeat (first|refine qn ?_ _|refine qd ?_|refine qa ?_ _));refine blk_put (cs:=#[.int .i64 x145000_2, .string x145001_2]) ?_ 0 _ rfl;(with_reducible repeat (first|refine qn ?_ _|refine qd ?_|refine qa ?_ _));exact BK144.out) Try.underlying48 rfl d5) rfl ?_
          exact ⟨d2,by repeat (first|(with_reducible first|exact HB.out|apply pa|apply pb|apply pd|refine pt ?_ GE143.out|refine pt ?_ GE144.out|refine pt ?_ GE151.out)|exact HB.out)⟩
       rw [if_neg c28] at H
       exact absurd H d24
      rw [if_neg c27] at H
      exact absurd H d24
     rw [if_neg c26] at H
     have c26b0:decide (x36_2 < (t145.length:Int))=false:=decide_eq_false c26
     clear c26
     simp only [Option.some.injEq,Prod.mk.injEq] at H
     obtain ⟨rfl,rfl,rfl⟩:=H
     have hnb62:=NB151_143.out
     have hnc62:=NB143_151.out
     have hnb63:=NB151_144.out
     have hnc63:=NB144_151.out
     have hcz64_0:wr.cell? ⟨gb151,0,none⟩=some (.int .i64 a2):=(blk_cell BK151.out 0).trans rfl
     have hcz64_1:wr.cell? ⟨gb151,1,none⟩=some (.string x152001_2):=(blk_cell BK151.out 1).trans rfl
     have hfz64_0:=blk_frozen BK151.out 0
     have hfz64_1:=blk_frozen BK151.out 1
     have hnb65:=NB144_143.out
     have hnc65:=NB143_144.out
     have hcz66_0:wr.cell? ⟨gb144,0,none⟩=some (.int .i64 x145000_2):=(blk_cell BK144.out 0).trans rfl
     have hcz66_1:wr.cell? ⟨gb144,1,none⟩=some (.string x145001_2):=(blk_cell BK144.out 1).trans rfl
     have hfz66_0:=blk_frozen BK144.out 0
     have hfz66_1:=blk_frozen BK144.out 1
     go_wp2
     refine bodyPost_ret (results_ct rfl _ _ gb144 48 #[.int .i64 a2, .string x152001_2] (0,0) _ rfl (by (with_reducible repeat (first|refine qn ?_ _|refine qd ?_|refine qa ?_ _));refine blk_put (cs:=#[.int .i64 a2, .string x145001_2]) ?_ 1 _ rfl;(with_reducible repeat (first|refine qn ?_ _|refine qd ?_|refine qa ?_ _));refine blk_put (cs:=#[.int .i64 x145000_2, .string x145001_2]) ?_ 0 _ rfl;(with_reducible repeat (first|refine qn ?_ _|refine qd ?_|refine qa ?_ _));exact BK144.out) Try.underlying48 rfl d5) rfl ?_
     exact ⟨d2,by repeat (first|(with_reducible first|exact HB.out|apply pa|apply pb|apply pd|refine pt ?_ GE143.out|refine pt ?_ GE144.out|refine pt ?_ GE151.out)|exact HB.out)⟩
end

def laws_toLocal.f (a0_0:Int) (a0_1:Int) (a0_2:Int):Option (Int × Int × Int):=some (a0_0,a0_1,a0_2)
theorem laws_toLocal.calls (a0_0:Int) (a0_1:Int) (a0_2:Int) (r1:Int) (r2:Int) (r3:Int) (w:World) (h:laws_toLocal.f a0_0 a0_1 a0_2=some (r1,r2,r3)) :
  Calls Try.prog 25 #[.agg #[.int .i64 a0_0, .int .i64 a0_1, .int .i64 a0_2]] w fun e w'=>e = .returned (.agg #[.int .i64 r1, .int .i64 r2, .int .i64 r3])∧Below w.heap.size w w':=by
 have hu44:=Try.underlying44
 have hu51:=Try.underlying51
 have HB:=am (Below.refl w.heap.size w)
 have H:(some (a0_0,a0_1,a0_2))=some (r1,r2,r3):=h
 clear h
 simp only [Option.some.injEq,Prod.mk.injEq] at H
 obtain ⟨rfl,rfl,rfl⟩:=H
 go_enter Try.func25,Try.ntmps25
 go_wp2_with (first|((with_reducible refine gate_dst (N:=1) rfl ?_);refine box_event ?hg (N:=1) ?hd (cs:=#[.int .i64 a0_0, .int .i64 a0_1, .int .i64 a0_2]) (t:=44) ?hr ?_;(case hd=>rfl);(case hg=>rfl);(case hr=>first|(go_simp;done)|(go_simp;rfl));intro gb135 hg w2 hbox hb;have n0_:=am (pu d0 hb);have n1_:=am (hbox);have n2_:=am ((by rw [hg];exact (pz d0):w.heap.size≤gb135));have n3_:=n2_;clear HB;have HB:=n0_;have BK135:=n1_;have GW135:=n2_;have GE135:=n3_;clear n0_ n1_ n2_ n3_;clear hb hbox hg)|((with_reducible refine gate_dst (N:=2) rfl ?_);refine box_event ?hg (N:=2) ?hd (cs:=#[.int .i64 0, .int .i64 0, .int .i64 0]) (t:=51) ?hr ?_;(case hd=>rfl);(case hg=>rfl);(case hr=>first|(go_simp;done)|(go_simp;rfl));intro gb136 hg w3 hbox hb;have n0_:=am (qb (g:=gb135) (o:=.cells #[.int .i64 a0_0, .int .i64 a0_1, .int .i64 a0_2] 44 (0,0)) (by (with_reducible repeat (first|refine qn ?_ _|refine qd ?_|refine qa ?_ _));exact BK135.out) hb);have n1_:=am (pu (by repeat (first|(with_reducible first|exact HB.out|apply pa|apply pb|apply pd|refine pt ?_ GE135.out)|exact HB.out)) hb);have n2_:=am (hbox);have n3_:=am ((by rw [hg];exact (pz (by repeat (first|(with_reducible first|exact HB.out|apply pa|apply pb|apply pd|refine pt ?_ GE135.out)|exact HB.out))):w.heap.size≤gb136));have n4_:=n3_;have n5_:=am ((by rw [hg];exact Nat.ne_of_lt (blk_lt (g:=gb135) (o:=.cells #[.int .i64 a0_0, .int .i64 a0_1, .int .i64 a0_2] 44 (0,0)) (by (with_reducible repeat (first|refine qn ?_ _|refine qd ?_|refine qa ?_ _));exact BK135.out)):gb135 ≠ gb136));have n6_:=am ((by rw [hg];exact Nat.ne_of_gt (blk_lt (g:=gb135) (o:=.cells #[.int .i64 a0_0, .int .i64 a0_1, .int .i64 a0_2] 44 (0,0)) (by (with_reducible repeat (first|refine qn ?_ _|refine qd ?_|refine qa ?_ _));exact BK135.out)):gb136 ≠ gb135));clear BK135;clear HB;have BK135:=n0_;have HB:=n1_;have BK136:=n2_;have GW136:=n3_;have GE136:=n4_;have NB135_136:=n5_;have NB136_135:=n6_;clear n0_ n1_ n2_ n3_ n4_ n5_ n6_;clear hb hbox hg)|((with_reducible refine gate_dst (N:=3) rfl ?_);refine box_event ?hg (N:=3) ?hd (cs:=#[.int .i64 0, .int .i64 0, .int .i64 0]) (t:=51) ?hr ?_;(case hd=>rfl);(case hg=>rfl);(case hr=>first|(go_simp;done)|(go_simp;rfl));intro gb137 hg w4 hbox hb;have n0_:=am (qb (g:=gb135) (o:=.cells #[.int .i64 a0_0, .int .i64 a0_1, .int .i64 a0_2] 44 (0,0)) (by (with_reducible repeat (first|refine qn ?_ _|refine qd ?_|refine qa ?_ _));exact BK135.out) hb);have n1_:=am (qb (g:=gb136) (o:=.cells #[.int .i64 0, .int .i64 0, .int .i64 0] 51 (0,0)) (by (with_reducible repeat (first|refine qn ?_ _|refine qd ?_|refine qa ?_ _));exact BK136.out) hb);have n2_:=am (pu (by repeat (first|(with_reducible first|exact HB.out|apply pa|apply pb|apply pd|refine pt ?_ GE135.out|refine pt ?_ GE136.out)|exact HB.out)) hb);have n3_:=am (hbox);have n4_:=am ((by rw [hg];exact (pz (by repeat (first|(with_reducible first|exact HB.out|apply pa|apply pb|apply pd|refine pt ?_ GE135.out|refine pt ?_ GE136.out)|exact HB.out))):w.heap.size≤gb137));have n5_:=n4_;have n6_:=am ((by rw [hg];exact Nat.ne_of_lt (blk_lt (g:=gb135) (o:=.cells #[.int .i64 a0_0, .int .i64 a0_1, .int .i64 a0_2] 44 (0,0)) (by (with_reducible repeat (first|refine qn ?_ _|refine qd ?_|refine qa ?_ _));exact BK135.out)):gb135 ≠ gb137));have n7_:=am ((by rw [hg];exact Nat.ne_of_gt (blk_lt (g:=gb135) (o:=.cells #[.int .i64 a0_0, .int .i64 a0_1, .int .i64 a0_2] 44 (0,0)) (by (with_reducible repeat (first|refine qn ?_ _|refine qd ?_|refine qa ?_ _));exact BK135.out)):gb137 ≠ gb135));have n8_:=am ((by rw [hg];exact Nat.ne_of_lt (blk_lt (g:=gb136) (o:=.cells #[.int .i64 0, .int .i64 0, .int .i64 0] 51 (0,0)) (by (with_reducible repeat (first|refine qn ?_ _|refine qd ?_|refine qa ?_ _));exact BK136.out)):gb136 ≠ gb137));have n9_:=am ((by rw [hg];exact Nat.ne_of_gt (blk_lt (g:=gb136) (o:=.cells #[.int .i64 0, .int .i64 0, .int .i64 0] 51 (0,0)) (by (with_reducible repeat (first|refine qn ?_ _|refine qd ?_|refine qa ?_ _));exact BK136.out)):gb137 ≠ gb136));clear BK135;clear BK136;clear HB;have BK135:=n0_;have BK136:=n1_;have HB:=n2_;have BK137:=n3_;have GW137:=n4_;have GE137:=n5_;have NB135_137:=n6_;have NB137_135:=n7_;have NB136_137:=n8_;have NB137_136:=n9_;clear n0_ n1_ n2_ n3_ n4_ n5_ n6_ n7_ n8_ n9_;clear hb hbox hg;have hnb5:=NB135_136.out;have hnc5:=NB136_135.out;have hnb6:=NB135_137.out;have hnc6:=NB137_135.out;have hcz7_0:w4.cell? ⟨gb135,0,none⟩=some (.int .i64 a0_0):=(blk_cell BK135.out 0).trans rfl;have hcz7_1:w4.cell? ⟨gb135,1,none⟩=some (.int .i64 a0_1):=(blk_cell BK135.out 1).trans rfl;have hcz7_2:w4.cell? ⟨gb135,2,none⟩=some (.int .i64 a0_2):=(blk_cell BK135.out 2).trans rfl;have hfz7_0:=blk_frozen BK135.out 0;have hfz7_1:=blk_frozen BK135.out 1;have hfz7_2:=blk_frozen BK135.out 2;have hnb8:=NB137_136.out;have hnc8:=NB136_137.out;have hcz9_0:w4.cell? ⟨gb137,0,none⟩=some (.int .i64 0):=(blk_cell BK137.out 0).trans rfl;have hcz9_1:w4.cell? ⟨gb137,1,none⟩=some (.int .i64 0):=(blk_cell BK137.out 1).trans rfl;have hcz9_2:w4.cell? ⟨gb137,2,none⟩=some (.int .i64 0):=(blk_cell BK137.out 2).trans rfl;have hfz9_0:=blk_frozen BK137.out 0;have hfz9_1:=blk_frozen BK137.out 1;have hfz9_2:=blk_frozen BK137.out 2;have hcz10_0:w4.cell? ⟨gb136,0,none⟩=some (.int .i64 0):=(blk_cell BK136.out 0).trans rfl;have hcz10_1:w4.cell? ⟨gb136,1,none⟩=some (.int .i64 0):=(blk_cell BK136.out 1).trans rfl;have hcz10_2:w4.cell? ⟨gb136,2,none⟩=some (.int .i64 0):=(blk_cell BK136.out 2).trans rfl;have hfz10_0:=blk_frozen BK136.out 0;have hfz10_1:=blk_frozen BK136.out 1;have hfz10_2:=blk_frozen BK136.out 2))
 refine bodyPost_ret (results_cell_row rfl _ _ gb136 51 #[.int .i64 a0_0, .int .i64 a0_1, .int .i64 a0_2] (0,0) _ rfl (by (with_reducible repeat (first|refine qn ?_ _|refine qd ?_|refine qa ?_ _));refine blk_put (cs:=#[.int .i64 a0_0, .int .i64 a0_1, .int .i64 0]) ?_ 2 _ rfl;(with_reducible repeat (first|refine qn ?_ _|refine qd ?_|refine qa ?_ _));refine blk_put (cs:=#[.int .i64 a0_0, .int .i64 0, .int .i64 0]) ?_ 1 _ rfl;(with_reducible repeat (first|refine qn ?_ _|refine qd ?_|refine qa ?_ _));refine blk_put (cs:=#[.int .i64 0, .int .i64 0, .int .i64 0]) ?_ 0 _ rfl;(with_reducible repeat (first|refine qn ?_ _|refine qd ?_|refine qa ?_ _));refine blk_far ?_ NB136_137.out _;(with_reducible repeat (first|refine qn ?_ _|refine qd ?_|refine qa ?_ _));refine blk_far ?_ NB136_137.out _;(with_reducible repeat (first|refine qn ?_ _|refine qd ?_|refine qa ?_ _));refine blk_far ?_ NB136_137.out _;(with_reducible repeat (first|refine qn ?_ _|refine qd ?_|refine qa ?_ _));exact BK136.out) Try.underlying51 rfl d5) rfl ?_
 exact ⟨d2,by repeat (first|(with_reducible first|exact HB.out|apply pa|apply pb|apply pd|refine pt ?_ GE135.out|refine pt ?_ GE136.out|refine pt ?_ GE137.out)|exact HB.out)⟩

def laws_toShard.f (a0_0:Int) (a0_1:ByteArray):Option (Int × ByteArray):=some (a0_0,a0_1)
theorem laws_toShard.calls (a0_0:Int) (a0_1:ByteArray) (r1:Int) (r2:ByteArray) (w:World) (h:laws_toShard.f a0_0 a0_1=some (r1,r2)) :
  Calls Try.prog 74 #[.agg #[.int .i64 a0_0, .string a0_1]] w fun e w'=>e = .returned (.agg #[.int .i64 r1, .string r2])∧Below w.heap.size w w':=by
 have hu102:=Try.underlying102
 have hu48:=Try.underlying48
 have HB:=am (Below.refl w.heap.size w)
 have H:(some (a0_0,a0_1))=some (r1,r2):=h
 clear h
 simp only [Option.some.injEq,Prod.mk.injEq] at H
 obtain ⟨rfl,rfl⟩:=H
 go_enter Try.func74,Try.ntmps74
 go_wp2_with (first|((with_reducible refine gate_dst (N:=1) rfl ?_);refine box_event ?hg (N:=1) ?hd (cs:=#[.int .i64 a0_0, .string a0_1]) (t:=102) ?hr ?_;(case hd=>rfl);(case hg=>rfl);(case hr=>first|(go_simp;done)|(go_simp;rfl));intro gb138 hg w2 hbox hb;have n0_:=am (pu d0 hb);have n1_:=am (hbox);have n2_:=am ((by rw [hg];exact (pz d0):w.heap.size≤gb138));have n3_:=n2_;clear HB;have HB:=n0_;have BK138:=n1_;have GW138:=n2_;have GE138:=n3_;clear n0_ n1_ n2_ n3_;clear hb hbox hg)|((with_reducible refine gate_dst (N:=2) rfl ?_);refine box_event ?hg (N:=2) ?hd (cs:=#[.int .i64 0, .string (⟨#[]⟩:ByteArray)]) (t:=48) ?hr ?_;(case hd=>rfl);(case hg=>rfl);(case hr=>first|(go_simp;done)|(go_simp;rfl));intro gb139 hg w3 hbox hb;have n0_:=am (qb (g:=gb138) (o:=.cells #[.int .i64 a0_0, .string a0_1] 102 (0,0)) (by (with_reducible repeat (first|refine qn ?_ _|refine qd ?_|refine qa ?_ _));exact BK138.out) hb);have n1_:=am (pu (by repeat (first|(with_reducible first|exact HB.out|apply pa|apply pb|apply pd|refine pt ?_ GE138.out)|exact HB.out)) hb);have n2_:=am (hbox);have n3_:=am ((by rw [hg];exact (pz (by repeat (first|(with_reducible first|exact HB.out|apply pa|apply pb|apply pd|refine pt ?_ GE138.out)|exact HB.out))):w.heap.size≤gb139));have n4_:=n3_;have n5_:=am ((by rw [hg];exact Nat.ne_of_lt (blk_lt (g:=gb138) (o:=.cells #[.int .i64 a0_0, .string a0_1] 102 (0,0)) (by (with_reducible repeat (first|refine qn ?_ _|refine qd ?_|refine qa ?_ _));exact BK138.out)):gb138 ≠ gb139));have n6_:=am ((by rw [hg];exact Nat.ne_of_gt (blk_lt (g:=gb138) (o:=.cells #[.int .i64 a0_0, .string a0_1] 102 (0,0)) (by (with_reducible repeat (first|refine qn ?_ _|refine qd ?_|refine qa ?_ _));exact BK138.out)):gb139 ≠ gb138));clear BK138;clear HB;have BK138:=n0_;have HB:=n1_;have BK139:=n2_;have GW139:=n3_;have GE139:=n4_;have NB138_139:=n5_;have NB139_138:=n6_;clear n0_ n1_ n2_ n3_ n4_ n5_ n6_;clear hb hbox hg)|((with_reducible refine gate_dst (N:=3) rfl ?_);refine box_event ?hg (N:=3) ?hd (cs:=#[.int .i64 0, .string (⟨#[]⟩:ByteArray)]) (t:=48) ?hr ?_;(case hd=>rfl);(case hg=>rfl);(case hr=>first|(go_simp;done)|(go_simp;rfl));intro gb140 hg w4 hbox hb;have n0_:=am (qb (g:=gb138) (o:=.cells #[.int .i64 a0_0, .string a0_1] 102 (0,0)) (by (with_reducible repeat (first|refine qn ?_ _|refine qd ?_|refine qa ?_ _));exact BK138.out) hb);have n1_:=am (qb (g:=gb139) (o:=.cells #[.int .i64 0, .string (⟨#[]⟩:ByteArray)] 48 (0,0)) (by (with_reducible repeat (first|refine qn ?_ _|refine qd ?_|refine qa ?_ _));exact BK139.out) hb);have n2_:=am (pu (by repeat (first|(with_reducible first|exact HB.out|apply pa|apply pb|apply pd|refine pt ?_ GE138.out|refine pt ?_ GE139.out)|exact HB.out)) hb);have n3_:=am (hbox);have n4_:=am ((by rw [hg];exact (pz (by repeat (first|(with_reducible first|exact HB.out|apply pa|apply pb|apply pd|refine pt ?_ GE138.out|refine pt ?_ GE139.out)|exact HB.out))):w.heap.size≤gb140));have n5_:=n4_;have n6_:=am ((by rw [hg];exact Nat.ne_of_lt (blk_lt (g:=gb138) (o:=.cells #[.int .i64 a0_0, .string a0_1] 102 (0,0)) (by (with_reducible repeat (first|refine qn ?_ _|refine qd ?_|refine qa ?_ _));exact BK138.out)):gb138 ≠ gb140));have n7_:=am ((by rw [hg];exact Nat.ne_of_gt (blk_lt (g:=gb138) (o:=.cells #[.int .i64 a0_0, .string a0_1] 102 (0,0)) (by (with_reducible repeat (first|refine qn ?_ _|refine qd ?_|refine qa ?_ _));exact BK138.out)):gb140 ≠ gb138));have n8_:=am ((by rw [hg];exact Nat.ne_of_lt (blk_lt (g:=gb139) (o:=.cells #[.int .i64 0, .string (⟨#[]⟩:ByteArray)] 48 (0,0)) (by (with_reducible repeat (first|refine qn ?_ _|refine qd ?_|refine qa ?_ _));exact BK139.out)):gb139 ≠ gb140));have n9_:=am ((by rw [hg];exact Nat.ne_of_gt (blk_lt (g:=gb139) (o:=.cells #[.int .i64 0, .string (⟨#[]⟩:ByteArray)] 48 (0,0)) (by (with_reducible repeat (first|refine qn ?_ _|refine qd ?_|refine qa ?_ _));exact BK139.out)):gb140 ≠ gb139));clear BK138;clear BK139;clear HB;have BK138:=n0_;have BK139:=n1_;have HB:=n2_;have BK140:=n3_;have GW140:=n4_;have GE140:=n5_;have NB138_140:=n6_;have NB140_138:=n7_;have NB139_140:=n8_;have NB140_139:=n9_;clear n0_ n1_ n2_ n3_ n4_ n5_ n6_ n7_ n8_ n9_;clear hb hbox hg;have hnb5:=NB138_139.out;have hnc5:=NB139_138.out;have hnb6:=NB138_140.out;have hnc6:=NB140_138.out;have hcz7_0:w4.cell? ⟨gb138,0,none⟩=some (.int .i64 a0_0):=(blk_cell BK138.out 0).trans rfl;have hcz7_1:w4.cell? ⟨gb138,1,none⟩=some (.string a0_1):=(blk_cell BK138.out 1).trans rfl;have hfz7_0:=blk_frozen BK138.out 0;have hfz7_1:=blk_frozen BK138.out 1;have hnb8:=NB140_139.out;have hnc8:=NB139_140.out;have hcz9_0:w4.cell? ⟨gb140,0,none⟩=some (.int .i64 0):=(blk_cell BK140.out 0).trans rfl;have hcz9_1:w4.cell? ⟨gb140,1,none⟩=some (.string (⟨#[]⟩:ByteArray)):=(blk_cell BK140.out 1).trans rfl;have hfz9_0:=blk_frozen BK140.out 0;have hfz9_1:=blk_frozen BK140.out 1;have hcz10_0:w4.cell? ⟨gb139,0,none⟩=some (.int .i64 0):=(blk_cell BK139.out 0).trans rfl;have hcz10_1:w4.cell? ⟨gb139,1,none⟩=some (.string (⟨#[]⟩:ByteArray)):=(blk_cell BK139.out 1).trans rfl;have hfz10_0:=blk_frozen BK139.out 0;have hfz10_1:=blk_frozen BK139.out 1))
 refine bodyPost_ret (results_cell_row rfl _ _ gb139 48 #[.int .i64 a0_0, .string a0_1] (0,0) _ rfl (by (with_reducible repeat (first|refine qn ?_ _|refine qd ?_|refine qa ?_ _));refine blk_put (cs:=#[.int .i64 a0_0, .string (⟨#[]⟩:ByteArray)]) ?_ 1 _ rfl;(with_reducible repeat (first|refine qn ?_ _|refine qd ?_|refine qa ?_ _));refine blk_put (cs:=#[.int .i64 0, .string (⟨#[]⟩:ByteArray)]) ?_ 0 _ rfl;(with_reducible repeat (first|refine qn ?_ _|refine qd ?_|refine qa ?_ _));refine blk_far ?_ NB139_140.out _;(with_reducible repeat (first|refine qn ?_ _|refine qd ?_|refine qa ?_ _));refine blk_far ?_ NB139_140.out _;(with_reducible repeat (first|refine qn ?_ _|refine qd ?_|refine qa ?_ _));exact BK139.out) Try.underlying48 rfl d5) rfl ?_
 exact ⟨d2,by repeat (first|(with_reducible first|exact HB.out|apply pa|apply pb|apply pd|refine pt ?_ GE138.out|refine pt ?_ GE139.out|refine pt ?_ GE140.out)|exact HB.out)⟩

end Go.Proofs.Yteflgifmdojahaa.PFnExactMendLocal
-- HALVED
-- SQUEEZED
-- SQUEEZED2
-- SQUEEZED3
-- SQUEEZED4
-- SQUEEZED5
-- SQUEEZED6
