import Derived.Test.YteflgifmdojahaaVFnMsrB
import Derived.Test.YteflgifmdojahaaPFnMsrx0
import Derived.Test.YteflgifmdojahaaPFnMsrx2
import Derived.Test.YteflgifmdojahaaPFnMsrx3
namespace Go.Proofs.Yteflgifmdojahaa.PFnMsr
open Go.RowKit Go.Proofs.YteflgifmdojahaaW.PrintWords Go.Proofs.YteflgifmdojahaaW.PrintLast Go.Proofs.YteflgifmdojahaaW.PrintMore Go.Proofs.Yteflgifmdojahaa.KitS
attribute [local go_sem] max2_int min2_int max_two min_two max_three min_three max_four min_four
set_option linter.unusedVariables false
set_option maxHeartbeats 8000000
set_option maxRecDepth 100000
set_option linter.unusedSimpArgs false
section
section
def impl_Msr_isPiece.f (a0_0:Int) (a0_1:Int) (a1_0:Int) (l1_1:List Int):Option (Bool):=(impl_within.f a1_0 0 (wrap64 (a0_0 - 1))).bind fun t104=>(if t104=true then ((impl_Msr_alpha.f a0_0 a0_1).bind fun t105=>(some ((l1_1.length:Int) == t105))) else (some false))
def impl_Msr_isPiece.T1:Bool × List (List Nat × List Nat):=(true,[([],[]),([0],[0]),([],[]),([2],[2]),([3],[3]),([1,4],[1,4]),([5,5],[5]),([6],[6]),([7,6],[6,7]),([8,6],[6,8]),([6],[6]),([10,6,6],[6,10]),([9,11,6],[6,9,11]),([6,12],[6,12]),([13,11,0,1,2,3,4,5,6,7,8,9,10,11,12,13],[13])])
def impl_Msr_isPiece.B1:List Nat:=[0,1,0,4,12,31,63,127,255,511,127,1151,4095,8191,16383]
theorem impl_Msr_isPiece.tab1:rtab .any (opsOf Try.f107 1)=impl_Msr_isPiece.T1:=by kernel_rfl
theorem impl_Msr_isPiece.bits1:waitsOk impl_Msr_isPiece.T1.2 impl_Msr_isPiece.B1=true:=by kernel_rfl
theorem impl_Msr_isPiece.calls (a0_0:Int) (a0_1:Int) (a1_0:Int) (A1_1:Option Addr) (c1_1:Nat) (l1_1:List Int) (r:Bool) (w:World) (hr1_1:Kd.C (Kd.int .u8) w A1_1 l1_1.length l1_1) (hc1_1:l1_1.length≤c1_1) (h:impl_Msr_isPiece.f a0_0 a0_1 a1_0 l1_1=some r) :
  Calls Try.prog 107 #[.agg #[.int .i64 a0_0, .int .i64 a0_1], .agg #[.int .i64 a1_0, .slice A1_1 l1_1.length c1_1]] w fun e w'=>e = .returned (.bool r)∧Below w.heap.size w w':=by
 have hu30:=Try.underlying30
 have hu76:=Try.underlying76
 have HR1_1:=am hr1_1
 have HC1_1:=am hc1_1
 clear hr1_1 hc1_1
 have HB:=am (Below.refl w.heap.size w)
 have H:=h
 unfold impl_Msr_isPiece.f at H
 clear h
 obtain ⟨t104,A3,H⟩:=yo H
 by_cases c4:t104=true
 ·subst c4
  replace H:=yt H
  obtain ⟨t105,A5,H⟩:=yo H
  obtain rfl:=Option.some.inj H
  go_enter Try.func107,Try.ntmps107
  try go_wp2_with (first|((with_reducible refine gD 2 ?_);(try (refine gate_guard D15 ?_;dsimp only));refine gB (cs:=#[.int .i64 a0_0, .int .i64 a0_1]) 30 ?_;intro gb102 hg w6 hbox hb;have BK102:=am (hbox);have GW102:=ye HB hg;replace HB:=yH HB hb;have GE102:=GW102;clear hb hbox hg)|((with_reducible refine gD 3 ?_);(try (refine gate_guard D15 ?_;dsimp only));refine gB (cs:=#[.int .i64 a1_0, .slice A1_1 l1_1.length c1_1]) 76 ?_;intro gb103 hg w7 hbox hb;have BK103:=am (hbox);have GW103:=ye HB hg;replace HB:=yH HB hb;have NB102_103:=yl BK102 hg;have NB103_102:=yg BK102 hg;replace BK102:=yb BK102 hb;have GE103:=GW103;clear hb hbox hg))
  replace BK102:=am (qd BK102.out)
  replace BK103:=am (qd BK103.out)
  replace HB:=am (pd HB.out)
  refine rS (n:=15) (S:=fun w'=>w'.cell? ⟨gb103,0,none⟩=some (.int .i64 a1_0)∧w'.cell? ⟨gb103,1,none⟩=some (.slice A1_1 l1_1.length c1_1)∧w'.cell? ⟨gb102,0,none⟩=some (.int .i64 a0_0)∧w'.cell? ⟨gb102,1,none⟩=some (.int .i64 a0_1)) (ds:=[]) [(0,5),(2,7),(1,6),(3,8),(4,9),(5,0),(6,11),(7,12),(8,13),(9,14),(10,15),(11,0),(12,17),(13,18),(14,4)] D5 rfl impl_Msr_isPiece.tab1 impl_Msr_isPiece.bits1 ⟨yk BK103 0,yk BK103 1,yk BK102 0,yk BK102 1⟩ (fun hHeld HT_ HW_=>?_)
  generalize w7.drew=w8 at BK102 BK103 HB hHeld ⊢
  refine rR ?_
  refine rO (N:=some 10) HT_ rfl rfl D5 D8 (fun K hK=>?_)
  refine goes_ Try.func104 D5 rfl #[.int .i64 a1_0, .int .i64 0, .int .i64 (wrap64 (a0_0 - 1))] D15 rfl rfl D10 ?_
  with_reducible refine (impl_within.calls a1_0 0 (wrap64 (a0_0 - 1)) true _ A3.out).mono ?_
  rintro e w' ⟨rfl,⟨nd,rfl⟩⟩
  refine ⟨_,rfl,?_⟩
  refine hK.out _ _ ⟨yk BK103 0,yk BK103 1,yk BK102 0,yk BK102 1⟩ (fun hHeld=>?_)
  clear hK K
  refine rN (nA 10) ?_
  refine rR ?_
  refine rO (N:=some 16) HT_ rfl rfl D5 D8 (fun K hK=>?_)
  refine goes_ Try.func103 D5 rfl #[.agg #[.int .i64 a0_0, .int .i64 a0_1]] D15 rfl rfl D10 ?_
  with_reducible refine (impl_Msr_alpha.calls a0_0 a0_1 t105 _ A5.out).mono ?_
  rintro e w9 ⟨rfl,hb⟩
  refine ⟨_,rfl,?_⟩
  replace BK102:=yb BK102 hb
  replace BK103:=yb BK103 hb
  replace HB:=yH HB hb
  (try clear hb)
  (try clear hb2)
  (try clear hk)
  (try clear hi)
  refine hK.out _ _ ⟨yk BK103 0,yk BK103 1,yk BK102 0,yk BK102 1⟩ (fun hHeld=>?_)
  clear hK K
  refine rN (nA 16) ?_
  refine rR ?_
  refine rD HT_ D5 ?_
  try go_wp2
  go_ret
  exact ⟨D2,yW HB⟩
 replace c4:=Bool.eq_false_iff.mpr c4
 subst c4
 replace H:=yn H
 obtain rfl:=Option.some.inj H
 go_enter Try.func107,Try.ntmps107
 try go_wp2_with (first|((with_reducible refine gD 2 ?_);(try (refine gate_guard D15 ?_;dsimp only));refine gB (cs:=#[.int .i64 a0_0, .int .i64 a0_1]) 30 ?_;intro gb102 hg w10 hbox hb;have BK102:=am (hbox);have GW102:=ye HB hg;replace HB:=yH HB hb;have GE102:=GW102;clear hb hbox hg)|((with_reducible refine gD 3 ?_);(try (refine gate_guard D15 ?_;dsimp only));refine gB (cs:=#[.int .i64 a1_0, .slice A1_1 l1_1.length c1_1]) 76 ?_;intro gb103 hg w11 hbox hb;have BK103:=am (hbox);have GW103:=ye HB hg;replace HB:=yH HB hb;have NB102_103:=yl BK102 hg;have NB103_102:=yg BK102 hg;replace BK102:=yb BK102 hb;have GE103:=GW103;clear hb hbox hg))
 replace BK102:=am (qd BK102.out)
 replace BK103:=am (qd BK103.out)
 replace HB:=am (pd HB.out)
 refine rS (n:=15) (S:=fun w'=>w'.cell? ⟨gb103,0,none⟩=some (.int .i64 a1_0)∧w'.cell? ⟨gb103,1,none⟩=some (.slice A1_1 l1_1.length c1_1)∧w'.cell? ⟨gb102,0,none⟩=some (.int .i64 a0_0)∧w'.cell? ⟨gb102,1,none⟩=some (.int .i64 a0_1)) (ds:=[]) [(0,5),(2,7),(1,6),(3,8),(4,9),(5,0),(6,11),(7,12),(8,13),(9,14),(10,15),(11,16),(12,17),(13,18),(14,4)] D5 rfl impl_Msr_isPiece.tab1 impl_Msr_isPiece.bits1 ⟨yk BK103 0,yk BK103 1,yk BK102 0,yk BK102 1⟩ (fun hHeld HT_ HW_=>?_)
 generalize w11.drew=w12 at BK102 BK103 HB hHeld ⊢
 refine rR ?_
 refine rO (N:=some 10) HT_ rfl rfl D5 D8 (fun K hK=>?_)
 refine goes_ Try.func104 D5 rfl #[.int .i64 a1_0, .int .i64 0, .int .i64 (wrap64 (a0_0 - 1))] D15 rfl rfl D10 ?_
 with_reducible refine (impl_within.calls a1_0 0 (wrap64 (a0_0 - 1)) false _ A3.out).mono ?_
 rintro e w' ⟨rfl,⟨nd,rfl⟩⟩
 refine ⟨_,rfl,?_⟩
 refine hK.out _ _ ⟨yk BK103 0,yk BK103 1,yk BK102 0,yk BK102 1⟩ (fun hHeld=>?_)
 clear hK K
 refine rN (nA 10) ?_
 refine rR ?_
 refine rD HT_ D5 ?_
 try go_wp2
 go_ret
 exact ⟨D2,yW HB⟩
open Go.Proofs.Yteflgifmdojahaa.KitW Go.Proofs.Yteflgifmdojahaa.KitR
set_option maxHeartbeats 4000000 in
theorem dec_IndexFunc (g:Nat) (eg:∀ args w,(callFunc g args).run Try.prog w = .ok (.enter g args) w) (fv:Value) (p:Nat→Bool) (ad:Addr) (n c:Nat) (no:Nat→Int) (sA:Nat→Option Addr) (sn sc:Nat→Nat) (w:World) (hbig:n≤4611686018427387903)
  (hc:∀ i,i < n→w.cell? (ad.add (i*2))=some (.int .i64 (no i))∧w.cell? ⟨(ad.add (i*2)).block,(ad.add (i*2)).off+1,none⟩=some (.slice (sA i) (sn i) (sc i)))
  (hp:∀ i,i < n→∀ W,Below w.heap.size w W→Calls Try.prog g #[.agg #[.int .i64 (no i), .slice (sA i) (sn i) (sc i)],fv] W fun e w'=>e = .returned (.bool (p i))∧Below W.heap.size W w') :
  Calls Try.prog 147 #[.slice (some ad) n c, .func (.func g) #[] #[fv]] w fun e w'=>(∃ r,e = .returned (.int .i64 r)∧IdxOf p n r)∧Below w.heap.size w w':=by
 have HP:=am hp
 have HC:=am hc
 clear hp hc
 go_enter Try.func147,Try.ntmps147
 go_wp2
 go_loopg [5,8] n (fun gg _ s8 wr=>∃ kk:Nat,kk≤n∧n - kk≤gg∧s8 = .int .i64 kk∧Aside0 (Below w.heap.size w wr)∧Aside0 (∀ j,j < kk→p j=false))
 case atStart=>exact ⟨0,Nat.zero_le _,D11,rfl,⟨Below.refl _ _⟩,⟨fun j hj=>absurd hj (Nat.not_lt_zero _)⟩⟩
 case round =>
  obtain ⟨kk,hkk,hg,rfl,HD,HA⟩:=hrel
  by_cases hlt:kk < n
  ·have hltz:(kk:Int) < (n:Int):=by omega
   have hc0:=(HC.out kk hlt).1
   have hc1:=(HC.out kk hlt).2
   replace hc0:=(HD.out.cell (World.block_lt_of_cell? w _ hc0)).trans hc0
   replace hc1:=(HD.out.cell (World.block_lt_of_cell? w _ hc1)).trans hc1
   have hcall:=HP.out kk hlt
   cases hq:p kk with
   | true =>
    rw [hq] at hcall
    have HQ:=am hq
    clear hq
    have HX:=am hcall
    clear hcall
    go_wp2_with (go_at_fn g;refine (HX.out _ ?dr).mono ?_;(case dr=>exact HD.out);rintro e w' ⟨rfl,hd⟩)
    go_ret
    exact ⟨⟨_,rfl, .inr ⟨kk,hlt,rfl,HQ.out,HA.out⟩⟩,pu HD.out hd⟩
   | false =>
    rw [hq] at hcall
    have HQ:=am hq
    clear hq
    have HX:=am hcall
    clear hcall
    go_wp2_with (go_at_fn g;refine (HX.out _ ?dr).mono ?_;(case dr=>exact HD.out);rintro e w' ⟨rfl,hd⟩)
    go_roundg (n - (kk+1))
    case measure=>omega
    case rel=>exact ⟨kk+1,D11,D11,by go_num,⟨pu HD.out hd⟩,⟨fun j hj=>by by_cases e:j=kk;exact e ▸ HQ.out;exact HA.out j D11⟩⟩
  have hltz:¬ (kk:Int) < (n:Int):=by omega
  have:kk=n:=by omega
  subst this
  go_wp2
  go_ret
  exact ⟨⟨_,rfl, .inl ⟨rfl,HA.out⟩⟩,HD.out⟩
set_option maxHeartbeats 4000000 in
theorem dec_ContainsFunc (g:Nat) (eg:∀ args w,(callFunc g args).run Try.prog w = .ok (.enter g args) w) (fv:Value) (p:Nat→Bool) (ad:Addr) (n c:Nat) (no:Nat→Int) (sA:Nat→Option Addr) (sn sc:Nat→Nat) (w:World) (hbig:n≤4611686018427387903)
  (hc:∀ i,i < n→w.cell? (ad.add (i*2))=some (.int .i64 (no i))∧w.cell? ⟨(ad.add (i*2)).block,(ad.add (i*2)).off+1,none⟩=some (.slice (sA i) (sn i) (sc i)))
  (hp:∀ i,i < n→∀ W,Below w.heap.size w W→Calls Try.prog g #[.agg #[.int .i64 (no i), .slice (sA i) (sn i) (sc i)],fv] W fun e w'=>e = .returned (.bool (p i))∧Below W.heap.size W w') :
  Calls Try.prog 105 #[.slice (some ad) n c, .func (.func g) #[] #[fv]] w fun e w'=>e = .returned (.bool ((List.range n).any p))∧Below w.heap.size w w':=by
 have HX:=am (dec_IndexFunc g eg fv p ad n c no sA sn sc w hbig hc hp)
 clear hp hc
 go_enter Try.func105,Try.ntmps105
 go_wp2_with (go_at_call 147;refine HX.out.mono ?_;rintro e w' ⟨⟨r,rfl,hr⟩,hd⟩)
 go_ret
 refine ⟨?_,hd⟩
 rw [← idxOf_nonneg hr]
 first|rfl|(simp;done)
/-- No shard at all: nothing is looked at. -/
theorem dec_none (A:Option Addr) (c:Nat) (fv:Value) (w:World) :
  Calls Try.prog 105 #[.slice A 0 c,fv] w fun e w'=>e = .returned (.bool false)∧w=w':=by
 have HX:∀ w:World,Calls Try.prog 147 #[.slice A 0 c,fv] w fun e w'=>e = .returned (.int .i64 (-1))∧w=w':=by
  intro w
  go_enter Try.func147,Try.ntmps147
  go_wp2
  go_loopg [5,8] 0 (fun gg _ s8 wr=>s8 = .int .i64 0∧w=wr)
  case atStart=>exact ⟨rfl,rfl⟩
  case round =>
   obtain ⟨rfl,rfl⟩:=hrel
   go_wp2
   go_ret
   exact ⟨rfl,rfl⟩
 go_enter Try.func105,Try.ntmps105
 go_wp2_with (go_at_call 147;refine (HX _).mono ?_;rintro e w' ⟨rfl,rfl⟩)
 go_ret
 exact ⟨rfl,rfl⟩
/-- The test of one piece. -/
theorem dec_test (gb:Nat) (n k no:Int) (A:Option Addr) (c:Nat) (l:List Int) (r:Bool) (W:World) (hbox:W.cell? ⟨gb,0,none⟩=some (.int .i64 n)∧W.cell? ⟨gb,1,none⟩=some (.int .i64 k))
  (hr:Kd.C (Kd.int .u8) W A l.length l) (hc:l.length≤c) (h:impl_Msr_isPiece.f n k no l=some r) :
  Calls Try.prog 106 #[.agg #[.int .i64 no, .slice A l.length c], .pointer (some ⟨gb,0,none⟩)] W fun e w'=>e = .returned (.bool (!r))∧Below W.heap.size W w':=by
 have hu:=Try.underlying30
 have hu2:=Try.underlying76
 have hB:=pa (Below.refl W.heap.size W) (Obj.cells #[.int .i64 no, .slice A l.length c] 76 (0,0))
 have k0:(W.alloc (Obj.cells #[.int .i64 no, .slice A l.length c] 76 (0,0))).cell? ⟨W.heap.size,0,none⟩=some (.int .i64 no):=(blk_cell (heap_alloc_new W _) 0).trans rfl
 have k1:(W.alloc (Obj.cells #[.int .i64 no, .slice A l.length c] 76 (0,0))).cell? ⟨W.heap.size,1,none⟩=some (.slice A l.length c):=(blk_cell (heap_alloc_new W _) 1).trans rfl
 have k2:=(hB.cell (World.block_lt_of_cell? W _ hbox.1)).trans hbox.1
 have k3:=(hB.cell (World.block_lt_of_cell? W _ hbox.2)).trans hbox.2
 have HX:=am (impl_Msr_isPiece.calls n k no A c l r _ (Kd.C_alloc hr (Obj.cells #[.int .i64 no, .slice A l.length c] 76 (0,0))) hc h)
 have HBB:=am hB
 clear hbox hr hc h hB
 go_enter Try.func106,Try.ntmps106
 go_wp2_with (go_at_call 107;refine HX.out.mono ?_;rintro e w1 ⟨rfl,hb⟩)
 go_ret
 exact ⟨by first|rfl|(simp;done),pu HBB.out hb⟩
def dec_Piece.f (l0:List (S76)) (n k:Int):Option Bool:=if l0.length≤1048576∧∀ p ∈ l0,(impl_Msr_isPiece.f n k p.f0 p.f1).isSome=true then some ((List.range l0.length).any fun i=>!((impl_Msr_isPiece.f n k (l0.getD i z76).f0 (l0.getD i z76).f1).getD true)) else none
theorem dec_Piece.calls (A0:Option Addr) (c0:Nat) (l0:List (S76)) (n k:Int) (r:Bool) (w:World) (gb:Nat) (hr0:Kd.C k76 w A0 l0.length l0) (hc0:l0.length≤c0) (hbox:w.cell? ⟨gb,0,none⟩=some (.int .i64 n)∧w.cell? ⟨gb,1,none⟩=some (.int .i64 k)) (h:dec_Piece.f l0 n k=some r) :
  Calls Try.prog 105 #[.slice A0 l0.length c0, .func (.func 106) #[] #[.pointer (some ⟨gb,0,none⟩)]] w fun e w'=>e = .returned (.bool r)∧Below w.heap.size w w':=by
 unfold dec_Piece.f at h
 by_cases hs:l0.length≤1048576∧∀ p ∈ l0,(impl_Msr_isPiece.f n k p.f0 p.f1).isSome=true
 case neg=>rw [if_neg hs] at h;cases h
 rw [if_pos hs] at h
 obtain rfl:=Option.some.inj h
 clear h
 by_cases hp:0 < l0.length
 ·have hrows:∀ i:Nat,i < l0.length→∃ A c,(∀ ad,A0=some ad→w.cell? (ad.add (i*2))=some (.int .i64 (l0.getD i z76).f0)∧w.cell? ⟨(ad.add (i*2)).block,(ad.add (i*2)).off+1,none⟩=some (.slice A (l0.getD i z76).f1.length c))∧(l0.getD i z76).f1.length≤c∧Kd.C (Kd.int .u8) w A (l0.getD i z76).f1.length (l0.getD i z76).f1:=fun i hi=>by
   obtain ⟨ad',A,c,e,h1,h2,h3,h4⟩:=at_T76 hr0 (i:Int) D11 D11
   rw [Int.toNat_natCast] at h1 h2
   exact ⟨A,c,fun ad e2=>by rw [e] at e2;injection e2 with e2;subst e2;exact ⟨h1,h2⟩,h3,h4⟩
  obtain ⟨ad,_,_,rfl,_⟩:=at_T76 hr0 0 D11 D11
  let sA:Nat→Option Addr:=fun i=>if h:i < l0.length then (hrows i h).choose else none
  let sc:Nat→Nat:=fun i=>if h:i < l0.length then (hrows i h).choose_spec.choose else 0
  have hsp:∀ i,i < l0.length→(w.cell? (ad.add (i*2))=some (.int .i64 (l0.getD i z76).f0)∧w.cell? ⟨(ad.add (i*2)).block,(ad.add (i*2)).off+1,none⟩=some (.slice (sA i) (l0.getD i z76).f1.length (sc i)))∧(l0.getD i z76).f1.length≤sc i∧Kd.C (Kd.int .u8) w (sA i) (l0.getD i z76).f1.length (l0.getD i z76).f1:=fun i hi=>by
   have h:=(hrows i hi).choose_spec.choose_spec
   simp only [sA,sc,dif_pos hi]
   exact ⟨h.1 ad rfl,h.2⟩
  clear_value sA sc
  refine (dec_ContainsFunc 106 (enters_of Try.func106 rfl rfl) (.pointer (some ⟨gb,0,none⟩)) (fun i=>!((impl_Msr_isPiece.f n k (l0.getD i z76).f0 (l0.getD i z76).f1).getD true)) ad l0.length c0 (fun i=>(l0.getD i z76).f0) sA (fun i=>(l0.getD i z76).f1.length) sc w D11
   (fun i hi=>(hsp i hi).1)
   (fun i hi W1 hb1=>by
    have hm:l0.getD i z76 ∈ l0:=by rw [List.getD_eq_getElem?_getD,List.getElem?_eq_getElem hi];exact List.getElem_mem hi
    have hsome:=hs.2 _ hm
    obtain ⟨b,hb⟩:=Option.isSome_iff_exists.1 hsome
    simp only [hb,Option.getD_some]
    exact dec_test gb n k _ _ _ _ b W1 ⟨(hb1.cell (World.block_lt_of_cell? w _ hbox.1)).trans hbox.1,(hb1.cell (World.block_lt_of_cell? w _ hbox.2)).trans hbox.2⟩ (Kd.C_below (hsp i hi).2.2 hb1) (hsp i hi).2.1 hb))
 have e0:l0=[]:=List.eq_nil_of_length_eq_zero D11
 subst e0
 refine (dec_none A0 c0 _ w).mono ?_
 rintro e w' ⟨rfl,rfl⟩
 exact ⟨rfl,Below.refl _ _⟩
mutual
def impl_DecodeMsr.j0:Nat→List (S76)→Bool→Int→Int→Option (List Int × Bool)
 | 0,_,_,_,_=>none
 | k+1,x1,x32,x373000,x373001=>if x32=true then (some (([]:List Int),false)) else (impl_DecodeMsr.l0 k x1 1 x373000 x373001)
def impl_DecodeMsr.l0:Nat→List (S76)→Int→Int→Int→Option (List Int × Bool)
 | 0,_,_,_,_=>none
 | k+1,x1,x6,x373000,x373001=>if x6 < (x1.length:Int) then (if 0≤x6 then (if 0≤(wrap64 (x6 - 1)) then (if (wrap64 (x6 - 1)) < (x1.length:Int) then (if ((rd_T76 x1 x6).f0)≤((rd_T76 x1 (wrap64 (x6 - 1))).f0) then (some (([]:List Int),false)) else (impl_DecodeMsr.l0 k x1 (wrap64 (x6+1)) x373000 x373001)) else (none)) else (none)) else (none)) else ((impl_Msr_places.f k x373000 x373001).bind fun t377=>(if 0≤x373001 then (if x373001≤(x1.length:Int) then ((some (x1.take (x373001:Int).toNat:List (S76))).bind fun y386=>(impl_DecodeMsr.l1 k t377 (([]:List (List Int))) (([]:List Int)) y386 (y386.length:Int) 0 x373000 x373001)) else (none)) else (none)))
def impl_DecodeMsr.l1:Nat→List (List Int)→List (List Int)→List Int→List (S76)→Int→Int→Int→Int→Option (List Int × Bool)
 | 0,_,_,_,_,_,_,_,_=>none
 | k+1,x7,x8,x9,x58,x59,x60,x373000,x373001=>if x60 < x59 then (if 0≤x60 then (if x60 < (x58.length:Int) then ((impl_Msr_row.f k x373000 x373001 ((rd_T76 x58 x60).f0)).bind fun t396=>(impl_DecodeMsr.l2 k x7 x8 x9 t396 x58 x59 x60 ((rd_T76 x58 x60).f1) (((rd_T76 x58 x60).f1).length:Int) 0 x373000 x373001)) else (none)) else (none)) else ((impl_solve.f k x8 x9).bind fun bt390=>(some (bt390.1,bt390.2)))
def impl_DecodeMsr.l2:Nat→List (List Int)→List (List Int)→List Int→List Int→List (S76)→Int→Int→List Int→Int→Int→Int→Int→Option (List Int × Bool)
 | 0,_,_,_,_,_,_,_,_,_,_,_,_=>none
 | k+1,x7,x8,x9,x12,x58,x59,x60,x69,x70,x71,x373000,x373001=>if x71 < x70 then (if 0≤x71 then (if x71 < (x69.length:Int) then ((impl_Msr_size.f x373000 x373001).bind fun t400=>(if 0≤t400 then (if (t400:Int).toNat≤281474976710656 then (impl_DecodeMsr.l3 k x7 x8 x9 x12 x71 (rd x69 x71) (List.replicate (t400:Int).toNat 0) x58 x59 x60 x69 x70 x71 x12 (x12.length:Int) 0 x373000 x373001) else (none)) else (none))) else (none)) else (none)) else (impl_DecodeMsr.l1 k x7 x8 x9 x58 x59 (wrap64 (x60+1)) x373000 x373001)
def impl_DecodeMsr.l3:Nat→List (List Int)→List (List Int)→List Int→List Int→Int→Int→List Int→List (S76)→Int→Int→List Int→Int→Int→List Int→Int→Int→Int→Int→Option (List Int × Bool)
 | 0,_,_,_,_,_,_,_,_,_,_,_,_,_,_,_,_,_,_=>none
 | k+1,x7,x8,x9,x12,x13,x14,x15,x58,x59,x60,x69,x70,x71,x79,x80,x81,x373000,x373001=>if x81 < x80 then (if 0≤x81 then (if x81 < (x79.length:Int) then (if x81 < (x7.length:Int) then (if 0≤x13 then (if x13 < ((rd_L1 x7 x81).length:Int) then (if 0≤(rd (rd_L1 x7 x81) x13) then (if (rd (rd_L1 x7 x81) x13) < (x15.length:Int) then (impl_DecodeMsr.l3 k x7 x8 x9 x12 x13 x14 (x15.set ((rd (rd_L1 x7 x81) x13):Int).toNat (Go.bits .xor .u8 (rd x15 (rd (rd_L1 x7 x81) x13)) (rd x79 x81))) x58 x59 x60 x69 x70 x71 x79 x80 (wrap64 (x81+1)) x373000 x373001) else (none)) else (none)) else (none)) else (none)) else (none)) else (none)) else (none)) else (if x8.length < 5864062014805 then (if x9.length < 140737488355328 then (impl_DecodeMsr.l2 k x7 (x8 ++ [x15]) (x9 ++ [x14]) x12 x58 x59 x60 x69 x70 (wrap64 (x71+1)) x373000 x373001) else (none)) else (none))
end
def impl_DecodeMsr.f (k:Nat) (a0_0:Int) (a0_1:Int) (l1:List (S76)):Option (List Int × Bool):=(impl_GoodMsr.f a0_0 a0_1).bind fun t373=>(if t373=true then (if (l1.length:Int) < a0_1 then (impl_DecodeMsr.j0 k l1 true a0_0 a0_1) else ((dec_Piece.f l1 a0_0 a0_1).bind fun t374=>(impl_DecodeMsr.j0 k l1 t374 a0_0 a0_1))) else (impl_DecodeMsr.j0 k l1 true a0_0 a0_1))
theorem impl_DecodeMsr.mono_l:∀ k,(∀ y0 y1 y2 y3,LeO (impl_DecodeMsr.j0 k y0 y1 y2 y3) (impl_DecodeMsr.j0 (k+1) y0 y1 y2 y3))∧(∀ y0 y1 y2 y3,LeO (impl_DecodeMsr.l0 k y0 y1 y2 y3) (impl_DecodeMsr.l0 (k+1) y0 y1 y2 y3))∧(∀ y0 y1 y2 y3 y4 y5 y6 y7,LeO (impl_DecodeMsr.l1 k y0 y1 y2 y3 y4 y5 y6 y7) (impl_DecodeMsr.l1 (k+1) y0 y1 y2 y3 y4 y5 y6 y7))∧(∀ y0 y1 y2 y3 y4 y5 y6 y7 y8 y9 y10 y11,LeO (impl_DecodeMsr.l2 k y0 y1 y2 y3 y4 y5 y6 y7 y8 y9 y10 y11) (impl_DecodeMsr.l2 (k+1) y0 y1 y2 y3 y4 y5 y6 y7 y8 y9 y10 y11))∧(∀ y0 y1 y2 y3 y4 y5 y6 y7 y8 y9 y10 y11 y12 y13 y14 y15 y16 y17,LeO (impl_DecodeMsr.l3 k y0 y1 y2 y3 y4 y5 y6 y7 y8 y9 y10 y11 y12 y13 y14 y15 y16 y17) (impl_DecodeMsr.l3 (k+1) y0 y1 y2 y3 y4 y5 y6 y7 y8 y9 y10 y11 y12 y13 y14 y15 y16 y17))
 | 0=>⟨fun _ _ _ _ r h=>by simp [impl_DecodeMsr.j0] at h,fun _ _ _ _ r h=>by simp [impl_DecodeMsr.l0] at h,fun _ _ _ _ _ _ _ _ r h=>by simp [impl_DecodeMsr.l1] at h,fun _ _ _ _ _ _ _ _ _ _ _ _ r h=>by simp [impl_DecodeMsr.l2] at h,fun _ _ _ _ _ _ _ _ _ _ _ _ _ _ _ _ _ _ r h=>by simp [impl_DecodeMsr.l3] at h⟩
 | k+1=>by
  obtain ⟨ih0,ih1,ih2,ih3,ih4⟩:=impl_DecodeMsr.mono_l k
  refine ⟨?_,?_,?_,?_,?_⟩
  ·intro y0 y1 y2 y3
   unfold impl_DecodeMsr.j0
   exact mm
  ·intro y0 y1 y2 y3
   unfold impl_DecodeMsr.l0
   exact mm
  ·intro y0 y1 y2 y3 y4 y5 y6 y7
   unfold impl_DecodeMsr.l1
   exact mm
  ·intro y0 y1 y2 y3 y4 y5 y6 y7 y8 y9 y10 y11
   unfold impl_DecodeMsr.l2
   exact mm
  intro y0 y1 y2 y3 y4 y5 y6 y7 y8 y9 y10 y11 y12 y13 y14 y15 y16 y17
  unfold impl_DecodeMsr.l3
  exact mm
theorem impl_DecodeMsr.mono:∀ a0 a1 a2 k,LeO (impl_DecodeMsr.f k a0 a1 a2) (impl_DecodeMsr.f (k+1) a0 a1 a2):=by
 intro a0 a1 a2 k
 obtain ⟨ih0,ih1,ih2,ih3,ih4⟩:=impl_DecodeMsr.mono_l k
 unfold impl_DecodeMsr.f
 exact mm
theorem impl_DecodeMsr.calls (k:Nat) (a0_0:Int) (a0_1:Int) (A1:Option Addr) (c1:Nat) (l1:List (S76)) (r1:List Int) (r2:Bool) (w:World) (hr1:Kd.C k76 w A1 l1.length l1) (hc1:l1.length≤c1) (h:impl_DecodeMsr.f k a0_0 a0_1 l1=some (r1,r2)) :
  Calls Try.prog 48 #[.agg #[.int .i64 a0_0, .int .i64 a0_1], .slice A1 l1.length c1] w fun e w'=>∃ v0_:Value,e = .returned (.tuple #[v0_, .bool r2])∧Kd.R (Kd.int .u8) 5 w' w.heap.size (fun _=>True) v0_ r1∧Below w.heap.size w w':=by
 have hu30:=Try.underlying30
 have hu76:=Try.underlying76
 have HR1:=am hr1
 have HC1:=am hc1
 clear hr1 hc1
 have HB:=am (Below.refl w.heap.size w)
 have H:=h
 unfold impl_DecodeMsr.f at H
 clear h
 have HC3:=am H
 clear H
 go_enter Try.func48,Try.ntmps48
 go_upto_region 1 with (first|((with_reducible refine gD 2 ?_);(try (refine gate_guard D15 ?_;dsimp only));refine gB (cs:=#[.int .i64 a0_0, .int .i64 a0_1]) 30 ?_;intro gb372 hg w4 hbox hb;have BK372:=am (hbox);have GW372:=ye HB hg;replace HB:=yH HB hb;have GE372:=GW372;clear hb hbox hg))
 repeat (go_quiet (first|((with_reducible refine gate_dst (N:=2) rfl ?_);(try (refine gate_guard D15 ?_;dsimp only));refine box_event ?hg (N:=2) ?hd (cs:=#[.int .i64 a0_0, .int .i64 a0_1]) (t:=30) ?hr ?_;(case hd=>rfl);(case hg=>rfl);(case hr=>first|(go_simp;done)|(go_simp;rfl));intro gb372 hg w4 hbox hb;have n0_:=yH HB hb;have n1_:=am (hbox);have n2_:=ye HB hg;have n3_:=ye HB hg;clear HB;have HB:=n0_;have BK372:=n1_;have GW372:=n2_;have GE372:=n3_;clear n0_ n1_ n2_ n3_;clear hb hbox hg));go_upto_region 1 with (first|((with_reducible refine gate_dst (N:=2) rfl ?_);(try (refine gate_guard D15 ?_;dsimp only));refine box_event ?hg (N:=2) ?hd (cs:=#[.int .i64 a0_0, .int .i64 a0_1]) (t:=30) ?hr ?_;(case hd=>rfl);(case hg=>rfl);(case hr=>first|(go_simp;done)|(go_simp;rfl));intro gb372 hg w4 hbox hb;have n0_:=yH HB hb;have n1_:=am (hbox);have n2_:=ye HB hg;have n3_:=ye HB hg;clear HB;have HB:=n0_;have BK372:=n1_;have GW372:=n2_;have GE372:=n3_;clear n0_ n1_ n2_ n3_;clear hb hbox hg)))
 (try simp only [Act.put,q1,q2,q3])
 go_cut [32] (fun v32 wc=>∃ (kq:Nat) (x32_2:Bool),v32 = .bool x32_2∧Aside0 (impl_DecodeMsr.j0 kq l1 x32_2 a0_0 a0_1=some (r1,r2))∧Aside0 (kq≤k)∧Aside0 (wc.heap[gb372]? = some (.cells #[.int .i64 a0_0, .int .i64 a0_1] 30 (0,0)))∧Aside0 (Below w.heap.size w wc))
 case first =>
  have H:=HC3.out
  clear HC3
  obtain ⟨t373,A5,H⟩:=yo H
  by_cases c6:t373=true
  ·subst c6
   replace H:=yt H
   by_cases c7:(l1.length:Int) < a0_1
   ·rw [if_pos c7] at H
    have c7b0:=decide_eq_true c7
    clear c7
    (first|rw [c7b0]|(simp only [i64_w,i32_w];rw [c7b0])|skip)
    have H':=am H
    clear H
    obtain ⟨hcz8_0,hcz8_1,hfz8_0,hfz8_1⟩:=yk2 BK372
    go_wp2_with (first|(go_at_call 46;(with_reducible refine (impl_GoodMsr.calls a0_0 a0_1 true _ A5.out).mono ?_);rintro e w9 ⟨rfl,hb⟩;replace BK372:=yb BK372 hb;replace HB:=yH HB hb;clear hb;obtain ⟨hcz10_0,hcz10_1,hfz10_0,hfz10_1⟩:=yk2 BK372))
    repeat (go_quiet (first|(go_at_call 46;(with_reducible refine (impl_GoodMsr.calls a0_0 a0_1 true _ A5.out).mono ?_);rintro e w9 ⟨rfl,hb⟩;have n0_:=yb BK372 hb;have n1_:=yH HB hb;clear BK372;clear HB;have BK372:=n0_;have HB:=n1_;clear n0_ n1_;(try clear hb);(try clear hb2);(try clear hk);(try clear hi);have hcz10_0:=yk BK372 0;have hcz10_1:=yk BK372 1;have hfz10_0:=blk_frozen BK372.out 0;have hfz10_1:=blk_frozen BK372.out 1));try go_wp2_with (first|(go_at_call 46;(with_reducible refine (impl_GoodMsr.calls a0_0 a0_1 true _ A5.out).mono ?_);rintro e w9 ⟨rfl,hb⟩;have n0_:=yb BK372 hb;have n1_:=yH HB hb;clear BK372;clear HB;have BK372:=n0_;have HB:=n1_;clear n0_ n1_;(try clear hb);(try clear hb2);(try clear hk);(try clear hi);have hcz10_0:=yk BK372 0;have hcz10_1:=yk BK372 1;have hfz10_0:=blk_frozen BK372.out 0;have hfz10_1:=blk_frozen BK372.out 1)))
    go_meet
    case rel=>exact ⟨_,(true),D1,H',⟨D54⟩,⟨yB BK372⟩,⟨yW HB⟩⟩
   rw [if_neg c7] at H
   have c7b0:=decide_eq_false c7
   clear c7
   (first|rw [c7b0]|(simp only [i64_w,i32_w];rw [c7b0])|skip)
   obtain ⟨t374,A11,H⟩:=yo H
   have H':=am H
   clear H
   obtain ⟨hcz12_0,hcz12_1,hfz12_0,hfz12_1⟩:=yk2 BK372
   go_wp2_with (first|(go_at_call 46;(with_reducible refine (impl_GoodMsr.calls a0_0 a0_1 true _ A5.out).mono ?_);rintro e w13 ⟨rfl,hb⟩;replace BK372:=yb BK372 hb;replace HB:=yH HB hb;clear hb;obtain ⟨hcz14_0,hcz14_1,hfz14_0,hfz14_1⟩:=yk2 BK372)|(go_at_call 105;(with_reducible refine (dec_Piece.calls _ _ l1 a0_0 a0_1 t374 _ _ (yc (Kd.C_below HR1.out HB.out)) HC1.out ?box A11.out).mono ?_);(case box=>exact ⟨yk BK372 0,yk BK372 1⟩);rintro e w15 ⟨rfl,hb⟩;replace BK372:=yb BK372 hb;replace HB:=yH HB hb;clear hb))
   repeat (go_quiet (first|(go_at_call 46;(with_reducible refine (impl_GoodMsr.calls a0_0 a0_1 true _ A5.out).mono ?_);rintro e w13 ⟨rfl,hb⟩;have n0_:=yb BK372 hb;have n1_:=yH HB hb;clear BK372;clear HB;have BK372:=n0_;have HB:=n1_;clear n0_ n1_;(try clear hb);(try clear hb2);(try clear hk);(try clear hi);have hcz14_0:=yk BK372 0;have hcz14_1:=yk BK372 1;have hfz14_0:=blk_frozen BK372.out 0;have hfz14_1:=blk_frozen BK372.out 1)|(go_at_call 105;(with_reducible refine (dec_Piece.calls _ _ l1 a0_0 a0_1 t374 _ _ (yc (Kd.C_below HR1.out HB.out)) HC1.out ?box A11.out).mono ?_);(case box=>exact ⟨yk BK372 0,yk BK372 1⟩);rintro e w15 ⟨rfl,hb⟩;have n0_:=yb BK372 hb;have n1_:=yH HB hb;clear BK372;clear HB;have BK372:=n0_;have HB:=n1_;clear n0_ n1_;(try clear hb);(try clear hb2);(try clear hk);(try clear hi)));try go_wp2_with (first|(go_at_call 46;(with_reducible refine (impl_GoodMsr.calls a0_0 a0_1 true _ A5.out).mono ?_);rintro e w13 ⟨rfl,hb⟩;have n0_:=yb BK372 hb;have n1_:=yH HB hb;clear BK372;clear HB;have BK372:=n0_;have HB:=n1_;clear n0_ n1_;(try clear hb);(try clear hb2);(try clear hk);(try clear hi);have hcz14_0:=yk BK372 0;have hcz14_1:=yk BK372 1;have hfz14_0:=blk_frozen BK372.out 0;have hfz14_1:=blk_frozen BK372.out 1)|(go_at_call 105;(with_reducible refine (dec_Piece.calls _ _ l1 a0_0 a0_1 t374 _ _ (yc (Kd.C_below HR1.out HB.out)) HC1.out ?box A11.out).mono ?_);(case box=>exact ⟨yk BK372 0,yk BK372 1⟩);rintro e w15 ⟨rfl,hb⟩;have n0_:=yb BK372 hb;have n1_:=yH HB hb;clear BK372;clear HB;have BK372:=n0_;have HB:=n1_;clear n0_ n1_;(try clear hb);(try clear hb2);(try clear hk);(try clear hi))))
   go_meet
   case rel=>exact ⟨_,(t374),D1,H',⟨D54⟩,⟨yB BK372⟩,⟨yW HB⟩⟩
  replace c6:=Bool.eq_false_iff.mpr c6
  subst c6
  replace H:=yn H
  have H':=am H
  clear H
  obtain ⟨hcz16_0,hcz16_1,hfz16_0,hfz16_1⟩:=yk2 BK372
  go_wp2_with (first|(go_at_call 46;(with_reducible refine (impl_GoodMsr.calls a0_0 a0_1 false _ A5.out).mono ?_);rintro e w17 ⟨rfl,hb⟩;replace BK372:=yb BK372 hb;replace HB:=yH HB hb;clear hb))
  repeat (go_quiet (first|(go_at_call 46;(with_reducible refine (impl_GoodMsr.calls a0_0 a0_1 false _ A5.out).mono ?_);rintro e w17 ⟨rfl,hb⟩;have n0_:=yb BK372 hb;have n1_:=yH HB hb;clear BK372;clear HB;have BK372:=n0_;have HB:=n1_;clear n0_ n1_;(try clear hb);(try clear hb2);(try clear hk);(try clear hi)));try go_wp2_with (first|(go_at_call 46;(with_reducible refine (impl_GoodMsr.calls a0_0 a0_1 false _ A5.out).mono ?_);rintro e w17 ⟨rfl,hb⟩;have n0_:=yb BK372 hb;have n1_:=yH HB hb;clear BK372;clear HB;have BK372:=n0_;have HB:=n1_;clear n0_ n1_;(try clear hb);(try clear hb2);(try clear hk);(try clear hi))))
  go_meet
  case rel=>exact ⟨_,(true),D1,H',⟨D54⟩,⟨yB BK372⟩,⟨yW HB⟩⟩
 case rest =>
  clear HC3
  try clear c1
  try clear p2
  try clear c6
  try clear c7
  try clear c7b0
  try clear hcz10_0
  try clear hcz10_1
  try clear hcz12_0
  try clear hcz12_1
  try clear hcz14_0
  try clear hcz14_1
  try clear hcz16_0
  try clear hcz16_1
  try clear hcz8_0
  try clear hcz8_1
  try clear hfz10_0
  try clear hfz10_1
  try clear hfz12_0
  try clear hfz12_1
  try clear hfz14_0
  try clear hfz14_1
  try clear hfz16_0
  try clear hfz16_1
  try clear hfz8_0
  try clear hfz8_1
  obtain ⟨kq,x32_2,rfl,HA,HJ2,BK372,HB⟩:=hcut
  cases kq with
  | zero=>exact absurd HA.out (by simp [impl_DecodeMsr.j0])
  | succ kj2 =>
   have H:=HA.out
   clear HA
   simp only [impl_DecodeMsr.j0] at H
   by_cases c18:x32_2=true
   ·subst c18
    replace H:=yt H
    simp only [Option.some.injEq,Prod.mk.injEq] at H
    obtain ⟨rfl,rfl⟩:=H
    go_wp2
    repeat (go_quiet (fail);try go_wp2)
    go_ret2
    exact ⟨_,D2,D14,yW HB⟩
   replace c18:=Bool.eq_false_iff.mpr c18
   subst c18
   replace H:=yn H
   have H':=am H
   clear H
   go_wp2
   repeat (go_quiet (fail);try go_wp2)
   go_loopg [6] kj2 (fun kq v6 w'=>∃ (x6_2:Int),v6 = .int .i64 x6_2∧Aside0 (impl_DecodeMsr.l0 kq l1 x6_2 a0_0 a0_1=some (r1,r2))∧Aside0 (kq≤kj2)∧Aside0 (w'.heap[gb372]? = some (.cells #[.int .i64 a0_0, .int .i64 a0_1] 30 (0,0)))∧Aside0 (Below w.heap.size w w'))
   case atStart=>exact ⟨(1),D1,H',⟨Nat.le_refl _⟩,⟨yB BK372⟩,⟨yW HB⟩⟩
   case round =>
    clear H'
    try clear c1
    try clear p2
    try clear c6
    try clear c7
    try clear c7b0
    try clear c18
    try clear hcz10_0
    try clear hcz10_1
    try clear hcz12_0
    try clear hcz12_1
    try clear hcz14_0
    try clear hcz14_1
    try clear hcz16_0
    try clear hcz16_1
    try clear hcz8_0
    try clear hcz8_1
    try clear hfz10_0
    try clear hfz10_1
    try clear hfz12_0
    try clear hfz12_1
    try clear hfz14_0
    try clear hfz14_1
    try clear hfz16_0
    try clear hfz16_1
    try clear hfz8_0
    try clear hfz8_1
    try clear p2
    obtain ⟨x6_2,rfl,HA,HK2,BK372,HB⟩:=hrel
    cases gk with
    | zero=>exact absurd HA.out (by simp [impl_DecodeMsr.l0])
    | succ k2 =>
     have H:=HA.out
     clear HA
     simp only [impl_DecodeMsr.l0] at H
     by_cases c19:x6_2 < (l1.length:Int)
     ·rw [if_pos c19] at H
      have c19b0:=decide_eq_true c19
      clear c19
      obtain ⟨c20,H⟩:=yi H
      have c20b0:=decide_eq_true c20
      clear c20
      generalize hji21:(wrap64 (x6_2 - 1))=ji21 at H
      have hji21w:(IntKind.i64.wrap (x6_2 - 1))=ji21:=(i64_w _).trans hji21
      obtain ⟨c22,H⟩:=yi H
      have c22b0:=decide_eq_true c22
      clear c22
      obtain ⟨c23,H⟩:=yi H
      have c23b0:=decide_eq_true c23
      clear c23
      by_cases c24:((rd_T76 l1 x6_2).f0)≤((rd_T76 l1 (ji21)).f0)
      ·rw [if_pos c24] at H
       have c24b0:=decide_eq_true c24
       clear c24
       simp only [Option.some.injEq,Prod.mk.injEq] at H
       obtain ⟨rfl,rfl⟩:=H
       have p375:0≤(x6_2:Int):=od D0
       have q375:x6_2 < (l1.length:Int):=od D0
       obtain ⟨ad375,A375_1,c375_1,e375,hx375_0,hx375_1,hl375_1,hi375_1⟩:=at_T76 HR1.out x6_2 p375 q375
       cases e375
       replace hx375_0:=(HB.out.cell (World.block_lt_of_cell? w _ hx375_0)).trans hx375_0
       replace hx375_1:=(HB.out.cell (World.block_lt_of_cell? w _ hx375_1)).trans hx375_1
       have HR375_1:=am hi375_1
       have HC375_1:=am hl375_1
       clear hi375_1 hl375_1
       replace p375:=eq_true p375
       replace q375:=eq_true q375
       have p376:0≤((ji21):Int):=od D0
       have q376:(ji21) < (l1.length:Int):=od D0
       obtain ⟨ad376,A376_1,c376_1,e376,hx376_0,hx376_1,hl376_1,hi376_1⟩:=at_T76 HR1.out (ji21) p376 q376
       obtain rfl:ad375=ad376:=(by injection e376)
       replace hx376_0:=(HB.out.cell (World.block_lt_of_cell? w _ hx376_0)).trans hx376_0
       replace hx376_1:=(HB.out.cell (World.block_lt_of_cell? w _ hx376_1)).trans hx376_1
       have HR376_1:=am hi376_1
       have HC376_1:=am hl376_1
       clear hi376_1 hl376_1
       replace p376:=eq_true p376
       replace q376:=eq_true q376
       go_wp2
       repeat (go_quiet (fail);try go_wp2)
       go_ret2
       exact ⟨_,by first|rfl|(simp [errW_none,errW_some] <;> rfl)|(simp only [← hji21];first|rfl|(simp [errW_none,errW_some] <;> rfl))|(simp [*,errW_none,errW_some] <;> rfl),D14,yW HB⟩
      rw [if_neg c24] at H
      have c24b0:=decide_eq_false c24
      clear c24
      have H':=am H
      clear H
      have p375:0≤(x6_2:Int):=od D0
      have q375:x6_2 < (l1.length:Int):=od D0
      obtain ⟨ad375,A375_1,c375_1,e375,hx375_0,hx375_1,hl375_1,hi375_1⟩:=at_T76 HR1.out x6_2 p375 q375
      cases e375
      replace hx375_0:=(HB.out.cell (World.block_lt_of_cell? w _ hx375_0)).trans hx375_0
      replace hx375_1:=(HB.out.cell (World.block_lt_of_cell? w _ hx375_1)).trans hx375_1
      have HR375_1:=am hi375_1
      have HC375_1:=am hl375_1
      clear hi375_1 hl375_1
      replace p375:=eq_true p375
      replace q375:=eq_true q375
      have p376:0≤((ji21):Int):=od D0
      have q376:(ji21) < (l1.length:Int):=od D0
      obtain ⟨ad376,A376_1,c376_1,e376,hx376_0,hx376_1,hl376_1,hi376_1⟩:=at_T76 HR1.out (ji21) p376 q376
      obtain rfl:ad375=ad376:=(by injection e376)
      replace hx376_0:=(HB.out.cell (World.block_lt_of_cell? w _ hx376_0)).trans hx376_0
      replace hx376_1:=(HB.out.cell (World.block_lt_of_cell? w _ hx376_1)).trans hx376_1
      have HR376_1:=am hi376_1
      have HC376_1:=am hl376_1
      clear hi376_1 hl376_1
      replace p376:=eq_true p376
      replace q376:=eq_true q376
      go_wp2
      repeat (go_quiet (fail);try go_wp2)
      go_roundg k2
      case measure=>have:=HJ2.out;have:=HK2.out;omega
      case rel=>exact ⟨(wrap64 (x6_2+1)),D1,H',⟨by have:=HJ2.out;have:=HK2.out;omega⟩,⟨yB BK372⟩,⟨yW HB⟩⟩
     rw [if_neg c19] at H
     have c19b0:=decide_eq_false c19
     clear c19
     obtain ⟨t377,A25,H⟩:=yo H
     generalize hy380:(([]:List (List Int)):List (List Int))=y380 at H
     have Ny380:=am hy380.symm
     clear hy380
     generalize hy383:(([]:List Int):List Int)=y383 at H
     have Ny383:=am hy383.symm
     clear hy383
     obtain ⟨c26,H⟩:=yi H
     have c26b0:=eq_true c26
     have c26b1:decide (0≤a0_1)=true:=decide_eq_true c26
     clear c26
     obtain ⟨c27,H⟩:=yi H
     have c27b0:=eq_true c27
     have c27b1:decide (a0_1≤(l1.length:Int))=true:=decide_eq_true c27
     clear c27
     obtain ⟨y386,hy386,H⟩:=ys H
     have Ny386:=am hy386
     clear hy386
     have H':=am H
     clear H
     obtain ⟨hcz28_0,hcz28_1,hfz28_0,hfz28_1⟩:=yk2 BK372
     go_wp2_with (first|(go_at_call 108;(with_reducible refine (impl_Msr_places.calls k2 a0_0 a0_1 t377 _ A25.out).mono ?_);rintro e w29 ⟨v378,rfl,ho0,hb⟩;have HO379:=am (Kd.S_lower ho0 (pz (yW HB)));replace BK372:=yb BK372 hb;replace HB:=yH HB hb;clear hb ho0)|((with_reducible refine gD 53 ?_);(try (refine gate_guard D15 ?_;dsimp only));refine Kd.S_lit (Kd.slice 5 (Kd.int .u8)) _ 24 D15 (N:=53) D15 (xs:=([]:List (List Int))) (inner:=[]) (ok:=fun _=>True) (okp:=fun _=>True) D33 D51 (fun _ hk=>hk) trivial (Below.refl _ _) (Nat.le_refl _) D43 ?_;intro v381 w30 ho31 hb hg_ hnew_;clear hg_ hnew_;(first|rw [← Ny380.out] at ho31|(simp only [Int.reduceToNat] at ho31;rw [← Ny380.out] at ho31));replace HO379:=bS HO379 hb;have HO382:=am (Kd.S_lower ho31 (pz (yW HB)));replace BK372:=yb BK372 hb;replace HB:=yH HB hb;clear hb ho31)|((with_reducible refine gD 54 ?_);(try (refine gate_guard D15 ?_;dsimp only));refine Kd.R_lit (Kd.int .u8) _ 5 D15 (N:=54) D15 (xs:=([]:List Int)) (inner:=[]) (ok:=fun _=>True) (okp:=fun _=>True) D33 D51 (fun _ hk=>hk) trivial (Below.refl _ _) (Nat.le_refl _) D43 ?_;intro v384 w32 ho33 hb hg_ hnew_;clear hg_ hnew_;(first|rw [← Ny383.out] at ho33|(simp only [Int.reduceToNat] at ho33;rw [← Ny383.out] at ho33));replace HO379:=bS HO379 hb;replace HO382:=eS HO382 (Kd.R_base ho33) hb;have HO385:=am (Kd.R_lower ho33 (pz (yW HB)));replace BK372:=yb BK372 hb;replace HB:=yH HB hb;clear hb ho33;obtain ⟨hcz34_0,hcz34_1,hfz34_0,hfz34_1⟩:=yk2 BK372;have q35:(a0_1:Int)≤((l1.length:Int):Int):=od D0;obtain ⟨i035,hi035,_,hsz35,_⟩:=info_parts info76;have hroom35:l1.length≤c1:=HC1.out;have hC35:Kd.C k76 _ A1 l1.length l1:=HR1.out;have hcut35:=cut_to (P:=Try.prog) 38 76 .i64 Try.underlying38 hi035 A1 l1.length c1 a0_1 (od D0) q35 hroom35;have hr35:=Kd.C_take (m:=(a0_1:Int).toNat) hC35 D11;have hy35:y386.length=(a0_1:Int).toNat:=(by rw [Ny386.out,List.length_take];omega);rw [← Ny386.out] at hr35;rw [← hy35] at hcut35;have HR389:=am hr35;have HC389:=am (show y386.length≤c1 from by omega);clear hr35 hC35 hroom35 hi035 hsz35;have KY35:=am hy35;clear hy35;replace q35:=eq_true q35))
     repeat (go_quiet (first|(go_at_call 108;(with_reducible refine (impl_Msr_places.calls k2 a0_0 a0_1 t377 _ A25.out).mono ?_);rintro e w29 ⟨v378,rfl,ho0,hb⟩;have n0_:=am (Kd.S_lower ho0 (pz (yW HB)));have n1_:=yb BK372 hb;have n2_:=yH HB hb;clear BK372;clear HB;have HO379:=n0_;have BK372:=n1_;have HB:=n2_;clear n0_ n1_ n2_;(try clear hb);(try clear hb2);(try clear hk);(try clear hi);(try clear ho0))|((with_reducible refine gate_dst (N:=53) rfl ?_);(try (refine gate_guard D15 ?_;dsimp only));refine Kd.S_lit (Kd.slice 5 (Kd.int .u8)) _ 24 ?hg (N:=53) ?hd (xs:=([]:List (List Int))) (inner:=[]) (ok:=fun _=>True) (okp:=fun _=>True) ?hr ?hp (fun _ hk=>hk) trivial (Below.refl _ _) (Nat.le_refl _) D43 ?_;(case hd=>rfl);(case hg=>rfl);(case hr=>first|(go_simp;done)|(go_simp;rfl));(case hp=>exact (Reps.none _ _));intro v381 w30 ho31 hb hg_ hnew_;clear hg_ hnew_;(first|rw [← Ny380.out] at ho31|(simp only [Int.reduceToNat] at ho31;rw [← Ny380.out] at ho31));have n0_:=bS HO379 hb;have n1_:=am (Kd.S_lower ho31 (pz (yW HB)));have n2_:=yb BK372 hb;have n3_:=yH HB hb;clear HO379;clear BK372;clear HB;have HO379:=n0_;have HO382:=n1_;have BK372:=n2_;have HB:=n3_;clear n0_ n1_ n2_ n3_;clear hb ho31)|((with_reducible refine gate_dst (N:=54) rfl ?_);(try (refine gate_guard D15 ?_;dsimp only));refine Kd.R_lit (Kd.int .u8) _ 5 ?hg (N:=54) ?hd (xs:=([]:List Int)) (inner:=[]) (ok:=fun _=>True) (okp:=fun _=>True) ?hr ?hp (fun _ hk=>hk) trivial (Below.refl _ _) (Nat.le_refl _) D43 ?_;(case hd=>rfl);(case hg=>rfl);(case hr=>first|(go_simp;done)|(go_simp;rfl));(case hp=>exact (Reps.none _ _));intro v384 w32 ho33 hb hg_ hnew_;clear hg_ hnew_;(first|rw [← Ny383.out] at ho33|(simp only [Int.reduceToNat] at ho33;rw [← Ny383.out] at ho33));have n0_:=bS HO379 hb;have n1_:=eS HO382 (Kd.R_base ho33) hb;have n2_:=am (Kd.R_lower ho33 (pz (yW HB)));have n3_:=yb BK372 hb;have n4_:=yH HB hb;clear HO379;clear HO382;clear BK372;clear HB;have HO379:=n0_;have HO382:=n1_;have HO385:=n2_;have BK372:=n3_;have HB:=n4_;clear n0_ n1_ n2_ n3_ n4_;clear hb ho33;have hcz34_0:=yk BK372 0;have hcz34_1:=yk BK372 1;have hfz34_0:=blk_frozen BK372.out 0;have hfz34_1:=blk_frozen BK372.out 1;have q35:(a0_1:Int)≤((l1.length:Int):Int):=od D0;obtain ⟨i035,hi035,_,hsz35,_⟩:=info_parts info76;have hroom35:l1.length≤c1:=HC1.out;have hC35:Kd.C k76 _ A1 l1.length l1:=HR1.out;have hcut35:=cut_to (P:=Try.prog) 38 76 .i64 Try.underlying38 hi035 A1 l1.length c1 a0_1 (od D0) q35 hroom35;have hr35:=Kd.C_take (m:=(a0_1:Int).toNat) hC35 D11;have hy35:y386.length=(a0_1:Int).toNat:=(by rw [Ny386.out,List.length_take];omega);rw [← Ny386.out] at hr35;rw [← hy35] at hcut35;have HR389:=am hr35;have HC389:=am (show y386.length≤c1 from by omega);clear hr35 hC35 hroom35 hi035 hsz35;have KY35:=am hy35;clear hy35;replace q35:=eq_true q35));try go_wp2_with (first|(go_at_call 108;(with_reducible refine (impl_Msr_places.calls k2 a0_0 a0_1 t377 _ A25.out).mono ?_);rintro e w29 ⟨v378,rfl,ho0,hb⟩;have n0_:=am (Kd.S_lower ho0 (pz (yW HB)));have n1_:=yb BK372 hb;have n2_:=yH HB hb;clear BK372;clear HB;have HO379:=n0_;have BK372:=n1_;have HB:=n2_;clear n0_ n1_ n2_;(try clear hb);(try clear hb2);(try clear hk);(try clear hi);(try clear ho0))|((with_reducible refine gate_dst (N:=53) rfl ?_);(try (refine gate_guard D15 ?_;dsimp only));refine Kd.S_lit (Kd.slice 5 (Kd.int .u8)) _ 24 ?hg (N:=53) ?hd (xs:=([]:List (List Int))) (inner:=[]) (ok:=fun _=>True) (okp:=fun _=>True) ?hr ?hp (fun _ hk=>hk) trivial (Below.refl _ _) (Nat.le_refl _) D43 ?_;(case hd=>rfl);(case hg=>rfl);(case hr=>first|(go_simp;done)|(go_simp;rfl));(case hp=>exact (Reps.none _ _));intro v381 w30 ho31 hb hg_ hnew_;clear hg_ hnew_;(first|rw [← Ny380.out] at ho31|(simp only [Int.reduceToNat] at ho31;rw [← Ny380.out] at ho31));have n0_:=bS HO379 hb;have n1_:=am (Kd.S_lower ho31 (pz (yW HB)));have n2_:=yb BK372 hb;have n3_:=yH HB hb;clear HO379;clear BK372;clear HB;have HO379:=n0_;have HO382:=n1_;have BK372:=n2_;have HB:=n3_;clear n0_ n1_ n2_ n3_;clear hb ho31)|((with_reducible refine gate_dst (N:=54) rfl ?_);(try (refine gate_guard D15 ?_;dsimp only));refine Kd.R_lit (Kd.int .u8) _ 5 ?hg (N:=54) ?hd (xs:=([]:List Int)) (inner:=[]) (ok:=fun _=>True) (okp:=fun _=>True) ?hr ?hp (fun _ hk=>hk) trivial (Below.refl _ _) (Nat.le_refl _) D43 ?_;(case hd=>rfl);(case hg=>rfl);(case hr=>first|(go_simp;done)|(go_simp;rfl));(case hp=>exact (Reps.none _ _));intro v384 w32 ho33 hb hg_ hnew_;clear hg_ hnew_;(first|rw [← Ny383.out] at ho33|(simp only [Int.reduceToNat] at ho33;rw [← Ny383.out] at ho33));have n0_:=bS HO379 hb;have n1_:=eS HO382 (Kd.R_base ho33) hb;have n2_:=am (Kd.R_lower ho33 (pz (yW HB)));have n3_:=yb BK372 hb;have n4_:=yH HB hb;clear HO379;clear HO382;clear BK372;clear HB;have HO379:=n0_;have HO382:=n1_;have HO385:=n2_;have BK372:=n3_;have HB:=n4_;clear n0_ n1_ n2_ n3_ n4_;clear hb ho33;have hcz34_0:=yk BK372 0;have hcz34_1:=yk BK372 1;have hfz34_0:=blk_frozen BK372.out 0;have hfz34_1:=blk_frozen BK372.out 1;have q35:(a0_1:Int)≤((l1.length:Int):Int):=od D0;obtain ⟨i035,hi035,_,hsz35,_⟩:=info_parts info76;have hroom35:l1.length≤c1:=HC1.out;have hC35:Kd.C k76 _ A1 l1.length l1:=HR1.out;have hcut35:=cut_to (P:=Try.prog) 38 76 .i64 Try.underlying38 hi035 A1 l1.length c1 a0_1 (od D0) q35 hroom35;have hr35:=Kd.C_take (m:=(a0_1:Int).toNat) hC35 D11;have hy35:y386.length=(a0_1:Int).toNat:=(by rw [Ny386.out,List.length_take];omega);rw [← Ny386.out] at hr35;rw [← hy35] at hcut35;have HR389:=am hr35;have HC389:=am (show y386.length≤c1 from by omega);clear hr35 hC35 hroom35 hi035 hsz35;have KY35:=am hy35;clear hy35;replace q35:=eq_true q35)))
     go_loopg [8,9,60] k2 (fun kq v8 v9 v60 w'=>∃ (x8_3:List (List Int)) (x9_3:List Int) (x60_3:Int),v60 = .int .i64 x60_3∧Aside0 (impl_DecodeMsr.l1 kq t377 x8_3 x9_3 y386 (y386.length:Int) x60_3 a0_0 a0_1=some (r1,r2))∧Aside0 (kq≤k2)∧Aside0 (Kd.S (Kd.slice 3 (Kd.int .i64)) 62 w' w.heap.size (fun _=>True) v378 t377)∧Aside0 (Kd.S (Kd.slice 5 (Kd.int .u8)) 24 w' w.heap.size (fun k_=>some k_ ≠ (v9:Value).ownBlock) v8 x8_3)∧Aside0 (Kd.R (Kd.int .u8) 5 w' w.heap.size (fun _=>True) v9 x9_3)∧Aside0 (w'.heap[gb372]? = some (.cells #[.int .i64 a0_0, .int .i64 a0_1] 30 (0,0)))∧Aside0 (Below w.heap.size w w'))
     case atStart=>exact ⟨(y380),(y383),(0),D1,H',⟨Nat.le_refl _⟩,⟨yS HO379⟩,⟨by refine sS ?_;exact Kd.S_mono HO382.out (fun _ hk=>hk.2)⟩,⟨yR HO385⟩,⟨yB BK372⟩,⟨yW HB⟩⟩
     case round =>
      clear H'
      try clear c1
      try clear c2
      try clear p2
      try clear c3
      try clear p3
      try clear q3
      try clear hx3
      try clear c6
      try clear p6
      try clear c7
      try clear c7b0
      try clear c18
      try clear c19
      try clear c19b0
      try clear c20
      try clear c20b0
      try clear c22
      try clear c22b0
      try clear c23
      try clear c23b0
      try clear c24
      try clear c24b0
      try clear c26
      try clear c26b0
      try clear c26b1
      try clear c27
      try clear c27b0
      try clear c27b1
      try clear q35
      try clear hcz10_0
      try clear hcz10_1
      try clear hcz12_0
      try clear hcz12_1
      try clear hcz14_0
      try clear hcz14_1
      try clear hcz16_0
      try clear hcz16_1
      try clear hcz28_0
      try clear hcz28_1
      try clear hcz34_0
      try clear hcz34_1
      try clear hcz8_0
      try clear hcz8_1
      try clear hfz10_0
      try clear hfz10_1
      try clear hfz12_0
      try clear hfz12_1
      try clear hfz14_0
      try clear hfz14_1
      try clear hfz16_0
      try clear hfz16_1
      try clear hfz28_0
      try clear hfz28_1
      try clear hfz34_0
      try clear hfz34_1
      try clear hfz8_0
      try clear hfz8_1
      try clear hx375_0
      try clear hx375_1
      try clear hx376_0
      try clear hx376_1
      try clear p2
      try clear p375
      try clear p376
      try clear q35
      try clear q375
      try clear q376
      obtain ⟨x8_3,x9_3,x60_3,rfl,HA,HK3,HO_7,HO_8,HO_9,BK372,HB⟩:=hrel
      cases gk with
      | zero=>exact absurd HA.out (by simp [impl_DecodeMsr.l1])
      | succ k3 =>
       have H:=HA.out
       clear HA
       simp only [impl_DecodeMsr.l1] at H
       by_cases c36:x60_3 < (y386.length:Int)
       ·rw [if_pos c36] at H
        have c36b0:=decide_eq_true c36
        clear c36
        obtain ⟨c37,H⟩:=yi H
        have c37b0:=decide_eq_true c37
        clear c37
        obtain ⟨c38,H⟩:=yi H
        have c38b0:=decide_eq_true c38
        clear c38
        obtain ⟨t396,A39,H⟩:=yo H
        have H':=am H
        clear H
        have p394:0≤(x60_3:Int):=od D0
        have q394:x60_3 < (y386.length:Int):=od D0
        obtain ⟨ad394,A394_1,c394_1,e394,hx394_0,hx394_1,hl394_1,hi394_1⟩:=at_T76 HR389.out x60_3 p394 q394
        cases e394
        replace hx394_0:=(HB.out.cell (World.block_lt_of_cell? w _ hx394_0)).trans hx394_0
        replace hx394_1:=(HB.out.cell (World.block_lt_of_cell? w _ hx394_1)).trans hx394_1
        have HR394_1:=am hi394_1
        have HC394_1:=am hl394_1
        clear hi394_1 hl394_1
        replace p394:=eq_true p394
        replace q394:=eq_true q394
        go_wp2_with (first|((with_reducible refine gD 11 ?_);(try (refine gate_guard D15 ?_;dsimp only));refine gB (cs:=#[.int .i64 0, .slice none 0 0]) 76 ?_;intro gb395 hg w40 hbox hb;replace HO_7:=bS HO_7 hb;replace HO_8:=bS HO_8 hb;replace HO_9:=bR HO_9 hb;have BK395:=am (hbox);have GW395:=ye HB hg;replace HB:=yH HB hb;have NB372_395:=yl BK372 hg;have NB395_372:=yg BK372 hg;replace BK372:=yb BK372 hb;have GE395:=GW395;clear hb hbox hg;have hnb41:=NB395_372.out;have hnc41:=NB372_395.out;obtain ⟨hcz42_0,hcz42_1,hfz42_0,hfz42_1⟩:=yk2 BK395;obtain ⟨hcz43_0,hcz43_1,hfz43_0,hfz43_1⟩:=yk2 BK372)|(go_at_call 66;(with_reducible refine (impl_Msr_row.calls k3 a0_0 a0_1 ((rd_T76 y386 x60_3).f0) t396 _ A39.out).mono ?_);rintro e w44 ⟨v397,rfl,ho0,hb⟩;replace HO_7:=am (Kd.S_below D45 hb);replace HO_8:=am (Kd.S_elder' D44 (Kd.R_base ho0) hb);have HO398:=am (Kd.R_lower (Kd.R_new' ho0 (Kd.R_lt D21)) (pz (yW HB)));replace HO_9:=am (Kd.R_elder' D21 (Kd.R_base ho0) hb);replace BK372:=am (qb (g:=gb372) (o:=.cells #[.int .i64 a0_0, .int .i64 a0_1] 30 (0,0)) (yF BK372) hb);replace BK395:=am (qb (g:=gb395) (o:=.cells #[.int .i64 ((rd_T76 y386 x60_3).f0), .slice A394_1 ((rd_T76 y386 x60_3).f1).length c394_1] 76 (0,0)) D53 hb);replace HB:=yH HB hb;clear hb ho0;obtain ⟨hcz45_0,hcz45_1,hfz45_0,hfz45_1⟩:=yk2 BK395))
        repeat (go_quiet (first|((with_reducible refine gate_dst (N:=11) rfl ?_);(try (refine gate_guard D15 ?_;dsimp only));refine box_event ?hg (N:=11) ?hd (cs:=#[.int .i64 0, .slice none 0 0]) (t:=76) ?hr ?_;(case hd=>rfl);(case hg=>rfl);(case hr=>first|(go_simp;done)|(go_simp;rfl));intro gb395 hg w40 hbox hb;have n0_:=bS HO_7 hb;have n1_:=bS HO_8 hb;have n2_:=bR HO_9 hb;have n3_:=yb BK372 hb;have n4_:=yH HB hb;have n5_:=am (hbox);have n6_:=ye HB hg;have n7_:=ye HB hg;have n8_:=yl BK372 hg;have n9_:=yg BK372 hg;clear HO_7;clear HO_8;clear HO_9;clear BK372;clear HB;have HO_7:=n0_;have HO_8:=n1_;have HO_9:=n2_;have BK372:=n3_;have HB:=n4_;have BK395:=n5_;have GW395:=n6_;have GE395:=n7_;have NB372_395:=n8_;have NB395_372:=n9_;clear n0_ n1_ n2_ n3_ n4_ n5_ n6_ n7_ n8_ n9_;clear hb hbox hg;have hnb41:=NB395_372.out;have hnc41:=NB372_395.out;have hcz42_0:=yk BK395 0;have hcz42_1:=yk BK395 1;have hfz42_0:=blk_frozen BK395.out 0;have hfz42_1:=blk_frozen BK395.out 1;have hcz43_0:=yk BK372 0;have hcz43_1:=yk BK372 1;have hfz43_0:=blk_frozen BK372.out 0;have hfz43_1:=blk_frozen BK372.out 1)|(go_at_call 66;(with_reducible refine (impl_Msr_row.calls k3 a0_0 a0_1 ((rd_T76 y386 x60_3).f0) t396 _ A39.out).mono ?_);rintro e w44 ⟨v397,rfl,ho0,hb⟩;have n0_:=am (Kd.S_below D45 hb);have n1_:=am (Kd.S_elder' D44 (Kd.R_base ho0) hb);have n2_:=am (Kd.R_elder' D21 (Kd.R_base ho0) hb);have n3_:=am (Kd.R_lower (Kd.R_new' ho0 (Kd.R_lt D21)) (pz (yW HB)));have n4_:=am (qb (g:=gb372) (o:=.cells #[.int .i64 a0_0, .int .i64 a0_1] 30 (0,0)) (yF BK372) hb);have n5_:=am (qb (g:=gb395) (o:=.cells #[.int .i64 ((rd_T76 y386 x60_3).f0), .slice A394_1 ((rd_T76 y386 x60_3).f1).length c394_1] 76 (0,0)) D53 hb);have n6_:=yH HB hb;clear HO_7;clear HO_8;clear HO_9;clear BK372;clear BK395;clear HB;have HO_7:=n0_;have HO_8:=n1_;have HO_9:=n2_;have HO398:=n3_;have BK372:=n4_;have BK395:=n5_;have HB:=n6_;clear n0_ n1_ n2_ n3_ n4_ n5_ n6_;(try clear hb);(try clear hb2);(try clear hk);(try clear hi);(try clear ho0);have hcz45_0:=yk BK395 0;have hcz45_1:=yk BK395 1;have hfz45_0:=blk_frozen BK395.out 0;have hfz45_1:=blk_frozen BK395.out 1));try go_wp2_with (first|((with_reducible refine gate_dst (N:=11) rfl ?_);(try (refine gate_guard D15 ?_;dsimp only));refine box_event ?hg (N:=11) ?hd (cs:=#[.int .i64 0, .slice none 0 0]) (t:=76) ?hr ?_;(case hd=>rfl);(case hg=>rfl);(case hr=>first|(go_simp;done)|(go_simp;rfl));intro gb395 hg w40 hbox hb;have n0_:=bS HO_7 hb;have n1_:=bS HO_8 hb;have n2_:=bR HO_9 hb;have n3_:=yb BK372 hb;have n4_:=yH HB hb;have n5_:=am (hbox);have n6_:=ye HB hg;have n7_:=ye HB hg;have n8_:=yl BK372 hg;have n9_:=yg BK372 hg;clear HO_7;clear HO_8;clear HO_9;clear BK372;clear HB;have HO_7:=n0_;have HO_8:=n1_;have HO_9:=n2_;have BK372:=n3_;have HB:=n4_;have BK395:=n5_;have GW395:=n6_;have GE395:=n7_;have NB372_395:=n8_;have NB395_372:=n9_;clear n0_ n1_ n2_ n3_ n4_ n5_ n6_ n7_ n8_ n9_;clear hb hbox hg;have hnb41:=NB395_372.out;have hnc41:=NB372_395.out;have hcz42_0:=yk BK395 0;have hcz42_1:=yk BK395 1;have hfz42_0:=blk_frozen BK395.out 0;have hfz42_1:=blk_frozen BK395.out 1;have hcz43_0:=yk BK372 0;have hcz43_1:=yk BK372 1;have hfz43_0:=blk_frozen BK372.out 0;have hfz43_1:=blk_frozen BK372.out 1)|(go_at_call 66;(with_reducible refine (impl_Msr_row.calls k3 a0_0 a0_1 ((rd_T76 y386 x60_3).f0) t396 _ A39.out).mono ?_);rintro e w44 ⟨v397,rfl,ho0,hb⟩;have n0_:=am (Kd.S_below D45 hb);have n1_:=am (Kd.S_elder' D44 (Kd.R_base ho0) hb);have n2_:=am (Kd.R_elder' D21 (Kd.R_base ho0) hb);have n3_:=am (Kd.R_lower (Kd.R_new' ho0 (Kd.R_lt D21)) (pz (yW HB)));have n4_:=am (qb (g:=gb372) (o:=.cells #[.int .i64 a0_0, .int .i64 a0_1] 30 (0,0)) (yF BK372) hb);have n5_:=am (qb (g:=gb395) (o:=.cells #[.int .i64 ((rd_T76 y386 x60_3).f0), .slice A394_1 ((rd_T76 y386 x60_3).f1).length c394_1] 76 (0,0)) D53 hb);have n6_:=yH HB hb;clear HO_7;clear HO_8;clear HO_9;clear BK372;clear BK395;clear HB;have HO_7:=n0_;have HO_8:=n1_;have HO_9:=n2_;have HO398:=n3_;have BK372:=n4_;have BK395:=n5_;have HB:=n6_;clear n0_ n1_ n2_ n3_ n4_ n5_ n6_;(try clear hb);(try clear hb2);(try clear hk);(try clear hi);(try clear ho0);have hcz45_0:=yk BK395 0;have hcz45_1:=yk BK395 1;have hfz45_0:=blk_frozen BK395.out 0;have hfz45_1:=blk_frozen BK395.out 1)))
        go_loopg [8,9,71] k3 (fun kq v8 v9 v71 w'=>∃ (x8_4:List (List Int)) (x9_4:List Int) (x12_4:List Int) (x71_4:Int),v71 = .int .i64 x71_4∧Aside0 (impl_DecodeMsr.l2 kq t377 x8_4 x9_4 x12_4 y386 (y386.length:Int) x60_3 ((rd_T76 y386 x60_3).f1) (((rd_T76 y386 x60_3).f1).length:Int) x71_4 a0_0 a0_1=some (r1,r2))∧Aside0 (kq≤k3)∧Aside0 (Kd.S (Kd.slice 3 (Kd.int .i64)) 62 w' w.heap.size (fun _=>True) v378 t377)∧Aside0 (Kd.S (Kd.slice 5 (Kd.int .u8)) 24 w' w.heap.size (fun k_=>some k_ ≠ (v9:Value).ownBlock∧some k_ ≠ (v397:Value).ownBlock) v8 x8_4)∧Aside0 (Kd.R (Kd.int .u8) 5 w' w.heap.size (fun k_=>some k_ ≠ (v397:Value).ownBlock) v9 x9_4)∧Aside0 (Kd.R (Kd.int .u8) 5 w' w.heap.size (fun k_=>some k_ ≠ (v9:Value).ownBlock) v397 x12_4)∧Aside0 (w'.heap[gb372]? = some (.cells #[.int .i64 a0_0, .int .i64 a0_1] 30 (0,0)))∧Aside0 (w'.heap[gb395]? = some (.cells #[.int .i64 ((rd_T76 y386 x60_3).f0),(.slice A394_1 ((rd_T76 y386 x60_3).f1).length c394_1)] 76 (0,0)))∧Aside0 (Below w.heap.size w w'))
        case atStart=>exact ⟨(x8_3),(x9_3),(t396),(0),D1,H',⟨Nat.le_refl _⟩,⟨yS HO_7⟩,⟨yS HO_8⟩,⟨by refine sR ?_;exact Kd.R_mono HO_9.out (fun _ hk=>hk.2)⟩,⟨by refine sR ?_;exact Kd.R_mono HO398.out (fun _ hk=>hk.2)⟩,⟨yB BK372⟩,⟨yB BK395⟩,⟨yW HB⟩⟩
        case round =>
         clear H'
         try clear c1
         try clear c2
         try clear p2
         try clear c3
         try clear p3
         try clear q3
         try clear hx3
         try clear c4
         try clear c6
         try clear p6
         try clear c7
         try clear c7b0
         try clear c18
         try clear c19
         try clear c19b0
         try clear c20
         try clear c20b0
         try clear c22
         try clear c22b0
         try clear c23
         try clear c23b0
         try clear c24
         try clear c24b0
         try clear c26
         try clear c26b0
         try clear c26b1
         try clear c27
         try clear c27b0
         try clear c27b1
         try clear q35
         try clear c36
         try clear c36b0
         try clear c37
         try clear c37b0
         try clear p37
         try clear q37
         try clear hx37
         try clear c38
         try clear c38b0
         try clear c39
         try clear p39
         try clear q39
         try clear hx39
         try clear c41
         try clear hcz10_0
         try clear hcz10_1
         try clear hcz12_0
         try clear hcz12_1
         try clear hcz14_0
         try clear hcz14_1
         try clear hcz16_0
         try clear hcz16_1
         try clear hcz28_0
         try clear hcz28_1
         try clear hcz34_0
         try clear hcz34_1
         try clear hcz42_0
         try clear hcz42_1
         try clear hcz43_0
         try clear hcz43_1
         try clear hcz45_0
         try clear hcz45_1
         try clear hcz8_0
         try clear hcz8_1
         try clear hfz10_0
         try clear hfz10_1
         try clear hfz12_0
         try clear hfz12_1
         try clear hfz14_0
         try clear hfz14_1
         try clear hfz16_0
         try clear hfz16_1
         try clear hfz28_0
         try clear hfz28_1
         try clear hfz34_0
         try clear hfz34_1
         try clear hfz42_0
         try clear hfz42_1
         try clear hfz43_0
         try clear hfz43_1
         try clear hfz45_0
         try clear hfz45_1
         try clear hfz8_0
         try clear hfz8_1
         try clear hx375_0
         try clear hx375_1
         try clear hx376_0
         try clear hx376_1
         try clear hx394_0
         try clear hx394_1
         try clear p2
         try clear p3
         try clear p375
         try clear p376
         try clear p394
         try clear p6
         try clear q3
         try clear q35
         try clear q375
         try clear q376
         try clear q394
         obtain ⟨x8_4,x9_4,x12_4,x71_4,rfl,HA,HK4,HO_7,HO_8,HO_9,HO_12,BK372,BK395,HB⟩:=hrel
         cases gk with
         | zero=>exact absurd HA.out (by simp [impl_DecodeMsr.l2])
         | succ k4 =>
          have H:=HA.out
          clear HA
          simp only [impl_DecodeMsr.l2] at H
          by_cases c46:x71_4 < (((rd_T76 y386 x60_3).f1).length:Int)
          ·rw [if_pos c46] at H
           have c46b0:=decide_eq_true c46
           clear c46
           obtain ⟨c47,H⟩:=yi H
           have c47b0:=decide_eq_true c47
           clear c47
           obtain ⟨c48,H⟩:=yi H
           have c48b0:=decide_eq_true c48
           clear c48
           obtain ⟨t400,A49,H⟩:=yo H
           obtain ⟨c50,H⟩:=yi H
           have c50b0:=eq_true c50
           have c50b1:decide (0≤t400)=true:=decide_eq_true c50
           clear c50
           obtain ⟨c51,H⟩:=yi H
           have c51b0:=eq_true c51
           have c51b1:decide ((t400:Int).toNat≤281474976710656)=true:=decide_eq_true c51
           clear c51
           generalize hy401:(List.replicate (t400:Int).toNat 0:List Int)=y401 at H
           have Ny401:=am hy401.symm
           clear hy401
           have H':=am H
           clear H
           have p399:0≤(x71_4:Int):=od D0
           have q399:x71_4 < (((rd_T76 y386 x60_3).f1).length:Int):=od D0
           obtain ⟨ad399,e399,hx399_0⟩:=Kd.at_int HR394_1.out x71_4 p399 q399
           cases e399
           replace hx399_0:=(HB.out.cell (World.block_lt_of_cell? w _ hx399_0)).trans hx399_0
           replace p399:=eq_true p399
           replace q399:=eq_true q399
           have hnb52:=NB372_395.out
           have hnc52:=NB395_372.out
           obtain ⟨hcz53_0,hcz53_1,hfz53_0,hfz53_1⟩:=yk2 BK372
           go_wp2_with (first|(go_at_call 59;(with_reducible refine (impl_Msr_size.calls a0_0 a0_1 t400 _ A49.out).mono ?_);rintro e w54 ⟨rfl,hb⟩;replace HO_7:=bS HO_7 hb;replace HO_8:=bS HO_8 hb;replace HO_9:=bR HO_9 hb;replace HO_12:=bR HO_12 hb;replace BK372:=yb BK372 hb;replace BK395:=yb BK395 hb;replace HB:=yH HB hb;clear hb)|((with_reducible refine gD 78 ?_);(try (refine gate_guard D15 ?_;dsimp only));refine Kd.R_make (Kd.int .u8) _ 5 rfl (N:=78) rfl 24 _ _ rfl t400 rfl rfl Try.underlying24 (.int .u8 0) 1 info5 rfl D8 D11 0 (ok:=fun _=>True) (okp:=fun _=>True) rfl (fun _ hk=>hk) trivial (od D0) (Nat.le_trans (Nat.mul_le_mul_right _ (od D0:t400.toNat≤281474976710656)) D11) (Below.refl _ _) (Nat.le_refl _) ?_;intro v402 w55 ho56 hb hg_ hnew_;clear hg_ hnew_;(first|rw [← Ny401.out] at ho56|(simp only [Int.reduceToNat] at ho56;rw [← Ny401.out] at ho56));replace HO_7:=bS HO_7 hb;replace HO_8:=eS HO_8 (Kd.R_base ho56) hb;have HO403:=am (Kd.R_lower (Kd.R_new' (Kd.R_new' ho56 (Kd.R_lt (yR HO_9))) (Kd.R_lt (yR HO_12))) (pz (yW HB)));replace HO_9:=eR HO_9 (Kd.R_base ho56) hb;replace HO_12:=eR HO_12 (Kd.R_base ho56) hb;replace BK372:=yb BK372 hb;replace BK395:=yb BK395 hb;replace HB:=yH HB hb;clear hb ho56;obtain ⟨Ao57,co57,eo57⟩:=Kd.R_slice HO_12.out;subst eo57))
           repeat (go_quiet (first|(go_at_call 59;(with_reducible refine (impl_Msr_size.calls a0_0 a0_1 t400 _ A49.out).mono ?_);rintro e w54 ⟨rfl,hb⟩;have n0_:=bS HO_7 hb;have n1_:=bS HO_8 hb;have n2_:=bR HO_9 hb;have n3_:=bR HO_12 hb;have n4_:=yb BK372 hb;have n5_:=yb BK395 hb;have n6_:=yH HB hb;clear HO_7;clear HO_8;clear HO_9;clear HO_12;clear BK372;clear BK395;clear HB;have HO_7:=n0_;have HO_8:=n1_;have HO_9:=n2_;have HO_12:=n3_;have BK372:=n4_;have BK395:=n5_;have HB:=n6_;clear n0_ n1_ n2_ n3_ n4_ n5_ n6_;(try clear hb);(try clear hb2);(try clear hk);(try clear hi))|((with_reducible refine gate_dst (N:=78) rfl ?_);(try (refine gate_guard D15 ?_;dsimp only));refine Kd.R_make (Kd.int .u8) _ 5 rfl (N:=78) rfl 24 _ _ rfl t400 rfl rfl Try.underlying24 (.int .u8 0) 1 info5 rfl D8 D11 0 (ok:=fun _=>True) (okp:=fun _=>True) rfl (fun _ hk=>hk) trivial (od D0) (Nat.le_trans (Nat.mul_le_mul_right _ (od D0:t400.toNat≤281474976710656)) D11) (Below.refl _ _) (Nat.le_refl _) ?_;intro v402 w55 ho56 hb hg_ hnew_;clear hg_ hnew_;(first|rw [← Ny401.out] at ho56|(simp only [Int.reduceToNat] at ho56;rw [← Ny401.out] at ho56));have n0_:=bS HO_7 hb;have n1_:=eS HO_8 (Kd.R_base ho56) hb;have n2_:=eR HO_9 (Kd.R_base ho56) hb;have n3_:=eR HO_12 (Kd.R_base ho56) hb;have n4_:=am (Kd.R_lower (Kd.R_new' (Kd.R_new' ho56 (Kd.R_lt (yR HO_9))) (Kd.R_lt (yR HO_12))) (pz (yW HB)));have n5_:=yb BK372 hb;have n6_:=yb BK395 hb;have n7_:=yH HB hb;clear HO_7;clear HO_8;clear HO_9;clear HO_12;clear BK372;clear BK395;clear HB;have HO_7:=n0_;have HO_8:=n1_;have HO_9:=n2_;have HO_12:=n3_;have HO403:=n4_;have BK372:=n5_;have BK395:=n6_;have HB:=n7_;clear n0_ n1_ n2_ n3_ n4_ n5_ n6_ n7_;clear hb ho56;obtain ⟨Ao57,co57,eo57⟩:=Kd.R_slice HO_12.out;subst eo57));try go_wp2_with (first|(go_at_call 59;(with_reducible refine (impl_Msr_size.calls a0_0 a0_1 t400 _ A49.out).mono ?_);rintro e w54 ⟨rfl,hb⟩;have n0_:=bS HO_7 hb;have n1_:=bS HO_8 hb;have n2_:=bR HO_9 hb;have n3_:=bR HO_12 hb;have n4_:=yb BK372 hb;have n5_:=yb BK395 hb;have n6_:=yH HB hb;clear HO_7;clear HO_8;clear HO_9;clear HO_12;clear BK372;clear BK395;clear HB;have HO_7:=n0_;have HO_8:=n1_;have HO_9:=n2_;have HO_12:=n3_;have BK372:=n4_;have BK395:=n5_;have HB:=n6_;clear n0_ n1_ n2_ n3_ n4_ n5_ n6_;(try clear hb);(try clear hb2);(try clear hk);(try clear hi))|((with_reducible refine gate_dst (N:=78) rfl ?_);(try (refine gate_guard D15 ?_;dsimp only));refine Kd.R_make (Kd.int .u8) _ 5 rfl (N:=78) rfl 24 _ _ rfl t400 rfl rfl Try.underlying24 (.int .u8 0) 1 info5 rfl D8 D11 0 (ok:=fun _=>True) (okp:=fun _=>True) rfl (fun _ hk=>hk) trivial (od D0) (Nat.le_trans (Nat.mul_le_mul_right _ (od D0:t400.toNat≤281474976710656)) D11) (Below.refl _ _) (Nat.le_refl _) ?_;intro v402 w55 ho56 hb hg_ hnew_;clear hg_ hnew_;(first|rw [← Ny401.out] at ho56|(simp only [Int.reduceToNat] at ho56;rw [← Ny401.out] at ho56));have n0_:=bS HO_7 hb;have n1_:=eS HO_8 (Kd.R_base ho56) hb;have n2_:=eR HO_9 (Kd.R_base ho56) hb;have n3_:=eR HO_12 (Kd.R_base ho56) hb;have n4_:=am (Kd.R_lower (Kd.R_new' (Kd.R_new' ho56 (Kd.R_lt (yR HO_9))) (Kd.R_lt (yR HO_12))) (pz (yW HB)));have n5_:=yb BK372 hb;have n6_:=yb BK395 hb;have n7_:=yH HB hb;clear HO_7;clear HO_8;clear HO_9;clear HO_12;clear BK372;clear BK395;clear HB;have HO_7:=n0_;have HO_8:=n1_;have HO_9:=n2_;have HO_12:=n3_;have HO403:=n4_;have BK372:=n5_;have BK395:=n6_;have HB:=n7_;clear n0_ n1_ n2_ n3_ n4_ n5_ n6_ n7_;clear hb ho56;obtain ⟨Ao57,co57,eo57⟩:=Kd.R_slice HO_12.out;subst eo57)))
           go_loopg [81] k4 (fun kq v81 w'=>∃ (x15_5:List Int) (x81_5:Int),v81 = .int .i64 x81_5∧Aside0 (impl_DecodeMsr.l3 kq t377 x8_4 x9_4 x12_4 x71_4 (rd ((rd_T76 y386 x60_3).f1) x71_4) x15_5 y386 (y386.length:Int) x60_3 ((rd_T76 y386 x60_3).f1) (((rd_T76 y386 x60_3).f1).length:Int) x71_4 x12_4 (x12_4.length:Int) x81_5 a0_0 a0_1=some (r1,r2))∧Aside0 (kq≤k4)∧Aside0 (Kd.S (Kd.slice 3 (Kd.int .i64)) 62 w' w.heap.size (fun _=>True) v378 t377)∧Aside0 (Kd.S (Kd.slice 5 (Kd.int .u8)) 24 w' w.heap.size (fun k_=>some k_ ≠ (u9:Value).ownBlock∧some k_ ≠ ((.slice Ao57 x12_4.length co57):Value).ownBlock∧some k_ ≠ (v402:Value).ownBlock∧some k_ ≠ ((.slice Ao57 x12_4.length co57):Value).ownBlock) u8 x8_4)∧Aside0 (Kd.R (Kd.int .u8) 5 w' w.heap.size (fun k_=>some k_ ≠ ((.slice Ao57 x12_4.length co57):Value).ownBlock∧some k_ ≠ (v402:Value).ownBlock∧some k_ ≠ ((.slice Ao57 x12_4.length co57):Value).ownBlock) u9 x9_4)∧Aside0 (Kd.R (Kd.int .u8) 5 w' w.heap.size (fun k_=>some k_ ≠ (u9:Value).ownBlock∧some k_ ≠ (v402:Value).ownBlock) (.slice Ao57 x12_4.length co57) x12_4)∧Aside0 (Kd.R (Kd.int .u8) 5 w' w.heap.size (fun k_=>some k_ ≠ (u9:Value).ownBlock∧some k_ ≠ ((.slice Ao57 x12_4.length co57):Value).ownBlock∧some k_ ≠ ((.slice Ao57 x12_4.length co57):Value).ownBlock) v402 x15_5)∧Aside0 (Kd.R (Kd.int .u8) 5 w' w.heap.size (fun k_=>some k_ ≠ (u9:Value).ownBlock∧some k_ ≠ (v402:Value).ownBlock) (.slice Ao57 x12_4.length co57) x12_4)∧Aside0 (w'.heap[gb372]? = some (.cells #[.int .i64 a0_0, .int .i64 a0_1] 30 (0,0)))∧Aside0 (w'.heap[gb395]? = some (.cells #[.int .i64 ((rd_T76 y386 x60_3).f0),(.slice (some ad399) ((rd_T76 y386 x60_3).f1).length c394_1)] 76 (0,0)))∧Aside0 (Below w.heap.size w w'))
           case atStart=>exact ⟨(y401),(0),D1,H',⟨Nat.le_refl _⟩,⟨yS HO_7⟩,⟨by refine sS ?_;exact Kd.S_mono HO_8.out (fun _ hk=>⟨hk.1.1,⟨hk.1.2,⟨hk.2,hk.1.2⟩⟩⟩)⟩,⟨by refine sR ?_;exact Kd.R_mono HO_9.out (fun _ hk=>⟨hk.1,⟨hk.2,hk.1⟩⟩)⟩,⟨yR HO_12⟩,⟨by refine sR ?_;exact Kd.R_mono HO403.out (fun _ hk=>⟨hk.1.2,⟨hk.2,hk.2⟩⟩)⟩,⟨yR HO_12⟩,⟨yB BK372⟩,⟨yB BK395⟩,⟨yW HB⟩⟩
           case round =>
            clear H'
            try clear c1
            try clear c2
            try clear p2
            try clear c3
            try clear p3
            try clear q3
            try clear hx3
            try clear c4
            try clear c5
            try clear c6
            try clear p6
            try clear c7
            try clear c7b0
            try clear c18
            try clear c19
            try clear c19b0
            try clear c20
            try clear c20b0
            try clear c22
            try clear c22b0
            try clear c23
            try clear c23b0
            try clear c24
            try clear c24b0
            try clear c26
            try clear c26b0
            try clear c26b1
            try clear c27
            try clear c27b0
            try clear c27b1
            try clear q35
            try clear c36
            try clear c36b0
            try clear c37
            try clear c37b0
            try clear p37
            try clear q37
            try clear hx37
            try clear c38
            try clear c38b0
            try clear c39
            try clear p39
            try clear q39
            try clear hx39
            try clear c41
            try clear c46
            try clear c46b0
            try clear c47
            try clear c47b0
            try clear c48
            try clear c48b0
            try clear c50
            try clear c50b0
            try clear c50b1
            try clear c51
            try clear c51b0
            try clear c51b1
            try clear c52
            try clear hcz10_0
            try clear hcz10_1
            try clear hcz12_0
            try clear hcz12_1
            try clear hcz14_0
            try clear hcz14_1
            try clear hcz16_0
            try clear hcz16_1
            try clear hcz28_0
            try clear hcz28_1
            try clear hcz34_0
            try clear hcz34_1
            try clear hcz42_0
            try clear hcz42_1
            try clear hcz43_0
            try clear hcz43_1
            try clear hcz45_0
            try clear hcz45_1
            try clear hcz53_0
            try clear hcz53_1
            try clear hcz8_0
            try clear hcz8_1
            try clear hfz10_0
            try clear hfz10_1
            try clear hfz12_0
            try clear hfz12_1
            try clear hfz14_0
            try clear hfz14_1
            try clear hfz16_0
            try clear hfz16_1
            try clear hfz28_0
            try clear hfz28_1
            try clear hfz34_0
            try clear hfz34_1
            try clear hfz42_0
            try clear hfz42_1
            try clear hfz43_0
            try clear hfz43_1
            try clear hfz45_0
            try clear hfz45_1
            try clear hfz53_0
            try clear hfz53_1
            try clear hfz8_0
            try clear hfz8_1
            try clear hx375_0
            try clear hx375_1
            try clear hx376_0
            try clear hx376_1
            try clear hx394_0
            try clear hx394_1
            try clear hx399_0
            try clear p2
            try clear p3
            try clear p37
            try clear p375
            try clear p376
            try clear p39
            try clear p394
            try clear p399
            try clear p6
            try clear q3
            try clear q35
            try clear q37
            try clear q375
            try clear q376
            try clear q39
            try clear q394
            try clear q399
            obtain ⟨x15_5,x81_5,rfl,HA,HK5,HO_7,HO_8,HO_9,HO_12,HO_15,HO_79,BK372,BK395,HB⟩:=hrel
            cases gk with
            | zero=>exact absurd HA.out (by simp [impl_DecodeMsr.l3])
            | succ k5 =>
             have H:=HA.out
             clear HA
             simp only [impl_DecodeMsr.l3] at H
             by_cases c58:x81_5 < (x12_4.length:Int)
             ·rw [if_pos c58] at H
              have c58b0:=decide_eq_true c58
              clear c58
              obtain ⟨c59,H⟩:=yi H
              have c59b0:=decide_eq_true c59
              clear c59
              obtain ⟨c60,H⟩:=yi H
              have c60b0:=decide_eq_true c60
              clear c60
              obtain ⟨c61,H⟩:=yi H
              have c61b0:=decide_eq_true c61
              clear c61
              obtain ⟨c62,H⟩:=yi H
              have c62b0:=decide_eq_true c62
              clear c62
              obtain ⟨c63,H⟩:=yi H
              have c63b0:=decide_eq_true c63
              clear c63
              obtain ⟨c64,H⟩:=yi H
              have c64b0:=decide_eq_true c64
              clear c64
              obtain ⟨c65,H⟩:=yi H
              have c65b0:=decide_eq_true c65
              clear c65
              generalize hy408:(x15_5.set ((rd (rd_L1 t377 x81_5) x71_4):Int).toNat (Go.bits .xor .u8 (rd x15_5 (rd (rd_L1 t377 x81_5) x71_4)) (rd x12_4 x81_5)):List Int)=y408 at H
              have Ny408:=am hy408.symm
              clear hy408
              have H':=am H
              clear H
              have p404:0≤(x81_5:Int):=od D0
              have q404:x81_5 < (x12_4.length:Int):=od D0
              obtain ⟨ad404,e404,hx404_0⟩:=Kd.at_int (Kd.R_reads' HO_79.out).2.2 x81_5 p404 q404
              cases e404
              replace p404:=eq_true p404
              replace q404:=eq_true q404
              obtain ⟨Ao67,co67,eo67⟩:=Kd.S_slice HO_7.out
              subst eo67
              have p405:0≤(x81_5:Int):=od D0
              have q405:x81_5 < (t377.length:Int):=od D0
              obtain ⟨ad405,A405_0,c405_0,e405,hx405_0,hl405_0,hi405_0⟩:=at_L1 (Kd.S_reads' HO_7.out).2.2 x81_5 p405 q405
              cases e405
              obtain ⟨ce405,hce405,hMe405,hcc405⟩:=Kd.S_get HO_7.out [] x81_5 p405 (by first|exact q405|exact od D0|(have e_:=(Kd.S_reads' HO_7.out).1;omega))
              obtain ⟨ve405_0,rfl,ge405_0⟩:=hMe405
              have hv405_0:=hcc405 0 _ rfl
              rw [Nat.add_zero,show ((Kd.slice 3 (Kd.int .i64))).sz=1 from rfl,Nat.mul_one] at hv405_0
              replace hv405_0:=Option.some.inj (hv405_0.symm.trans hx405_0)
              rw [hv405_0] at ge405_0
              have HL405_0:=am (show Kd.R (Kd.int .i64) 3 _ _ _ _ (rd_L1 t377 x81_5) from ge405_0)
              clear hv405_0 ge405_0
              clear hcc405 hce405
              have HR405_0:=am hi405_0
              have HC405_0:=am hl405_0
              clear hi405_0 hl405_0
              replace p405:=eq_true p405
              replace q405:=eq_true q405
              have p406:0≤(x71_4:Int):=od D0
              have q406:x71_4 < ((rd_L1 t377 x81_5).length:Int):=od D0
              obtain ⟨ad406,e406,hx406_0⟩:=Kd.at_int (by repeat (first|(with_reducible exact HR405_0.out)|(with_reducible refine Kd.C_alloc ?_ _)|(with_reducible refine Kd.C_drewN ?_ _)|(with_reducible refine Kd.C_drew ?_)|exact HR405_0.out)) x71_4 p406 q406
              cases e406
              replace p406:=eq_true p406
              replace q406:=eq_true q406
              obtain ⟨Ao68,co68,eo68⟩:=Kd.R_slice HO_15.out
              subst eo68
              have p407:0≤((rd (rd_L1 t377 x81_5) x71_4):Int):=od D0
              have q407:(rd (rd_L1 t377 x81_5) x71_4) < (x15_5.length:Int):=od D0
              obtain ⟨ad407,e407,hx407_0⟩:=Kd.at_int (Kd.R_reads' HO_15.out).2.2 (rd (rd_L1 t377 x81_5) x71_4) p407 q407
              cases e407
              replace p407:=eq_true p407
              replace q407:=eq_true q407
              have p66:0≤((rd (rd_L1 t377 x81_5) x71_4):Int):=od D0
              have q66:((rd (rd_L1 t377 x81_5) x71_4):Int) < ((x15_5.length:Int):Int):=od D0
              obtain ⟨go66,co66,eo66,gb66,gl66,cl66,HG66⟩:=Kd.R_form HO_15.out D11
              (first|cases eo66|(injection eo66 with ea_ en_ ec_;(first|subst ea_|(injection ea_ with ea_;subst ea_));subst ec_;clear en_))
              have GB66:=am gb66
              have GG66:=am HG66
              clear gb66 gl66 HG66
              (first|simp only [add_plain] at hx407_0|skip)
              obtain ⟨hx66_0,hf66_0⟩:=Kd.R_celln 0 HO_15.out ((rd (rd_L1 t377 x81_5) x71_4):Int) p66 q66
              replace p66:=eq_true p66
              replace q66:=eq_true q66
              have HP69:=Kd.R_putg HO_15.out ((rd (rd_L1 t377 x81_5) x71_4):Int) (Go.bits .xor .u8 (rd x15_5 (rd (rd_L1 t377 x81_5) x71_4)) (rd x12_4 x81_5))
              go_wp2_with (first|((with_reducible refine gate_store (t:=5) (p:=98) rfl ?_);(try (rw [drewN_self wr];generalize hq_:World.drewN wr _=wr;have n0_:=am (Kd.S_at hq_ HO_7.out);have n1_:=am (Kd.S_at hq_ HO_8.out);have n2_:=am (Kd.R_at hq_ HO_9.out);have n3_:=am (Kd.R_at hq_ HO_12.out);have n4_:=am (Kd.R_at hq_ HO_15.out);have n5_:=am (Kd.R_at hq_ HO_79.out);have n6_:=am (Kd.R_at hq_ HL405_0.out);have n7_:=am (blk_at hq_ BK372.out);have n8_:=am (blk_at hq_ BK395.out);have n9_:=am (below_at hq_ HB.out);clear hq_ HO_7 HO_8 HO_9 HO_12 HO_15 HO_79 HL405_0 BK372 BK395 HB;have HO_7:=n0_;have HO_8:=n1_;have HO_9:=n2_;have HO_12:=n3_;have HO_15:=n4_;have HO_79:=n5_;have HL405_0:=n6_;have BK372:=n7_;have BK395:=n8_;have HB:=n9_;clear n0_ n1_ n2_ n3_ n4_ n5_ n6_ n7_ n8_ n9_;(try (have HP69:=Kd.R_putg HO_15.out ((rd (rd_L1 t377 x81_5) x71_4):Int) (Go.bits .xor .u8 (rd x15_5 (rd (rd_L1 t377 x81_5) x71_4)) (rd x12_4 x81_5))))));refine store_event (t:=5) (p:=98) (v:=?vo_w70) (w1:=(wr.setCell ⟨go66,((rd (rd_L1 t377 x81_5) x71_4):Int).toNat,none⟩ (.int .u8 (Go.bits .xor .u8 (rd x15_5 (rd (rd_L1 t377 x81_5) x71_4)) (rd x12_4 x81_5))))) ?hg ?ho ?hn ?hr ?_;(case ho=>rfl);(case hg=>rfl);(case hn=>rfl);(case hr=>first|(go_simp;done)|(go_simp;rfl));intro w70 hw;have hg:wr.grownBy w70 (some go66):=(by rw [hw];exact HP69.2);have hp_:Kd.R (Kd.int .u8) 5 w70 w.heap.size (fun k_=>some k_ ≠ (u9:Value).ownBlock∧some k_ ≠ (.slice (some ad404) x12_4.length co57:Value).ownBlock∧some k_ ≠ (.slice (some ad404) x12_4.length co57:Value).ownBlock) (.slice (some ⟨go66,0,none⟩) x15_5.length co68) y408:=(by rw [hw,Ny408.out];exact HP69.1);clear HP69;replace HO_7:=am (Kd.S_over' (v:=(.slice (some ⟨go66,0,none⟩) x15_5.length co68)) (yS HO_7) (Kd.R_typed HO_15.out) D8 hg);replace HO_8:=am (Kd.S_after (v:=(.slice (some ⟨go66,0,none⟩) x15_5.length co68)) (v1:=(.slice (some ⟨go66,0,none⟩) x15_5.length co68)) (ok:=(fun k_=>some k_ ≠ (u9:Value).ownBlock∧some k_ ≠ (.slice (some ad404) x12_4.length co57:Value).ownBlock∧some k_ ≠ (.slice (some ad404) x12_4.length co57:Value).ownBlock)) D75 hg (.inl rfl));replace HO_9:=am (Kd.R_after (v:=(.slice (some ⟨go66,0,none⟩) x15_5.length co68)) (v1:=(.slice (some ⟨go66,0,none⟩) x15_5.length co68)) (ok:=(fun k_=>some k_ ≠ (.slice (some ad404) x12_4.length co57:Value).ownBlock∧some k_ ≠ (.slice (some ad404) x12_4.length co57:Value).ownBlock)) D93 hg (.inl rfl));replace HO_12:=am (Kd.R_after (v:=(.slice (some ⟨go66,0,none⟩) x15_5.length co68)) (v1:=(.slice (some ⟨go66,0,none⟩) x15_5.length co68)) (ok:=(fun k_=>some k_ ≠ (u9:Value).ownBlock)) (yR HO_12) hg (.inl rfl));replace HO_79:=am (Kd.R_after (v:=(.slice (some ⟨go66,0,none⟩) x15_5.length co68)) (v1:=(.slice (some ⟨go66,0,none⟩) x15_5.length co68)) (ok:=(fun k_=>some k_ ≠ (u9:Value).ownBlock)) (yR HO_79) hg (.inl rfl));replace BK372:=am (blk_grown (g:=gb372) (o:=.cells #[.int .i64 a0_0, .int .i64 a0_1] 30 (0,0)) (yB BK372) hg (Kd.R_ne HO_15.out BK372.out D8));replace BK395:=am (blk_grown (g:=gb395) (o:=.cells #[.int .i64 ((rd_T76 y386 x60_3).f0), .slice (some ad399) ((rd_T76 y386 x60_3).f1).length c394_1] 76 (0,0)) (yB BK395) hg (Kd.R_ne HO_15.out BK395.out D8));replace HL405_0:=am (Kd.R_over' (v:=(.slice (some ⟨go66,0,none⟩) x15_5.length co68)) (yR HL405_0) (Kd.R_typed HO_15.out) D8 hg);replace HO_15:=am (hp_);replace HB:=am ((by rw [hw];exact pt (HB.out) GB66.out:Below w.heap.size w w70));clear hg hw hp_))
              repeat (go_quiet (first|((with_reducible refine gate_store (t:=5) (p:=98) rfl ?_);(try (rw [drewN_self wr];generalize hq_:World.drewN wr _=wr;have n0_:=am (Kd.S_at hq_ HO_7.out);have n1_:=am (Kd.S_at hq_ HO_8.out);have n2_:=am (Kd.R_at hq_ HO_9.out);have n3_:=am (Kd.R_at hq_ HO_12.out);have n4_:=am (Kd.R_at hq_ HO_15.out);have n5_:=am (Kd.R_at hq_ HO_79.out);have n6_:=am (Kd.R_at hq_ HL405_0.out);have n7_:=am (blk_at hq_ BK372.out);have n8_:=am (blk_at hq_ BK395.out);have n9_:=am (below_at hq_ HB.out);clear hq_ HO_7 HO_8 HO_9 HO_12 HO_15 HO_79 HL405_0 BK372 BK395 HB;have HO_7:=n0_;have HO_8:=n1_;have HO_9:=n2_;have HO_12:=n3_;have HO_15:=n4_;have HO_79:=n5_;have HL405_0:=n6_;have BK372:=n7_;have BK395:=n8_;have HB:=n9_;clear n0_ n1_ n2_ n3_ n4_ n5_ n6_ n7_ n8_ n9_;(try (have HP69:=Kd.R_putg HO_15.out ((rd (rd_L1 t377 x81_5) x71_4):Int) (Go.bits .xor .u8 (rd x15_5 (rd (rd_L1 t377 x81_5) x71_4)) (rd x12_4 x81_5))))));refine store_event (t:=5) (p:=98) (v:=?vo_w70) (w1:=(wr.setCell ⟨go66,((rd (rd_L1 t377 x81_5) x71_4):Int).toNat,none⟩ (.int .u8 (Go.bits .xor .u8 (rd x15_5 (rd (rd_L1 t377 x81_5) x71_4)) (rd x12_4 x81_5))))) ?hg ?ho ?hn ?hr ?_;(case ho=>rfl);(case hg=>rfl);(case hn=>rfl);(case hr=>first|(go_simp;done)|(go_simp;rfl));intro w70 hw;have hg:wr.grownBy w70 (some go66):=(by rw [hw];exact HP69.2);have hp_:Kd.R (Kd.int .u8) 5 w70 w.heap.size (fun k_=>some k_ ≠ (u9:Value).ownBlock∧some k_ ≠ (.slice (some ad404) x12_4.length co57:Value).ownBlock∧some k_ ≠ (.slice (some ad404) x12_4.length co57:Value).ownBlock) (.slice (some ⟨go66,0,none⟩) x15_5.length co68) y408:=(by rw [hw,Ny408.out];exact HP69.1);clear HP69;have n0_:=am (Kd.S_over' (v:=(.slice (some ⟨go66,0,none⟩) x15_5.length co68)) (yS HO_7) (Kd.R_typed HO_15.out) D8 hg);have n1_:=am (Kd.S_after (v:=(.slice (some ⟨go66,0,none⟩) x15_5.length co68)) (v1:=(.slice (some ⟨go66,0,none⟩) x15_5.length co68)) (ok:=(fun k_=>some k_ ≠ (u9:Value).ownBlock∧some k_ ≠ (.slice (some ad404) x12_4.length co57:Value).ownBlock∧some k_ ≠ (.slice (some ad404) x12_4.length co57:Value).ownBlock)) D75 hg (.inl rfl));have n2_:=am (Kd.R_after (v:=(.slice (some ⟨go66,0,none⟩) x15_5.length co68)) (v1:=(.slice (some ⟨go66,0,none⟩) x15_5.length co68)) (ok:=(fun k_=>some k_ ≠ (.slice (some ad404) x12_4.length co57:Value).ownBlock∧some k_ ≠ (.slice (some ad404) x12_4.length co57:Value).ownBlock)) D93 hg (.inl rfl));have n3_:=am (Kd.R_after (v:=(.slice (some ⟨go66,0,none⟩) x15_5.length co68)) (v1:=(.slice (some ⟨go66,0,none⟩) x15_5.length co68)) (ok:=(fun k_=>some k_ ≠ (u9:Value).ownBlock)) (yR HO_12) hg (.inl rfl));have n4_:=am (hp_);have n5_:=am (Kd.R_after (v:=(.slice (some ⟨go66,0,none⟩) x15_5.length co68)) (v1:=(.slice (some ⟨go66,0,none⟩) x15_5.length co68)) (ok:=(fun k_=>some k_ ≠ (u9:Value).ownBlock)) (yR HO_79) hg (.inl rfl));have n6_:=am (blk_grown (g:=gb372) (o:=.cells #[.int .i64 a0_0, .int .i64 a0_1] 30 (0,0)) (yB BK372) hg (Kd.R_ne HO_15.out BK372.out D8));have n7_:=am (blk_grown (g:=gb395) (o:=.cells #[.int .i64 ((rd_T76 y386 x60_3).f0), .slice (some ad399) ((rd_T76 y386 x60_3).f1).length c394_1] 76 (0,0)) (yB BK395) hg (Kd.R_ne HO_15.out BK395.out D8));have n8_:=am (Kd.R_over' (v:=(.slice (some ⟨go66,0,none⟩) x15_5.length co68)) (yR HL405_0) (Kd.R_typed HO_15.out) D8 hg);have n9_:=am ((by rw [hw];exact pt (HB.out) GB66.out:Below w.heap.size w w70));clear HO_7;clear HO_8;clear HO_9;clear HO_12;clear HO_15;clear HO_79;clear BK372;clear BK395;clear HL405_0;clear HB;have HO_7:=n0_;have HO_8:=n1_;have HO_9:=n2_;have HO_12:=n3_;have HO_15:=n4_;have HO_79:=n5_;have BK372:=n6_;have BK395:=n7_;have HL405_0:=n8_;have HB:=n9_;clear n0_ n1_ n2_ n3_ n4_ n5_ n6_ n7_ n8_ n9_;clear hg hw hp_));try go_wp2_with (first|((with_reducible refine gate_store (t:=5) (p:=98) rfl ?_);(try (rw [drewN_self wr];generalize hq_:World.drewN wr _=wr;have n0_:=am (Kd.S_at hq_ HO_7.out);have n1_:=am (Kd.S_at hq_ HO_8.out);have n2_:=am (Kd.R_at hq_ HO_9.out);have n3_:=am (Kd.R_at hq_ HO_12.out);have n4_:=am (Kd.R_at hq_ HO_15.out);have n5_:=am (Kd.R_at hq_ HO_79.out);have n6_:=am (Kd.R_at hq_ HL405_0.out);have n7_:=am (blk_at hq_ BK372.out);have n8_:=am (blk_at hq_ BK395.out);have n9_:=am (below_at hq_ HB.out);clear hq_ HO_7 HO_8 HO_9 HO_12 HO_15 HO_79 HL405_0 BK372 BK395 HB;have HO_7:=n0_;have HO_8:=n1_;have HO_9:=n2_;have HO_12:=n3_;have HO_15:=n4_;have HO_79:=n5_;have HL405_0:=n6_;have BK372:=n7_;have BK395:=n8_;have HB:=n9_;clear n0_ n1_ n2_ n3_ n4_ n5_ n6_ n7_ n8_ n9_;(try (have HP69:=Kd.R_putg HO_15.out ((rd (rd_L1 t377 x81_5) x71_4):Int) (Go.bits .xor .u8 (rd x15_5 (rd (rd_L1 t377 x81_5) x71_4)) (rd x12_4 x81_5))))));refine store_event (t:=5) (p:=98) (v:=?vo_w70) (w1:=(wr.setCell ⟨go66,((rd (rd_L1 t377 x81_5) x71_4):Int).toNat,none⟩ (.int .u8 (Go.bits .xor .u8 (rd x15_5 (rd (rd_L1 t377 x81_5) x71_4)) (rd x12_4 x81_5))))) ?hg ?ho ?hn ?hr ?_;(case ho=>rfl);(case hg=>rfl);(case hn=>rfl);(case hr=>first|(go_simp;done)|(go_simp;rfl));intro w70 hw;have hg:wr.grownBy w70 (some go66):=(by rw [hw];exact HP69.2);have hp_:Kd.R (Kd.int .u8) 5 w70 w.heap.size (fun k_=>some k_ ≠ (u9:Value).ownBlock∧some k_ ≠ (.slice (some ad404) x12_4.length co57:Value).ownBlock∧some k_ ≠ (.slice (some ad404) x12_4.length co57:Value).ownBlock) (.slice (some ⟨go66,0,none⟩) x15_5.length co68) y408:=(by rw [hw,Ny408.out];exact HP69.1);clear HP69;have n0_:=am (Kd.S_over' (v:=(.slice (some ⟨go66,0,none⟩) x15_5.length co68)) (yS HO_7) (Kd.R_typed HO_15.out) D8 hg);have n1_:=am (Kd.S_after (v:=(.slice (some ⟨go66,0,none⟩) x15_5.length co68)) (v1:=(.slice (some ⟨go66,0,none⟩) x15_5.length co68)) (ok:=(fun k_=>some k_ ≠ (u9:Value).ownBlock∧some k_ ≠ (.slice (some ad404) x12_4.length co57:Value).ownBlock∧some k_ ≠ (.slice (some ad404) x12_4.length co57:Value).ownBlock)) D75 hg (.inl rfl));have n2_:=am (Kd.R_after (v:=(.slice (some ⟨go66,0,none⟩) x15_5.length co68)) (v1:=(.slice (some ⟨go66,0,none⟩) x15_5.length co68)) (ok:=(fun k_=>some k_ ≠ (.slice (some ad404) x12_4.length co57:Value).ownBlock∧some k_ ≠ (.slice (some ad404) x12_4.length co57:Value).ownBlock)) D93 hg (.inl rfl));have n3_:=am (Kd.R_after (v:=(.slice (some ⟨go66,0,none⟩) x15_5.length co68)) (v1:=(.slice (some ⟨go66,0,none⟩) x15_5.length co68)) (ok:=(fun k_=>some k_ ≠ (u9:Value).ownBlock)) (yR HO_12) hg (.inl rfl));have n4_:=am (hp_);have n5_:=am (Kd.R_after (v:=(.slice (some ⟨go66,0,none⟩) x15_5.length co68)) (v1:=(.slice (some ⟨go66,0,none⟩) x15_5.length co68)) (ok:=(fun k_=>some k_ ≠ (u9:Value).ownBlock)) (yR HO_79) hg (.inl rfl));have n6_:=am (blk_grown (g:=gb372) (o:=.cells #[.int .i64 a0_0, .int .i64 a0_1] 30 (0,0)) (yB BK372) hg (Kd.R_ne HO_15.out BK372.out D8));have n7_:=am (blk_grown (g:=gb395) (o:=.cells #[.int .i64 ((rd_T76 y386 x60_3).f0), .slice (some ad399) ((rd_T76 y386 x60_3).f1).length c394_1] 76 (0,0)) (yB BK395) hg (Kd.R_ne HO_15.out BK395.out D8));have n8_:=am (Kd.R_over' (v:=(.slice (some ⟨go66,0,none⟩) x15_5.length co68)) (yR HL405_0) (Kd.R_typed HO_15.out) D8 hg);have n9_:=am ((by rw [hw];exact pt (HB.out) GB66.out:Below w.heap.size w w70));clear HO_7;clear HO_8;clear HO_9;clear HO_12;clear HO_15;clear HO_79;clear BK372;clear BK395;clear HL405_0;clear HB;have HO_7:=n0_;have HO_8:=n1_;have HO_9:=n2_;have HO_12:=n3_;have HO_15:=n4_;have HO_79:=n5_;have BK372:=n6_;have BK395:=n7_;have HL405_0:=n8_;have HB:=n9_;clear n0_ n1_ n2_ n3_ n4_ n5_ n6_ n7_ n8_ n9_;clear hg hw hp_)))
              go_roundg k5
              case measure=>have:=HJ2.out;have:=HK2.out;have:=HK3.out;have:=HK4.out;have:=HK5.out;omega
              case rel=>exact ⟨(y408),(wrap64 (x81_5+1)),D1,H',⟨by have:=HJ2.out;have:=HK2.out;have:=HK3.out;have:=HK4.out;have:=HK5.out;omega⟩,⟨yS HO_7⟩,⟨by refine sS ?_;exact Kd.S_mono HO_8.out (fun _ hk=>⟨hk.1.1,⟨hk.1.2.1,⟨hk.2,hk.1.2.2⟩⟩⟩)⟩,⟨by refine sR ?_;exact Kd.R_mono HO_9.out (fun _ hk=>⟨hk.1.1,⟨hk.2,hk.1.2⟩⟩)⟩,⟨yR HO_12⟩,⟨yR HO_15⟩,⟨yR HO_79⟩,⟨yB BK372⟩,⟨yB BK395⟩,⟨yW HB⟩⟩
             rw [if_neg c58] at H
             have c58b0:=decide_eq_false c58
             clear c58
             obtain ⟨c71,H⟩:=yi H
             have LMc71:=am c71
             clear c71
             generalize hy409:(x8_4 ++ [x15_5]:List (List Int))=y409 at H
             have Ny409:=am hy409.symm
             clear hy409
             obtain ⟨c72,H⟩:=yi H
             have LMc72:=am c72
             clear c72
             generalize hy412:(x9_4 ++ [(rd ((rd_T76 y386 x60_3).f1) x71_4)]:List Int)=y412 at H
             have Ny412:=am hy412.symm
             clear hy412
             have H':=am H
             clear H
             obtain ⟨Ao74,co74,eo74⟩:=Kd.R_slice HO_15.out
             subst eo74
             go_wp2_with (first|((with_reducible refine gate_builtin (b:=.append) (xs:=#[.tmp 100, .tmp 102]) rfl ?_);(try (refine gate_guard D15 ?_;dsimp only));at_builtin;refine Kd.S_append (Kd.slice 5 (Kd.int .u8)) (w0:=w) w.heap.size rfl (.tmp 100) (.tmp 102) 25 24 (.slice none 0 0) 24 rfl Try.underlying25 info24 rfl D8 D11 u8 x8_4 x15_5 [.slice Ao74 x15_5.length co74] (fun k_=>some k_ ≠ (u9:Value).ownBlock∧some k_ ≠ (.slice Ao57 x12_4.length co57:Value).ownBlock∧some k_ ≠ (.slice Ao57 x12_4.length co57:Value).ownBlock) (fun k_=>some k_=(.slice Ao74 x15_5.length co74:Value).ownBlock) rfl rfl (by exact Kd.M_row (Kd.R_mono (Kd.R_tight rfl (Kd.R_mono (ok':=fun k_=>((fun k_=>some k_ ≠ (u9:Value).ownBlock∧some k_ ≠ (.slice Ao57 x12_4.length co57:Value).ownBlock∧some k_ ≠ (.slice Ao57 x12_4.length co57:Value).ownBlock)) k_∧some k_ ≠ (u8:Value).ownBlock) (Kd.R_apart' (HO_15.out) (Kd.S_typed HO_8.out) D8) (fun k_ hk=>⟨⟨hk.1.1,⟨hk.1.2.1,hk.1.2.2⟩⟩,hk.2⟩))) (fun _ h_=>h_))) (fun k_ hk_=>((Kd.R_mono (ok':=fun k_=>((fun k_=>some k_ ≠ (u9:Value).ownBlock∧some k_ ≠ (.slice Ao57 x12_4.length co57:Value).ownBlock∧some k_ ≠ (.slice Ao57 x12_4.length co57:Value).ownBlock)) k_∧some k_ ≠ (u8:Value).ownBlock) (Kd.R_apart' (HO_15.out) (Kd.S_typed HO_8.out) D8) (fun k_ hk=>⟨⟨hk.1.1,⟨hk.1.2.1,hk.1.2.2⟩⟩,hk.2⟩))).1 k_ hk_.symm) (by exact (fun k_ hk=>⟨Kd.fresh' (Kd.R_lt (yR HO_9)) k_ hk,Kd.fresh' (Kd.R_lt (yR HO_12)) k_ hk,Kd.fresh' (Kd.R_lt (yR HO_79)) k_ hk⟩)) (by exact D71) D55 D47 (by have:=LMc71.out;omega) ?_;intro v410 w73 ho hb hg hat;rw [← Ny409.out] at ho;have n0_:=am (Kd.S_over' (yS HO_7) (Kd.S_typed (yS HO_8)) D8 hg);have n1_:=am (Kd.R_over' (yR HO_9) (Kd.S_typed (yS HO_8)) D8 hg);have n2_:=am (Kd.R_over' (yR HO_12) (Kd.S_typed (yS HO_8)) D8 hg);have n3_:=am (Kd.R_over' (yR HO_79) (Kd.S_typed (yS HO_8)) D8 hg);have n4_:=am (blk_grown (g:=gb372) (o:=.cells #[.int .i64 a0_0, .int .i64 a0_1] 30 (0,0)) (yB BK372) hg (Kd.S_ne HO_8.out BK372.out D8));have n5_:=am (blk_grown (g:=gb395) (o:=.cells #[.int .i64 ((rd_T76 y386 x60_3).f0), .slice (some ad399) ((rd_T76 y386 x60_3).f1).length c394_1] 76 (0,0)) (yB BK395) hg (Kd.S_ne HO_8.out BK395.out D8));have n6_:=am (hb);have n7_:=am (ho);clear HO_7 HO_9 HO_12 HO_79 BK372 BK395 HB HO_8 HO_15;have HO_7:=n0_;have HO_9:=n1_;have HO_12:=n2_;have HO_79:=n3_;have BK372:=n4_;have BK395:=n5_;have HB:=n6_;have HO411:=n7_;clear n0_ n1_ n2_ n3_ n4_ n5_ n6_ n7_ ho hb hg hat)|((with_reducible refine gate_builtin (b:=.append) (xs:=#[.tmp 104, .tmp 106]) rfl ?_);(try (refine gate_guard D15 ?_;dsimp only));at_builtin;refine Kd.R_append (Kd.int .u8) (w0:=w) w.heap.size rfl (.tmp 104) (.tmp 106) 24 5 (.int .u8 0) 1 rfl Try.underlying24 info5 rfl D8 D11 u9 x9_4 (rd ((rd_T76 y386 x60_3).f1) x71_4) [.int .u8 (rd ((rd_T76 y386 x60_3).f1) x71_4)] (fun k_=>some k_ ≠ (.slice Ao57 x12_4.length co57:Value).ownBlock∧some k_ ≠ (.slice Ao57 x12_4.length co57:Value).ownBlock) (fun _=>False) rfl rfl D79 (fun _ hk=>hk.elim) (by exact (fun k_ hk=>⟨Kd.fresh' (Kd.R_lt (yR HO_12)) k_ hk,Kd.fresh' (Kd.R_lt (yR HO_79)) k_ hk⟩)) (by exact D103) D55 D47 (by have:=LMc72.out;omega) ?_;intro v413 w75 ho hb hg hat;rw [← Ny412.out] at ho;have n0_:=am (Kd.S_over' (yS HO_7) (Kd.R_typed (yR HO_9)) D8 hg);have n1_:=am (Kd.R_after (ok:=(fun _=>True)) D102 hg hat);have n2_:=am (Kd.R_after (ok:=(fun _=>True)) D101 hg hat);have n3_:=am (blk_grown (g:=gb372) (o:=.cells #[.int .i64 a0_0, .int .i64 a0_1] 30 (0,0)) (yB BK372) hg (Kd.R_ne HO_9.out BK372.out D8));have n4_:=am (blk_grown (g:=gb395) (o:=.cells #[.int .i64 ((rd_T76 y386 x60_3).f0), .slice (some ad399) ((rd_T76 y386 x60_3).f1).length c394_1] 76 (0,0)) (yB BK395) hg (Kd.R_ne HO_9.out BK395.out D8));have n5_:=am (Kd.S_after (ok:=(fun k_=>some k_ ≠ (.slice Ao57 x12_4.length co57:Value).ownBlock∧some k_ ≠ (.slice Ao57 x12_4.length co57:Value).ownBlock)) D87 hg hat);have n6_:=am (hb);have n7_:=am (ho);clear HO_7 HO_12 HO_79 BK372 BK395 HO411 HB HO_9;have HO_7:=n0_;have HO_12:=n1_;have HO_79:=n2_;have BK372:=n3_;have BK395:=n4_;have HO411:=n5_;have HB:=n6_;have HO414:=n7_;clear n0_ n1_ n2_ n3_ n4_ n5_ n6_ n7_ ho hb hg hat))
             repeat (go_quiet (first|((with_reducible refine gate_builtin (b:=.append) (xs:=#[.tmp 100, .tmp 102]) rfl ?_);(try (refine gate_guard D15 ?_;dsimp only));at_builtin;refine Kd.S_append (Kd.slice 5 (Kd.int .u8)) (w0:=w) w.heap.size rfl (.tmp 100) (.tmp 102) 25 24 (.slice none 0 0) 24 rfl Try.underlying25 info24 rfl D8 D11 u8 x8_4 x15_5 [.slice Ao74 x15_5.length co74] (fun k_=>some k_ ≠ (u9:Value).ownBlock∧some k_ ≠ (.slice Ao57 x12_4.length co57:Value).ownBlock∧some k_ ≠ (.slice Ao57 x12_4.length co57:Value).ownBlock) (fun k_=>some k_=(.slice Ao74 x15_5.length co74:Value).ownBlock) rfl rfl ?aP (fun k_ hk_=>((Kd.R_mono (ok':=fun k_=>((fun k_=>some k_ ≠ (u9:Value).ownBlock∧some k_ ≠ (.slice Ao57 x12_4.length co57:Value).ownBlock∧some k_ ≠ (.slice Ao57 x12_4.length co57:Value).ownBlock)) k_∧some k_ ≠ (u8:Value).ownBlock) (Kd.R_apart' (HO_15.out) (Kd.S_typed HO_8.out) D8) (fun k_ hk=>⟨⟨hk.1.1,⟨hk.1.2.1,hk.1.2.2⟩⟩,hk.2⟩))).1 k_ hk_.symm) ?aF ?aO ?aB ?aS ?aL ?_;(case aP=>exact Kd.M_row (Kd.R_mono (Kd.R_tight rfl (Kd.R_mono (ok':=fun k_=>((fun k_=>some k_ ≠ (u9:Value).ownBlock∧some k_ ≠ (.slice Ao57 x12_4.length co57:Value).ownBlock∧some k_ ≠ (.slice Ao57 x12_4.length co57:Value).ownBlock)) k_∧some k_ ≠ (u8:Value).ownBlock) (Kd.R_apart' (HO_15.out) (Kd.S_typed HO_8.out) D8) (fun k_ hk=>⟨⟨hk.1.1,⟨hk.1.2.1,hk.1.2.2⟩⟩,hk.2⟩))) (fun _ h_=>h_)));(case aB=>exact (yW HB));(case aF=>exact (fun k_ hk=>⟨Kd.fresh' (Kd.R_lt (yR HO_9)) k_ hk,Kd.fresh' (Kd.R_lt (yR HO_12)) k_ hk,Kd.fresh' (Kd.R_lt (yR HO_79)) k_ hk⟩));(case aO=>exact D71);(case aS=>exact (pz (yW HB)));(case aL=>have:=LMc71.out;omega);intro v410 w73 ho hb hg hat;rw [← Ny409.out] at ho;have n0_:=am (Kd.S_over' (yS HO_7) (Kd.S_typed (yS HO_8)) D8 hg);have n1_:=am (Kd.R_over' (yR HO_9) (Kd.S_typed (yS HO_8)) D8 hg);have n2_:=am (Kd.R_over' (yR HO_12) (Kd.S_typed (yS HO_8)) D8 hg);have n3_:=am (Kd.R_over' (yR HO_79) (Kd.S_typed (yS HO_8)) D8 hg);have n4_:=am (blk_grown (g:=gb372) (o:=.cells #[.int .i64 a0_0, .int .i64 a0_1] 30 (0,0)) (yB BK372) hg (Kd.S_ne HO_8.out BK372.out D8));have n5_:=am (blk_grown (g:=gb395) (o:=.cells #[.int .i64 ((rd_T76 y386 x60_3).f0), .slice (some ad399) ((rd_T76 y386 x60_3).f1).length c394_1] 76 (0,0)) (yB BK395) hg (Kd.S_ne HO_8.out BK395.out D8));have n6_:=am (hb);have n7_:=am (ho);clear HO_7;clear HO_9;clear HO_12;clear HO_79;clear BK372;clear BK395;clear HB;clear HO_8;clear HO_15;have HO_7:=n0_;have HO_9:=n1_;have HO_12:=n2_;have HO_79:=n3_;have BK372:=n4_;have BK395:=n5_;have HB:=n6_;have HO411:=n7_;clear n0_ n1_ n2_ n3_ n4_ n5_ n6_ n7_;clear ho hb hg hat)|((with_reducible refine gate_builtin (b:=.append) (xs:=#[.tmp 104, .tmp 106]) rfl ?_);(try (refine gate_guard D15 ?_;dsimp only));at_builtin;refine Kd.R_append (Kd.int .u8) (w0:=w) w.heap.size rfl (.tmp 104) (.tmp 106) 24 5 (.int .u8 0) 1 rfl Try.underlying24 info5 rfl D8 D11 u9 x9_4 (rd ((rd_T76 y386 x60_3).f1) x71_4) [.int .u8 (rd ((rd_T76 y386 x60_3).f1) x71_4)] (fun k_=>some k_ ≠ (.slice Ao57 x12_4.length co57:Value).ownBlock∧some k_ ≠ (.slice Ao57 x12_4.length co57:Value).ownBlock) (fun _=>False) rfl rfl ?aP (fun _ hk=>hk.elim) ?aF ?aO ?aB ?aS ?aL ?_;(case aP=>exact rfl);(case aB=>exact (yW HB));(case aF=>exact (fun k_ hk=>⟨Kd.fresh' (Kd.R_lt (yR HO_12)) k_ hk,Kd.fresh' (Kd.R_lt (yR HO_79)) k_ hk⟩));(case aO=>exact D103);(case aS=>exact (pz (yW HB)));(case aL=>have:=LMc72.out;omega);intro v413 w75 ho hb hg hat;rw [← Ny412.out] at ho;have n0_:=am (Kd.S_over' (yS HO_7) (Kd.R_typed (yR HO_9)) D8 hg);have n1_:=am (Kd.R_after (ok:=(fun _=>True)) D102 hg hat);have n2_:=am (Kd.R_after (ok:=(fun _=>True)) D101 hg hat);have n3_:=am (blk_grown (g:=gb372) (o:=.cells #[.int .i64 a0_0, .int .i64 a0_1] 30 (0,0)) (yB BK372) hg (Kd.R_ne HO_9.out BK372.out D8));have n4_:=am (blk_grown (g:=gb395) (o:=.cells #[.int .i64 ((rd_T76 y386 x60_3).f0), .slice (some ad399) ((rd_T76 y386 x60_3).f1).length c394_1] 76 (0,0)) (yB BK395) hg (Kd.R_ne HO_9.out BK395.out D8));have n5_:=am (Kd.S_after (ok:=(fun k_=>some k_ ≠ (.slice Ao57 x12_4.length co57:Value).ownBlock∧some k_ ≠ (.slice Ao57 x12_4.length co57:Value).ownBlock)) D87 hg hat);have n6_:=am (hb);have n7_:=am (ho);clear HO_7;clear HO_12;clear HO_79;clear BK372;clear BK395;clear HO411;clear HB;clear HO_9;have HO_7:=n0_;have HO_12:=n1_;have HO_79:=n2_;have BK372:=n3_;have BK395:=n4_;have HO411:=n5_;have HB:=n6_;have HO414:=n7_;clear n0_ n1_ n2_ n3_ n4_ n5_ n6_ n7_;clear ho hb hg hat));try go_wp2_with (first|((with_reducible refine gate_builtin (b:=.append) (xs:=#[.tmp 100, .tmp 102]) rfl ?_);(try (refine gate_guard D15 ?_;dsimp only));at_builtin;refine Kd.S_append (Kd.slice 5 (Kd.int .u8)) (w0:=w) w.heap.size rfl (.tmp 100) (.tmp 102) 25 24 (.slice none 0 0) 24 rfl Try.underlying25 info24 rfl D8 D11 u8 x8_4 x15_5 [.slice Ao74 x15_5.length co74] (fun k_=>some k_ ≠ (u9:Value).ownBlock∧some k_ ≠ (.slice Ao57 x12_4.length co57:Value).ownBlock∧some k_ ≠ (.slice Ao57 x12_4.length co57:Value).ownBlock) (fun k_=>some k_=(.slice Ao74 x15_5.length co74:Value).ownBlock) rfl rfl ?aP (fun k_ hk_=>((Kd.R_mono (ok':=fun k_=>((fun k_=>some k_ ≠ (u9:Value).ownBlock∧some k_ ≠ (.slice Ao57 x12_4.length co57:Value).ownBlock∧some k_ ≠ (.slice Ao57 x12_4.length co57:Value).ownBlock)) k_∧some k_ ≠ (u8:Value).ownBlock) (Kd.R_apart' (HO_15.out) (Kd.S_typed HO_8.out) D8) (fun k_ hk=>⟨⟨hk.1.1,⟨hk.1.2.1,hk.1.2.2⟩⟩,hk.2⟩))).1 k_ hk_.symm) ?aF ?aO ?aB ?aS ?aL ?_;(case aP=>exact Kd.M_row (Kd.R_mono (Kd.R_tight rfl (Kd.R_mono (ok':=fun k_=>((fun k_=>some k_ ≠ (u9:Value).ownBlock∧some k_ ≠ (.slice Ao57 x12_4.length co57:Value).ownBlock∧some k_ ≠ (.slice Ao57 x12_4.length co57:Value).ownBlock)) k_∧some k_ ≠ (u8:Value).ownBlock) (Kd.R_apart' (HO_15.out) (Kd.S_typed HO_8.out) D8) (fun k_ hk=>⟨⟨hk.1.1,⟨hk.1.2.1,hk.1.2.2⟩⟩,hk.2⟩))) (fun _ h_=>h_)));(case aB=>exact (yW HB));(case aF=>exact (fun k_ hk=>⟨Kd.fresh' (Kd.R_lt (yR HO_9)) k_ hk,Kd.fresh' (Kd.R_lt (yR HO_12)) k_ hk,Kd.fresh' (Kd.R_lt (yR HO_79)) k_ hk⟩));(case aO=>exact D71);(case aS=>exact (pz (yW HB)));(case aL=>have:=LMc71.out;omega);intro v410 w73 ho hb hg hat;rw [← Ny409.out] at ho;have n0_:=am (Kd.S_over' (yS HO_7) (Kd.S_typed (yS HO_8)) D8 hg);have n1_:=am (Kd.R_over' (yR HO_9) (Kd.S_typed (yS HO_8)) D8 hg);have n2_:=am (Kd.R_over' (yR HO_12) (Kd.S_typed (yS HO_8)) D8 hg);have n3_:=am (Kd.R_over' (yR HO_79) (Kd.S_typed (yS HO_8)) D8 hg);have n4_:=am (blk_grown (g:=gb372) (o:=.cells #[.int .i64 a0_0, .int .i64 a0_1] 30 (0,0)) (yB BK372) hg (Kd.S_ne HO_8.out BK372.out D8));have n5_:=am (blk_grown (g:=gb395) (o:=.cells #[.int .i64 ((rd_T76 y386 x60_3).f0), .slice (some ad399) ((rd_T76 y386 x60_3).f1).length c394_1] 76 (0,0)) (yB BK395) hg (Kd.S_ne HO_8.out BK395.out D8));have n6_:=am (hb);have n7_:=am (ho);clear HO_7;clear HO_9;clear HO_12;clear HO_79;clear BK372;clear BK395;clear HB;clear HO_8;clear HO_15;have HO_7:=n0_;have HO_9:=n1_;have HO_12:=n2_;have HO_79:=n3_;have BK372:=n4_;have BK395:=n5_;have HB:=n6_;have HO411:=n7_;clear n0_ n1_ n2_ n3_ n4_ n5_ n6_ n7_;clear ho hb hg hat)|((with_reducible refine gate_builtin (b:=.append) (xs:=#[.tmp 104, .tmp 106]) rfl ?_);(try (refine gate_guard D15 ?_;dsimp only));at_builtin;refine Kd.R_append (Kd.int .u8) (w0:=w) w.heap.size rfl (.tmp 104) (.tmp 106) 24 5 (.int .u8 0) 1 rfl Try.underlying24 info5 rfl D8 D11 u9 x9_4 (rd ((rd_T76 y386 x60_3).f1) x71_4) [.int .u8 (rd ((rd_T76 y386 x60_3).f1) x71_4)] (fun k_=>some k_ ≠ (.slice Ao57 x12_4.length co57:Value).ownBlock∧some k_ ≠ (.slice Ao57 x12_4.length co57:Value).ownBlock) (fun _=>False) rfl rfl ?aP (fun _ hk=>hk.elim) ?aF ?aO ?aB ?aS ?aL ?_;(case aP=>exact rfl);(case aB=>exact (yW HB));(case aF=>exact (fun k_ hk=>⟨Kd.fresh' (Kd.R_lt (yR HO_12)) k_ hk,Kd.fresh' (Kd.R_lt (yR HO_79)) k_ hk⟩));(case aO=>exact D103);(case aS=>exact (pz (yW HB)));(case aL=>have:=LMc72.out;omega);intro v413 w75 ho hb hg hat;rw [← Ny412.out] at ho;have n0_:=am (Kd.S_over' (yS HO_7) (Kd.R_typed (yR HO_9)) D8 hg);have n1_:=am (Kd.R_after (ok:=(fun _=>True)) D102 hg hat);have n2_:=am (Kd.R_after (ok:=(fun _=>True)) D101 hg hat);have n3_:=am (blk_grown (g:=gb372) (o:=.cells #[.int .i64 a0_0, .int .i64 a0_1] 30 (0,0)) (yB BK372) hg (Kd.R_ne HO_9.out BK372.out D8));have n4_:=am (blk_grown (g:=gb395) (o:=.cells #[.int .i64 ((rd_T76 y386 x60_3).f0), .slice (some ad399) ((rd_T76 y386 x60_3).f1).length c394_1] 76 (0,0)) (yB BK395) hg (Kd.R_ne HO_9.out BK395.out D8));have n5_:=am (Kd.S_after (ok:=(fun k_=>some k_ ≠ (.slice Ao57 x12_4.length co57:Value).ownBlock∧some k_ ≠ (.slice Ao57 x12_4.length co57:Value).ownBlock)) D87 hg hat);have n6_:=am (hb);have n7_:=am (ho);clear HO_7;clear HO_12;clear HO_79;clear BK372;clear BK395;clear HO411;clear HB;clear HO_9;have HO_7:=n0_;have HO_12:=n1_;have HO_79:=n2_;have BK372:=n3_;have BK395:=n4_;have HO411:=n5_;have HB:=n6_;have HO414:=n7_;clear n0_ n1_ n2_ n3_ n4_ n5_ n6_ n7_;clear ho hb hg hat)))
             go_roundg k5
             case measure=>have:=HJ2.out;have:=HK2.out;have:=HK3.out;have:=HK4.out;have:=HK5.out;omega
             case rel=>exact ⟨(y409),(y412),(x12_4),(wrap64 (x71_4+1)),D1,H',⟨by have:=HJ2.out;have:=HK2.out;have:=HK3.out;have:=HK4.out;have:=HK5.out;omega⟩,⟨yS HO_7⟩,⟨by refine sS ?_;exact Kd.S_mono HO411.out (fun _ hk=>⟨hk.2,hk.1.1⟩)⟩,⟨by refine sR ?_;exact Kd.R_mono HO414.out (fun _ hk=>hk.1)⟩,⟨by refine sR ?_;exact Kd.R_mono HO_12.out (fun _ hk=>hk.2)⟩,⟨yB BK372⟩,⟨yB BK395⟩,⟨yW HB⟩⟩
          rw [if_neg c46] at H
          have c46b0:=decide_eq_false c46
          clear c46
          have H':=am H
          clear H
          go_wp2
          repeat (go_quiet (fail);try go_wp2)
          go_roundg k4
          case measure=>have:=HJ2.out;have:=HK2.out;have:=HK3.out;have:=HK4.out;omega
          case rel=>exact ⟨(x8_4),(x9_4),(wrap64 (x60_3+1)),D1,H',⟨by have:=HJ2.out;have:=HK2.out;have:=HK3.out;have:=HK4.out;omega⟩,⟨yS HO_7⟩,⟨by refine sS ?_;exact Kd.S_mono HO_8.out (fun _ hk=>hk.1)⟩,⟨by refine sR ?_;exact Kd.R_mono HO_9.out (fun _ hk=>trivial)⟩,⟨yB BK372⟩,⟨yW HB⟩⟩
       rw [if_neg c36] at H
       have c36b0:=decide_eq_false c36
       clear c36
       obtain ⟨⟨t390,t391⟩,A76,H⟩:=yo H
       try dsimp only at H
       simp only [Option.some.injEq,Prod.mk.injEq] at H
       obtain ⟨rfl,rfl⟩:=H
       obtain ⟨Ao77,co77,eo77⟩:=Kd.S_slice HO_8.out
       subst eo77
       obtain ⟨Ao78,co78,eo78⟩:=Kd.R_slice HO_9.out
       subst eo78
       go_wp2_with (first|(go_at_call 109;(with_reducible refine (impl_solve.calls k3 _ _ x8_3 _ _ x9_3 t390 t391 _ (yc (Kd.S_reads' HO_8.out).2.2) (Kd.S_reads' HO_8.out).2.1 (yc (Kd.R_reads' HO_9.out).2.2) (Kd.R_reads' HO_9.out).2.1 A76.out).mono ?_);rintro e w79 ⟨v392,rfl,ho0,hb⟩;replace HO_7:=bS HO_7 hb;replace HO_8:=eS HO_8 (Kd.R_base ho0) hb;have HO393:=am (Kd.R_lower (Kd.R_new' ho0 (Kd.R_lt (yR HO_9))) (pz (yW HB)));replace HO_9:=eR HO_9 (Kd.R_base ho0) hb;replace BK372:=yb BK372 hb;replace HB:=yH HB hb;clear hb ho0))
       repeat (go_quiet (first|(go_at_call 109;(with_reducible refine (impl_solve.calls k3 _ _ x8_3 _ _ x9_3 t390 t391 _ (yc (Kd.S_reads' HO_8.out).2.2) (Kd.S_reads' HO_8.out).2.1 (yc (Kd.R_reads' HO_9.out).2.2) (Kd.R_reads' HO_9.out).2.1 A76.out).mono ?_);rintro e w79 ⟨v392,rfl,ho0,hb⟩;have n0_:=bS HO_7 hb;have n1_:=eS HO_8 (Kd.R_base ho0) hb;have n2_:=eR HO_9 (Kd.R_base ho0) hb;have n3_:=am (Kd.R_lower (Kd.R_new' ho0 (Kd.R_lt (yR HO_9))) (pz (yW HB)));have n4_:=yb BK372 hb;have n5_:=yH HB hb;clear HO_7;clear HO_8;clear HO_9;clear BK372;clear HB;have HO_7:=n0_;have HO_8:=n1_;have HO_9:=n2_;have HO393:=n3_;have BK372:=n4_;have HB:=n5_;clear n0_ n1_ n2_ n3_ n4_ n5_;(try clear hb);(try clear hb2);(try clear hk);(try clear hi);(try clear ho0)));try go_wp2_with (first|(go_at_call 109;(with_reducible refine (impl_solve.calls k3 _ _ x8_3 _ _ x9_3 t390 t391 _ (yc (Kd.S_reads' HO_8.out).2.2) (Kd.S_reads' HO_8.out).2.1 (yc (Kd.R_reads' HO_9.out).2.2) (Kd.R_reads' HO_9.out).2.1 A76.out).mono ?_);rintro e w79 ⟨v392,rfl,ho0,hb⟩;have n0_:=bS HO_7 hb;have n1_:=eS HO_8 (Kd.R_base ho0) hb;have n2_:=eR HO_9 (Kd.R_base ho0) hb;have n3_:=am (Kd.R_lower (Kd.R_new' ho0 (Kd.R_lt (yR HO_9))) (pz (yW HB)));have n4_:=yb BK372 hb;have n5_:=yH HB hb;clear HO_7;clear HO_8;clear HO_9;clear BK372;clear HB;have HO_7:=n0_;have HO_8:=n1_;have HO_9:=n2_;have HO393:=n3_;have BK372:=n4_;have HB:=n5_;clear n0_ n1_ n2_ n3_ n4_ n5_;(try clear hb);(try clear hb2);(try clear hk);(try clear hi);(try clear ho0))))
       go_ret2
       exact ⟨_,D2,by refine sR ?_;exact Kd.R_mono HO393.out (fun _ hk=>trivial),yW HB⟩
end
end
def impl_Msr_isNode.f (a0_0:Int) (a0_1:Int) (a1:Int):Option (Bool):=(impl_GoodMsr.f a0_0 a0_1).bind fun t393=>(if t393=true then ((impl_within.f a1 0 (wrap64 (a0_0 - 1))).bind fun t394=>(some t394)) else (some false))
theorem impl_Msr_isNode.calls (a0_0:Int) (a0_1:Int) (a1:Int) (r:Bool) (w:World) (h:impl_Msr_isNode.f a0_0 a0_1 a1=some r) :
  Calls Try.prog 110 #[.agg #[.int .i64 a0_0, .int .i64 a0_1], .int .i64 a1] w fun e w'=>e = .returned (.bool r)∧Below w.heap.size w w':=by
 have hu30:=Try.underlying30
 have HB:=am (Below.refl w.heap.size w)
 have H:=h
 unfold impl_Msr_isNode.f at H
 clear h
 obtain ⟨t393,A3,H⟩:=yo H
 by_cases c4:t393=true
 ·subst c4
  replace H:=yt H
  obtain ⟨t394,A5,H⟩:=yo H
  obtain rfl:=Option.some.inj H
  go_enter Try.func110,Try.ntmps110
  go_wp2_with (first|((with_reducible refine gD 2 ?_);refine gB (cs:=#[.int .i64 a0_0, .int .i64 a0_1]) 30 ?_;intro gb392 hg w6 hbox hb;have BK392:=am (hbox);have GW392:=ye HB hg;replace HB:=yH HB hb;have GE392:=GW392;clear hb hbox hg;obtain ⟨hcz7_0,hcz7_1,hfz7_0,hfz7_1⟩:=yk2 BK392)|((with_reducible refine gC 46 ?_);refine gM (some 6) Try.func46 (args:=#[.agg #[.int .i64 a0_0, .int .i64 a0_1]]) (impl_GoodMsr.calls a0_0 a0_1 true _ A3.out) ?_;rintro e w8 ⟨rfl,hb⟩;refine ⟨_,rfl,?_⟩;replace BK392:=yb BK392 hb;replace HB:=yH HB hb;clear hb;obtain ⟨hcz9_0,hcz9_1,hfz9_0,hfz9_1⟩:=yk2 BK392)|(go_at_call 104;(with_reducible refine (impl_within.calls a1 0 (wrap64 (a0_0 - 1)) t394 _ A5.out).mono ?_);rintro e w' ⟨rfl,⟨nd,rfl⟩⟩))
  go_ret
  exact ⟨D2,yW HB⟩
 replace c4:=Bool.eq_false_iff.mpr c4
 subst c4
 replace H:=yn H
 obtain rfl:=Option.some.inj H
 go_enter Try.func110,Try.ntmps110
 go_wp2_with (first|((with_reducible refine gD 2 ?_);refine gB (cs:=#[.int .i64 a0_0, .int .i64 a0_1]) 30 ?_;intro gb392 hg w10 hbox hb;have BK392:=am (hbox);have GW392:=ye HB hg;replace HB:=yH HB hb;have GE392:=GW392;clear hb hbox hg;obtain ⟨hcz11_0,hcz11_1,hfz11_0,hfz11_1⟩:=yk2 BK392)|((with_reducible refine gC 46 ?_);refine gM (some 6) Try.func46 (args:=#[.agg #[.int .i64 a0_0, .int .i64 a0_1]]) (impl_GoodMsr.calls a0_0 a0_1 false _ A3.out) ?_;rintro e w12 ⟨rfl,hb⟩;refine ⟨_,rfl,?_⟩;replace BK392:=yb BK392 hb;replace HB:=yH HB hb;clear hb))
 go_ret
 exact ⟨D2,yW HB⟩

def impl_MsrRow.f (k:Nat) (a0_0:Int) (a0_1:Int) (a1:Int):Option (List Int × Bool):=(impl_Msr_isNode.f a0_0 a0_1 a1).bind fun t396=>(if t396=true then ((impl_Msr_row.f k a0_0 a0_1 a1).bind fun t397=>(some (t397,true))) else (some (([]:List Int),false)))
theorem impl_MsrRow.mono:∀ a0 a1 a2 k,LeO (impl_MsrRow.f k a0 a1 a2) (impl_MsrRow.f (k+1) a0 a1 a2):=by
 intro a0 a1 a2 k
 unfold impl_MsrRow.f
 exact mm
theorem impl_MsrRow.calls (k:Nat) (a0_0:Int) (a0_1:Int) (a1:Int) (r1:List Int) (r2:Bool) (w:World) (h:impl_MsrRow.f k a0_0 a0_1 a1=some (r1,r2)) :
  Calls Try.prog 50 #[.agg #[.int .i64 a0_0, .int .i64 a0_1], .int .i64 a1] w fun e w'=>∃ v0_:Value,e = .returned (.tuple #[v0_, .bool r2])∧Kd.R (Kd.int .u8) 5 w' w.heap.size (fun _=>True) v0_ r1∧Below w.heap.size w w':=by
 have hu30:=Try.underlying30
 have HB:=am (Below.refl w.heap.size w)
 have H:=h
 unfold impl_MsrRow.f at H
 clear h
 obtain ⟨t396,A3,H⟩:=yo H
 by_cases c4:t396=true
 ·subst c4
  replace H:=yt H
  obtain ⟨t397,A5,H⟩:=yo H
  simp only [Option.some.injEq,Prod.mk.injEq] at H
  obtain ⟨rfl,rfl⟩:=H
  go_enter Try.func50,Try.ntmps50
  go_wp2_with (first|((with_reducible refine gD 2 ?_);refine gB (cs:=#[.int .i64 a0_0, .int .i64 a0_1]) 30 ?_;intro gb395 hg w6 hbox hb;have BK395:=am (hbox);have GW395:=ye HB hg;replace HB:=yH HB hb;have GE395:=GW395;clear hb hbox hg;obtain ⟨hcz7_0,hcz7_1,hfz7_0,hfz7_1⟩:=yk2 BK395)|((with_reducible refine gC 110 ?_);refine gM (some 8) Try.func110 (args:=#[.agg #[.int .i64 a0_0, .int .i64 a0_1], .int .i64 a1]) (impl_Msr_isNode.calls a0_0 a0_1 a1 true _ A3.out) ?_;rintro e w8 ⟨rfl,hb⟩;refine ⟨_,rfl,?_⟩;replace BK395:=yb BK395 hb;replace HB:=yH HB hb;clear hb;obtain ⟨hcz9_0,hcz9_1,hfz9_0,hfz9_1⟩:=yk2 BK395)|((with_reducible refine gC 66 ?_);refine gM (some 12) Try.func66 (args:=#[.agg #[.int .i64 a0_0, .int .i64 a0_1], .int .i64 a1]) (impl_Msr_row.calls k a0_0 a0_1 a1 t397 _ A5.out) ?_;rintro e w10 ⟨v398,rfl,ho0,hb⟩;refine ⟨_,rfl,?_⟩;have HO399:=am (Kd.R_lower ho0 (pz (yW HB)));replace BK395:=yb BK395 hb;replace HB:=yH HB hb;clear hb ho0))
  go_ret2
  exact ⟨_,D2,yR HO399,yW HB⟩
 replace c4:=Bool.eq_false_iff.mpr c4
 subst c4
 replace H:=yn H
 simp only [Option.some.injEq,Prod.mk.injEq] at H
 obtain ⟨rfl,rfl⟩:=H
 go_enter Try.func50,Try.ntmps50
 go_wp2_with (first|((with_reducible refine gD 2 ?_);refine gB (cs:=#[.int .i64 a0_0, .int .i64 a0_1]) 30 ?_;intro gb395 hg w11 hbox hb;have BK395:=am (hbox);have GW395:=ye HB hg;replace HB:=yH HB hb;have GE395:=GW395;clear hb hbox hg;obtain ⟨hcz12_0,hcz12_1,hfz12_0,hfz12_1⟩:=yk2 BK395)|((with_reducible refine gC 110 ?_);refine gM (some 8) Try.func110 (args:=#[.agg #[.int .i64 a0_0, .int .i64 a0_1], .int .i64 a1]) (impl_Msr_isNode.calls a0_0 a0_1 a1 false _ A3.out) ?_;rintro e w13 ⟨rfl,hb⟩;refine ⟨_,rfl,?_⟩;replace BK395:=yb BK395 hb;replace HB:=yH HB hb;clear hb))
 go_ret2
 exact ⟨_,D2,D14,yW HB⟩

mutual
def spec_l1Cur_chosen.l0:Nat→Int→Int→List Int→Int→List Int→Int→Int→Option (List Int × Int × Int)
 | 0,_,_,_,_,_,_,_=>none
 | k+1,x1,x2,x7,x8,x1000,x1001,x1002=>if x8 < x1 then (spec_l1Cur_chosen.j1 k x1 x2 x7 x8 (decide ((x7.length:Int) < x2)) x1000 x1001 x1002) else (spec_l1Cur_chosen.j1 k x1 x2 x7 x8 false x1000 x1001 x1002)
def spec_l1Cur_chosen.j1:Nat→Int→Int→List Int→Int→Bool→List Int→Int→Int→Option (List Int × Int × Int)
 | 0,_,_,_,_,_,_,_,_=>none
 | k+1,x1,x2,x7,x8,x17,x1000,x1001,x1002=>if x17=true then (if (wrap64 (x1 - x8))≤(wrap64 (x2 - (x7.length:Int))) then (if x7.length < 17592186044416 then (spec_l1Cur_chosen.l0 k x1 x2 (x7 ++ [x8]) (wrap64 (x8+1)) x1000 x1001 x1002) else (none)) else ((spec_l1Cur_one.f x1000 x1001 x1002 2).bind fun bt403=>(if bt403.1=true then (if x7.length < 17592186044416 then (spec_l1Cur_chosen.l0 k x1 x2 (x7 ++ [x8]) (wrap64 (x8+1)) x1000 bt403.2.1 bt403.2.2) else (none)) else (spec_l1Cur_chosen.l0 k x1 x2 x7 (wrap64 (x8+1)) x1000 bt403.2.1 bt403.2.2)))) else (some (x7,x1001,x1002))
end
def spec_l1Cur_chosen.f (k:Nat) (s0_0:List Int) (s0_1:Int) (s0_2:Int) (a1:Int) (a2:Int):Option (List Int × Int × Int):=spec_l1Cur_chosen.l0 k a1 a2 ([]:List Int) 0 s0_0 s0_1 s0_2
theorem spec_l1Cur_chosen.mono_l:∀ k,(∀ y0 y1 y2 y3 y4 y5 y6,LeO (spec_l1Cur_chosen.l0 k y0 y1 y2 y3 y4 y5 y6) (spec_l1Cur_chosen.l0 (k+1) y0 y1 y2 y3 y4 y5 y6))∧(∀ y0 y1 y2 y3 y4 y5 y6 y7,LeO (spec_l1Cur_chosen.j1 k y0 y1 y2 y3 y4 y5 y6 y7) (spec_l1Cur_chosen.j1 (k+1) y0 y1 y2 y3 y4 y5 y6 y7))
 | 0=>⟨fun _ _ _ _ _ _ _ r h=>by simp [spec_l1Cur_chosen.l0] at h,fun _ _ _ _ _ _ _ _ r h=>by simp [spec_l1Cur_chosen.j1] at h⟩
 | k+1=>by
  obtain ⟨ih0,ih1⟩:=spec_l1Cur_chosen.mono_l k
  refine ⟨?_,?_⟩
  ·intro y0 y1 y2 y3 y4 y5 y6
   unfold spec_l1Cur_chosen.l0
   exact mm
  intro y0 y1 y2 y3 y4 y5 y6 y7
  unfold spec_l1Cur_chosen.j1
  exact mm
theorem spec_l1Cur_chosen.mono:∀ a0 a1 a2 a3 a4 k,LeO (spec_l1Cur_chosen.f k a0 a1 a2 a3 a4) (spec_l1Cur_chosen.f (k+1) a0 a1 a2 a3 a4):=by
 intro a0 a1 a2 a3 a4 k
 obtain ⟨ih0,ih1⟩:=spec_l1Cur_chosen.mono_l k
 unfold spec_l1Cur_chosen.f
 exact mm
theorem spec_l1Cur_chosen.calls (k:Nat) (g:Nat) (s0_0:List Int) (s0_1:Int) (s0_2:Int) (a1:Int) (a2:Int) (r1:List Int) (r2:Int) (r3:Int) (w0 w:World) (hI:IsS127 w0 w g s0_0 s0_1 s0_2) (hB:Below w0.heap.size w0 w) (h:spec_l1Cur_chosen.f k s0_0 s0_1 s0_2 a1 a2=some (r1,r2,r3)) :
  Calls Try.prog 96 #[.pointer (some ⟨g,0,none⟩), .int .i64 a1, .int .i64 a2] w fun e w'=>∃ v0_:Value,e = .returned (v0_)∧Kd.R (Kd.int .i64) 3 w' w.heap.size (fun _=>True) v0_ r1∧IsS127 w0 w' g s0_0 r2 r3∧Below w0.heap.size w0 w'∧KeepBut w w' g none:=by
 have HI0:=am hI
 have HK:=am (KeepBut.refl w g none)
 have HL:=am hB.size
 clear hI
 have HW0:=am hB.size
 have HB:=am hB
 clear hB
 have H:=h
 unfold spec_l1Cur_chosen.f at H
 clear h
 have H':=am H
 clear H
 go_enter Try.func96,Try.ntmps96
 go_wp2
 go_loopg [7,8] k (fun kq v7 v8 w'=>∃ (x7_1:List Int) (x8_1:Int) (x1001_1:Int) (x1002_1:Int),v8 = .int .i64 x8_1∧Aside0 (spec_l1Cur_chosen.l0 kq a1 a2 x7_1 x8_1 s0_0 x1001_1 x1002_1=some (r1,r2,r3))∧Aside0 (kq≤k)∧Aside0 (Kd.R (Kd.int .i64) 3 w' w.heap.size (fun _=>True) v7 x7_1)∧Aside0 (IsS127 w0 w' g s0_0 x1001_1 x1002_1)∧Aside0 (KeepBut w w' g none)∧Aside0 (Below w0.heap.size w0 w'))
 case atStart=>exact ⟨(([]:List Int)),(0),(s0_1),(s0_2),D1,H',⟨Nat.le_refl _⟩,⟨D14⟩,⟨D6⟩,⟨D3⟩,⟨D7⟩⟩
 case round =>
  clear H'
  try clear p2
  obtain ⟨x7_1,x8_1,x1001_1,x1002_1,rfl,HA,HK1,HO_7,HI0,HK,HB⟩:=hrel
  cases gk with
  | zero=>exact absurd HA.out (by simp [spec_l1Cur_chosen.l0])
  | succ k1 =>
   have H:=HA.out
   clear HA
   simp only [spec_l1Cur_chosen.l0] at H
   have HC4:=am H
   clear H
   go_upto_region 3 with (fail)
   go_cut [17] (fun v17 wc=>∃ (kq:Nat) (x17_3:Bool),v17 = .bool x17_3∧Aside0 (spec_l1Cur_chosen.j1 kq a1 a2 x7_1 x8_1 x17_3 s0_0 x1001_1 x1002_1=some (r1,r2,r3))∧Aside0 (kq≤k1)∧Aside0 (Kd.R (Kd.int .i64) 3 wc w.heap.size (fun _=>True) u7 x7_1)∧Aside0 (IsS127 w0 wc g s0_0 x1001_1 x1002_1)∧Aside0 (KeepBut w wc g none)∧Aside0 (Below w0.heap.size w0 wc))
   case first =>
    have H:=HC4.out
    clear HC4
    by_cases c5:x8_1 < a1
    ·rw [if_pos c5] at H
     have c5b0:=decide_eq_true c5
     clear c5
     (first|rw [c5b0]|(simp only [i64_w,i32_w];rw [c5b0])|skip)
     have H':=am H
     clear H
     obtain ⟨Ao6,co6,eo6⟩:=Kd.R_slice HO_7.out
     subst eo6
     go_wp2
     go_meet
     case rel=>exact ⟨_,(decide ((x7_1.length:Int) < a2)),D1,H',⟨D104⟩,⟨yR HO_7⟩,⟨D6⟩,⟨D3⟩,⟨D7⟩⟩
    rw [if_neg c5] at H
    have c5b0:=decide_eq_false c5
    clear c5
    (first|rw [c5b0]|(simp only [i64_w,i32_w];rw [c5b0])|skip)
    have H':=am H
    clear H
    go_wp2
    go_meet
    case rel=>exact ⟨_,(false),D1,H',⟨D104⟩,⟨yR HO_7⟩,⟨D6⟩,⟨D3⟩,⟨D7⟩⟩
   case rest =>
    clear HC4
    try clear p2
    try clear c5
    try clear c5b0
    try clear p2
    obtain ⟨kq,x17_3,rfl,HA,HJ3,HO_7,HI0,HK,HB⟩:=hcut
    cases kq with
    | zero=>exact absurd HA.out (by simp [spec_l1Cur_chosen.j1])
    | succ kj3 =>
     have H:=HA.out
     clear HA
     simp only [spec_l1Cur_chosen.j1] at H
     by_cases c7:x17_3=true
     ·subst c7
      replace H:=yt H
      by_cases c8:(wrap64 (a1 - x8_1))≤(wrap64 (a2 - (x7_1.length:Int)))
      ·rw [if_pos c8] at H
       have c8b0:=decide_eq_true c8
       clear c8
       obtain ⟨c9,H⟩:=yi H
       have LMc9:=am c9
       clear c9
       generalize hy400:(x7_1 ++ [x8_1]:List Int)=y400 at H
       have Ny400:=am hy400.symm
       clear hy400
       have H':=am H
       clear H
       obtain ⟨Ao10,co10,eo10⟩:=Kd.R_slice HO_7.out
       subst eo10
       go_wp2_with (first|((with_reducible refine gate_builtin (b:=.append) (xs:=#[.tmp 32, .tmp 34]) rfl ?_);(try (refine gate_guard D15 ?_;dsimp only));at_builtin;refine Kd.R_append (Kd.int .i64) w.heap.size rfl (.tmp 32) (.tmp 34) 62 3 (.int .i64 0) 8 rfl Try.underlying62 info3 rfl D8 D11 (.slice Ao10 x7_1.length co10) x7_1 x8_1 [.int .i64 x8_1] (fun _=>True) (fun _=>False) rfl rfl D79 (fun _ hk=>hk.elim) D41 (by exact (yR HO_7)) (Below.refl _ _) (by exact (keep_size (w:=w) (g:=g) (row:=none) D3)) (by have:=LMc9.out;omega) ?_;intro v401 w11 ho hb hg hat;rw [← Ny400.out] at ho;have n0_:=am (IsS127.grown D6 hg (IsS127.own_ne HI0.out HO_7.out D8));have n1_:=am (below_weaken D7 HL.out hb);have n2_:=am (KeepBut.trans D3 (KeepBut.of_grown hg g) (Kd.R_base2 HO_7.out));have n3_:=am (ho);clear HI0 HB HK HO_7;have HI0:=n0_;have HB:=n1_;have HK:=n2_;have HO402:=n3_;clear n0_ n1_ n2_ n3_ ho hb hg hat))
       go_roundg kj3
       case measure=>have:=HK1.out;have:=HJ3.out;omega
       case rel=>exact ⟨(y400),(wrap64 (x8_1+1)),(x1001_1),(x1002_1),D1,H',⟨by have:=HK1.out;have:=HJ3.out;omega⟩,⟨yR HO402⟩,⟨D6⟩,⟨D3⟩,⟨D7⟩⟩
      rw [if_neg c8] at H
      have c8b0:=decide_eq_false c8
      clear c8
      obtain ⟨⟨t403,t404,t405⟩,A12,H⟩:=yo H
      try dsimp only at H
      by_cases c13:t403=true
      ·subst c13
       replace H:=yt H
       obtain ⟨c14,H⟩:=yi H
       have LMc14:=am c14
       clear c14
       generalize hy406:(x7_1 ++ [x8_1]:List Int)=y406 at H
       have Ny406:=am hy406.symm
       clear hy406
       have H':=am H
       clear H
       obtain ⟨Ao15,co15,eo15⟩:=Kd.R_slice HO_7.out
       subst eo15
       go_wp2_with (first|(go_at_call 101;(with_reducible refine (spec_l1Cur_one.calls g s0_0 x1001_1 x1002_1 2 true t404 t405 w0 _ D6 D7 A12.out).mono ?_);rintro e w16 ⟨rfl,hi,hb,hk⟩;replace HO_7:=am (Kd.R_mono (Kd.R_keep (IsS127.apart (show IsS127 w0 _ g s0_0 x1001_1 x1002_1 from by repeat (first|(with_reducible first|exact HI0.out|apply IsS127.alloc|apply IsS127.drewN|apply IsS127.drew|apply IsS127.set_1|apply IsS127.set_2)|exact HI0.out)) (yR HO_7) D8) hk (fun _ h=>h.2)) (fun _ h=>h.1));replace HK:=am (KeepBut.trans D3 hk (.inl rfl));replace HB:=am (hb);replace HI0:=am (hi);clear hb hk hi)|((with_reducible refine gate_builtin (b:=.append) (xs:=#[.tmp 32, .tmp 34]) rfl ?_);(try (refine gate_guard D15 ?_;dsimp only));at_builtin;refine Kd.R_append (Kd.int .i64) w.heap.size rfl (.tmp 32) (.tmp 34) 62 3 (.int .i64 0) 8 rfl Try.underlying62 info3 rfl D8 D11 (.slice Ao15 x7_1.length co15) x7_1 x8_1 [.int .i64 x8_1] (fun _=>True) (fun _=>False) rfl rfl D79 (fun _ hk=>hk.elim) D41 (by exact (yR HO_7)) (Below.refl _ _) (by exact (keep_size (w:=w) (g:=g) (row:=none) D3)) (by have:=LMc14.out;omega) ?_;intro v407 w17 ho hb hg hat;rw [← Ny406.out] at ho;have n0_:=am (IsS127.grown D6 hg (IsS127.own_ne HI0.out HO_7.out D8));have n1_:=am (below_weaken D7 HL.out hb);have n2_:=am (KeepBut.trans D3 (KeepBut.of_grown hg g) (Kd.R_base2 HO_7.out));have n3_:=am (ho);clear HI0 HB HK HO_7;have HI0:=n0_;have HB:=n1_;have HK:=n2_;have HO408:=n3_;clear n0_ n1_ n2_ n3_ ho hb hg hat))
       go_roundg kj3
       case measure=>have:=HK1.out;have:=HJ3.out;omega
       case rel=>exact ⟨(y406),(wrap64 (x8_1+1)),(t404),(t405),D1,H',⟨by have:=HK1.out;have:=HJ3.out;omega⟩,⟨yR HO408⟩,⟨D6⟩,⟨D3⟩,⟨D7⟩⟩
      replace c13:=Bool.eq_false_iff.mpr c13
      subst c13
      replace H:=yn H
      have H':=am H
      clear H
      obtain ⟨Ao18,co18,eo18⟩:=Kd.R_slice HO_7.out
      subst eo18
      go_wp2_with (first|(go_at_call 101;(with_reducible refine (spec_l1Cur_one.calls g s0_0 x1001_1 x1002_1 2 false t404 t405 w0 _ D6 D7 A12.out).mono ?_);rintro e w19 ⟨rfl,hi,hb,hk⟩;replace HO_7:=am (Kd.R_mono (Kd.R_keep (IsS127.apart (show IsS127 w0 _ g s0_0 x1001_1 x1002_1 from by repeat (first|(with_reducible first|exact HI0.out|apply IsS127.alloc|apply IsS127.drewN|apply IsS127.drew|apply IsS127.set_1|apply IsS127.set_2)|exact HI0.out)) (yR HO_7) D8) hk (fun _ h=>h.2)) (fun _ h=>h.1));replace HK:=am (KeepBut.trans D3 hk (.inl rfl));replace HB:=am (hb);replace HI0:=am (hi);clear hb hk hi))
      go_roundg kj3
      case measure=>have:=HK1.out;have:=HJ3.out;omega
      case rel=>exact ⟨(x7_1),(wrap64 (x8_1+1)),(t404),(t405),D1,H',⟨by have:=HK1.out;have:=HJ3.out;omega⟩,⟨yR HO_7⟩,⟨D6⟩,⟨D3⟩,⟨D7⟩⟩
     replace c7:=Bool.eq_false_iff.mpr c7
     subst c7
     replace H:=yn H
     simp only [Option.some.injEq,Prod.mk.injEq] at H
     obtain ⟨rfl,rfl,rfl⟩:=H
     go_wp2
     go_ret
     exact ⟨_,D2,yR HO_7,D6,D7,D3⟩
end Go.Proofs.Yteflgifmdojahaa.PFnMsr
-- SQUEEZED
