-- Laid by a program of this session.
import Derived.Test.YteflgifmdojahaaPFnExactMendLocalx0
import Derived.Test.YteflgifmdojahaaPFnExactMendLocalx6
import Derived.Test.YteflgifmdojahaaPFnExactMendLocalx7
namespace Go.Proofs.Yteflgifmdojahaa.PFnExactMendLocal
open Go.RowKit Go.Proofs.YteflgifmdojahaaW.PrintWords Go.Proofs.YteflgifmdojahaaW.PrintLast Go.Proofs.YteflgifmdojahaaW.PrintMore
attribute [local go_sem] max2_int min2_int max_two min_two max_three min_three max_four min_four   -- for this text's walks alone
set_option linter.unusedVariables false
set_option maxHeartbeats 8000000
set_option maxRecDepth 100000
set_option linter.unusedSimpArgs false

section
open Go.Proofs.Yteflgifmdojahaa.KitW Go.Proofs.Yteflgifmdojahaa.KitR
set_option maxHeartbeats 4000000 in
theorem shards_IndexFunc (g:Nat) (eg:∀ args w,(callFunc g args).run Try.prog w = .ok (.enter g args) w) (fv:Value) (p:Nat→Bool) (ad:Addr) (n c:Nat) (no:Nat→Int) (s:Nat→ByteArray) (w:World) (hbig:n≤4611686018427387903)
  (hc:∀ i,i < n→w.cell? (ad.add (i*2))=some (.int .i64 (no i))∧w.cell? ⟨(ad.add (i*2)).block,(ad.add (i*2)).off+1,none⟩=some (.string (s i)))
  (hp:∀ i,i < n→∀ W,Below w.heap.size w W→Calls Try.prog g #[.agg #[.int .i64 (no i), .string (s i)],fv] W fun e w'=>e = .returned (.bool (p i))∧Below W.heap.size W w') :
  Calls Try.prog 78 #[.slice (some ad) n c, .func (.func g) #[] #[fv]] w fun e w'=>(∃ r,e = .returned (.int .i64 r)∧IdxOf p n r)∧Below w.heap.size w w':=by
 have HP:=am hp
 have HC:=am hc
 clear hp hc
 go_enter Try.func78,Try.ntmps78
 go_wp2
 go_loopg [5,8] n (fun gg _ s8 wr=>∃ kk:Nat,kk≤n∧n - kk≤gg∧s8 = .int .i64 kk∧Aside0 (Below w.heap.size w wr)∧Aside0 (∀ j,j < kk→p j=false))
 case atStart=>exact ⟨0,Nat.zero_le _,d16,rfl,⟨Below.refl _ _⟩,⟨fun j hj=>absurd hj (Nat.not_lt_zero _)⟩⟩
 case round =>
  obtain ⟨kk,hkk,hg,rfl,HD,HA⟩:=hrel
  by_cases hlt:kk < n
  ·have hltz:(kk:Int) < (n:Int):=by omega
   have hc0:=(HC.out kk hlt).1
   have hc1:=(HC.out kk hlt).2
   replace hc0:=(HD.out.cell (World.block_lt_of_cell? w _ hc0)).trans hc0
   replace hc1:=(HD.out.cell (World.block_lt_of_cell? w _ hc1)).trans hc1
   have hcall:=HP.out kk hlt
   cases hq:p kk with
   | true =>
    rw [hq] at hcall
    have HQ:=am hq
    clear hq
    have HX:=am hcall
    clear hcall
    go_wp2_with (go_at_fn g;refine (HX.out _ ?dr).mono ?_;(case dr=>exact HD.out);rintro e w' ⟨rfl,hd⟩)
    go_ret
    exact ⟨⟨_,rfl, .inr ⟨kk,hlt,rfl,HQ.out,HA.out⟩⟩,pu HD.out hd⟩
   | false =>
    rw [hq] at hcall
    have HQ:=am hq
    clear hq
    have HX:=am hcall
    clear hcall
    go_wp2_with (go_at_fn g;refine (HX.out _ ?dr).mono ?_;(case dr=>exact HD.out);rintro e w' ⟨rfl,hd⟩)
    go_roundg (n - (kk+1))
    case measure=>omega
    case rel=>exact ⟨kk+1,d16,d16,by go_num,⟨pu HD.out hd⟩,⟨fun j hj=>by by_cases e:j=kk;exact e ▸ HQ.out;exact HA.out j d16⟩⟩
  have hltz:¬ (kk:Int) < (n:Int):=by omega
  have:kk=n:=by omega
  subst this
  go_wp2
  go_ret
  exact ⟨⟨_,rfl, .inl ⟨rfl,HA.out⟩⟩,HD.out⟩
/-- The test of one shard. -/
theorem mend_test (gb:Nat) (no kk:Int) (s:ByteArray) (W:World) (hbox:W.cell? ⟨gb,0,none⟩=some (.int .i64 kk)) :
  Calls Try.prog 79 #[.agg #[.int .i64 no, .string s], .pointer (some ⟨gb,0,none⟩)] W fun e w'=>e = .returned (.bool (no == kk))∧Below W.heap.size W w':=by
 have hB:=pa (Below.refl W.heap.size W) (Obj.cells #[.int .i64 no, .string s] 48 (0,0))
 have k0:(W.alloc (Obj.cells #[.int .i64 no, .string s] 48 (0,0))).cell? ⟨W.heap.size,0,none⟩=some (.int .i64 no):=(blk_cell (heap_alloc_new W _) 0).trans rfl
 have k2:=(hB.cell (World.block_lt_of_cell? W _ hbox)).trans hbox
 clear hbox
 go_enter Try.func79,Try.ntmps79
 go_wp2
 go_ret
 exact ⟨by first|rfl|(simp;done),hB⟩
def mend_idx (l:List (S48)) (no:Int):Int:=match (List.range l.length).find? (fun i=>(l.getD i z48).f0 == no) with
 | some i=>(i:Int)
 | none=>-1
theorem mend_idx_of {l:List (S48)} {no r:Int} (h:IdxOf (fun i=>(l.getD i z48).f0 == no) l.length r):r=mend_idx l no:=by
 unfold mend_idx
 rcases h with ⟨rfl,h⟩ | ⟨i,hi,rfl,h1,h2⟩
 ·have e:(List.range l.length).find? (fun i=>(l.getD i z48).f0 == no)=none:=by
   rw [List.find?_eq_none]
   intro j hj
   have:=h j (by simpa using hj)
   simp only at this
   rw [this]
   decide
  rw [e]
 have e:(List.range l.length).find? (fun i=>(l.getD i z48).f0 == no)=some i:=by
  rw [List.find?_range_eq_some]
  exact ⟨h1,by simpa using hi,fun j hj=>by have:=h2 j hj;simp only at this;rw [this];rfl⟩
 rw [e]
def mend_Shard.f (l0:List (S48)) (a1:Int):Option Int:=if l0.length≤1048576 then some (mend_idx l0 a1) else none
theorem mend_Shard_none (fv:Value) (A:Option Addr) (c:Nat) (w:World):Calls Try.prog 78 #[.slice A 0 c,fv] w fun e w'=>e = .returned (.int .i64 (-1))∧w=w':=by
 go_enter Try.func78,Try.ntmps78
 go_wp2
 go_loopg [5,8] 0 (fun gg _ s8 wr=>s8 = .int .i64 0∧w=wr)
 case atStart=>exact ⟨rfl,rfl⟩
 case round =>
  obtain ⟨rfl,rfl⟩:=hrel
  go_wp2
  go_ret
  exact ⟨rfl,rfl⟩
theorem mend_Shard.calls (A0:Option Addr) (c0:Nat) (l0:List (S48)) (a1:Int) (r:Int) (w:World) (gb:Nat) (hr0:Kd.C k48 w A0 l0.length l0) (hc0:l0.length≤c0) (hbox:w.cell? ⟨gb,0,none⟩=some (.int .i64 a1)) (h:mend_Shard.f l0 a1=some r) :
  Calls Try.prog 78 #[.slice A0 l0.length c0, .func (.func 79) #[] #[.pointer (some ⟨gb,0,none⟩)]] w fun e w'=>e = .returned (.int .i64 r)∧Below w.heap.size w w':=by
 unfold mend_Shard.f at h
 by_cases hs:l0.length≤1048576
 case neg=>rw [if_neg hs] at h;cases h
 rw [if_pos hs] at h
 obtain rfl:=Option.some.inj h
 clear h
 by_cases hp:0 < l0.length
 ·obtain ⟨ad,rfl,_⟩:=at_T48 hr0 0 d16 d16
  refine (shards_IndexFunc 79 (enters_of Try.func79 rfl rfl) (.pointer (some ⟨gb,0,none⟩)) (fun i=>(l0.getD i z48).f0 == a1) ad l0.length c0 (fun i=>(l0.getD i z48).f0) (fun i=>(l0.getD i z48).f1) w d16
   (fun i hi=>by
    obtain ⟨ad',e,h1,h2⟩:=at_T48 hr0 (i:Int) d16 d16
    injection e with e
    subst e
    rw [Int.toNat_natCast] at h1 h2
    exact ⟨h1,h2⟩)
   (fun i hi W1 hb1=>mend_test gb _ _ _ W1 ((hb1.cell (World.block_lt_of_cell? w _ hbox)).trans hbox))).mono ?_
  rintro e w' ⟨⟨r,rfl,hr⟩,hb⟩
  rw [mend_idx_of hr]
  exact ⟨rfl,hb⟩
 have e0:l0=[]:=List.eq_nil_of_length_eq_zero d16
 subst e0
 have hz:=mend_Shard_none (.func (.func 79) #[] #[.pointer (some ⟨gb,0,none⟩)]) A0 c0 w
 refine hz.mono ?_
 rintro e w' ⟨rfl,rfl⟩
 exact ⟨rfl,Below.refl _ _⟩
mutual
def impl_MendLocal.j0:Nat→List (S48)→Int→List Int→Bool→Option (Int × ByteArray × Bool)
 | 0,_,_,_,_=>none
 | k+1,x1,x2,x8,x28=>if x28=true then (some (0,(⟨#[]⟩:ByteArray),false)) else (impl_MendLocal.l0 k x1 x8 (x8.length:Int) 0 x2 (⟨#[]⟩:ByteArray))
def impl_MendLocal.l0:Nat→List (S48)→List Int→Int→Int→Int→ByteArray→Option (Int × ByteArray × Bool)
 | 0,_,_,_,_,_,_=>none
 | k+1,x1,x32,x33,x34,x222000,x222001=>if x34 < x33 then (if 0≤x34 then (if x34 < (x32.length:Int) then ((mend_Shard.f x1 (rd x32 x34)).bind fun t223=>(if t223 < 0 then (some (0,(⟨#[]⟩:ByteArray),false)) else (if x34=0 then (if 0≤t223 then (if t223 < (x1.length:Int) then (if 0≤(((rd_T48 x1 t223).f1).size:Int) then (if ((((rd_T48 x1 t223).f1).size:Int):Int).toNat≤281474976710656 then ((impl_sumOf.f k (strOfNums (List.replicate ((((rd_T48 x1 t223).f1).size:Int):Int).toNat 0)) ((rd_T48 x1 t223).f1)).bind fun t229=>(impl_MendLocal.l0 k x1 x32 x33 (wrap64 (x34+1)) x222000 t229)) else (none)) else (none)) else (none)) else (none)) else (if 0≤t223 then (if t223 < (x1.length:Int) then ((impl_sumOf.f k x222001 ((rd_T48 x1 t223).f1)).bind fun t231=>(impl_MendLocal.l0 k x1 x32 x33 (wrap64 (x34+1)) x222000 t231)) else (none)) else (none))))) else (none)) else (none)) else (some (x222000,x222001,true))
end
def impl_MendLocal.f (k:Nat) (a0_0:Int) (a0_1:Int) (a0_2:Int) (l1:List (S48)) (a2:Int):Option (Int × ByteArray × Bool):=(impl_HelpersOf.f k a0_0 a0_1 a0_2 a2).bind fun bt215=>(if bt215.2=true then ((impl_Local_all.f a0_0 a0_1 a0_2).bind fun t219=>((impl_areShards.f k l1 t219).bind fun t220=>(impl_MendLocal.j0 k l1 a2 bt215.1 (!t220)))) else (impl_MendLocal.j0 k l1 a2 bt215.1 true))
theorem impl_MendLocal.mono_l:∀ k,(∀ y0 y1 y2 y3,LeO (impl_MendLocal.j0 k y0 y1 y2 y3) (impl_MendLocal.j0 (k+1) y0 y1 y2 y3))∧(∀ y0 y1 y2 y3 y4 y5,LeO (impl_MendLocal.l0 k y0 y1 y2 y3 y4 y5) (impl_MendLocal.l0 (k+1) y0 y1 y2 y3 y4 y5))
 | 0=>⟨fun _ _ _ _ r h=>by simp [impl_MendLocal.j0] at h,fun _ _ _ _ _ _ r h=>by simp [impl_MendLocal.l0] at h⟩
 | k+1=>by
  obtain ⟨ih0,ih1⟩:=impl_MendLocal.mono_l k
  refine ⟨?_,?_⟩
  ·intro y0 y1 y2 y3
   unfold impl_MendLocal.j0
   repeat' first
   | (with_reducible exact ih0 _ _ _ _)
   | (with_reducible exact ih1 _ _ _ _ _ _)
   | (with_reducible exact impl_HelpersOf.mono _ _ _ _ _)
   | (with_reducible exact impl_areShards.mono _ _ _)
   | (with_reducible exact impl_sumOf.mono _ _ _)
   |(with_reducible exact LeO.refl _)|(with_reducible exact LeO.none _)|(with_reducible refine LeO.ite ?_ ?_)|(with_reducible refine LeO.bind ?_ (fun _=>?_))|exact ih0 _ _ _ _|exact ih1 _ _ _ _ _ _|exact impl_HelpersOf.mono _ _ _ _ _|exact impl_areShards.mono _ _ _|exact impl_sumOf.mono _ _ _|exact LeO.none _|refine LeO.ite ?_ ?_|refine LeO.bind ?_ (fun _=>?_)
  intro y0 y1 y2 y3 y4 y5
  unfold impl_MendLocal.l0
  repeat' first
  | (with_reducible exact ih0 _ _ _ _)
  | (with_reducible exact ih1 _ _ _ _ _ _)
  | (with_reducible exact impl_HelpersOf.mono _ _ _ _ _)
  | (with_reducible exact impl_areShards.mono _ _ _)
  | (with_reducible exact impl_sumOf.mono _ _ _)
  |(with_reducible exact LeO.refl _)|(with_reducible exact LeO.none _)|(with_reducible refine LeO.ite ?_ ?_)|(with_reducible refine LeO.bind ?_ (fun _=>?_))|exact ih0 _ _ _ _|exact ih1 _ _ _ _ _ _|exact impl_HelpersOf.mono _ _ _ _ _|exact impl_areShards.mono _ _ _|exact impl_sumOf.mono _ _ _|exact LeO.none _|refine LeO.ite ?_ ?_|refine LeO.bind ?_ (fun _=>?_)
theorem impl_MendLocal.mono:∀ a0 a1 a2 a3 a4 k,LeO (impl_MendLocal.f k a0 a1 a2 a3 a4) (impl_MendLocal.f (k+1) a0 a1 a2 a3 a4):=by
 intro a0 a1 a2 a3 a4 k
 obtain ⟨ih0,ih1⟩:=impl_MendLocal.mono_l k
 unfold impl_MendLocal.f
 repeat' first
   | (with_reducible exact ih0 _ _ _ _)
   | (with_reducible exact ih1 _ _ _ _ _ _)
   | (with_reducible exact impl_HelpersOf.mono _ _ _ _ _)
   | (with_reducible exact impl_areShards.mono _ _ _)
   | (with_reducible exact impl_sumOf.mono _ _ _)
   |(with_reducible exact LeO.refl _)|(with_reducible exact LeO.none _)|(with_reducible refine LeO.ite ?_ ?_)|(with_reducible refine LeO.bind ?_ (fun _=>?_))|exact ih0 _ _ _ _|exact ih1 _ _ _ _ _ _|exact impl_HelpersOf.mono _ _ _ _ _|exact impl_areShards.mono _ _ _|exact impl_sumOf.mono _ _ _|exact LeO.none _|refine LeO.ite ?_ ?_|refine LeO.bind ?_ (fun _=>?_)
def impl_MendLocal.T13:Bool × List (List Nat × List Nat):=(true,[([],[]),([0],[0]),([],[]),([],[]),([2,3],[2,3]),([4],[4]),([5],[5]),([1,6],[1,6]),([0,1,2,3,4,5,6,7],[]),([8,7,7,0,1,2,3,4,5,6,7],[7,8])])
def impl_MendLocal.B13:List Nat:=[0,1,0,0,12,28,60,127,255,511]
theorem impl_MendLocal.tab13:rtab .any (opsOf Try.f27 13)=impl_MendLocal.T13:=by kernel_rfl
theorem impl_MendLocal.bits13:waitsOk impl_MendLocal.T13.2 impl_MendLocal.B13=true:=by kernel_rfl
theorem impl_MendLocal.calls (k:Nat) (a0_0:Int) (a0_1:Int) (a0_2:Int) (A1:Option Addr) (c1:Nat) (l1:List (S48)) (a2:Int) (r1:Int) (r2:ByteArray) (r3:Bool) (w:World) (hr1:Kd.C k48 w A1 l1.length l1) (hc1:l1.length≤c1) (h:impl_MendLocal.f k a0_0 a0_1 a0_2 l1 a2=some (r1,r2,r3)) :
  Calls Try.prog 27 #[.agg #[.int .i64 a0_0, .int .i64 a0_1, .int .i64 a0_2], .slice A1 l1.length c1, .int .i64 a2] w fun e w'=>e = .returned (.tuple #[.agg #[.int .i64 r1, .string r2], .bool r3])∧Below w.heap.size w w':=by
 have hu51:=Try.underlying51
 have hu48:=Try.underlying48
 have HR1:=am hr1
 have HC1:=am hc1
 clear hr1 hc1
 have HB:=am (Below.refl w.heap.size w)
 have H:((impl_HelpersOf.f k a0_0 a0_1 a0_2 a2).bind fun bt215=>(if bt215.2=true then ((impl_Local_all.f a0_0 a0_1 a0_2).bind fun t219=>((impl_areShards.f k l1 t219).bind fun t220=>(impl_MendLocal.j0 k l1 a2 bt215.1 (!t220)))) else (impl_MendLocal.j0 k l1 a2 bt215.1 true)))=some (r1,r2,r3):=h
 clear h
 replace H:=Option.bind_eq_some_iff.mp H
 obtain ⟨⟨t215,t218⟩,A40,H⟩:=H
 replace H:(if t218=true then ((impl_Local_all.f a0_0 a0_1 a0_2).bind fun t219=>((impl_areShards.f k l1 t219).bind fun t220=>(impl_MendLocal.j0 k l1 a2 t215 (!t220)))) else (impl_MendLocal.j0 k l1 a2 t215 true))=some (r1,r2,r3):=H
 have A4:=am A40
 clear A40
 have HC5:=am H
 clear H
 go_enter Try.func27,Try.ntmps27
 go_upto_region 2 with (first|((with_reducible refine gate_dst (N:=3) rfl ?_);refine box_event ?hg (N:=3) ?hd (cs:=#[.int .i64 a0_0, .int .i64 a0_1, .int .i64 a0_2]) (t:=51) ?hr ?_;(case hd=>rfl);(case hg=>rfl);(case hr=>first|(go_simp;done)|(go_simp;rfl));intro gb213 hg w6 hbox hb;have n0_:=am (pu d0 hb);have n1_:=am (hbox);have n2_:=am ((by rw [hg];exact (pz d0):w.heap.size≤gb213));have n3_:=n2_;clear HB;have HB:=n0_;have BK213:=n1_;have GW213:=n2_;have GE213:=n3_;clear n0_ n1_ n2_ n3_;clear hb hbox hg)|((with_reducible refine gate_dst (N:=6) rfl ?_);refine box_event ?hg (N:=6) ?hd (cs:=#[.int .i64 0, .string (⟨#[]⟩:ByteArray)]) (t:=48) ?hr ?_;(case hd=>rfl);(case hg=>rfl);(case hr=>first|(go_simp;done)|(go_simp;rfl));intro gb214 hg w7 hbox hb;have n0_:=am (qb (g:=gb213) (o:=.cells #[.int .i64 a0_0, .int .i64 a0_1, .int .i64 a0_2] 51 (0,0)) (by (with_reducible repeat (first|refine qn ?_ _|refine qd ?_|refine qa ?_ _));exact BK213.out) hb);have n1_:=am (pu (by repeat (first|(with_reducible first|exact HB.out|apply pa|apply pb|apply pd|refine pt ?_ GE213.out)|exact HB.out)) hb);have n2_:=am (hbox);have n3_:=am ((by rw [hg];exact (pz (by repeat (first|(with_reducible first|exact HB.out|apply pa|apply pb|apply pd|refine pt ?_ GE213.out)|exact HB.out))):w.heap.size≤gb214));have n4_:=n3_;have n5_:=am ((by rw [hg];exact Nat.ne_of_lt (blk_lt (g:=gb213) (o:=.cells #[.int .i64 a0_0, .int .i64 a0_1, .int .i64 a0_2] 51 (0,0)) (by (with_reducible repeat (first|refine qn ?_ _|refine qd ?_|refine qa ?_ _));exact BK213.out)):gb213 ≠ gb214));have n6_:=am ((by rw [hg];exact Nat.ne_of_gt (blk_lt (g:=gb213) (o:=.cells #[.int .i64 a0_0, .int .i64 a0_1, .int .i64 a0_2] 51 (0,0)) (by (with_reducible repeat (first|refine qn ?_ _|refine qd ?_|refine qa ?_ _));exact BK213.out)):gb214 ≠ gb213));clear BK213;clear HB;have BK213:=n0_;have HB:=n1_;have BK214:=n2_;have GW214:=n3_;have GE214:=n4_;have NB213_214:=n5_;have NB214_213:=n6_;clear n0_ n1_ n2_ n3_ n4_ n5_ n6_;clear hb hbox hg;have hnb8:=NB213_214.out;have hnc8:=NB214_213.out;have hcz9_0:w7.cell? ⟨gb213,0,none⟩=some (.int .i64 a0_0):=(blk_cell BK213.out 0).trans rfl;have hcz9_1:w7.cell? ⟨gb213,1,none⟩=some (.int .i64 a0_1):=(blk_cell BK213.out 1).trans rfl;have hcz9_2:w7.cell? ⟨gb213,2,none⟩=some (.int .i64 a0_2):=(blk_cell BK213.out 2).trans rfl;have hfz9_0:=blk_frozen BK213.out 0;have hfz9_1:=blk_frozen BK213.out 1;have hfz9_2:=blk_frozen BK213.out 2)|((with_reducible refine gate_callee (f:=75) rfl ?_);refine goesL_ (some 17) rfl rfl Try.func75 d5 rfl #[.agg #[.int .i64 a0_0, .int .i64 a0_1, .int .i64 a0_2], .int .i64 a2] rfl d1 ?_;(with_reducible refine (impl_HelpersOf.calls k a0_0 a0_1 a0_2 a2 t215 t218 _ A4.out).mono ?_);rintro e w10 ⟨v216,rfl,ho0,hb⟩;refine ⟨_,rfl,?_⟩;have n0_:=am (Kd.R_lower ho0 (pz (by repeat (first|(with_reducible first|exact HB.out|apply pa|apply pb|apply pd|refine pt ?_ GE213.out|refine pt ?_ GE214.out)|exact HB.out))));have n1_:=am (qb (g:=gb213) (o:=.cells #[.int .i64 a0_0, .int .i64 a0_1, .int .i64 a0_2] 51 (0,0)) (by (with_reducible repeat (first|refine qn ?_ _|refine qd ?_|refine qa ?_ _));exact BK213.out) hb);have n2_:=am (qb (g:=gb214) (o:=.cells #[.int .i64 0, .string (⟨#[]⟩:ByteArray)] 48 (0,0)) (by (with_reducible repeat (first|refine qn ?_ _|refine qd ?_|refine qa ?_ _));exact BK214.out) hb);have n3_:=am (pu (by repeat (first|(with_reducible first|exact HB.out|apply pa|apply pb|apply pd|refine pt ?_ GE213.out|refine pt ?_ GE214.out)|exact HB.out)) hb);clear BK213;clear BK214;clear HB;have HO217:=n0_;have BK213:=n1_;have BK214:=n2_;have HB:=n3_;clear n0_ n1_ n2_ n3_;(try clear hb);(try clear hb2);(try clear hk);(try clear hi);(try clear ho0)))
 (try simp only [Act.put,q1,q2,q3])
 go_cut [28] (fun v28 wc=>∃ (kq:Nat) (x28_4:Bool),v28 = .bool x28_4∧Aside0 (impl_MendLocal.j0 kq l1 a2 t215 x28_4=some (r1,r2,r3))∧Aside0 (kq≤k)∧Aside0 (Kd.R (Kd.int .i64) 3 wc w.heap.size (fun _=>True) v216 t215)∧Aside0 (wc.heap[gb213]? = some (.cells #[.int .i64 a0_0, .int .i64 a0_1, .int .i64 a0_2] 51 (0,0)))∧Aside0 (wc.heap[gb214]? = some (.cells #[.int .i64 0, .string (⟨#[]⟩:ByteArray)] 48 (0,0)))∧Aside0 (Below w.heap.size w wc))
 case first =>
  have H:=HC5.out
  clear HC5
  by_cases c11:t218=true
  ·subst c11
   have H1:((impl_Local_all.f a0_0 a0_1 a0_2).bind fun t219=>((impl_areShards.f k l1 t219).bind fun t220=>(impl_MendLocal.j0 k l1 a2 t215 (!t220))))=some (r1,r2,r3):=by rw [if_pos rfl] at H;exact H
   clear H
   have H:=H1
   clear H1
   replace H:=Option.bind_eq_some_iff.mp H
   obtain ⟨t219,A120,H⟩:=H
   replace H:((impl_areShards.f k l1 t219).bind fun t220=>(impl_MendLocal.j0 k l1 a2 t215 (!t220)))=some (r1,r2,r3):=H
   have A12:=am A120
   clear A120
   replace H:=Option.bind_eq_some_iff.mp H
   obtain ⟨t220,A130,H⟩:=H
   replace H:(impl_MendLocal.j0 k l1 a2 t215 (!t220))=some (r1,r2,r3):=H
   have A13:=am A130
   clear A130
   have H':=am H
   clear H
   have hnb14:=NB213_214.out
   have hnc14:=NB214_213.out
   have hcz15_0:w10.cell? ⟨gb213,0,none⟩=some (.int .i64 a0_0):=(blk_cell BK213.out 0).trans rfl
   have hcz15_1:w10.cell? ⟨gb213,1,none⟩=some (.int .i64 a0_1):=(blk_cell BK213.out 1).trans rfl
   have hcz15_2:w10.cell? ⟨gb213,2,none⟩=some (.int .i64 a0_2):=(blk_cell BK213.out 2).trans rfl
   have hfz15_0:=blk_frozen BK213.out 0
   have hfz15_1:=blk_frozen BK213.out 1
   have hfz15_2:=blk_frozen BK213.out 2
   go_wp2_with (first|(go_at_call 77;(with_reducible refine (impl_Local_all.calls a0_0 a0_1 a0_2 t219 _ A12.out).mono ?_);rintro e w16 ⟨rfl,hb⟩;have n0_:=am (Kd.R_below d21 hb);have n1_:=am (qb (g:=gb213) (o:=.cells #[.int .i64 a0_0, .int .i64 a0_1, .int .i64 a0_2] 51 (0,0)) (by (with_reducible repeat (first|refine qn ?_ _|refine qd ?_|refine qa ?_ _));exact BK213.out) hb);have n2_:=am (qb (g:=gb214) (o:=.cells #[.int .i64 0, .string (⟨#[]⟩:ByteArray)] 48 (0,0)) (by (with_reducible repeat (first|refine qn ?_ _|refine qd ?_|refine qa ?_ _));exact BK214.out) hb);have n3_:=am (pu (by repeat (first|(with_reducible first|exact HB.out|apply pa|apply pb|apply pd|refine pt ?_ GE213.out|refine pt ?_ GE214.out)|exact HB.out)) hb);clear HO217;clear BK213;clear BK214;clear HB;have HO217:=n0_;have BK213:=n1_;have BK214:=n2_;have HB:=n3_;clear n0_ n1_ n2_ n3_;(try clear hb);(try clear hb2);(try clear hk);(try clear hi))|(go_at_call 76;(with_reducible refine (impl_areShards.calls k _ _ l1 t219 t220 _ ?side1 ?side2 A13.out).mono ?_);(case side1=>repeat (first|exact (Kd.C_below HR1.out HB.out)|(with_reducible refine Kd.C_alloc ?_ _)|(with_reducible refine Kd.C_drewN ?_ _)|(with_reducible refine Kd.C_drew ?_)));(case side2=>exact HC1.out);rintro e w17 ⟨rfl,hb⟩;have n0_:=am (Kd.R_below d21 hb);have n1_:=am (qb (g:=gb213) (o:=.cells #[.int .i64 a0_0, .int .i64 a0_1, .int .i64 a0_2] 51 (0,0)) (by (with_reducible repeat (first|refine qn ?_ _|refine qd ?_|refine qa ?_ _));exact BK213.out) hb);have n2_:=am (qb (g:=gb214) (o:=.cells #[.int .i64 0, .string (⟨#[]⟩:ByteArray)] 48 (0,0)) (by (with_reducible repeat (first|refine qn ?_ _|refine qd ?_|refine qa ?_ _));exact BK214.out) hb);have n3_:=am (pu (by repeat (first|(with_reducible first|exact HB.out|apply pa|apply pb|apply pd|refine pt ?_ GE213.out|refine pt ?_ GE214.out)|exact HB.out)) hb);clear HO217;clear BK213;clear BK214;clear HB;have HO217:=n0_;have BK213:=n1_;have BK214:=n2_;have HB:=n3_;clear n0_ n1_ n2_ n3_;(try clear hb);(try clear hb2);(try clear hk);(try clear hi)))
   go_meet
   case rel=>exact ⟨_,(!t220),d4,H',⟨d25⟩,⟨d21⟩,⟨by (with_reducible repeat (first|refine qn ?_ _|refine qd ?_|refine qa ?_ _));exact BK213.out⟩,⟨by (with_reducible repeat (first|refine qn ?_ _|refine qd ?_|refine qa ?_ _));exact BK214.out⟩,⟨by repeat (first|(with_reducible first|exact HB.out|apply pa|apply pb|apply pd|refine pt ?_ GE213.out|refine pt ?_ GE214.out)|exact HB.out)⟩⟩
  replace c11:=Bool.eq_false_iff.mpr c11
  subst c11
  have H1:(impl_MendLocal.j0 k l1 a2 t215 true)=some (r1,r2,r3):=by rw [if_neg (show ¬ (false=true) by decide)] at H;exact H
  clear H
  have H:=H1
  clear H1
  have H':=am H
  clear H
  go_wp2
  go_meet
  case rel=>exact ⟨_,(true),d4,H',⟨d25⟩,⟨d21⟩,⟨by (with_reducible repeat (first|refine qn ?_ _|refine qd ?_|refine qa ?_ _));exact BK213.out⟩,⟨by (with_reducible repeat (first|refine qn ?_ _|refine qd ?_|refine qa ?_ _));exact BK214.out⟩,⟨by repeat (first|(with_reducible first|exact HB.out|apply pa|apply pb|apply pd|refine pt ?_ GE213.out|refine pt ?_ GE214.out)|exact HB.out)⟩⟩
 case rest =>
  clear HC5
  try clear c1
  try clear c2
  try clear p2
  try clear c7
  try clear c8
  try clear c11
  try clear c14
  try clear hcz15_0
  try clear hcz15_1
  try clear hcz15_2
  try clear hcz9_0
  try clear hcz9_1
  try clear hcz9_2
  try clear hfz15_0
  try clear hfz15_1
  try clear hfz15_2
  try clear hfz9_0
  try clear hfz9_1
  try clear hfz9_2
  obtain ⟨kq,x28_4,rfl,HA,HJ4,HO_8,BK213,BK214,HB⟩:=hcut
  cases kq with
  | zero=>exact absurd HA.out (by simp [impl_MendLocal.j0])
  | succ kj4 =>
   have H:=HA.out
   clear HA
   simp only [impl_MendLocal.j0] at H
   by_cases c18:x28_4=true
   ·subst c18
    have H1:(some (0,(⟨#[]⟩:ByteArray),false))=some (r1,r2,r3):=by rw [if_pos rfl] at H;exact H
    clear H
    have H:=H1
    clear H1
    simp only [Option.some.injEq,Prod.mk.injEq] at H
    obtain ⟨rfl,rfl,rfl⟩:=H
    have hnb19:=NB214_213.out
    have hnc19:=NB213_214.out
    have hcz20_0:wc.cell? ⟨gb214,0,none⟩=some (.int .i64 0):=(blk_cell BK214.out 0).trans rfl
    have hcz20_1:wc.cell? ⟨gb214,1,none⟩=some (.string (⟨#[]⟩:ByteArray)):=(blk_cell BK214.out 1).trans rfl
    have hfz20_0:=blk_frozen BK214.out 0
    have hfz20_1:=blk_frozen BK214.out 1
    go_wp2
    refine bodyPost_ret (results_ct rfl _ _ gb214 48 #[.int .i64 0, .string (⟨#[]⟩:ByteArray)] (0,0) _ rfl (by (with_reducible repeat (first|refine qn ?_ _|refine qd ?_|refine qa ?_ _));refine blk_put (cs:=#[.int .i64 0, .string (⟨#[]⟩:ByteArray)]) ?_ 1 _ rfl;(with_reducible repeat (first|refine qn ?_ _|refine qd ?_|refine qa ?_ _));refine blk_put (cs:=#[.int .i64 0, .string (⟨#[]⟩:ByteArray)]) ?_ 0 _ rfl;(with_reducible repeat (first|refine qn ?_ _|refine qd ?_|refine qa ?_ _));exact BK214.out) Try.underlying48 rfl d5) rfl ?_
    exact ⟨d2,by repeat (first|(with_reducible first|exact HB.out|apply pa|apply pb|apply pd|refine pt ?_ GE213.out|refine pt ?_ GE214.out)|exact HB.out)⟩
   replace c18:=Bool.eq_false_iff.mpr c18
   subst c18
   have H1:(impl_MendLocal.l0 kj4 l1 t215 (t215.length:Int) 0 a2 (⟨#[]⟩:ByteArray))=some (r1,r2,r3):=by rw [if_neg (show ¬ (false=true) by decide)] at H;exact H
   clear H
   have H:=H1
   clear H1
   have H':=am H
   clear H
   go_wp2_with (first|((with_reducible refine gate_dst (N:=10) rfl ?_);refine box_event ?hg (N:=10) ?hd (cs:=#[.int .i64 0, .string (⟨#[]⟩:ByteArray)]) (t:=48) ?hr ?_;(case hd=>rfl);(case hg=>rfl);(case hr=>first|(go_simp;done)|(go_simp;rfl));intro gb221 hg w21 hbox hb;have n0_:=am (Kd.R_below d7 hb);have n1_:=am (qb (g:=gb213) (o:=.cells #[.int .i64 a0_0, .int .i64 a0_1, .int .i64 a0_2] 51 (0,0)) (by (with_reducible repeat (first|refine qn ?_ _|refine qd ?_|refine qa ?_ _));exact BK213.out) hb);have n2_:=am (qb (g:=gb214) (o:=.cells #[.int .i64 0, .string (⟨#[]⟩:ByteArray)] 48 (0,0)) (by (with_reducible repeat (first|refine qn ?_ _|refine qd ?_|refine qa ?_ _));exact BK214.out) hb);have n3_:=am (pu (by repeat (first|(with_reducible first|exact HB.out|apply pa|apply pb|apply pd|refine pt ?_ GE213.out|refine pt ?_ GE214.out)|exact HB.out)) hb);have n4_:=am (hbox);have n5_:=am ((by rw [hg];exact (pz (by repeat (first|(with_reducible first|exact HB.out|apply pa|apply pb|apply pd|refine pt ?_ GE213.out|refine pt ?_ GE214.out)|exact HB.out))):w.heap.size≤gb221));have n6_:=n5_;have n7_:=am ((by rw [hg];exact Nat.ne_of_lt (blk_lt (g:=gb213) (o:=.cells #[.int .i64 a0_0, .int .i64 a0_1, .int .i64 a0_2] 51 (0,0)) (by (with_reducible repeat (first|refine qn ?_ _|refine qd ?_|refine qa ?_ _));exact BK213.out)):gb213 ≠ gb221));have n8_:=am ((by rw [hg];exact Nat.ne_of_gt (blk_lt (g:=gb213) (o:=.cells #[.int .i64 a0_0, .int .i64 a0_1, .int .i64 a0_2] 51 (0,0)) (by (with_reducible repeat (first|refine qn ?_ _|refine qd ?_|refine qa ?_ _));exact BK213.out)):gb221 ≠ gb213));have n9_:=am ((by rw [hg];exact Nat.ne_of_lt (blk_lt (g:=gb214) (o:=.cells #[.int .i64 0, .string (⟨#[]⟩:ByteArray)] 48 (0,0)) (by (with_reducible repeat (first|refine qn ?_ _|refine qd ?_|refine qa ?_ _));exact BK214.out)):gb214 ≠ gb221));have n10_:=am ((by rw [hg];exact Nat.ne_of_gt (blk_lt (g:=gb214) (o:=.cells #[.int .i64 0, .string (⟨#[]⟩:ByteArray)] 48 (0,0)) (by (with_reducible repeat (first|refine qn ?_ _|refine qd ?_|refine qa ?_ _));exact BK214.out)):gb221 ≠ gb214));clear HO_8;clear BK213;clear BK214;clear HB;have HO_8:=n0_;have BK213:=n1_;have BK214:=n2_;have HB:=n3_;have BK221:=n4_;have GW221:=n5_;have GE221:=n6_;have NB213_221:=n7_;have NB221_213:=n8_;have NB214_221:=n9_;have NB221_214:=n10_;clear n0_ n1_ n2_ n3_ n4_ n5_ n6_ n7_ n8_ n9_ n10_;clear hb hbox hg;have hnb22:=NB221_213.out;have hnc22:=NB213_221.out;have hnb23:=NB221_214.out;have hnc23:=NB214_221.out;have hcz24_0:w21.cell? ⟨gb221,0,none⟩=some (.int .i64 0):=(blk_cell BK221.out 0).trans rfl;have hcz24_1:w21.cell? ⟨gb221,1,none⟩=some (.string (⟨#[]⟩:ByteArray)):=(blk_cell BK221.out 1).trans rfl;have hfz24_0:=blk_frozen BK221.out 0;have hfz24_1:=blk_frozen BK221.out 1;obtain ⟨Ao25,co25,eo25⟩:=Kd.R_slice HO_8.out;subst eo25))
   go_loopg [34] kj4 (fun kq v34 w'=>∃ (x34_2:Int) (x215000_2:Int) (x215001_2:ByteArray) (x222001_2:ByteArray),v34 = .int .i64 x34_2∧Aside0 (impl_MendLocal.l0 kq l1 t215 (t215.length:Int) x34_2 a2 x222001_2=some (r1,r2,r3))∧Aside0 (kq≤kj4)∧Aside0 (Kd.R (Kd.int .i64) 3 w' w.heap.size (fun _=>True) (.slice Ao25 t215.length co25) t215)∧Aside0 (w'.heap[gb213]? = some (.cells #[.int .i64 a0_0, .int .i64 a0_1, .int .i64 a0_2] 51 (0,0)))∧Aside0 (w'.heap[gb214]? = some (.cells #[.int .i64 x215000_2, .string x215001_2] 48 (0,0)))∧Aside0 (w'.heap[gb221]? = some (.cells #[.int .i64 a2, .string x222001_2] 48 (0,0)))∧Aside0 (Below w.heap.size w w'))
   case atStart=>exact ⟨(0),(0),((⟨#[]⟩:ByteArray)),((⟨#[]⟩:ByteArray)),d4,H',⟨Nat.le_refl _⟩,⟨by (with_reducible repeat (first|apply Kd.R_alloc|apply Kd.R_drewN|apply Kd.R_drew));exact Kd.R_mono (Kd.R_far (p:=⟨gb221,1,none⟩) (Kd.R_far (p:=⟨gb221,0,none⟩) (Kd.R_types HO_8.out BK221.out d12) (fun _ hk=>hk.2) (.int .i64 a2)) (fun _ hk=>hk.2) (.string (⟨#[]⟩:ByteArray))) (fun _ hk=>trivial)⟩,⟨by (with_reducible repeat (first|refine qn ?_ _|refine qd ?_|refine qa ?_ _));refine blk_far ?_ NB213_221.out _;(with_reducible repeat (first|refine qn ?_ _|refine qd ?_|refine qa ?_ _));refine blk_far ?_ NB213_221.out _;(with_reducible repeat (first|refine qn ?_ _|refine qd ?_|refine qa ?_ _));exact BK213.out⟩,⟨by (with_reducible repeat (first|refine qn ?_ _|refine qd ?_|refine qa ?_ _));refine blk_far ?_ NB214_221.out _;(with_reducible repeat (first|refine qn ?_ _|refine qd ?_|refine qa ?_ _));refine blk_far ?_ NB214_221.out _;(with_reducible repeat (first|refine qn ?_ _|refine qd ?_|refine qa ?_ _));exact BK214.out⟩,⟨by (with_reducible repeat (first|refine qn ?_ _|refine qd ?_|refine qa ?_ _));refine blk_put (cs:=#[.int .i64 a2, .string (⟨#[]⟩:ByteArray)]) ?_ 1 _ rfl;(with_reducible repeat (first|refine qn ?_ _|refine qd ?_|refine qa ?_ _));refine blk_put (cs:=#[.int .i64 0, .string (⟨#[]⟩:ByteArray)]) ?_ 0 _ rfl;(with_reducible repeat (first|refine qn ?_ _|refine qd ?_|refine qa ?_ _));exact BK221.out⟩,⟨by repeat (first|(with_reducible first|exact HB.out|apply pa|apply pb|apply pd|refine pt ?_ GE213.out|refine pt ?_ GE214.out|refine pt ?_ GE221.out)|exact HB.out)⟩⟩
   case round =>
    clear H'
    try clear c1
    try clear c2
    try clear p2
    try clear c7
    try clear c8
    try clear c11
    try clear c14
    try clear c18
    try clear c19
    try clear c22
    try clear c23
    try clear hcz15_0
    try clear hcz15_1
    try clear hcz15_2
    try clear hcz20_0
    try clear hcz20_1
    try clear hcz24_0
    try clear hcz24_1
    try clear hcz9_0
    try clear hcz9_1
    try clear hcz9_2
    try clear hfz15_0
    try clear hfz15_1
    try clear hfz15_2
    try clear hfz20_0
    try clear hfz20_1
    try clear hfz24_0
    try clear hfz24_1
    try clear hfz9_0
    try clear hfz9_1
    try clear hfz9_2
    try clear p2
    obtain ⟨x34_2,x215000_2,x215001_2,x222001_2,rfl,HA,HK2,HO_32,BK213,BK214,BK221,HB⟩:=hrel
    cases gk with
    | zero=>exact absurd HA.out (by simp [impl_MendLocal.l0])
    | succ k2 =>
     have H:=HA.out
     clear HA
     simp only [impl_MendLocal.l0] at H
     by_cases c26:x34_2 < (t215.length:Int)
     ·rw [if_pos c26] at H
      have c26b0:decide (x34_2 < (t215.length:Int))=true:=decide_eq_true c26
      clear c26
      by_cases c27:0≤x34_2
      ·rw [if_pos c27] at H
       have c27b0:decide (0≤x34_2)=true:=decide_eq_true c27
       clear c27
       by_cases c28:x34_2 < (t215.length:Int)
       ·rw [if_pos c28] at H
        have c28b0:decide (x34_2 < (t215.length:Int))=true:=decide_eq_true c28
        clear c28
        replace H:=Option.bind_eq_some_iff.mp H
        obtain ⟨t223,A290,H⟩:=H
        replace H:(if t223 < 0 then (some (0,(⟨#[]⟩:ByteArray),false)) else (if x34_2=0 then (if 0≤t223 then (if t223 < (l1.length:Int) then (if 0≤(((rd_T48 l1 t223).f1).size:Int) then (if ((((rd_T48 l1 t223).f1).size:Int):Int).toNat≤281474976710656 then ((impl_sumOf.f k2 (strOfNums (List.replicate ((((rd_T48 l1 t223).f1).size:Int):Int).toNat 0)) ((rd_T48 l1 t223).f1)).bind fun t229=>(impl_MendLocal.l0 k2 l1 t215 (t215.length:Int) (wrap64 (x34_2+1)) a2 t229)) else (none)) else (none)) else (none)) else (none)) else (if 0≤t223 then (if t223 < (l1.length:Int) then ((impl_sumOf.f k2 x222001_2 ((rd_T48 l1 t223).f1)).bind fun t231=>(impl_MendLocal.l0 k2 l1 t215 (t215.length:Int) (wrap64 (x34_2+1)) a2 t231)) else (none)) else (none))))=some (r1,r2,r3):=H
        have A29:=am A290
        clear A290
        by_cases c30:t223 < 0
        ·rw [if_pos c30] at H
         have c30b0:decide (t223 < 0)=true:=decide_eq_true c30
         clear c30
         simp only [Option.some.injEq,Prod.mk.injEq] at H
         obtain ⟨rfl,rfl,rfl⟩:=H
         have p222:0≤(x34_2:Int):=od d3
         have q222:x34_2 < (t215.length:Int):=od d3
         obtain ⟨ad222,e222,hx222_0⟩:=Kd.at_int (Kd.R_reads' HO_32.out).2.2 x34_2 p222 q222
         cases e222
         replace p222:=eq_true p222
         replace q222:=eq_true q222
         go_wp2_with (first|(go_at_call 78;(with_reducible refine (mend_Shard.calls _ _ l1 (rd t215 x34_2) t223 _ _ ?side1 ?side2 ?box A29.out).mono ?_);(case side1=>repeat (first|exact (Kd.C_below HR1.out HB.out)|(with_reducible refine Kd.C_alloc ?_ _)|(with_reducible refine Kd.C_drewN ?_ _)|(with_reducible refine Kd.C_drew ?_)));(case side2=>exact HC1.out);(case box=>exact (blk_cell (heap_alloc_new _ _) 0).trans rfl);rintro e w31 ⟨rfl,hb⟩;have n0_:=am (Kd.R_below d8 hb);have n1_:=am (qb (g:=gb213) (o:=.cells #[.int .i64 a0_0, .int .i64 a0_1, .int .i64 a0_2] 51 (0,0)) (by (with_reducible repeat (first|refine qn ?_ _|refine qd ?_|refine qa ?_ _));exact BK213.out) hb);have n2_:=am (qb (g:=gb214) (o:=.cells #[.int .i64 x215000_2, .string x215001_2] 48 (0,0)) (by (with_reducible repeat (first|refine qn ?_ _|refine qd ?_|refine qa ?_ _));exact BK214.out) hb);have n3_:=am (qb (g:=gb221) (o:=.cells #[.int .i64 a2, .string x222001_2] 48 (0,0)) (by (with_reducible repeat (first|refine qn ?_ _|refine qd ?_|refine qa ?_ _));exact BK221.out) hb);have n4_:=am (pu (by repeat (first|(with_reducible first|exact HB.out|apply pa|apply pb|apply pd|refine pt ?_ GE213.out|refine pt ?_ GE214.out|refine pt ?_ GE221.out)|exact HB.out)) hb);clear HO_32;clear BK213;clear BK214;clear BK221;clear HB;have HO_32:=n0_;have BK213:=n1_;have BK214:=n2_;have BK221:=n3_;have HB:=n4_;clear n0_ n1_ n2_ n3_ n4_;(try clear hb);(try clear hb2);(try clear hk);(try clear hi);have hnb32:=NB214_213.out;have hnc32:=NB213_214.out;have hnb33:=NB214_221.out;have hnc33:=NB221_214.out;have hcz34_0:w31.cell? ⟨gb214,0,none⟩=some (.int .i64 x215000_2):=(blk_cell BK214.out 0).trans rfl;have hcz34_1:w31.cell? ⟨gb214,1,none⟩=some (.string x215001_2):=(blk_cell BK214.out 1).trans rfl;have hfz34_0:=blk_frozen BK214.out 0;have hfz34_1:=blk_frozen BK214.out 1))
         refine bodyPost_ret (results_ct rfl _ _ gb214 48 #[.int .i64 0, .string (⟨#[]⟩:ByteArray)] (0,0) _ rfl (by (with_reducible repeat (first|refine qn ?_ _|refine qd ?_|refine qa ?_ _));refine blk_put (cs:=#[.int .i64 0, .string x215001_2]) ?_ 1 _ rfl;(with_reducible repeat (first|refine qn ?_ _|refine qd ?_|refine qa ?_ _));refine blk_put (cs:=#[.int .i64 x215000_2, .string x215001_2]) ?_ 0 _ rfl;(with_reducible repeat (first|refine qn ?_ _|refine qd ?_|refine qa ?_ _));exact BK214.out) Try.underlying48 rfl d5) rfl ?_
         exact ⟨d2,by repeat (first|(with_reducible first|exact HB.out|apply pa|apply pb|apply pd|refine pt ?_ GE213.out|refine pt ?_ GE214.out|refine pt ?_ GE221.out)|exact HB.out)⟩
        rw [if_neg c30] at H
        have c30b0:decide (t223 < 0)=false:=decide_eq_false c30
        clear c30
        by_cases c35:x34_2=0
        ·rw [if_pos c35] at H
         have c35b0:(x34_2 == 0)=true:=beq_iff_eq.mpr c35
         have c35b1:(x34_2 != 0)=false:=bne_eq_false_iff_eq.mpr c35
         clear c35
         by_cases c36:0≤t223
         ·rw [if_pos c36] at H
          have c36b0:decide (0≤t223)=true:=decide_eq_true c36
          clear c36
          by_cases c37:t223 < (l1.length:Int)
          ·rw [if_pos c37] at H
           have c37b0:decide (t223 < (l1.length:Int))=true:=decide_eq_true c37
           clear c37
           by_cases c38:0≤(((rd_T48 l1 t223).f1).size:Int)
           ·rw [if_pos c38] at H
            have c38b0:=eq_true c38
            have c38b1:decide (0≤(((rd_T48 l1 t223).f1).size:Int))=true:=decide_eq_true c38
            clear c38
            by_cases c39:((((rd_T48 l1 t223).f1).size:Int):Int).toNat≤281474976710656
            ·rw [if_pos c39] at H
             have c39b0:=eq_true c39
             have c39b1:decide (((((rd_T48 l1 t223).f1).size:Int):Int).toNat≤281474976710656)=true:=decide_eq_true c39
             clear c39
             obtain ⟨y225,hy225⟩:∃ y_:List Int,y_=(List.replicate ((((rd_T48 l1 t223).f1).size:Int):Int).toNat 0):=⟨_,rfl⟩
             replace H:((impl_sumOf.f k2 (strOfNums y225) ((rd_T48 l1 t223).f1)).bind fun t229=>(impl_MendLocal.l0 k2 l1 t215 (t215.length:Int) (wrap64 (x34_2+1)) a2 t229))=some (r1,r2,r3):=by first|(rw [hy225];with_reducible exact H)|(have H2_:=(Option.bind_some _ _).symm.trans H;rw [hy225];with_reducible exact H2_)|(have H2_:=(Option.bind_some _ _).symm.trans H;with_reducible exact H2_)|with_reducible exact H|(rw [hy225];exact H)|exact H
             have Ny225:=am hy225
             clear hy225
             replace H:=Option.bind_eq_some_iff.mp H
             obtain ⟨t229,A400,H⟩:=H
             replace H:(impl_MendLocal.l0 k2 l1 t215 (t215.length:Int) (wrap64 (x34_2+1)) a2 t229)=some (r1,r2,r3):=H
             have A40:=am A400
             clear A400
             have H':=am H
             clear H
             have p222:0≤(x34_2:Int):=od d3
             have q222:x34_2 < (t215.length:Int):=od d3
             obtain ⟨ad222,e222,hx222_0⟩:=Kd.at_int (Kd.R_reads' HO_32.out).2.2 x34_2 p222 q222
             cases e222
             replace p222:=eq_true p222
             replace q222:=eq_true q222
             try go_wp2_with (first|(go_at_call 78;(with_reducible refine (mend_Shard.calls _ _ l1 (rd t215 x34_2) t223 _ _ ?side1 ?side2 ?box A29.out).mono ?_);(case side1=>repeat (first|exact (Kd.C_below HR1.out HB.out)|(with_reducible refine Kd.C_alloc ?_ _)|(with_reducible refine Kd.C_drewN ?_ _)|(with_reducible refine Kd.C_drew ?_)));(case side2=>exact HC1.out);(case box=>exact (blk_cell (heap_alloc_new _ _) 0).trans rfl);rintro e w41 ⟨rfl,hb⟩;have n0_:=am (Kd.R_below d8 hb);have n1_:=am (qb (g:=gb213) (o:=.cells #[.int .i64 a0_0, .int .i64 a0_1, .int .i64 a0_2] 51 (0,0)) (by (with_reducible repeat (first|refine qn ?_ _|refine qd ?_|refine qa ?_ _));exact BK213.out) hb);have n2_:=am (qb (g:=gb214) (o:=.cells #[.int .i64 x215000_2, .string x215001_2] 48 (0,0)) (by (with_reducible repeat (first|refine qn ?_ _|refine qd ?_|refine qa ?_ _));exact BK214.out) hb);have n3_:=am (qb (g:=gb221) (o:=.cells #[.int .i64 a2, .string x222001_2] 48 (0,0)) (by (with_reducible repeat (first|refine qn ?_ _|refine qd ?_|refine qa ?_ _));exact BK221.out) hb);have n4_:=am (pu (by repeat (first|(with_reducible first|exact HB.out|apply pa|apply pb|apply pd|refine pt ?_ GE213.out|refine pt ?_ GE214.out|refine pt ?_ GE221.out)|exact HB.out)) hb);clear HO_32;clear BK213;clear BK214;clear BK221;clear HB;have HO_32:=n0_;have BK213:=n1_;have BK214:=n2_;have BK221:=n3_;have HB:=n4_;clear n0_ n1_ n2_ n3_ n4_;(try clear hb);(try clear hb2);(try clear hk);(try clear hi);have p224:0≤(t223:Int):=od d3;have q224:t223 < (l1.length:Int):=od d3;obtain ⟨ad224,e224,hx224_0,hx224_1⟩:=at_T48 HR1.out t223 p224 q224;cases e224;replace hx224_0:=(HB.out.cell (World.block_lt_of_cell? w _ hx224_0)).trans hx224_0;replace hx224_1:=(HB.out.cell (World.block_lt_of_cell? w _ hx224_1)).trans hx224_1;replace p224:=eq_true p224;replace q224:=eq_true q224)|((with_reducible refine gate_dst (N:=53) rfl ?_);refine Kd.R_make (Kd.int .u8) _ 5 rfl (N:=53) rfl 24 _ _ rfl (((rd_T48 l1 t223).f1).size:Int) rfl rfl Try.underlying24 (.int .u8 0) 1 info5 rfl d12 d16 0 (ok:=fun _=>True) (okp:=fun _=>True) rfl (fun _ hk=>hk) trivial (od d3) (Nat.le_trans (Nat.mul_le_mul_right _ (od d3:(((rd_T48 l1 t223).f1).size:Int).toNat≤281474976710656)) d16) (Below.refl _ _) (Nat.le_refl _) ?_;intro v226 w42 ho43 hb hg_ hnew_;clear hg_ hnew_;(first|rw [← Ny225.out] at ho43|(simp only [Int.reduceToNat] at ho43;rw [← Ny225.out] at ho43));have n0_:=am (Kd.R_below d8 hb);have n1_:=am (Kd.R_lower ho43 (pz (by repeat (first|(with_reducible first|exact HB.out|apply pa|apply pb|apply pd|refine pt ?_ GE213.out|refine pt ?_ GE214.out|refine pt ?_ GE221.out)|exact HB.out))));have n2_:=am (qb (g:=gb213) (o:=.cells #[.int .i64 a0_0, .int .i64 a0_1, .int .i64 a0_2] 51 (0,0)) (by (with_reducible repeat (first|refine qn ?_ _|refine qd ?_|refine qa ?_ _));exact BK213.out) hb);have n3_:=am (qb (g:=gb214) (o:=.cells #[.int .i64 x215000_2, .string x215001_2] 48 (0,0)) (by (with_reducible repeat (first|refine qn ?_ _|refine qd ?_|refine qa ?_ _));exact BK214.out) hb);have n4_:=am (qb (g:=gb221) (o:=.cells #[.int .i64 a2, .string x222001_2] 48 (0,0)) (by (with_reducible repeat (first|refine qn ?_ _|refine qd ?_|refine qa ?_ _));exact BK221.out) hb);have n5_:=am (pu (by repeat (first|(with_reducible first|exact HB.out|apply pa|apply pb|apply pd|refine pt ?_ GE213.out|refine pt ?_ GE214.out|refine pt ?_ GE221.out)|exact HB.out)) hb);clear HO_32;clear BK213;clear BK214;clear BK221;clear HB;have HO_32:=n0_;have HO227:=n1_;have BK213:=n2_;have BK214:=n3_;have BK221:=n4_;have HB:=n5_;clear n0_ n1_ n2_ n3_ n4_ n5_;clear hb ho43;have hcv44:=own_string (P:=Try.prog) Try.underlying24 Try.underlying5 Try.underlying9 (Kd.own_of_R HO227.out);have hnb45:=NB221_213.out;have hnc45:=NB213_221.out;have hnb46:=NB221_214.out;have hnc46:=NB214_221.out;have hcz47_0:w42.cell? ⟨gb221,0,none⟩=some (.int .i64 a2):=(blk_cell BK221.out 0).trans rfl;have hcz47_1:w42.cell? ⟨gb221,1,none⟩=some (.string x222001_2):=(blk_cell BK221.out 1).trans rfl;have hfz47_0:=blk_frozen BK221.out 0;have hfz47_1:=blk_frozen BK221.out 1))
             have n0_:Aside0 (Kd.R (Kd.int .i64) 3 (w42.setCell ⟨gb221,1,none⟩ (.string (strOfNums y225))) w.heap.size (fun _=>True) (.slice (some ad222) t215.length co25) t215):=⟨by (with_reducible repeat (first|apply Kd.R_alloc|apply Kd.R_drewN|apply Kd.R_drew));exact Kd.R_mono (Kd.R_far (p:=⟨gb221,1,none⟩) (Kd.R_types HO_32.out BK221.out d12) (fun _ hk=>hk.2) (.string (strOfNums y225))) (fun _ hk=>trivial)⟩
             have n1_:Aside0 (Kd.R (Kd.int .u8) 5 (w42.setCell ⟨gb221,1,none⟩ (.string (strOfNums y225))) w.heap.size (fun _=>True) v226 y225):=⟨by (with_reducible repeat (first|apply Kd.R_alloc|apply Kd.R_drewN|apply Kd.R_drew));exact Kd.R_mono (Kd.R_far (p:=⟨gb221,1,none⟩) (Kd.R_types HO227.out BK221.out d12) (fun _ hk=>hk.2) (.string (strOfNums y225))) (fun _ hk=>trivial)⟩
             have n2_:Aside0 ((w42.setCell ⟨gb221,1,none⟩ (.string (strOfNums y225))).heap[gb213]? = some (.cells #[.int .i64 a0_0, .int .i64 a0_1, .int .i64 a0_2] 51 (0,0))):=⟨by (with_reducible repeat (first|refine qn ?_ _|refine qd ?_|refine qa ?_ _));refine blk_far ?_ NB213_221.out _;(with_reducible repeat (first|refine qn ?_ _|refine qd ?_|refine qa ?_ _));exact BK213.out⟩
             have n3_:Aside0 ((w42.setCell ⟨gb221,1,none⟩ (.string (strOfNums y225))).heap[gb214]? = some (.cells #[.int .i64 x215000_2, .string x215001_2] 48 (0,0))):=⟨by (with_reducible repeat (first|refine qn ?_ _|refine qd ?_|refine qa ?_ _));refine blk_far ?_ NB214_221.out _;(with_reducible repeat (first|refine qn ?_ _|refine qd ?_|refine qa ?_ _));exact BK214.out⟩
             have n4_:Aside0 ((w42.setCell ⟨gb221,1,none⟩ (.string (strOfNums y225))).heap[gb221]? = some (.cells #[.int .i64 a2, .string (strOfNums y225)] 48 (0,0))):=⟨by (with_reducible repeat (first|refine qn ?_ _|refine qd ?_|refine qa ?_ _));refine blk_put (cs:=#[.int .i64 a2, .string x222001_2]) ?_ 1 _ rfl;(with_reducible repeat (first|refine qn ?_ _|refine qd ?_|refine qa ?_ _));exact BK221.out⟩
             have n5_:Aside0 (Below w.heap.size w (w42.setCell ⟨gb221,1,none⟩ (.string (strOfNums y225)))):=⟨by repeat (first|(with_reducible first|exact HB.out|apply pa|apply pb|apply pd|refine pt ?_ GE213.out|refine pt ?_ GE214.out|refine pt ?_ GE221.out)|exact HB.out)⟩
             (try clear HO_32)
             (try clear HO227)
             (try clear BK213)
             (try clear BK214)
             (try clear BK221)
             (try clear HB)
             generalize (w42.setCell ⟨gb221,1,none⟩ (.string (strOfNums y225)))=w48 at n0_ n1_ n2_ n3_ n4_ n5_ ⊢
             have HO_32:=n0_
             have HO227:=n1_
             have BK213:=n2_
             have BK214:=n3_
             have BK221:=n4_
             have HB:=n5_
             clear n0_ n1_ n2_ n3_ n4_ n5_
             have n0_:=am (Kd.R_drew HO_32.out)
             have n1_:=am (Kd.R_drew HO227.out)
             have n2_:=am (qd BK213.out)
             have n3_:=am (qd BK214.out)
             have n4_:=am (qd BK221.out)
             have n5_:=am (pd HB.out)
             clear HO_32
             clear HO227
             clear BK213
             clear BK214
             clear BK221
             clear HB
             have HO_32:=n0_
             have HO227:=n1_
             have BK213:=n2_
             have BK214:=n3_
             have BK221:=n4_
             have HB:=n5_
             clear n0_ n1_ n2_ n3_ n4_ n5_
             have p228:0≤(t223:Int):=od d3
             have q228:t223 < (l1.length:Int):=od d3
             obtain ⟨ad228,e228,hx228_0,hx228_1⟩:=at_T48 HR1.out t223 p228 q228
             have hw228_1:=hx228_1
             have hw228_0:=hx228_0
             obtain rfl:ad224=ad228:=(by injection e228)
             replace hx228_0:=(HB.out.cell (World.block_lt_of_cell? w _ hx228_0)).trans hx228_0
             replace hx228_1:=(HB.out.cell (World.block_lt_of_cell? w _ hx228_1)).trans hx228_1
             replace p228:=eq_true p228
             replace q228:=eq_true q228
             refine rS (n:=10) (S:=fun w'=>w'.cell? ⟨gb221,0,none⟩=some (.int .i64 a2)∧w'.cell? ⟨gb221,1,none⟩=some (.string (strOfNums y225))∧w'.cell? (ad224.add ((t223).toNat*2))=some (.int .i64 ((rd_T48 l1 t223).f0))∧w'.cell? ⟨(ad224.add ((t223).toNat*2)).block,(ad224.add ((t223).toNat*2)).off+1,none⟩=some (.string ((rd_T48 l1 t223).f1))) (ds:=[9]) [(0,56),(2,58),(3,59),(4,60),(5,61),(1,57),(6,62),(7,0),(8,64),(9,0)] d5 rfl impl_MendLocal.tab13 impl_MendLocal.bits13 ⟨(blk_cell BK221.out 0).trans rfl,(blk_cell BK221.out 1).trans rfl,((HB.out.cell (World.block_lt_of_cell? w _ hw228_0)).trans hw228_0),((HB.out.cell (World.block_lt_of_cell? w _ hw228_1)).trans hw228_1)⟩ (fun hHeld HT_ HW_=>?_)
             generalize w48.drew=w49 at HO_32 HO227 BK213 BK214 BK221 HB hx228_0 hx228_1 hHeld ⊢
             refine rR ?_
             refine rO (N:=some 63) HT_ rfl rfl d5 d12 (fun K hK=>?_)
             refine goes_ Try.func80 d5 rfl #[.string (strOfNums y225), .string ((rd_T48 l1 t223).f1)] d28 rfl rfl d1 ?_
             with_reducible refine (impl_sumOf.calls k2 (strOfNums y225) ((rd_T48 l1 t223).f1) t229 _ A40.out).mono ?_
             rintro e w50 ⟨rfl,hb⟩
             refine ⟨_,rfl,?_⟩
             have n0_:=am (Kd.R_below d8 hb)
             have n1_:=am (Kd.R_below (by (with_reducible repeat (first|apply Kd.R_alloc|apply Kd.R_drewN|apply Kd.R_drew));exact HO227.out) hb)
             have n2_:=am (qb (g:=gb213) (o:=.cells #[.int .i64 a0_0, .int .i64 a0_1, .int .i64 a0_2] 51 (0,0)) (by (with_reducible repeat (first|refine qn ?_ _|refine qd ?_|refine qa ?_ _));exact BK213.out) hb)
             have n3_:=am (qb (g:=gb214) (o:=.cells #[.int .i64 x215000_2, .string x215001_2] 48 (0,0)) (by (with_reducible repeat (first|refine qn ?_ _|refine qd ?_|refine qa ?_ _));exact BK214.out) hb)
             have n4_:=am (qb (g:=gb221) (o:=.cells #[.int .i64 a2, .string (strOfNums y225)] 48 (0,0)) (by (with_reducible repeat (first|refine qn ?_ _|refine qd ?_|refine qa ?_ _));exact BK221.out) hb)
             have n5_:=am (pu (by repeat (first|(with_reducible first|exact HB.out|apply pa|apply pb|apply pd|refine pt ?_ GE213.out|refine pt ?_ GE214.out|refine pt ?_ GE221.out)|exact HB.out)) hb)
             clear HO_32
             clear HO227
             clear BK213
             clear BK214
             clear BK221
             clear HB
             have HO_32:=n0_
             have HO227:=n1_
             have BK213:=n2_
             have BK214:=n3_
             have BK221:=n4_
             have HB:=n5_
             clear n0_ n1_ n2_ n3_ n4_ n5_
             (try clear hb)
             (try clear hb2)
             (try clear hk)
             (try clear hi)
             refine hK.out _ _ ⟨(blk_cell BK221.out 0).trans rfl,(blk_cell BK221.out 1).trans rfl,((HB.out.cell (World.block_lt_of_cell? w _ hw228_0)).trans hw228_0),((HB.out.cell (World.block_lt_of_cell? w _ hw228_1)).trans hw228_1)⟩ (fun hHeld=>?_)
             clear hK K
             refine rN (a':=?_) ?_ ?_
             rotate_left
             ·show Act.put _ (some 63) _=_
              simp only [Act.put,q1,q2,q3,i64_w,i32_w]
              rfl
             refine rR ?_
             refine rL (N:=none) HT_ rfl rfl d5 d12 (fun K hK=>?_)
             have hs51:w50.cell? ⟨gb221,1,none⟩=some (.string (strOfNums y225)):=(blk_cell BK221.out 1).trans rfl
             have hfs51:=blk_frozen BK221.out 1
             have hns51_0:=NB213_221.out
             have hns51_1:=NB214_221.out
             have hms51_0:=NB221_213.out
             have hms51_1:=NB221_214.out
             refine skip_ (w1:=?_) d28 rfl ?_ ?_
             rotate_left
             ·go_simp
              rfl
             refine hK.out _ _ ?_
             clear hK K
             refine rD HT_ d5 ?_
             try go_wp2
             go_roundg k2
             case measure=>have:=HJ4.out;have:=HK2.out;omega
             case rel=>exact ⟨(wrap64 (x34_2+1)),(x215000_2),(x215001_2),(t229),d4,H',⟨by have:=HJ4.out;have:=HK2.out;omega⟩,⟨by (with_reducible repeat (first|apply Kd.R_alloc|apply Kd.R_drewN|apply Kd.R_drew));exact Kd.R_mono (Kd.R_far (p:=⟨gb221,1,none⟩) (Kd.R_types HO_32.out BK221.out d12) (fun _ hk=>hk.2) (.string t229)) (fun _ hk=>trivial)⟩,⟨by (with_reducible repeat (first|refine qn ?_ _|refine qd ?_|refine qa ?_ _));refine blk_far ?_ NB213_221.out _;(with_reducible repeat (first|refine qn ?_ _|refine qd ?_|refine qa ?_ _));exact BK213.out⟩,⟨by (with_reducible repeat (first|refine qn ?_ _|refine qd ?_|refine qa ?_ _));refine blk_far ?_ NB214_221.out _;(with_reducible repeat (first|refine qn ?_ _|refine qd ?_|refine qa ?_ _));exact BK214.out⟩,⟨by (with_reducible repeat (first|refine qn ?_ _|refine qd ?_|refine qa ?_ _));refine blk_put (cs:=#[.int .i64 a2, .string (strOfNums y225)]) ?_ 1 _ rfl;(with_reducible repeat (first|refine qn ?_ _|refine qd ?_|refine qa ?_ _));exact BK221.out⟩,⟨by repeat (first|(with_reducible first|exact HB.out|apply pa|apply pb|apply pd|refine pt ?_ GE213.out|refine pt ?_ GE214.out|refine pt ?_ GE221.out)|exact HB.out)⟩⟩
            rw [if_neg c39] at H
            exact absurd H d24
           rw [if_neg c38] at H
           exact absurd H d24
          rw [if_neg c37] at H
          exact absurd H d24
         rw [if_neg c36] at H
         exact absurd H d24
        rw [if_neg c35] at H
        have c35b0:(x34_2 == 0)=false:=beq_eq_false_iff_ne.mpr c35
        have c35b1:(x34_2 != 0)=true:=bne_iff_ne.mpr c35
        by_cases c52:0≤t223
        ·rw [if_pos c52] at H
         have c52b0:decide (0≤t223)=true:=decide_eq_true c52
         clear c52
         by_cases c53:t223 < (l1.length:Int)
         ·rw [if_pos c53] at H
          have c53b0:decide (t223 < (l1.length:Int))=true:=decide_eq_true c53
          clear c53
          replace H:=Option.bind_eq_some_iff.mp H
          obtain ⟨t231,A540,H⟩:=H
          replace H:(impl_MendLocal.l0 k2 l1 t215 (t215.length:Int) (wrap64 (x34_2+1)) a2 t231)=some (r1,r2,r3):=H
          have A54:=am A540
          clear A540
          have H':=am H
          clear H
          have p222:0≤(x34_2:Int):=od d3
          have q222:x34_2 < (t215.length:Int):=od d3
          obtain ⟨ad222,e222,hx222_0⟩:=Kd.at_int (Kd.R_reads' HO_32.out).2.2 x34_2 p222 q222
          cases e222
          replace p222:=eq_true p222
          replace q222:=eq_true q222
          try go_wp2_with (first|(go_at_call 78;(with_reducible refine (mend_Shard.calls _ _ l1 (rd t215 x34_2) t223 _ _ ?side1 ?side2 ?box A29.out).mono ?_);(case side1=>repeat (first|exact (Kd.C_below HR1.out HB.out)|(with_reducible refine Kd.C_alloc ?_ _)|(with_reducible refine Kd.C_drewN ?_ _)|(with_reducible refine Kd.C_drew ?_)));(case side2=>exact HC1.out);(case box=>exact (blk_cell (heap_alloc_new _ _) 0).trans rfl);rintro e w55 ⟨rfl,hb⟩;have n0_:=am (Kd.R_below d8 hb);have n1_:=am (qb (g:=gb213) (o:=.cells #[.int .i64 a0_0, .int .i64 a0_1, .int .i64 a0_2] 51 (0,0)) (by (with_reducible repeat (first|refine qn ?_ _|refine qd ?_|refine qa ?_ _));exact BK213.out) hb);have n2_:=am (qb (g:=gb214) (o:=.cells #[.int .i64 x215000_2, .string x215001_2] 48 (0,0)) (by (with_reducible repeat (first|refine qn ?_ _|refine qd ?_|refine qa ?_ _));exact BK214.out) hb);have n3_:=am (qb (g:=gb221) (o:=.cells #[.int .i64 a2, .string x222001_2] 48 (0,0)) (by (with_reducible repeat (first|refine qn ?_ _|refine qd ?_|refine qa ?_ _));exact BK221.out) hb);have n4_:=am (pu (by repeat (first|(with_reducible first|exact HB.out|apply pa|apply pb|apply pd|refine pt ?_ GE213.out|refine pt ?_ GE214.out|refine pt ?_ GE221.out)|exact HB.out)) hb);clear HO_32;clear BK213;clear BK214;clear BK221;clear HB;have HO_32:=n0_;have BK213:=n1_;have BK214:=n2_;have BK221:=n3_;have HB:=n4_;clear n0_ n1_ n2_ n3_ n4_;(try clear hb);(try clear hb2);(try clear hk);(try clear hi)))
          have n0_:=am (Kd.R_drew HO_32.out)
          have n1_:=am (qd BK213.out)
          have n2_:=am (qd BK214.out)
          have n3_:=am (qd BK221.out)
          have n4_:=am (pd HB.out)
          clear HO_32
          clear BK213
          clear BK214
          clear BK221
          clear HB
          have HO_32:=n0_
          have BK213:=n1_
          have BK214:=n2_
          have BK221:=n3_
          have HB:=n4_
          clear n0_ n1_ n2_ n3_ n4_
          have p230:0≤(t223:Int):=od d3
          have q230:t223 < (l1.length:Int):=od d3
          obtain ⟨ad230,e230,hx230_0,hx230_1⟩:=at_T48 HR1.out t223 p230 q230
          have hw230_1:=hx230_1
          have hw230_0:=hx230_0
          cases e230
          replace hx230_0:=(HB.out.cell (World.block_lt_of_cell? w _ hx230_0)).trans hx230_0
          replace hx230_1:=(HB.out.cell (World.block_lt_of_cell? w _ hx230_1)).trans hx230_1
          replace p230:=eq_true p230
          replace q230:=eq_true q230
          refine rS (n:=10) (S:=fun w'=>w'.cell? ⟨gb221,0,none⟩=some (.int .i64 a2)∧w'.cell? ⟨gb221,1,none⟩=some (.string x222001_2)∧w'.cell? (ad230.add ((t223).toNat*2))=some (.int .i64 ((rd_T48 l1 t223).f0))∧w'.cell? ⟨(ad230.add ((t223).toNat*2)).block,(ad230.add ((t223).toNat*2)).off+1,none⟩=some (.string ((rd_T48 l1 t223).f1))) (ds:=[9]) [(0,56),(2,58),(3,59),(4,60),(5,61),(1,57),(6,62),(7,0),(8,64),(9,0)] d5 rfl impl_MendLocal.tab13 impl_MendLocal.bits13 ⟨(blk_cell BK221.out 0).trans rfl,(blk_cell BK221.out 1).trans rfl,((HB.out.cell (World.block_lt_of_cell? w _ hw230_0)).trans hw230_0),((HB.out.cell (World.block_lt_of_cell? w _ hw230_1)).trans hw230_1)⟩ (fun hHeld HT_ HW_=>?_)
          generalize w55.drew=w56 at HO_32 BK213 BK214 BK221 HB hx230_0 hx230_1 hHeld ⊢
          refine rR ?_
          refine rO (N:=some 63) HT_ rfl rfl d5 d12 (fun K hK=>?_)
          refine goes_ Try.func80 d5 rfl #[.string x222001_2, .string ((rd_T48 l1 t223).f1)] d28 rfl rfl d1 ?_
          with_reducible refine (impl_sumOf.calls k2 x222001_2 ((rd_T48 l1 t223).f1) t231 _ A54.out).mono ?_
          rintro e w57 ⟨rfl,hb⟩
          refine ⟨_,rfl,?_⟩
          have n0_:=am (Kd.R_below d8 hb)
          have n1_:=am (qb (g:=gb213) (o:=.cells #[.int .i64 a0_0, .int .i64 a0_1, .int .i64 a0_2] 51 (0,0)) (by (with_reducible repeat (first|refine qn ?_ _|refine qd ?_|refine qa ?_ _));exact BK213.out) hb)
          have n2_:=am (qb (g:=gb214) (o:=.cells #[.int .i64 x215000_2, .string x215001_2] 48 (0,0)) (by (with_reducible repeat (first|refine qn ?_ _|refine qd ?_|refine qa ?_ _));exact BK214.out) hb)
          have n3_:=am (qb (g:=gb221) (o:=.cells #[.int .i64 a2, .string x222001_2] 48 (0,0)) (by (with_reducible repeat (first|refine qn ?_ _|refine qd ?_|refine qa ?_ _));exact BK221.out) hb)
          have n4_:=am (pu (by repeat (first|(with_reducible first|exact HB.out|apply pa|apply pb|apply pd|refine pt ?_ GE213.out|refine pt ?_ GE214.out|refine pt ?_ GE221.out)|exact HB.out)) hb)
          clear HO_32
          clear BK213
          clear BK214
          clear BK221
          clear HB
          have HO_32:=n0_
          have BK213:=n1_
          have BK214:=n2_
          have BK221:=n3_
          have HB:=n4_
          clear n0_ n1_ n2_ n3_ n4_
          (try clear hb)
          (try clear hb2)
          (try clear hk)
          (try clear hi)
          refine hK.out _ _ ⟨(blk_cell BK221.out 0).trans rfl,(blk_cell BK221.out 1).trans rfl,((HB.out.cell (World.block_lt_of_cell? w _ hw230_0)).trans hw230_0),((HB.out.cell (World.block_lt_of_cell? w _ hw230_1)).trans hw230_1)⟩ (fun hHeld=>?_)
          clear hK K
          refine rN (a':=?_) ?_ ?_
          rotate_left
          ·show Act.put _ (some 63) _=_
           simp only [Act.put,q1,q2,q3,i64_w,i32_w]
           rfl
          refine rR ?_
          refine rL (N:=none) HT_ rfl rfl d5 d12 (fun K hK=>?_)
          have hs58:w57.cell? ⟨gb221,1,none⟩=some (.string x222001_2):=(blk_cell BK221.out 1).trans rfl
          have hfs58:=blk_frozen BK221.out 1
          have hns58_0:=NB213_221.out
          have hns58_1:=NB214_221.out
          have hms58_0:=NB221_213.out
          have hms58_1:=NB221_214.out
          refine skip_ (w1:=?_) d28 rfl ?_ ?_
          rotate_left
          ·go_simp
           rfl
          refine hK.out _ _ ?_
          clear hK K
          refine rD HT_ d5 ?_
          try go_wp2
          go_roundg k2
          case measure=>have:=HJ4.out;have:=HK2.out;omega
          case rel=>exact ⟨(wrap64 (x34_2+1)),(x215000_2),(x215001_2),(t231),d4,H',⟨by have:=HJ4.out;have:=HK2.out;omega⟩,⟨by (with_reducible repeat (first|apply Kd.R_alloc|apply Kd.R_drewN|apply Kd.R_drew));exact Kd.R_mono (Kd.R_far (p:=⟨gb221,1,none⟩) (Kd.R_types HO_32.out BK221.out d12) (fun _ hk=>hk.2) (.string t231)) (fun _ hk=>trivial)⟩,⟨by (with_reducible repeat (first|refine qn ?_ _|refine qd ?_|refine qa ?_ _));refine blk_far ?_ NB213_221.out _;(with_reducible repeat (first|refine qn ?_ _|refine qd ?_|refine qa ?_ _));exact BK213.out⟩,⟨by (with_reducible repeat (first|refine qn ?_ _|refine qd ?_|refine qa ?_ _));refine blk_far ?_ NB214_221.out _;(with_reducible repeat (first|refine qn ?_ _|refine qd ?_|refine qa ?_ _));exact BK214.out⟩,⟨by (with_reducible repeat (first|refine qn ?_ _|refine qd ?_|refine qa ?_ _));refine blk_put (cs:=#[.int .i64 a2, .string x222001_2]) ?_ 1 _ rfl;(with_reducible repeat (first|refine qn ?_ _|refine qd ?_|refine qa ?_ _));exact BK221.out⟩,⟨by repeat (first|(with_reducible first|exact HB.out|apply pa|apply pb|apply pd|refine pt ?_ GE213.out|refine pt ?_ GE214.out|refine pt ?_ GE221.out)|exact HB.out)⟩⟩
         rw [if_neg c53] at H
         exact absurd H d24
        rw [if_neg c52] at H
        exact absurd H d24
       rw [if_neg c28] at H
       exact absurd H d24
      rw [if_neg c27] at H
      exact absurd H d24
     rw [if_neg c26] at H
     have c26b0:decide (x34_2 < (t215.length:Int))=false:=decide_eq_false c26
     clear c26
     simp only [Option.some.injEq,Prod.mk.injEq] at H
     obtain ⟨rfl,rfl,rfl⟩:=H
     have hnb59:=NB221_213.out
     have hnc59:=NB213_221.out
     have hnb60:=NB221_214.out
     have hnc60:=NB214_221.out
     have hcz61_0:wr.cell? ⟨gb221,0,none⟩=some (.int .i64 a2):=(blk_cell BK221.out 0).trans rfl
     have hcz61_1:wr.cell? ⟨gb221,1,none⟩=some (.string x222001_2):=(blk_cell BK221.out 1).trans rfl
     have hfz61_0:=blk_frozen BK221.out 0
     have hfz61_1:=blk_frozen BK221.out 1
     have hnb62:=NB214_213.out
     have hnc62:=NB213_214.out
     have hcz63_0:wr.cell? ⟨gb214,0,none⟩=some (.int .i64 x215000_2):=(blk_cell BK214.out 0).trans rfl
     have hcz63_1:wr.cell? ⟨gb214,1,none⟩=some (.string x215001_2):=(blk_cell BK214.out 1).trans rfl
     have hfz63_0:=blk_frozen BK214.out 0
     have hfz63_1:=blk_frozen BK214.out 1
     go_wp2
     refine bodyPost_ret (results_ct rfl _ _ gb214 48 #[.int .i64 a2, .string x222001_2] (0,0) _ rfl (by (with_reducible repeat (first|refine qn ?_ _|refine qd ?_|refine qa ?_ _));refine blk_put (cs:=#[.int .i64 a2, .string x215001_2]) ?_ 1 _ rfl;(with_reducible repeat (first|refine qn ?_ _|refine qd ?_|refine qa ?_ _));refine blk_put (cs:=#[.int .i64 x215000_2, .string x215001_2]) ?_ 0 _ rfl;(with_reducible repeat (first|refine qn ?_ _|refine qd ?_|refine qa ?_ _));exact BK214.out) Try.underlying48 rfl d5) rfl ?_
     exact ⟨d2,by repeat (first|(with_reducible first|exact HB.out|apply pa|apply pb|apply pd|refine pt ?_ GE213.out|refine pt ?_ GE214.out|refine pt ?_ GE221.out)|exact HB.out)⟩
end

def laws_eqShard.f (a0_0:Int) (a0_1:ByteArray) (a1_0:Int) (a1_1:ByteArray):Option (Bool):=if a0_0=a1_0 then (if a0_1.toList=a1_1.toList then (some true) else (some false)) else (some false)
theorem laws_eqShard.calls (a0_0:Int) (a0_1:ByteArray) (a1_0:Int) (a1_1:ByteArray) (r:Bool) (w:World) (h:laws_eqShard.f a0_0 a0_1 a1_0 a1_1=some r) :
  Calls Try.prog 28 #[.agg #[.int .i64 a0_0, .string a0_1], .agg #[.int .i64 a1_0, .string a1_1]] w fun e w'=>e = .returned (.bool r)∧Below w.heap.size w w':=by
 have hu48:=Try.underlying48
 have HB:=am (Below.refl w.heap.size w)
 have H:(if a0_0=a1_0 then (if a0_1.toList=a1_1.toList then (some true) else (some false)) else (some false))=some r:=h
 clear h
 by_cases c3:a0_0=a1_0
 ·rw [if_pos c3] at H
  have c3b0:(a0_0 == a1_0)=true:=beq_iff_eq.mpr c3
  have c3b1:(a0_0 != a1_0)=false:=bne_eq_false_iff_eq.mpr c3
  clear c3
  by_cases c4:a0_1.toList=a1_1.toList
  ·rw [if_pos c4] at H
   have c4b0:(a0_1.toList == a1_1.toList)=true:=beq_iff_eq.mpr c4
   have c4b1:(a0_1.toList != a1_1.toList)=false:=bne_eq_false_iff_eq.mpr c4
   clear c4
   obtain rfl:=Option.some.inj H
   go_enter Try.func28,Try.ntmps28
   go_wp2_with (first|((with_reducible refine gate_dst (N:=2) rfl ?_);refine box_event ?hg (N:=2) ?hd (cs:=#[.int .i64 a0_0, .string a0_1]) (t:=48) ?hr ?_;(case hd=>rfl);(case hg=>rfl);(case hr=>first|(go_simp;done)|(go_simp;rfl));intro gb200 hg w5 hbox hb;have n0_:=am (pu d0 hb);have n1_:=am (hbox);have n2_:=am ((by rw [hg];exact (pz d0):w.heap.size≤gb200));have n3_:=n2_;clear HB;have HB:=n0_;have BK200:=n1_;have GW200:=n2_;have GE200:=n3_;clear n0_ n1_ n2_ n3_;clear hb hbox hg)|((with_reducible refine gate_dst (N:=3) rfl ?_);refine box_event ?hg (N:=3) ?hd (cs:=#[.int .i64 a1_0, .string a1_1]) (t:=48) ?hr ?_;(case hd=>rfl);(case hg=>rfl);(case hr=>first|(go_simp;done)|(go_simp;rfl));intro gb201 hg w6 hbox hb;have n0_:=am (qb (g:=gb200) (o:=.cells #[.int .i64 a0_0, .string a0_1] 48 (0,0)) (by (with_reducible repeat (first|refine qn ?_ _|refine qd ?_|refine qa ?_ _));exact BK200.out) hb);have n1_:=am (pu (by repeat (first|(with_reducible first|exact HB.out|apply pa|apply pb|apply pd|refine pt ?_ GE200.out)|exact HB.out)) hb);have n2_:=am (hbox);have n3_:=am ((by rw [hg];exact (pz (by repeat (first|(with_reducible first|exact HB.out|apply pa|apply pb|apply pd|refine pt ?_ GE200.out)|exact HB.out))):w.heap.size≤gb201));have n4_:=n3_;have n5_:=am ((by rw [hg];exact Nat.ne_of_lt (blk_lt (g:=gb200) (o:=.cells #[.int .i64 a0_0, .string a0_1] 48 (0,0)) (by (with_reducible repeat (first|refine qn ?_ _|refine qd ?_|refine qa ?_ _));exact BK200.out)):gb200 ≠ gb201));have n6_:=am ((by rw [hg];exact Nat.ne_of_gt (blk_lt (g:=gb200) (o:=.cells #[.int .i64 a0_0, .string a0_1] 48 (0,0)) (by (with_reducible repeat (first|refine qn ?_ _|refine qd ?_|refine qa ?_ _));exact BK200.out)):gb201 ≠ gb200));clear BK200;clear HB;have BK200:=n0_;have HB:=n1_;have BK201:=n2_;have GW201:=n3_;have GE201:=n4_;have NB200_201:=n5_;have NB201_200:=n6_;clear n0_ n1_ n2_ n3_ n4_ n5_ n6_;clear hb hbox hg;have hnb7:=NB200_201.out;have hnc7:=NB201_200.out;have hcz8_0:w6.cell? ⟨gb200,0,none⟩=some (.int .i64 a0_0):=(blk_cell BK200.out 0).trans rfl;have hcz8_1:w6.cell? ⟨gb200,1,none⟩=some (.string a0_1):=(blk_cell BK200.out 1).trans rfl;have hfz8_0:=blk_frozen BK200.out 0;have hfz8_1:=blk_frozen BK200.out 1;have hcz9_0:w6.cell? ⟨gb201,0,none⟩=some (.int .i64 a1_0):=(blk_cell BK201.out 0).trans rfl;have hcz9_1:w6.cell? ⟨gb201,1,none⟩=some (.string a1_1):=(blk_cell BK201.out 1).trans rfl;have hfz9_0:=blk_frozen BK201.out 0;have hfz9_1:=blk_frozen BK201.out 1))
   go_ret
   exact ⟨d2,by repeat (first|(with_reducible first|exact HB.out|apply pa|apply pb|apply pd|refine pt ?_ GE200.out|refine pt ?_ GE201.out)|exact HB.out)⟩
  rw [if_neg c4] at H
  have c4b0:(a0_1.toList == a1_1.toList)=false:=beq_eq_false_iff_ne.mpr c4
  have c4b1:(a0_1.toList != a1_1.toList)=true:=bne_iff_ne.mpr c4
  obtain rfl:=Option.some.inj H
  go_enter Try.func28,Try.ntmps28
  go_wp2_with (first|((with_reducible refine gate_dst (N:=2) rfl ?_);refine box_event ?hg (N:=2) ?hd (cs:=#[.int .i64 a0_0, .string a0_1]) (t:=48) ?hr ?_;(case hd=>rfl);(case hg=>rfl);(case hr=>first|(go_simp;done)|(go_simp;rfl));intro gb200 hg w10 hbox hb;have n0_:=am (pu d0 hb);have n1_:=am (hbox);have n2_:=am ((by rw [hg];exact (pz d0):w.heap.size≤gb200));have n3_:=n2_;clear HB;have HB:=n0_;have BK200:=n1_;have GW200:=n2_;have GE200:=n3_;clear n0_ n1_ n2_ n3_;clear hb hbox hg)|((with_reducible refine gate_dst (N:=3) rfl ?_);refine box_event ?hg (N:=3) ?hd (cs:=#[.int .i64 a1_0, .string a1_1]) (t:=48) ?hr ?_;(case hd=>rfl);(case hg=>rfl);(case hr=>first|(go_simp;done)|(go_simp;rfl));intro gb201 hg w11 hbox hb;have n0_:=am (qb (g:=gb200) (o:=.cells #[.int .i64 a0_0, .string a0_1] 48 (0,0)) (by (with_reducible repeat (first|refine qn ?_ _|refine qd ?_|refine qa ?_ _));exact BK200.out) hb);have n1_:=am (pu (by repeat (first|(with_reducible first|exact HB.out|apply pa|apply pb|apply pd|refine pt ?_ GE200.out)|exact HB.out)) hb);have n2_:=am (hbox);have n3_:=am ((by rw [hg];exact (pz (by repeat (first|(with_reducible first|exact HB.out|apply pa|apply pb|apply pd|refine pt ?_ GE200.out)|exact HB.out))):w.heap.size≤gb201));have n4_:=n3_;have n5_:=am ((by rw [hg];exact Nat.ne_of_lt (blk_lt (g:=gb200) (o:=.cells #[.int .i64 a0_0, .string a0_1] 48 (0,0)) (by (with_reducible repeat (first|refine qn ?_ _|refine qd ?_|refine qa ?_ _));exact BK200.out)):gb200 ≠ gb201));have n6_:=am ((by rw [hg];exact Nat.ne_of_gt (blk_lt (g:=gb200) (o:=.cells #[.int .i64 a0_0, .string a0_1] 48 (0,0)) (by (with_reducible repeat (first|refine qn ?_ _|refine qd ?_|refine qa ?_ _));exact BK200.out)):gb201 ≠ gb200));clear BK200;clear HB;have BK200:=n0_;have HB:=n1_;have BK201:=n2_;have GW201:=n3_;have GE201:=n4_;have NB200_201:=n5_;have NB201_200:=n6_;clear n0_ n1_ n2_ n3_ n4_ n5_ n6_;clear hb hbox hg;have hnb12:=NB200_201.out;have hnc12:=NB201_200.out;have hcz13_0:w11.cell? ⟨gb200,0,none⟩=some (.int .i64 a0_0):=(blk_cell BK200.out 0).trans rfl;have hcz13_1:w11.cell? ⟨gb200,1,none⟩=some (.string a0_1):=(blk_cell BK200.out 1).trans rfl;have hfz13_0:=blk_frozen BK200.out 0;have hfz13_1:=blk_frozen BK200.out 1;have hcz14_0:w11.cell? ⟨gb201,0,none⟩=some (.int .i64 a1_0):=(blk_cell BK201.out 0).trans rfl;have hcz14_1:w11.cell? ⟨gb201,1,none⟩=some (.string a1_1):=(blk_cell BK201.out 1).trans rfl;have hfz14_0:=blk_frozen BK201.out 0;have hfz14_1:=blk_frozen BK201.out 1))
  go_ret
  exact ⟨d2,by repeat (first|(with_reducible first|exact HB.out|apply pa|apply pb|apply pd|refine pt ?_ GE200.out|refine pt ?_ GE201.out)|exact HB.out)⟩
 rw [if_neg c3] at H
 have c3b0:(a0_0 == a1_0)=false:=beq_eq_false_iff_ne.mpr c3
 have c3b1:(a0_0 != a1_0)=true:=bne_iff_ne.mpr c3
 obtain rfl:=Option.some.inj H
 go_enter Try.func28,Try.ntmps28
 go_wp2_with (first|((with_reducible refine gate_dst (N:=2) rfl ?_);refine box_event ?hg (N:=2) ?hd (cs:=#[.int .i64 a0_0, .string a0_1]) (t:=48) ?hr ?_;(case hd=>rfl);(case hg=>rfl);(case hr=>first|(go_simp;done)|(go_simp;rfl));intro gb200 hg w15 hbox hb;have n0_:=am (pu d0 hb);have n1_:=am (hbox);have n2_:=am ((by rw [hg];exact (pz d0):w.heap.size≤gb200));have n3_:=n2_;clear HB;have HB:=n0_;have BK200:=n1_;have GW200:=n2_;have GE200:=n3_;clear n0_ n1_ n2_ n3_;clear hb hbox hg)|((with_reducible refine gate_dst (N:=3) rfl ?_);refine box_event ?hg (N:=3) ?hd (cs:=#[.int .i64 a1_0, .string a1_1]) (t:=48) ?hr ?_;(case hd=>rfl);(case hg=>rfl);(case hr=>first|(go_simp;done)|(go_simp;rfl));intro gb201 hg w16 hbox hb;have n0_:=am (qb (g:=gb200) (o:=.cells #[.int .i64 a0_0, .string a0_1] 48 (0,0)) (by (with_reducible repeat (first|refine qn ?_ _|refine qd ?_|refine qa ?_ _));exact BK200.out) hb);have n1_:=am (pu (by repeat (first|(with_reducible first|exact HB.out|apply pa|apply pb|apply pd|refine pt ?_ GE200.out)|exact HB.out)) hb);have n2_:=am (hbox);have n3_:=am ((by rw [hg];exact (pz (by repeat (first|(with_reducible first|exact HB.out|apply pa|apply pb|apply pd|refine pt ?_ GE200.out)|exact HB.out))):w.heap.size≤gb201));have n4_:=n3_;have n5_:=am ((by rw [hg];exact Nat.ne_of_lt (blk_lt (g:=gb200) (o:=.cells #[.int .i64 a0_0, .string a0_1] 48 (0,0)) (by (with_reducible repeat (first|refine qn ?_ _|refine qd ?_|refine qa ?_ _));exact BK200.out)):gb200 ≠ gb201));have n6_:=am ((by rw [hg];exact Nat.ne_of_gt (blk_lt (g:=gb200) (o:=.cells #[.int .i64 a0_0, .string a0_1] 48 (0,0)) (by (with_reducible repeat (first|refine qn ?_ _|refine qd ?_|refine qa ?_ _));exact BK200.out)):gb201 ≠ gb200));clear BK200;clear HB;have BK200:=n0_;have HB:=n1_;have BK201:=n2_;have GW201:=n3_;have GE201:=n4_;have NB200_201:=n5_;have NB201_200:=n6_;clear n0_ n1_ n2_ n3_ n4_ n5_ n6_;clear hb hbox hg;have hnb17:=NB200_201.out;have hnc17:=NB201_200.out;have hcz18_0:w16.cell? ⟨gb200,0,none⟩=some (.int .i64 a0_0):=(blk_cell BK200.out 0).trans rfl;have hcz18_1:w16.cell? ⟨gb200,1,none⟩=some (.string a0_1):=(blk_cell BK200.out 1).trans rfl;have hfz18_0:=blk_frozen BK200.out 0;have hfz18_1:=blk_frozen BK200.out 1;have hcz19_0:w16.cell? ⟨gb201,0,none⟩=some (.int .i64 a1_0):=(blk_cell BK201.out 0).trans rfl;have hcz19_1:w16.cell? ⟨gb201,1,none⟩=some (.string a1_1):=(blk_cell BK201.out 1).trans rfl;have hfz19_0:=blk_frozen BK201.out 0;have hfz19_1:=blk_frozen BK201.out 1))
 go_ret
 exact ⟨d2,by repeat (first|(with_reducible first|exact HB.out|apply pa|apply pb|apply pd|refine pt ?_ GE200.out|refine pt ?_ GE201.out)|exact HB.out)⟩

end Go.Proofs.Yteflgifmdojahaa.PFnExactMendLocal
-- HALVED
-- SQUEEZED
-- SQUEEZED2
-- SQUEEZED3
-- SQUEEZED4
-- SQUEEZED5
-- SQUEEZED6
