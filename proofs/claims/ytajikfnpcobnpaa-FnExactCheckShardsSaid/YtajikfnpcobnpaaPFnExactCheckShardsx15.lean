-- Laid by a program of this session.
import Derived.Test.YtajikfnpcobnpaaPFnExactCheckShardsx0
import Derived.Test.YtajikfnpcobnpaaPFnExactCheckShardsx1
import Derived.Test.YtajikfnpcobnpaaPFnExactCheckShardsx2
import Derived.Test.YtajikfnpcobnpaaPFnExactCheckShardsx10
import Derived.Test.YtajikfnpcobnpaaPFnExactCheckShardsx11
import Derived.Test.YtajikfnpcobnpaaPFnExactCheckShardsx12
import Derived.Test.YtajikfnpcobnpaaPFnExactCheckShardsx14
namespace Go.Proofs.Ytajikfnpcobnpaa.PFnExactCheckShards
open Go.RowKit Go.Proofs.YtajikfnpcobnpaaW.PrintWords Go.Proofs.YtajikfnpcobnpaaW.PrintLast Go.Proofs.YtajikfnpcobnpaaW.PrintMore
attribute [local go_sem] max2_int min2_int max_two min_two max_three min_three max_four min_four   -- for this text's walks alone
set_option linter.unusedVariables false
set_option maxHeartbeats 8000000
set_option maxRecDepth 100000
set_option linter.unusedSimpArgs false

section
open Go.Proofs.Ytajikfnpcobnpaa.KitW Go.Proofs.Ytajikfnpcobnpaa.KitR
set_option maxHeartbeats 4000000 in
theorem shards_IndexFunc (g:Nat) (eg:∀ args w,(callFunc g args).run Try.prog w = .ok (.enter g args) w) (fv:Value) (p:Nat→Bool) (ad:Addr) (n c:Nat) (no:Nat→Int) (s:Nat→ByteArray) (w:World) (hbig:n≤4611686018427387903)
  (hc:∀ i,i < n→w.cell? (ad.add (i*2))=some (.int .i64 (no i))∧w.cell? ⟨(ad.add (i*2)).block,(ad.add (i*2)).off+1,none⟩=some (.string (s i)))
  (hp:∀ i,i < n→∀ W,Below w.heap.size w W→Calls Try.prog g #[.agg #[.int .i64 (no i), .string (s i)],fv] W fun e w'=>e = .returned (.bool (p i))∧Below W.heap.size W w') :
  Calls Try.prog 193 #[.slice (some ad) n c, .func (.func g) #[] #[fv]] w fun e w'=>(∃ r,e = .returned (.int .i64 r)∧IdxOf p n r)∧Below w.heap.size w w':=by
 have HP:=am hp
 have HC:=am hc
 clear hp hc
 go_enter Try.func193,Try.ntmps193
 go_wp2
 go_loopg [5,8] n (fun gg _ s8 wr=>∃ kk:Nat,kk≤n∧n - kk≤gg∧s8 = .int .i64 kk∧Aside0 (Below w.heap.size w wr)∧Aside0 (∀ j,j < kk→p j=false))
 case atStart=>exact ⟨0,Nat.zero_le _,d6,rfl,⟨Below.refl _ _⟩,⟨fun j hj=>absurd hj (Nat.not_lt_zero _)⟩⟩
 case round =>
  obtain ⟨kk,hkk,hg,rfl,HD,HA⟩:=hrel
  by_cases hlt:kk < n
  ·have hltz:(kk:Int) < (n:Int):=by omega
   have hc0:=(HC.out kk hlt).1
   have hc1:=(HC.out kk hlt).2
   replace hc0:=(HD.out.cell (World.block_lt_of_cell? w _ hc0)).trans hc0
   replace hc1:=(HD.out.cell (World.block_lt_of_cell? w _ hc1)).trans hc1
   have hcall:=HP.out kk hlt
   cases hq:p kk with
   | true =>
    rw [hq] at hcall
    have HQ:=am hq
    clear hq
    have HX:=am hcall
    clear hcall
    go_wp2_with (go_at_fn g;refine (HX.out _ ?dr).mono ?_;(case dr=>exact HD.out);rintro e w' ⟨rfl,hd⟩)
    go_ret
    exact ⟨⟨_,rfl, .inr ⟨kk,hlt,rfl,HQ.out,HA.out⟩⟩,pu HD.out hd⟩
   | false =>
    rw [hq] at hcall
    have HQ:=am hq
    clear hq
    have HX:=am hcall
    clear hcall
    go_wp2_with (go_at_fn g;refine (HX.out _ ?dr).mono ?_;(case dr=>exact HD.out);rintro e w' ⟨rfl,hd⟩)
    go_roundg (n - (kk+1))
    case measure=>omega
    case rel=>exact ⟨kk+1,d6,d6,by go_num,⟨pu HD.out hd⟩,⟨fun j hj=>by by_cases e:j=kk;exact e ▸ HQ.out;exact HA.out j d6⟩⟩
  have hltz:¬ (kk:Int) < (n:Int):=by omega
  have:kk=n:=by omega
  subst this
  go_wp2
  go_ret
  exact ⟨⟨_,rfl, .inl ⟨rfl,HA.out⟩⟩,HD.out⟩
set_option maxHeartbeats 4000000 in
theorem shards_ContainsFunc (g:Nat) (eg:∀ args w,(callFunc g args).run Try.prog w = .ok (.enter g args) w) (fv:Value) (p:Nat→Bool) (ad:Addr) (n c:Nat) (no:Nat→Int) (s:Nat→ByteArray) (w:World) (hbig:n≤4611686018427387903)
  (hc:∀ i,i < n→w.cell? (ad.add (i*2))=some (.int .i64 (no i))∧w.cell? ⟨(ad.add (i*2)).block,(ad.add (i*2)).off+1,none⟩=some (.string (s i)))
  (hp:∀ i,i < n→∀ W,Below w.heap.size w W→Calls Try.prog g #[.agg #[.int .i64 (no i), .string (s i)],fv] W fun e w'=>e = .returned (.bool (p i))∧Below W.heap.size W w') :
  Calls Try.prog 139 #[.slice (some ad) n c, .func (.func g) #[] #[fv]] w fun e w'=>e = .returned (.bool ((List.range n).any p))∧Below w.heap.size w w':=by
 have HX:=am (shards_IndexFunc g eg fv p ad n c no s w hbig hc hp)
 clear hp hc
 go_enter Try.func139,Try.ntmps139
 go_wp2_with (go_at_call 193;refine HX.out.mono ?_;rintro e w' ⟨⟨r,rfl,hr⟩,hd⟩)
 go_ret
 refine ⟨?_,hd⟩
 rw [← idxOf_nonneg hr]
 first|rfl|(simp;done)
/-- The test of one shard. -/
theorem shards_test (gb:Nat) (ad:Addr) (n c:Nat) (no:Int) (s q:ByteArray) (h0:0≤no) (h1:no < (n:Int)) (W:World)
  (hbox:W.cell? ⟨gb,0,none⟩=some (.slice (some ad) n c)) (hq:W.cell? (ad.add no.toNat)=some (.string q)) :
  Calls Try.prog 140 #[.agg #[.int .i64 no, .string s], .pointer (some ⟨gb,0,none⟩)] W fun e w'=>e = .returned (.bool (s.toList != q.toList))∧Below W.heap.size W w':=by
 have h0b:decide (0≤no)=true:=decide_eq_true h0
 have h1b:decide (no < (n:Int))=true:=decide_eq_true h1
 go_enter Try.func140,Try.ntmps140
 go_wp2
 have hB:=pa (Below.refl W.heap.size W) (Obj.cells #[.int .i64 no, .string s] 84 (0,0))
 have k0:(W.alloc (Obj.cells #[.int .i64 no, .string s] 84 (0,0))).cell? ⟨W.heap.size,0,none⟩=some (.int .i64 no):=(blk_cell (heap_alloc_new W _) 0).trans rfl
 have k1:(W.alloc (Obj.cells #[.int .i64 no, .string s] 84 (0,0))).cell? ⟨W.heap.size,1,none⟩=some (.string s):=(blk_cell (heap_alloc_new W _) 1).trans rfl
 have k2:=(hB.cell (World.block_lt_of_cell? W _ hbox)).trans hbox
 have k3:=(hB.cell (World.block_lt_of_cell? W _ hq)).trans hq
 clear hbox hq
 refine KitR.rS0 (n:=9) (S:=fun w'=>w'.cell? ⟨W.heap.size,0,none⟩=some (.int .i64 no)∧w'.cell? ⟨W.heap.size,1,none⟩=some (.string s)∧w'.cell? ⟨gb,0,none⟩=some (.slice (some ad) n c)∧w'.cell? (ad.add no.toNat)=some (.string q)) (ds:=[]) [(0,4),(3,7),(1,5),(2,6),(4,8),(5,9),(6,10),(7,11),(8,3)] d3 rfl ⟨k0,k1,k2,k3⟩ (fun hHeld HT_ HW_=>?_)
 refine KitR.rR ?_
 refine KitR.rD HT_ d3 ?_
 try go_wp2
 go_ret
 exact ⟨rfl,pd hB⟩
/-- No shard at all: nothing is looked at. -/
theorem shards_none (A:Option Addr) (c:Nat) (fv:Value) (w:World) :
  Calls Try.prog 139 #[.slice A 0 c,fv] w fun e w'=>e = .returned (.bool false)∧w=w':=by
 have HX:∀ w:World,Calls Try.prog 193 #[.slice A 0 c,fv] w fun e w'=>e = .returned (.int .i64 (-1))∧w=w':=by
  intro w
  go_enter Try.func193,Try.ntmps193
  go_wp2
  go_loopg [5,8] 0 (fun gg _ s8 wr=>s8 = .int .i64 0∧w=wr)
  case atStart=>exact ⟨rfl,rfl⟩
  case round =>
   obtain ⟨rfl,rfl⟩:=hrel
   go_wp2
   go_ret
   exact ⟨rfl,rfl⟩
 go_enter Try.func139,Try.ntmps139
 go_wp2_with (go_at_call 193;refine (HX _).mono ?_;rintro e w' ⟨rfl,rfl⟩)
 go_ret
 exact ⟨rfl,rfl⟩
def impl_CheckShards.g (l0:List (S84)) (all:List ByteArray):Option (Bool × Bool):=if l0.length≤1048576∧∀ x ∈ l0,0≤x.f0∧x.f0 < (all.length:Int) then some (!((List.range l0.length).any fun i=>(l0.getD i z84).f1.toList != (all.getD (l0.getD i z84).f0.toNat ByteArray.empty).toList),true) else none
def impl_CheckShards.f (k:Nat) (l0:List (S84)) (a1:Int) (a2:Int):Option (Bool × Bool):=(impl_DecodeShards.f k l0 a1 a2).bind fun t=>(if t.2=true then ((impl_codeRows.f k a1 a2).bind fun rows=>((impl_combined.f k rows t.1).bind fun all=>(impl_CheckShards.g l0 all))) else (some (false,false)))
theorem impl_CheckShards.mono:∀ a0 a1 a2 k,LeO (impl_CheckShards.f k a0 a1 a2) (impl_CheckShards.f (k+1) a0 a1 a2):=fun a0 a1 a2 k=>by
 unfold impl_CheckShards.f
 refine LeO.bind (impl_DecodeShards.mono _ _ _ _) (fun t=>LeO.ite (LeO.bind (impl_codeRows.mono _ _ _) (fun rows=>LeO.bind (impl_combined.mono _ _ _) (fun all=>LeO.refl _))) (LeO.refl _))
theorem impl_CheckShards.calls (k:Nat) (A0:Option Addr) (c0:Nat) (l0:List (S84)) (a1:Int) (a2:Int) (r1:Bool) (r2:Bool) (w:World) (hr0:Kd.C k84 w A0 l0.length l0) (hc0:l0.length≤c0) (h:impl_CheckShards.f k l0 a1 a2=some (r1,r2)) :
  Calls Try.prog 60 #[.slice A0 l0.length c0, .int .i64 a1, .int .i64 a2] w fun e w'=>e = .returned (.tuple #[.bool r1, .bool r2])∧Below w.heap.size w w':=by
 have HR0:=am hr0
 have HC0:=am hc0
 clear hr0 hc0
 unfold impl_CheckShards.f at h
 obtain ⟨⟨t,ok⟩,hD,h⟩:=Option.bind_eq_some_iff.mp h
 have HD:=am hD
 clear hD
 cases ok with
 | false =>
  replace h:some (false,false)=some (r1,r2):=h
  injection h with h
  obtain ⟨rfl,rfl⟩:=Prod.mk.inj h
  clear h
  go_enter Try.func60,Try.ntmps60
  go_wp2_with (go_at_call 62;refine (impl_DecodeShards.calls k _ _ l0 a1 a2 t false _ HR0.out HC0.out HD.out).mono ?_;rintro e w1 ⟨v1,rfl,ho1,hb1⟩;obtain ⟨A1,c1,rfl⟩:=Kd.R_slice ho1;have HB1:=am hb1;clear ho1 hb1)
  go_ret2
  exact ⟨rfl,HB1.out⟩
 | true =>
  replace h:((impl_codeRows.f k a1 a2).bind fun rows=>((impl_combined.f k rows t).bind fun all=>(impl_CheckShards.g l0 all)))=some (r1,r2):=h
  obtain ⟨rows,hRW,h⟩:=Option.bind_eq_some_iff.mp h
  obtain ⟨all,hAL,h⟩:=Option.bind_eq_some_iff.mp h
  unfold impl_CheckShards.g at h
  by_cases hg:l0.length≤1048576∧∀ x ∈ l0,0≤x.f0∧x.f0 < (all.length:Int)
  case neg=>rw [if_neg hg] at h;cases h
  rw [if_pos hg] at h
  injection h with h
  obtain ⟨h1,rfl⟩:=Prod.mk.inj h
  have HX:=am h1
  have HG:=am hg
  have HRW:=am hRW
  have HAL:=am hAL
  clear h h1 hg hRW hAL
  go_enter Try.func60,Try.ntmps60
  go_wp2_with (first|(go_at_call 62;refine (impl_DecodeShards.calls k _ _ l0 a1 a2 t true _ HR0.out HC0.out HD.out).mono ?_;rintro e w1 ⟨v1,rfl,ho1,hb1⟩;obtain ⟨A1,c1,rfl⟩:=Kd.R_slice ho1;have HO1:=am ho1;have HB1:=am hb1;clear ho1 hb1)|(go_at_call 138;refine (impl_codeRows.calls k a1 a2 rows _ HRW.out).mono ?_;rintro e w2 ⟨v2,rfl,ho2,hb2⟩;obtain ⟨A2,c2,rfl⟩:=Kd.S_slice ho2;have HO2:=am ho2;have HB2:=am hb2;clear ho2 hb2)|(go_at_call 100;refine (impl_combined.calls k _ _ rows _ _ t all _ (Kd.S_reads' HO2.out).2.2 (Kd.S_reads' HO2.out).2.1 (Kd.C_below (Kd.R_reads' HO1.out).2.2 HB2.out) (Kd.R_reads' HO1.out).2.1 HAL.out).mono ?_;rintro e w3 ⟨v3,rfl,ho3,hb3⟩;obtain ⟨A3,c3,rfl⟩:=Kd.R_slice ho3;have HO3:=am ho3;have HB3:=am hb3;clear ho3 hb3))
  obtain ⟨W,hW⟩:∃ W:World,W=w3.alloc (.cells #[.slice A3 all.length c3] 22 (0,0)):=⟨_,rfl⟩
  have b4:Below w3.heap.size w3 W:=by rw [hW];exact pa (Below.refl _ _) _
  have hbox:W.cell? ⟨w3.heap.size,0,none⟩=some (.slice A3 all.length c3):=by rw [hW];exact (blk_cell (heap_alloc_new w3 _) 0).trans rfl
  rw [← hW]
  clear hW
  have bw:Below w.heap.size w W:=pu (pu (pu HB1.out HB2.out) HB3.out) b4
  have hCA:Kd.C Kd.string W A3 all.length all:=Kd.C_below (Kd.R_reads' HO3.out).2.2 b4
  have hC0:Kd.C k84 W A0 l0.length l0:=Kd.C_below HR0.out bw
  clear HO1 HB1 HO2 HB2 HO3 HB3 HAL HRW HD b4
  by_cases hp:0 < l0.length
  ·obtain ⟨ad,rfl,_⟩:=at_T84 hC0 0 d6 d6
   have hno:∀ i,i < l0.length→0≤(l0.getD i z84).f0∧(l0.getD i z84).f0 < (all.length:Int):=fun i hi=>HG.out.2 _ (by rw [List.getD_eq_getElem?_getD,List.getElem?_eq_getElem hi];exact List.getElem_mem hi)
   obtain ⟨ad3,rfl,_⟩:=Kd.at_string hCA 0 d6 (by have:=hno 0 hp;omega)
   have hcf:=shards_ContainsFunc 140 (enters_of Try.func140 rfl rfl) (.pointer (some ⟨w3.heap.size,0,none⟩)) (fun i=>(l0.getD i z84).f1.toList != (all.getD (l0.getD i z84).f0.toNat ByteArray.empty).toList) ad l0.length c0 (fun i=>(l0.getD i z84).f0) (fun i=>(l0.getD i z84).f1) W (by have:=HG.out.1;omega)
    (fun i hi=>by
     obtain ⟨ad',e,h1,h2⟩:=at_T84 hC0 (i:Int) d6 d6
     injection e with e
     subst e
     rw [Int.toNat_natCast] at h1 h2
     exact ⟨h1,h2⟩)
    (fun i hi W1 hb1=>by
     obtain ⟨ad',e,h1⟩:=Kd.at_string hCA (l0.getD i z84).f0 (hno i hi).1 (hno i hi).2
     injection e with e
     subst e
     exact shards_test w3.heap.size ad3 all.length c3 _ _ _ (hno i hi).1 (hno i hi).2 W1 ((hb1.cell (World.block_lt_of_cell? W _ hbox)).trans hbox) ((hb1.cell (World.block_lt_of_cell? W _ h1)).trans h1))
   have HBW:=am bw
   clear bw hno hCA hC0 hbox
   refine hcf.mono ?_
   clear hcf
   rintro e w' ⟨rfl,hb⟩
   have HBX:=am (pu HBW.out hb)
   clear hb HBW
   generalize ((List.range l0.length).any fun i=>(l0.getD i z84).f1.toList != (all.getD (l0.getD i z84).f0.toNat ByteArray.empty).toList)=b at HX ⊢
   go_wp2
   go_ret2
   exact ⟨by rw [← HX.out];first|rfl|(trace_state;simp),HBX.out⟩
  have e0:l0=[]:=List.eq_nil_of_length_eq_zero d6
  subst e0
  have HBW:=am bw
  clear bw hCA hC0 hbox hp
  refine (shards_none _ _ _ _).mono ?_
  rintro e w' ⟨rfl,rfl⟩
  go_wp2
  go_ret2
  exact ⟨by rw [← HX.out];rfl,HBW.out⟩
end

def laws_FnExactCheckShards.j0:Nat→List (S160)→List (S84)→Bool→Option (Bool)
 | 0,_,_,_=>none
 | k+1,x0,x10,x42=>if x42=true then (some false) else ((laws_toShardS.f k x0).bind fun t382=>((laws_eqShardS.f k x10 t382).bind fun t385=>(if t385=true then (some true) else (some false))))
def laws_FnExactCheckShards.f (k:Nat) (l0:List (S160)) (a1:Int) (a2:Int):Option (Bool):=(laws_szShardS.f k l0 1048576).bind fun t371=>(if t371 < 0 then (some true) else ((laws_toShardS.f k l0).bind fun t372=>((spec_CheckShards.f k t372 a1 a2).bind fun bt375=>((laws_toShardS.f k l0).bind fun t377=>((impl_CheckShards.f k t377 a1 a2).bind fun bt380=>(if (bt380.1 != bt375.1)=true then (laws_FnExactCheckShards.j0 k l0 t377 true) else (laws_FnExactCheckShards.j0 k l0 t377 (bt380.2 != bt375.2))))))))
theorem laws_FnExactCheckShards.mono_l:∀ k,(∀ y0 y1 y2,LeO (laws_FnExactCheckShards.j0 k y0 y1 y2) (laws_FnExactCheckShards.j0 (k+1) y0 y1 y2))
 | 0=>fun _ _ _ r h=>by simp [laws_FnExactCheckShards.j0] at h
 | k+1=>by
  have ih0:=laws_FnExactCheckShards.mono_l k
  intro y0 y1 y2
  unfold laws_FnExactCheckShards.j0
  repeat' first
  | (with_reducible exact ih0 _ _ _)
  | (with_reducible exact impl_CheckShards.mono _ _ _ _)
  | (with_reducible exact laws_eqShardS.mono _ _ _)
  | (with_reducible exact laws_szShardS.mono _ _ _)
  | (with_reducible exact laws_toShardS.mono _ _)
  | (with_reducible exact spec_CheckShards.mono _ _ _ _)
  |(with_reducible exact LeO.refl _)|(with_reducible exact LeO.none _)|(with_reducible refine LeO.ite ?_ ?_)|(with_reducible refine LeO.bind ?_ (fun _=>?_))|exact ih0 _ _ _|exact impl_CheckShards.mono _ _ _ _|exact laws_eqShardS.mono _ _ _|exact laws_szShardS.mono _ _ _|exact laws_toShardS.mono _ _|exact spec_CheckShards.mono _ _ _ _|exact LeO.none _|refine LeO.ite ?_ ?_|refine LeO.bind ?_ (fun _=>?_)
theorem laws_FnExactCheckShards.mono:∀ a0 a1 a2 k,LeO (laws_FnExactCheckShards.f k a0 a1 a2) (laws_FnExactCheckShards.f (k+1) a0 a1 a2):=by
 intro a0 a1 a2 k
 have ih0:=laws_FnExactCheckShards.mono_l k
 unfold laws_FnExactCheckShards.f
 repeat' first
   | (with_reducible exact ih0 _ _ _)
   | (with_reducible exact impl_CheckShards.mono _ _ _ _)
   | (with_reducible exact laws_eqShardS.mono _ _ _)
   | (with_reducible exact laws_szShardS.mono _ _ _)
   | (with_reducible exact laws_toShardS.mono _ _)
   | (with_reducible exact spec_CheckShards.mono _ _ _ _)
   |(with_reducible exact LeO.refl _)|(with_reducible exact LeO.none _)|(with_reducible refine LeO.ite ?_ ?_)|(with_reducible refine LeO.bind ?_ (fun _=>?_))|exact ih0 _ _ _|exact impl_CheckShards.mono _ _ _ _|exact laws_eqShardS.mono _ _ _|exact laws_szShardS.mono _ _ _|exact laws_toShardS.mono _ _|exact spec_CheckShards.mono _ _ _ _|exact LeO.none _|refine LeO.ite ?_ ?_|refine LeO.bind ?_ (fun _=>?_)
theorem laws_FnExactCheckShards.calls (k:Nat) (A0:Option Addr) (c0:Nat) (l0:List (S160)) (a1:Int) (a2:Int) (r:Bool) (w:World) (hr0:Kd.C k160 w A0 l0.length l0) (hc0:l0.length≤c0) (h:laws_FnExactCheckShards.f k l0 a1 a2=some r) :
  Calls Try.prog 10 #[.slice A0 l0.length c0, .int .i64 a1, .int .i64 a2] w fun e w'=>e = .returned (.bool r)∧Below w.heap.size w w':=by
 have HR0:=am hr0
 have HC0:=am hc0
 clear hr0 hc0
 have HB:=am (Below.refl w.heap.size w)
 have H:((laws_szShardS.f k l0 1048576).bind fun t371=>(if t371 < 0 then (some true) else ((laws_toShardS.f k l0).bind fun t372=>((spec_CheckShards.f k t372 a1 a2).bind fun bt375=>((laws_toShardS.f k l0).bind fun t377=>((impl_CheckShards.f k t377 a1 a2).bind fun bt380=>(if (bt380.1 != bt375.1)=true then (laws_FnExactCheckShards.j0 k l0 t377 true) else (laws_FnExactCheckShards.j0 k l0 t377 (bt380.2 != bt375.2)))))))))=some r:=h
 clear h
 replace H:=Option.bind_eq_some_iff.mp H
 obtain ⟨t371,A40,H⟩:=H
 replace H:(if t371 < 0 then (some true) else ((laws_toShardS.f k l0).bind fun t372=>((spec_CheckShards.f k t372 a1 a2).bind fun bt375=>((laws_toShardS.f k l0).bind fun t377=>((impl_CheckShards.f k t377 a1 a2).bind fun bt380=>(if (bt380.1 != bt375.1)=true then (laws_FnExactCheckShards.j0 k l0 t377 true) else (laws_FnExactCheckShards.j0 k l0 t377 (bt380.2 != bt375.2))))))))=some r:=H
 have A4:=am A40
 clear A40
 by_cases c5:t371 < 0
 ·rw [if_pos c5] at H
  have c5b0:decide (t371 < 0)=true:=decide_eq_true c5
  clear c5
  obtain rfl:=Option.some.inj H
  go_enter Try.func10,Try.ntmps10
  go_wp2_with (first|((with_reducible refine gate_callee (f:=53) rfl ?_);refine goesL_ (some 15) rfl rfl Try.func53 d3 rfl #[.slice A0 l0.length c0, .int .i64 1048576] rfl d4 ?_;(with_reducible refine (laws_szShardS.calls k _ _ l0 1048576 t371 _ ?side1 ?side2 A4.out).mono ?_);(case side1=>repeat (first|exact HR0.out|(with_reducible refine Kd.C_alloc ?_ _)|(with_reducible refine Kd.C_drewN ?_ _)|(with_reducible refine Kd.C_drew ?_)));(case side2=>exact HC0.out);rintro e w6 ⟨rfl,hb⟩;refine ⟨_,rfl,?_⟩;have n0_:=am (pu d0 hb);clear HB;have HB:=n0_;clear n0_;(try clear hb);(try clear hb2);(try clear hk);(try clear hi)))
  go_ret
  exact ⟨d5,d0⟩
 rw [if_neg c5] at H
 have c5b0:decide (t371 < 0)=false:=decide_eq_false c5
 clear c5
 replace H:=Option.bind_eq_some_iff.mp H
 obtain ⟨t372,A70,H⟩:=H
 replace H:((spec_CheckShards.f k t372 a1 a2).bind fun bt375=>((laws_toShardS.f k l0).bind fun t377=>((impl_CheckShards.f k t377 a1 a2).bind fun bt380=>(if (bt380.1 != bt375.1)=true then (laws_FnExactCheckShards.j0 k l0 t377 true) else (laws_FnExactCheckShards.j0 k l0 t377 (bt380.2 != bt375.2))))))=some r:=H
 have A7:=am A70
 clear A70
 replace H:=Option.bind_eq_some_iff.mp H
 obtain ⟨⟨t375,t376⟩,A80,H⟩:=H
 replace H:((laws_toShardS.f k l0).bind fun t377=>((impl_CheckShards.f k t377 a1 a2).bind fun bt380=>(if (bt380.1 != t375)=true then (laws_FnExactCheckShards.j0 k l0 t377 true) else (laws_FnExactCheckShards.j0 k l0 t377 (bt380.2 != t376)))))=some r:=H
 have A8:=am A80
 clear A80
 replace H:=Option.bind_eq_some_iff.mp H
 obtain ⟨t377,A90,H⟩:=H
 replace H:((impl_CheckShards.f k t377 a1 a2).bind fun bt380=>(if (bt380.1 != t375)=true then (laws_FnExactCheckShards.j0 k l0 t377 true) else (laws_FnExactCheckShards.j0 k l0 t377 (bt380.2 != t376))))=some r:=H
 have A9:=am A90
 clear A90
 replace H:=Option.bind_eq_some_iff.mp H
 obtain ⟨⟨t380,t381⟩,A100,H⟩:=H
 replace H:(if (t380 != t375)=true then (laws_FnExactCheckShards.j0 k l0 t377 true) else (laws_FnExactCheckShards.j0 k l0 t377 (t381 != t376)))=some r:=H
 have A10:=am A100
 clear A100
 have HC11:=am H
 clear H
 go_enter Try.func10,Try.ntmps10
 go_upto_region 8 with (first|((with_reducible refine gate_callee (f:=53) rfl ?_);refine goesL_ (some 15) rfl rfl Try.func53 d3 rfl #[.slice A0 l0.length c0, .int .i64 1048576] rfl d4 ?_;(with_reducible refine (laws_szShardS.calls k _ _ l0 1048576 t371 _ ?side1 ?side2 A4.out).mono ?_);(case side1=>repeat (first|exact HR0.out|(with_reducible refine Kd.C_alloc ?_ _)|(with_reducible refine Kd.C_drewN ?_ _)|(with_reducible refine Kd.C_drew ?_)));(case side2=>exact HC0.out);rintro e w12 ⟨rfl,hb⟩;refine ⟨_,rfl,?_⟩;have n0_:=am (pu d0 hb);clear HB;have HB:=n0_;clear n0_;(try clear hb);(try clear hb2);(try clear hk);(try clear hi))|((with_reducible refine gate_callee (f:=55) rfl ?_);refine goesL_ (some 20) rfl rfl Try.func55 d3 rfl #[.slice A0 l0.length c0] rfl d4 ?_;(with_reducible refine (laws_toShardS.calls k _ _ l0 t372 _ ?side1 ?side2 A7.out).mono ?_);(case side1=>repeat (first|exact (Kd.C_below HR0.out HB.out)|(with_reducible refine Kd.C_alloc ?_ _)|(with_reducible refine Kd.C_drewN ?_ _)|(with_reducible refine Kd.C_drew ?_)));(case side2=>exact HC0.out);rintro e w13 ⟨v373,rfl,ho0,hb⟩;refine ⟨_,rfl,?_⟩;have n0_:=am (Kd.R_lower ho0 (pz d0));have n1_:=am (pu d0 hb);clear HB;have HO374:=n0_;have HB:=n1_;clear n0_ n1_;(try clear hb);(try clear hb2);(try clear hk);(try clear hi);(try clear ho0);obtain ⟨Ao14,co14,eo14⟩:=Kd.R_slice HO374.out;subst eo14)|((with_reducible refine gate_callee (f:=59) rfl ?_);refine goesL_ (some 23) rfl rfl Try.func59 d3 rfl #[.slice Ao14 t372.length co14, .int .i64 a1, .int .i64 a2] rfl d4 ?_;(with_reducible refine (spec_CheckShards.calls k _ _ t372 a1 a2 t375 t376 _ ?side1 ?side2 A8.out).mono ?_);(case side1=>repeat (first|exact (Kd.R_reads' HO374.out).2.2|(with_reducible refine Kd.C_alloc ?_ _)|(with_reducible refine Kd.C_drewN ?_ _)|(with_reducible refine Kd.C_drew ?_)));(case side2=>exact (Kd.R_reads' HO374.out).2.1);rintro e w15 ⟨rfl,hb⟩;refine ⟨_,rfl,?_⟩;have n0_:=am (Kd.R_below d32 hb);have n1_:=am (pu d0 hb);clear HO374;clear HB;have HO374:=n0_;have HB:=n1_;clear n0_ n1_;(try clear hb);(try clear hb2);(try clear hk);(try clear hi))|((with_reducible refine gate_callee (f:=55) rfl ?_);refine goesL_ (some 27) rfl rfl Try.func55 d3 rfl #[.slice A0 l0.length c0] rfl d4 ?_;(with_reducible refine (laws_toShardS.calls k _ _ l0 t377 _ ?side1 ?side2 A9.out).mono ?_);(case side1=>repeat (first|exact (Kd.C_below HR0.out HB.out)|(with_reducible refine Kd.C_alloc ?_ _)|(with_reducible refine Kd.C_drewN ?_ _)|(with_reducible refine Kd.C_drew ?_)));(case side2=>exact HC0.out);rintro e w16 ⟨v378,rfl,ho0,hb⟩;refine ⟨_,rfl,?_⟩;have n0_:=am (Kd.R_elder' d32 (Kd.R_base ho0) hb);have n1_:=am (Kd.R_lower (Kd.R_new' ho0 (Kd.R_lt d32)) (pz d0));have n2_:=am (pu d0 hb);clear HO374;clear HB;have HO374:=n0_;have HO379:=n1_;have HB:=n2_;clear n0_ n1_ n2_;(try clear hb);(try clear hb2);(try clear hk);(try clear hi);(try clear ho0);obtain ⟨Ao17,co17,eo17⟩:=Kd.R_slice HO379.out;subst eo17)|((with_reducible refine gate_callee (f:=60) rfl ?_);refine goesL_ (some 32) rfl rfl Try.func60 d3 rfl #[.slice Ao17 t377.length co17, .int .i64 a1, .int .i64 a2] rfl d4 ?_;(with_reducible refine (impl_CheckShards.calls k _ _ t377 a1 a2 t380 t381 _ ?side1 ?side2 A10.out).mono ?_);(case side1=>repeat (first|exact (Kd.R_reads' HO379.out).2.2|(with_reducible refine Kd.C_alloc ?_ _)|(with_reducible refine Kd.C_drewN ?_ _)|(with_reducible refine Kd.C_drew ?_)));(case side2=>exact (Kd.R_reads' HO379.out).2.1);rintro e w18 ⟨rfl,hb⟩;refine ⟨_,rfl,?_⟩;have n0_:=am (Kd.R_below d32 hb);have n1_:=am (Kd.R_below (by (with_reducible repeat (first|apply Kd.R_alloc|apply Kd.R_drewN|apply Kd.R_drew));exact HO379.out) hb);have n2_:=am (pu d0 hb);clear HO374;clear HO379;clear HB;have HO374:=n0_;have HO379:=n1_;have HB:=n2_;clear n0_ n1_ n2_;(try clear hb);(try clear hb2);(try clear hk);(try clear hi)))
 (try simp only [Act.put,q1,q2,q3])
 go_cut [42] (fun v42 wc=>∃ (kq:Nat) (x42_10:Bool),v42 = .bool x42_10∧Aside0 (laws_FnExactCheckShards.j0 kq l0 t377 x42_10=some r)∧Aside0 (kq≤k)∧Aside0 (Kd.R k84 84 wc w.heap.size (fun _=>True) (.slice Ao17 t377.length co17) t377)∧Aside0 (Below w.heap.size w wc))
 case first =>
  have H:=HC11.out
  clear HC11
  by_cases c19:(t380 != t375)=true
  ·rw [if_pos c19] at H
   have c19b0:(t380 != t375)=true:=c19
   (try (have c19b1:decide (t380=t375)=false:=by simpa using c19))
   (try (have c19b2:(t380 == t375)=false:=by simpa using c19))
   (try (have c19b3:¬ (t380=t375):=by simpa using c19))
   clear c19
   (first|rw [c19b0]|(simp only [i64_w,i32_w];rw [c19b0])|skip)
   have H':=am H
   clear H
   go_wp2
   go_meet
   case rel=>exact ⟨_,(true),d2,H',⟨d49⟩,⟨d48⟩,⟨d0⟩⟩
  rw [if_neg c19] at H
  have c19b0:(t380 != t375)=false:=by simpa using c19
  (try (have c19b1:decide (t380=t375)=true:=by simpa using c19))
  (try (have c19b2:(t380 == t375)=true:=by simpa using c19))
  clear c19
  (first|rw [c19b0]|(simp only [i64_w,i32_w];rw [c19b0])|skip)
  have H':=am H
  clear H
  go_wp2
  go_meet
  case rel=>exact ⟨_,((t381 != t376)),d2,H',⟨d49⟩,⟨d48⟩,⟨d0⟩⟩
 case rest =>
  clear HC11
  try clear c1
  try clear p2
  try clear c5
  try clear c5b0
  try clear c6
  try clear c10
  try clear c19
  try clear c19b0
  try clear c19b1
  try clear c19b2
  obtain ⟨kq,x42_10,rfl,HA,HJ10,HO_10,HB⟩:=hcut
  cases kq with
  | zero=>exact absurd HA.out (by simp [laws_FnExactCheckShards.j0])
  | succ kj10 =>
   have H:=HA.out
   clear HA
   simp only [laws_FnExactCheckShards.j0] at H
   by_cases c20:x42_10=true
   ·subst c20
    have H1:(some false)=some r:=by rw [if_pos rfl] at H;exact H
    clear H
    have H:=H1
    clear H1
    obtain rfl:=Option.some.inj H
    go_wp2
    go_ret
    exact ⟨d5,d0⟩
   replace c20:=Bool.eq_false_iff.mpr c20
   subst c20
   have H1:((laws_toShardS.f kj10 l0).bind fun t382=>((laws_eqShardS.f kj10 t377 t382).bind fun t385=>(if t385=true then (some true) else (some false))))=some r:=by rw [if_neg (show ¬ (false=true) by decide)] at H;exact H
   clear H
   have H:=H1
   clear H1
   replace H:=Option.bind_eq_some_iff.mp H
   obtain ⟨t382,A210,H⟩:=H
   replace H:((laws_eqShardS.f kj10 t377 t382).bind fun t385=>(if t385=true then (some true) else (some false)))=some r:=H
   have A21:=am A210
   clear A210
   replace H:=Option.bind_eq_some_iff.mp H
   obtain ⟨t385,A220,H⟩:=H
   replace H:(if t385=true then (some true) else (some false))=some r:=H
   have A22:=am A220
   clear A220
   by_cases c23:t385=true
   ·subst c23
    have H1:(some true)=some r:=by rw [if_pos rfl] at H;exact H
    clear H
    have H:=H1
    clear H1
    obtain rfl:=Option.some.inj H
    go_wp2_with (first|((with_reducible refine gate_callee (f:=55) rfl ?_);refine goesL_ (some 45) rfl rfl Try.func55 d3 rfl #[.slice A0 l0.length c0] rfl d4 ?_;(with_reducible refine (laws_toShardS.calls kj10 _ _ l0 t382 _ ?side1 ?side2 A21.out).mono ?_);(case side1=>repeat (first|exact (Kd.C_below HR0.out HB.out)|(with_reducible refine Kd.C_alloc ?_ _)|(with_reducible refine Kd.C_drewN ?_ _)|(with_reducible refine Kd.C_drew ?_)));(case side2=>exact HC0.out);rintro e w24 ⟨v383,rfl,ho0,hb⟩;refine ⟨_,rfl,?_⟩;have n0_:=am (Kd.R_elder' d13 (Kd.R_base ho0) hb);have n1_:=am (Kd.R_lower (Kd.R_new' ho0 (Kd.R_lt d13)) (pz d0));have n2_:=am (pu d0 hb);clear HO_10;clear HB;have HO_10:=n0_;have HO384:=n1_;have HB:=n2_;clear n0_ n1_ n2_;(try clear hb);(try clear hb2);(try clear hk);(try clear hi);(try clear ho0);obtain ⟨Ao25,co25,eo25⟩:=Kd.R_slice HO384.out;subst eo25)|((with_reducible refine gate_callee (f:=58) rfl ?_);refine goesL_ (some 46) rfl rfl Try.func58 d3 rfl #[.slice Ao17 t377.length co17, .slice Ao25 t382.length co25] rfl d4 ?_;(with_reducible refine (laws_eqShardS.calls kj10 _ _ t377 _ _ t382 true _ ?side1 ?side2 ?side3 ?side4 A22.out).mono ?_);(case side1=>repeat (first|exact (Kd.R_reads' HO_10.out).2.2|(with_reducible refine Kd.C_alloc ?_ _)|(with_reducible refine Kd.C_drewN ?_ _)|(with_reducible refine Kd.C_drew ?_)));(case side2=>exact (Kd.R_reads' HO_10.out).2.1);(case side3=>repeat (first|exact (Kd.R_reads' HO384.out).2.2|(with_reducible refine Kd.C_alloc ?_ _)|(with_reducible refine Kd.C_drewN ?_ _)|(with_reducible refine Kd.C_drew ?_)));(case side4=>exact (Kd.R_reads' HO384.out).2.1);rintro e w26 ⟨rfl,hb⟩;refine ⟨_,rfl,?_⟩;have n0_:=am (Kd.R_below d13 hb);have n1_:=am (Kd.R_below (by (with_reducible repeat (first|apply Kd.R_alloc|apply Kd.R_drewN|apply Kd.R_drew));exact HO384.out) hb);have n2_:=am (pu d0 hb);clear HO_10;clear HO384;clear HB;have HO_10:=n0_;have HO384:=n1_;have HB:=n2_;clear n0_ n1_ n2_;(try clear hb);(try clear hb2);(try clear hk);(try clear hi)))
    go_ret
    exact ⟨d5,d0⟩
   replace c23:=Bool.eq_false_iff.mpr c23
   subst c23
   have H1:(some false)=some r:=by rw [if_neg (show ¬ (false=true) by decide)] at H;exact H
   clear H
   have H:=H1
   clear H1
   obtain rfl:=Option.some.inj H
   go_wp2_with (first|((with_reducible refine gate_callee (f:=55) rfl ?_);refine goesL_ (some 45) rfl rfl Try.func55 d3 rfl #[.slice A0 l0.length c0] rfl d4 ?_;(with_reducible refine (laws_toShardS.calls kj10 _ _ l0 t382 _ ?side1 ?side2 A21.out).mono ?_);(case side1=>repeat (first|exact (Kd.C_below HR0.out HB.out)|(with_reducible refine Kd.C_alloc ?_ _)|(with_reducible refine Kd.C_drewN ?_ _)|(with_reducible refine Kd.C_drew ?_)));(case side2=>exact HC0.out);rintro e w27 ⟨v383,rfl,ho0,hb⟩;refine ⟨_,rfl,?_⟩;have n0_:=am (Kd.R_elder' d13 (Kd.R_base ho0) hb);have n1_:=am (Kd.R_lower (Kd.R_new' ho0 (Kd.R_lt d13)) (pz d0));have n2_:=am (pu d0 hb);clear HO_10;clear HB;have HO_10:=n0_;have HO384:=n1_;have HB:=n2_;clear n0_ n1_ n2_;(try clear hb);(try clear hb2);(try clear hk);(try clear hi);(try clear ho0);obtain ⟨Ao28,co28,eo28⟩:=Kd.R_slice HO384.out;subst eo28)|((with_reducible refine gate_callee (f:=58) rfl ?_);refine goesL_ (some 46) rfl rfl Try.func58 d3 rfl #[.slice Ao17 t377.length co17, .slice Ao28 t382.length co28] rfl d4 ?_;(with_reducible refine (laws_eqShardS.calls kj10 _ _ t377 _ _ t382 false _ ?side1 ?side2 ?side3 ?side4 A22.out).mono ?_);(case side1=>repeat (first|exact (Kd.R_reads' HO_10.out).2.2|(with_reducible refine Kd.C_alloc ?_ _)|(with_reducible refine Kd.C_drewN ?_ _)|(with_reducible refine Kd.C_drew ?_)));(case side2=>exact (Kd.R_reads' HO_10.out).2.1);(case side3=>repeat (first|exact (Kd.R_reads' HO384.out).2.2|(with_reducible refine Kd.C_alloc ?_ _)|(with_reducible refine Kd.C_drewN ?_ _)|(with_reducible refine Kd.C_drew ?_)));(case side4=>exact (Kd.R_reads' HO384.out).2.1);rintro e w29 ⟨rfl,hb⟩;refine ⟨_,rfl,?_⟩;have n0_:=am (Kd.R_below d13 hb);have n1_:=am (Kd.R_below (by (with_reducible repeat (first|apply Kd.R_alloc|apply Kd.R_drewN|apply Kd.R_drew));exact HO384.out) hb);have n2_:=am (pu d0 hb);clear HO_10;clear HO384;clear HB;have HO_10:=n0_;have HO384:=n1_;have HB:=n2_;clear n0_ n1_ n2_;(try clear hb);(try clear hb2);(try clear hk);(try clear hi)))
   go_ret
   exact ⟨d5,d0⟩

end Go.Proofs.Ytajikfnpcobnpaa.PFnExactCheckShards
-- HALVED
-- SQUEEZED
-- SQUEEZED2
-- SQUEEZED3
-- SQUEEZED4
-- SQUEEZED5
-- SQUEEZED6
