import Derived.Test.YtajikfnpcobnpaaVDecodeLocalB
import Derived.Test.YtajikfnpcobnpaaPFnExactDecodeLocalx0
import Derived.Test.YtajikfnpcobnpaaPFnExactDecodeLocalx4
namespace Go.Proofs.Ytajikfnpcobnpaa.PFnExactDecodeLocal
open Go.RowKit Go.Proofs.YtajikfnpcobnpaaW.PrintWords Go.Proofs.YtajikfnpcobnpaaW.PrintLast Go.Proofs.YtajikfnpcobnpaaW.PrintMore Go.Proofs.Ytajikfnpcobnpaa.KitS
attribute [local go_sem] max2_int min2_int max_two min_two max_three min_three max_four min_four
set_option linter.unusedVariables false
set_option maxHeartbeats 8000000
set_option maxRecDepth 100000
set_option linter.unusedSimpArgs false
section
section
open Go.Proofs.Ytajikfnpcobnpaa.Gf Go.Proofs.Ytajikfnpcobnpaa.Kit Go.Proofs.Ytajikfnpcobnpaa.KitW Go.Proofs.Ytajikfnpcobnpaa.KitN
namespace ImplElim
theorem impl_Times.ev_l0 (b:Nat) (hb:b < 256):∀ (n i o x:Nat),i+n=8→o < 256→x < 256 →
  Ev (fun k=>impl_Times.l0 k (b:Int) (o:Int) (i:Int) (x:Int)) ((T n o x (b / 2 ^ i):Nat):Int)
 | 0,i,o,x,hi,ho,hx=>by
  refine Ev.step (fun k=>impl_Times.l0.eq_2 _ _ _ _ k) ?_
  refine ev_neg D5 (ev_now ?_)
  simp only [T]
  omega
 | n+1,i,o,x,hi,ho,hx=>by
  refine Ev.step (fun k=>impl_Times.l0.eq_2 _ _ _ _ k) ?_
  refine ev_pos D5 (ev_pos D5 ?_)
  have e1:shr .u8 (b:Int) (i:Int)=((b / 2 ^ i:Nat):Int):=by
   unfold shr
   rw [Nat.min_eq_left (by simp only [IntKind.bits];omega)]
   simp
  have hd:b / 2 ^ i < 256:=Nat.lt_of_le_of_lt (Nat.div_le_self _ _) hb
  have e2:wrap64 ((x:Int)*2)=((2*x:Nat):Int):=by rw [wrap_id D5 D5];omega
  have e3:wrap64 ((i:Int)+1)=((i+1:Nat):Int):=by rw [wrap_id D5 D5];omega
  rw [e1,and1_u8 hd,e2,e3]
  have e4:Go.bits .xor .i64 (o:Int) (x:Int)=((o ^^^ x:Nat):Int):=xor_i64 D5 D5
  have e5:Go.bits .xor .i64 ((2*x:Nat):Int) 283=((2*x ^^^ 283:Nat):Int):=xor_i64 (m:=2*x) (n:=283) D5 D5
  have e6:b / 2 ^ i / 2=b / 2 ^ (i+1):=by rw [Nat.div_div_eq_div_mul,Nat.pow_succ]
  rw [e4,e5]
  have hT:T (n+1) o x (b / 2 ^ i)=T n (if b / 2 ^ i % 2=1 then o ^^^ x else o) (xt x) (b / 2 ^ (i+1)):=by rw [T,e6]
  rw [hT]
  have hxt:=xt_lt hx
  have hox:=xor_lt ho hx
  by_cases h1:b / 2 ^ i % 2=1
  ·rw [if_pos h1]
   refine ev_pos D5 ?_
   by_cases h2:2*x > 255
   ·refine ev_pos D5 ?_
    have:xt x=2*x ^^^ 283:=by unfold xt;rw [if_pos h2]
    rw [this] at hxt ⊢
    exact impl_Times.ev_l0 b hb n (i+1) _ _ D5 hox hxt
   refine ev_neg D5 ?_
   have:xt x=2*x:=by unfold xt;rw [if_neg h2]
   rw [this] at hxt ⊢
   exact impl_Times.ev_l0 b hb n (i+1) _ _ D5 hox hxt
  rw [if_neg h1]
  refine ev_neg D5 ?_
  by_cases h2:2*x > 255
  ·refine ev_pos D5 ?_
   have:xt x=2*x ^^^ 283:=by unfold xt;rw [if_pos h2]
   rw [this] at hxt ⊢
   exact impl_Times.ev_l0 b hb n (i+1) _ _ D5 ho hxt
  refine ev_neg D5 ?_
  have:xt x=2*x:=by unfold xt;rw [if_neg h2]
  rw [this] at hxt ⊢
  exact impl_Times.ev_l0 b hb n (i+1) _ _ D5 ho hxt
theorem impl_Times.ev {a b:Int} (ha:Byte a) (hb:Byte b):Ev (fun k=>impl_Times.f k a b) (mul a b):=by
 obtain ⟨m,hm,rfl⟩:=ha.nat
 obtain ⟨n,hn,rfl⟩:=hb.nat
 unfold impl_Times.f
 rw [wrap_id D5 D5]
 have h:=impl_Times.ev_l0 n hn 8 0 0 m rfl D4 hm
 exact ev_eq h (by unfold Gf.mul gm;simp)
theorem impl_power.ev_l0:∀ (N n:Nat) (a o:Int),n≤N→n < 4294967296→Byte a→Byte o→Ev (fun k=>impl_power.l0 k a (n:Int) o) (mul o (pow a n)):=by
 intro N
 induction N with
 | zero =>
  intro n a o hN hn ha ho
  obtain rfl:n=0:=by omega
  refine Ev.step (fun k=>impl_power.l0.eq_2 _ _ _ k) ?_
  exact ev_neg D5 (ev_now (by rw [pow_zero,mul_one ho]))
 | succ N ih =>
  intro n a o hN hn ha ho
  refine Ev.step (fun k=>impl_power.l0.eq_2 _ _ _ k) ?_
  by_cases h0:n=0
  ·subst h0
   exact ev_neg D5 (ev_now (by rw [pow_zero,mul_one ho]))
  refine ev_pos D5 ?_
  have e:((n:Int) / 2)=((n / 2:Nat):Int):=by omega
  have haa:=Byte.mul ha a
  have hsq:pow (mul a a) (n / 2)=pow a (2*(n / 2)):=by rw [pow_mul ha,pow_two ha]
  rw [and1_i64 hn,e]
  by_cases h1:n % 2=1
  ·refine ev_pos D5 ?_
   refine ev_bind (impl_Times.ev ho ha) (ev_bind (impl_Times.ev ha ha) ?_)
   refine ev_eq (ih (n / 2) _ _ D5 D5 haa (Byte.mul ho a)) ?_
   have hn2:n=1+2*(n / 2):=by omega
   rw [hsq,mul_assoc ho ha (Byte.pow ha _)]
   conv=>rhs;rw [hn2,pow_add ha,pow_one ha]
  refine ev_neg D5 ?_
  refine ev_bind (impl_Times.ev ha ha) ?_
  refine ev_eq (ih (n / 2) _ _ D5 D5 haa ho) ?_
  have hn2:n=2*(n / 2):=by omega
  rw [hsq,← hn2]
theorem impl_power.ev {a:Int} (ha:Byte a) (n:Nat) (hn:n < 4294967296):Ev (fun k=>impl_power.f k a (n:Int)) (pow a n):=by
 unfold impl_power.f
 refine ev_eq (impl_power.ev_l0 n n a 1 (Nat.le_refl _) hn ha .one) ?_
 exact one_mul (Byte.pow ha n)
theorem impl_Inverse.ev {a:Int} (ha:Byte a):Ev (fun k=>impl_Inverse.f k a) (inv a):=by
 unfold impl_Inverse.f
 exact ev_bind (impl_power.ev ha 254 D4) (ev_now (inv_pow a).symm)
theorem impl_scaled.ev_l0 (a:Int) (ha:Byte a) (v:List Int) (hv:Bytes v) (hs:v.length < 140737488355328):∀ (n i:Nat) (o:List Int),i+n=v.length→o=(scale a v).take i →
  Ev (fun k=>impl_scaled.l0 k a o v (v.length:Int) (i:Int)) (scale a v)
 | 0,i,o,hi,ho=>by
  refine Ev.step (fun k=>impl_scaled.l0.eq_2 _ _ _ _ _ k) ?_
  refine ev_neg D5 (ev_now ?_)
  subst ho
  rw [List.take_of_length_le (by rw [scale_length];omega)]
 | n+1,i,o,hi,ho=>by
  have hz:=scale_length a v
  have hlen:o.length=i:=by rw [ho,List.length_take,hz];omega
  refine Ev.step (fun k=>impl_scaled.l0.eq_2 _ _ _ _ _ k) ?_
  refine ev_pos D5 (ev_pos D5 (ev_pos D5 ?_))
  refine ev_bind (impl_Times.ev ha (bytes_rd hv D5)) ?_
  refine ev_pos D5 ?_
  rw [inc D5,rd_get D5]
  refine impl_scaled.ev_l0 a ha v hv hs n (i+1) _ D5 ?_
  rw [List.take_succ_eq_append_getElem D5,← ho]
  simp [scale]
theorem impl_scaled.ev {a:Int} (ha:Byte a) {v:List Int} (hv:Bytes v) (hs:v.length < 140737488355328):Ev (fun k=>impl_scaled.f k a v) (scale a v):=by
 unfold impl_scaled.f
 exact impl_scaled.ev_l0 a ha v hv hs v.length 0 [] D5 rfl
theorem impl_added.ev_l0 (v w:List Int) (hv:Bytes v) (hw:Bytes w) (hl:v.length=w.length) (hs:v.length < 140737488355328):∀ (n i:Nat) (o:List Int),i+n=v.length→o=(addV v w).take i →
  Ev (fun k=>impl_added.l0 k w o v (v.length:Int) (i:Int)) (addV v w)
 | 0,i,o,hi,ho=>by
  refine Ev.step (fun k=>impl_added.l0.eq_2 _ _ _ _ _ k) ?_
  refine ev_neg D5 (ev_now ?_)
  subst ho
  rw [List.take_of_length_le (by rw [addV_length];omega)]
 | n+1,i,o,hi,ho=>by
  have hz:=addV_length v w
  have hlen:o.length=i:=by rw [ho,List.length_take,hz];omega
  refine Ev.step (fun k=>impl_added.l0.eq_2 _ _ _ _ _ k) ?_
  refine ev_pos D5 (ev_pos D5 (ev_pos D5 (ev_pos D5 (ev_pos D5 ?_))))
  rw [inc D5,xor_u8 (bytes_rd hv D5) (bytes_rd hw D5),rd_get D5,rd_get D5]
  refine impl_added.ev_l0 v w hv hw hl hs n (i+1) _ D5 ?_
  rw [List.take_succ_eq_append_getElem D5,← ho]
  simp [addV]
theorem impl_added.ev {v w:List Int} (hv:Bytes v) (hw:Bytes w) (hl:v.length=w.length) (hs:v.length < 140737488355328):Ev (fun k=>impl_added.f k v w) (addV v w):=by
 unfold impl_added.f
 exact impl_added.ev_l0 v w hv hw hl hs v.length 0 [] D5 rfl
end ImplElim
theorem el_ev {α:Type} {g:Nat→Option α} {r:α} (h:Ev g r):∃ k,g k=some r:=h.rounds
/-- The test of one row: has it something at k? -/
theorem el_test (gk:Nat) (k:Nat) (A:Option Addr) (c:Nat) (l:List Int) (okf:Nat→Prop) (hk:k < l.length) (W:World)
  (hbox:W.cell? ⟨gk,0,none⟩=some (.int .i64 k)) (hF:Kd.F (Kd.int .u8) W okf A l.length l) :
  Calls Try.prog 206 #[.slice A l.length c, .pointer (some ⟨gk,0,none⟩)] W fun e w'=>e = .returned (.bool (l.getD k 0 != 0))∧Drawn0 W w':=by
 obtain ⟨ad,rfl,hc⟩:=F_byte hF k hk
 clear hF
 obtain ⟨x,hx⟩:∃ x,x=l.getD k 0:=⟨_,rfl⟩
 rw [← hx] at hc ⊢
 obtain ⟨n,hn⟩:∃ n,n=l.length:=⟨_,rfl⟩
 rw [← hn] at hk ⊢
 clear hx hn
 have hkz:(k:Int) < (n:Int):=by omega
 go_enter Try.func206,Try.ntmps206
 go_wp2
 go_ret
 exact ⟨by first|rfl|(simp [bne];done),Drawn0.refl _⟩
set_option maxHeartbeats 4000000 in
theorem el_IndexFunc (g:Nat) (eg:∀ args w,(callFunc g args).run Try.prog w = .ok (.enter g args) w) (fv:Value) (p:Nat→Bool) (ad:Addr) (n c:Nat) (v:Nat→Value) (w:World) (hbig:n≤9223372036854775806)
  (hc:∀ i,i < n→w.cell? (ad.add i)=some (v i))
  (hp:∀ i,i < n→∀ W,Drawn0 w W→Calls Try.prog g #[v i,fv] W fun e w'=>e = .returned (.bool (p i))∧Drawn0 W w') :
  Calls Try.prog 200 #[.slice (some ad) n c, .func (.func g) #[] #[fv]] w fun e w'=>(∃ r,e = .returned (.int .i64 r)∧IdxOf p n r)∧Drawn0 w w':=by
 have HP:=am hp
 have HC:=am hc
 clear hp hc
 go_enter Try.func200,Try.ntmps200
 go_wp2
 go_loopg [5,8] n (fun gg _ s8 wr=>∃ kk:Nat,kk≤n∧n - kk≤gg∧s8 = .int .i64 kk∧Aside0 (Drawn0 w wr)∧Aside0 (∀ j,j < kk→p j=false))
 case atStart=>exact ⟨0,Nat.zero_le _,D5,rfl,⟨Drawn0.refl _⟩,⟨fun j hj=>absurd hj (Nat.not_lt_zero _)⟩⟩
 case round =>
  obtain ⟨kk,hkk,hg,rfl,HD,HA⟩:=hrel
  by_cases hlt:kk < n
  ·have hltz:(kk:Int) < (n:Int):=by omega
   have hcell:wr.cell? (ad.add kk)=some (v kk):=by
    obtain ⟨q,rfl⟩:=HD.out.out
    exact HC.out kk hlt
   have hcall:=HP.out kk hlt
   cases hq:p kk with
   | true =>
    rw [hq] at hcall
    have HQ:=am hq
    clear hq
    have HX:=am hcall
    clear hcall
    go_wp2_with (go_at_fn g;refine (HX.out _ ?dr).mono ?_;(case dr=>exact HD.out);rintro e w' ⟨rfl,hd⟩)
    go_ret
    exact ⟨⟨_,rfl, .inr ⟨kk,hlt,rfl,HQ.out,HA.out⟩⟩,drawn_trans HD.out hd⟩
   | false =>
    rw [hq] at hcall
    have HQ:=am hq
    clear hq
    have HX:=am hcall
    clear hcall
    go_wp2_with (go_at_fn g;refine (HX.out _ ?dr).mono ?_;(case dr=>exact HD.out);rintro e w' ⟨rfl,hd⟩)
    go_roundg (n - (kk+1))
    case measure=>omega
    case rel=>exact ⟨kk+1,D5,D5,by go_num,⟨drawn_trans HD.out hd⟩,⟨fun j hj=>by by_cases e:j=kk;exact e ▸ HQ.out;exact HA.out j D5⟩⟩
  have hltz:¬ (kk:Int) < (n:Int):=by omega
  have:kk=n:=by omega
  subst this
  go_wp2
  go_ret
  exact ⟨⟨_,rfl, .inl ⟨rfl,HA.out⟩⟩,HD.out⟩
section
theorem el_lift {R1:List (List Int)} {a p k:Nat} {r0 r1:List Int} (h0:R1.getD a []=r0) (h1:R1.getD p []=r1):((R1.set a r1).set p r0).set a (scale (inv (r1.getD k 0)) r1)=rowI.lift R1 k a p:=by
 show _=(R1.set p (R1.getD a [])).set a (scale (inv ((R1.getD p []).getD k 0)) (R1.getD p []))
 rw [h0,h1]
 by_cases e:a=p
 ·subst e;rw [List.set_set,List.set_set,List.set_set]
 rw [List.set_comm _ _ e,List.set_set]
theorem el_top {R1:List (List Int)} {a p:Nat} {r0 r1:List Int} (ha:a < R1.length) (h0:R1.getD a []=r0) (h1:R1.getD p []=r1):((R1.set a r1).set p r0).getD a []=r1:=by
 by_cases e:p=a
 ·subst e
  rw [List.set_set,List.getD_eq_getElem?_getD,List.getElem?_set_self ha,← h1,h0];rfl
 rw [List.getD_eq_getElem?_getD,List.getElem?_set_ne e,List.getElem?_set_self ha];rfl
theorem el_clr_skip {R:List (List Int)} {k a r:Nat} {x:List Int} (hx:(rowI.clr k a R r).getD r []=x) (h:r=a∨x.getD k 0=0):rowI.clr k a R (r+1)=rowI.clr k a R r:=by
 show (if r ≠ a∧((rowI.clr k a R r).getD r []).getD k 0 ≠ 0 then _ else rowI.clr k a R r)=_
 rw [hx,if_neg]
 intro z
 rcases h with e|e
 ·exact z.1 e
 exact z.2 e
theorem el_clr_do {R:List (List Int)} {k a r:Nat} {x y:List Int} (hx:(rowI.clr k a R r).getD r []=x) (hy:(rowI.clr k a R r).getD a []=y) (h:r ≠ a) (h2:x.getD k 0 ≠ 0):rowI.clr k a R (r+1)=(rowI.clr k a R r).set r (addV x (scale (x.getD k 0) y)):=by
 show (if r ≠ a∧((rowI.clr k a R r).getD r []).getD k 0 ≠ 0 then (rowI.clr k a R r).set r (addV ((rowI.clr k a R r).getD r []) (scale (((rowI.clr k a R r).getD r []).getD k 0) ((rowI.clr k a R r).getD a []))) else rowI.clr k a R r)=_
 rw [hx,hy,if_pos ⟨h,h2⟩]
end
theorem el_none {R R1:List (List Int)} {k a len:Nat} (hq:(R1,a)=rowI.red R k) (hl:R.length=len) (ha:a < len) (hl1:R1.length=len) (h:∀ i,i < len - a→((R1.getD (a+i) []).getD k 0 != 0)=false):rowI.red R (k+1)=(R1,a):=by
 show (if (rowI.red R k).2 < R.length then rowI.stp k (rowI.red R k) else rowI.red R k)=_
 rw [← hq,hl,if_pos ha]
 unfold RowK.stp
 have e:rowI.piv R1 k a=none:=RowK.piv_none (fun j h1 h2=>by
  have h3:=h (j - a) D5
  rw [show a+(j - a)=j by omega] at h3
  exact Decidable.of_not_not fun z=>by
   have z2:((R1.getD j []).getD k 0 != 0)=true:=bne_iff_ne.2 z
   rw [z2] at h3;cases h3)
 show (match rowI.piv R1 k a with|none=>(R1,a)|some i=>(rowI.clr k a (rowI.lift R1 k a i) R1.length,a+1))=_
 rw [e]
theorem el_some {R R1:List (List Int)} {k a len i:Nat} (hq:(R1,a)=rowI.red R k) (hl:R.length=len) (ha:a < len) (hl1:R1.length=len) (hi:i < len - a) (hp:((R1.getD (a+i) []).getD k 0 != 0)=true) (h:∀ j,j < i→((R1.getD (a+j) []).getD k 0 != 0)=false):rowI.red R (k+1)=(rowI.clr k a (rowI.lift R1 k a (a+i)) len,a+1):=by
 show (if (rowI.red R k).2 < R.length then rowI.stp k (rowI.red R k) else rowI.red R k)=_
 rw [← hq,hl,if_pos ha]
 unfold RowK.stp
 have e:rowI.piv R1 k a=some (a+i):=RowK.piv_some D5 D5 (bne_iff_ne.1 hp) (fun j h1 h2=>by
  have h3:=h (j - a) D5
  rw [show a+(j - a)=j by omega] at h3
  exact Decidable.of_not_not fun z=>by
   have z2:((R1.getD j []).getD k 0 != 0)=true:=bne_iff_ne.2 z
   rw [z2] at h3;cases h3)
 show (match rowI.piv R1 k a with|none=>(R1,a)|some i=>(rowI.clr k a (rowI.lift R1 k a i) R1.length,a+1))=_
 rw [e,← hl1]
structure EL (w0:World) (g cap len gb k m:Nat) (R:List (List Int)) (wr:World):Prop where
 N:Kd.N (Kd.slice 5 (Kd.int .u8)) 57 wr w0.heap.size (fun b=>b ≠ gb) (.slice (some ⟨g,0,none⟩) len cap) R
 box:wr.heap[gb]? = some (.cells #[.int .i64 k] 3 (0,0))
 B:Below w0.heap.size w0 wr
 low:w0.heap.size≤gb
 all:∀ r ∈ R,okI m r
section
variable {w0 wr w1:World} {g cap len gb k m:Nat} {R:List (List Int)}
theorem EL.ne (h:EL w0 g cap len gb k m R wr):gb ≠ g:=fun e=>Kd.N_ne h.N h.box D4 (by rw [e];simp [Value.ownBlock])
theorem EL.below (h:EL w0 g cap len gb k m R wr) (hb:Below wr.heap.size wr w1):EL w0 g cap len gb k m R w1 :=
 ⟨Kd.N_below h.N hb,qb h.box hb,pu h.B hb,h.low,h.all⟩
theorem EL.first {okn:Nat→Prop} (hN:Kd.N (Kd.slice 5 (Kd.int .u8)) 57 wr w0.heap.size okn (.slice (some ⟨g,0,none⟩) len cap) R) (hB:Below w0.heap.size w0 wr) (hR:∀ r ∈ R,okI m r) (k:Nat) :
  EL w0 g cap len wr.heap.size k m R (wr.alloc (.cells #[.int .i64 k] 3 (0,0))) :=
 ⟨Kd.N_mono (Kd.N_alloc (Kd.N_bound hN) _) (fun k hk=>by have:=hk.2;omega),heap_alloc_new wr _,pa hB _,hB.size,hR⟩
theorem EL.size (h:EL w0 g cap len gb k m R wr):R.length=len:=(N_len h.N).1.symm
theorem EL.row (h:EL w0 g cap len gb k m R wr) (i:Nat) (hi:i < len) :
  ∃ r A c,R.getD i []=r∧okI m r∧wr.cell? ⟨g,i,none⟩=some (.slice A m c)∧m≤c∧Kd.F (Kd.int .u8) wr (fun b=>b ≠ gb∧b ≠ g) A m r∧wr.frozen? ⟨g,i,none⟩=false:=by
 obtain ⟨A,c,h1,h2,h3,h4⟩:=N_row h.N i hi
 have hr:okI m (R.getD i []):=RowK.at_all (O:=rowI) h.all (by rw [h.size];exact hi)
 rw [hr.2] at h1 h2 h3
 exact ⟨_,A,c,rfl,hr,h1,h2,h3,h4⟩
theorem EL.put (h:EL w0 g cap len gb k m R wr) (i:Nat) (hi:i < len) {A:Option Addr} {c:Nat} {x:List Int} (hx:okI m x) (hc:m≤c) (hF:Kd.F (Kd.int .u8) wr (fun b=>b ≠ gb∧b ≠ g) A m x) :
  EL w0 g cap len gb k m (R.set i x) (wr.setCell ⟨g,i,none⟩ (.slice A m c)):=by
 obtain ⟨h1,h2⟩:=N_put h.N i hi (A:=A) (c:=c) (x:=x) (okp:=fun b=>b ≠ gb∧b ≠ g) (by rw [hx.2];exact hc) (by rw [hx.2];exact hF) (fun _ hk=>hk)
 rw [hx.2] at h1 h2
 exact ⟨h1,blk_grown h.box h2 (fun e=>h.ne (by injection e)),pt h.B (Kd.N_base h.N g D54),h.low,el_set_all h.all hx i⟩
theorem EL.fresh (h:EL w0 g cap len gb k m R wr) {A:Option Addr} {n c:Nat} {x:List Int} (ho:Kd.R (Kd.int .u8) 5 w1 wr.heap.size (fun _=>True) (.slice A n c) x) :
  Kd.F (Kd.int .u8) w1 (fun b=>b ≠ gb∧b ≠ g) A n x:=by
 have hg:=Kd.N_lt h.N g D54
 have hb:=blk_lt h.box
 exact Kd.R_F (Kd.R_mono (Kd.R_bound ho) (fun b hk=>by have:=hk.2.1;omega))
theorem EL.key (h:EL w0 g cap len gb k m R wr):wr.cell? ⟨gb,0,none⟩=some (.int .i64 k):=(blk_cell h.box 0).trans rfl
end
theorem impl_eliminate.calls (R:List (List Int)) (m n:Nat) (hR:∀ r ∈ R,okI m r) (hn:n≤m) (hm:m≤1000000) (hl:R.length≤1000) (g cap len:Nat) (hlen:R.length=len) (w0 w:World) (hB:Below w0.heap.size w0 w)
  (hN:Kd.N (Kd.slice 5 (Kd.int .u8)) 57 w w0.heap.size (fun _=>True) (.slice (some ⟨g,0,none⟩) len cap) R) :
  Calls Try.prog 184 #[.slice (some ⟨g,0,none⟩) len cap, .int .i64 n] w fun e w'=>e = .returned (.int .i64 ((rowI.red R n).2:Nat)) ∧
   Kd.N (Kd.slice 5 (Kd.int .u8)) 57 w' w0.heap.size (fun _=>True) (.slice (some ⟨g,0,none⟩) len cap) (rowI.red R n).1∧Below w0.heap.size w0 w':=by
 have hnc:len≤cap:=(N_len hN).2
 have hll:len≤1000:=by omega
 have HN:=am hN
 have HB:=am hB
 have HR:=am hR
 have HL:=am hlen
 clear hN hB hR hlen
 go_enter Try.func184,Try.ntmps184
 go_wp2_with fail
 go_loopg [5,6] (n+1) (fun fu v5 v6 wr=>∃ k gb:Nat,k≤n∧n - k < fu∧v5 = .int .i64 ((rowI.red R k).2:Nat)∧v6 = .pointer (some ⟨gb,0,none⟩)∧Aside0 (EL w0 g cap len gb k m (rowI.red R k).1 wr))
 case atStart=>exact ⟨0,w.heap.size,Nat.zero_le _,D5,rfl,rfl,⟨EL.first HN.out HB.out HR.out 0⟩⟩
 case round =>
  obtain ⟨k,gb,hk,hfu,rfl,rfl,HE⟩:=hrel
  have HA:=am (RowK.red_all (shutI m) HR.out k)
  obtain ⟨q,hq⟩:∃ q,q=rowI.red R k:=⟨_,rfl⟩
  rw [← hq] at HE HA ⊢
  have HQ:=am hq
  clear hq
  obtain ⟨R1,a⟩:=q
  have hlen1:R1.length=len:=by rw [show R1=(rowI.red R k).1 by rw [← HQ.out],RowK.red_length,HL.out]
  have ha:a≤len:=by
   have h2:=(RowK.red_rank (O:=rowI) R k).2
   rw [← HQ.out,HL.out] at h2
   exact h2
  have hbox:wr.cell? ⟨gb,0,none⟩=some (.int .i64 k):=(blk_cell HE.out.box 0).trans rfl
  by_cases hkn:k < n
  case neg =>
   have e:k=n:=by omega
   subst e
   have hkz:¬ (k:Int) < (k:Int):=by omega
   have hdk:decide ((k:Int) < (k:Int))=false:=decide_eq_false hkz
   go_wp2
   go_ret
   refine ⟨?_,?_,HE.out.B⟩
   ·rw [← HQ.out];rfl
   rw [← HQ.out];exact Kd.N_mono HE.out.N (fun _ _=>trivial)
  have hkz:(k:Int) < (n:Int):=by omega
  have hdk:decide ((k:Int) < (n:Int))=true:=decide_eq_true hkz
  by_cases hal:a < len
  case neg =>
   have e:a=len:=by omega
   subst e
   have haz:¬ (a:Int) < (a:Int):=by omega
   have hda:decide ((a:Int) < (a:Int))=false:=decide_eq_false haz
   go_wp2
   go_ret
   have hf:(rowI.red R k).2=R.length:=by rw [← HQ.out,HL.out]
   have e2:=RowK.red_full hf (n - k)
   rw [show k+(n - k)=n by omega] at e2
   rw [e2,← HQ.out]
   exact ⟨rfl,Kd.N_mono HE.out.N (fun _ _=>trivial),HE.out.B⟩
  have haz:(a:Int) < (len:Int):=by omega
  have hda:decide ((a:Int) < (len:Int))=true:=decide_eq_true haz
  have hac:(cap=a)=False:=eq_false D5
  have halc:a≤cap:=by omega
  go_wp2_with fail
  have hcell:∀ i,i < len - a→wr.cell? ⟨g,a+i,none⟩=some ((wr.cell? ⟨g,a+i,none⟩).getD undef):=fun i hi=>by
   obtain ⟨A,c,e,_⟩:=N_row HE.out.N (a+i) D5
   rw [e];rfl
  refine (el_IndexFunc 206 (enters_of Try.func206 rfl rfl) (.pointer (some ⟨gb,0,none⟩)) (fun i=>(R1.getD (a+i) []).getD k 0 != 0) ⟨g,a,none⟩ (len - a) (cap - a) (fun i=>(wr.cell? ⟨g,a+i,none⟩).getD undef) wr D5 (fun i hi=>by rw [add_at];exact hcell i hi) (fun i hi W hd=>?_)).mono ?_
  ·obtain ⟨A,c,e,hle,hF,_⟩:=N_row HE.out.N (a+i) D5
   obtain ⟨q,rfl⟩:=hd.out
   rw [e]
   have hlk:k < (R1.getD (a+i) []).length:=by
    have:=(RowK.at_all (O:=rowI) HA.out (i:=a+i) D5).2
    rw [show (rowI.nul:List Int)=[] from rfl] at this
    omega
   exact el_test gb k A c _ _ hlk _ hbox (Kd.F_drewN hF q)
  clear hcell
  rintro e w' ⟨⟨r,rfl,hr⟩,⟨q,rfl⟩⟩
  have hE1:=HE.out.below (w1:=wr.drewN q) (pb (Below.refl _ _) q)
  clear HE hbox
  have HE:=am hE1
  clear hE1
  generalize wr.drewN q=wr at HE ⊢
  have hbox:wr.cell? ⟨gb,0,none⟩=some (.int .i64 k):=(blk_cell HE.out.box 0).trans rfl
  rcases hr with ⟨rfl,hnone⟩ | ⟨i,hi,rfl,hp,hfirst⟩
  ·have hst:=el_none HQ.out HL.out hal hlen1 hnone
   have HS:=am hst
   clear hst
   go_wp2_with fail
   go_roundg (gk - 1)
   case measure=>omega
   case rel=>exact ⟨k+1,wr.heap.size,D5,D5,by rw [HS.out],by first|rfl|(simp;done),⟨by rw [HS.out];exact EL.first HE.out.N HE.out.B HE.out.all (k+1)⟩⟩
  have hst:=el_some HQ.out HL.out hal hlen1 hi hp hfirst
  have HS:=am hst
  clear hst
  replace hp:((R1.getD (a+i) []).getD k 0 != 0)=true:=hp
  have HP:=am hp
  clear hp hfirst
  have hneg:¬ ((i:Int) < 0):=by omega
  have hdn:decide ((i:Int) < 0)=false:=decide_eq_false hneg
  obtain ⟨p,hpe⟩:∃ p,p=a+i:=⟨_,rfl⟩
  have hpl:(p:Int) < (len:Int):=by omega
  have hp0:p < len:=by omega
  have hap:a≤p:=by omega
  rw [← hpe] at HP HS
  have hw:wrap64 ((a:Int)+(i:Int))=(p:Int):=by rw [hpe,wrap_id D5 D5];omega
  go_wp2_with fail
  clear hpe
  have hbm:k < m:=by omega
  replace HE:=am (HE.out.below (pd (Below.refl _ _)))
  obtain ⟨r1,A1,c1,hr1,hok1,hcell1,hle1,hF1,hfr1⟩:=HE.out.row p hp0
  obtain ⟨r0,A0,c0,hr0,hok0,hcell0,hle0,hF0,hfr0⟩:=HE.out.row a hal
  refine start_ (n:=20) (S:=fun w'=>w'.cell? ⟨g,p,none⟩=some (.slice A1 m c1)∧w'.cell? ⟨g,a,none⟩=some (.slice A0 m c0)) (ds:=[17,19]) #[Z,Z,Z,Z,Z,Z,Z,Z,Z,Z,Z,Z,Z,Z,Z,Z,Z,Z,Z,Z] D3 rfl rfl ⟨hcell1,hcell0⟩ (fun hHeld=>?_)
  generalize wr.drew=wr at HE hHeld hF1 hF0 hcell0 hcell1 hfr0 hfr1 ⊢
  have HF1:=am hF1
  have HF0:=am hF0
  clear hF1 hF0 hbox
  refine pure_ (i:=0) (N:=some 28) (v:=?_) (a':=?_) #[Y,Z,Z,Z,Z,Z,Z,Z,Z,Z,Z,Z,Z,Z,Z,Z,Z,Z,Z,Z] rfl rfl D3 hh (Or.inl ⟨D11,?_⟩) ?_ ?_
  rotate_left
  ·intro w'
   go_simp
   with_reducible rfl
  rotate_left
  ·simp only [Act.put,q1,q2,q3,i64_w,i32_w]
   rfl
  refine pure_ (i:=1) (N:=some 29) (v:=?_) (a':=?_) #[Y,Y,Z,Z,Z,Z,Z,Z,Z,Z,Z,Z,Z,Z,Z,Z,Z,Z,Z,Z] rfl rfl D3 hh (Or.inl ⟨D11,?_⟩) ?_ ?_
  rotate_left
  ·intro w'
   go_simp
   with_reducible rfl
  rotate_left
  ·simp only [Act.put,q1,q2,q3,i64_w,i32_w]
   rfl
  refine pure_ (i:=6) (N:=some 34) (v:=?_) (a':=?_) #[Y,Y,Z,Z,Z,Z,Y,Z,Z,Z,Z,Z,Z,Z,Z,Z,Z,Z,Z,Z] rfl rfl D3 hh (Or.inl ⟨D11,?_⟩) ?_ ?_
  rotate_left
  ·intro w'
   go_simp
   with_reducible rfl
  rotate_left
  ·simp only [Act.put,q1,q2,q3,i64_w,i32_w]
   rfl
  refine pure_ (i:=7) (N:=some 35) (v:=?_) (a':=?_) #[Y,Y,Z,Z,Z,Z,Y,Y,Z,Z,Z,Z,Z,Z,Z,Z,Z,Z,Z,Z] rfl rfl D3 hh (Or.inl ⟨D11,?_⟩) ?_ ?_
  rotate_left
  ·intro w'
   go_simp
   with_reducible rfl
  rotate_left
  ·simp only [Act.put,q1,q2,q3,i64_w,i32_w]
   rfl
  refine pure_ (i:=8) (N:=some 36) (v:=?_) (a':=?_) #[Y,Y,Z,Z,Z,Z,Y,Y,Y,Z,Z,Z,Z,Z,Z,Z,Z,Z,Z,Z] rfl rfl D3 hh (Or.inl ⟨D11,?_⟩) ?_ ?_
  rotate_left
  ·intro w'
   go_simp
   with_reducible rfl
  rotate_left
  ·simp only [Act.put,q1,q2,q3,i64_w,i32_w]
   rfl
  refine pure_ (i:=9) (N:=some 37) (v:=?_) (a':=?_) #[Y,Y,Z,Z,Z,Z,Y,Y,Y,Y,Z,Z,Z,Z,Z,Z,Z,Z,Z,Z] rfl rfl D3 hh (Or.inl ⟨D11,?_⟩) ?_ ?_
  rotate_left
  ·intro w'
   go_simp
   with_reducible rfl
  rotate_left
  ·simp only [Act.put,q1,q2,q3,i64_w,i32_w]
   rfl
  refine pure_ (i:=10) (N:=some 38) (v:=?_) (a':=?_) #[Y,Y,Z,Z,Z,Z,Y,Y,Y,Y,Y,Z,Z,Z,Z,Z,Z,Z,Z,Z] rfl rfl D3 hh (Or.inl ⟨D11,?_⟩) ?_ ?_
  rotate_left
  ·intro w'
   go_simp
   with_reducible rfl
  rotate_left
  ·simp only [Act.put,q1,q2,q3,i64_w,i32_w]
   rfl
  refine pure_ (i:=12) (N:=some 40) (v:=?_) (a':=?_) #[Y,Y,Z,Z,Z,Z,Y,Y,Y,Y,Y,Z,Y,Z,Z,Z,Z,Z,Z,Z] rfl rfl D3 hh (Or.inl ⟨D11,?_⟩) ?_ ?_
  rotate_left
  ·intro w'
   go_simp
   with_reducible rfl
  rotate_left
  ·simp only [Act.put,q1,q2,q3,i64_w,i32_w]
   rfl
  refine pure_ (i:=13) (N:=some 41) (v:=?_) (a':=?_) #[Y,Y,Z,Z,Z,Z,Y,Y,Y,Y,Y,Z,Y,Y,Z,Z,Z,Z,Z,Z] rfl rfl D3 hh (Or.inl ⟨D11,?_⟩) ?_ ?_
  rotate_left
  ·intro w'
   go_simp
   with_reducible rfl
  rotate_left
  ·simp only [Act.put,q1,q2,q3,i64_w,i32_w]
   rfl
  refine pure_ (i:=14) (N:=some 42) (v:=?_) (a':=?_) #[Y,Y,Z,Z,Z,Z,Y,Y,Y,Y,Y,Z,Y,Y,Y,Z,Z,Z,Z,Z] rfl rfl D3 hh (Or.inl ⟨D11,?_⟩) ?_ ?_
  rotate_left
  ·intro w'
   go_simp
   with_reducible rfl
  rotate_left
  ·simp only [Act.put,q1,q2,q3,i64_w,i32_w]
   rfl
  refine take_ (i:=11) (N:=some 39) (v:=?_) (a':=?_) #[Y,Y,Z,Z,Z,Z,Y,Y,Y,Y,Y,Y,Y,Y,Y,Z,Z,Z,Z,Z] rfl rfl D3 hh (Or.inl ⟨D11,?_⟩) hHeld ?_ ?_
  rotate_left
  ·rintro w' ⟨s0,s1⟩
   go_simp
   with_reducible rfl
  rotate_left
  ·simp only [Act.put,q1,q2,q3,i64_w,i32_w]
   rfl
  refine take_ (i:=15) (N:=some 43) (v:=?_) (a':=?_) #[Y,Y,Z,Z,Z,Z,Y,Y,Y,Y,Y,Y,Y,Y,Y,Y,Z,Z,Z,Z] rfl rfl D3 hh (Or.inl ⟨D11,?_⟩) hHeld ?_ ?_
  rotate_left
  ·rintro w' ⟨s0,s1⟩
   go_simp
   with_reducible rfl
  rotate_left
  ·simp only [Act.put,q1,q2,q3,i64_w,i32_w]
   rfl
  refine pure_ (i:=2) (N:=some 30) (v:=?_) (a':=?_) #[Y,Y,Y,Z,Z,Z,Y,Y,Y,Y,Y,Y,Y,Y,Y,Y,Z,Z,Z,Z] rfl rfl D3 hh (Or.inl ⟨D11,?_⟩) ?_ ?_
  rotate_left
  ·intro w'
   go_simp
   with_reducible rfl
  rotate_left
  ·simp only [Act.put,q1,q2,q3,i64_w,i32_w]
   rfl
  refine pure_ (i:=3) (N:=some 31) (v:=?_) (a':=?_) #[Y,Y,Y,Y,Z,Z,Y,Y,Y,Y,Y,Y,Y,Y,Y,Y,Z,Z,Z,Z] rfl rfl D3 hh (Or.inl ⟨D11,?_⟩) ?_ ?_
  rotate_left
  ·intro w'
   go_simp
   with_reducible rfl
  rotate_left
  ·simp only [Act.put,q1,q2,q3,i64_w,i32_w]
   rfl
  refine pure_ (i:=4) (N:=some 32) (v:=?_) (a':=?_) #[Y,Y,Y,Y,Y,Z,Y,Y,Y,Y,Y,Y,Y,Y,Y,Y,Z,Z,Z,Z] rfl rfl D3 hh (Or.inl ⟨D11,?_⟩) ?_ ?_
  rotate_left
  ·intro w'
   go_simp
   with_reducible rfl
  rotate_left
  ·simp only [Act.put,q1,q2,q3,i64_w,i32_w]
   rfl
  refine pure_ (i:=5) (N:=some 33) (v:=?_) (a':=?_) #[Y,Y,Y,Y,Y,Y,Y,Y,Y,Y,Y,Y,Y,Y,Y,Y,Z,Z,Z,Z] rfl rfl D3 hh (Or.inl ⟨D11,?_⟩) ?_ ?_
  rotate_left
  ·intro w'
   go_simp
   with_reducible rfl
  rotate_left
  ·simp only [Act.put,q1,q2,q3,i64_w,i32_w]
   rfl
  refine pure_ (i:=16) (N:=some 44) (v:=?_) (a':=?_) #[Y,Y,Y,Y,Y,Y,Y,Y,Y,Y,Y,Y,Y,Y,Y,Y,Y,Z,Z,Z] rfl rfl D3 hh (Or.inl ⟨D11,?_⟩) ?_ ?_
  rotate_left
  ·intro w'
   go_simp
   with_reducible rfl
  rotate_left
  ·simp only [Act.put,q1,q2,q3,i64_w,i32_w]
   rfl
  refine last_ (i:=17) (N:=none) #[Y,Y,Y,Y,Y,Y,Y,Y,Y,Y,Y,Y,Y,Y,Y,Y,Y,Y,Z,Z] rfl rfl D3 D4 (fun K hK=>?_)
  refine skip_ (w1:=?_) D11 rfl ?_ ?_
  rotate_left
  ·go_simp
   rfl
  refine hK.out _ _ ?_
  clear hK K
  have hE1:=HE.out.put a hal hok1 hle1 HF1.out
  have HF0':=am (Kd.F_far HF0.out (p:=⟨g,a,none⟩) (fun k hk=>hk.2) (.slice A1 m c1))
  clear HE HF0 HF1 hHeld hcell0 hcell1 hfr0 hfr1
  generalize wr.setCell ⟨g,a,none⟩ (.slice A1 m c1)=wr at hE1 HF0' ⊢
  have HE:=am hE1
  clear hE1
  obtain ⟨_,_,_,_,_,hcellp,_,_,hfrp⟩:=HE.out.row p hp0
  refine pure_ (i:=18) (N:=some 45) (v:=?_) (a':=?_) #[Y,Y,Y,Y,Y,Y,Y,Y,Y,Y,Y,Y,Y,Y,Y,Y,Y,Y,Y,Z] rfl rfl D3 hh (Or.inl ⟨D11,?_⟩) ?_ ?_
  rotate_left
  ·intro w'
   go_simp
   with_reducible rfl
  rotate_left
  ·simp only [Act.put,q1,q2,q3,i64_w,i32_w]
   rfl
  refine last_ (i:=19) (N:=none) #[Y,Y,Y,Y,Y,Y,Y,Y,Y,Y,Y,Y,Y,Y,Y,Y,Y,Y,Y,Y] rfl rfl D3 D4 (fun K hK=>?_)
  refine skip_ (w1:=?_) D11 rfl ?_ ?_
  rotate_left
  ·go_simp
   rfl
  refine hK.out _ _ ?_
  clear hK K
  refine done_ D3 ?_
  have hE1:=HE.out.put p hp0 hok0 hle0 HF0'.out
  clear HE HF0' hcellp hfrp
  generalize wr.setCell ⟨g,p,none⟩ (.slice A0 m c0)=wr at hE1 ⊢
  have HE:=am hE1
  clear hE1 hw
  go_wp2_with fail
  have htop:=el_top (by rw [hlen1];exact hal) hr0 hr1
  replace HE:=am (HE.out.below (pd (Below.refl _ _)))
  obtain ⟨r2,A2,c2,hr2,hok2,hcell2,hle2,hF2,hfr2⟩:=HE.out.row a hal
  rw [htop] at hr2
  subst hr2
  obtain ⟨ad2,rfl,hbyte⟩:=F_m hF2 hok2.2 k hbm
  obtain ⟨x,hx⟩:∃ x,x=r1.getD k 0:=⟨_,rfl⟩
  rw [← hx] at hbyte
  have hkey:=HE.out.key
  have hkm:(k:Int) < (m:Int):=by omega
  have hxb:Byte x:=by rw [hx];exact bytes_getD hok1.1 k
  obtain ⟨kI,hI⟩:=(ImplElim.impl_Inverse.ev hxb).rounds
  obtain ⟨kS,hS⟩:=(ImplElim.impl_scaled.ev hxb.inv hok1.1 (by rw [hok1.2];omega)).rounds
  have HI:=am hI
  have HSc:=am hS
  clear hI hS htop
  refine start_ (n:=17) (S:=fun w'=>w'.cell? ⟨g,a,none⟩=some (.slice (some ad2) m c2)∧w'.cell? ⟨gb,0,none⟩=some (.int .i64 k)∧w'.cell? (ad2.add k)=some (.int .u8 x)) (ds:=[16]) #[Z,Z,Z,Z,Z,Z,Z,Z,Z,Z,Z,Z,Z,Z,Z,Z,Z] D3 rfl rfl ⟨hcell2,hkey,hbyte⟩ (fun hHeld=>?_)
  generalize wr.drew=wr at HE hHeld hF2 hkey hbyte hcell2 hfr2 ⊢
  have HF2:=am hF2
  clear hF2 hkey hbyte hcell2 hfr2
  refine pure_ (i:=0) (N:=some 46) (v:=?_) (a':=?_) #[Y,Z,Z,Z,Z,Z,Z,Z,Z,Z,Z,Z,Z,Z,Z,Z,Z] rfl rfl D3 hh (Or.inl ⟨D11,?_⟩) ?_ ?_
  rotate_left
  ·intro w'
   go_simp
   with_reducible rfl
  rotate_left
  ·simp only [Act.put,q1,q2,q3,i64_w,i32_w]
   rfl
  refine pure_ (i:=1) (N:=some 47) (v:=?_) (a':=?_) #[Y,Y,Z,Z,Z,Z,Z,Z,Z,Z,Z,Z,Z,Z,Z,Z,Z] rfl rfl D3 hh (Or.inl ⟨D11,?_⟩) ?_ ?_
  rotate_left
  ·intro w'
   go_simp
   with_reducible rfl
  rotate_left
  ·simp only [Act.put,q1,q2,q3,i64_w,i32_w]
   rfl
  refine pure_ (i:=2) (N:=some 48) (v:=?_) (a':=?_) #[Y,Y,Y,Z,Z,Z,Z,Z,Z,Z,Z,Z,Z,Z,Z,Z,Z] rfl rfl D3 hh (Or.inl ⟨D11,?_⟩) ?_ ?_
  rotate_left
  ·intro w'
   go_simp
   with_reducible rfl
  rotate_left
  ·simp only [Act.put,q1,q2,q3,i64_w,i32_w]
   rfl
  refine pure_ (i:=3) (N:=some 49) (v:=?_) (a':=?_) #[Y,Y,Y,Y,Z,Z,Z,Z,Z,Z,Z,Z,Z,Z,Z,Z,Z] rfl rfl D3 hh (Or.inl ⟨D11,?_⟩) ?_ ?_
  rotate_left
  ·intro w'
   go_simp
   with_reducible rfl
  rotate_left
  ·simp only [Act.put,q1,q2,q3,i64_w,i32_w]
   rfl
  refine pure_ (i:=4) (N:=some 50) (v:=?_) (a':=?_) #[Y,Y,Y,Y,Y,Z,Z,Z,Z,Z,Z,Z,Z,Z,Z,Z,Z] rfl rfl D3 hh (Or.inl ⟨D11,?_⟩) ?_ ?_
  rotate_left
  ·intro w'
   go_simp
   with_reducible rfl
  rotate_left
  ·simp only [Act.put,q1,q2,q3,i64_w,i32_w]
   rfl
  refine take_ (i:=5) (N:=some 51) (v:=?_) (a':=?_) #[Y,Y,Y,Y,Y,Y,Z,Z,Z,Z,Z,Z,Z,Z,Z,Z,Z] rfl rfl D3 hh (Or.inl ⟨D11,?_⟩) hHeld ?_ ?_
  rotate_left
  ·rintro w' ⟨s0,s1,s2⟩
   go_simp
   with_reducible rfl
  rotate_left
  ·simp only [Act.put,q1,q2,q3,i64_w,i32_w]
   rfl
  refine take_ (i:=6) (N:=some 52) (v:=?_) (a':=?_) #[Y,Y,Y,Y,Y,Y,Y,Z,Z,Z,Z,Z,Z,Z,Z,Z,Z] rfl rfl D3 hh (Or.inl ⟨D11,?_⟩) hHeld ?_ ?_
  rotate_left
  ·rintro w' ⟨s0,s1,s2⟩
   go_simp
   with_reducible rfl
  rotate_left
  ·simp only [Act.put,q1,q2,q3,i64_w,i32_w]
   rfl
  refine pure_ (i:=7) (N:=some 53) (v:=?_) (a':=?_) #[Y,Y,Y,Y,Y,Y,Y,Y,Z,Z,Z,Z,Z,Z,Z,Z,Z] rfl rfl D3 hh (Or.inl ⟨D11,?_⟩) ?_ ?_
  rotate_left
  ·intro w'
   go_simp
   with_reducible rfl
  rotate_left
  ·simp only [Act.put,q1,q2,q3,i64_w,i32_w]
   rfl
  refine take_ (i:=8) (N:=some 54) (v:=?_) (a':=?_) #[Y,Y,Y,Y,Y,Y,Y,Y,Y,Z,Z,Z,Z,Z,Z,Z,Z] rfl rfl D3 hh (Or.inl ⟨D11,?_⟩) hHeld ?_ ?_
  rotate_left
  ·rintro w' ⟨s0,s1,s2⟩
   go_simp
   with_reducible rfl
  rotate_left
  ·simp only [Act.put,q1,q2,q3,i64_w,i32_w]
   rfl
  refine pure_ (i:=10) (N:=some 56) (v:=?_) (a':=?_) #[Y,Y,Y,Y,Y,Y,Y,Y,Y,Z,Y,Z,Z,Z,Z,Z,Z] rfl rfl D3 hh (Or.inl ⟨D11,?_⟩) ?_ ?_
  rotate_left
  ·intro w'
   go_simp
   with_reducible rfl
  rotate_left
  ·simp only [Act.put,q1,q2,q3,i64_w,i32_w]
   rfl
  refine pure_ (i:=11) (N:=some 57) (v:=?_) (a':=?_) #[Y,Y,Y,Y,Y,Y,Y,Y,Y,Z,Y,Y,Z,Z,Z,Z,Z] rfl rfl D3 hh (Or.inl ⟨D11,?_⟩) ?_ ?_
  rotate_left
  ·intro w'
   go_simp
   with_reducible rfl
  rotate_left
  ·simp only [Act.put,q1,q2,q3,i64_w,i32_w]
   rfl
  refine pure_ (i:=12) (N:=some 58) (v:=?_) (a':=?_) #[Y,Y,Y,Y,Y,Y,Y,Y,Y,Z,Y,Y,Y,Z,Z,Z,Z] rfl rfl D3 hh (Or.inl ⟨D11,?_⟩) ?_ ?_
  rotate_left
  ·intro w'
   go_simp
   with_reducible rfl
  rotate_left
  ·simp only [Act.put,q1,q2,q3,i64_w,i32_w]
   rfl
  refine take_ (i:=13) (N:=some 59) (v:=?_) (a':=?_) #[Y,Y,Y,Y,Y,Y,Y,Y,Y,Z,Y,Y,Y,Y,Z,Z,Z] rfl rfl D3 hh (Or.inl ⟨D11,?_⟩) hHeld ?_ ?_
  rotate_left
  ·rintro w' ⟨s0,s1,s2⟩
   go_simp
   with_reducible rfl
  rotate_left
  ·simp only [Act.put,q1,q2,q3,i64_w,i32_w]
   rfl
  refine one_ (i:=9) (N:=some 55) #[Y,Y,Y,Y,Y,Y,Y,Y,Y,Y,Y,Y,Y,Y,Z,Z,Z] rfl rfl D3 D4 (fun K hK=>?_)
  refine goes_ Try.func207 D3 rfl #[Value.int .u8 x] D11 rfl rfl D14 ?_
  refine (impl_Inverse.calls kI x (inv x) _ HI.out).mono ?_
  rintro e w4 ⟨rfl,⟨q4,rfl⟩⟩
  refine ⟨_,rfl,?_⟩
  replace HE:=am (HE.out.below (w1:=wr.drewN q4) (pb (Below.refl _ _) q4))
  replace HF2:=am (Kd.F_drewN HF2.out q4)
  refine hK.out _ _ ⟨hHeld.1,hHeld.2.1,hHeld.2.2⟩ (fun hHeld=>?_)
  clear hK K
  refine norm_ (a':=?_) ?_ ?_
  rotate_left
  ·show Act.put _ (some 55) _=_
   simp only [Act.put,q1,q2,q3,i64_w,i32_w]
   rfl
  refine one_ (i:=14) (N:=some 60) #[Y,Y,Y,Y,Y,Y,Y,Y,Y,Y,Y,Y,Y,Y,Y,Z,Z] rfl rfl D3 D4 (fun K hK=>?_)
  refine goes_ Try.func132 D3 rfl #[Value.int .u8 (inv x),Value.slice (some ad2) m c2] D11 rfl rfl D14 ?_
  have hS:=impl_scaled.calls kS (inv x) (some ad2) c2 r1 (scale (inv x) r1) (wr.drewN q4) (F_C HF2.out hok1.2) (by rw [hok1.2];exact hle2) HSc.out
  rw [hok1.2] at hS
  refine hS.mono ?_
  clear hS
  rintro e w5 ⟨v5,rfl,ho5,hb5⟩
  refine ⟨_,rfl,?_⟩
  obtain ⟨A5,c5,e5⟩:=Kd.R_slice ho5
  rw [scale_length,hok1.2] at e5
  subst e5
  have hle5:m≤c5:=(Kd.R_reads' ho5).2.1
  have HF5:=am (HE.out.fresh ho5)
  replace HE:=am (HE.out.below hb5)
  replace hHeld:=(show _∧_∧_ from ⟨pw_cell_below hb5 hHeld.1,pw_cell_below hb5 hHeld.2.1,pw_cell_below hb5 hHeld.2.2⟩)
  clear ho5 hb5 HF2
  refine hK.out _ _ ⟨hHeld.1,hHeld.2.1,hHeld.2.2⟩ (fun hHeld=>?_)
  clear hK K
  refine norm_ (a':=?_) ?_ ?_
  rotate_left
  ·show Act.put _ (some 60) _=_
   simp only [Act.put,q1,q2,q3,i64_w,i32_w]
   rfl
  refine pure_ (i:=15) (N:=some 61) (v:=?_) (a':=?_) #[Y,Y,Y,Y,Y,Y,Y,Y,Y,Y,Y,Y,Y,Y,Y,Y,Z] rfl rfl D3 hh (Or.inl ⟨D11,?_⟩) ?_ ?_
  rotate_left
  ·intro w'
   go_simp
   with_reducible rfl
  rotate_left
  ·simp only [Act.put,q1,q2,q3,i64_w,i32_w]
   rfl
  obtain ⟨_,_,_,_,_,hcell3,_,_,hfr3⟩:=HE.out.row a hal
  refine last_ (i:=16) (N:=none) #[Y,Y,Y,Y,Y,Y,Y,Y,Y,Y,Y,Y,Y,Y,Y,Y,Y] rfl rfl D3 D4 (fun K hK=>?_)
  refine skip_ (w1:=?_) D11 rfl ?_ ?_
  rotate_left
  ·go_simp
   rfl
  refine hK.out _ _ ?_
  clear hK K
  refine done_ D3 ?_
  have hokx:=el_scale hxb.inv hok1
  have hE1:=HE.out.put a hal hokx hle5 HF5.out
  rw [show scale (inv x) r1=scale (inv (r1.getD k 0)) r1 by rw [hx],el_lift hr0 hr1] at hE1
  clear hx
  clear HE HF5 hcell3 hfr3 hHeld
  generalize w5.setCell ⟨g,a,none⟩ (.slice A5 m c5)=wr at hE1 ⊢
  obtain ⟨R3,hR3⟩:∃ R3,R3=rowI.lift R1 k a p:=⟨_,rfl⟩
  rw [← hR3] at hE1 HS
  clear hR3
  have HE:=am hE1
  clear hE1
  go_wp2_with fail
  go_loopg [64] (len+1) (fun fu v64 wr=>∃ r:Nat,r≤len∧len - r < fu∧v64 = .int .i64 r∧Aside0 (EL w0 g cap len gb k m (rowI.clr k a R3 r) wr))
  case atStart=>exact ⟨0,Nat.zero_le _,D5,rfl,HE⟩
  case round =>
   clear HE
   obtain ⟨r,hr,hfr,rfl,HE⟩:=hrel
   by_cases hrl:r < len
   case neg =>
    have e:r=len:=by omega
    subst e
    have hrz:¬ (r:Int) < (r:Int):=by omega
    have hdr:decide ((r:Int) < (r:Int))=false:=decide_eq_false hrz
    have hkey:=HE.out.key
    go_wp2_with fail
    go_roundg (n - k)
    case measure=>omega
    case rel=>exact ⟨k+1,_,D5,D5,by rw [HS.out];go_num,by first|rfl|(simp;done),⟨by rw [HS.out];exact EL.first HE.out.N HE.out.B HE.out.all (k+1)⟩⟩
   have hrz:(r:Int) < (len:Int):=by omega
   have hkey:=HE.out.key
   have hdr:decide ((r:Int) < (len:Int))=true:=decide_eq_true hrz
   obtain ⟨rr,A6,c6,hr6,hok6,hcell6,hle6,hF6,hfr6⟩:=HE.out.row r hrl
   by_cases hra:r=a
   case pos =>
    have hS:=el_clr_skip hr6 (.inl hra)
    have HT:=am hS
    clear hS hF6
    subst hra
    go_wp2_with fail
    go_roundg (len - r)
    case measure=>omega
    case rel=>exact ⟨r+1,D5,D5,by go_num,⟨by rw [HT.out];exact HE.out⟩⟩
   have hraz:¬ (r:Int)=(a:Int):=by omega
   obtain ⟨ad6,rfl,hbyte6⟩:=F_m hF6 hok6.2 k hbm
   obtain ⟨y,hy⟩:∃ y,y=rr.getD k 0:=⟨_,rfl⟩
   rw [← hy] at hbyte6
   have HY:=am hy
   clear hy
   have hkm:(k:Int) < (m:Int):=by omega
   by_cases hy0:y=0
   case pos =>
    have hS:=el_clr_skip hr6 (.inr (HY.out.symm.trans hy0))
    have HT:=am hS
    clear hS hF6 HY
    subst hy0
    go_wp2_with fail
    go_roundg (len - r)
    case measure=>omega
    case rel=>exact ⟨r+1,D5,D5,by go_num,⟨by rw [HT.out];exact HE.out⟩⟩
   have hyb:Byte y:=by rw [HY.out];exact bytes_getD hok6.1 k
   replace HE:=am (HE.out.below (pd (Below.refl _ _)))
   replace hF6:=Kd.F_drew hF6
   obtain ⟨ry,A7,c7,hr7,hok7,hcell7,hle7,hF7,hfr7⟩:=HE.out.row a hal
   have hS:=el_clr_do hr6 hr7 hra (by rw [← HY.out];exact hy0)
   rw [← HY.out] at hS
   have HT:=am hS
   clear hS
   have hok8:=el_scale hyb hok7
   have hok9:=el_add hok6 hok8
   obtain ⟨kS,hS⟩:=(ImplElim.impl_scaled.ev hyb hok7.1 (by rw [hok7.2];omega)).rounds
   obtain ⟨kA,hA⟩:=(ImplElim.impl_added.ev hok6.1 hok8.1 (by rw [hok6.2,hok8.2]) (by rw [hok6.2];omega)).rounds
   have HSc:=am hS
   have HAd:=am hA
   clear hS hA
   have hb1:((r:Int) != (a:Int))=true:=bne_iff_ne.2 hraz
   have hb2:(y != 0)=true:=bne_iff_ne.2 hy0
   go_wp2_with fail
   refine start_ (n:=15) (S:=fun w'=>w'.cell? ⟨g,a,none⟩=some (.slice A7 m c7)∧w'.cell? ⟨gb,0,none⟩=some (.int .i64 k)∧w'.cell? (ad6.add k)=some (.int .u8 y)) (ds:=[14]) #[Z,Z,Z,Z,Z,Z,Z,Z,Z,Z,Z,Z,Z,Z,Z] D3 rfl rfl ⟨hcell7,hkey,hbyte6⟩ (fun hHeld=>?_)
   generalize wr.drew=wr at HE hHeld hF6 hF7 hcell6 hfr6 hkey hbyte6 hcell7 hfr7 ⊢
   have HF6:=am hF6
   have HF7:=am hF7
   clear hF6 hF7 hcell6 hfr6 hkey hbyte6 hcell7 hfr7
   refine pure_ (i:=0) (N:=some 79) (v:=?_) (a':=?_) #[Y,Z,Z,Z,Z,Z,Z,Z,Z,Z,Z,Z,Z,Z,Z] rfl rfl D3 hh (Or.inl ⟨D11,?_⟩) ?_ ?_
   rotate_left
   ·intro w'
    go_simp
    with_reducible rfl
   rotate_left
   ·simp only [Act.put,q1,q2,q3,i64_w,i32_w]
    rfl
   refine pure_ (i:=1) (N:=some 80) (v:=?_) (a':=?_) #[Y,Y,Z,Z,Z,Z,Z,Z,Z,Z,Z,Z,Z,Z,Z] rfl rfl D3 hh (Or.inl ⟨D11,?_⟩) ?_ ?_
   rotate_left
   ·intro w'
    go_simp
    with_reducible rfl
   rotate_left
   ·simp only [Act.put,q1,q2,q3,i64_w,i32_w]
    rfl
   refine pure_ (i:=2) (N:=some 81) (v:=?_) (a':=?_) #[Y,Y,Y,Z,Z,Z,Z,Z,Z,Z,Z,Z,Z,Z,Z] rfl rfl D3 hh (Or.inl ⟨D11,?_⟩) ?_ ?_
   rotate_left
   ·intro w'
    go_simp
    with_reducible rfl
   rotate_left
   ·simp only [Act.put,q1,q2,q3,i64_w,i32_w]
    rfl
   refine pure_ (i:=3) (N:=some 82) (v:=?_) (a':=?_) #[Y,Y,Y,Y,Z,Z,Z,Z,Z,Z,Z,Z,Z,Z,Z] rfl rfl D3 hh (Or.inl ⟨D11,?_⟩) ?_ ?_
   rotate_left
   ·intro w'
    go_simp
    with_reducible rfl
   rotate_left
   ·simp only [Act.put,q1,q2,q3,i64_w,i32_w]
    rfl
   refine take_ (i:=4) (N:=some 83) (v:=?_) (a':=?_) #[Y,Y,Y,Y,Y,Z,Z,Z,Z,Z,Z,Z,Z,Z,Z] rfl rfl D3 hh (Or.inl ⟨D11,?_⟩) hHeld ?_ ?_
   rotate_left
   ·rintro w' ⟨s0,s1,s2⟩
    go_simp
    with_reducible rfl
   rotate_left
   ·simp only [Act.put,q1,q2,q3,i64_w,i32_w]
    rfl
   refine pure_ (i:=5) (N:=some 84) (v:=?_) (a':=?_) #[Y,Y,Y,Y,Y,Y,Z,Z,Z,Z,Z,Z,Z,Z,Z] rfl rfl D3 hh (Or.inl ⟨D11,?_⟩) ?_ ?_
   rotate_left
   ·intro w'
    go_simp
    with_reducible rfl
   rotate_left
   ·simp only [Act.put,q1,q2,q3,i64_w,i32_w]
    rfl
   refine take_ (i:=6) (N:=some 85) (v:=?_) (a':=?_) #[Y,Y,Y,Y,Y,Y,Y,Z,Z,Z,Z,Z,Z,Z,Z] rfl rfl D3 hh (Or.inl ⟨D11,?_⟩) hHeld ?_ ?_
   rotate_left
   ·rintro w' ⟨s0,s1,s2⟩
    go_simp
    with_reducible rfl
   rotate_left
   ·simp only [Act.put,q1,q2,q3,i64_w,i32_w]
    rfl
   refine pure_ (i:=7) (N:=some 86) (v:=?_) (a':=?_) #[Y,Y,Y,Y,Y,Y,Y,Y,Z,Z,Z,Z,Z,Z,Z] rfl rfl D3 hh (Or.inl ⟨D11,?_⟩) ?_ ?_
   rotate_left
   ·intro w'
    go_simp
    with_reducible rfl
   rotate_left
   ·simp only [Act.put,q1,q2,q3,i64_w,i32_w]
    rfl
   refine pure_ (i:=8) (N:=some 87) (v:=?_) (a':=?_) #[Y,Y,Y,Y,Y,Y,Y,Y,Y,Z,Z,Z,Z,Z,Z] rfl rfl D3 hh (Or.inl ⟨D11,?_⟩) ?_ ?_
   rotate_left
   ·intro w'
    go_simp
    with_reducible rfl
   rotate_left
   ·simp only [Act.put,q1,q2,q3,i64_w,i32_w]
    rfl
   refine pure_ (i:=9) (N:=some 88) (v:=?_) (a':=?_) #[Y,Y,Y,Y,Y,Y,Y,Y,Y,Y,Z,Z,Z,Z,Z] rfl rfl D3 hh (Or.inl ⟨D11,?_⟩) ?_ ?_
   rotate_left
   ·intro w'
    go_simp
    with_reducible rfl
   rotate_left
   ·simp only [Act.put,q1,q2,q3,i64_w,i32_w]
    rfl
   refine take_ (i:=10) (N:=some 89) (v:=?_) (a':=?_) #[Y,Y,Y,Y,Y,Y,Y,Y,Y,Y,Y,Z,Z,Z,Z] rfl rfl D3 hh (Or.inl ⟨D11,?_⟩) hHeld ?_ ?_
   rotate_left
   ·rintro w' ⟨s0,s1,s2⟩
    go_simp
    with_reducible rfl
   rotate_left
   ·simp only [Act.put,q1,q2,q3,i64_w,i32_w]
    rfl
   refine one_ (i:=11) (N:=some 90) #[Y,Y,Y,Y,Y,Y,Y,Y,Y,Y,Y,Y,Z,Z,Z] rfl rfl D3 D4 (fun K hK=>?_)
   refine goes_ Try.func132 D3 rfl #[Value.int .u8 y,Value.slice A7 m c7] D11 rfl rfl D14 ?_
   have hS:=impl_scaled.calls kS y A7 c7 ry (scale y ry) wr (F_C HF7.out hok7.2) (by rw [hok7.2];exact hle7) HSc.out
   rw [hok7.2] at hS
   refine hS.mono ?_
   clear hS
   rintro e w5 ⟨v5,rfl,ho5,hb5⟩
   refine ⟨_,rfl,?_⟩
   obtain ⟨A8,c8,e8⟩:=Kd.R_slice ho5
   rw [scale_length,hok7.2] at e8
   subst e8
   have hle8:m≤c8:=(Kd.R_reads' ho5).2.1
   have HF8:=am (HE.out.fresh ho5)
   replace HE:=am (HE.out.below hb5)
   replace HF6:=am (Kd.F_below HF6.out hb5)
   replace hHeld:=(show _∧_∧_ from ⟨pw_cell_below hb5 hHeld.1,pw_cell_below hb5 hHeld.2.1,pw_cell_below hb5 hHeld.2.2⟩)
   clear ho5 hb5 HF7
   refine hK.out _ _ ⟨hHeld.1,hHeld.2.1,hHeld.2.2⟩ (fun hHeld=>?_)
   clear hK K
   refine norm_ (a':=?_) ?_ ?_
   rotate_left
   ·show Act.put _ (some 90) _=_
    simp only [Act.put,q1,q2,q3,i64_w,i32_w]
    rfl
   refine one_ (i:=12) (N:=some 91) #[Y,Y,Y,Y,Y,Y,Y,Y,Y,Y,Y,Y,Y,Z,Z] rfl rfl D3 D4 (fun K hK=>?_)
   refine goes_ Try.func131 D3 rfl #[Value.slice (some ad6) m c6,Value.slice A8 m c8] D11 rfl rfl D14 ?_
   have hS:=impl_added.calls kA (some ad6) c6 rr A8 c8 (scale y ry) (addV rr (scale y ry)) w5 (F_C HF6.out hok6.2) (by rw [hok6.2];exact hle6) (F_C HF8.out hok8.2) (by rw [hok8.2];exact hle8) HAd.out
   rw [hok6.2,hok8.2] at hS
   refine hS.mono ?_
   clear hS
   rintro e w6 ⟨v6,rfl,ho6,hb6⟩
   refine ⟨_,rfl,?_⟩
   obtain ⟨A9,c9,e9⟩:=Kd.R_slice ho6
   rw [hok9.2] at e9
   subst e9
   have hle9:m≤c9:=(Kd.R_reads' ho6).2.1
   have HF9:=am (HE.out.fresh ho6)
   replace HE:=am (HE.out.below hb6)
   replace hHeld:=(show _∧_∧_ from ⟨pw_cell_below hb6 hHeld.1,pw_cell_below hb6 hHeld.2.1,pw_cell_below hb6 hHeld.2.2⟩)
   clear ho6 hb6 HF6 HF8
   refine hK.out _ _ ⟨hHeld.1,hHeld.2.1,hHeld.2.2⟩ (fun hHeld=>?_)
   clear hK K
   refine norm_ (a':=?_) ?_ ?_
   rotate_left
   ·show Act.put _ (some 91) _=_
    simp only [Act.put,q1,q2,q3,i64_w,i32_w]
    rfl
   refine pure_ (i:=13) (N:=some 92) (v:=?_) (a':=?_) #[Y,Y,Y,Y,Y,Y,Y,Y,Y,Y,Y,Y,Y,Y,Z] rfl rfl D3 hh (Or.inl ⟨D11,?_⟩) ?_ ?_
   rotate_left
   ·intro w'
    go_simp
    with_reducible rfl
   rotate_left
   ·simp only [Act.put,q1,q2,q3,i64_w,i32_w]
    rfl
   obtain ⟨_,_,_,_,_,hcell3,_,_,hfr3⟩:=HE.out.row r hrl
   refine last_ (i:=14) (N:=none) #[Y,Y,Y,Y,Y,Y,Y,Y,Y,Y,Y,Y,Y,Y,Y] rfl rfl D3 D4 (fun K hK=>?_)
   refine skip_ (w1:=?_) D11 rfl ?_ ?_
   rotate_left
   ·go_simp
    rfl
   refine hK.out _ _ ?_
   clear hK K
   refine done_ D3 ?_
   have hE1:=HE.out.put r hrl hok9 hle9 HF9.out
   clear HE HF9 hcell3 hfr3 hHeld
   generalize w6.setCell ⟨g,r,none⟩ (.slice A9 m c9)=wr at hE1 ⊢
   rw [← HT.out] at hE1
   have HE:=am hE1
   clear hE1
   go_wp2_with fail
   go_roundg (len - r)
   case measure=>omega
   case rel=>exact ⟨r+1,D5,D5,by go_num,HE⟩
end
end
section
theorem cl_info:(Try.prog.info? 57).map (fun i=>(i.zero,i.size,i.bytes))=some (some (.slice none 0 0),1,24):=by kernel_rfl
theorem rows_Clone (A0:Option Addr) (c0:Nat) (l0:List (List Int)) (w:World) (hr0:Kd.C (Kd.slice 5 (Kd.int .u8)) w A0 l0.length l0) (hc0:l0.length≤c0) (hne:0 < l0.length) (hl:l0.length < 5864062014805) :
  Calls Try.prog 158 #[.slice A0 l0.length c0] w fun e w'=>∃ v0_:Value,e = .returned (v0_)∧Kd.N (Kd.slice 5 (Kd.int .u8)) 57 w' w.heap.size (fun _=>True) v0_ l0∧Below w.heap.size w w':=by
 have HF:=am (Kd.C_F (Kd.heap_slice 5 (Kd.heap_int .u8)) hr0)
 have HB:=am (Below.refl w.heap.size w)
 have keq:=fun (W:World) (a:Option Addr) (n c:Nat)=>Lib.run_eql_slice_nil (P:=Try.prog) W 37 57 a n c 0 0 Try.underlying37
 obtain ⟨ad0,rfl,_⟩:=hr0.2.2 hne
 clear hr0
 go_enter Try.func158,Try.ntmps158
 go_wp2_with (first|((with_reducible refine gD 5 ?_);refine Kd.N_lit (Kd.slice 5 (Kd.int .u8)) _ 57 D11 (N':=5) D11 (xs:=([]:List (List Int))) (inner:=[]) (ok:=fun _=>True) (okp:=fun _=>True) D16 D25 (fun _ hk=>hk) trivial (Below.refl _ _) (Nat.le_refl _) D36 ?_;intro v182 w3 ho4 hb hg_ hnew_;clear hg_ hnew_;have HO:=am ho4;have HF3:=am (Kd.F_below HF.out hb);clear HB;have HB:=am hb;clear hb ho4)|((with_reducible refine gate_builtin (b:=.append) (xs:=#[.tmp 5, .tmp 6]) rfl ?_);at_builtin;refine Kd.N_append_rows (Kd.slice 5 (Kd.int .u8)) (w0:=w) w.heap.size rfl (.tmp 5) (.tmp 6) 37 57 (.slice none 0 0) 24 rfl Try.underlying37 cl_info rfl D4 D5 v182 ([]:List (List Int)) l0 _ _ _ (fun _=>True) (fun k=>k < w.heap.size) rfl rfl HO.out HF3.out (fun k hk=>⟨trivial,fun e=>by have:=Kd.N_base HO.out k e.symm;omega⟩) (fun _ _=>trivial) HB.out HB.out.size (by simp;omega) ?_;intro v185 w5 ho hb hg hat;rw [List.nil_append] at ho;clear HB HO;have HB:=am hb;have HO:=am ho;clear ho hb hg hat))
 go_ret
 exact ⟨_,rfl,HO.out,HB.out⟩
section
open Go.Proofs.Ytajikfnpcobnpaa.Gf Go.Proofs.Ytajikfnpcobnpaa.Kit Go.Proofs.Ytajikfnpcobnpaa.KitW Go.Proofs.Ytajikfnpcobnpaa.KitN
def impl_rankOf.f (l0:List (List Int)):Option Int:=if l0.length=0 then some 0 else if sqM l0=true then some ((rowI.red l0 (l0.getD 0 []).length).2:Nat) else none
theorem impl_rankOf.calls (A0:Option Addr) (c0:Nat) (l0:List (List Int)) (r:Int) (w:World) (hr0:Kd.C (Kd.slice 5 (Kd.int .u8)) w A0 l0.length l0) (hc0:l0.length≤c0) (h:impl_rankOf.f l0=some r) :
  Calls Try.prog 106 #[.slice A0 l0.length c0] w fun e w'=>e = .returned (.int .i64 r)∧Below w.heap.size w w':=by
 unfold impl_rankOf.f at h
 by_cases h0:l0.length=0
 case pos =>
  rw [if_pos h0] at h
  obtain rfl:=Option.some.inj h
  rw [h0]
  clear hr0 h h0
  go_enter Try.func106,Try.ntmps106
  go_wp2
  go_ret
  exact ⟨rfl,Below.refl _ _⟩
 rw [if_neg h0] at h
 by_cases hs:sqM l0=true
 case neg=>rw [if_neg hs] at h;cases h
 rw [if_pos hs] at h
 obtain rfl:=Option.some.inj h
 clear h
 obtain ⟨hs1,hs2,hs3⟩:=sqM_iff.1 hs
 clear hs
 obtain ⟨ad,A1,c1,rfl,hcell,_,_⟩:=C_row hr0 0 D5
 rw [Addr.add_zero'] at hcell
 obtain ⟨m,hm⟩:∃ m,m=(l0.getD 0 []).length:=⟨_,rfl⟩
 rw [← hm] at hcell hs2 hs3 ⊢
 obtain ⟨n,hn⟩:∃ n,n=l0.length:=⟨_,rfl⟩
 have hcl:=rows_Clone (some ad) c0 l0 w.drew (Kd.C_drew hr0) hc0 D5 D5
 rw [← hn] at hcl h0 hs1 hc0 ⊢
 have HC:=am hcl
 have HS:=am hs3
 have HN:=am hn
 clear hcl hs3 hn hm hr0
 have h0z:((n:Int) == 0)=false:=by simpa using (show ¬ (n:Int)=0 by omega)
 have h0p:(0:Nat) < n:=by omega
 go_enter Try.func106,Try.ntmps106
 go_wp2_with fail
 refine rS0 (n:=8) (S:=fun w'=>w'.cell? ad=some (.slice A1 m c1)) (ds:=[]) [(0,6),(2,8),(3,9),(4,10),(5,11),(1,0),(6,0),(7,2)] D3 rfl hcell (fun hHeld HT_ HW_=>?_)
 refine rR ?_
 refine rO (N:=some 7) HT_ rfl rfl D3 D4 (fun K hK=>?_)
 refine goes_ Try.func158 D3 rfl #[Value.slice (some ad) n c0] D11 rfl rfl D14 ?_
 refine HC.out.mono ?_
 rintro e w1 ⟨v1,rfl,ho,hb⟩
 refine ⟨_,rfl,?_⟩
 have HO:=am ho
 have HB:=am (pu (pd (Below.refl w.heap.size w)) hb)
 have hB1:=hb
 replace hHeld:=pw_cell_below hb hHeld
 clear hb ho
 obtain ⟨g,cap,eg,_⟩:=Kd.N_form HO.out D62
 rw [← HN.out] at eg
 subst eg
 refine hK.out _ _ hHeld (fun hHeld=>?_)
 clear hK K
 refine rN (a':=?_) ?_ ?_
 rotate_left
 ·show Act.put _ (some 7) _=_
  simp only [Act.put,q1,q2,q3,i64_w,i32_w]
  rfl
 refine rO (N:=some 12) HT_ rfl rfl D3 D4 (fun K hK=>?_)
 refine goes_ Try.func184 D3 rfl #[Value.slice (some ⟨g,0,none⟩) n cap,Value.int .i64 m] D11 rfl rfl D14 ?_
 refine (impl_eliminate.calls l0 m m HS.out (Nat.le_refl _) D5 D62 g cap n HN.out.symm w.drew w1 hB1 HO.out).mono ?_
 rintro e w2 ⟨rfl,_,hb⟩
 refine ⟨_,rfl,?_⟩
 clear HB
 have HB:=am (below_then (pd (Below.refl w.heap.size w)) (Nat.le_refl _) hb)
 clear hb
 refine hK.out _ _ (pw_cell_below HB.out hcell) (fun hHeld=>?_)
 clear hK K
 refine rN (a':=?_) ?_ ?_
 rotate_left
 ·show Act.put _ (some 12) _=_
  simp only [Act.put,q1,q2,q3,i64_w,i32_w]
  rfl
 refine rR ?_
 refine rD HT_ D3 ?_
 go_wp2_with fail
 go_ret
 exact ⟨rfl,HB.out⟩
end

def impl_within.f (a0:Int) (a1:Int) (a2:Int):Option (Bool):=if a0 ≥ a1 then (some (decide (a0≤a2))) else (some false)
theorem impl_within.calls (a0:Int) (a1:Int) (a2:Int) (r:Bool) (w:World) (h:impl_within.f a0 a1 a2=some r) :
  Calls Try.prog 137 #[.int .i64 a0, .int .i64 a1, .int .i64 a2] w fun e w'=>e = .returned (.bool r)∧Drawn0 w w':=by
 have H:=h
 unfold impl_within.f at H
 clear h
 by_cases c4:a0 ≥ a1
 ·rw [if_pos c4] at H
  have c4b0:decide (a1≤a0)=true:=decide_eq_true c4
  clear c4
  obtain rfl:=Option.some.inj H
  go_enter Try.func137,Try.ntmps137
  go_wp2
  go_ret
  exact ⟨D2,D6⟩
 rw [if_neg c4] at H
 have c4b0:decide (a1≤a0)=false:=decide_eq_false c4
 clear c4
 obtain rfl:=Option.some.inj H
 go_enter Try.func137,Try.ntmps137
 go_wp2
 go_ret
 exact ⟨D2,D6⟩

def impl_GoodLocal.f (a0_0:Int) (a0_1:Int) (a0_2:Int):Option (Bool):=(impl_within.f a0_0 1 4).bind fun t335=>(if t335=true then ((impl_within.f a0_1 1 4).bind fun t336=>(if t336=true then (if (wrap64 (a0_0*a0_1))≤8 then ((impl_within.f a0_2 1 4).bind fun t337=>(some t337)) else (some false)) else (some false))) else (some false))
theorem impl_GoodLocal.calls (a0_0:Int) (a0_1:Int) (a0_2:Int) (r:Bool) (w:World) (h:impl_GoodLocal.f a0_0 a0_1 a0_2=some r) :
  Calls Try.prog 112 #[.agg #[.int .i64 a0_0, .int .i64 a0_1, .int .i64 a0_2]] w fun e w'=>e = .returned (.bool r)∧Below w.heap.size w w':=by
 have hu51:=Try.underlying51
 have HB:=am (Below.refl w.heap.size w)
 have H:=h
 unfold impl_GoodLocal.f at H
 clear h
 obtain ⟨t335,A2,H⟩:=yo H
 by_cases c3:t335=true
 ·subst c3
  replace H:=yt H
  obtain ⟨t336,A4,H⟩:=yo H
  by_cases c5:t336=true
  ·subst c5
   replace H:=yt H
   by_cases c6:(wrap64 (a0_0*a0_1))≤8
   ·rw [if_pos c6] at H
    have c6b0:=decide_eq_true c6
    clear c6
    obtain ⟨t337,A7,H⟩:=yo H
    obtain rfl:=Option.some.inj H
    go_enter Try.func112,Try.ntmps112
    go_wp2_with (first|((with_reducible refine gD 1 ?_);refine gB (cs:=#[.int .i64 a0_0, .int .i64 a0_1, .int .i64 a0_2]) 51 ?_;intro gb334 hg w8 hbox hb;have BK334:=am (hbox);have GW334:=ye HB hg;replace HB:=yH HB hb;have GE334:=GW334;clear hb hbox hg;obtain ⟨hcz9_0,hcz9_1,hcz9_2,hfz9_0,hfz9_1,hfz9_2⟩:=yk3 BK334)|((with_reducible refine gC 137 ?_);refine gM (some 5) Try.func137 (args:=#[.int .i64 a0_0, .int .i64 1, .int .i64 4]) (impl_within.calls a0_0 1 4 true _ A2.out) ?_;rintro e w' ⟨rfl,⟨nd,rfl⟩⟩;refine ⟨_,rfl,?_⟩)|(go_at_call 137;(with_reducible refine (impl_within.calls a0_1 1 4 true _ A4.out).mono ?_);rintro e w' ⟨rfl,⟨nd,rfl⟩⟩)|(go_at_call 137;(with_reducible refine (impl_within.calls a0_2 1 4 t337 _ A7.out).mono ?_);rintro e w' ⟨rfl,⟨nd,rfl⟩⟩))
    go_ret
    exact ⟨D1,yW HB⟩
   rw [if_neg c6] at H
   have c6b0:=decide_eq_false c6
   clear c6
   obtain rfl:=Option.some.inj H
   go_enter Try.func112,Try.ntmps112
   go_wp2_with (first|((with_reducible refine gD 1 ?_);refine gB (cs:=#[.int .i64 a0_0, .int .i64 a0_1, .int .i64 a0_2]) 51 ?_;intro gb334 hg w10 hbox hb;have BK334:=am (hbox);have GW334:=ye HB hg;replace HB:=yH HB hb;have GE334:=GW334;clear hb hbox hg;obtain ⟨hcz11_0,hcz11_1,hcz11_2,hfz11_0,hfz11_1,hfz11_2⟩:=yk3 BK334)|((with_reducible refine gC 137 ?_);refine gM (some 5) Try.func137 (args:=#[.int .i64 a0_0, .int .i64 1, .int .i64 4]) (impl_within.calls a0_0 1 4 true _ A2.out) ?_;rintro e w' ⟨rfl,⟨nd,rfl⟩⟩;refine ⟨_,rfl,?_⟩)|(go_at_call 137;(with_reducible refine (impl_within.calls a0_1 1 4 true _ A4.out).mono ?_);rintro e w' ⟨rfl,⟨nd,rfl⟩⟩))
   go_ret
   exact ⟨D1,yW HB⟩
  replace c5:=Bool.eq_false_iff.mpr c5
  subst c5
  replace H:=yn H
  obtain rfl:=Option.some.inj H
  go_enter Try.func112,Try.ntmps112
  go_wp2_with (first|((with_reducible refine gD 1 ?_);refine gB (cs:=#[.int .i64 a0_0, .int .i64 a0_1, .int .i64 a0_2]) 51 ?_;intro gb334 hg w12 hbox hb;have BK334:=am (hbox);have GW334:=ye HB hg;replace HB:=yH HB hb;have GE334:=GW334;clear hb hbox hg;obtain ⟨hcz13_0,hcz13_1,hcz13_2,hfz13_0,hfz13_1,hfz13_2⟩:=yk3 BK334)|((with_reducible refine gC 137 ?_);refine gM (some 5) Try.func137 (args:=#[.int .i64 a0_0, .int .i64 1, .int .i64 4]) (impl_within.calls a0_0 1 4 true _ A2.out) ?_;rintro e w' ⟨rfl,⟨nd,rfl⟩⟩;refine ⟨_,rfl,?_⟩)|(go_at_call 137;(with_reducible refine (impl_within.calls a0_1 1 4 false _ A4.out).mono ?_);rintro e w' ⟨rfl,⟨nd,rfl⟩⟩))
  go_ret
  exact ⟨D1,yW HB⟩
 replace c3:=Bool.eq_false_iff.mpr c3
 subst c3
 replace H:=yn H
 obtain rfl:=Option.some.inj H
 go_enter Try.func112,Try.ntmps112
 go_wp2_with (first|((with_reducible refine gD 1 ?_);refine gB (cs:=#[.int .i64 a0_0, .int .i64 a0_1, .int .i64 a0_2]) 51 ?_;intro gb334 hg w14 hbox hb;have BK334:=am (hbox);have GW334:=ye HB hg;replace HB:=yH HB hb;have GE334:=GW334;clear hb hbox hg;obtain ⟨hcz15_0,hcz15_1,hcz15_2,hfz15_0,hfz15_1,hfz15_2⟩:=yk3 BK334)|((with_reducible refine gC 137 ?_);refine gM (some 5) Try.func137 (args:=#[.int .i64 a0_0, .int .i64 1, .int .i64 4]) (impl_within.calls a0_0 1 4 false _ A2.out) ?_;rintro e w' ⟨rfl,⟨nd,rfl⟩⟩;refine ⟨_,rfl,?_⟩))
 go_ret
 exact ⟨D1,yW HB⟩

def impl_Local_all.f (a0_0:Int) (a0_1:Int) (a0_2:Int):Option (Int):=(impl_Local_data.f a0_0 a0_1 a0_2).bind fun t339=>(some (wrap64 ((wrap64 (t339+a0_0))+a0_2)))
def impl_Local_all.T1:Bool × List (List Nat × List Nat):=(true,[([],[]),([0],[0]),([],[]),([2],[2]),([1,3],[1,3]),([],[]),([5],[5]),([4,6],[4,6]),([7,1,0,1,2,3,4,5,6,7],[7])])
def impl_Local_all.B1:List Nat:=[0,1,0,4,15,0,32,127,255]
theorem impl_Local_all.tab1:rtab .any (opsOf Try.f113 1)=impl_Local_all.T1:=by kernel_rfl
theorem impl_Local_all.bits1:waitsOk impl_Local_all.T1.2 impl_Local_all.B1=true:=by kernel_rfl
theorem impl_Local_all.calls (a0_0:Int) (a0_1:Int) (a0_2:Int) (r:Int) (w:World) (h:impl_Local_all.f a0_0 a0_1 a0_2=some r) :
  Calls Try.prog 113 #[.agg #[.int .i64 a0_0, .int .i64 a0_1, .int .i64 a0_2]] w fun e w'=>e = .returned (.int .i64 r)∧Below w.heap.size w w':=by
 have hu51:=Try.underlying51
 have HB:=am (Below.refl w.heap.size w)
 have H:=h
 unfold impl_Local_all.f at H
 clear h
 obtain ⟨t339,A2,H⟩:=yo H
 obtain rfl:=Option.some.inj H
 go_enter Try.func113,Try.ntmps113
 try go_wp2_with (first|((with_reducible refine gD 1 ?_);refine gB (cs:=#[.int .i64 a0_0, .int .i64 a0_1, .int .i64 a0_2]) 51 ?_;intro gb338 hg w3 hbox hb;have BK338:=am (hbox);have GW338:=ye HB hg;replace HB:=yH HB hb;have GE338:=GW338;clear hb hbox hg))
 replace BK338:=am (qd BK338.out)
 replace HB:=am (pd HB.out)
 refine rS (n:=9) (S:=fun w'=>w'.cell? ⟨gb338,0,none⟩=some (.int .i64 a0_0)∧w'.cell? ⟨gb338,1,none⟩=some (.int .i64 a0_1)∧w'.cell? ⟨gb338,2,none⟩=some (.int .i64 a0_2)) (ds:=[]) [(2,5),(5,8),(0,3),(3,6),(6,9),(1,0),(4,7),(7,10),(8,2)] D3 rfl impl_Local_all.tab1 impl_Local_all.bits1 ⟨yk BK338 0,yk BK338 1,yk BK338 2⟩ (fun hHeld HT_ HW_=>?_)
 generalize w3.drew=w4 at BK338 HB hHeld ⊢
 refine rR ?_
 refine rO (N:=some 4) HT_ rfl rfl D3 D4 (fun K hK=>?_)
 refine goes_ Try.func115 D3 rfl #[.agg #[.int .i64 a0_0, .int .i64 a0_1, .int .i64 a0_2]] D11 rfl rfl D8 ?_
 with_reducible refine (impl_Local_data.calls a0_0 a0_1 a0_2 t339 _ A2.out).mono ?_
 rintro e w5 ⟨rfl,hb⟩
 refine ⟨_,rfl,?_⟩
 replace BK338:=yb BK338 hb
 replace HB:=yH HB hb
 (try clear hb)
 (try clear hb2)
 (try clear hk)
 (try clear hi)
 refine hK.out _ _ ⟨yk BK338 0,yk BK338 1,yk BK338 2⟩ (fun hHeld=>?_)
 clear hK K
 refine rN (a':=?_) ?_ ?_
 rotate_left
 ·show Act.put _ (some 4) _=_
  simp only [Act.put,q1,q2,q3,i64_w,i32_w]
  rfl
 refine rR ?_
 refine rD HT_ D3 ?_
 try go_wp2
 go_ret
 exact ⟨D1,yW HB⟩

section
open Go.Proofs.Ytajikfnpcobnpaa.KitX
theorem info_rowL:(Try.prog.info? 57).map (fun i=>(i.zero,i.size,i.bytes))=some (some (.slice none 0 0),1,24):=by kernel_rfl
def impl_grpRows.E (e:Int) (k:Nat) (i j:Int):Option Int:=if (1≤e∧e≤1000000)∧0≤j∧j≤1000000 then some (if j / e=i then 1 else 0) else none
theorem impl_grpRows.mono_E (e:Int):∀ i j k,LeO (impl_grpRows.E e k i j) (impl_grpRows.E e (k+1) i j):=fun i j k=>LeO.refl _
def impl_grpRows.f (e:Int) (k:Nat) (a0:Int) (a1:Int):Option ((List (List Int))):=impl_filled.f (impl_grpRows.E e) k a0 a1
theorem impl_grpRows.mono (e:Int):∀ a0 a1 k,LeO (impl_grpRows.f e k a0 a1) (impl_grpRows.f e (k+1) a0 a1):=fun a0 a1 k=>impl_filled.mono _ (impl_grpRows.mono_E e) a0 a1 k
set_option maxHeartbeats 4000000 in
theorem impl_grpRows.elem (gb:Nat) (g e m:Int) (k:Nat) (i j t:Int) (W:World) (hbox:W.heap[gb]? = some (.cells #[.int .i64 g, .int .i64 e, .int .i64 m] 51 (0,0))) (h:impl_grpRows.E e k i j=some t) :
  Calls Try.prog 187 #[.int .i64 i, .int .i64 j, .pointer (some ⟨gb,0,none⟩)] W fun e w'=>e = .returned (.int .u8 t)∧Drawn0 W w':=by
 have hc:W.cell? ⟨gb,1,none⟩=some (.int .i64 e):=(blk_cell hbox 1).trans rfl
 clear hbox
 unfold impl_grpRows.E at h
 by_cases hj:(1≤e∧e≤1000000)∧0≤j∧j≤1000000
 ·rw [if_pos hj] at h
  obtain rfl:=Option.some.inj h
  clear h
  obtain ⟨⟨h1,h2⟩,h3,h4⟩:=hj
  have hz:(e == 0)=false:=by simpa using (show ¬ e=0 by omega)
  have hm1:(e == -1)=false:=by simpa using (show ¬ e = -1 by omega)
  have hq:(j / e == i)=decide (j / e=i):=rfl
  by_cases c:j / e=i
  ·have hq1:decide (j / e=i)=true:=decide_eq_true c
   rw [if_pos c]
   clear c
   go_enter Try.func187,Try.ntmps187
   go_wp2
   go_ret
   exact ⟨rfl,Drawn0.refl _⟩
  have hq1:decide (j / e=i)=false:=decide_eq_false c
  rw [if_neg c]
  clear c
  go_enter Try.func187,Try.ntmps187
  go_wp2
  go_ret
  exact ⟨rfl,Drawn0.refl _⟩
 rw [if_neg hj] at h
 cases h
theorem impl_grpRows.calls (gb:Nat) (g e m:Int) (k:Nat) (a0:Int) (a1:Int) (r:List (List Int)) (w:World) (hbox:w.heap[gb]? = some (.cells #[.int .i64 g, .int .i64 e, .int .i64 m] 51 (0,0))) (h:impl_grpRows.f e k a0 a1=some r) :
  Calls Try.prog 178 #[.int .i64 a0, .int .i64 a1, .func (.func 187) #[] #[.pointer (some ⟨gb,0,none⟩)]] w fun e w'=>∃ v0_:Value,e = .returned (v0_)∧Kd.S (Kd.slice 5 (Kd.int .u8)) 57 w' w.heap.size (fun _=>True) v0_ r∧Below w.heap.size w w' :=
 impl_filled.calls (impl_grpRows.E e) 187 (enters_of Try.func187 rfl rfl) #[.pointer (some ⟨gb,0,none⟩)] k a0 a1 r w (fun k i j t W hB hE=>impl_grpRows.elem gb g e m k i j t W (qb hbox hB) hE) h
def impl_localRows.f (k:Nat) (a0_0:Int) (a0_1:Int) (a0_2:Int):Option ((List (List Int))):=(impl_Local_data.f a0_0 a0_1 a0_2).bind fun n=>((impl_identity.f k n).bind fun x=>((impl_grpRows.f a0_1 k a0_0 n).bind fun y=>(if x.length+y.length < 5864062014805 then ((impl_cauchy.f k a0_2 n).bind fun z=>(if (x ++ y).length+z.length < 5864062014805 then (some (x ++ y ++ z)) else (none))) else (none))))
theorem impl_localRows.mono:∀ a0 a1 a2 k,LeO (impl_localRows.f k a0 a1 a2) (impl_localRows.f (k+1) a0 a1 a2):=fun a0 a1 a2 k=>by
 unfold impl_localRows.f
 exact LeO.bind (LeO.refl _) (fun _=>LeO.bind (impl_identity.mono _ _) (fun _=>LeO.bind (impl_grpRows.mono _ _ _ _) (fun _=>LeO.ite (LeO.bind (impl_cauchy.mono _ _ _) (fun _=>LeO.refl _)) (LeO.refl _))))
theorem impl_localRows.calls (k:Nat) (a0_0:Int) (a0_1:Int) (a0_2:Int) (r:List (List Int)) (w:World) (h:impl_localRows.f k a0_0 a0_1 a0_2=some r) :
  Calls Try.prog 114 #[.agg #[.int .i64 a0_0, .int .i64 a0_1, .int .i64 a0_2]] w fun e w'=>∃ v0_:Value,e = .returned (v0_)∧Kd.S (Kd.slice 5 (Kd.int .u8)) 57 w' w.heap.size (fun _=>True) v0_ r∧Below w.heap.size w w':=by
 unfold impl_localRows.f at h
 replace h:=Option.bind_eq_some_iff.mp h
 obtain ⟨n,hn,h⟩:=h
 replace h:=Option.bind_eq_some_iff.mp h
 obtain ⟨x,hx,h⟩:=h
 replace h:=Option.bind_eq_some_iff.mp h
 obtain ⟨y,hy,h⟩:=h
 by_cases hl:x.length+y.length < 5864062014805
 case neg=>rw [if_neg hl] at h;cases h
 rw [if_pos hl] at h
 replace h:=Option.bind_eq_some_iff.mp h
 obtain ⟨z,hz,h⟩:=h
 by_cases hl2:(x ++ y).length+z.length < 5864062014805
 case neg=>rw [if_neg hl2] at h;cases h
 rw [if_pos hl2] at h
 obtain rfl:=Option.some.inj h
 clear h
 obtain ⟨q,hq⟩:∃ q,q=x ++ y:=⟨_,rfl⟩
 rw [← hq] at hl2 ⊢
 have HQ:=am hq
 clear hq
 have HN:=am hn
 have HX:=am hx
 have HY:=am hy
 have HZ:=am hz
 have HL:=am hl
 have HL2:=am hl2
 clear hn hx hy hz hl hl2
 have hu:=Try.underlying51
 go_enter Try.func114,Try.ntmps114
 go_wp2_with fail
 obtain ⟨W,hW⟩:∃ W:World,W=w.alloc (.cells #[.int .i64 a0_0, .int .i64 a0_1, .int .i64 a0_2] 51 (0,0)):=⟨_,rfl⟩
 rw [← hW]
 have HB:=am (show Below w.heap.size w W by rw [hW];exact pa (Below.refl _ _) _)
 have BK:=am (show W.heap[w.heap.size]? = some (.cells #[.int .i64 a0_0, .int .i64 a0_1, .int .i64 a0_2] 51 (0,0)) by rw [hW];exact heap_alloc_new w _)
 clear hW
 refine (impl_Local_data.calls a0_0 a0_1 a0_2 n _ HN.out).mono ?_
 rintro e w1 ⟨rfl,hb⟩
 replace BK:=am (qb BK.out hb)
 replace HB:=am (pu HB.out hb)
 clear hb
 go_wp2_with fail
 refine (impl_identity.calls k n x _ HX.out).mono ?_
 rintro e w2 ⟨v1,rfl,ho1,hb⟩
 have H1:=am (Kd.S_lower (Kd.S_mono (Kd.S_bound ho1) (ok':=fun k=>w.heap.size≤k∧k < w2.heap.size) (fun k hk=>⟨Nat.le_trans HB.out.size hk.2.1,hk.2.2.1⟩)) HB.out.size)
 replace BK:=am (qb BK.out hb)
 replace HB:=am (pu HB.out hb)
 clear hb ho1
 obtain ⟨A1,c1,rfl⟩:=Kd.S_slice H1.out
 go_wp2_with fail
 replace BK:=am (qd BK.out)
 replace HB:=am (pd HB.out)
 replace H1:=am (Kd.S_drew H1.out)
 refine rS0 (n:=9) (S:=fun w'=>w'.cell? ⟨w.heap.size,0,none⟩=some (.int .i64 a0_0)∧w'.cell? ⟨w.heap.size,1,none⟩=some (.int .i64 a0_1)∧w'.cell? ⟨w.heap.size,2,none⟩=some (.int .i64 a0_2)) (ds:=[]) [(0,7),(1,8),(2,9),(3,10),(5,12),(4,0),(6,0),(7,0),(8,3)] D3 rfl ⟨(blk_cell BK.out 0).trans rfl,(blk_cell BK.out 1).trans rfl,(blk_cell BK.out 2).trans rfl⟩ (fun hHeld HT_ HW_=>?_)
 generalize w2.drew=w3 at BK HB H1 hHeld ⊢
 refine rR ?_
 refine rO (N:=some 11) HT_ rfl rfl D3 D4 (fun K hK=>?_)
 refine goes_ Try.func115 D3 rfl #[.agg #[.int .i64 a0_0, .int .i64 a0_1, .int .i64 a0_2]] D11 rfl rfl D8 ?_
 refine (impl_Local_data.calls a0_0 a0_1 a0_2 n _ HN.out).mono ?_
 rintro e w4 ⟨rfl,hb⟩
 refine ⟨_,rfl,?_⟩
 replace BK:=am (qb BK.out hb)
 replace HB:=am (pu HB.out hb)
 replace H1:=am (Kd.S_below H1.out hb)
 clear hb
 refine hK.out _ _ ⟨(blk_cell BK.out 0).trans rfl,(blk_cell BK.out 1).trans rfl,(blk_cell BK.out 2).trans rfl⟩ (fun hHeld=>?_)
 clear hK K
 refine rN (a':=?_) ?_ ?_
 rotate_left
 ·show Act.put _ (some 11) _=_
  simp only [Act.put,q1,q2,q3,i64_w,i32_w]
  rfl
 refine rO (N:=some 13) HT_ rfl rfl D3 D4 (fun K hK=>?_)
 refine goes_ Try.func178 D3 rfl #[.int .i64 a0_0, .int .i64 n, .func (.func 187) #[] #[.pointer (some ⟨w.heap.size,0,none⟩)]] D11 rfl rfl D8 ?_
 refine (impl_grpRows.calls w.heap.size a0_0 a0_1 a0_2 k a0_0 n y _ BK.out HY.out).mono ?_
 rintro e w5 ⟨v2,rfl,ho2,hb⟩
 refine ⟨_,rfl,?_⟩
 obtain ⟨A2,c2,rfl⟩:=Kd.S_slice ho2
 have H2:=am (Kd.S_lower (Kd.S_mono (Kd.S_bound ho2) (ok':=fun k=>w4.heap.size≤k∧k < w5.heap.size) (fun k hk=>⟨hk.2.1,hk.2.2.1⟩)) HB.out.size)
 have HW4:=am HB.out.size
 have HLT:=am (Kd.S_lt H1.out)
 replace H1:=am (Kd.S_mono (Kd.S_below (Kd.S_bound H1.out) hb) (ok':=fun k=>(w.heap.size≤k)∧¬ (w4.heap.size≤k∧k < w5.heap.size)) (fun k hk=>⟨hk.2.1,fun h=>by have:=hk.2.2.1;omega⟩))
 replace BK:=am (qb BK.out hb)
 replace HB:=am (pu HB.out hb)
 clear hb ho2
 refine hK.out _ _ ⟨(blk_cell BK.out 0).trans rfl,(blk_cell BK.out 1).trans rfl,(blk_cell BK.out 2).trans rfl⟩ (fun hHeld=>?_)
 clear hK K
 refine rN (a':=?_) ?_ ?_
 rotate_left
 ·show Act.put _ (some 13) _=_
  simp only [Act.put,q1,q2,q3,i64_w,i32_w]
  rfl
 refine rO (N:=some 14) HT_ rfl rfl D3 D4 (fun K hK=>?_)
 refine S_append_rows_step (Kd.slice 5 (Kd.int .u8)) (w0:=w) w.heap.size D11 (.tmp 7) (.tmp 13) 37 57 (.slice none 0 0) 24 rfl Try.underlying37 info_rowL rfl D4 D5 (.slice A1 x.length c1) x y A2 y.length c2 (fun k=>w.heap.size≤k) (fun k=>w4.heap.size≤k∧k < w5.heap.size) D11 D11 H1.out H2.out (fun k hk=>⟨Nat.le_trans HW4.out hk.1,fun he=>by have:=HLT.out k he.symm;have:=hk.1;omega⟩) (fun k hk=>Nat.le_trans HB.out.size hk) HB.out HB.out.size (by have:=HL.out;omega) ?_
 intro v3 w6 ho3 hb3 hg hat
 rw [← HQ.out] at ho3
 have hne:some w.heap.size ≠ (Value.slice A1 x.length c1).ownBlock:=Kd.S_ne H1.out BK.out D4
 replace BK:=am (blk_grown BK.out hg hne)
 replace HB:=am hb3
 replace H1:=am (Kd.S_mono (Kd.S_bound ho3) (ok':=fun k=>w.heap.size≤k∧k < w6.heap.size) (fun k hk=>⟨hk.1,hk.2.2.1⟩))
 clear H2 ho3 hb3 hg hat hne HLT HW4
 obtain ⟨A1,c1,rfl⟩:=Kd.S_slice H1.out
 refine hK.out _ _ ⟨(blk_cell BK.out 0).trans rfl,(blk_cell BK.out 1).trans rfl,(blk_cell BK.out 2).trans rfl⟩ (fun hHeld=>?_)
 clear hK K
 refine rN (a':=?_) ?_ ?_
 rotate_left
 ·show Act.put _ (some 14) _=_
  simp only [Act.put,q1,q2,q3,i64_w,i32_w]
  rfl
 refine rR ?_
 refine rD HT_ D3 ?_
 go_wp2_with fail
 replace BK:=am (qd BK.out)
 replace HB:=am (pd HB.out)
 replace H1:=am (Kd.S_drew H1.out)
 refine rS0 (n:=8) (S:=fun w'=>w'.cell? ⟨w.heap.size,0,none⟩=some (.int .i64 a0_0)∧w'.cell? ⟨w.heap.size,1,none⟩=some (.int .i64 a0_1)∧w'.cell? ⟨w.heap.size,2,none⟩=some (.int .i64 a0_2)) (ds:=[]) [(0,15),(1,16),(2,17),(3,18),(4,0),(5,0),(6,0),(7,2)] D3 rfl ⟨(blk_cell BK.out 0).trans rfl,(blk_cell BK.out 1).trans rfl,(blk_cell BK.out 2).trans rfl⟩ (fun hHeld HT_ HW_=>?_)
 generalize w6.drew=w7 at BK HB H1 hHeld ⊢
 refine rR ?_
 refine rO (N:=some 19) HT_ rfl rfl D3 D4 (fun K hK=>?_)
 refine goes_ Try.func115 D3 rfl #[.agg #[.int .i64 a0_0, .int .i64 a0_1, .int .i64 a0_2]] D11 rfl rfl D8 ?_
 refine (impl_Local_data.calls a0_0 a0_1 a0_2 n _ HN.out).mono ?_
 rintro e w8 ⟨rfl,hb⟩
 refine ⟨_,rfl,?_⟩
 replace BK:=am (qb BK.out hb)
 replace HB:=am (pu HB.out hb)
 replace H1:=am (Kd.S_below H1.out hb)
 clear hb
 refine hK.out _ _ ⟨(blk_cell BK.out 0).trans rfl,(blk_cell BK.out 1).trans rfl,(blk_cell BK.out 2).trans rfl⟩ (fun hHeld=>?_)
 clear hK K
 refine rN (a':=?_) ?_ ?_
 rotate_left
 ·show Act.put _ (some 19) _=_
  simp only [Act.put,q1,q2,q3,i64_w,i32_w]
  rfl
 refine rO (N:=some 20) HT_ rfl rfl D3 D4 (fun K hK=>?_)
 refine goes_ Try.func188 D3 rfl #[.int .i64 a0_2, .int .i64 n] D11 rfl rfl D8 ?_
 refine (impl_cauchy.calls k a0_2 n z _ HZ.out).mono ?_
 rintro e w9 ⟨v2,rfl,ho2,hb⟩
 refine ⟨_,rfl,?_⟩
 obtain ⟨A2,c2,rfl⟩:=Kd.S_slice ho2
 have H2:=am (Kd.S_lower (Kd.S_mono (Kd.S_bound ho2) (ok':=fun k=>w8.heap.size≤k∧k < w9.heap.size) (fun k hk=>⟨hk.2.1,hk.2.2.1⟩)) HB.out.size)
 have HW4:=am HB.out.size
 have HLT:=am (Kd.S_lt H1.out)
 replace H1:=am (Kd.S_mono (Kd.S_below (Kd.S_bound H1.out) hb) (ok':=fun k=>(w.heap.size≤k)∧¬ (w8.heap.size≤k∧k < w9.heap.size)) (fun k hk=>⟨hk.2.1,fun h=>by have:=hk.2.2.1;omega⟩))
 replace BK:=am (qb BK.out hb)
 replace HB:=am (pu HB.out hb)
 clear hb ho2
 refine hK.out _ _ ⟨(blk_cell BK.out 0).trans rfl,(blk_cell BK.out 1).trans rfl,(blk_cell BK.out 2).trans rfl⟩ (fun hHeld=>?_)
 clear hK K
 refine rN (a':=?_) ?_ ?_
 rotate_left
 ·show Act.put _ (some 20) _=_
  simp only [Act.put,q1,q2,q3,i64_w,i32_w]
  rfl
 refine rO (N:=some 21) HT_ rfl rfl D3 D4 (fun K hK=>?_)
 refine S_append_rows_step (Kd.slice 5 (Kd.int .u8)) (w0:=w) w.heap.size D11 (.tmp 15) (.tmp 20) 37 57 (.slice none 0 0) 24 rfl Try.underlying37 info_rowL rfl D4 D5 (.slice A1 q.length c1) q z A2 z.length c2 (fun k=>w.heap.size≤k) (fun k=>w8.heap.size≤k∧k < w9.heap.size) D11 D11 H1.out H2.out (fun k hk=>⟨Nat.le_trans HW4.out hk.1,fun he=>by have:=HLT.out k he.symm;have:=hk.1;omega⟩) (fun k hk=>Nat.le_trans HB.out.size hk) HB.out HB.out.size (by have:=HL2.out;omega) ?_
 intro v3 w10 ho3 hb3 hg hat
 have hne:some w.heap.size ≠ (Value.slice A1 q.length c1).ownBlock:=Kd.S_ne H1.out BK.out D4
 replace BK:=am (blk_grown BK.out hg hne)
 replace HB:=am hb3
 have HO:=am ho3
 clear H2 H1 ho3 hb3 hg hat hne HLT HW4
 refine hK.out _ _ ⟨(blk_cell BK.out 0).trans rfl,(blk_cell BK.out 1).trans rfl,(blk_cell BK.out 2).trans rfl⟩ (fun hHeld=>?_)
 clear hK K
 refine rN (a':=?_) ?_ ?_
 rotate_left
 ·show Act.put _ (some 21) _=_
  simp only [Act.put,q1,q2,q3,i64_w,i32_w]
  rfl
 refine rR ?_
 refine rD HT_ D3 ?_
 go_wp2
 go_ret
 exact ⟨_,rfl,Kd.S_mono HO.out (fun _ _=>trivial),HB.out⟩
end

def impl_isIncreasing.l0:Nat→List Int→Int→List Int→Int→Int→Option (Bool)
 | 0,_,_,_,_,_=>none
 | k+1,x0,x1,x7,x8,x9=>if x9 < x8 then (if 0≤x9 then (if x9 < (x7.length:Int) then ((impl_within.f (rd x7 x9) 0 (wrap64 (x1 - 1))).bind fun t341=>(if t341=true then (if x9 > 0 then (if 0≤(wrap64 (x9 - 1)) then (if (wrap64 (x9 - 1)) < (x0.length:Int) then (if (rd x7 x9)≤(rd x0 (wrap64 (x9 - 1))) then (some false) else (impl_isIncreasing.l0 k x0 x1 x7 x8 (wrap64 (x9+1)))) else (none)) else (none)) else (impl_isIncreasing.l0 k x0 x1 x7 x8 (wrap64 (x9+1)))) else (some false))) else (none)) else (none)) else (some true)
def impl_isIncreasing.f (k:Nat) (l0:List Int) (a1:Int):Option (Bool):=impl_isIncreasing.l0 k l0 a1 l0 (l0.length:Int) 0
theorem impl_isIncreasing.mono_l:∀ k,(∀ y0 y1 y2 y3 y4,LeO (impl_isIncreasing.l0 k y0 y1 y2 y3 y4) (impl_isIncreasing.l0 (k+1) y0 y1 y2 y3 y4))
 | 0=>fun _ _ _ _ _ r h=>by simp [impl_isIncreasing.l0] at h
 | k+1=>by
  have ih0:=impl_isIncreasing.mono_l k
  intro y0 y1 y2 y3 y4
  unfold impl_isIncreasing.l0
  exact mm
theorem impl_isIncreasing.mono:∀ a0 a1 k,LeO (impl_isIncreasing.f k a0 a1) (impl_isIncreasing.f (k+1) a0 a1):=by
 intro a0 a1 k
 have ih0:=impl_isIncreasing.mono_l k
 unfold impl_isIncreasing.f
 exact mm
theorem impl_isIncreasing.calls (k:Nat) (A0:Option Addr) (c0:Nat) (l0:List Int) (a1:Int) (r:Bool) (w:World) (hr0:Kd.C (Kd.int .i64) w A0 l0.length l0) (hc0:l0.length≤c0) (h:impl_isIncreasing.f k l0 a1=some r) :
  Calls Try.prog 96 #[.slice A0 l0.length c0, .int .i64 a1] w fun e w'=>e = .returned (.bool r)∧Drawn0 w w':=by
 have HR0:=am hr0
 have HC0:=am hc0
 clear hr0 hc0
 have H:=h
 unfold impl_isIncreasing.f at H
 clear h
 have H':=am H
 clear H
 go_enter Try.func96,Try.ntmps96
 go_wp2
 go_loopg [9] k (fun kq v9 w'=>∃ (x9_1:Int),v9 = .int .i64 x9_1∧Aside0 (impl_isIncreasing.l0 kq l0 a1 l0 (l0.length:Int) x9_1=some r)∧Aside0 (kq≤k)∧Drawn0 w w')
 case atStart=>exact ⟨(0),D2,H',⟨Nat.le_refl _⟩,D6⟩
 case round =>
  clear H'
  try clear p2
  obtain ⟨x9_1,rfl,HA,HK1,⟨m1,rfl⟩⟩:=hrel
  cases gk with
  | zero=>exact absurd HA.out (by simp [impl_isIncreasing.l0])
  | succ k1 =>
   have H:=HA.out
   clear HA
   simp only [impl_isIncreasing.l0] at H
   by_cases c3:x9_1 < (l0.length:Int)
   ·rw [if_pos c3] at H
    have c3b0:=decide_eq_true c3
    clear c3
    obtain ⟨c4,H⟩:=yi H
    have c4b0:=decide_eq_true c4
    clear c4
    obtain ⟨c5,H⟩:=yi H
    have c5b0:=decide_eq_true c5
    clear c5
    obtain ⟨t341,A6,H⟩:=yo H
    by_cases c7:t341=true
    ·subst c7
     replace H:=yt H
     by_cases c8:x9_1 > 0
     ·rw [if_pos c8] at H
      have c8b0:decide (0 < x9_1)=true:=decide_eq_true c8
      clear c8
      generalize hji9:(wrap64 (x9_1 - 1))=ji9 at H
      (try rw [hji9] at A6)
      have hji9w:(IntKind.i64.wrap (x9_1 - 1))=ji9:=(i64_w _).trans hji9
      obtain ⟨c10,H⟩:=yi H
      have c10b0:=decide_eq_true c10
      clear c10
      obtain ⟨c11,H⟩:=yi H
      have c11b0:=decide_eq_true c11
      clear c11
      by_cases c12:(rd l0 x9_1)≤(rd l0 (ji9))
      ·rw [if_pos c12] at H
       have c12b0:=decide_eq_true c12
       clear c12
       obtain rfl:=Option.some.inj H
       have p340:0≤(x9_1:Int):=od D0
       have q340:x9_1 < (l0.length:Int):=od D0
       obtain ⟨ad340,e340,hx340_0⟩:=Kd.at_int HR0.out x9_1 p340 q340
       cases e340
       replace p340:=eq_true p340
       replace q340:=eq_true q340
       go_wp2_with (first|((with_reducible refine gC 137 ?_);refine gM (some 17) Try.func137 (args:=#[.int .i64 (rd l0 x9_1), .int .i64 0, .int .i64 (wrap64 (a1 - 1))]) (impl_within.calls (rd l0 x9_1) 0 (wrap64 (a1 - 1)) true _ A6.out) ?_;rintro e w' ⟨rfl,⟨nd,rfl⟩⟩;refine ⟨_,rfl,?_⟩;have p342:0≤((ji9):Int):=od D0;have q342:(ji9) < (l0.length:Int):=od D0;obtain ⟨ad342,e342,hx342_0⟩:=Kd.at_int HR0.out (ji9) p342 q342;obtain rfl:ad340=ad342:=(by injection e342);replace p342:=eq_true p342;replace q342:=eq_true q342))
       go_ret
       exact ⟨by first|rfl|(simp;done)|(simp only [← hji9] <;> (first|rfl|simp))|(simp [*];done),D6⟩
      rw [if_neg c12] at H
      have c12b0:=decide_eq_false c12
      clear c12
      have H':=am H
      clear H
      have p340:0≤(x9_1:Int):=od D0
      have q340:x9_1 < (l0.length:Int):=od D0
      obtain ⟨ad340,e340,hx340_0⟩:=Kd.at_int HR0.out x9_1 p340 q340
      cases e340
      replace p340:=eq_true p340
      replace q340:=eq_true q340
      go_wp2_with (first|((with_reducible refine gC 137 ?_);refine gM (some 17) Try.func137 (args:=#[.int .i64 (rd l0 x9_1), .int .i64 0, .int .i64 (wrap64 (a1 - 1))]) (impl_within.calls (rd l0 x9_1) 0 (wrap64 (a1 - 1)) true _ A6.out) ?_;rintro e w' ⟨rfl,⟨nd,rfl⟩⟩;refine ⟨_,rfl,?_⟩;have p342:0≤((ji9):Int):=od D0;have q342:(ji9) < (l0.length:Int):=od D0;obtain ⟨ad342,e342,hx342_0⟩:=Kd.at_int HR0.out (ji9) p342 q342;obtain rfl:ad340=ad342:=(by injection e342);replace p342:=eq_true p342;replace q342:=eq_true q342))
      go_roundg k1
      case measure=>have:=HK1.out;omega
      case rel=>exact ⟨(wrap64 (x9_1+1)),D2,H',⟨D17⟩,D6⟩
     rw [if_neg c8] at H
     have c8b0:decide (0 < x9_1)=false:=decide_eq_false c8
     clear c8
     have H':=am H
     clear H
     have p340:0≤(x9_1:Int):=od D0
     have q340:x9_1 < (l0.length:Int):=od D0
     obtain ⟨ad340,e340,hx340_0⟩:=Kd.at_int HR0.out x9_1 p340 q340
     cases e340
     replace p340:=eq_true p340
     replace q340:=eq_true q340
     go_wp2_with (first|((with_reducible refine gC 137 ?_);refine gM (some 17) Try.func137 (args:=#[.int .i64 (rd l0 x9_1), .int .i64 0, .int .i64 (wrap64 (a1 - 1))]) (impl_within.calls (rd l0 x9_1) 0 (wrap64 (a1 - 1)) true _ A6.out) ?_;rintro e w' ⟨rfl,⟨nd,rfl⟩⟩;refine ⟨_,rfl,?_⟩))
     go_roundg k1
     case measure=>have:=HK1.out;omega
     case rel=>exact ⟨(wrap64 (x9_1+1)),D2,H',⟨D17⟩,D6⟩
    replace c7:=Bool.eq_false_iff.mpr c7
    subst c7
    replace H:=yn H
    obtain rfl:=Option.some.inj H
    have p340:0≤(x9_1:Int):=od D0
    have q340:x9_1 < (l0.length:Int):=od D0
    obtain ⟨ad340,e340,hx340_0⟩:=Kd.at_int HR0.out x9_1 p340 q340
    cases e340
    replace p340:=eq_true p340
    replace q340:=eq_true q340
    go_wp2_with (first|((with_reducible refine gC 137 ?_);refine gM (some 17) Try.func137 (args:=#[.int .i64 (rd l0 x9_1), .int .i64 0, .int .i64 (wrap64 (a1 - 1))]) (impl_within.calls (rd l0 x9_1) 0 (wrap64 (a1 - 1)) false _ A6.out) ?_;rintro e w' ⟨rfl,⟨nd,rfl⟩⟩;refine ⟨_,rfl,?_⟩))
    go_ret
    exact ⟨D2,D6⟩
   rw [if_neg c3] at H
   have c3b0:=decide_eq_false c3
   clear c3
   obtain rfl:=Option.some.inj H
   go_wp2
   go_ret
   exact ⟨D2,D6⟩
end
section
section
open Go.Proofs.Ytajikfnpcobnpaa.KitW
set_option maxHeartbeats 4000000 in
theorem texts_IndexFunc (g:Nat) (eg:∀ args w,(callFunc g args).run Try.prog w = .ok (.enter g args) w) (fv:Value) (p:Nat→Bool) (ad:Addr) (n c:Nat) (v:Nat→Value) (w:World) (hbig:n≤9223372036854775806)
  (hc:∀ i,i < n→w.cell? (ad.add i)=some (v i))
  (hp:∀ i,i < n→∀ W,Drawn0 w W→Calls Try.prog g #[v i,fv] W fun e w'=>e = .returned (.bool (p i))∧Drawn0 W w') :
  Calls Try.prog 210 #[.slice (some ad) n c, .func (.func g) #[] #[fv]] w fun e w'=>(∃ r,e = .returned (.int .i64 r)∧IdxOf p n r)∧Drawn0 w w':=by
 have HP:=am hp
 have HC:=am hc
 clear hp hc
 go_enter Try.func210,Try.ntmps210
 go_wp2
 go_loopg [5,8] n (fun gg _ s8 wr=>∃ kk:Nat,kk≤n∧n - kk≤gg∧s8 = .int .i64 kk∧Aside0 (Drawn0 w wr)∧Aside0 (∀ j,j < kk→p j=false))
 case atStart=>exact ⟨0,Nat.zero_le _,D5,rfl,⟨Drawn0.refl _⟩,⟨fun j hj=>absurd hj (Nat.not_lt_zero _)⟩⟩
 case round =>
  obtain ⟨kk,hkk,hg,rfl,HD,HA⟩:=hrel
  by_cases hlt:kk < n
  ·have hltz:(kk:Int) < (n:Int):=by omega
   have hcell:wr.cell? (ad.add kk)=some (v kk):=by
    obtain ⟨q,rfl⟩:=HD.out.out
    exact HC.out kk hlt
   have hcall:=HP.out kk hlt
   cases hq:p kk with
   | true =>
    rw [hq] at hcall
    have HQ:=am hq
    clear hq
    have HX:=am hcall
    clear hcall
    go_wp2_with (go_at_fn g;refine (HX.out _ ?dr).mono ?_;(case dr=>exact HD.out);rintro e w' ⟨rfl,hd⟩)
    go_ret
    exact ⟨⟨_,rfl, .inr ⟨kk,hlt,rfl,HQ.out,HA.out⟩⟩,drawn_trans HD.out hd⟩
   | false =>
    rw [hq] at hcall
    have HQ:=am hq
    clear hq
    have HX:=am hcall
    clear hcall
    go_wp2_with (go_at_fn g;refine (HX.out _ ?dr).mono ?_;(case dr=>exact HD.out);rintro e w' ⟨rfl,hd⟩)
    go_roundg (n - (kk+1))
    case measure=>omega
    case rel=>exact ⟨kk+1,D5,D5,by go_num,⟨drawn_trans HD.out hd⟩,⟨fun j hj=>by by_cases e:j=kk;exact e ▸ HQ.out;exact HA.out j D5⟩⟩
  have hltz:¬ (kk:Int) < (n:Int):=by omega
  have:kk=n:=by omega
  subst this
  go_wp2
  go_ret
  exact ⟨⟨_,rfl, .inl ⟨rfl,HA.out⟩⟩,HD.out⟩
set_option maxHeartbeats 4000000 in
theorem texts_ContainsFunc (g:Nat) (eg:∀ args w,(callFunc g args).run Try.prog w = .ok (.enter g args) w) (fv:Value) (p:Nat→Bool) (ad:Addr) (n c:Nat) (v:Nat→Value) (w:World) (hbig:n≤9223372036854775806)
  (hc:∀ i,i < n→w.cell? (ad.add i)=some (v i))
  (hp:∀ i,i < n→∀ W,Drawn0 w W→Calls Try.prog g #[v i,fv] W fun e w'=>e = .returned (.bool (p i))∧Drawn0 W w') :
  Calls Try.prog 204 #[.slice (some ad) n c, .func (.func g) #[] #[fv]] w fun e w'=>e = .returned (.bool ((List.range n).any p))∧Drawn0 w w':=by
 have HX:=am (texts_IndexFunc g eg fv p ad n c v w hbig hc hp)
 clear hp hc
 go_enter Try.func204,Try.ntmps204
 go_wp2_with (go_at_call 210;refine HX.out.mono ?_;rintro e w' ⟨⟨r,rfl,hr⟩,hd⟩)
 go_ret
 refine ⟨?_,hd⟩
 rw [← idxOf_nonneg hr]
 first|rfl|(simp;done)
/-- No text at all: nothing is looked at. -/
theorem texts_none (A:Option Addr) (c:Nat) (fv:Value) (w:World) :
  Calls Try.prog 204 #[.slice A 0 c,fv] w fun e w'=>e = .returned (.bool false)∧w=w':=by
 have HX:∀ w:World,Calls Try.prog 210 #[.slice A 0 c,fv] w fun e w'=>e = .returned (.int .i64 (-1))∧w=w':=by
  intro w
  go_enter Try.func210,Try.ntmps210
  go_wp2
  go_loopg [5,8] 0 (fun gg _ s8 wr=>s8 = .int .i64 0∧w=wr)
  case atStart=>exact ⟨rfl,rfl⟩
  case round =>
   obtain ⟨rfl,rfl⟩:=hrel
   go_wp2
   go_ret
   exact ⟨rfl,rfl⟩
 go_enter Try.func204,Try.ntmps204
 go_wp2_with (go_at_call 210;refine (HX _).mono ?_;rintro e w' ⟨rfl,rfl⟩)
 go_ret
 exact ⟨rfl,rfl⟩
/-- The test of one text. -/
theorem texts_test (gb:Nat) (ad:Addr) (n c:Nat) (hn:0 < n) (s0 s:ByteArray) (hs:s.size≤140737488355328) (h0s:s0.size≤140737488355328) (W:World)
  (hbox:W.cell? ⟨gb,0,none⟩=some (.slice (some ad) n c)) (h0:W.cell? (ad.add 0)=some (.string s0)) :
  Calls Try.prog 205 #[.string s, .pointer (some ⟨gb,0,none⟩)] W fun e w'=>e = .returned (.bool (decide (40 < s.size) ||s.size != s0.size))∧Drawn0 W w':=by
 rw [Addr.add_zero'] at h0
 have hn':(0 < n)=True:=eq_true hn
 by_cases h1:40 < s.size
 ·have h1z:decide ((s.size:Int) > 40)=true:=decide_eq_true D5
  have h1n:decide (40 < s.size)=true:=decide_eq_true h1
  go_enter Try.func205,Try.ntmps205
  go_wp2
  go_ret
  refine ⟨?_,Drawn0.refl _⟩
  rw [h1n];rfl
 have h1z:decide ((s.size:Int) > 40)=false:=decide_eq_false D5
 have h1n:decide (40 < s.size)=false:=decide_eq_false h1
 go_enter Try.func205,Try.ntmps205
 go_wp2
 go_ret
 refine ⟨?_,Drawn0.refl _⟩
 rw [h1n,Bool.false_or]
 by_cases e:s.size=s0.size
 ·rw [e];simp
 have e2:¬ ((s.size:Int)=(s0.size:Int)):=by omega
 simp only [bne]
 rw [show ((s.size:Int) == (s0.size:Int))=false by simpa using e2,show (s.size == s0.size)=false by simpa using e]
 rfl
def impl_areEqual.f (l0:List ByteArray):Option (Bool):=if l0.length≤140737488355328∧∀ s ∈ l0,s.size≤140737488355328 then some (textsOk l0) else none
set_option maxHeartbeats 4000000 in
theorem impl_areEqual.calls (A0:Option Addr) (c0:Nat) (l0:List ByteArray) (r:Bool) (w:World) (hr0:Kd.C Kd.string w A0 l0.length l0) (hc0:l0.length≤c0) (h:impl_areEqual.f l0=some r) :
  Calls Try.prog 177 #[.slice A0 l0.length c0] w fun e w'=>e = .returned (.bool r)∧Below w.heap.size w w':=by
 unfold impl_areEqual.f at h
 by_cases hs:l0.length≤140737488355328∧∀ s ∈ l0,s.size≤140737488355328
 ·rw [if_pos hs] at h
  obtain rfl:=Option.some.inj h
  clear h
  have HS:=am hs
  clear hs
  by_cases hp:0 < l0.length
  ·obtain ⟨ad,rfl,_⟩:=hr0.2.2 hp
   have hb9:l0.length≤9223372036854775806:=by have:=HS.out.1;omega
   have hcell:∀ i,i < l0.length→w.cell? (ad.add i)=some (.string (l0.getD i ByteArray.empty)):=fun i hi=>by
    obtain ⟨ad',e,h⟩:=Kd.at_string hr0 (i:Int) D5 D5
    injection e with e
    subst e
    rw [Int.toNat_natCast] at h
    rw [h]
    unfold rdOf
    rw [Int.toNat_natCast]
   have HC:=am hcell
   have HP:=am hp
   have H9:=am hb9
   clear hcell hr0 hp hb9
   go_enter Try.func177,Try.ntmps177
   go_wp2_with fail
   obtain ⟨W,hW⟩:∃ W:World,W=w.alloc (.cells #[.slice (some ad) l0.length c0] 22 (0,0)):=⟨_,rfl⟩
   have hb:Below w.heap.size w W:=by rw [hW];exact pa (Below.refl _ _) _
   have hc1:W.cell? ⟨w.heap.size,0,none⟩=some (.slice (some ad) l0.length c0):=by rw [hW];go_simp
   rw [← hW]
   clear hW
   have hcell:∀ i,i < l0.length→W.cell? (ad.add i)=some (.string (l0.getD i ByteArray.empty)):=fun i hi=>(hb.cell (World.block_lt_of_cell? w _ (HC.out i hi))).trans (HC.out i hi)
   have hsz:∀ i,(l0.getD i ByteArray.empty).size≤140737488355328:=fun i=>by
    rw [List.getD_eq_getElem?_getD]
    by_cases hi:i < l0.length
    ·rw [List.getElem?_eq_getElem hi];exact HS.out.2 _ (List.getElem_mem hi)
    rw [List.getElem?_eq_none D5];decide
   have hcf:=texts_ContainsFunc 205 (enters_of Try.func205 rfl rfl) (.pointer (some ⟨w.heap.size,0,none⟩)) (fun i=>decide (40 < (l0.getD i ByteArray.empty).size) ||(l0.getD i ByteArray.empty).size != (l0.getD 0 ByteArray.empty).size) ad l0.length c0 (fun i=>.string (l0.getD i ByteArray.empty)) W H9.out hcell
    (fun i hi W1 hd=>by
     obtain ⟨q3,rfl⟩:=hd.out
     exact texts_test w.heap.size ad l0.length c0 HP.out (l0.getD 0 ByteArray.empty) (l0.getD i ByteArray.empty) (hsz i) (hsz 0) _ hc1 (hcell 0 HP.out))
   have HB:=am hb
   clear hb hcell hsz
   refine hcf.mono ?_
   clear hcf
   rintro e w' ⟨rfl,⟨q3,rfl⟩⟩
   go_wp2
   go_ret
   exact ⟨rfl,pb HB.out _⟩
  have e0:l0=[]:=List.eq_nil_of_length_eq_zero D5
  subst e0
  clear hp hr0 HS hc0
  go_enter Try.func177,Try.ntmps177
  go_wp2_with (go_at_call 204;refine (texts_none _ _ _ _).mono ?_;rintro e w' ⟨rfl,rfl⟩)
  go_ret
  exact ⟨rfl,pa (Below.refl _ _) _⟩
 rw [if_neg hs] at h
 cases h
end

def impl_areShards.l0:Nat→Int→List Int→List ByteArray→List (S84)→Int→Int→Option (Bool)
 | 0,_,_,_,_,_,_=>none
 | k+1,x1,x5,x6,x11,x12,x13=>if x13 < x12 then (if 0≤x13 then (if x13 < (x11.length:Int) then (if x5.length < 17592186044416 then (if x6.length < 8796093022208 then (impl_areShards.l0 k x1 (x5 ++ [(rd_T84 x11 x13).f0]) (x6 ++ [(rd_T84 x11 x13).f1]) x11 x12 (wrap64 (x13+1))) else (none)) else (none)) else (none)) else (none)) else ((impl_isIncreasing.f k x5 x1).bind fun t357=>(if t357=true then ((impl_areEqual.f x6).bind fun t358=>(some t358)) else (some false)))
def impl_areShards.f (k:Nat) (l0:List (S84)) (a1:Int):Option (Bool):=impl_areShards.l0 k a1 (([]:List Int)) (([]:List ByteArray)) l0 (l0.length:Int) 0
theorem impl_areShards.mono_l:∀ k,(∀ y0 y1 y2 y3 y4 y5,LeO (impl_areShards.l0 k y0 y1 y2 y3 y4 y5) (impl_areShards.l0 (k+1) y0 y1 y2 y3 y4 y5))
 | 0=>fun _ _ _ _ _ _ r h=>by simp [impl_areShards.l0] at h
 | k+1=>by
  have ih0:=impl_areShards.mono_l k
  intro y0 y1 y2 y3 y4 y5
  unfold impl_areShards.l0
  exact mm
theorem impl_areShards.mono:∀ a0 a1 k,LeO (impl_areShards.f k a0 a1) (impl_areShards.f (k+1) a0 a1):=by
 intro a0 a1 k
 have ih0:=impl_areShards.mono_l k
 unfold impl_areShards.f
 exact mm
theorem impl_areShards.calls (k:Nat) (A0:Option Addr) (c0:Nat) (l0:List (S84)) (a1:Int) (r:Bool) (w:World) (hr0:Kd.C k84 w A0 l0.length l0) (hc0:l0.length≤c0) (h:impl_areShards.f k l0 a1=some r) :
  Calls Try.prog 145 #[.slice A0 l0.length c0, .int .i64 a1] w fun e w'=>e = .returned (.bool r)∧Below w.heap.size w w':=by
 have hu84:=Try.underlying84
 have HR0:=am hr0
 have HC0:=am hc0
 clear hr0 hc0
 have HB:=am (Below.refl w.heap.size w)
 have H:=h
 unfold impl_areShards.f at H
 clear h
 generalize hy343:(([]:List Int):List Int)=y343 at H
 have Ny343:=am hy343.symm
 clear hy343
 generalize hy346:(([]:List ByteArray):List ByteArray)=y346 at H
 have Ny346:=am hy346.symm
 clear hy346
 have H':=am H
 clear H
 go_enter Try.func145,Try.ntmps145
 go_wp2_with (first|((with_reducible refine gD 9 ?_);refine Kd.R_lit (Kd.int .i64) _ 3 D11 (N:=9) D11 (xs:=([]:List Int)) (inner:=[]) (ok:=fun _=>True) (okp:=fun _=>True) D16 D25 (fun _ hk=>hk) trivial (Below.refl _ _) (Nat.le_refl _) D36 ?_;intro v344 w3 ho4 hb hg_ hnew_;clear hg_ hnew_;(first|rw [← Ny343.out] at ho4|(simp only [Int.reduceToNat] at ho4;rw [← Ny343.out] at ho4));have HO345:=am (Kd.R_lower ho4 (pz (yW HB)));replace HB:=yH HB hb;clear hb ho4)|((with_reducible refine gD 10 ?_);refine Kd.R_lit Kd.string _ 9 D11 (N:=10) D11 (xs:=([]:List ByteArray)) (inner:=[]) (ok:=fun _=>True) (okp:=fun _=>True) D16 D25 (fun _ hk=>hk) trivial (Below.refl _ _) (Nat.le_refl _) D36 ?_;intro v347 w5 ho6 hb hg_ hnew_;clear hg_ hnew_;(first|rw [← Ny346.out] at ho6|(simp only [Int.reduceToNat] at ho6;rw [← Ny346.out] at ho6));replace HO345:=bR HO345 hb;have HO348:=am (Kd.R_lower ho6 (pz (yW HB)));replace HB:=yH HB hb;clear hb ho6))
 go_loopg [5,6,13] k (fun kq v5 v6 v13 w'=>∃ (x5_1:List Int) (x6_1:List ByteArray) (x13_1:Int),v13 = .int .i64 x13_1∧Aside0 (impl_areShards.l0 kq a1 x5_1 x6_1 l0 (l0.length:Int) x13_1=some r)∧Aside0 (kq≤k)∧Aside0 (Kd.R (Kd.int .i64) 3 w' w.heap.size (fun _=>True) v5 x5_1)∧Aside0 (Kd.R Kd.string 9 w' w.heap.size (fun _=>True) v6 x6_1)∧Aside0 (Below w.heap.size w w'))
 case atStart=>exact ⟨(y343),(y346),(0),D2,H',⟨Nat.le_refl _⟩,⟨yR HO345⟩,⟨yR HO348⟩,⟨yW HB⟩⟩
 case round =>
  clear H'
  try clear c1
  try clear p2
  obtain ⟨x5_1,x6_1,x13_1,rfl,HA,HK1,HO_5,HO_6,HB⟩:=hrel
  cases gk with
  | zero=>exact absurd HA.out (by simp [impl_areShards.l0])
  | succ k1 =>
   have H:=HA.out
   clear HA
   simp only [impl_areShards.l0] at H
   by_cases c7:x13_1 < (l0.length:Int)
   ·rw [if_pos c7] at H
    have c7b0:=decide_eq_true c7
    clear c7
    obtain ⟨c8,H⟩:=yi H
    have c8b0:=decide_eq_true c8
    clear c8
    obtain ⟨c9,H⟩:=yi H
    have c9b0:=decide_eq_true c9
    clear c9
    obtain ⟨c10,H⟩:=yi H
    have LMc10:=am c10
    clear c10
    generalize hy351:(x5_1 ++ [(rd_T84 l0 x13_1).f0]:List Int)=y351 at H
    have Ny351:=am hy351.symm
    clear hy351
    obtain ⟨c11,H⟩:=yi H
    have LMc11:=am c11
    clear c11
    generalize hy354:(x6_1 ++ [(rd_T84 l0 x13_1).f1]:List ByteArray)=y354 at H
    have Ny354:=am hy354.symm
    clear hy354
    have H':=am H
    clear H
    have p349:0≤(x13_1:Int):=od D0
    have q349:x13_1 < (l0.length:Int):=od D0
    obtain ⟨ad349,e349,hx349_0,hx349_1⟩:=at_T84 HR0.out x13_1 p349 q349
    cases e349
    replace hx349_0:=(HB.out.cell (World.block_lt_of_cell? w _ hx349_0)).trans hx349_0
    replace hx349_1:=(HB.out.cell (World.block_lt_of_cell? w _ hx349_1)).trans hx349_1
    replace p349:=eq_true p349
    replace q349:=eq_true q349
    go_wp2_with (first|((with_reducible refine gD 8 ?_);refine gB (cs:=#[.int .i64 0, .string (⟨#[]⟩:ByteArray)]) 84 ?_;intro gb350 hg w12 hbox hb;replace HO_5:=bR HO_5 hb;replace HO_6:=bR HO_6 hb;have BK350:=am (hbox);have GW350:=ye HB hg;replace HB:=yH HB hb;have GE350:=GW350;clear hb hbox hg;obtain ⟨hcz13_0,hcz13_1,hfz13_0,hfz13_1⟩:=yk2 BK350)|((with_reducible refine gate_builtin (b:=.append) (xs:=#[.tmp 17, .tmp 20]) rfl ?_);at_builtin;refine Kd.R_append (Kd.int .i64) (w0:=w) w.heap.size rfl (.tmp 17) (.tmp 20) 25 3 (.int .i64 0) 8 rfl Try.underlying25 info3 rfl D4 D5 u5 x5_1 ((rd_T84 l0 x13_1).f0) [.int .i64 ((rd_T84 l0 x13_1).f0)] (fun _=>True) (fun _=>False) rfl D16 D75 (fun _ hk=>hk.elim) D34 (by exact (by refine sR ?_;exact Kd.R_mono (Kd.R_far (p:=⟨gb350,1,none⟩) (Kd.R_far (p:=⟨gb350,0,none⟩) (Kd.R_types HO_5.out BK350.out D4) (fun _ hk=>hk.2) (.int .i64 ((rd_T84 l0 x13_1).f0))) (fun _ hk=>hk.2) (.string ((rd_T84 l0 x13_1).f1))) (fun _ hk=>trivial))) D46 D26 (by have:=LMc10.out;omega) ?_;intro v352 w14 ho hb hg hat;rw [← Ny351.out] at ho;have n0_:=am (Kd.R_over' (by refine sR ?_;exact (Kd.R_mono (Kd.R_far (p:=⟨gb350,1,none⟩) (Kd.R_far (p:=⟨gb350,0,none⟩) (Kd.R_types HO_6.out BK350.out D4) (fun _ hk=>hk.2) (.int .i64 ((rd_T84 l0 x13_1).f0))) (fun _ hk=>hk.2) (.string ((rd_T84 l0 x13_1).f1))) (fun _ h_=>h_.1))) (Kd.R_typed (by refine sR ?_;exact (Kd.R_mono (Kd.R_far (p:=⟨gb350,1,none⟩) (Kd.R_far (p:=⟨gb350,0,none⟩) (Kd.R_types HO_5.out BK350.out D4) (fun _ hk=>hk.2) (.int .i64 ((rd_T84 l0 x13_1).f0))) (fun _ hk=>hk.2) (.string ((rd_T84 l0 x13_1).f1))) (fun _ h_=>h_.1)))) D4 hg);have n1_:=am (blk_grown (g:=gb350) (o:=.cells #[.int .i64 ((rd_T84 l0 x13_1).f0), .string ((rd_T84 l0 x13_1).f1)] 84 (0,0)) (by refine sB ?_;refine blk_put (cs:=#[.int .i64 ((rd_T84 l0 x13_1).f0), .string (⟨#[]⟩:ByteArray)]) ?_ 1 _ rfl;refine sB ?_;refine blk_put (cs:=#[.int .i64 0, .string (⟨#[]⟩:ByteArray)]) ?_ 0 _ rfl;exact yB BK350) hg (Kd.R_ne HO_5.out BK350.out D4));have n2_:=am (hb);have n3_:=am (ho);clear HO_6 BK350 HB HO_5;have HO_6:=n0_;have BK350:=n1_;have HB:=n2_;have HO353:=n3_;clear n0_ n1_ n2_ n3_ ho hb hg hat;obtain ⟨hcz15_0,hcz15_1,hfz15_0,hfz15_1⟩:=yk2 BK350)|((with_reducible refine gate_builtin (b:=.append) (xs:=#[.tmp 22, .tmp 25]) rfl ?_);at_builtin;refine Kd.R_append Kd.string (w0:=w) w.heap.size rfl (.tmp 22) (.tmp 25) 22 9 (.string ⟨#[]⟩) 16 rfl Try.underlying22 info9 rfl D4 D5 u6 x6_1 ((rd_T84 l0 x13_1).f1) [.string ((rd_T84 l0 x13_1).f1)] (fun _=>True) (fun _=>False) rfl rfl D75 (fun _ hk=>hk.elim) D34 (by exact (yR HO_6)) D46 D26 (by have:=LMc11.out;omega) ?_;intro v355 w16 ho hb hg hat;rw [← Ny354.out] at ho;have n0_:=am (blk_grown (g:=gb350) (o:=.cells #[.int .i64 ((rd_T84 l0 x13_1).f0), .string ((rd_T84 l0 x13_1).f1)] 84 (0,0)) (yB BK350) hg (Kd.R_ne HO_6.out BK350.out D4));have n1_:=am (Kd.R_over' (yR HO353) (Kd.R_typed (yR HO_6)) D4 hg);have n2_:=am (hb);have n3_:=am (ho);clear BK350 HO353 HB HO_6;have BK350:=n0_;have HO353:=n1_;have HB:=n2_;have HO356:=n3_;clear n0_ n1_ n2_ n3_ ho hb hg hat))
    go_roundg k1
    case measure=>have:=HK1.out;omega
    case rel=>exact ⟨(y351),(y354),(wrap64 (x13_1+1)),D2,H',⟨D17⟩,⟨yR HO353⟩,⟨yR HO356⟩,⟨yW HB⟩⟩
   rw [if_neg c7] at H
   have c7b0:=decide_eq_false c7
   clear c7
   obtain ⟨t357,A17,H⟩:=yo H
   by_cases c18:t357=true
   ·subst c18
    replace H:=yt H
    obtain ⟨t358,A19,H⟩:=yo H
    obtain rfl:=Option.some.inj H
    obtain ⟨Ao20,co20,eo20⟩:=Kd.R_slice HO_5.out
    subst eo20
    go_wp2_with (first|((with_reducible refine gC 96 ?_);refine gM (some 30) Try.func96 (args:=#[.slice Ao20 x5_1.length co20, .int .i64 a1]) (impl_isIncreasing.calls k1 _ _ x5_1 a1 true _ (yc (Kd.R_reads' HO_5.out).2.2) (Kd.R_reads' HO_5.out).2.1 A17.out) ?_;rintro e w' ⟨rfl,⟨nd,rfl⟩⟩;refine ⟨_,rfl,?_⟩;obtain ⟨Ao21,co21,eo21⟩:=Kd.R_slice HO_6.out;subst eo21)|(go_at_call 177;(with_reducible refine (impl_areEqual.calls _ _ x6_1 t358 _ (yc (Kd.R_reads' HO_6.out).2.2) (Kd.R_reads' HO_6.out).2.1 A19.out).mono ?_);rintro e w22 ⟨rfl,hb⟩;replace HO_5:=bR HO_5 hb;replace HO_6:=bR HO_6 hb;replace HB:=yH HB hb;clear hb))
    go_ret
    exact ⟨D1,yW HB⟩
   replace c18:=Bool.eq_false_iff.mpr c18
   subst c18
   replace H:=yn H
   obtain rfl:=Option.some.inj H
   obtain ⟨Ao23,co23,eo23⟩:=Kd.R_slice HO_5.out
   subst eo23
   go_wp2_with (first|((with_reducible refine gC 96 ?_);refine gM (some 30) Try.func96 (args:=#[.slice Ao23 x5_1.length co23, .int .i64 a1]) (impl_isIncreasing.calls k1 _ _ x5_1 a1 false _ (yc (Kd.R_reads' HO_5.out).2.2) (Kd.R_reads' HO_5.out).2.1 A17.out) ?_;rintro e w' ⟨rfl,⟨nd,rfl⟩⟩;refine ⟨_,rfl,?_⟩))
   go_ret
   exact ⟨D1,yW HB⟩

section
open Go.Proofs.Ytajikfnpcobnpaa.KitW
def impl_sumOf.f (k:Nat) (a0:ByteArray) (a1:ByteArray):Option ByteArray:=if a0.size≤140737488355328∧a1.size≤140737488355328 then (impl_added.f k (bytesOf a0) (bytesOf a1)).bind fun t=>some (strOfNums t) else none
theorem impl_sumOf.mono:∀ a0 a1 k,LeO (impl_sumOf.f k a0 a1) (impl_sumOf.f (k+1) a0 a1):=by
 intro a0 a1 k
 unfold impl_sumOf.f
 exact LeO.ite (LeO.bind (impl_added.mono _ _ _) (fun _=>LeO.refl _)) (LeO.refl _)
set_option maxHeartbeats 4000000 in
theorem impl_sumOf.calls (k:Nat) (a0:ByteArray) (a1:ByteArray) (r:ByteArray) (w:World) (h:impl_sumOf.f k a0 a1=some r) :
  Calls Try.prog 181 #[.string a0, .string a1] w fun e w'=>e = .returned (.string r)∧Below w.heap.size w w':=by
 unfold impl_sumOf.f at h
 by_cases hs:a0.size≤140737488355328∧a1.size≤140737488355328
 ·rw [if_pos hs] at h
  replace h:=Option.bind_eq_some_iff.mp h
  obtain ⟨x,hx,h⟩:=h
  obtain rfl:=Option.some.inj h
  clear h
  have HX:=am hx
  have HS:=am hs
  clear hx hs
  have kb0:=fun W=>print_bytes (P:=Try.prog) 9 57 5 Try.underlying9 Try.underlying57 Try.underlying5 a0 W
  have kb1:=fun W=>print_bytes (P:=Try.prog) 9 57 5 Try.underlying9 Try.underlying57 Try.underlying5 a1 W
  go_enter Try.func181,Try.ntmps181
  go_wp2_with fail
  have e0:=bytesOf_length a0
  have e1:=bytesOf_length a1
  rw [← e0,← e1]
  have h0:=bytes_C w 5 a0 HS.out.1
  have h1:=bytes_C (Lib.bytesWorld w 5 a0) 5 a1 HS.out.2
  have b1:Below (Lib.bytesWorld w 5 a0).heap.size (Lib.bytesWorld w 5 a0) (Lib.bytesWorld (Lib.bytesWorld w 5 a0) 5 a1):=bytes_below (Below.refl _ _) (Nat.le_refl _) _ _
  have b0:Below w.heap.size w (Lib.bytesWorld w 5 a0):=bytes_below (Below.refl _ _) (Nat.le_refl _) _ _
  refine (impl_added.calls k _ _ (bytesOf a0) _ _ (bytesOf a1) x _ (Kd.C_below h0 b1) ?c0 h1 ?c1 HX.out).mono ?_
  case c0=>rw [e0];exact bytes_cap _ _ _
  case c1=>rw [e1];exact bytes_cap _ _ _
  clear kb0 kb1 e0 e1 h0 h1
  rintro e w' ⟨v0,rfl,ho,hb⟩
  have HO:=am ho
  have HB:=am (pu b0 (below_weaken b1 b1.size hb):Below w.heap.size w w')
  clear ho hb b0 b1
  obtain ⟨A,c,rfl⟩:=Kd.R_slice HO.out
  have hk:=Kd.C_string (P:=Try.prog) Try.underlying57 Try.underlying5 Try.underlying9 (Kd.R_reads' HO.out).2.2 (src:=57) (dst:=9) (c:=c)
  go_wp2
  go_ret
  exact ⟨rfl,HB.out⟩
 rw [if_neg hs] at h
 cases h
end

section
open Go.Proofs.Ytajikfnpcobnpaa.KitW
def impl_timesOf.f (k:Nat) (a0:Int) (a1:ByteArray):Option ByteArray:=if a1.size≤140737488355328 then (impl_scaled.f k a0 (bytesOf a1)).bind fun t=>some (strOfNums t) else none
theorem impl_timesOf.mono:∀ a0 a1 k,LeO (impl_timesOf.f k a0 a1) (impl_timesOf.f (k+1) a0 a1):=by
 intro a0 a1 k
 unfold impl_timesOf.f
 exact LeO.ite (LeO.bind (impl_scaled.mono _ _ _) (fun _=>LeO.refl _)) (LeO.refl _)
set_option maxHeartbeats 4000000 in
theorem impl_timesOf.calls (k:Nat) (a0:Int) (a1:ByteArray) (r:ByteArray) (w:World) (h:impl_timesOf.f k a0 a1=some r) :
  Calls Try.prog 182 #[.int .u8 a0, .string a1] w fun e w'=>e = .returned (.string r)∧Below w.heap.size w w':=by
 unfold impl_timesOf.f at h
 by_cases hs:a1.size≤140737488355328
 ·rw [if_pos hs] at h
  replace h:=Option.bind_eq_some_iff.mp h
  obtain ⟨x,hx,h⟩:=h
  obtain rfl:=Option.some.inj h
  clear h
  have HX:=am hx
  have HS:=am hs
  clear hx hs
  have kb1:=fun W=>print_bytes (P:=Try.prog) 9 57 5 Try.underlying9 Try.underlying57 Try.underlying5 a1 W
  go_enter Try.func182,Try.ntmps182
  go_wp2_with fail
  have e1:=bytesOf_length a1
  rw [← e1]
  have h1:=bytes_C w 5 a1 HS.out
  have b0:Below w.heap.size w (Lib.bytesWorld w 5 a1):=bytes_below (Below.refl _ _) (Nat.le_refl _) _ _
  refine (impl_scaled.calls k a0 _ _ (bytesOf a1) x _ h1 ?c1 HX.out).mono ?_
  case c1=>rw [e1];exact bytes_cap _ _ _
  clear kb1 e1 h1
  rintro e w' ⟨v0,rfl,ho,hb⟩
  have HO:=am ho
  have HB:=am (pu b0 hb:Below w.heap.size w w')
  clear ho hb b0
  obtain ⟨A,c,rfl⟩:=Kd.R_slice HO.out
  have hk:=Kd.C_string (P:=Try.prog) Try.underlying57 Try.underlying5 Try.underlying9 (Kd.R_reads' HO.out).2.2 (src:=57) (dst:=9) (c:=c)
  go_wp2
  go_ret
  exact ⟨rfl,HB.out⟩
 rw [if_neg hs] at h
 cases h
end

mutual
def impl_combined.l0:Nat→List ByteArray→List ByteArray→List (List Int)→Int→Int→Option (List ByteArray)
 | 0,_,_,_,_,_=>none
 | k+1,x1,x5,x12,x13,x14=>if x14 < x13 then (if 0≤x14 then (if x14 < (x12.length:Int) then (if 0 < (x1.length:Int) then (if 0≤((rdOf ByteArray.empty x1 0).size:Int) then (if (((rdOf ByteArray.empty x1 0).size:Int):Int).toNat≤281474976710656 then (impl_combined.l1 k x1 x5 (rd_L1 x12 x14) (strOfNums (List.replicate (((rdOf ByteArray.empty x1 0).size:Int):Int).toNat 0)) x12 x13 x14 x1 (x1.length:Int) 0) else (none)) else (none)) else (none)) else (none)) else (none)) else (some x5)
def impl_combined.l1:Nat→List ByteArray→List ByteArray→List Int→ByteArray→List (List Int)→Int→Int→List ByteArray→Int→Int→Option (List ByteArray)
 | 0,_,_,_,_,_,_,_,_,_,_=>none
 | k+1,x1,x5,x7,x8,x12,x13,x14,x24,x25,x26=>if x26 < x25 then (if 0≤x26 then (if x26 < (x24.length:Int) then (if x26 < (x7.length:Int) then ((impl_timesOf.f k (rd x7 x26) (rdOf ByteArray.empty x24 x26)).bind fun t369=>((impl_sumOf.f k x8 t369).bind fun t370=>(impl_combined.l1 k x1 x5 x7 t370 x12 x13 x14 x24 x25 (wrap64 (x26+1))))) else (none)) else (none)) else (none)) else (if x5.length < 8796093022208 then (impl_combined.l0 k x1 (x5 ++ [x8]) x12 x13 (wrap64 (x14+1))) else (none))
end
def impl_combined.f (k:Nat) (l0:List (List Int)) (l1:List ByteArray):Option (List ByteArray):=impl_combined.l0 k l1 (([]:List ByteArray)) l0 (l0.length:Int) 0
theorem impl_combined.mono_l:∀ k,(∀ y0 y1 y2 y3 y4,LeO (impl_combined.l0 k y0 y1 y2 y3 y4) (impl_combined.l0 (k+1) y0 y1 y2 y3 y4))∧(∀ y0 y1 y2 y3 y4 y5 y6 y7 y8 y9,LeO (impl_combined.l1 k y0 y1 y2 y3 y4 y5 y6 y7 y8 y9) (impl_combined.l1 (k+1) y0 y1 y2 y3 y4 y5 y6 y7 y8 y9))
 | 0=>⟨fun _ _ _ _ _ r h=>by simp [impl_combined.l0] at h,fun _ _ _ _ _ _ _ _ _ _ r h=>by simp [impl_combined.l1] at h⟩
 | k+1=>by
  obtain ⟨ih0,ih1⟩:=impl_combined.mono_l k
  refine ⟨?_,?_⟩
  ·intro y0 y1 y2 y3 y4
   unfold impl_combined.l0
   exact mm
  intro y0 y1 y2 y3 y4 y5 y6 y7 y8 y9
  unfold impl_combined.l1
  exact mm
theorem impl_combined.mono:∀ a0 a1 k,LeO (impl_combined.f k a0 a1) (impl_combined.f (k+1) a0 a1):=by
 intro a0 a1 k
 obtain ⟨ih0,ih1⟩:=impl_combined.mono_l k
 unfold impl_combined.f
 exact mm
theorem impl_combined.calls (k:Nat) (A0:Option Addr) (c0:Nat) (l0:List (List Int)) (A1:Option Addr) (c1:Nat) (l1:List ByteArray) (r:List ByteArray) (w:World) (hr0:Kd.C (Kd.slice 5 (Kd.int .u8)) w A0 l0.length l0) (hc0:l0.length≤c0) (hr1:Kd.C Kd.string w A1 l1.length l1) (hc1:l1.length≤c1) (h:impl_combined.f k l0 l1=some r) :
  Calls Try.prog 100 #[.slice A0 l0.length c0, .slice A1 l1.length c1] w fun e w'=>∃ v0_:Value,e = .returned (v0_)∧Kd.R Kd.string 9 w' w.heap.size (fun _=>True) v0_ r∧Below w.heap.size w w':=by
 have HR0:=am hr0
 have HC0:=am hc0
 clear hr0 hc0
 have HR1:=am hr1
 have HC1:=am hc1
 clear hr1 hc1
 have HB:=am (Below.refl w.heap.size w)
 have H:=h
 unfold impl_combined.f at H
 clear h
 generalize hy359:(([]:List ByteArray):List ByteArray)=y359 at H
 have Ny359:=am hy359.symm
 clear hy359
 have H':=am H
 clear H
 go_enter Try.func100,Try.ntmps100
 go_wp2_with (first|((with_reducible refine gD 11 ?_);refine Kd.R_lit Kd.string _ 9 D11 (N:=11) D11 (xs:=([]:List ByteArray)) (inner:=[]) (ok:=fun _=>True) (okp:=fun _=>True) D16 D25 (fun _ hk=>hk) trivial (Below.refl _ _) (Nat.le_refl _) D36 ?_;intro v360 w3 ho4 hb hg_ hnew_;clear hg_ hnew_;(first|rw [← Ny359.out] at ho4|(simp only [Int.reduceToNat] at ho4;rw [← Ny359.out] at ho4));have HO361:=am (Kd.R_lower ho4 (pz (yW HB)));replace HB:=yH HB hb;clear hb ho4))
 go_loopg [5,14] k (fun kq v5 v14 w'=>∃ (x5_1:List ByteArray) (x14_1:Int),v14 = .int .i64 x14_1∧Aside0 (impl_combined.l0 kq l1 x5_1 l0 (l0.length:Int) x14_1=some r)∧Aside0 (kq≤k)∧Aside0 (Kd.R Kd.string 9 w' w.heap.size (fun _=>True) v5 x5_1)∧Aside0 (Below w.heap.size w w'))
 case atStart=>exact ⟨(y359),(0),D2,H',⟨Nat.le_refl _⟩,⟨yR HO361⟩,⟨yW HB⟩⟩
 case round =>
  clear H'
  try clear c1
  try clear p2
  obtain ⟨x5_1,x14_1,rfl,HA,HK1,HO_5,HB⟩:=hrel
  cases gk with
  | zero=>exact absurd HA.out (by simp [impl_combined.l0])
  | succ k1 =>
   have H:=HA.out
   clear HA
   simp only [impl_combined.l0] at H
   by_cases c5:x14_1 < (l0.length:Int)
   ·rw [if_pos c5] at H
    have c5b0:=decide_eq_true c5
    clear c5
    obtain ⟨c6,H⟩:=yi H
    have c6b0:=decide_eq_true c6
    clear c6
    obtain ⟨c7,H⟩:=yi H
    have c7b0:=decide_eq_true c7
    clear c7
    obtain ⟨c8,H⟩:=yi H
    have c8b0:=decide_eq_true c8
    have c8b1:decide (0 < l1.length)=true:=decide_eq_true D5
    clear c8
    obtain ⟨c9,H⟩:=yi H
    have c9b0:=eq_true c9
    have c9b1:decide (0≤((rdOf ByteArray.empty l1 0).size:Int))=true:=decide_eq_true c9
    clear c9
    obtain ⟨c10,H⟩:=yi H
    have c10b0:=eq_true c10
    have c10b1:decide ((((rdOf ByteArray.empty l1 0).size:Int):Int).toNat≤281474976710656)=true:=decide_eq_true c10
    clear c10
    generalize hy364:(List.replicate (((rdOf ByteArray.empty l1 0).size:Int):Int).toNat 0:List Int)=y364 at H
    have Ny364:=am hy364.symm
    clear hy364
    have H':=am H
    clear H
    have p362:0≤(x14_1:Int):=od D0
    have q362:x14_1 < (l0.length:Int):=od D0
    obtain ⟨ad362,A362_0,c362_0,e362,hx362_0,hl362_0,hi362_0⟩:=at_L1 HR0.out x14_1 p362 q362
    cases e362
    replace hx362_0:=(HB.out.cell (World.block_lt_of_cell? w _ hx362_0)).trans hx362_0
    have HR362_0:=am hi362_0
    have HC362_0:=am hl362_0
    clear hi362_0 hl362_0
    replace p362:=eq_true p362
    replace q362:=eq_true q362
    have p363:0≤(0:Int):=D5
    have q363:0 < (l1.length:Int):=od D0
    obtain ⟨ad363,e363,hx363_0⟩:=Kd.at_string HR1.out 0 p363 q363
    cases e363
    have qi363:(0 < l1.length)=True:=eq_true D5
    (try rw [show ((0:Int)).toNat=0 from rfl] at hx363_0)
    (try rw [Addr.add_zero'] at hx363_0)
    replace hx363_0:=(HB.out.cell (World.block_lt_of_cell? w _ hx363_0)).trans hx363_0
    replace p363:=eq_true p363
    replace q363:=eq_true q363
    go_wp2_with (first|((with_reducible refine gD 22 ?_);refine Kd.R_make (Kd.int .u8) _ 5 rfl (N:=22) rfl 57 _ _ rfl ((rdOf ByteArray.empty l1 0).size:Int) rfl rfl Try.underlying57 (.int .u8 0) 1 info5 rfl D4 D5 0 (ok:=fun _=>True) (okp:=fun _=>True) rfl (fun _ hk=>hk) trivial (od D0) (Nat.le_trans (Nat.mul_le_mul_right _ (od D0:((rdOf ByteArray.empty l1 0).size:Int).toNat≤281474976710656)) D5) (Below.refl _ _) (Nat.le_refl _) ?_;intro v365 w11 ho12 hb hg_ hnew_;clear hg_ hnew_;(first|rw [← Ny364.out] at ho12|(simp only [Int.reduceToNat] at ho12;rw [← Ny364.out] at ho12));replace HO_5:=bR HO_5 hb;have HO366:=am (Kd.R_lower ho12 (pz (yW HB)));replace HB:=yH HB hb;clear hb ho12;have hcv13:=own_string (P:=Try.prog) Try.underlying57 Try.underlying5 Try.underlying9 (Kd.own_of_R HO366.out)))
    go_loopg [8,26] k1 (fun kq v8 v26 w'=>∃ (x8_2:ByteArray) (x26_2:Int),v8 = .string x8_2∧v26 = .int .i64 x26_2∧Aside0 (impl_combined.l1 kq l1 x5_1 (rd_L1 l0 x14_1) x8_2 l0 (l0.length:Int) x14_1 l1 (l1.length:Int) x26_2=some r)∧Aside0 (kq≤k1)∧Aside0 (Kd.R Kd.string 9 w' w.heap.size (fun _=>True) u5 x5_1)∧Aside0 (Below w.heap.size w w'))
    case atStart=>exact ⟨(strOfNums y364),(0),D2,D2,H',⟨Nat.le_refl _⟩,⟨yR HO_5⟩,⟨yW HB⟩⟩
    case round =>
     clear H'
     try clear c1
     try clear hcv1
     try clear p2
     try clear c3
     try clear p3
     try clear q3
     try clear hx3
     try clear qi3
     try clear c5
     try clear c5b0
     try clear c6
     try clear c6b0
     try clear c7
     try clear c7b0
     try clear c8
     try clear c8b0
     try clear c8b1
     try clear c9
     try clear c9b0
     try clear c9b1
     try clear c10
     try clear c10b0
     try clear c10b1
     try clear hcv13
     try clear hx362_0
     try clear hx363_0
     try clear p2
     try clear p362
     try clear p363
     try clear q362
     try clear q363
     obtain ⟨x8_2,x26_2,rfl,rfl,HA,HK2,HO_5,HB⟩:=hrel
     cases gk with
     | zero=>exact absurd HA.out (by simp [impl_combined.l1])
     | succ k2 =>
      have H:=HA.out
      clear HA
      simp only [impl_combined.l1] at H
      by_cases c14:x26_2 < (l1.length:Int)
      ·rw [if_pos c14] at H
       have c14b0:=decide_eq_true c14
       clear c14
       obtain ⟨c15,H⟩:=yi H
       have c15b0:=decide_eq_true c15
       clear c15
       obtain ⟨c16,H⟩:=yi H
       have c16b0:=decide_eq_true c16
       clear c16
       obtain ⟨c17,H⟩:=yi H
       have c17b0:=decide_eq_true c17
       clear c17
       obtain ⟨t369,A18,H⟩:=yo H
       obtain ⟨t370,A19,H⟩:=yo H
       have H':=am H
       clear H
       have p367:0≤(x26_2:Int):=od D0
       have q367:x26_2 < (l1.length:Int):=od D0
       obtain ⟨ad367,e367,hx367_0⟩:=Kd.at_string HR1.out x26_2 p367 q367
       obtain rfl:ad363=ad367:=(by injection e367)
       replace hx367_0:=(HB.out.cell (World.block_lt_of_cell? w _ hx367_0)).trans hx367_0
       replace p367:=eq_true p367
       replace q367:=eq_true q367
       have p368:0≤(x26_2:Int):=od D0
       have q368:x26_2 < ((rd_L1 l0 x14_1).length:Int):=od D0
       obtain ⟨ad368,e368,hx368_0⟩:=Kd.at_int HR362_0.out x26_2 p368 q368
       cases e368
       replace hx368_0:=(HB.out.cell (World.block_lt_of_cell? w _ hx368_0)).trans hx368_0
       replace p368:=eq_true p368
       replace q368:=eq_true q368
       go_wp2_with (first|((with_reducible refine gC 182 ?_);refine gM (some 37) Try.func182 (args:=#[.int .u8 (rd (rd_L1 l0 x14_1) x26_2), .string (rdOf ByteArray.empty l1 x26_2)]) (impl_timesOf.calls k2 (rd (rd_L1 l0 x14_1) x26_2) (rdOf ByteArray.empty l1 x26_2) t369 _ A18.out) ?_;rintro e w20 ⟨rfl,hb⟩;refine ⟨_,rfl,?_⟩;replace HO_5:=bR HO_5 hb;replace HB:=yH HB hb;clear hb)|((with_reducible refine gC 181 ?_);refine gM (some 38) Try.func181 (args:=#[.string x8_2, .string t369]) (impl_sumOf.calls k2 x8_2 t369 t370 _ A19.out) ?_;rintro e w21 ⟨rfl,hb⟩;refine ⟨_,rfl,?_⟩;replace HO_5:=bR HO_5 hb;replace HB:=yH HB hb;clear hb))
       go_roundg k2
       case measure=>have:=HK1.out;have:=HK2.out;omega
       case rel=>exact ⟨(t370),(wrap64 (x26_2+1)),D2,D2,H',⟨D37⟩,⟨yR HO_5⟩,⟨yW HB⟩⟩
      rw [if_neg c14] at H
      have c14b0:=decide_eq_false c14
      clear c14
      obtain ⟨c22,H⟩:=yi H
      have LMc22:=am c22
      clear c22
      generalize hy371:(x5_1 ++ [x8_2]:List ByteArray)=y371 at H
      have Ny371:=am hy371.symm
      clear hy371
      have H':=am H
      clear H
      go_wp2_with (first|((with_reducible refine gate_builtin (b:=.append) (xs:=#[.tmp 40, .tmp 42]) rfl ?_);at_builtin;refine Kd.R_append Kd.string (w0:=w) w.heap.size rfl (.tmp 40) (.tmp 42) 22 9 (.string ⟨#[]⟩) 16 rfl Try.underlying22 info9 rfl D4 D5 u5 x5_1 x8_2 [.string x8_2] (fun _=>True) (fun _=>False) rfl rfl D75 (fun _ hk=>hk.elim) D34 (by exact (yR HO_5)) D46 D26 (by have:=LMc22.out;omega) ?_;intro v372 w23 ho hb hg hat;rw [← Ny371.out] at ho;have n0_:=am (hb);have n1_:=am (ho);clear HB HO_5;have HB:=n0_;have HO373:=n1_;clear n0_ n1_ ho hb hg hat))
      go_roundg k2
      case measure=>have:=HK1.out;have:=HK2.out;omega
      case rel=>exact ⟨(y371),(wrap64 (x14_1+1)),D2,H',⟨D37⟩,⟨yR HO373⟩,⟨yW HB⟩⟩
   rw [if_neg c5] at H
   have c5b0:=decide_eq_false c5
   clear c5
   obtain rfl:=Option.some.inj H
   go_wp2
   go_ret
   exact ⟨_,D1,yR HO_5,yW HB⟩

def slices_Clone_byte_byte.f (l0:List Int):Option (List Int):=(some (([]:List Int):List Int)).bind fun y181=>(if y181.length+l0.length < 140737488355328 then (some (y181 ++ l0)) else (none))
theorem slices_Clone_byte_byte.calls (A0:Option Addr) (c0:Nat) (l0:List Int) (r:List Int) (w:World) (hr0:Kd.C (Kd.int .u8) w A0 l0.length l0) (hc0:l0.length≤c0) (h:slices_Clone_byte_byte.f l0=some r) :
  Calls Try.prog 183 #[.slice A0 l0.length c0] w fun e w'=>∃ v0_:Value,e = .returned (v0_)∧Kd.R (Kd.int .u8) 5 w' w.heap.size (fun _=>True) v0_ r∧Below w.heap.size w w':=by
 have HR0:=am hr0
 have HC0:=am hc0
 clear hr0 hc0
 have HB:=am (Below.refl w.heap.size w)
 have H:=h
 unfold slices_Clone_byte_byte.f at H
 clear h
 obtain ⟨y181,hy181,H⟩:=ys H
 have Ny181:=am hy181
 clear hy181
 by_cases c2:y181.length+l0.length < 140737488355328
 ·rw [if_pos c2] at H
  have LMc2:=am c2
  clear c2
  generalize hy184:(y181 ++ l0:List Int)=y184 at H
  have Ny184:=am hy184.symm
  clear hy184
  obtain rfl:=Option.some.inj H
  have keq:=fun (W:World) (a:Option Addr) (n c:Nat)=>Lib.run_eql_slice_nil (P:=Try.prog) W 57 5 a n c 0 0 Try.underlying57
  cases A0 with
  | none =>
   have e0:l0=[]:=by
    have hc:=HR0.out
    by_cases hp:0 < l0.length
    ·obtain ⟨ad,h1,_⟩:=hc.2.2 hp
     cases h1
    exact List.eq_nil_of_length_eq_zero D5
   have ey:y184=[]:=by rw [Ny184.out,Ny181.out,e0];rfl
   subst ey
   go_enter Try.func183,Try.ntmps183
   go_wp2
   go_ret
   exact ⟨_,rfl,Kd.R_nil _ _ _ _ _,HB.out⟩
  | some ad0 =>
  go_enter Try.func183,Try.ntmps183
  go_wp2_with (first|((with_reducible refine gD 5 ?_);refine Kd.R_lit (Kd.int .u8) _ 5 D11 (N:=5) D11 (xs:=([]:List Int)) (inner:=[]) (ok:=fun _=>True) (okp:=fun _=>True) D16 D25 (fun _ hk=>hk) trivial (Below.refl _ _) (Nat.le_refl _) D36 ?_;intro v182 w3 ho4 hb hg_ hnew_;clear hg_ hnew_;(first|rw [← Ny181.out] at ho4|(simp only [Int.reduceToNat] at ho4;rw [← Ny181.out] at ho4));have HO183:=am (Kd.R_lower ho4 (pz (yW HB)));replace HB:=yH HB hb;clear hb ho4)|((with_reducible refine gate_builtin (b:=.append) (xs:=#[.tmp 5, .tmp 6]) rfl ?_);at_builtin;refine Kd.R_append_rows (Kd.int .u8) (w0:=w) w.heap.size rfl (.tmp 5) (.tmp 6) 57 5 (.int .u8 0) 1 rfl Try.underlying57 info5 rfl D4 D5 v182 y181 l0 _ _ _ (fun _=>True) (fun _=>False) rfl rfl (by exact (yR HO183)) (by repeat (first|exact (Kd.C_below HR0.out HB.out)|(with_reducible refine Kd.C_alloc ?_ _)|(with_reducible refine Kd.C_drewN ?_ _)|(with_reducible refine Kd.C_drew ?_))) (fun _ _ h=>h) (fun _ h=>h.elim) D34 D46 D26 (by have:=LMc2.out;omega) ?_;intro v185 w5 ho hb hg hat;rw [← Ny184.out] at ho;have n0_:=am (hb);have n1_:=am (ho);clear HB HO183;have HB:=n0_;have HO186:=n1_;clear n0_ n1_ ho hb hg hat))
  go_ret
  exact ⟨_,D1,yR HO186,yW HB⟩
 rw [if_neg c2] at H
 exact absurd H D36
end
section
section
open Go.Proofs.Ytajikfnpcobnpaa.Gf Go.Proofs.Ytajikfnpcobnpaa.Kit Go.Proofs.Ytajikfnpcobnpaa.KitW Go.Proofs.Ytajikfnpcobnpaa.KitN
namespace ImplInv
theorem impl_identity.ev_l0 (n:Nat) (hn:n≤1048576):∀ (d i:Nat) (o:List (List Int)),i+d=n→o=(idM n).take i→Ev (fun k=>impl_identity.l0 k (n:Int) o (n:Int) (i:Int)) (idM n)
 | 0,i,o,hi,ho=>by
  refine Ev.step (fun k=>impl_identity.l0.eq_2 _ _ _ _ k) ?_
  refine ev_neg D5 (ev_now ?_)
  rw [ho,List.take_of_length_le (by simp [idM];omega)]
 | d+1,i,o,hi,ho=>by
  have hl:o.length=i:=by rw [ho,List.length_take];simp [idM];omega
  refine Ev.step (fun k=>impl_identity.l0.eq_2 _ _ _ _ k) ?_
  simp only [Option.bind_some,Int.toNat_natCast,List.length_replicate]
  refine ev_pos D5 (ev_pos D5 (ev_pos D5 (ev_pos D5 (ev_pos D5 (ev_pos D5 ?_)))))
  rw [inc D5]
  refine impl_identity.ev_l0 n hn d (i+1) _ D5 ?_
  rw [List.take_succ_eq_append_getElem (by simp [idM];omega),← ho]
  simp [idM]
theorem impl_identity.ev (n:Nat) (hn:n≤1048576):Ev (fun k=>impl_identity.f k (n:Int)) (idM n):=by
 unfold impl_identity.f
 exact impl_identity.ev_l0 n hn n 0 [] D5 rfl
end ImplInv
theorem iv_info8:(Try.prog.info? 5).map (fun i=>(i.zero,i.size,i.bytes))=some (some (.int .u8 0),1,1):=by kernel_rfl
theorem iv_info:(Try.prog.info? 57).map (fun i=>(i.zero,i.size,i.bytes))=some (some (.slice none 0 0),1,24):=by kernel_rfl
def impl_inverseOf.f (l0:List (List Int)):Option (List (List Int) × Bool):=if sqN l0=true then some (invM l0) else none
/-- The first loop: rows with the identity's beside them. -/
structure IV (w:World) (l0:List (List Int)) (ad15:Addr) (i:Nat) (v5:Value) (wr:World):Prop where
 N:Kd.N (Kd.slice 5 (Kd.int .u8)) 57 wr w.heap.size (fun _=>True) v5 ((catM l0).take i)
 F:Kd.F (Kd.slice 5 (Kd.int .u8)) wr (fun k=>True∧some k ≠ v5.ownBlock) (some ad15) l0.length (idM l0.length)
 B:Below w.heap.size w wr
theorem IV.below {w wr w1:World} {l0:List (List Int)} {ad15:Addr} {i:Nat} {v5:Value} (h:IV w l0 ad15 i v5 wr) (hb:Below wr.heap.size wr w1):IV w l0 ad15 i v5 w1:=⟨Kd.N_below h.N hb,Kd.F_below h.F hb,pu h.B hb⟩
theorem IV.row {w wr:World} {l0:List (List Int)} {ad15:Addr} {i:Nat} {v5:Value} (h:IV w l0 ad15 i v5 wr) (j:Nat) (hj:j < l0.length) :
  ∃ A c,wr.cell? (ad15.add j)=some (.slice A ((idM l0.length).getD j []).length c)∧((idM l0.length).getD j []).length≤c∧Kd.F (Kd.int .u8) wr (fun k=>True∧some k ≠ v5.ownBlock) A ((idM l0.length).getD j []).length ((idM l0.length).getD j []):=by
 obtain ⟨ad,c,e,_,hK,hcc,_⟩:=Kd.F_get h.F ([]:List Int) (j:Int) D5 D5
 injection e with e
 subst e
 rw [Int.toNat_natCast] at hK hcc
 obtain ⟨A,c1,rfl,hle,hF⟩:=Kd.FK_slice_open hK
 have h0:=hcc 0 _ rfl
 have hsz:(Kd.slice 5 (Kd.int .u8)).sz=1:=rfl
 rw [hsz,Nat.mul_one,Nat.add_zero] at h0
 exact ⟨A,c1,h0,hle,hF⟩
/-- The second loop: what stands beside is copied out. -/
structure IW (w:World) (D:List (List Int)) (n g cap len:Nat) (i:Nat) (v8:Value) (wr:World):Prop where
 N:Kd.N (Kd.slice 5 (Kd.int .u8)) 57 wr w.heap.size (fun k=>True∧some k ≠ v8.ownBlock) (.slice (some ⟨g,0,none⟩) len cap) D
 S:Kd.S (Kd.slice 5 (Kd.int .u8)) 57 wr w.heap.size (fun _=>True) v8 ((D.map (List.drop n)).take i)
 B:Below w.heap.size w wr
theorem impl_inverseOf.calls (A0:Option Addr) (c0:Nat) (l0:List (List Int)) (r1:List (List Int)) (r2:Bool) (w:World) (hr0:Kd.C (Kd.slice 5 (Kd.int .u8)) w A0 l0.length l0) (hc0:l0.length≤c0) (h:impl_inverseOf.f l0=some (r1,r2)) :
  Calls Try.prog 101 #[.slice A0 l0.length c0] w fun e w'=>∃ v0_:Value,e = .returned (.tuple #[v0_, .bool r2])∧Kd.S (Kd.slice 5 (Kd.int .u8)) 57 w' w.heap.size (fun _=>True) v0_ r1∧Below w.heap.size w w':=by
 unfold impl_inverseOf.f at h
 by_cases hs:sqN l0=true
 case neg=>rw [if_neg hs] at h;cases h
 rw [if_pos hs] at h
 have hrr:invM l0=(r1,r2):=Option.some.inj h
 clear h
 obtain ⟨h1,h2,h3⟩:=sqN_iff.1 hs
 clear hs
 obtain ⟨ad0,rfl,_⟩:=hr0.2.2 D5
 obtain ⟨n,hn⟩:∃ n,n=l0.length:=⟨_,rfl⟩
 obtain ⟨kI,hI⟩:=(ImplInv.impl_identity.ev l0.length D5).rounds
 have HI:=am hI
 have HN:=am hn
 have HR0:=am hr0
 have HO3:=am h3
 have HRR:=am hrr
 rw [← hn] at h1 h2 hc0 ⊢
 clear hI hn hr0 h3 hrr
 have HB:=am (Below.refl w.heap.size w)
 go_enter Try.func101,Try.ntmps101
 go_wp2_with (first|((with_reducible refine gD 13 ?_);refine Kd.N_lit (Kd.slice 5 (Kd.int .u8)) _ 57 D11 (N':=13) D11 (xs:=([]:List (List Int))) (inner:=[]) (ok:=fun _=>True) (okp:=fun _=>True) D16 D25 (fun _ hk=>hk) trivial (Below.refl _ _) (Nat.le_refl _) D36 ?_;intro v13 w3 ho4 hb hg_ hnew_;clear hg_ hnew_;have HO:=am ho4;clear HB;have HB:=am hb;clear hb ho4)|fail)
 have hI:impl_identity.f kI (n:Int)=some (idM l0.length):=by rw [HN.out];exact HI.out
 refine (impl_identity.calls kI (n:Int) (idM l0.length) _ hI).mono ?_
 clear hI
 rintro e w4 ⟨v15,rfl,ho,hb⟩
 obtain ⟨g15,c15,e15,_⟩:=Kd.S_form ho (by rw [idM_length];have:=HN.out;omega)
 rw [idM_length] at e15
 have hN4:=Kd.N_below HO.out hb
 have hlt:=Kd.N_lt HO.out
 have HX:=am (show IV w l0 ⟨g15,0,none⟩ 0 v13 w4 from ⟨by simpa using hN4,by
  have hS:=Kd.S_F (n:=l0.length) (by rw [e15] at ho;exact Kd.S_mono (Kd.S_bound ho) (ok':=fun k=>True∧some k ≠ v13.ownBlock) (fun k hk=>⟨trivial,fun e=>by have:=hlt k e.symm;have:=hk.2.1;omega⟩))
  exact hS,pu HB.out hb⟩)
 rw [← HN.out] at e15
 subst e15
 clear HO HB hb ho hN4 hlt
 go_wp2_with fail
 go_loopg [5,17] (n+1) (fun fu v5 v17 wr=>∃ i:Nat,i≤n∧n - i < fu∧v17 = .int .i64 i∧Aside0 (IV w l0 ⟨g15,0,none⟩ i v5 wr))
 case atStart=>exact ⟨0,Nat.zero_le _,D5,rfl,HX⟩
 case round =>
  clear HX
  obtain ⟨i,hi,hfu,rfl,HX⟩:=hrel
  by_cases hin:i < n
  case neg =>
   have e:i=n:=by omega
   subst e
   have hrz:¬ (i:Int) < (i:Int):=by omega
   have hdr:decide ((i:Int) < (i:Int))=false:=decide_eq_false hrz
   obtain ⟨g,cap,eg,_⟩:=Kd.N_form HX.out.N (by rw [List.length_take,catM_length];have:=HN.out;omega)
   rw [List.length_take,catM_length,← HN.out,Nat.min_self] at eg
   subst eg
   have hN:=HX.out.N
   rw [List.take_of_length_le (by rw [catM_length];have:=HN.out;omega)] at hN
   have HN1:=am hN
   have HB:=am HX.out.B
   clear hN HX
   obtain ⟨D,hD⟩:∃ D,D=(rowI.red (catM l0) l0.length).1:=⟨_,rfl⟩
   obtain ⟨z,hz⟩:∃ z,z=(redP l0 (idM l0.length) l0.length).2:=⟨_,rfl⟩
   have HD:=am hD
   have HZ:=am hz
   have HE:=am (impl_eliminate.calls (catM l0) (l0.length+l0.length) l0.length (catM_ok HO3.out) D5 D62 (by rw [catM_length];have:=HN.out;omega) g cap i (by rw [catM_length];exact HN.out.symm) w wr HB.out HN1.out)
   rw [← HN.out,HN.out,← hD,show (rowI.red (catM l0) l0.length).2=z by rw [hz,catM_red HO3.out],← HN.out] at HE
   clear hD hz HN1 HB
   go_wp2_with fail
   refine HE.out.mono ?_
   clear HE
   rintro e w5 ⟨rfl,hN,hB⟩
   have HN1:=am hN
   have HB:=am hB
   have HDA:=am (show ∀ r ∈ D,okI (i+i) r by rw [HD.out];have z:=RowK.red_all (shutI (l0.length+l0.length)) (catM_ok HO3.out) l0.length;rw [← HN.out] at z ⊢;exact z)
   have HDL:=am (show D.length=i by rw [HD.out,RowK.red_length,catM_length];exact HN.out.symm)
   clear hN hB
   by_cases hzi:z < i
   case pos =>
    have hzz:(z:Int) < (i:Int):=by omega
    have hdz:decide ((z:Int) < (i:Int))=true:=decide_eq_true hzz
    go_wp2_with fail
    go_ret2
    have e:=HRR.out
    unfold invM at e
    rw [← HZ.out,← HN.out,if_pos hzi] at e
    injection e with e1 e2
    subst e1 e2
    exact ⟨_,rfl,Kd.S_nil _ _ _ _ _,HB.out⟩
   have hzz:¬ (z:Int) < (i:Int):=by omega
   have hdz:decide ((z:Int) < (i:Int))=false:=decide_eq_false hzz
   have HRE:=am (show D.map (List.drop i)=r1∧r2=true by
    have e:=HRR.out
    unfold invM at e
    rw [← HZ.out,if_neg D62,← catM_out HO3.out,← HD.out,← HN.out] at e
    injection e with e1 e2
    exact ⟨e1,e2.symm⟩)
   obtain ⟨_,rfl⟩:=HRE.out
   go_wp2_with (first|((with_reducible refine gD 38 ?_);refine Kd.S_lit (Kd.slice 5 (Kd.int .u8)) _ 57 D11 (N:=38) D11 (xs:=([]:List (List Int))) (inner:=[]) (ok:=fun _=>True) (okp:=fun _=>True) D16 D25 (fun _ hk=>hk) trivial (Below.refl _ _) (Nat.le_refl _) D36 ?_;intro v38 w6 ho6 hb6 hg6 hnew6;clear hg6 hnew6;have HX:=am (show IW w D i g cap i 0 v38 w6 from ⟨Kd.N_elder' HN1.out (Kd.S_base ho6) hb6,by rw [List.take_zero];exact Kd.S_lower ho6 HB.out.size,pu HB.out hb6⟩);clear HN1 HB ho6 hb6)|fail)
   go_loopg [8,41] (i+1) (fun fu v8 v41 wr=>∃ j:Nat,j≤i∧i - j < fu∧v41 = .int .i64 j∧Aside0 (IW w D i g cap i j v8 wr))
   case atStart=>exact ⟨0,Nat.zero_le _,D5,rfl,HX⟩
   case round =>
    clear HX
    obtain ⟨j,hj,hfu2,rfl,HX⟩:=hrel
    by_cases hji:j < i
    case neg =>
     have e:j=i:=by omega
     subst e
     have hrz:¬ (j:Int) < (j:Int):=by omega
     have hdr:decide ((j:Int) < (j:Int))=false:=decide_eq_false hrz
     go_wp2_with fail
     go_ret2
     have hS:=HX.out.S
     rw [List.take_of_length_le (by rw [List.length_map,HDL.out];omega),HRE.out.1] at hS
     exact ⟨_,rfl,hS,HX.out.B⟩
    have hrz:(j:Int) < (i:Int):=by omega
    have hdr:decide ((j:Int) < (i:Int))=true:=decide_eq_true hrz
    obtain ⟨A44,c44,hcell44,hle44,hF44,_⟩:=N_row HX.out.N j hji
    obtain ⟨dj,hdj⟩:∃ x,x=D.getD j []:=⟨_,rfl⟩
    rw [← hdj] at hcell44 hle44 hF44
    have hok:okI (i+i) dj:=by rw [hdj];exact RowK.at_all (O:=rowI) HDA.out (by rw [HDL.out];exact hji)
    have hdl:=hok.2
    obtain ⟨ad44,rfl,_⟩:=F_byte hF44 0 D5
    have hCd:=Kd.F_now (Kd.F_cut (m:=i) hF44 D5 hle44)
    rw [hdl] at hcell44 hle44
    have hcn:(c44=i)=False:=eq_false D5
    have hci:i≤c44:=by omega
    rw [if_neg D5,show (some ad44).map (fun x=>x.add (i*(Kd.int .u8).sz))=some (ad44.add i) from by show some (ad44.add (i*1))=_;rw [Nat.mul_one]] at hCd
    have hdd:(dj.drop i).length=i:=by rw [List.length_drop];omega
    have hcl:=slices_Clone_byte_byte.calls _ (c44 - i) (dj.drop i) (dj.drop i) wr hCd D5 (by unfold slices_Clone_byte_byte.f;simp;omega)
    rw [hdd] at hcl
    have HDJ:=am hdj
    have HCL:=am hcl
    clear hcl hCd hF44 hok hdj
    go_wp2_with fail
    refine HCL.out.mono ?_
    clear HCL
    rintro e w6 ⟨v49,rfl,ho,hb⟩
    obtain ⟨A49,c49,e49⟩:=Kd.R_slice ho
    rw [hdd] at e49
    subst e49
    have HO:=am (Kd.R_lower (Kd.R_mono (Kd.R_bound ho) (ok':=fun k=>wr.heap.size≤k) (fun k hk=>hk.2.1)) HX.out.B.size)
    have HLT:=am (Kd.S_lt HX.out.S)
    have HS:=am (Kd.S_mono (Kd.S_below (Kd.S_bound HX.out.S) hb) (ok':=fun k=>True∧¬ wr.heap.size≤k) (fun k hk=>⟨trivial,by have:=hk.2.2.1;omega⟩))
    have HN1:=am (Kd.N_below HX.out.N hb)
    have HB:=am (pu HX.out.B hb)
    clear HX ho hb
    go_wp2_with (first|((with_reducible refine gate_builtin (b:=.append) (xs:=#[.tmp 45, .tmp 50]) rfl ?_);at_builtin;refine Kd.S_append (Kd.slice 5 (Kd.int .u8)) (w0:=w) w.heap.size rfl (.tmp 45) (.tmp 50) 37 57 (.slice none 0 0) 24 rfl Try.underlying37 iv_info rfl D4 D5 u8 ((D.map (List.drop i)).take j) (dj.drop i) [.slice A49 i c49] (fun _=>True) (fun k=>wr.heap.size≤k) rfl rfl (Kd.M_row HO.out) (fun k hk=>⟨trivial,fun e=>by have:=HLT.out k e.symm;omega⟩) (fun _ _=>trivial) HS.out HB.out HB.out.size (by rw [List.length_take];omega) ?_;intro v51 w7 ho7 hb7 hg7 hat7;have HX:=am (show IW w D i g cap i (j+1) v51 w7 from ⟨Kd.N_after HN1.out hg7 hat7,by rw [List.take_succ_eq_append_getElem (by rw [List.length_map,HDL.out];exact hji),List.getElem_map,show D[j]'(by rw [HDL.out];exact hji)=dj from by rw [HDJ.out,List.getD_eq_getElem?_getD,List.getElem?_eq_getElem (by rw [HDL.out];exact hji)];rfl];exact ho7,hb7⟩);clear HO HLT HS HN1 HB ho7 hb7 hg7 hat7)|fail)
    go_roundg (i - j)
    case measure=>omega
    case rel=>exact ⟨j+1,D5,D5,by go_num,HX⟩
  have hrz:(i:Int) < (n:Int):=by omega
  have hdr:decide ((i:Int) < (n:Int))=true:=decide_eq_true hrz
  obtain ⟨A21,c21,hcell21,hle21,hF21⟩:=HX.out.row i D62
  obtain ⟨ad,A26,c26,e26,hcell26,hle26,hC26⟩:=C_row (Kd.C_below HR0.out HX.out.B) i D62
  injection e26 with e26
  subst e26
  obtain ⟨li,hli⟩:∃ x,x=l0.getD i []:=⟨_,rfl⟩
  obtain ⟨di,hdi⟩:∃ x,x=(idM l0.length).getD i []:=⟨_,rfl⟩
  rw [← hdi] at hcell21 hle21 hF21
  rw [add_plain] at hcell21
  rw [← hli] at hcell26 hle26 hC26
  have HLI:=am hli
  have HDI:=am hdi
  clear hli hdi
  have hil:i < n:=hin
  have hl1:li.length=n:=by rw [HLI.out,HN.out];exact (RowK.at_all (O:=rowI) HO3.out (i:=i) D62).2
  have hd1:di.length=n:=by rw [HDI.out,HN.out];exact (RowK.at_all (O:=rowI) (idM_ok l0.length) (i:=i) (by rw [idM_length];have:=HN.out;omega)).2
  have hcl:=slices_Clone_byte_byte.calls A26 c26 li li wr hC26 hle26 (by unfold slices_Clone_byte_byte.f;simp;omega)
  rw [hl1] at hcell26 hcl
  rw [hd1] at hcell21
  go_wp2_with fail
  refine hcl.mono ?_
  clear hcl
  rintro e w5 ⟨v27,rfl,ho,hb⟩
  have HX5:=HX.out.below hb
  have hF5:=am (Kd.F_below hF21 hb)
  have HO:=am ho
  have HB5:=am hb
  clear ho hb hF21 hcell21 hcell26 hC26 HX5
  go_wp2_with (first|((with_reducible refine gate_builtin (b:=.append) (xs:=#[.tmp 27, .tmp 28]) rfl ?_);at_builtin;refine Kd.R_append_rows (Kd.int .u8) (w0:=wr) wr.heap.size rfl (.tmp 27) (.tmp 28) 57 5 (.int .u8 0) 1 rfl Try.underlying57 iv_info8 rfl D4 D5 v27 li di A21 n c21 (fun _=>True) (fun _=>False) rfl rfl HO.out (by have z:=Kd.F_now hF5.out;rwa [hd1] at z) (fun _ _ h=>h) (fun _ h=>h.elim) (fun _ _=>trivial) HB5.out HB5.out.size (by rw [hl1];omega) ?_;intro v29 w6 ho6 hb6 hg6 hat6;obtain ⟨A29,c29,e29⟩:=Kd.R_slice ho6;rw [List.length_append,hl1,hd1] at e29;subst e29;have HX6:=am (HX.out.below hb6);have HO6:=am ho6;clear HO HB5 hF5 ho6 hb6 hg6 hat6)|((with_reducible refine gate_builtin (b:=.append) (xs:=#[.tmp 22, .tmp 30]) rfl ?_);at_builtin;refine Kd.N_append (Kd.slice 5 (Kd.int .u8)) (w0:=w) w.heap.size rfl (.tmp 22) (.tmp 30) 37 57 (.slice none 0 0) 24 rfl Try.underlying37 iv_info rfl D4 D5 u5 ((catM l0).take i) (li ++ di) [.slice A29 (n+n) c29] (fun _=>True) (fun k=>wr.heap.size≤k) rfl rfl (FK_of_R (Kd.R_mono (Kd.R_bound HO6.out) (ok':=fun k=>wr.heap.size≤k) (fun k hk=>hk.2.1))) (fun k hk=>⟨trivial,fun e=>by have:=Kd.N_lt HX.out.N k e.symm;omega⟩) (fun _ _=>trivial) HX6.out.N HX6.out.B HX6.out.B.size (by rw [List.length_take];omega) ?_;intro v31 w7 ho7 hb7 hg7 hat7;rw [HLI.out,HDI.out,← catM_succ D62] at ho7;have HX7:=am (IV.mk ho7 (Kd.F_after HX6.out.F hg7 hat7) hb7);clear HX HX6 HO6 ho7 hb7 hg7 hat7))
  go_roundg (n - i)
  case measure=>omega
  case rel=>exact ⟨i+1,D5,D5,by go_num,HX7⟩
end

def impl_decoded.l0:Nat→List (List Int)→List (List Int)→List ByteArray→List (S84)→Int→Int→Option (List ByteArray × Bool)
 | 0,_,_,_,_,_,_=>none
 | k+1,x0,x6,x7,x14,x15,x16=>if x16 < x15 then (if 0≤x16 then (if x16 < (x14.length:Int) then (if 0≤((rd_T84 x14 x16).f0) then (if ((rd_T84 x14 x16).f0) < (x0.length:Int) then (if x6.length < 5864062014805 then (if x7.length < 8796093022208 then (impl_decoded.l0 k x0 (x6 ++ [rd_L1 x0 ((rd_T84 x14 x16).f0)]) (x7 ++ [(rd_T84 x14 x16).f1]) x14 x15 (wrap64 (x16+1))) else (none)) else (none)) else (none)) else (none)) else (none)) else (none)) else ((impl_inverseOf.f x6).bind fun bt389=>(if bt389.2=true then ((impl_combined.f k bt389.1 x7).bind fun t393=>(some (t393,true))) else (some (([]:List ByteArray),false))))
def impl_decoded.f (k:Nat) (l0:List (List Int)) (l1:List (S84)):Option (List ByteArray × Bool):=impl_decoded.l0 k l0 (([]:List (List Int))) (([]:List ByteArray)) l1 (l1.length:Int) 0
theorem impl_decoded.mono_l:∀ k,(∀ y0 y1 y2 y3 y4 y5,LeO (impl_decoded.l0 k y0 y1 y2 y3 y4 y5) (impl_decoded.l0 (k+1) y0 y1 y2 y3 y4 y5))
 | 0=>fun _ _ _ _ _ _ r h=>by simp [impl_decoded.l0] at h
 | k+1=>by
  have ih0:=impl_decoded.mono_l k
  intro y0 y1 y2 y3 y4 y5
  unfold impl_decoded.l0
  exact mm
theorem impl_decoded.mono:∀ a0 a1 k,LeO (impl_decoded.f k a0 a1) (impl_decoded.f (k+1) a0 a1):=by
 intro a0 a1 k
 have ih0:=impl_decoded.mono_l k
 unfold impl_decoded.f
 exact mm
theorem impl_decoded.calls (k:Nat) (P0_:Nat→Prop) (A0:Option Addr) (c0:Nat) (l0:List (List Int)) (A1:Option Addr) (c1:Nat) (l1:List (S84)) (r1:List ByteArray) (r2:Bool) (w:World) (hs0:Kd.V (Kd.slice 5 (Kd.int .u8)) 57 w w.heap.size (fun k_=>P0_ k_) (.slice A0 l0.length c0) l0) (hr1:Kd.C k84 w A1 l1.length l1) (hc1:l1.length≤c1) (h:impl_decoded.f k l0 l1=some (r1,r2)) :
  Calls Try.prog 146 #[.slice A0 l0.length c0, .slice A1 l1.length c1] w fun e w'=>∃ v0_:Value,e = .returned (.tuple #[v0_, .bool r2])∧Kd.R Kd.string 9 w' w.heap.size (fun k_=>(w.heap.size≤k_)) v0_ r1∧Below w.heap.size w w':=by
 have hu84:=Try.underlying84
 have HO0:=am (show Kd.V (Kd.slice 5 (Kd.int .u8)) 57 w w.heap.size (fun k_=>(P0_ k_∨w.heap.size≤k_)) (.slice A0 l0.length c0) l0 from Kd.V_mono hs0 (fun k_ hk=>.inl hk))
 have HR1:=am hr1
 have HC1:=am hc1
 clear hr1 hc1
 have HB:=am (Below.refl w.heap.size w)
 have H:=h
 unfold impl_decoded.f at H
 clear h
 generalize hy374:(([]:List (List Int)):List (List Int))=y374 at H
 have Ny374:=am hy374.symm
 clear hy374
 generalize hy377:(([]:List ByteArray):List ByteArray)=y377 at H
 have Ny377:=am hy377.symm
 clear hy377
 have H':=am H
 clear H
 go_enter Try.func146,Try.ntmps146
 go_wp2_with (first|((with_reducible refine gD 12 ?_);refine Kd.N_lit (Kd.slice 5 (Kd.int .u8)) _ 57 D11 (N':=12) D11 (xs:=([]:List (List Int))) (inner:=[]) (ok:=(fun k_=>(P0_ k_∨w.heap.size≤k_))) (okp:=(fun k_=>(P0_ k_∨w.heap.size≤k_))) D16 D25 (fun _ hk=>hk) ((show ∀ k_,w.heap.size≤k_→(fun k_=>(P0_ k_∨w.heap.size≤k_)) k_ from fun k_ hk=>(.inr (Nat.le_trans (pz (yW HB)) hk))) _ (Nat.le_refl _)) (Below.refl _ _) (Nat.le_refl _) D36 ?_;intro v375 w3 ho4 hb hg_ hnew_;clear hg_ hnew_;(first|rw [← Ny374.out] at ho4|(simp only [Int.reduceToNat] at ho4;rw [← Ny374.out] at ho4));replace HO0:=eV HO0 (Kd.N_base ho4) hb;have HO376:=am (Kd.N_lower ho4 (pz (yW HB)));replace HB:=yH HB hb;clear hb ho4)|((with_reducible refine gD 13 ?_);refine Kd.R_lit Kd.string _ 9 D11 (N:=13) D11 (xs:=([]:List ByteArray)) (inner:=[]) (ok:=fun _=>True) (okp:=fun _=>True) D16 D25 (fun _ hk=>hk) trivial (Below.refl _ _) (Nat.le_refl _) D36 ?_;intro v378 w5 ho6 hb hg_ hnew_;clear hg_ hnew_;(first|rw [← Ny377.out] at ho6|(simp only [Int.reduceToNat] at ho6;rw [← Ny377.out] at ho6));replace HO0:=eV HO0 (Kd.R_base ho6) hb;replace HO376:=eN HO376 (Kd.R_base ho6) hb;have HO379:=am (Kd.R_lower (Kd.R_newM (M:=fun k_=>(w.heap.size≤k_)) ho6 (pz (yW HB)) (fun k_ h_=>h_)) (pz (yW HB)));replace HB:=yH HB hb;clear hb ho6))
 go_loopg [6,7,16] k (fun kq v6 v7 v16 w'=>∃ (x6_1:List (List Int)) (x7_1:List ByteArray) (x16_1:Int),v16 = .int .i64 x16_1∧Aside0 (impl_decoded.l0 kq l0 x6_1 x7_1 l1 (l1.length:Int) x16_1=some (r1,r2))∧Aside0 (kq≤k)∧Aside0 (Kd.V (Kd.slice 5 (Kd.int .u8)) 57 w' w.heap.size (fun k_=>(P0_ k_∨w.heap.size≤k_)∧some k_ ≠ (v6:Value).ownBlock∧some k_ ≠ (v7:Value).ownBlock) (.slice A0 l0.length c0) l0)∧Aside0 (Kd.N (Kd.slice 5 (Kd.int .u8)) 57 w' w.heap.size (fun k_=>(P0_ k_∨w.heap.size≤k_)∧some k_ ≠ (v7:Value).ownBlock) v6 x6_1)∧Aside0 (Kd.R Kd.string 9 w' w.heap.size (fun k_=>(w.heap.size≤k_)) v7 x7_1)∧Aside0 (Below w.heap.size w w'))
 case atStart=>exact ⟨(y374),(y377),(0),D2,H',⟨Nat.le_refl _⟩,⟨by refine sV ?_;exact Kd.V_mono HO0.out (fun _ hk=>⟨hk.1.1,⟨hk.1.2,hk.2⟩⟩)⟩,⟨yN HO376⟩,⟨by refine sR ?_;exact Kd.R_mono HO379.out (fun _ hk=>hk.1)⟩,⟨yW HB⟩⟩
 case round =>
  clear H'
  try clear c1
  try clear p2
  obtain ⟨x6_1,x7_1,x16_1,rfl,HA,HK1,HO_0,HO_6,HO_7,HB⟩:=hrel
  cases gk with
  | zero=>exact absurd HA.out (by simp [impl_decoded.l0])
  | succ k1 =>
   have H:=HA.out
   clear HA
   simp only [impl_decoded.l0] at H
   by_cases c7:x16_1 < (l1.length:Int)
   ·rw [if_pos c7] at H
    have c7b0:=decide_eq_true c7
    clear c7
    obtain ⟨c8,H⟩:=yi H
    have c8b0:=decide_eq_true c8
    clear c8
    obtain ⟨c9,H⟩:=yi H
    have c9b0:=decide_eq_true c9
    clear c9
    obtain ⟨c10,H⟩:=yi H
    have c10b0:=decide_eq_true c10
    clear c10
    obtain ⟨c11,H⟩:=yi H
    have c11b0:=decide_eq_true c11
    clear c11
    obtain ⟨c12,H⟩:=yi H
    have LMc12:=am c12
    clear c12
    generalize hy383:(x6_1 ++ [rd_L1 l0 ((rd_T84 l1 x16_1).f0)]:List (List Int))=y383 at H
    have Ny383:=am hy383.symm
    clear hy383
    obtain ⟨c13,H⟩:=yi H
    have LMc13:=am c13
    clear c13
    generalize hy386:(x7_1 ++ [(rd_T84 l1 x16_1).f1]:List ByteArray)=y386 at H
    have Ny386:=am hy386.symm
    clear hy386
    have H':=am H
    clear H
    have p380:0≤(x16_1:Int):=od D0
    have q380:x16_1 < (l1.length:Int):=od D0
    obtain ⟨ad380,e380,hx380_0,hx380_1⟩:=at_T84 HR1.out x16_1 p380 q380
    cases e380
    replace hx380_0:=(HB.out.cell (World.block_lt_of_cell? w _ hx380_0)).trans hx380_0
    replace hx380_1:=(HB.out.cell (World.block_lt_of_cell? w _ hx380_1)).trans hx380_1
    replace p380:=eq_true p380
    replace q380:=eq_true q380
    go_wp2_with (first|((with_reducible refine gD 9 ?_);refine gB (cs:=#[.int .i64 0, .string (⟨#[]⟩:ByteArray)]) 84 ?_;intro gb381 hg w14 hbox hb;replace HO_0:=am (Kd.V_below (Kd.V_elderB (yV HO_0) gb381 (Nat.le_of_eq hg.symm)) hb);replace HO_6:=oN HO_6 hg hb;replace HO_7:=bR HO_7 hb;have BK381:=am (hbox);have GW381:=ye HB hg;replace HB:=yH HB hb;have GE381:=GW381;clear hb hbox hg;obtain ⟨hcz15_0,hcz15_1,hfz15_0,hfz15_1⟩:=yk2 BK381)|((with_reducible refine gate_store (t:=84) (p:=9) rfl ?_);refine store_event (t:=84) (p:=9) (v:=?vo_w16) (w1:=((w14.setCell ⟨gb381,0,none⟩ (.int .i64 ((rd_T84 l1 x16_1).f0))).setCell ⟨gb381,1,none⟩ (.string ((rd_T84 l1 x16_1).f1)))) ?hg ?ho ?hn ?hr ?_;(case ho=>rfl);(case hg=>rfl);(case hn=>rfl);(case hr=>first|(go_simp;done)|(go_simp;rfl));intro w16 hw;have n0_:Aside0 (Kd.V (Kd.slice 5 (Kd.int .u8)) 57 w16 w.heap.size (fun k_=>(P0_ k_∨w.heap.size≤k_)∧some k_ ≠ (u6:Value).ownBlock∧some k_ ≠ (u7:Value).ownBlock∧k_ ≠ gb381) (.slice A0 l0.length c0) l0):=⟨(by rw [hw];exact (by refine sV ?_;exact Kd.V_mono (Kd.V_far (p:=⟨gb381,1,none⟩) (Kd.V_far (p:=⟨gb381,0,none⟩) (Kd.V_mono HO_0.out (fun k_ hk=>(⟨hk,hk.2⟩:_∧k_ ≠ gb381))) (fun _ hk=>hk.2) (.int .i64 ((rd_T84 l1 x16_1).f0))) (fun _ hk=>hk.2) (.string ((rd_T84 l1 x16_1).f1))) (fun _ hk=>⟨hk.1.1.1,⟨hk.1.1.2.1,⟨hk.1.1.2.2,hk.1.2⟩⟩⟩)))⟩;have n1_:Aside0 (Kd.N (Kd.slice 5 (Kd.int .u8)) 57 w16 w.heap.size (fun k_=>(P0_ k_∨w.heap.size≤k_)∧some k_ ≠ (u7:Value).ownBlock∧k_ ≠ gb381) u6 x6_1):=⟨(by rw [hw];exact (by refine sN ?_;exact Kd.N_mono (Kd.N_far (p:=⟨gb381,1,none⟩) (Kd.N_far (p:=⟨gb381,0,none⟩) (Kd.N_mono HO_6.out (fun k_ hk=>(⟨hk,hk.2⟩:_∧k_ ≠ gb381))) (fun _ hk=>hk.2) (.int .i64 ((rd_T84 l1 x16_1).f0))) (fun _ hk=>hk.2) (.string ((rd_T84 l1 x16_1).f1))) (fun _ hk=>⟨hk.1.1.1,⟨hk.1.1.2,hk.1.2⟩⟩)))⟩;have n2_:Aside0 (Kd.R Kd.string 9 w16 w.heap.size (fun k_=>(w.heap.size≤k_)) u7 x7_1):=⟨(by rw [hw];exact (by refine sR ?_;exact Kd.R_mono (Kd.R_far (p:=⟨gb381,1,none⟩) (Kd.R_far (p:=⟨gb381,0,none⟩) (Kd.R_types HO_7.out BK381.out D4) (fun _ hk=>hk.2) (.int .i64 ((rd_T84 l1 x16_1).f0))) (fun _ hk=>hk.2) (.string ((rd_T84 l1 x16_1).f1))) (fun _ hk=>hk.1)))⟩;have n3_:Aside0 (w16.heap[gb381]? = some (.cells #[.int .i64 ((rd_T84 l1 x16_1).f0), .string ((rd_T84 l1 x16_1).f1)] 84 (0,0))):=⟨(by rw [hw];exact (by refine sB ?_;refine blk_put (cs:=#[.int .i64 ((rd_T84 l1 x16_1).f0), .string (⟨#[]⟩:ByteArray)]) ?_ 1 _ rfl;refine sB ?_;refine blk_put (cs:=#[.int .i64 0, .string (⟨#[]⟩:ByteArray)]) ?_ 0 _ rfl;exact yB BK381))⟩;have n4_:Aside0 (Below w.heap.size w w16):=⟨(by rw [hw];exact (yW HB))⟩;clear hw HO_0 HO_6 HO_7 BK381 HB;have HO_0:=n0_;have HO_6:=n1_;have HO_7:=n2_;have BK381:=n3_;have HB:=n4_;clear n0_ n1_ n2_ n3_ n4_;obtain ⟨hcz17_0,hcz17_1,hfz17_0,hfz17_1⟩:=yk2 BK381;have p382:0≤(((rd_T84 l1 x16_1).f0):Int):=od D0;have q382:((rd_T84 l1 x16_1).f0) < (l0.length:Int):=od D0;obtain ⟨ad382,A382_0,c382_0,e382,hx382_0,hl382_0,hi382_0⟩:=at_L1 (Kd.V_reads' HO_0.out).2.2 ((rd_T84 l1 x16_1).f0) p382 q382;cases e382;obtain ⟨ce382,hce382,hMe382,hcc382⟩:=Kd.V_get HO_0.out [] ((rd_T84 l1 x16_1).f0) p382 (by first|exact q382|exact od D0|(have e_:=(Kd.V_reads' HO_0.out).1;omega));obtain ⟨ua382_0,uc382_0,rfl,ul382_0,ge382_0⟩:=Kd.FK_slice_open hMe382;have hv382_0:=hcc382 0 _ rfl;rw [Nat.add_zero,show ((Kd.slice 5 (Kd.int .u8))).sz=1 from rfl,Nat.mul_one] at hv382_0;replace hv382_0:=Option.some.inj (hv382_0.symm.trans hx382_0);injection hv382_0 with hva_ hvn_ hvc_;rw [hva_] at ge382_0;rw [hvc_] at ul382_0;have HL382_0:=am (show Kd.V (Kd.int .u8) 5 _ w.heap.size _ _ (rd_L1 l0 ((rd_T84 l1 x16_1).f0)) from Kd.V_mk ul382_0 ge382_0);clear hva_ hvn_ hvc_ ge382_0 ul382_0 hcc382 hce382;have HR382_0:=am hi382_0;have HC382_0:=am hl382_0;clear hi382_0 hl382_0;replace p382:=eq_true p382;replace q382:=eq_true q382)|((with_reducible refine gate_builtin (b:=.append) (xs:=#[.tmp 20, .tmp 26]) rfl ?_);at_builtin;refine Kd.N_append (Kd.slice 5 (Kd.int .u8)) (w0:=w) w.heap.size rfl (.tmp 20) (.tmp 26) 37 57 (.slice none 0 0) 24 rfl Try.underlying37 info57 rfl D4 D5 u6 x6_1 (rd_L1 l0 ((rd_T84 l1 x16_1).f0)) [.slice A382_0 (rd_L1 l0 ((rd_T84 l1 x16_1).f0)).length c382_0] (fun k_=>(P0_ k_∨w.heap.size≤k_)∧some k_ ≠ (u7:Value).ownBlock∧k_ ≠ gb381) (fun k_=>((fun k_=>(P0_ k_∨w.heap.size≤k_)∧some k_ ≠ (u7:Value).ownBlock∧k_ ≠ gb381)) k_∧some k_ ≠ (u6:Value).ownBlock) rfl rfl (by exact (Kd.FK_slice_mk (Kd.V_reads' (Kd.V_mono (ok':=(fun k_=>((fun k_=>(P0_ k_∨w.heap.size≤k_)∧some k_ ≠ (u7:Value).ownBlock∧k_ ≠ gb381)) k_∧some k_ ≠ (u6:Value).ownBlock)) (HL382_0.out) (fun k_ hk=>⟨⟨hk.1,⟨hk.2.2.1,hk.2.2.2⟩⟩,hk.2.1⟩))).2.1 (Kd.V_F (Kd.V_mono (ok':=(fun k_=>((fun k_=>(P0_ k_∨w.heap.size≤k_)∧some k_ ≠ (u7:Value).ownBlock∧k_ ≠ gb381)) k_∧some k_ ≠ (u6:Value).ownBlock)) (HL382_0.out) (fun k_ hk=>⟨⟨hk.1,⟨hk.2.2.1,hk.2.2.2⟩⟩,hk.2.1⟩))))) (fun _ hk=>hk) (by exact (fun k_ hk=>⟨(.inr (Nat.le_trans (pz (yW HB)) hk)),Kd.fresh' (Kd.R_lt (yR HO_7)) k_ hk,yz BK381 k_ hk⟩)) (by exact (yN HO_6)) D46 D26 (by have:=LMc12.out;omega) ?_;intro v384 w18 ho hb hg hat;rw [← Ny383.out] at ho;have n0_:=am (Kd.V_afterv (ok:=(fun k_=>(P0_ k_∨w.heap.size≤k_)∧some k_ ≠ (u7:Value).ownBlock∧k_ ≠ gb381)) (by refine sV ?_;exact Kd.V_mono HO_0.out (fun _ hk=>⟨⟨hk.1,⟨hk.2.2.1,hk.2.2.2⟩⟩,hk.2.1⟩)) hg hat);have n1_:=am (Kd.R_over' (yR HO_7) (Kd.N_typed (yN HO_6)) D4 hg);have n2_:=am (blk_grown (g:=gb381) (o:=.cells #[.int .i64 ((rd_T84 l1 x16_1).f0), .string ((rd_T84 l1 x16_1).f1)] 84 (0,0)) (yB BK381) hg (Kd.N_ne HO_6.out BK381.out D4));have n3_:=am (Kd.V_afterv (ok:=(fun k_=>(P0_ k_∨w.heap.size≤k_)∧some k_ ≠ (u7:Value).ownBlock∧k_ ≠ gb381)) (by refine sV ?_;exact Kd.V_mono HL382_0.out (fun _ hk=>⟨⟨hk.1,⟨hk.2.2.1,hk.2.2.2⟩⟩,hk.2.1⟩)) hg hat);have n4_:=am (hb);have n5_:=am (ho);clear HO_0 HO_7 BK381 HL382_0 HB HO_6;have HO_0:=n0_;have HO_7:=n1_;have BK381:=n2_;have HL382_0:=n3_;have HB:=n4_;have HO385:=n5_;clear n0_ n1_ n2_ n3_ n4_ n5_ ho hb hg hat;obtain ⟨hcz19_0,hcz19_1,hfz19_0,hfz19_1⟩:=yk2 BK381)|((with_reducible refine gate_builtin (b:=.append) (xs:=#[.tmp 28, .tmp 31]) rfl ?_);at_builtin;refine Kd.R_append Kd.string (w0:=w) w.heap.size rfl (.tmp 28) (.tmp 31) 22 9 (.string ⟨#[]⟩) 16 rfl Try.underlying22 info9 rfl D4 D5 u7 x7_1 ((rd_T84 l1 x16_1).f1) [.string ((rd_T84 l1 x16_1).f1)] (fun k_=>(w.heap.size≤k_)) (fun _=>False) rfl rfl D75 (fun _ hk=>hk.elim) (by exact (fun k_ hk=>(Nat.le_trans (pz (yW HB)) hk))) (by exact (yR HO_7)) D46 D26 (by have:=LMc13.out;omega) ?_;intro v387 w20 ho hb hg hat;rw [← Ny386.out] at ho;have n0_:=am (Kd.V_afterv (ok:=(fun k_=>(P0_ k_∨w.heap.size≤k_)∧some k_ ≠ (v384:Value).ownBlock∧k_ ≠ gb381)) (by refine sV ?_;exact Kd.V_mono HO_0.out (fun _ hk=>⟨⟨hk.1.1,⟨hk.2,hk.1.2.2⟩⟩,hk.1.2.1⟩)) hg hat);have n1_:=am (blk_grown (g:=gb381) (o:=.cells #[.int .i64 ((rd_T84 l1 x16_1).f0), .string ((rd_T84 l1 x16_1).f1)] 84 (0,0)) (yB BK381) hg (Kd.R_ne HO_7.out BK381.out D4));have n2_:=am (Kd.V_afterv (ok:=(fun k_=>(P0_ k_∨w.heap.size≤k_)∧some k_ ≠ (v384:Value).ownBlock∧k_ ≠ gb381)) (by refine sV ?_;exact Kd.V_mono HL382_0.out (fun _ hk=>⟨⟨hk.1.1,⟨hk.2,hk.1.2.2⟩⟩,hk.1.2.1⟩)) hg hat);have n3_:=am (Kd.N_afterv (ok:=(fun k_=>(P0_ k_∨w.heap.size≤k_)∧k_ ≠ gb381)) (by refine sN ?_;exact Kd.N_mono HO385.out (fun _ hk=>⟨⟨hk.1,hk.2.2⟩,hk.2.1⟩)) hg hat);have n4_:=am (hb);have n5_:=am (ho);clear HO_0 BK381 HL382_0 HO385 HB HO_7;have HO_0:=n0_;have BK381:=n1_;have HL382_0:=n2_;have HO385:=n3_;have HB:=n4_;have HO388:=n5_;clear n0_ n1_ n2_ n3_ n4_ n5_ ho hb hg hat))
    go_roundg k1
    case measure=>have:=HK1.out;omega
    case rel=>exact ⟨(y383),(y386),(wrap64 (x16_1+1)),D2,H',⟨D17⟩,⟨by refine sV ?_;exact Kd.V_mono HO_0.out (fun _ hk=>⟨hk.1.1,⟨hk.1.2.1,hk.2⟩⟩)⟩,⟨by refine sN ?_;exact Kd.N_mono HO385.out (fun _ hk=>⟨hk.1.1,hk.2⟩)⟩,⟨yR HO388⟩,⟨yW HB⟩⟩
   rw [if_neg c7] at H
   have c7b0:=decide_eq_false c7
   clear c7
   obtain ⟨⟨t389,t390⟩,A21,H⟩:=yo H
   try dsimp only at H
   by_cases c22:t390=true
   ·subst c22
    replace H:=yt H
    obtain ⟨t393,A23,H⟩:=yo H
    simp only [Option.some.injEq,Prod.mk.injEq] at H
    obtain ⟨rfl,rfl⟩:=H
    obtain ⟨Ao24,co24,eo24⟩:=Kd.N_slice HO_6.out
    subst eo24
    go_wp2_with (first|((with_reducible refine gC 101 ?_);refine gM (some 36) Try.func101 (args:=#[.slice Ao24 x6_1.length co24]) (impl_inverseOf.calls _ _ x6_1 t389 true _ (yc (Kd.N_reads' HO_6.out).2.2) (Kd.N_reads' HO_6.out).2.1 A21.out) ?_;rintro e w25 ⟨v391,rfl,ho0,hb⟩;refine ⟨_,rfl,?_⟩;replace HO_0:=eV HO_0 D7 hb;have HO392:=am (Kd.N_lower (Kd.N_mono (ok':=fun k_=>(P0_ k_∨w.heap.size≤k_)∧some k_ ≠ (.slice Ao24 x6_1.length co24:Value).ownBlock∧some k_ ≠ (u7:Value).ownBlock) (Kd.S_N (Kd.S_bound ho0)) (fun k_ hk_=>⟨(.inr (Nat.le_trans (pz (yW HB)) hk_.2.1)),(Kd.fresh' (Kd.N_lt (yN HO_6)) k_ hk_.2.1),(Kd.fresh' (Kd.R_lt (yR HO_7)) k_ hk_.2.1)⟩)) (pz (yW HB)));replace HO_6:=eN HO_6 D7 hb;replace HO_7:=bR HO_7 hb;replace HB:=yH HB hb;clear hb ho0;obtain ⟨Ao26,co26,eo26⟩:=Kd.N_slice HO392.out;subst eo26;obtain ⟨Ao27,co27,eo27⟩:=Kd.R_slice HO_7.out;subst eo27)|((with_reducible refine gC 100 ?_);refine gM (some 43) Try.func100 (args:=#[.slice Ao26 t389.length co26, .slice Ao27 x7_1.length co27]) (impl_combined.calls k1 _ _ t389 _ _ x7_1 t393 _ (yc (Kd.N_reads' HO392.out).2.2) (Kd.N_reads' HO392.out).2.1 (yc (Kd.R_reads' HO_7.out).2.2) (Kd.R_reads' HO_7.out).2.1 A23.out) ?_;rintro e w28 ⟨v394,rfl,ho0,hb⟩;refine ⟨_,rfl,?_⟩;replace HO_0:=eV HO_0 (Kd.R_base ho0) hb;replace HO_6:=eN HO_6 (Kd.R_base ho0) hb;replace HO392:=eN HO392 (Kd.R_base ho0) hb;have HO395:=am (Kd.R_lower (Kd.R_new' (Kd.R_newM (M:=fun k_=>(w.heap.size≤k_)) ho0 (pz (yW HB)) (fun k_ h_=>h_)) (Kd.R_lt (yR HO_7))) (pz (yW HB)));replace HO_7:=eR HO_7 (Kd.R_base ho0) hb;replace HB:=yH HB hb;clear hb ho0))
    go_ret2
    exact ⟨_,D1,by refine sR ?_;exact Kd.R_mono HO395.out (fun _ hk=>hk.1.1),yW HB⟩
   replace c22:=Bool.eq_false_iff.mpr c22
   subst c22
   replace H:=yn H
   simp only [Option.some.injEq,Prod.mk.injEq] at H
   obtain ⟨rfl,rfl⟩:=H
   obtain ⟨Ao29,co29,eo29⟩:=Kd.N_slice HO_6.out
   subst eo29
   go_wp2_with (first|((with_reducible refine gC 101 ?_);refine gM (some 36) Try.func101 (args:=#[.slice Ao29 x6_1.length co29]) (impl_inverseOf.calls _ _ x6_1 t389 false _ (yc (Kd.N_reads' HO_6.out).2.2) (Kd.N_reads' HO_6.out).2.1 A21.out) ?_;rintro e w30 ⟨v391,rfl,ho0,hb⟩;refine ⟨_,rfl,?_⟩;replace HO_0:=eV HO_0 D7 hb;have HO392:=am (Kd.N_lower (Kd.N_mono (ok':=fun k_=>(P0_ k_∨w.heap.size≤k_)∧some k_ ≠ (.slice Ao29 x6_1.length co29:Value).ownBlock∧some k_ ≠ (u7:Value).ownBlock) (Kd.S_N (Kd.S_bound ho0)) (fun k_ hk_=>⟨(.inr (Nat.le_trans (pz (yW HB)) hk_.2.1)),(Kd.fresh' (Kd.N_lt (yN HO_6)) k_ hk_.2.1),(Kd.fresh' (Kd.R_lt (yR HO_7)) k_ hk_.2.1)⟩)) (pz (yW HB)));replace HO_6:=eN HO_6 D7 hb;replace HO_7:=bR HO_7 hb;replace HB:=yH HB hb;clear hb ho0))
   go_ret2
   exact ⟨_,D1,D10,yW HB⟩
end
end Go.Proofs.Ytajikfnpcobnpaa.PFnExactDecodeLocal
-- SQUEEZED
