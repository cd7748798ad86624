import Derived.Test.YteflgifmdojahaaVFnCauchyB
import Derived.Test.YteflgifmdojahaaPFnCauchyx0
import Derived.Test.YteflgifmdojahaaPFnCauchyx1
namespace Go.Proofs.Yteflgifmdojahaa.PFnCauchy
open Go.RowKit Go.Proofs.YteflgifmdojahaaW.PrintWords Go.Proofs.YteflgifmdojahaaW.PrintLast Go.Proofs.YteflgifmdojahaaW.PrintMore Go.Proofs.Yteflgifmdojahaa.KitS
attribute [local go_sem] max2_int min2_int max_two min_two max_three min_three max_four min_four
set_option linter.unusedVariables false
set_option maxHeartbeats 8000000
set_option maxRecDepth 100000
set_option linter.unusedSimpArgs false
section
section
open Go.Proofs.Yteflgifmdojahaa.Gf Go.Proofs.Yteflgifmdojahaa.Kit Go.Proofs.Yteflgifmdojahaa.KitW Go.Proofs.Yteflgifmdojahaa.KitN
namespace ImplElim
theorem impl_Times.ev_l0 (b:Nat) (hb:b < 256):∀ (n i o x:Nat),i+n=8→o < 256→x < 256 →
  Ev (fun k=>impl_Times.l0 k (b:Int) (o:Int) (i:Int) (x:Int)) ((T n o x (b / 2 ^ i):Nat):Int)
 | 0,i,o,x,hi,ho,hx=>by
  refine Ev.step (fun k=>impl_Times.l0.eq_2 _ _ _ _ k) ?_
  refine ev_neg d13 (ev_now ?_)
  simp only [T]
  omega
 | n+1,i,o,x,hi,ho,hx=>by
  refine Ev.step (fun k=>impl_Times.l0.eq_2 _ _ _ _ k) ?_
  refine ev_pos d13 (ev_pos d13 ?_)
  have e1:shr .u8 (b:Int) (i:Int)=((b / 2 ^ i:Nat):Int):=by
   unfold shr
   rw [Nat.min_eq_left (by simp only [IntKind.bits];omega)]
   simp
  have hd:b / 2 ^ i < 256:=Nat.lt_of_le_of_lt (Nat.div_le_self _ _) hb
  have e2:wrap64 ((x:Int)*2)=((2*x:Nat):Int):=by rw [wrap_id d13 d13];omega
  have e3:wrap64 ((i:Int)+1)=((i+1:Nat):Int):=by rw [wrap_id d13 d13];omega
  rw [e1,and1_u8 hd,e2,e3]
  have e4:Go.bits .xor .i64 (o:Int) (x:Int)=((o ^^^ x:Nat):Int):=xor_i64 d13 d13
  have e5:Go.bits .xor .i64 ((2*x:Nat):Int) 283=((2*x ^^^ 283:Nat):Int):=xor_i64 (m:=2*x) (n:=283) d13 d13
  have e6:b / 2 ^ i / 2=b / 2 ^ (i+1):=by rw [Nat.div_div_eq_div_mul,Nat.pow_succ]
  rw [e4,e5]
  have hT:T (n+1) o x (b / 2 ^ i)=T n (if b / 2 ^ i % 2=1 then o ^^^ x else o) (xt x) (b / 2 ^ (i+1)):=by rw [T,e6]
  rw [hT]
  have hxt:=xt_lt hx
  have hox:=xor_lt ho hx
  by_cases h1:b / 2 ^ i % 2=1
  ·rw [if_pos h1]
   refine ev_pos d13 ?_
   by_cases h2:2*x > 255
   ·refine ev_pos d13 ?_
    have:xt x=2*x ^^^ 283:=by unfold xt;rw [if_pos h2]
    rw [this] at hxt ⊢
    exact impl_Times.ev_l0 b hb n (i+1) _ _ d13 hox hxt
   refine ev_neg d13 ?_
   have:xt x=2*x:=by unfold xt;rw [if_neg h2]
   rw [this] at hxt ⊢
   exact impl_Times.ev_l0 b hb n (i+1) _ _ d13 hox hxt
  rw [if_neg h1]
  refine ev_neg d13 ?_
  by_cases h2:2*x > 255
  ·refine ev_pos d13 ?_
   have:xt x=2*x ^^^ 283:=by unfold xt;rw [if_pos h2]
   rw [this] at hxt ⊢
   exact impl_Times.ev_l0 b hb n (i+1) _ _ d13 ho hxt
  refine ev_neg d13 ?_
  have:xt x=2*x:=by unfold xt;rw [if_neg h2]
  rw [this] at hxt ⊢
  exact impl_Times.ev_l0 b hb n (i+1) _ _ d13 ho hxt
theorem impl_Times.ev {a b:Int} (ha:Byte a) (hb:Byte b):Ev (fun k=>impl_Times.f k a b) (mul a b):=by
 obtain ⟨m,hm,rfl⟩:=ha.nat
 obtain ⟨n,hn,rfl⟩:=hb.nat
 unfold impl_Times.f
 rw [wrap_id d13 d13]
 have h:=impl_Times.ev_l0 n hn 8 0 0 m rfl d9 hm
 exact ev_eq h (by unfold Gf.mul gm;simp)
theorem impl_power.ev_l0:∀ (N n:Nat) (a o:Int),n≤N→n < 4294967296→Byte a→Byte o→Ev (fun k=>impl_power.l0 k a (n:Int) o) (mul o (pow a n)):=by
 intro N
 induction N with
 | zero =>
  intro n a o hN hn ha ho
  obtain rfl:n=0:=by omega
  refine Ev.step (fun k=>impl_power.l0.eq_2 _ _ _ k) ?_
  exact ev_neg d13 (ev_now (by rw [pow_zero,mul_one ho]))
 | succ N ih =>
  intro n a o hN hn ha ho
  refine Ev.step (fun k=>impl_power.l0.eq_2 _ _ _ k) ?_
  by_cases h0:n=0
  ·subst h0
   exact ev_neg d13 (ev_now (by rw [pow_zero,mul_one ho]))
  refine ev_pos d13 ?_
  have e:((n:Int) / 2)=((n / 2:Nat):Int):=by omega
  have haa:=Byte.mul ha a
  have hsq:pow (mul a a) (n / 2)=pow a (2*(n / 2)):=by rw [pow_mul ha,pow_two ha]
  rw [and1_i64 hn,e]
  by_cases h1:n % 2=1
  ·refine ev_pos d13 ?_
   refine ev_bind (impl_Times.ev ho ha) (ev_bind (impl_Times.ev ha ha) ?_)
   refine ev_eq (ih (n / 2) _ _ d13 d13 haa (Byte.mul ho a)) ?_
   have hn2:n=1+2*(n / 2):=by omega
   rw [hsq,mul_assoc ho ha (Byte.pow ha _)]
   conv=>rhs;rw [hn2,pow_add ha,pow_one ha]
  refine ev_neg d13 ?_
  refine ev_bind (impl_Times.ev ha ha) ?_
  refine ev_eq (ih (n / 2) _ _ d13 d13 haa ho) ?_
  have hn2:n=2*(n / 2):=by omega
  rw [hsq,← hn2]
theorem impl_power.ev {a:Int} (ha:Byte a) (n:Nat) (hn:n < 4294967296):Ev (fun k=>impl_power.f k a (n:Int)) (pow a n):=by
 unfold impl_power.f
 refine ev_eq (impl_power.ev_l0 n n a 1 (Nat.le_refl _) hn ha .one) ?_
 exact one_mul (Byte.pow ha n)
theorem impl_Inverse.ev {a:Int} (ha:Byte a):Ev (fun k=>impl_Inverse.f k a) (inv a):=by
 unfold impl_Inverse.f
 exact ev_bind (impl_power.ev ha 254 d9) (ev_now (inv_pow a).symm)
theorem impl_scaled.ev_l0 (a:Int) (ha:Byte a) (v:List Int) (hv:Bytes v) (hs:v.length < 140737488355328):∀ (n i:Nat) (o:List Int),i+n=v.length→o=(scale a v).take i →
  Ev (fun k=>impl_scaled.l0 k a o v (v.length:Int) (i:Int)) (scale a v)
 | 0,i,o,hi,ho=>by
  refine Ev.step (fun k=>impl_scaled.l0.eq_2 _ _ _ _ _ k) ?_
  refine ev_neg d13 (ev_now ?_)
  subst ho
  rw [List.take_of_length_le (by rw [scale_length];omega)]
 | n+1,i,o,hi,ho=>by
  have hz:=scale_length a v
  have hlen:o.length=i:=by rw [ho,List.length_take,hz];omega
  refine Ev.step (fun k=>impl_scaled.l0.eq_2 _ _ _ _ _ k) ?_
  refine ev_pos d13 (ev_pos d13 (ev_pos d13 ?_))
  refine ev_bind (impl_Times.ev ha (bytes_rd hv d13)) ?_
  refine ev_pos d13 ?_
  rw [inc d13,rd_get d13]
  refine impl_scaled.ev_l0 a ha v hv hs n (i+1) _ d13 ?_
  rw [List.take_succ_eq_append_getElem d13,← ho]
  simp [scale]
theorem impl_scaled.ev {a:Int} (ha:Byte a) {v:List Int} (hv:Bytes v) (hs:v.length < 140737488355328):Ev (fun k=>impl_scaled.f k a v) (scale a v):=by
 unfold impl_scaled.f
 exact impl_scaled.ev_l0 a ha v hv hs v.length 0 [] d13 rfl
theorem impl_added.ev_l0 (v w:List Int) (hv:Bytes v) (hw:Bytes w) (hl:v.length=w.length) (hs:v.length < 140737488355328):∀ (n i:Nat) (o:List Int),i+n=v.length→o=(addV v w).take i →
  Ev (fun k=>impl_added.l0 k w o v (v.length:Int) (i:Int)) (addV v w)
 | 0,i,o,hi,ho=>by
  refine Ev.step (fun k=>impl_added.l0.eq_2 _ _ _ _ _ k) ?_
  refine ev_neg d13 (ev_now ?_)
  subst ho
  rw [List.take_of_length_le (by rw [addV_length];omega)]
 | n+1,i,o,hi,ho=>by
  have hz:=addV_length v w
  have hlen:o.length=i:=by rw [ho,List.length_take,hz];omega
  refine Ev.step (fun k=>impl_added.l0.eq_2 _ _ _ _ _ k) ?_
  refine ev_pos d13 (ev_pos d13 (ev_pos d13 (ev_pos d13 (ev_pos d13 ?_))))
  rw [inc d13,xor_u8 (bytes_rd hv d13) (bytes_rd hw d13),rd_get d13,rd_get d13]
  refine impl_added.ev_l0 v w hv hw hl hs n (i+1) _ d13 ?_
  rw [List.take_succ_eq_append_getElem d13,← ho]
  simp [addV]
theorem impl_added.ev {v w:List Int} (hv:Bytes v) (hw:Bytes w) (hl:v.length=w.length) (hs:v.length < 140737488355328):Ev (fun k=>impl_added.f k v w) (addV v w):=by
 unfold impl_added.f
 exact impl_added.ev_l0 v w hv hw hl hs v.length 0 [] d13 rfl
end ImplElim
theorem el_ev {α:Type} {g:Nat→Option α} {r:α} (h:Ev g r):∃ k,g k=some r:=h.rounds
/-- The test of one row: has it something at k? -/
theorem el_test (gk:Nat) (k:Nat) (A:Option Addr) (c:Nat) (l:List Int) (okf:Nat→Prop) (hk:k < l.length) (W:World)
  (hbox:W.cell? ⟨gk,0,none⟩=some (.int .i64 k)) (hF:Kd.F (Kd.int .u8) W okf A l.length l) :
  Calls Try.prog 160 #[.slice A l.length c, .pointer (some ⟨gk,0,none⟩)] W fun e w'=>e = .returned (.bool (l.getD k 0 != 0))∧Drawn0 W w':=by
 obtain ⟨ad,rfl,hc⟩:=F_byte hF k hk
 clear hF
 obtain ⟨x,hx⟩:∃ x,x=l.getD k 0:=⟨_,rfl⟩
 rw [← hx] at hc ⊢
 obtain ⟨n,hn⟩:∃ n,n=l.length:=⟨_,rfl⟩
 rw [← hn] at hk ⊢
 clear hx hn
 have hkz:(k:Int) < (n:Int):=by omega
 go_enter Try.func160,Try.ntmps160
 go_wp2
 go_ret
 exact ⟨by first|rfl|(simp [bne];done),Drawn0.refl _⟩
set_option maxHeartbeats 4000000 in
theorem el_IndexFunc (g:Nat) (eg:∀ args w,(callFunc g args).run Try.prog w = .ok (.enter g args) w) (fv:Value) (p:Nat→Bool) (ad:Addr) (n c:Nat) (v:Nat→Value) (w:World) (hbig:n≤9223372036854775806)
  (hc:∀ i,i < n→w.cell? (ad.add i)=some (v i))
  (hp:∀ i,i < n→∀ W,Drawn0 w W→Calls Try.prog g #[v i,fv] W fun e w'=>e = .returned (.bool (p i))∧Drawn0 W w') :
  Calls Try.prog 159 #[.slice (some ad) n c, .func (.func g) #[] #[fv]] w fun e w'=>(∃ r,e = .returned (.int .i64 r)∧IdxOf p n r)∧Drawn0 w w':=by
 have HP:=am hp
 have HC:=am hc
 clear hp hc
 go_enter Try.func159,Try.ntmps159
 go_wp2
 go_loopg [5,8] n (fun gg _ s8 wr=>∃ kk:Nat,kk≤n∧n - kk≤gg∧s8 = .int .i64 kk∧Aside0 (Drawn0 w wr)∧Aside0 (∀ j,j < kk→p j=false))
 case atStart=>exact ⟨0,Nat.zero_le _,d13,rfl,⟨Drawn0.refl _⟩,⟨fun j hj=>absurd hj (Nat.not_lt_zero _)⟩⟩
 case round =>
  obtain ⟨kk,hkk,hg,rfl,HD,HA⟩:=hrel
  by_cases hlt:kk < n
  ·have hltz:(kk:Int) < (n:Int):=by omega
   have hcell:wr.cell? (ad.add kk)=some (v kk):=by
    obtain ⟨q,rfl⟩:=HD.out.out
    exact HC.out kk hlt
   have hcall:=HP.out kk hlt
   cases hq:p kk with
   | true =>
    rw [hq] at hcall
    have HQ:=am hq
    clear hq
    have HX:=am hcall
    clear hcall
    go_wp2_with (go_at_fn g;refine (HX.out _ ?dr).mono ?_;(case dr=>exact HD.out);rintro e w' ⟨rfl,hd⟩)
    go_ret
    exact ⟨⟨_,rfl, .inr ⟨kk,hlt,rfl,HQ.out,HA.out⟩⟩,drawn_trans HD.out hd⟩
   | false =>
    rw [hq] at hcall
    have HQ:=am hq
    clear hq
    have HX:=am hcall
    clear hcall
    go_wp2_with (go_at_fn g;refine (HX.out _ ?dr).mono ?_;(case dr=>exact HD.out);rintro e w' ⟨rfl,hd⟩)
    go_roundg (n - (kk+1))
    case measure=>omega
    case rel=>exact ⟨kk+1,d13,d13,by go_num,⟨drawn_trans HD.out hd⟩,⟨fun j hj=>by by_cases e:j=kk;exact e ▸ HQ.out;exact HA.out j d13⟩⟩
  have hltz:¬ (kk:Int) < (n:Int):=by omega
  have:kk=n:=by omega
  subst this
  go_wp2
  go_ret
  exact ⟨⟨_,rfl, .inl ⟨rfl,HA.out⟩⟩,HD.out⟩
section
theorem el_lift {R1:List (List Int)} {a p k:Nat} {r0 r1:List Int} (h0:R1.getD a []=r0) (h1:R1.getD p []=r1):((R1.set a r1).set p r0).set a (scale (inv (r1.getD k 0)) r1)=rowI.lift R1 k a p:=by
 show _=(R1.set p (R1.getD a [])).set a (scale (inv ((R1.getD p []).getD k 0)) (R1.getD p []))
 rw [h0,h1]
 by_cases e:a=p
 ·subst e;rw [List.set_set,List.set_set,List.set_set]
 rw [List.set_comm _ _ e,List.set_set]
theorem el_top {R1:List (List Int)} {a p:Nat} {r0 r1:List Int} (ha:a < R1.length) (h0:R1.getD a []=r0) (h1:R1.getD p []=r1):((R1.set a r1).set p r0).getD a []=r1:=by
 by_cases e:p=a
 ·subst e
  rw [List.set_set,List.getD_eq_getElem?_getD,List.getElem?_set_self ha,← h1,h0];rfl
 rw [List.getD_eq_getElem?_getD,List.getElem?_set_ne e,List.getElem?_set_self ha];rfl
theorem el_clr_skip {R:List (List Int)} {k a r:Nat} {x:List Int} (hx:(rowI.clr k a R r).getD r []=x) (h:r=a∨x.getD k 0=0):rowI.clr k a R (r+1)=rowI.clr k a R r:=by
 show (if r ≠ a∧((rowI.clr k a R r).getD r []).getD k 0 ≠ 0 then _ else rowI.clr k a R r)=_
 rw [hx,if_neg]
 intro z
 rcases h with e|e
 ·exact z.1 e
 exact z.2 e
theorem el_clr_do {R:List (List Int)} {k a r:Nat} {x y:List Int} (hx:(rowI.clr k a R r).getD r []=x) (hy:(rowI.clr k a R r).getD a []=y) (h:r ≠ a) (h2:x.getD k 0 ≠ 0):rowI.clr k a R (r+1)=(rowI.clr k a R r).set r (addV x (scale (x.getD k 0) y)):=by
 show (if r ≠ a∧((rowI.clr k a R r).getD r []).getD k 0 ≠ 0 then (rowI.clr k a R r).set r (addV ((rowI.clr k a R r).getD r []) (scale (((rowI.clr k a R r).getD r []).getD k 0) ((rowI.clr k a R r).getD a []))) else rowI.clr k a R r)=_
 rw [hx,hy,if_pos ⟨h,h2⟩]
end
theorem el_none {R R1:List (List Int)} {k a len:Nat} (hq:(R1,a)=rowI.red R k) (hl:R.length=len) (ha:a < len) (hl1:R1.length=len) (h:∀ i,i < len - a→((R1.getD (a+i) []).getD k 0 != 0)=false):rowI.red R (k+1)=(R1,a):=by
 show (if (rowI.red R k).2 < R.length then rowI.stp k (rowI.red R k) else rowI.red R k)=_
 rw [← hq,hl,if_pos ha]
 unfold RowK.stp
 have e:rowI.piv R1 k a=none:=RowK.piv_none (fun j h1 h2=>by
  have h3:=h (j - a) d13
  rw [show a+(j - a)=j by omega] at h3
  exact Decidable.of_not_not fun z=>by
   have z2:((R1.getD j []).getD k 0 != 0)=true:=bne_iff_ne.2 z
   rw [z2] at h3;cases h3)
 show (match rowI.piv R1 k a with|none=>(R1,a)|some i=>(rowI.clr k a (rowI.lift R1 k a i) R1.length,a+1))=_
 rw [e]
theorem el_some {R R1:List (List Int)} {k a len i:Nat} (hq:(R1,a)=rowI.red R k) (hl:R.length=len) (ha:a < len) (hl1:R1.length=len) (hi:i < len - a) (hp:((R1.getD (a+i) []).getD k 0 != 0)=true) (h:∀ j,j < i→((R1.getD (a+j) []).getD k 0 != 0)=false):rowI.red R (k+1)=(rowI.clr k a (rowI.lift R1 k a (a+i)) len,a+1):=by
 show (if (rowI.red R k).2 < R.length then rowI.stp k (rowI.red R k) else rowI.red R k)=_
 rw [← hq,hl,if_pos ha]
 unfold RowK.stp
 have e:rowI.piv R1 k a=some (a+i):=RowK.piv_some d13 d13 (bne_iff_ne.1 hp) (fun j h1 h2=>by
  have h3:=h (j - a) d13
  rw [show a+(j - a)=j by omega] at h3
  exact Decidable.of_not_not fun z=>by
   have z2:((R1.getD j []).getD k 0 != 0)=true:=bne_iff_ne.2 z
   rw [z2] at h3;cases h3)
 show (match rowI.piv R1 k a with|none=>(R1,a)|some i=>(rowI.clr k a (rowI.lift R1 k a i) R1.length,a+1))=_
 rw [e,← hl1]
structure EL (w0:World) (g cap len gb k m:Nat) (R:List (List Int)) (wr:World):Prop where
 N:Kd.N (Kd.slice 5 (Kd.int .u8)) 24 wr w0.heap.size (fun b=>b ≠ gb) (.slice (some ⟨g,0,none⟩) len cap) R
 box:wr.heap[gb]? = some (.cells #[.int .i64 k] 3 (0,0))
 B:Below w0.heap.size w0 wr
 low:w0.heap.size≤gb
 all:∀ r ∈ R,okI m r
section
variable {w0 wr w1:World} {g cap len gb k m:Nat} {R:List (List Int)}
theorem EL.ne (h:EL w0 g cap len gb k m R wr):gb ≠ g:=fun e=>Kd.N_ne h.N h.box d9 (by rw [e];simp [Value.ownBlock])
theorem EL.below (h:EL w0 g cap len gb k m R wr) (hb:Below wr.heap.size wr w1):EL w0 g cap len gb k m R w1 :=
 ⟨Kd.N_below h.N hb,qb h.box hb,pu h.B hb,h.low,h.all⟩
theorem EL.first {okn:Nat→Prop} (hN:Kd.N (Kd.slice 5 (Kd.int .u8)) 24 wr w0.heap.size okn (.slice (some ⟨g,0,none⟩) len cap) R) (hB:Below w0.heap.size w0 wr) (hR:∀ r ∈ R,okI m r) (k:Nat) :
  EL w0 g cap len wr.heap.size k m R (wr.alloc (.cells #[.int .i64 k] 3 (0,0))) :=
 ⟨Kd.N_mono (Kd.N_alloc (Kd.N_bound hN) _) (fun k hk=>by have:=hk.2;omega),heap_alloc_new wr _,pa hB _,hB.size,hR⟩
theorem EL.size (h:EL w0 g cap len gb k m R wr):R.length=len:=(N_len h.N).1.symm
theorem EL.row (h:EL w0 g cap len gb k m R wr) (i:Nat) (hi:i < len) :
  ∃ r A c,R.getD i []=r∧okI m r∧wr.cell? ⟨g,i,none⟩=some (.slice A m c)∧m≤c∧Kd.F (Kd.int .u8) wr (fun b=>b ≠ gb∧b ≠ g) A m r∧wr.frozen? ⟨g,i,none⟩=false:=by
 obtain ⟨A,c,h1,h2,h3,h4⟩:=N_row h.N i hi
 have hr:okI m (R.getD i []):=RowK.at_all (O:=rowI) h.all (by rw [h.size];exact hi)
 rw [hr.2] at h1 h2 h3
 exact ⟨_,A,c,rfl,hr,h1,h2,h3,h4⟩
theorem EL.put (h:EL w0 g cap len gb k m R wr) (i:Nat) (hi:i < len) {A:Option Addr} {c:Nat} {x:List Int} (hx:okI m x) (hc:m≤c) (hF:Kd.F (Kd.int .u8) wr (fun b=>b ≠ gb∧b ≠ g) A m x) :
  EL w0 g cap len gb k m (R.set i x) (wr.setCell ⟨g,i,none⟩ (.slice A m c)):=by
 obtain ⟨h1,h2⟩:=N_put h.N i hi (A:=A) (c:=c) (x:=x) (okp:=fun b=>b ≠ gb∧b ≠ g) (by rw [hx.2];exact hc) (by rw [hx.2];exact hF) (fun _ hk=>hk)
 rw [hx.2] at h1 h2
 exact ⟨h1,blk_grown h.box h2 (fun e=>h.ne (by injection e)),pt h.B (Kd.N_base h.N g (by simp [Value.ownBlock])),h.low,el_set_all h.all hx i⟩
theorem EL.fresh (h:EL w0 g cap len gb k m R wr) {A:Option Addr} {n c:Nat} {x:List Int} (ho:Kd.R (Kd.int .u8) 5 w1 wr.heap.size (fun _=>True) (.slice A n c) x) :
  Kd.F (Kd.int .u8) w1 (fun b=>b ≠ gb∧b ≠ g) A n x:=by
 have hg:=Kd.N_lt h.N g (by simp [Value.ownBlock])
 have hb:=blk_lt h.box
 exact Kd.R_F (Kd.R_mono (Kd.R_bound ho) (fun b hk=>by have:=hk.2.1;omega))
theorem EL.key (h:EL w0 g cap len gb k m R wr):wr.cell? ⟨gb,0,none⟩=some (.int .i64 k):=(blk_cell h.box 0).trans rfl
end
theorem impl_eliminate.calls (R:List (List Int)) (m n:Nat) (hR:∀ r ∈ R,okI m r) (hn:n≤m) (hm:m≤1000000) (hl:R.length≤1000) (g cap len:Nat) (hlen:R.length=len) (w0 w:World) (hB:Below w0.heap.size w0 w)
  (hN:Kd.N (Kd.slice 5 (Kd.int .u8)) 24 w w0.heap.size (fun _=>True) (.slice (some ⟨g,0,none⟩) len cap) R) :
  Calls Try.prog 143 #[.slice (some ⟨g,0,none⟩) len cap, .int .i64 n] w fun e w'=>e = .returned (.int .i64 ((rowI.red R n).2:Nat)) ∧
   Kd.N (Kd.slice 5 (Kd.int .u8)) 24 w' w0.heap.size (fun _=>True) (.slice (some ⟨g,0,none⟩) len cap) (rowI.red R n).1∧Below w0.heap.size w0 w':=by
 have hnc:len≤cap:=(N_len hN).2
 have hll:len≤1000:=by omega
 have HN:=am hN
 have HB:=am hB
 have HR:=am hR
 have HL:=am hlen
 clear hN hB hR hlen
 go_enter Try.func143,Try.ntmps143
 go_wp2_with fail
 go_loopg [5,6] (n+1) (fun fu v5 v6 wr=>∃ k gb:Nat,k≤n∧n - k < fu∧v5 = .int .i64 ((rowI.red R k).2:Nat)∧v6 = .pointer (some ⟨gb,0,none⟩)∧Aside0 (EL w0 g cap len gb k m (rowI.red R k).1 wr))
 case atStart=>exact ⟨0,w.heap.size,Nat.zero_le _,d13,rfl,rfl,⟨EL.first HN.out HB.out HR.out 0⟩⟩
 case round =>
  obtain ⟨k,gb,hk,hfu,rfl,rfl,HE⟩:=hrel
  have HA:=am (RowK.red_all (shutI m) HR.out k)
  obtain ⟨q,hq⟩:∃ q,q=rowI.red R k:=⟨_,rfl⟩
  rw [← hq] at HE HA ⊢
  have HQ:=am hq
  clear hq
  obtain ⟨R1,a⟩:=q
  have hlen1:R1.length=len:=by rw [show R1=(rowI.red R k).1 by rw [← HQ.out],RowK.red_length,HL.out]
  have ha:a≤len:=by
   have h2:=(RowK.red_rank (O:=rowI) R k).2
   rw [← HQ.out,HL.out] at h2
   exact h2
  have hbox:wr.cell? ⟨gb,0,none⟩=some (.int .i64 k):=(blk_cell HE.out.box 0).trans rfl
  by_cases hkn:k < n
  case neg =>
   have e:k=n:=by omega
   subst e
   have hkz:¬ (k:Int) < (k:Int):=by omega
   have hdk:decide ((k:Int) < (k:Int))=false:=decide_eq_false hkz
   go_wp2
   go_ret
   refine ⟨?_,?_,HE.out.B⟩
   ·rw [← HQ.out];rfl
   rw [← HQ.out];exact Kd.N_mono HE.out.N (fun _ _=>trivial)
  have hkz:(k:Int) < (n:Int):=by omega
  have hdk:decide ((k:Int) < (n:Int))=true:=decide_eq_true hkz
  by_cases hal:a < len
  case neg =>
   have e:a=len:=by omega
   subst e
   have haz:¬ (a:Int) < (a:Int):=by omega
   have hda:decide ((a:Int) < (a:Int))=false:=decide_eq_false haz
   go_wp2
   go_ret
   have hf:(rowI.red R k).2=R.length:=by rw [← HQ.out,HL.out]
   have e2:=RowK.red_full hf (n - k)
   rw [show k+(n - k)=n by omega] at e2
   rw [e2,← HQ.out]
   exact ⟨rfl,Kd.N_mono HE.out.N (fun _ _=>trivial),HE.out.B⟩
  have haz:(a:Int) < (len:Int):=by omega
  have hda:decide ((a:Int) < (len:Int))=true:=decide_eq_true haz
  have hac:(cap=a)=False:=eq_false d13
  have halc:a≤cap:=by omega
  go_wp2_with fail
  have hcell:∀ i,i < len - a→wr.cell? ⟨g,a+i,none⟩=some ((wr.cell? ⟨g,a+i,none⟩).getD undef):=fun i hi=>by
   obtain ⟨A,c,e,_⟩:=N_row HE.out.N (a+i) d13
   rw [e];rfl
  refine (el_IndexFunc 160 (enters_of Try.func160 rfl rfl) (.pointer (some ⟨gb,0,none⟩)) (fun i=>(R1.getD (a+i) []).getD k 0 != 0) ⟨g,a,none⟩ (len - a) (cap - a) (fun i=>(wr.cell? ⟨g,a+i,none⟩).getD undef) wr d13 (fun i hi=>by rw [add_at];exact hcell i hi) (fun i hi W hd=>?_)).mono ?_
  ·obtain ⟨A,c,e,hle,hF,_⟩:=N_row HE.out.N (a+i) d13
   obtain ⟨q,rfl⟩:=hd.out
   rw [e]
   have hlk:k < (R1.getD (a+i) []).length:=by
    have:=(RowK.at_all (O:=rowI) HA.out (i:=a+i) d13).2
    rw [show (rowI.nul:List Int)=[] from rfl] at this
    omega
   exact el_test gb k A c _ _ hlk _ hbox (Kd.F_drewN hF q)
  clear hcell
  rintro e w' ⟨⟨r,rfl,hr⟩,⟨q,rfl⟩⟩
  have hE1:=HE.out.below (w1:=wr.drewN q) (pb (Below.refl _ _) q)
  clear HE hbox
  have HE:=am hE1
  clear hE1
  generalize wr.drewN q=wr at HE ⊢
  have hbox:wr.cell? ⟨gb,0,none⟩=some (.int .i64 k):=(blk_cell HE.out.box 0).trans rfl
  rcases hr with ⟨rfl,hnone⟩ | ⟨i,hi,rfl,hp,hfirst⟩
  ·have hst:=el_none HQ.out HL.out hal hlen1 hnone
   have HS:=am hst
   clear hst
   go_wp2_with fail
   go_roundg (gk - 1)
   case measure=>omega
   case rel=>exact ⟨k+1,wr.heap.size,d13,d13,by rw [HS.out],by first|rfl|(simp;done),⟨by rw [HS.out];exact EL.first HE.out.N HE.out.B HE.out.all (k+1)⟩⟩
  have hst:=el_some HQ.out HL.out hal hlen1 hi hp hfirst
  have HS:=am hst
  clear hst
  replace hp:((R1.getD (a+i) []).getD k 0 != 0)=true:=hp
  have HP:=am hp
  clear hp hfirst
  have hneg:¬ ((i:Int) < 0):=by omega
  have hdn:decide ((i:Int) < 0)=false:=decide_eq_false hneg
  obtain ⟨p,hpe⟩:∃ p,p=a+i:=⟨_,rfl⟩
  have hpl:(p:Int) < (len:Int):=by omega
  have hp0:p < len:=by omega
  have hap:a≤p:=by omega
  rw [← hpe] at HP HS
  have hw:wrap64 ((a:Int)+(i:Int))=(p:Int):=by rw [hpe,wrap_id d13 d13];omega
  go_wp2_with fail
  clear hpe
  have hbm:k < m:=by omega
  replace HE:=am (HE.out.below (pd (Below.refl _ _)))
  obtain ⟨r1,A1,c1,hr1,hok1,hcell1,hle1,hF1,hfr1⟩:=HE.out.row p hp0
  obtain ⟨r0,A0,c0,hr0,hok0,hcell0,hle0,hF0,hfr0⟩:=HE.out.row a hal
  refine start_ (n:=20) (S:=fun w'=>w'.cell? ⟨g,p,none⟩=some (.slice A1 m c1)∧w'.cell? ⟨g,a,none⟩=some (.slice A0 m c0)) (ds:=[17,19]) #[Z,Z,Z,Z,Z,Z,Z,Z,Z,Z,Z,Z,Z,Z,Z,Z,Z,Z,Z,Z] d12 rfl rfl ⟨hcell1,hcell0⟩ (fun hHeld=>?_)
  generalize wr.drew=wr at HE hHeld hF1 hF0 hcell0 hcell1 hfr0 hfr1 ⊢
  have HF1:=am hF1
  have HF0:=am hF0
  clear hF1 hF0 hbox
  refine pure_ (i:=0) (N:=some 28) (v:=?_) (a':=?_) #[Y,Z,Z,Z,Z,Z,Z,Z,Z,Z,Z,Z,Z,Z,Z,Z,Z,Z,Z,Z] rfl rfl d12 hh (Or.inl ⟨d20,?_⟩) ?_ ?_
  rotate_left
  ·intro w'
   go_simp
   with_reducible rfl
  rotate_left
  ·simp only [Act.put,q1,q2,q3,i64_w,i32_w]
   rfl
  refine pure_ (i:=1) (N:=some 29) (v:=?_) (a':=?_) #[Y,Y,Z,Z,Z,Z,Z,Z,Z,Z,Z,Z,Z,Z,Z,Z,Z,Z,Z,Z] rfl rfl d12 hh (Or.inl ⟨d20,?_⟩) ?_ ?_
  rotate_left
  ·intro w'
   go_simp
   with_reducible rfl
  rotate_left
  ·simp only [Act.put,q1,q2,q3,i64_w,i32_w]
   rfl
  refine pure_ (i:=6) (N:=some 34) (v:=?_) (a':=?_) #[Y,Y,Z,Z,Z,Z,Y,Z,Z,Z,Z,Z,Z,Z,Z,Z,Z,Z,Z,Z] rfl rfl d12 hh (Or.inl ⟨d20,?_⟩) ?_ ?_
  rotate_left
  ·intro w'
   go_simp
   with_reducible rfl
  rotate_left
  ·simp only [Act.put,q1,q2,q3,i64_w,i32_w]
   rfl
  refine pure_ (i:=7) (N:=some 35) (v:=?_) (a':=?_) #[Y,Y,Z,Z,Z,Z,Y,Y,Z,Z,Z,Z,Z,Z,Z,Z,Z,Z,Z,Z] rfl rfl d12 hh (Or.inl ⟨d20,?_⟩) ?_ ?_
  rotate_left
  ·intro w'
   go_simp
   with_reducible rfl
  rotate_left
  ·simp only [Act.put,q1,q2,q3,i64_w,i32_w]
   rfl
  refine pure_ (i:=8) (N:=some 36) (v:=?_) (a':=?_) #[Y,Y,Z,Z,Z,Z,Y,Y,Y,Z,Z,Z,Z,Z,Z,Z,Z,Z,Z,Z] rfl rfl d12 hh (Or.inl ⟨d20,?_⟩) ?_ ?_
  rotate_left
  ·intro w'
   go_simp
   with_reducible rfl
  rotate_left
  ·simp only [Act.put,q1,q2,q3,i64_w,i32_w]
   rfl
  refine pure_ (i:=9) (N:=some 37) (v:=?_) (a':=?_) #[Y,Y,Z,Z,Z,Z,Y,Y,Y,Y,Z,Z,Z,Z,Z,Z,Z,Z,Z,Z] rfl rfl d12 hh (Or.inl ⟨d20,?_⟩) ?_ ?_
  rotate_left
  ·intro w'
   go_simp
   with_reducible rfl
  rotate_left
  ·simp only [Act.put,q1,q2,q3,i64_w,i32_w]
   rfl
  refine pure_ (i:=10) (N:=some 38) (v:=?_) (a':=?_) #[Y,Y,Z,Z,Z,Z,Y,Y,Y,Y,Y,Z,Z,Z,Z,Z,Z,Z,Z,Z] rfl rfl d12 hh (Or.inl ⟨d20,?_⟩) ?_ ?_
  rotate_left
  ·intro w'
   go_simp
   with_reducible rfl
  rotate_left
  ·simp only [Act.put,q1,q2,q3,i64_w,i32_w]
   rfl
  refine pure_ (i:=12) (N:=some 40) (v:=?_) (a':=?_) #[Y,Y,Z,Z,Z,Z,Y,Y,Y,Y,Y,Z,Y,Z,Z,Z,Z,Z,Z,Z] rfl rfl d12 hh (Or.inl ⟨d20,?_⟩) ?_ ?_
  rotate_left
  ·intro w'
   go_simp
   with_reducible rfl
  rotate_left
  ·simp only [Act.put,q1,q2,q3,i64_w,i32_w]
   rfl
  refine pure_ (i:=13) (N:=some 41) (v:=?_) (a':=?_) #[Y,Y,Z,Z,Z,Z,Y,Y,Y,Y,Y,Z,Y,Y,Z,Z,Z,Z,Z,Z] rfl rfl d12 hh (Or.inl ⟨d20,?_⟩) ?_ ?_
  rotate_left
  ·intro w'
   go_simp
   with_reducible rfl
  rotate_left
  ·simp only [Act.put,q1,q2,q3,i64_w,i32_w]
   rfl
  refine pure_ (i:=14) (N:=some 42) (v:=?_) (a':=?_) #[Y,Y,Z,Z,Z,Z,Y,Y,Y,Y,Y,Z,Y,Y,Y,Z,Z,Z,Z,Z] rfl rfl d12 hh (Or.inl ⟨d20,?_⟩) ?_ ?_
  rotate_left
  ·intro w'
   go_simp
   with_reducible rfl
  rotate_left
  ·simp only [Act.put,q1,q2,q3,i64_w,i32_w]
   rfl
  refine take_ (i:=11) (N:=some 39) (v:=?_) (a':=?_) #[Y,Y,Z,Z,Z,Z,Y,Y,Y,Y,Y,Y,Y,Y,Y,Z,Z,Z,Z,Z] rfl rfl d12 hh (Or.inl ⟨d20,?_⟩) hHeld ?_ ?_
  rotate_left
  ·rintro w' ⟨s0,s1⟩
   go_simp
   with_reducible rfl
  rotate_left
  ·simp only [Act.put,q1,q2,q3,i64_w,i32_w]
   rfl
  refine take_ (i:=15) (N:=some 43) (v:=?_) (a':=?_) #[Y,Y,Z,Z,Z,Z,Y,Y,Y,Y,Y,Y,Y,Y,Y,Y,Z,Z,Z,Z] rfl rfl d12 hh (Or.inl ⟨d20,?_⟩) hHeld ?_ ?_
  rotate_left
  ·rintro w' ⟨s0,s1⟩
   go_simp
   with_reducible rfl
  rotate_left
  ·simp only [Act.put,q1,q2,q3,i64_w,i32_w]
   rfl
  refine pure_ (i:=2) (N:=some 30) (v:=?_) (a':=?_) #[Y,Y,Y,Z,Z,Z,Y,Y,Y,Y,Y,Y,Y,Y,Y,Y,Z,Z,Z,Z] rfl rfl d12 hh (Or.inl ⟨d20,?_⟩) ?_ ?_
  rotate_left
  ·intro w'
   go_simp
   with_reducible rfl
  rotate_left
  ·simp only [Act.put,q1,q2,q3,i64_w,i32_w]
   rfl
  refine pure_ (i:=3) (N:=some 31) (v:=?_) (a':=?_) #[Y,Y,Y,Y,Z,Z,Y,Y,Y,Y,Y,Y,Y,Y,Y,Y,Z,Z,Z,Z] rfl rfl d12 hh (Or.inl ⟨d20,?_⟩) ?_ ?_
  rotate_left
  ·intro w'
   go_simp
   with_reducible rfl
  rotate_left
  ·simp only [Act.put,q1,q2,q3,i64_w,i32_w]
   rfl
  refine pure_ (i:=4) (N:=some 32) (v:=?_) (a':=?_) #[Y,Y,Y,Y,Y,Z,Y,Y,Y,Y,Y,Y,Y,Y,Y,Y,Z,Z,Z,Z] rfl rfl d12 hh (Or.inl ⟨d20,?_⟩) ?_ ?_
  rotate_left
  ·intro w'
   go_simp
   with_reducible rfl
  rotate_left
  ·simp only [Act.put,q1,q2,q3,i64_w,i32_w]
   rfl
  refine pure_ (i:=5) (N:=some 33) (v:=?_) (a':=?_) #[Y,Y,Y,Y,Y,Y,Y,Y,Y,Y,Y,Y,Y,Y,Y,Y,Z,Z,Z,Z] rfl rfl d12 hh (Or.inl ⟨d20,?_⟩) ?_ ?_
  rotate_left
  ·intro w'
   go_simp
   with_reducible rfl
  rotate_left
  ·simp only [Act.put,q1,q2,q3,i64_w,i32_w]
   rfl
  refine pure_ (i:=16) (N:=some 44) (v:=?_) (a':=?_) #[Y,Y,Y,Y,Y,Y,Y,Y,Y,Y,Y,Y,Y,Y,Y,Y,Y,Z,Z,Z] rfl rfl d12 hh (Or.inl ⟨d20,?_⟩) ?_ ?_
  rotate_left
  ·intro w'
   go_simp
   with_reducible rfl
  rotate_left
  ·simp only [Act.put,q1,q2,q3,i64_w,i32_w]
   rfl
  refine last_ (i:=17) (N:=none) #[Y,Y,Y,Y,Y,Y,Y,Y,Y,Y,Y,Y,Y,Y,Y,Y,Y,Y,Z,Z] rfl rfl d12 d9 (fun K hK=>?_)
  refine skip_ (w1:=?_) d20 rfl ?_ ?_
  rotate_left
  ·go_simp
   rfl
  refine hK.out _ _ ?_
  clear hK K
  have hE1:=HE.out.put a hal hok1 hle1 HF1.out
  have HF0':=am (Kd.F_far HF0.out (p:=⟨g,a,none⟩) (fun k hk=>hk.2) (.slice A1 m c1))
  clear HE HF0 HF1 hHeld hcell0 hcell1 hfr0 hfr1
  generalize wr.setCell ⟨g,a,none⟩ (.slice A1 m c1)=wr at hE1 HF0' ⊢
  have HE:=am hE1
  clear hE1
  obtain ⟨_,_,_,_,_,hcellp,_,_,hfrp⟩:=HE.out.row p hp0
  refine pure_ (i:=18) (N:=some 45) (v:=?_) (a':=?_) #[Y,Y,Y,Y,Y,Y,Y,Y,Y,Y,Y,Y,Y,Y,Y,Y,Y,Y,Y,Z] rfl rfl d12 hh (Or.inl ⟨d20,?_⟩) ?_ ?_
  rotate_left
  ·intro w'
   go_simp
   with_reducible rfl
  rotate_left
  ·simp only [Act.put,q1,q2,q3,i64_w,i32_w]
   rfl
  refine last_ (i:=19) (N:=none) #[Y,Y,Y,Y,Y,Y,Y,Y,Y,Y,Y,Y,Y,Y,Y,Y,Y,Y,Y,Y] rfl rfl d12 d9 (fun K hK=>?_)
  refine skip_ (w1:=?_) d20 rfl ?_ ?_
  rotate_left
  ·go_simp
   rfl
  refine hK.out _ _ ?_
  clear hK K
  refine done_ d12 ?_
  have hE1:=HE.out.put p hp0 hok0 hle0 HF0'.out
  clear HE HF0' hcellp hfrp
  generalize wr.setCell ⟨g,p,none⟩ (.slice A0 m c0)=wr at hE1 ⊢
  have HE:=am hE1
  clear hE1 hw
  go_wp2_with fail
  have htop:=el_top (by rw [hlen1];exact hal) hr0 hr1
  replace HE:=am (HE.out.below (pd (Below.refl _ _)))
  obtain ⟨r2,A2,c2,hr2,hok2,hcell2,hle2,hF2,hfr2⟩:=HE.out.row a hal
  rw [htop] at hr2
  subst hr2
  obtain ⟨ad2,rfl,hbyte⟩:=F_m hF2 hok2.2 k hbm
  obtain ⟨x,hx⟩:∃ x,x=r1.getD k 0:=⟨_,rfl⟩
  rw [← hx] at hbyte
  have hkey:=HE.out.key
  have hkm:(k:Int) < (m:Int):=by omega
  have hxb:Byte x:=by rw [hx];exact bytes_getD hok1.1 k
  obtain ⟨kI,hI⟩:=(ImplElim.impl_Inverse.ev hxb).rounds
  obtain ⟨kS,hS⟩:=(ImplElim.impl_scaled.ev hxb.inv hok1.1 (by rw [hok1.2];omega)).rounds
  have HI:=am hI
  have HSc:=am hS
  clear hI hS htop
  refine start_ (n:=17) (S:=fun w'=>w'.cell? ⟨g,a,none⟩=some (.slice (some ad2) m c2)∧w'.cell? ⟨gb,0,none⟩=some (.int .i64 k)∧w'.cell? (ad2.add k)=some (.int .u8 x)) (ds:=[16]) #[Z,Z,Z,Z,Z,Z,Z,Z,Z,Z,Z,Z,Z,Z,Z,Z,Z] d12 rfl rfl ⟨hcell2,hkey,hbyte⟩ (fun hHeld=>?_)
  generalize wr.drew=wr at HE hHeld hF2 hkey hbyte hcell2 hfr2 ⊢
  have HF2:=am hF2
  clear hF2 hkey hbyte hcell2 hfr2
  refine pure_ (i:=0) (N:=some 46) (v:=?_) (a':=?_) #[Y,Z,Z,Z,Z,Z,Z,Z,Z,Z,Z,Z,Z,Z,Z,Z,Z] rfl rfl d12 hh (Or.inl ⟨d20,?_⟩) ?_ ?_
  rotate_left
  ·intro w'
   go_simp
   with_reducible rfl
  rotate_left
  ·simp only [Act.put,q1,q2,q3,i64_w,i32_w]
   rfl
  refine pure_ (i:=1) (N:=some 47) (v:=?_) (a':=?_) #[Y,Y,Z,Z,Z,Z,Z,Z,Z,Z,Z,Z,Z,Z,Z,Z,Z] rfl rfl d12 hh (Or.inl ⟨d20,?_⟩) ?_ ?_
  rotate_left
  ·intro w'
   go_simp
   with_reducible rfl
  rotate_left
  ·simp only [Act.put,q1,q2,q3,i64_w,i32_w]
   rfl
  refine pure_ (i:=2) (N:=some 48) (v:=?_) (a':=?_) #[Y,Y,Y,Z,Z,Z,Z,Z,Z,Z,Z,Z,Z,Z,Z,Z,Z] rfl rfl d12 hh (Or.inl ⟨d20,?_⟩) ?_ ?_
  rotate_left
  ·intro w'
   go_simp
   with_reducible rfl
  rotate_left
  ·simp only [Act.put,q1,q2,q3,i64_w,i32_w]
   rfl
  refine pure_ (i:=3) (N:=some 49) (v:=?_) (a':=?_) #[Y,Y,Y,Y,Z,Z,Z,Z,Z,Z,Z,Z,Z,Z,Z,Z,Z] rfl rfl d12 hh (Or.inl ⟨d20,?_⟩) ?_ ?_
  rotate_left
  ·intro w'
   go_simp
   with_reducible rfl
  rotate_left
  ·simp only [Act.put,q1,q2,q3,i64_w,i32_w]
   rfl
  refine pure_ (i:=4) (N:=some 50) (v:=?_) (a':=?_) #[Y,Y,Y,Y,Y,Z,Z,Z,Z,Z,Z,Z,Z,Z,Z,Z,Z] rfl rfl d12 hh (Or.inl ⟨d20,?_⟩) ?_ ?_
  rotate_left
  ·intro w'
   go_simp
   with_reducible rfl
  rotate_left
  ·simp only [Act.put,q1,q2,q3,i64_w,i32_w]
   rfl
  refine take_ (i:=5) (N:=some 51) (v:=?_) (a':=?_) #[Y,Y,Y,Y,Y,Y,Z,Z,Z,Z,Z,Z,Z,Z,Z,Z,Z] rfl rfl d12 hh (Or.inl ⟨d20,?_⟩) hHeld ?_ ?_
  rotate_left
  ·rintro w' ⟨s0,s1,s2⟩
   go_simp
   with_reducible rfl
  rotate_left
  ·simp only [Act.put,q1,q2,q3,i64_w,i32_w]
   rfl
  refine take_ (i:=6) (N:=some 52) (v:=?_) (a':=?_) #[Y,Y,Y,Y,Y,Y,Y,Z,Z,Z,Z,Z,Z,Z,Z,Z,Z] rfl rfl d12 hh (Or.inl ⟨d20,?_⟩) hHeld ?_ ?_
  rotate_left
  ·rintro w' ⟨s0,s1,s2⟩
   go_simp
   with_reducible rfl
  rotate_left
  ·simp only [Act.put,q1,q2,q3,i64_w,i32_w]
   rfl
  refine pure_ (i:=7) (N:=some 53) (v:=?_) (a':=?_) #[Y,Y,Y,Y,Y,Y,Y,Y,Z,Z,Z,Z,Z,Z,Z,Z,Z] rfl rfl d12 hh (Or.inl ⟨d20,?_⟩) ?_ ?_
  rotate_left
  ·intro w'
   go_simp
   with_reducible rfl
  rotate_left
  ·simp only [Act.put,q1,q2,q3,i64_w,i32_w]
   rfl
  refine take_ (i:=8) (N:=some 54) (v:=?_) (a':=?_) #[Y,Y,Y,Y,Y,Y,Y,Y,Y,Z,Z,Z,Z,Z,Z,Z,Z] rfl rfl d12 hh (Or.inl ⟨d20,?_⟩) hHeld ?_ ?_
  rotate_left
  ·rintro w' ⟨s0,s1,s2⟩
   go_simp
   with_reducible rfl
  rotate_left
  ·simp only [Act.put,q1,q2,q3,i64_w,i32_w]
   rfl
  refine pure_ (i:=10) (N:=some 56) (v:=?_) (a':=?_) #[Y,Y,Y,Y,Y,Y,Y,Y,Y,Z,Y,Z,Z,Z,Z,Z,Z] rfl rfl d12 hh (Or.inl ⟨d20,?_⟩) ?_ ?_
  rotate_left
  ·intro w'
   go_simp
   with_reducible rfl
  rotate_left
  ·simp only [Act.put,q1,q2,q3,i64_w,i32_w]
   rfl
  refine pure_ (i:=11) (N:=some 57) (v:=?_) (a':=?_) #[Y,Y,Y,Y,Y,Y,Y,Y,Y,Z,Y,Y,Z,Z,Z,Z,Z] rfl rfl d12 hh (Or.inl ⟨d20,?_⟩) ?_ ?_
  rotate_left
  ·intro w'
   go_simp
   with_reducible rfl
  rotate_left
  ·simp only [Act.put,q1,q2,q3,i64_w,i32_w]
   rfl
  refine pure_ (i:=12) (N:=some 58) (v:=?_) (a':=?_) #[Y,Y,Y,Y,Y,Y,Y,Y,Y,Z,Y,Y,Y,Z,Z,Z,Z] rfl rfl d12 hh (Or.inl ⟨d20,?_⟩) ?_ ?_
  rotate_left
  ·intro w'
   go_simp
   with_reducible rfl
  rotate_left
  ·simp only [Act.put,q1,q2,q3,i64_w,i32_w]
   rfl
  refine take_ (i:=13) (N:=some 59) (v:=?_) (a':=?_) #[Y,Y,Y,Y,Y,Y,Y,Y,Y,Z,Y,Y,Y,Y,Z,Z,Z] rfl rfl d12 hh (Or.inl ⟨d20,?_⟩) hHeld ?_ ?_
  rotate_left
  ·rintro w' ⟨s0,s1,s2⟩
   go_simp
   with_reducible rfl
  rotate_left
  ·simp only [Act.put,q1,q2,q3,i64_w,i32_w]
   rfl
  refine one_ (i:=9) (N:=some 55) #[Y,Y,Y,Y,Y,Y,Y,Y,Y,Y,Y,Y,Y,Y,Z,Z,Z] rfl rfl d12 d9 (fun K hK=>?_)
  refine goes_ Try.func136 d12 rfl #[Value.int .u8 x] d20 rfl rfl d26 ?_
  refine (impl_Inverse.calls kI x (inv x) _ HI.out).mono ?_
  rintro e w4 ⟨rfl,⟨q4,rfl⟩⟩
  refine ⟨_,rfl,?_⟩
  replace HE:=am (HE.out.below (w1:=wr.drewN q4) (pb (Below.refl _ _) q4))
  replace HF2:=am (Kd.F_drewN HF2.out q4)
  refine hK.out _ _ ⟨hHeld.1,hHeld.2.1,hHeld.2.2⟩ (fun hHeld=>?_)
  clear hK K
  refine norm_ (a':=?_) ?_ ?_
  rotate_left
  ·show Act.put _ (some 55) _=_
   simp only [Act.put,q1,q2,q3,i64_w,i32_w]
   rfl
  refine one_ (i:=14) (N:=some 60) #[Y,Y,Y,Y,Y,Y,Y,Y,Y,Y,Y,Y,Y,Y,Y,Z,Z] rfl rfl d12 d9 (fun K hK=>?_)
  refine goes_ Try.func119 d12 rfl #[Value.int .u8 (inv x),Value.slice (some ad2) m c2] d20 rfl rfl d26 ?_
  have hS:=impl_scaled.calls kS (inv x) (some ad2) c2 r1 (scale (inv x) r1) (wr.drewN q4) (F_C HF2.out hok1.2) (by rw [hok1.2];exact hle2) HSc.out
  rw [hok1.2] at hS
  refine hS.mono ?_
  clear hS
  rintro e w5 ⟨v5,rfl,ho5,hb5⟩
  refine ⟨_,rfl,?_⟩
  obtain ⟨A5,c5,e5⟩:=Kd.R_slice ho5
  rw [scale_length,hok1.2] at e5
  subst e5
  have hle5:m≤c5:=(Kd.R_reads' ho5).2.1
  have HF5:=am (HE.out.fresh ho5)
  replace HE:=am (HE.out.below hb5)
  replace hHeld:=(show _∧_∧_ from ⟨pw_cell_below hb5 hHeld.1,pw_cell_below hb5 hHeld.2.1,pw_cell_below hb5 hHeld.2.2⟩)
  clear ho5 hb5 HF2
  refine hK.out _ _ ⟨hHeld.1,hHeld.2.1,hHeld.2.2⟩ (fun hHeld=>?_)
  clear hK K
  refine norm_ (a':=?_) ?_ ?_
  rotate_left
  ·show Act.put _ (some 60) _=_
   simp only [Act.put,q1,q2,q3,i64_w,i32_w]
   rfl
  refine pure_ (i:=15) (N:=some 61) (v:=?_) (a':=?_) #[Y,Y,Y,Y,Y,Y,Y,Y,Y,Y,Y,Y,Y,Y,Y,Y,Z] rfl rfl d12 hh (Or.inl ⟨d20,?_⟩) ?_ ?_
  rotate_left
  ·intro w'
   go_simp
   with_reducible rfl
  rotate_left
  ·simp only [Act.put,q1,q2,q3,i64_w,i32_w]
   rfl
  obtain ⟨_,_,_,_,_,hcell3,_,_,hfr3⟩:=HE.out.row a hal
  refine last_ (i:=16) (N:=none) #[Y,Y,Y,Y,Y,Y,Y,Y,Y,Y,Y,Y,Y,Y,Y,Y,Y] rfl rfl d12 d9 (fun K hK=>?_)
  refine skip_ (w1:=?_) d20 rfl ?_ ?_
  rotate_left
  ·go_simp
   rfl
  refine hK.out _ _ ?_
  clear hK K
  refine done_ d12 ?_
  have hokx:=el_scale hxb.inv hok1
  have hE1:=HE.out.put a hal hokx hle5 HF5.out
  rw [show scale (inv x) r1=scale (inv (r1.getD k 0)) r1 by rw [hx],el_lift hr0 hr1] at hE1
  clear hx
  clear HE HF5 hcell3 hfr3 hHeld
  generalize w5.setCell ⟨g,a,none⟩ (.slice A5 m c5)=wr at hE1 ⊢
  obtain ⟨R3,hR3⟩:∃ R3,R3=rowI.lift R1 k a p:=⟨_,rfl⟩
  rw [← hR3] at hE1 HS
  clear hR3
  have HE:=am hE1
  clear hE1
  go_wp2_with fail
  go_loopg [64] (len+1) (fun fu v64 wr=>∃ r:Nat,r≤len∧len - r < fu∧v64 = .int .i64 r∧Aside0 (EL w0 g cap len gb k m (rowI.clr k a R3 r) wr))
  case atStart=>exact ⟨0,Nat.zero_le _,d13,rfl,HE⟩
  case round =>
   clear HE
   obtain ⟨r,hr,hfr,rfl,HE⟩:=hrel
   by_cases hrl:r < len
   case neg =>
    have e:r=len:=by omega
    subst e
    have hrz:¬ (r:Int) < (r:Int):=by omega
    have hdr:decide ((r:Int) < (r:Int))=false:=decide_eq_false hrz
    have hkey:=HE.out.key
    go_wp2_with fail
    go_roundg (n - k)
    case measure=>omega
    case rel=>exact ⟨k+1,_,d13,d13,by rw [HS.out];go_num,by first|rfl|(simp;done),⟨by rw [HS.out];exact EL.first HE.out.N HE.out.B HE.out.all (k+1)⟩⟩
   have hrz:(r:Int) < (len:Int):=by omega
   have hkey:=HE.out.key
   have hdr:decide ((r:Int) < (len:Int))=true:=decide_eq_true hrz
   obtain ⟨rr,A6,c6,hr6,hok6,hcell6,hle6,hF6,hfr6⟩:=HE.out.row r hrl
   by_cases hra:r=a
   case pos =>
    have hS:=el_clr_skip hr6 (.inl hra)
    have HT:=am hS
    clear hS hF6
    subst hra
    go_wp2_with fail
    go_roundg (len - r)
    case measure=>omega
    case rel=>exact ⟨r+1,d13,d13,by go_num,⟨by rw [HT.out];exact HE.out⟩⟩
   have hraz:¬ (r:Int)=(a:Int):=by omega
   obtain ⟨ad6,rfl,hbyte6⟩:=F_m hF6 hok6.2 k hbm
   obtain ⟨y,hy⟩:∃ y,y=rr.getD k 0:=⟨_,rfl⟩
   rw [← hy] at hbyte6
   have HY:=am hy
   clear hy
   have hkm:(k:Int) < (m:Int):=by omega
   by_cases hy0:y=0
   case pos =>
    have hS:=el_clr_skip hr6 (.inr (HY.out.symm.trans hy0))
    have HT:=am hS
    clear hS hF6 HY
    subst hy0
    go_wp2_with fail
    go_roundg (len - r)
    case measure=>omega
    case rel=>exact ⟨r+1,d13,d13,by go_num,⟨by rw [HT.out];exact HE.out⟩⟩
   have hyb:Byte y:=by rw [HY.out];exact bytes_getD hok6.1 k
   replace HE:=am (HE.out.below (pd (Below.refl _ _)))
   replace hF6:=Kd.F_drew hF6
   obtain ⟨ry,A7,c7,hr7,hok7,hcell7,hle7,hF7,hfr7⟩:=HE.out.row a hal
   have hS:=el_clr_do hr6 hr7 hra (by rw [← HY.out];exact hy0)
   rw [← HY.out] at hS
   have HT:=am hS
   clear hS
   have hok8:=el_scale hyb hok7
   have hok9:=el_add hok6 hok8
   obtain ⟨kS,hS⟩:=(ImplElim.impl_scaled.ev hyb hok7.1 (by rw [hok7.2];omega)).rounds
   obtain ⟨kA,hA⟩:=(ImplElim.impl_added.ev hok6.1 hok8.1 (by rw [hok6.2,hok8.2]) (by rw [hok6.2];omega)).rounds
   have HSc:=am hS
   have HAd:=am hA
   clear hS hA
   have hb1:((r:Int) != (a:Int))=true:=bne_iff_ne.2 hraz
   have hb2:(y != 0)=true:=bne_iff_ne.2 hy0
   go_wp2_with fail
   refine start_ (n:=15) (S:=fun w'=>w'.cell? ⟨g,a,none⟩=some (.slice A7 m c7)∧w'.cell? ⟨gb,0,none⟩=some (.int .i64 k)∧w'.cell? (ad6.add k)=some (.int .u8 y)) (ds:=[14]) #[Z,Z,Z,Z,Z,Z,Z,Z,Z,Z,Z,Z,Z,Z,Z] d12 rfl rfl ⟨hcell7,hkey,hbyte6⟩ (fun hHeld=>?_)
   generalize wr.drew=wr at HE hHeld hF6 hF7 hcell6 hfr6 hkey hbyte6 hcell7 hfr7 ⊢
   have HF6:=am hF6
   have HF7:=am hF7
   clear hF6 hF7 hcell6 hfr6 hkey hbyte6 hcell7 hfr7
   refine pure_ (i:=0) (N:=some 79) (v:=?_) (a':=?_) #[Y,Z,Z,Z,Z,Z,Z,Z,Z,Z,Z,Z,Z,Z,Z] rfl rfl d12 hh (Or.inl ⟨d20,?_⟩) ?_ ?_
   rotate_left
   ·intro w'
    go_simp
    with_reducible rfl
   rotate_left
   ·simp only [Act.put,q1,q2,q3,i64_w,i32_w]
    rfl
   refine pure_ (i:=1) (N:=some 80) (v:=?_) (a':=?_) #[Y,Y,Z,Z,Z,Z,Z,Z,Z,Z,Z,Z,Z,Z,Z] rfl rfl d12 hh (Or.inl ⟨d20,?_⟩) ?_ ?_
   rotate_left
   ·intro w'
    go_simp
    with_reducible rfl
   rotate_left
   ·simp only [Act.put,q1,q2,q3,i64_w,i32_w]
    rfl
   refine pure_ (i:=2) (N:=some 81) (v:=?_) (a':=?_) #[Y,Y,Y,Z,Z,Z,Z,Z,Z,Z,Z,Z,Z,Z,Z] rfl rfl d12 hh (Or.inl ⟨d20,?_⟩) ?_ ?_
   rotate_left
   ·intro w'
    go_simp
    with_reducible rfl
   rotate_left
   ·simp only [Act.put,q1,q2,q3,i64_w,i32_w]
    rfl
   refine pure_ (i:=3) (N:=some 82) (v:=?_) (a':=?_) #[Y,Y,Y,Y,Z,Z,Z,Z,Z,Z,Z,Z,Z,Z,Z] rfl rfl d12 hh (Or.inl ⟨d20,?_⟩) ?_ ?_
   rotate_left
   ·intro w'
    go_simp
    with_reducible rfl
   rotate_left
   ·simp only [Act.put,q1,q2,q3,i64_w,i32_w]
    rfl
   refine take_ (i:=4) (N:=some 83) (v:=?_) (a':=?_) #[Y,Y,Y,Y,Y,Z,Z,Z,Z,Z,Z,Z,Z,Z,Z] rfl rfl d12 hh (Or.inl ⟨d20,?_⟩) hHeld ?_ ?_
   rotate_left
   ·rintro w' ⟨s0,s1,s2⟩
    go_simp
    with_reducible rfl
   rotate_left
   ·simp only [Act.put,q1,q2,q3,i64_w,i32_w]
    rfl
   refine pure_ (i:=5) (N:=some 84) (v:=?_) (a':=?_) #[Y,Y,Y,Y,Y,Y,Z,Z,Z,Z,Z,Z,Z,Z,Z] rfl rfl d12 hh (Or.inl ⟨d20,?_⟩) ?_ ?_
   rotate_left
   ·intro w'
    go_simp
    with_reducible rfl
   rotate_left
   ·simp only [Act.put,q1,q2,q3,i64_w,i32_w]
    rfl
   refine take_ (i:=6) (N:=some 85) (v:=?_) (a':=?_) #[Y,Y,Y,Y,Y,Y,Y,Z,Z,Z,Z,Z,Z,Z,Z] rfl rfl d12 hh (Or.inl ⟨d20,?_⟩) hHeld ?_ ?_
   rotate_left
   ·rintro w' ⟨s0,s1,s2⟩
    go_simp
    with_reducible rfl
   rotate_left
   ·simp only [Act.put,q1,q2,q3,i64_w,i32_w]
    rfl
   refine pure_ (i:=7) (N:=some 86) (v:=?_) (a':=?_) #[Y,Y,Y,Y,Y,Y,Y,Y,Z,Z,Z,Z,Z,Z,Z] rfl rfl d12 hh (Or.inl ⟨d20,?_⟩) ?_ ?_
   rotate_left
   ·intro w'
    go_simp
    with_reducible rfl
   rotate_left
   ·simp only [Act.put,q1,q2,q3,i64_w,i32_w]
    rfl
   refine pure_ (i:=8) (N:=some 87) (v:=?_) (a':=?_) #[Y,Y,Y,Y,Y,Y,Y,Y,Y,Z,Z,Z,Z,Z,Z] rfl rfl d12 hh (Or.inl ⟨d20,?_⟩) ?_ ?_
   rotate_left
   ·intro w'
    go_simp
    with_reducible rfl
   rotate_left
   ·simp only [Act.put,q1,q2,q3,i64_w,i32_w]
    rfl
   refine pure_ (i:=9) (N:=some 88) (v:=?_) (a':=?_) #[Y,Y,Y,Y,Y,Y,Y,Y,Y,Y,Z,Z,Z,Z,Z] rfl rfl d12 hh (Or.inl ⟨d20,?_⟩) ?_ ?_
   rotate_left
   ·intro w'
    go_simp
    with_reducible rfl
   rotate_left
   ·simp only [Act.put,q1,q2,q3,i64_w,i32_w]
    rfl
   refine take_ (i:=10) (N:=some 89) (v:=?_) (a':=?_) #[Y,Y,Y,Y,Y,Y,Y,Y,Y,Y,Y,Z,Z,Z,Z] rfl rfl d12 hh (Or.inl ⟨d20,?_⟩) hHeld ?_ ?_
   rotate_left
   ·rintro w' ⟨s0,s1,s2⟩
    go_simp
    with_reducible rfl
   rotate_left
   ·simp only [Act.put,q1,q2,q3,i64_w,i32_w]
    rfl
   refine one_ (i:=11) (N:=some 90) #[Y,Y,Y,Y,Y,Y,Y,Y,Y,Y,Y,Y,Z,Z,Z] rfl rfl d12 d9 (fun K hK=>?_)
   refine goes_ Try.func119 d12 rfl #[Value.int .u8 y,Value.slice A7 m c7] d20 rfl rfl d26 ?_
   have hS:=impl_scaled.calls kS y A7 c7 ry (scale y ry) wr (F_C HF7.out hok7.2) (by rw [hok7.2];exact hle7) HSc.out
   rw [hok7.2] at hS
   refine hS.mono ?_
   clear hS
   rintro e w5 ⟨v5,rfl,ho5,hb5⟩
   refine ⟨_,rfl,?_⟩
   obtain ⟨A8,c8,e8⟩:=Kd.R_slice ho5
   rw [scale_length,hok7.2] at e8
   subst e8
   have hle8:m≤c8:=(Kd.R_reads' ho5).2.1
   have HF8:=am (HE.out.fresh ho5)
   replace HE:=am (HE.out.below hb5)
   replace HF6:=am (Kd.F_below HF6.out hb5)
   replace hHeld:=(show _∧_∧_ from ⟨pw_cell_below hb5 hHeld.1,pw_cell_below hb5 hHeld.2.1,pw_cell_below hb5 hHeld.2.2⟩)
   clear ho5 hb5 HF7
   refine hK.out _ _ ⟨hHeld.1,hHeld.2.1,hHeld.2.2⟩ (fun hHeld=>?_)
   clear hK K
   refine norm_ (a':=?_) ?_ ?_
   rotate_left
   ·show Act.put _ (some 90) _=_
    simp only [Act.put,q1,q2,q3,i64_w,i32_w]
    rfl
   refine one_ (i:=12) (N:=some 91) #[Y,Y,Y,Y,Y,Y,Y,Y,Y,Y,Y,Y,Y,Z,Z] rfl rfl d12 d9 (fun K hK=>?_)
   refine goes_ Try.func118 d12 rfl #[Value.slice (some ad6) m c6,Value.slice A8 m c8] d20 rfl rfl d26 ?_
   have hS:=impl_added.calls kA (some ad6) c6 rr A8 c8 (scale y ry) (addV rr (scale y ry)) w5 (F_C HF6.out hok6.2) (by rw [hok6.2];exact hle6) (F_C HF8.out hok8.2) (by rw [hok8.2];exact hle8) HAd.out
   rw [hok6.2,hok8.2] at hS
   refine hS.mono ?_
   clear hS
   rintro e w6 ⟨v6,rfl,ho6,hb6⟩
   refine ⟨_,rfl,?_⟩
   obtain ⟨A9,c9,e9⟩:=Kd.R_slice ho6
   rw [hok9.2] at e9
   subst e9
   have hle9:m≤c9:=(Kd.R_reads' ho6).2.1
   have HF9:=am (HE.out.fresh ho6)
   replace HE:=am (HE.out.below hb6)
   replace hHeld:=(show _∧_∧_ from ⟨pw_cell_below hb6 hHeld.1,pw_cell_below hb6 hHeld.2.1,pw_cell_below hb6 hHeld.2.2⟩)
   clear ho6 hb6 HF6 HF8
   refine hK.out _ _ ⟨hHeld.1,hHeld.2.1,hHeld.2.2⟩ (fun hHeld=>?_)
   clear hK K
   refine norm_ (a':=?_) ?_ ?_
   rotate_left
   ·show Act.put _ (some 91) _=_
    simp only [Act.put,q1,q2,q3,i64_w,i32_w]
    rfl
   refine pure_ (i:=13) (N:=some 92) (v:=?_) (a':=?_) #[Y,Y,Y,Y,Y,Y,Y,Y,Y,Y,Y,Y,Y,Y,Z] rfl rfl d12 hh (Or.inl ⟨d20,?_⟩) ?_ ?_
   rotate_left
   ·intro w'
    go_simp
    with_reducible rfl
   rotate_left
   ·simp only [Act.put,q1,q2,q3,i64_w,i32_w]
    rfl
   obtain ⟨_,_,_,_,_,hcell3,_,_,hfr3⟩:=HE.out.row r hrl
   refine last_ (i:=14) (N:=none) #[Y,Y,Y,Y,Y,Y,Y,Y,Y,Y,Y,Y,Y,Y,Y] rfl rfl d12 d9 (fun K hK=>?_)
   refine skip_ (w1:=?_) d20 rfl ?_ ?_
   rotate_left
   ·go_simp
    rfl
   refine hK.out _ _ ?_
   clear hK K
   refine done_ d12 ?_
   have hE1:=HE.out.put r hrl hok9 hle9 HF9.out
   clear HE HF9 hcell3 hfr3 hHeld
   generalize w6.setCell ⟨g,r,none⟩ (.slice A9 m c9)=wr at hE1 ⊢
   rw [← HT.out] at hE1
   have HE:=am hE1
   clear hE1
   go_wp2_with fail
   go_roundg (len - r)
   case measure=>omega
   case rel=>exact ⟨r+1,d13,d13,by go_num,HE⟩
end
end
section
section
open Go.Proofs.Yteflgifmdojahaa.Gf Go.Proofs.Yteflgifmdojahaa.Kit Go.Proofs.Yteflgifmdojahaa.KitW Go.Proofs.Yteflgifmdojahaa.KitN
namespace ImplInv
theorem impl_identity.ev_l0 (n:Nat) (hn:n≤1048576):∀ (d i:Nat) (o:List (List Int)),i+d=n→o=(idM n).take i→Ev (fun k=>impl_identity.l0 k (n:Int) o (n:Int) (i:Int)) (idM n)
 | 0,i,o,hi,ho=>by
  refine Ev.step (fun k=>impl_identity.l0.eq_2 _ _ _ _ k) ?_
  refine ev_neg d13 (ev_now ?_)
  rw [ho,List.take_of_length_le (by simp [idM];omega)]
 | d+1,i,o,hi,ho=>by
  have hl:o.length=i:=by rw [ho,List.length_take];simp [idM];omega
  refine Ev.step (fun k=>impl_identity.l0.eq_2 _ _ _ _ k) ?_
  simp only [Option.bind_some,Int.toNat_natCast,List.length_replicate]
  refine ev_pos d13 (ev_pos d13 (ev_pos d13 (ev_pos d13 (ev_pos d13 (ev_pos d13 ?_)))))
  rw [inc d13]
  refine impl_identity.ev_l0 n hn d (i+1) _ d13 ?_
  rw [List.take_succ_eq_append_getElem (by simp [idM];omega),← ho]
  simp [idM]
theorem impl_identity.ev (n:Nat) (hn:n≤1048576):Ev (fun k=>impl_identity.f k (n:Int)) (idM n):=by
 unfold impl_identity.f
 exact impl_identity.ev_l0 n hn n 0 [] d13 rfl
end ImplInv
theorem iv_info8:(Try.prog.info? 5).map (fun i=>(i.zero,i.size,i.bytes))=some (some (.int .u8 0),1,1):=by kernel_rfl
theorem iv_info:(Try.prog.info? 24).map (fun i=>(i.zero,i.size,i.bytes))=some (some (.slice none 0 0),1,24):=by kernel_rfl
def impl_inverseOf.f (l0:List (List Int)):Option (List (List Int) × Bool):=if sqN l0=true then some (invM l0) else none
/-- The first loop: rows with the identity's beside them. -/
structure IV (w:World) (l0:List (List Int)) (ad15:Addr) (i:Nat) (v5:Value) (wr:World):Prop where
 N:Kd.N (Kd.slice 5 (Kd.int .u8)) 24 wr w.heap.size (fun _=>True) v5 ((catM l0).take i)
 F:Kd.F (Kd.slice 5 (Kd.int .u8)) wr (fun k=>True∧some k ≠ v5.ownBlock) (some ad15) l0.length (idM l0.length)
 B:Below w.heap.size w wr
theorem IV.below {w wr w1:World} {l0:List (List Int)} {ad15:Addr} {i:Nat} {v5:Value} (h:IV w l0 ad15 i v5 wr) (hb:Below wr.heap.size wr w1):IV w l0 ad15 i v5 w1:=⟨Kd.N_below h.N hb,Kd.F_below h.F hb,pu h.B hb⟩
theorem IV.row {w wr:World} {l0:List (List Int)} {ad15:Addr} {i:Nat} {v5:Value} (h:IV w l0 ad15 i v5 wr) (j:Nat) (hj:j < l0.length) :
  ∃ A c,wr.cell? (ad15.add j)=some (.slice A ((idM l0.length).getD j []).length c)∧((idM l0.length).getD j []).length≤c∧Kd.F (Kd.int .u8) wr (fun k=>True∧some k ≠ v5.ownBlock) A ((idM l0.length).getD j []).length ((idM l0.length).getD j []):=by
 obtain ⟨ad,c,e,_,hK,hcc,_⟩:=Kd.F_get h.F ([]:List Int) (j:Int) d13 d13
 injection e with e
 subst e
 rw [Int.toNat_natCast] at hK hcc
 obtain ⟨A,c1,rfl,hle,hF⟩:=Kd.FK_slice_open hK
 have h0:=hcc 0 _ rfl
 have hsz:(Kd.slice 5 (Kd.int .u8)).sz=1:=rfl
 rw [hsz,Nat.mul_one,Nat.add_zero] at h0
 exact ⟨A,c1,h0,hle,hF⟩
/-- The second loop: what stands beside is copied out. -/
structure IW (w:World) (D:List (List Int)) (n g cap len:Nat) (i:Nat) (v8:Value) (wr:World):Prop where
 N:Kd.N (Kd.slice 5 (Kd.int .u8)) 24 wr w.heap.size (fun k=>True∧some k ≠ v8.ownBlock) (.slice (some ⟨g,0,none⟩) len cap) D
 S:Kd.S (Kd.slice 5 (Kd.int .u8)) 24 wr w.heap.size (fun _=>True) v8 ((D.map (List.drop n)).take i)
 B:Below w.heap.size w wr
theorem impl_inverseOf.calls (A0:Option Addr) (c0:Nat) (l0:List (List Int)) (r1:List (List Int)) (r2:Bool) (w:World) (hr0:Kd.C (Kd.slice 5 (Kd.int .u8)) w A0 l0.length l0) (hc0:l0.length≤c0) (h:impl_inverseOf.f l0=some (r1,r2)) :
  Calls Try.prog 92 #[.slice A0 l0.length c0] w fun e w'=>∃ v0_:Value,e = .returned (.tuple #[v0_, .bool r2])∧Kd.S (Kd.slice 5 (Kd.int .u8)) 24 w' w.heap.size (fun _=>True) v0_ r1∧Below w.heap.size w w':=by
 unfold impl_inverseOf.f at h
 by_cases hs:sqN l0=true
 case neg=>rw [if_neg hs] at h;cases h
 rw [if_pos hs] at h
 have hrr:invM l0=(r1,r2):=Option.some.inj h
 clear h
 obtain ⟨h1,h2,h3⟩:=sqN_iff.1 hs
 clear hs
 obtain ⟨ad0,rfl,_⟩:=hr0.2.2 d13
 obtain ⟨n,hn⟩:∃ n,n=l0.length:=⟨_,rfl⟩
 obtain ⟨kI,hI⟩:=(ImplInv.impl_identity.ev l0.length d13).rounds
 have HI:=am hI
 have HN:=am hn
 have HR0:=am hr0
 have HO3:=am h3
 have HRR:=am hrr
 rw [← hn] at h1 h2 hc0 ⊢
 clear hI hn hr0 h3 hrr
 have HB:=am (Below.refl w.heap.size w)
 go_enter Try.func92,Try.ntmps92
 go_wp2_with (first|((with_reducible refine gD 13 ?_);refine Kd.N_lit (Kd.slice 5 (Kd.int .u8)) _ 24 d20 (N':=13) d20 (xs:=([]:List (List Int))) (inner:=[]) (ok:=fun _=>True) (okp:=fun _=>True) d28 d54 (fun _ hk=>hk) trivial (Below.refl _ _) (Nat.le_refl _) d41 ?_;intro v13 w3 ho4 hb hg_ hnew_;clear hg_ hnew_;have HO:=am ho4;clear HB;have HB:=am hb;clear hb ho4)|fail)
 have hI:impl_identity.f kI (n:Int)=some (idM l0.length):=by rw [HN.out];exact HI.out
 refine (impl_identity.calls kI (n:Int) (idM l0.length) _ hI).mono ?_
 clear hI
 rintro e w4 ⟨v15,rfl,ho,hb⟩
 obtain ⟨g15,c15,e15,_⟩:=Kd.S_form ho (by rw [idM_length];have:=HN.out;omega)
 rw [idM_length] at e15
 have hN4:=Kd.N_below HO.out hb
 have hlt:=Kd.N_lt HO.out
 have HX:=am (show IV w l0 ⟨g15,0,none⟩ 0 v13 w4 from ⟨by simpa using hN4,by
  have hS:=Kd.S_F (n:=l0.length) (by rw [e15] at ho;exact Kd.S_mono (Kd.S_bound ho) (ok':=fun k=>True∧some k ≠ v13.ownBlock) (fun k hk=>⟨trivial,fun e=>by have:=hlt k e.symm;have:=hk.2.1;omega⟩))
  exact hS,pu HB.out hb⟩)
 rw [← HN.out] at e15
 subst e15
 clear HO HB hb ho hN4 hlt
 go_wp2_with fail
 go_loopg [5,17] (n+1) (fun fu v5 v17 wr=>∃ i:Nat,i≤n∧n - i < fu∧v17 = .int .i64 i∧Aside0 (IV w l0 ⟨g15,0,none⟩ i v5 wr))
 case atStart=>exact ⟨0,Nat.zero_le _,d13,rfl,HX⟩
 case round =>
  clear HX
  obtain ⟨i,hi,hfu,rfl,HX⟩:=hrel
  by_cases hin:i < n
  case neg =>
   have e:i=n:=by omega
   subst e
   have hrz:¬ (i:Int) < (i:Int):=by omega
   have hdr:decide ((i:Int) < (i:Int))=false:=decide_eq_false hrz
   obtain ⟨g,cap,eg,_⟩:=Kd.N_form HX.out.N (by rw [List.length_take,catM_length];have:=HN.out;omega)
   rw [List.length_take,catM_length,← HN.out,Nat.min_self] at eg
   subst eg
   have hN:=HX.out.N
   rw [List.take_of_length_le (by rw [catM_length];have:=HN.out;omega)] at hN
   have HN1:=am hN
   have HB:=am HX.out.B
   clear hN HX
   obtain ⟨D,hD⟩:∃ D,D=(rowI.red (catM l0) l0.length).1:=⟨_,rfl⟩
   obtain ⟨z,hz⟩:∃ z,z=(redP l0 (idM l0.length) l0.length).2:=⟨_,rfl⟩
   have HD:=am hD
   have HZ:=am hz
   have HE:=am (impl_eliminate.calls (catM l0) (l0.length+l0.length) l0.length (catM_ok HO3.out) d13 d102 (by rw [catM_length];have:=HN.out;omega) g cap i (by rw [catM_length];exact HN.out.symm) w wr HB.out HN1.out)
   rw [← HN.out,HN.out,← hD,show (rowI.red (catM l0) l0.length).2=z by rw [hz,catM_red HO3.out],← HN.out] at HE
   clear hD hz HN1 HB
   go_wp2_with fail
   refine HE.out.mono ?_
   clear HE
   rintro e w5 ⟨rfl,hN,hB⟩
   have HN1:=am hN
   have HB:=am hB
   have HDA:=am (show ∀ r ∈ D,okI (i+i) r by rw [HD.out];have z:=RowK.red_all (shutI (l0.length+l0.length)) (catM_ok HO3.out) l0.length;rw [← HN.out] at z ⊢;exact z)
   have HDL:=am (show D.length=i by rw [HD.out,RowK.red_length,catM_length];exact HN.out.symm)
   clear hN hB
   by_cases hzi:z < i
   case pos =>
    have hzz:(z:Int) < (i:Int):=by omega
    have hdz:decide ((z:Int) < (i:Int))=true:=decide_eq_true hzz
    go_wp2_with fail
    go_ret2
    have e:=HRR.out
    unfold invM at e
    rw [← HZ.out,← HN.out,if_pos hzi] at e
    injection e with e1 e2
    subst e1 e2
    exact ⟨_,rfl,Kd.S_nil _ _ _ _ _,HB.out⟩
   have hzz:¬ (z:Int) < (i:Int):=by omega
   have hdz:decide ((z:Int) < (i:Int))=false:=decide_eq_false hzz
   have HRE:=am (show D.map (List.drop i)=r1∧r2=true by
    have e:=HRR.out
    unfold invM at e
    rw [← HZ.out,if_neg d102,← catM_out HO3.out,← HD.out,← HN.out] at e
    injection e with e1 e2
    exact ⟨e1,e2.symm⟩)
   obtain ⟨_,rfl⟩:=HRE.out
   go_wp2_with (first|((with_reducible refine gD 38 ?_);refine Kd.S_lit (Kd.slice 5 (Kd.int .u8)) _ 24 d20 (N:=38) d20 (xs:=([]:List (List Int))) (inner:=[]) (ok:=fun _=>True) (okp:=fun _=>True) d28 d54 (fun _ hk=>hk) trivial (Below.refl _ _) (Nat.le_refl _) d41 ?_;intro v38 w6 ho6 hb6 hg6 hnew6;clear hg6 hnew6;have HX:=am (show IW w D i g cap i 0 v38 w6 from ⟨Kd.N_elder' HN1.out (Kd.S_base ho6) hb6,by rw [List.take_zero];exact Kd.S_lower ho6 HB.out.size,pu HB.out hb6⟩);clear HN1 HB ho6 hb6)|fail)
   go_loopg [8,41] (i+1) (fun fu v8 v41 wr=>∃ j:Nat,j≤i∧i - j < fu∧v41 = .int .i64 j∧Aside0 (IW w D i g cap i j v8 wr))
   case atStart=>exact ⟨0,Nat.zero_le _,d13,rfl,HX⟩
   case round =>
    clear HX
    obtain ⟨j,hj,hfu2,rfl,HX⟩:=hrel
    by_cases hji:j < i
    case neg =>
     have e:j=i:=by omega
     subst e
     have hrz:¬ (j:Int) < (j:Int):=by omega
     have hdr:decide ((j:Int) < (j:Int))=false:=decide_eq_false hrz
     go_wp2_with fail
     go_ret2
     have hS:=HX.out.S
     rw [List.take_of_length_le (by rw [List.length_map,HDL.out];omega),HRE.out.1] at hS
     exact ⟨_,rfl,hS,HX.out.B⟩
    have hrz:(j:Int) < (i:Int):=by omega
    have hdr:decide ((j:Int) < (i:Int))=true:=decide_eq_true hrz
    obtain ⟨A44,c44,hcell44,hle44,hF44,_⟩:=N_row HX.out.N j hji
    obtain ⟨dj,hdj⟩:∃ x,x=D.getD j []:=⟨_,rfl⟩
    rw [← hdj] at hcell44 hle44 hF44
    have hok:okI (i+i) dj:=by rw [hdj];exact RowK.at_all (O:=rowI) HDA.out (by rw [HDL.out];exact hji)
    have hdl:=hok.2
    obtain ⟨ad44,rfl,_⟩:=F_byte hF44 0 d13
    have hCd:=Kd.F_now (Kd.F_cut (m:=i) hF44 d13 hle44)
    rw [hdl] at hcell44 hle44
    have hcn:(c44=i)=False:=eq_false d13
    have hci:i≤c44:=by omega
    rw [if_neg d13,show (some ad44).map (fun x=>x.add (i*(Kd.int .u8).sz))=some (ad44.add i) from by show some (ad44.add (i*1))=_;rw [Nat.mul_one]] at hCd
    have hdd:(dj.drop i).length=i:=by rw [List.length_drop];omega
    have hcl:=slices_Clone_byte_byte.calls _ (c44 - i) (dj.drop i) (dj.drop i) wr hCd d13 (by unfold slices_Clone_byte_byte.f;simp;omega)
    rw [hdd] at hcl
    have HDJ:=am hdj
    have HCL:=am hcl
    clear hcl hCd hF44 hok hdj
    go_wp2_with fail
    refine HCL.out.mono ?_
    clear HCL
    rintro e w6 ⟨v49,rfl,ho,hb⟩
    obtain ⟨A49,c49,e49⟩:=Kd.R_slice ho
    rw [hdd] at e49
    subst e49
    have HO:=am (Kd.R_lower (Kd.R_mono (Kd.R_bound ho) (ok':=fun k=>wr.heap.size≤k) (fun k hk=>hk.2.1)) HX.out.B.size)
    have HLT:=am (Kd.S_lt HX.out.S)
    have HS:=am (Kd.S_mono (Kd.S_below (Kd.S_bound HX.out.S) hb) (ok':=fun k=>True∧¬ wr.heap.size≤k) (fun k hk=>⟨trivial,by have:=hk.2.2.1;omega⟩))
    have HN1:=am (Kd.N_below HX.out.N hb)
    have HB:=am (pu HX.out.B hb)
    clear HX ho hb
    go_wp2_with (first|((with_reducible refine gate_builtin (b:=.append) (xs:=#[.tmp 45, .tmp 50]) rfl ?_);at_builtin;refine Kd.S_append (Kd.slice 5 (Kd.int .u8)) (w0:=w) w.heap.size rfl (.tmp 45) (.tmp 50) 25 24 (.slice none 0 0) 24 rfl Try.underlying25 iv_info rfl d9 d13 u8 ((D.map (List.drop i)).take j) (dj.drop i) [.slice A49 i c49] (fun _=>True) (fun k=>wr.heap.size≤k) rfl rfl (Kd.M_row HO.out) (fun k hk=>⟨trivial,fun e=>by have:=HLT.out k e.symm;omega⟩) (fun _ _=>trivial) HS.out HB.out HB.out.size (by rw [List.length_take];omega) ?_;intro v51 w7 ho7 hb7 hg7 hat7;have HX:=am (show IW w D i g cap i (j+1) v51 w7 from ⟨Kd.N_after HN1.out hg7 hat7,by rw [List.take_succ_eq_append_getElem (by rw [List.length_map,HDL.out];exact hji),List.getElem_map,show D[j]'(by rw [HDL.out];exact hji)=dj from by rw [HDJ.out,List.getD_eq_getElem?_getD,List.getElem?_eq_getElem (by rw [HDL.out];exact hji)];rfl];exact ho7,hb7⟩);clear HO HLT HS HN1 HB ho7 hb7 hg7 hat7)|fail)
    go_roundg (i - j)
    case measure=>omega
    case rel=>exact ⟨j+1,d13,d13,by go_num,HX⟩
  have hrz:(i:Int) < (n:Int):=by omega
  have hdr:decide ((i:Int) < (n:Int))=true:=decide_eq_true hrz
  obtain ⟨A21,c21,hcell21,hle21,hF21⟩:=HX.out.row i d102
  obtain ⟨ad,A26,c26,e26,hcell26,hle26,hC26⟩:=C_row (Kd.C_below HR0.out HX.out.B) i d102
  injection e26 with e26
  subst e26
  obtain ⟨li,hli⟩:∃ x,x=l0.getD i []:=⟨_,rfl⟩
  obtain ⟨di,hdi⟩:∃ x,x=(idM l0.length).getD i []:=⟨_,rfl⟩
  rw [← hdi] at hcell21 hle21 hF21
  rw [add_plain] at hcell21
  rw [← hli] at hcell26 hle26 hC26
  have HLI:=am hli
  have HDI:=am hdi
  clear hli hdi
  have hil:i < n:=hin
  have hl1:li.length=n:=by rw [HLI.out,HN.out];exact (RowK.at_all (O:=rowI) HO3.out (i:=i) d102).2
  have hd1:di.length=n:=by rw [HDI.out,HN.out];exact (RowK.at_all (O:=rowI) (idM_ok l0.length) (i:=i) (by rw [idM_length];have:=HN.out;omega)).2
  have hcl:=slices_Clone_byte_byte.calls A26 c26 li li wr hC26 hle26 (by unfold slices_Clone_byte_byte.f;simp;omega)
  rw [hl1] at hcell26 hcl
  rw [hd1] at hcell21
  go_wp2_with fail
  refine hcl.mono ?_
  clear hcl
  rintro e w5 ⟨v27,rfl,ho,hb⟩
  have HX5:=HX.out.below hb
  have hF5:=am (Kd.F_below hF21 hb)
  have HO:=am ho
  have HB5:=am hb
  clear ho hb hF21 hcell21 hcell26 hC26 HX5
  go_wp2_with (first|((with_reducible refine gate_builtin (b:=.append) (xs:=#[.tmp 27, .tmp 28]) rfl ?_);at_builtin;refine Kd.R_append_rows (Kd.int .u8) (w0:=wr) wr.heap.size rfl (.tmp 27) (.tmp 28) 24 5 (.int .u8 0) 1 rfl Try.underlying24 iv_info8 rfl d9 d13 v27 li di A21 n c21 (fun _=>True) (fun _=>False) rfl rfl HO.out (by have z:=Kd.F_now hF5.out;rwa [hd1] at z) (fun _ _ h=>h) (fun _ h=>h.elim) (fun _ _=>trivial) HB5.out HB5.out.size (by rw [hl1];omega) ?_;intro v29 w6 ho6 hb6 hg6 hat6;obtain ⟨A29,c29,e29⟩:=Kd.R_slice ho6;rw [List.length_append,hl1,hd1] at e29;subst e29;have HX6:=am (HX.out.below hb6);have HO6:=am ho6;clear HO HB5 hF5 ho6 hb6 hg6 hat6)|((with_reducible refine gate_builtin (b:=.append) (xs:=#[.tmp 22, .tmp 30]) rfl ?_);at_builtin;refine Kd.N_append (Kd.slice 5 (Kd.int .u8)) (w0:=w) w.heap.size rfl (.tmp 22) (.tmp 30) 25 24 (.slice none 0 0) 24 rfl Try.underlying25 iv_info rfl d9 d13 u5 ((catM l0).take i) (li ++ di) [.slice A29 (n+n) c29] (fun _=>True) (fun k=>wr.heap.size≤k) rfl rfl (FK_of_R (Kd.R_mono (Kd.R_bound HO6.out) (ok':=fun k=>wr.heap.size≤k) (fun k hk=>hk.2.1))) (fun k hk=>⟨trivial,fun e=>by have:=Kd.N_lt HX.out.N k e.symm;omega⟩) (fun _ _=>trivial) HX6.out.N HX6.out.B HX6.out.B.size (by rw [List.length_take];omega) ?_;intro v31 w7 ho7 hb7 hg7 hat7;rw [HLI.out,HDI.out,← catM_succ d102] at ho7;have HX7:=am (IV.mk ho7 (Kd.F_after HX6.out.F hg7 hat7) hb7);clear HX HX6 HO6 ho7 hb7 hg7 hat7))
  go_roundg (n - i)
  case measure=>omega
  case rel=>exact ⟨i+1,d13,d13,by go_num,HX7⟩
end

def impl_InverseOf.f (l0_0:List (List Int)):Option ((List (List Int)) × Bool):=(impl_GoodMatrix.f l0_0).bind fun t254=>(if t254=true then (if 0 < (l0_0.length:Int) then (if (l0_0.length:Int)=((rd_L1 l0_0 0).length:Int) then ((impl_inverseOf.f l0_0).bind fun bt256=>(some (bt256.1,bt256.2))) else (some (([]:List (List Int)),false))) else (none)) else (some (([]:List (List Int)),false)))
def impl_InverseOf.T1:Bool × List (List Nat × List Nat):=(true,[([],[]),([0],[0]),([1],[1]),([2,1],[2]),([3],[3]),([4,3],[3,4]),([5,3],[3,5]),([3],[3]),([7,3],[3,7]),([8,3],[3,8]),([9,3],[3,9]),([10,3],[3,10]),([6,11,3],[3,6,11]),([3,12],[3,12])])
def impl_InverseOf.B1:List Nat:=[0,1,3,7,15,31,63,15,143,399,911,1935,4095,8191]
theorem impl_InverseOf.tab1:rtab .any (opsOf Try.f39 1)=impl_InverseOf.T1:=by kernel_rfl
theorem impl_InverseOf.bits1:waitsOk impl_InverseOf.T1.2 impl_InverseOf.B1=true:=by kernel_rfl
theorem impl_InverseOf.calls (A0_0:Option Addr) (c0_0:Nat) (l0_0:List (List Int)) (r1:List (List Int)) (r2:Bool) (w:World) (hr0_0:Kd.C (Kd.slice 5 (Kd.int .u8)) w A0_0 l0_0.length l0_0) (hc0_0:l0_0.length≤c0_0) (h:impl_InverseOf.f l0_0=some (r1,r2)) :
  Calls Try.prog 39 #[.agg #[.slice A0_0 l0_0.length c0_0]] w fun e w'=>∃ v0_:Value,e = .returned (.tuple #[.agg #[v0_], .bool r2])∧Kd.S (Kd.slice 5 (Kd.int .u8)) 24 w' w.heap.size (fun _=>True) v0_ r1∧Below w.heap.size w w':=by
 have hu27:=Try.underlying27
 have HR0_0:=am hr0_0
 have HC0_0:=am hc0_0
 clear hr0_0 hc0_0
 have HB:=am (Below.refl w.heap.size w)
 have H:=h
 unfold impl_InverseOf.f at H
 clear h
 obtain ⟨t254,A2,H⟩:=yo H
 by_cases c3:t254=true
 ·subst c3
  replace H:=yt H
  obtain ⟨c4,H⟩:=yi H
  have c4b0:=decide_eq_true c4
  have c4b1:decide (0 < l0_0.length)=true:=decide_eq_true d13
  clear c4
  by_cases c5:(l0_0.length:Int)=((rd_L1 l0_0 0).length:Int)
  ·rw [if_pos c5] at H
   have c5b0:((l0_0.length:Int) == ((rd_L1 l0_0 0).length:Int))=true:=beq_iff_eq.mpr c5
   have c5b1:((l0_0.length:Int) != ((rd_L1 l0_0 0).length:Int))=false:=bne_eq_false_iff_eq.mpr c5
   have c5b2:(l0_0.length == (rd_L1 l0_0 0).length)=true:=by first|simpa using c5|(simp at c5 ⊢;omega)
   clear c5
   obtain ⟨⟨t256,t257⟩,A6,H⟩:=yo H
   try dsimp only at H
   simp only [Option.some.injEq,Prod.mk.injEq] at H
   obtain ⟨rfl,rfl⟩:=H
   go_enter Try.func39,Try.ntmps39
   try go_wp2_with (first|((with_reducible refine gD 1 ?_);(try (refine gate_guard d20 ?_;dsimp only));refine gB (cs:=#[.slice A0_0 l0_0.length c0_0]) 27 ?_;intro gb252 hg w7 hbox hb;have BK252:=am (hbox);have GW252:=ye HB hg;replace HB:=yH HB hb;have GE252:=GW252;clear hb hbox hg)|((with_reducible refine gD 2 ?_);(try (refine gate_guard d20 ?_;dsimp only));refine gB (cs:=#[.slice none 0 0]) 27 ?_;intro gb253 hg w8 hbox hb;have BK253:=am (hbox);have GW253:=ye HB hg;replace HB:=yH HB hb;have NB252_253:=yl BK252 hg;have NB253_252:=yg BK252 hg;replace BK252:=yb BK252 hb;have GE253:=GW253;clear hb hbox hg))
   replace BK252:=am (qd BK252.out)
   replace BK253:=am (qd BK253.out)
   replace HB:=am (pd HB.out)
   have p255:0≤(0:Int):=d13
   have q255:0 < (l0_0.length:Int):=od d1
   obtain ⟨ad255,A255_0,c255_0,e255,hx255_0,hl255_0,hi255_0⟩:=at_L1 HR0_0.out 0 p255 q255
   have hw255_0:=hx255_0
   (try rw [show ((0:Int)).toNat=0 from rfl] at hw255_0)
   (try rw [show 0*1=0 from rfl] at hw255_0)
   (try rw [Addr.add_zero'] at hw255_0)
   cases e255
   have qi255:(0 < l0_0.length)=True:=eq_true d13
   (try rw [show ((0:Int)).toNat=0 from rfl] at hx255_0)
   (try rw [Addr.add_zero'] at hx255_0)
   replace hx255_0:=(HB.out.cell (World.block_lt_of_cell? w _ hx255_0)).trans hx255_0
   have HR255_0:=am hi255_0
   have HC255_0:=am hl255_0
   clear hi255_0 hl255_0
   replace p255:=eq_true p255
   replace q255:=eq_true q255
   refine rS (n:=14) (S:=fun w'=>w'.cell? ⟨gb252,0,none⟩=some (.slice (some ad255) l0_0.length c0_0)∧w'.cell? ad255=some (.slice A255_0 (rd_L1 l0_0 0).length c255_0)) (ds:=[]) [(0,6),(1,0),(2,8),(3,9),(4,10),(7,13),(5,11),(6,12),(8,14),(9,15),(10,16),(11,17),(12,18),(13,19)] d12 rfl impl_InverseOf.tab1 impl_InverseOf.bits1 ⟨yk BK252 0,((HB.out.cell (World.block_lt_of_cell? w _ hw255_0)).trans hw255_0)⟩ (fun hHeld HT_ HW_=>?_)
   generalize w8.drew=w9 at BK252 BK253 HB HR255_0 hx255_0 hHeld ⊢
   refine rR ?_
   refine rO (N:=some 7) HT_ rfl rfl d12 d9 (fun K hK=>?_)
   refine goes_ Try.func90 d12 rfl #[.agg #[.slice (some ad255) l0_0.length c0_0]] d20 rfl rfl d18 ?_
   with_reducible refine (impl_GoodMatrix.calls _ _ l0_0 true _ (yc (Kd.C_below HR0_0.out HB.out)) HC0_0.out A2.out).mono ?_
   rintro e w10 ⟨rfl,hb⟩
   refine ⟨_,rfl,?_⟩
   replace BK252:=yb BK252 hb
   replace BK253:=yb BK253 hb
   replace HB:=yH HB hb
   (try clear hb)
   (try clear hb2)
   (try clear hk)
   (try clear hi)
   refine hK.out _ _ ⟨yk BK252 0,((HB.out.cell (World.block_lt_of_cell? w _ hw255_0)).trans hw255_0)⟩ (fun hHeld=>?_)
   clear hK K
   refine rN (a':=?_) ?_ ?_
   rotate_left
   ·show Act.put _ (some 7) _=_
    simp only [Act.put,q1,q2,q3,i64_w,i32_w]
    rfl
   refine rR ?_
   refine rD HT_ d12 ?_
   have hnb11:=NB252_253.out
   have hnc11:=NB253_252.out
   obtain ⟨hcz12_0,hfz12_0⟩:=yk1 BK252
   try go_wp2_with (first|((with_reducible refine gC 92 ?_);refine gM (some 24) Try.func92 (args:=#[.slice (some ad255) l0_0.length c0_0]) (impl_inverseOf.calls _ _ l0_0 t256 t257 _ (yc (Kd.C_below HR0_0.out HB.out)) HC0_0.out A6.out) ?_;rintro e w13 ⟨v258,rfl,ho0,hb⟩;refine ⟨_,rfl,?_⟩;have HO259:=am (Kd.S_lower ho0 (pz (yW HB)));replace BK252:=yb BK252 hb;replace BK253:=yb BK253 hb;replace HB:=yH HB hb;clear hb ho0;obtain ⟨Ao14,co14,eo14⟩:=Kd.S_slice HO259.out;subst eo14;obtain ⟨hcz15_0,hfz15_0⟩:=yk1 BK253))
   refine bodyPost_ret (results_ct rfl _ _ gb253 27 #[.slice Ao14 t256.length co14] (0,0) _ rfl d98 Try.underlying27 rfl d12) rfl ?_
   exact ⟨_,d2,by refine sS ?_;exact Kd.S_mono (Kd.S_far (p:=⟨gb253,0,none⟩) (Kd.S_types HO259.out BK253.out d9) (fun _ hk=>hk.2) (.slice Ao14 t256.length co14)) (fun _ hk=>trivial),yW HB⟩
  rw [if_neg c5] at H
  have c5b0:((l0_0.length:Int) == ((rd_L1 l0_0 0).length:Int))=false:=beq_eq_false_iff_ne.mpr c5
  have c5b1:((l0_0.length:Int) != ((rd_L1 l0_0 0).length:Int))=true:=bne_iff_ne.mpr c5
  have c5b2:(l0_0.length == (rd_L1 l0_0 0).length)=false:=by first|simpa using c5|(simp at c5 ⊢;omega)
  simp only [Option.some.injEq,Prod.mk.injEq] at H
  obtain ⟨rfl,rfl⟩:=H
  go_enter Try.func39,Try.ntmps39
  try go_wp2_with (first|((with_reducible refine gD 1 ?_);(try (refine gate_guard d20 ?_;dsimp only));refine gB (cs:=#[.slice A0_0 l0_0.length c0_0]) 27 ?_;intro gb252 hg w16 hbox hb;have BK252:=am (hbox);have GW252:=ye HB hg;replace HB:=yH HB hb;have GE252:=GW252;clear hb hbox hg)|((with_reducible refine gD 2 ?_);(try (refine gate_guard d20 ?_;dsimp only));refine gB (cs:=#[.slice none 0 0]) 27 ?_;intro gb253 hg w17 hbox hb;have BK253:=am (hbox);have GW253:=ye HB hg;replace HB:=yH HB hb;have NB252_253:=yl BK252 hg;have NB253_252:=yg BK252 hg;replace BK252:=yb BK252 hb;have GE253:=GW253;clear hb hbox hg))
  replace BK252:=am (qd BK252.out)
  replace BK253:=am (qd BK253.out)
  replace HB:=am (pd HB.out)
  have p255:0≤(0:Int):=d13
  have q255:0 < (l0_0.length:Int):=od d1
  obtain ⟨ad255,A255_0,c255_0,e255,hx255_0,hl255_0,hi255_0⟩:=at_L1 HR0_0.out 0 p255 q255
  have hw255_0:=hx255_0
  (try rw [show ((0:Int)).toNat=0 from rfl] at hw255_0)
  (try rw [show 0*1=0 from rfl] at hw255_0)
  (try rw [Addr.add_zero'] at hw255_0)
  cases e255
  have qi255:(0 < l0_0.length)=True:=eq_true d13
  (try rw [show ((0:Int)).toNat=0 from rfl] at hx255_0)
  (try rw [Addr.add_zero'] at hx255_0)
  replace hx255_0:=(HB.out.cell (World.block_lt_of_cell? w _ hx255_0)).trans hx255_0
  have HR255_0:=am hi255_0
  have HC255_0:=am hl255_0
  clear hi255_0 hl255_0
  replace p255:=eq_true p255
  replace q255:=eq_true q255
  refine rS (n:=14) (S:=fun w'=>w'.cell? ⟨gb252,0,none⟩=some (.slice (some ad255) l0_0.length c0_0)∧w'.cell? ad255=some (.slice A255_0 (rd_L1 l0_0 0).length c255_0)) (ds:=[]) [(0,6),(1,0),(2,8),(3,9),(4,10),(7,13),(5,11),(6,12),(8,14),(9,15),(10,16),(11,17),(12,18),(13,19)] d12 rfl impl_InverseOf.tab1 impl_InverseOf.bits1 ⟨yk BK252 0,((HB.out.cell (World.block_lt_of_cell? w _ hw255_0)).trans hw255_0)⟩ (fun hHeld HT_ HW_=>?_)
  generalize w17.drew=w18 at BK252 BK253 HB HR255_0 hx255_0 hHeld ⊢
  refine rR ?_
  refine rO (N:=some 7) HT_ rfl rfl d12 d9 (fun K hK=>?_)
  refine goes_ Try.func90 d12 rfl #[.agg #[.slice (some ad255) l0_0.length c0_0]] d20 rfl rfl d18 ?_
  with_reducible refine (impl_GoodMatrix.calls _ _ l0_0 true _ (yc (Kd.C_below HR0_0.out HB.out)) HC0_0.out A2.out).mono ?_
  rintro e w19 ⟨rfl,hb⟩
  refine ⟨_,rfl,?_⟩
  replace BK252:=yb BK252 hb
  replace BK253:=yb BK253 hb
  replace HB:=yH HB hb
  (try clear hb)
  (try clear hb2)
  (try clear hk)
  (try clear hi)
  refine hK.out _ _ ⟨yk BK252 0,((HB.out.cell (World.block_lt_of_cell? w _ hw255_0)).trans hw255_0)⟩ (fun hHeld=>?_)
  clear hK K
  refine rN (a':=?_) ?_ ?_
  rotate_left
  ·show Act.put _ (some 7) _=_
   simp only [Act.put,q1,q2,q3,i64_w,i32_w]
   rfl
  refine rR ?_
  refine rD HT_ d12 ?_
  have hnb20:=NB253_252.out
  have hnc20:=NB252_253.out
  obtain ⟨hcz21_0,hfz21_0⟩:=yk1 BK253
  try go_wp2
  refine bodyPost_ret (results_ct rfl _ _ gb253 27 #[.slice none 0 0] (0,0) _ rfl d98 Try.underlying27 rfl d12) rfl ?_
  exact ⟨_,d2,d11,yW HB⟩
 replace c3:=Bool.eq_false_iff.mpr c3
 subst c3
 replace H:=yn H
 simp only [Option.some.injEq,Prod.mk.injEq] at H
 obtain ⟨rfl,rfl⟩:=H
 go_enter Try.func39,Try.ntmps39
 try go_wp2_with (first|((with_reducible refine gD 1 ?_);(try (refine gate_guard d20 ?_;dsimp only));refine gB (cs:=#[.slice A0_0 l0_0.length c0_0]) 27 ?_;intro gb252 hg w22 hbox hb;have BK252:=am (hbox);have GW252:=ye HB hg;replace HB:=yH HB hb;have GE252:=GW252;clear hb hbox hg)|((with_reducible refine gD 2 ?_);(try (refine gate_guard d20 ?_;dsimp only));refine gB (cs:=#[.slice none 0 0]) 27 ?_;intro gb253 hg w23 hbox hb;have BK253:=am (hbox);have GW253:=ye HB hg;replace HB:=yH HB hb;have NB252_253:=yl BK252 hg;have NB253_252:=yg BK252 hg;replace BK252:=yb BK252 hb;have GE253:=GW253;clear hb hbox hg))
 replace BK252:=am (qd BK252.out)
 replace BK253:=am (qd BK253.out)
 replace HB:=am (pd HB.out)
 refine rS (n:=14) (S:=fun w'=>w'.cell? ⟨gb252,0,none⟩=some (.slice A0_0 l0_0.length c0_0)) (ds:=[]) [(0,6),(1,0),(2,8),(3,9),(4,10),(5,11),(6,12),(7,13),(8,14),(9,15),(10,16),(11,17),(12,18),(13,19)] d12 rfl impl_InverseOf.tab1 impl_InverseOf.bits1 (yk BK252 0) (fun hHeld HT_ HW_=>?_)
 generalize w23.drew=w24 at BK252 BK253 HB hHeld ⊢
 refine rR ?_
 refine rO (N:=some 7) HT_ rfl rfl d12 d9 (fun K hK=>?_)
 refine goes_ Try.func90 d12 rfl #[.agg #[.slice A0_0 l0_0.length c0_0]] d20 rfl rfl d18 ?_
 with_reducible refine (impl_GoodMatrix.calls _ _ l0_0 false _ (yc (Kd.C_below HR0_0.out HB.out)) HC0_0.out A2.out).mono ?_
 rintro e w25 ⟨rfl,hb⟩
 refine ⟨_,rfl,?_⟩
 replace BK252:=yb BK252 hb
 replace BK253:=yb BK253 hb
 replace HB:=yH HB hb
 (try clear hb)
 (try clear hb2)
 (try clear hk)
 (try clear hi)
 refine hK.out _ _ (yk BK252 0) (fun hHeld=>?_)
 clear hK K
 refine rN (a':=?_) ?_ ?_
 rotate_left
 ·show Act.put _ (some 7) _=_
  simp only [Act.put,q1,q2,q3,i64_w,i32_w]
  rfl
 refine rR ?_
 refine rD HT_ d12 ?_
 have hnb26:=NB253_252.out
 have hnc26:=NB252_253.out
 obtain ⟨hcz27_0,hfz27_0⟩:=yk1 BK253
 try go_wp2
 refine bodyPost_ret (results_ct rfl _ _ gb253 27 #[.slice none 0 0] (0,0) _ rfl d98 Try.underlying27 rfl d12) rfl ?_
 exact ⟨_,d2,d11,yW HB⟩


theorem cl_info:(Try.prog.info? 24).map (fun i=>(i.zero,i.size,i.bytes))=some (some (.slice none 0 0),1,24):=by kernel_rfl
theorem rows_Clone (A0:Option Addr) (c0:Nat) (l0:List (List Int)) (w:World) (hr0:Kd.C (Kd.slice 5 (Kd.int .u8)) w A0 l0.length l0) (hc0:l0.length≤c0) (hne:0 < l0.length) (hl:l0.length < 5864062014805) :
  Calls Try.prog 144 #[.slice A0 l0.length c0] w fun e w'=>∃ v0_:Value,e = .returned (v0_)∧Kd.N (Kd.slice 5 (Kd.int .u8)) 24 w' w.heap.size (fun _=>True) v0_ l0∧Below w.heap.size w w':=by
 have HF:=am (Kd.C_F (Kd.heap_slice 5 (Kd.heap_int .u8)) hr0)
 have HB:=am (Below.refl w.heap.size w)
 have keq:=fun (W:World) (a:Option Addr) (n c:Nat)=>Lib.run_eql_slice_nil (P:=Try.prog) W 25 24 a n c 0 0 Try.underlying25
 obtain ⟨ad0,rfl,_⟩:=hr0.2.2 hne
 clear hr0
 go_enter Try.func144,Try.ntmps144
 go_wp2_with (first|((with_reducible refine gD 5 ?_);refine Kd.N_lit (Kd.slice 5 (Kd.int .u8)) _ 24 d20 (N':=5) d20 (xs:=([]:List (List Int))) (inner:=[]) (ok:=fun _=>True) (okp:=fun _=>True) d28 d54 (fun _ hk=>hk) trivial (Below.refl _ _) (Nat.le_refl _) d41 ?_;intro v182 w3 ho4 hb hg_ hnew_;clear hg_ hnew_;have HO:=am ho4;have HF3:=am (Kd.F_below HF.out hb);clear HB;have HB:=am hb;clear hb ho4)|((with_reducible refine gate_builtin (b:=.append) (xs:=#[.tmp 5, .tmp 6]) rfl ?_);at_builtin;refine Kd.N_append_rows (Kd.slice 5 (Kd.int .u8)) (w0:=w) w.heap.size rfl (.tmp 5) (.tmp 6) 25 24 (.slice none 0 0) 24 rfl Try.underlying25 cl_info rfl d9 d13 v182 ([]:List (List Int)) l0 _ _ _ (fun _=>True) (fun k=>k < w.heap.size) rfl rfl HO.out HF3.out (fun k hk=>⟨trivial,fun e=>by have:=Kd.N_base HO.out k e.symm;omega⟩) (fun _ _=>trivial) HB.out HB.out.size (by simp;omega) ?_;intro v185 w5 ho hb hg hat;rw [List.nil_append] at ho;clear HB HO;have HB:=am hb;have HO:=am ho;clear ho hb hg hat))
 go_ret
 exact ⟨_,rfl,HO.out,HB.out⟩
section
open Go.Proofs.Yteflgifmdojahaa.Gf Go.Proofs.Yteflgifmdojahaa.Kit Go.Proofs.Yteflgifmdojahaa.KitW Go.Proofs.Yteflgifmdojahaa.KitN
def impl_rankOf.f (l0:List (List Int)):Option Int:=if l0.length=0 then some 0 else if sqM l0=true then some ((rowI.red l0 (l0.getD 0 []).length).2:Nat) else none
theorem impl_rankOf.calls (A0:Option Addr) (c0:Nat) (l0:List (List Int)) (r:Int) (w:World) (hr0:Kd.C (Kd.slice 5 (Kd.int .u8)) w A0 l0.length l0) (hc0:l0.length≤c0) (h:impl_rankOf.f l0=some r) :
  Calls Try.prog 93 #[.slice A0 l0.length c0] w fun e w'=>e = .returned (.int .i64 r)∧Below w.heap.size w w':=by
 unfold impl_rankOf.f at h
 by_cases h0:l0.length=0
 case pos =>
  rw [if_pos h0] at h
  obtain rfl:=Option.some.inj h
  rw [h0]
  clear hr0 h h0
  go_enter Try.func93,Try.ntmps93
  go_wp2
  go_ret
  exact ⟨rfl,Below.refl _ _⟩
 rw [if_neg h0] at h
 by_cases hs:sqM l0=true
 case neg=>rw [if_neg hs] at h;cases h
 rw [if_pos hs] at h
 obtain rfl:=Option.some.inj h
 clear h
 obtain ⟨hs1,hs2,hs3⟩:=sqM_iff.1 hs
 clear hs
 obtain ⟨ad,A1,c1,rfl,hcell,_,_⟩:=C_row hr0 0 d13
 rw [Addr.add_zero'] at hcell
 obtain ⟨m,hm⟩:∃ m,m=(l0.getD 0 []).length:=⟨_,rfl⟩
 rw [← hm] at hcell hs2 hs3 ⊢
 obtain ⟨n,hn⟩:∃ n,n=l0.length:=⟨_,rfl⟩
 have hcl:=rows_Clone (some ad) c0 l0 w.drew (Kd.C_drew hr0) hc0 d13 d13
 rw [← hn] at hcl h0 hs1 hc0 ⊢
 have HC:=am hcl
 have HS:=am hs3
 have HN:=am hn
 clear hcl hs3 hn hm hr0
 have h0z:((n:Int) == 0)=false:=by simpa using (show ¬ (n:Int)=0 by omega)
 have h0p:(0:Nat) < n:=by omega
 go_enter Try.func93,Try.ntmps93
 go_wp2_with fail
 refine rS0 (n:=8) (S:=fun w'=>w'.cell? ad=some (.slice A1 m c1)) (ds:=[]) [(0,6),(2,8),(3,9),(4,10),(5,11),(1,0),(6,0),(7,2)] d12 rfl hcell (fun hHeld HT_ HW_=>?_)
 refine rR ?_
 refine rO (N:=some 7) HT_ rfl rfl d12 d9 (fun K hK=>?_)
 refine goes_ Try.func144 d12 rfl #[Value.slice (some ad) n c0] d20 rfl rfl d26 ?_
 refine HC.out.mono ?_
 rintro e w1 ⟨v1,rfl,ho,hb⟩
 refine ⟨_,rfl,?_⟩
 have HO:=am ho
 have HB:=am (pu (pd (Below.refl w.heap.size w)) hb)
 have hB1:=hb
 replace hHeld:=pw_cell_below hb hHeld
 clear hb ho
 obtain ⟨g,cap,eg,_⟩:=Kd.N_form HO.out d102
 rw [← HN.out] at eg
 subst eg
 refine hK.out _ _ hHeld (fun hHeld=>?_)
 clear hK K
 refine rN (a':=?_) ?_ ?_
 rotate_left
 ·show Act.put _ (some 7) _=_
  simp only [Act.put,q1,q2,q3,i64_w,i32_w]
  rfl
 refine rO (N:=some 12) HT_ rfl rfl d12 d9 (fun K hK=>?_)
 refine goes_ Try.func143 d12 rfl #[Value.slice (some ⟨g,0,none⟩) n cap,Value.int .i64 m] d20 rfl rfl d26 ?_
 refine (impl_eliminate.calls l0 m m HS.out (Nat.le_refl _) d13 d102 g cap n HN.out.symm w.drew w1 hB1 HO.out).mono ?_
 rintro e w2 ⟨rfl,_,hb⟩
 refine ⟨_,rfl,?_⟩
 clear HB
 have HB:=am (below_then (pd (Below.refl w.heap.size w)) (Nat.le_refl _) hb)
 clear hb
 refine hK.out _ _ (pw_cell_below HB.out hcell) (fun hHeld=>?_)
 clear hK K
 refine rN (a':=?_) ?_ ?_
 rotate_left
 ·show Act.put _ (some 12) _=_
  simp only [Act.put,q1,q2,q3,i64_w,i32_w]
  rfl
 refine rR ?_
 refine rD HT_ d12 ?_
 go_wp2_with fail
 go_ret
 exact ⟨rfl,HB.out⟩
end
end
def impl_RankOf.f (l0_0:List (List Int)):Option (Int × Bool):=(impl_GoodMatrix.f l0_0).bind fun t261=>(if t261=true then ((impl_rankOf.f l0_0).bind fun t262=>(some (t262,true))) else (some (0,false)))
theorem impl_RankOf.calls (A0_0:Option Addr) (c0_0:Nat) (l0_0:List (List Int)) (r1:Int) (r2:Bool) (w:World) (hr0_0:Kd.C (Kd.slice 5 (Kd.int .u8)) w A0_0 l0_0.length l0_0) (hc0_0:l0_0.length≤c0_0) (h:impl_RankOf.f l0_0=some (r1,r2)) :
  Calls Try.prog 40 #[.agg #[.slice A0_0 l0_0.length c0_0]] w fun e w'=>e = .returned (.tuple #[.int .i64 r1, .bool r2])∧Below w.heap.size w w':=by
 have hu27:=Try.underlying27
 have HR0_0:=am hr0_0
 have HC0_0:=am hc0_0
 clear hr0_0 hc0_0
 have HB:=am (Below.refl w.heap.size w)
 have H:=h
 unfold impl_RankOf.f at H
 clear h
 obtain ⟨t261,A2,H⟩:=yo H
 by_cases c3:t261=true
 ·subst c3
  replace H:=yt H
  obtain ⟨t262,A4,H⟩:=yo H
  simp only [Option.some.injEq,Prod.mk.injEq] at H
  obtain ⟨rfl,rfl⟩:=H
  go_enter Try.func40,Try.ntmps40
  go_wp2_with (first|((with_reducible refine gD 1 ?_);refine gB (cs:=#[.slice A0_0 l0_0.length c0_0]) 27 ?_;intro gb260 hg w5 hbox hb;have BK260:=am (hbox);have GW260:=ye HB hg;replace HB:=yH HB hb;have GE260:=GW260;clear hb hbox hg;obtain ⟨hcz6_0,hfz6_0⟩:=yk1 BK260)|((with_reducible refine gC 90 ?_);refine gM (some 5) Try.func90 (args:=#[.agg #[.slice A0_0 l0_0.length c0_0]]) (impl_GoodMatrix.calls _ _ l0_0 true _ (yc (Kd.C_below HR0_0.out HB.out)) HC0_0.out A2.out) ?_;rintro e w7 ⟨rfl,hb⟩;refine ⟨_,rfl,?_⟩;replace BK260:=yb BK260 hb;replace HB:=yH HB hb;clear hb;obtain ⟨hcz8_0,hfz8_0⟩:=yk1 BK260)|((with_reducible refine gC 93 ?_);refine gM (some 9) Try.func93 (args:=#[.slice A0_0 l0_0.length c0_0]) (impl_rankOf.calls _ _ l0_0 t262 _ (yc (Kd.C_below HR0_0.out HB.out)) HC0_0.out A4.out) ?_;rintro e w9 ⟨rfl,hb⟩;refine ⟨_,rfl,?_⟩;replace BK260:=yb BK260 hb;replace HB:=yH HB hb;clear hb))
  go_ret2
  exact ⟨d2,yW HB⟩
 replace c3:=Bool.eq_false_iff.mpr c3
 subst c3
 replace H:=yn H
 simp only [Option.some.injEq,Prod.mk.injEq] at H
 obtain ⟨rfl,rfl⟩:=H
 go_enter Try.func40,Try.ntmps40
 go_wp2_with (first|((with_reducible refine gD 1 ?_);refine gB (cs:=#[.slice A0_0 l0_0.length c0_0]) 27 ?_;intro gb260 hg w10 hbox hb;have BK260:=am (hbox);have GW260:=ye HB hg;replace HB:=yH HB hb;have GE260:=GW260;clear hb hbox hg;obtain ⟨hcz11_0,hfz11_0⟩:=yk1 BK260)|((with_reducible refine gC 90 ?_);refine gM (some 5) Try.func90 (args:=#[.agg #[.slice A0_0 l0_0.length c0_0]]) (impl_GoodMatrix.calls _ _ l0_0 false _ (yc (Kd.C_below HR0_0.out HB.out)) HC0_0.out A2.out) ?_;rintro e w12 ⟨rfl,hb⟩;refine ⟨_,rfl,?_⟩;replace BK260:=yb BK260 hb;replace HB:=yH HB hb;clear hb))
 go_ret2
 exact ⟨d2,yW HB⟩

def spec_l1Cur_byte.f (s0_0:List Int) (s0_1:Int) (s0_2:Int):Option (Int × Int × Int):=(spec_l1Cur_one.f s0_0 s0_1 s0_2 5).bind fun bt263=>(if bt263.1=true then ((spec_l1Cur_among.f s0_0 bt263.2.1 bt263.2.2 (([0,1,2,3,255,27]:List Int))).bind fun bt269=>(some ((bt269.1) % 256,bt269.2.1,bt269.2.2))) else ((spec_l1Cur_pick.f s0_0 bt263.2.1 bt263.2.2 256).bind fun bt272=>(some ((bt272.1) % 256,bt272.2.1,bt272.2.2))))
theorem spec_l1Cur_byte.calls (g:Nat) (s0_0:List Int) (s0_1:Int) (s0_2:Int) (r1:Int) (r2:Int) (r3:Int) (w0 w:World) (hI:IsS127 w0 w g s0_0 s0_1 s0_2) (hB:Below w0.heap.size w0 w) (h:spec_l1Cur_byte.f s0_0 s0_1 s0_2=some (r1,r2,r3)) :
  Calls Try.prog 146 #[.pointer (some ⟨g,0,none⟩)] w fun e w'=>e = .returned (.int .u8 r1)∧IsS127 w0 w' g s0_0 r2 r3∧Below w0.heap.size w0 w'∧KeepBut w w' g none:=by
 have HI0:=am hI
 have HK:=am (KeepBut.refl w g none)
 have HL:=am hB.size
 clear hI
 have HW0:=am hB.size
 have HB:=am hB
 clear hB
 have H:=h
 unfold spec_l1Cur_byte.f at H
 clear h
 obtain ⟨⟨t263,t264,t265⟩,A2,H⟩:=yo H
 try dsimp only at H
 by_cases c3:t263=true
 ·subst c3
  replace H:=yt H
  generalize hy266:(([0,1,2,3,255,27]:List Int):List Int)=y266 at H
  have Ny266:=am hy266.symm
  clear hy266
  obtain ⟨⟨t269,t270,t271⟩,A4,H⟩:=yo H
  try dsimp only at H
  simp only [Option.some.injEq,Prod.mk.injEq] at H
  obtain ⟨rfl,rfl,rfl⟩:=H
  go_enter Try.func146,Try.ntmps146
  go_wp2_with (first|((with_reducible refine gC 101 ?_);refine gM (some 4) Try.func101 (args:=#[.pointer (some ⟨g,0,none⟩), .int .i64 5]) (spec_l1Cur_one.calls g s0_0 s0_1 s0_2 5 true t264 t265 w0 _ ?side1 ?side2 A2.out) ?_;(case side1=>repeat (first|(with_reducible first|exact HI0.out|apply IsS127.alloc|apply IsS127.drewN|apply IsS127.drew|apply IsS127.set_1|apply IsS127.set_2)|exact HI0.out));(case side2=>repeat (first|(with_reducible first|exact HB.out|apply pa|apply pb|apply pd|refine pt ?_ (IsS127.ge HI0.out))|exact HB.out));rintro e w5 ⟨rfl,hi,hb,hk⟩;refine ⟨_,rfl,?_⟩;replace HK:=am (KeepBut.trans d0 hk (.inl rfl));replace HB:=am (hb);replace HI0:=am (hi);clear hb hk hi)|((with_reducible refine gD 6 ?_);refine Kd.R_lit (Kd.int .i64) _ 3 d20 (N:=6) d20 (xs:=([0,1,2,3,255,27]:List Int)) (inner:=[.int .i64 0, .int .i64 1, .int .i64 2, .int .i64 3, .int .i64 255, .int .i64 27]) (ok:=fun _=>True) (okp:=fun _=>True) d28 (by exact (Reps.one (show Kd.M (Kd.int .i64) _ _ _ 0 [.int .i64 0] from rfl) (Reps.one (show Kd.M (Kd.int .i64) _ _ _ 1 [.int .i64 1] from rfl) (Reps.one (show Kd.M (Kd.int .i64) _ _ _ 2 [.int .i64 2] from rfl) (Reps.one (show Kd.M (Kd.int .i64) _ _ _ 3 [.int .i64 3] from rfl) (Reps.one (show Kd.M (Kd.int .i64) _ _ _ 255 [.int .i64 255] from rfl) (Reps.one (show Kd.M (Kd.int .i64) _ _ _ 27 [.int .i64 27] from rfl) (Reps.none _ _)))))))) (fun _ hk=>hk) trivial (Below.refl _ _) (Nat.le_refl _) d41 ?_;intro v267 w6 ho7 hb hg_ hnew_;clear hg_ hnew_;(first|rw [← Ny266.out] at ho7|(simp only [Int.reduceToNat] at ho7;rw [← Ny266.out] at ho7));have HO268:=am (Kd.R_lower ho7 (keep_size (w:=w) (g:=g) (row:=none) d0));replace HK:=am (KeepBut.trans d0 (KeepBut.of_below hb g none) (.inl rfl));replace HB:=am (pu d6 hb);replace HI0:=am (IsS127.below d4 hb);clear hb ho7;obtain ⟨Ao8,co8,eo8⟩:=Kd.R_slice HO268.out;subst eo8)|((with_reducible refine gC 158 ?_);refine gM (some 7) Try.func158 (args:=#[.pointer (some ⟨g,0,none⟩), .slice Ao8 y266.length co8]) (spec_l1Cur_among.calls g s0_0 t264 t265 _ _ y266 t269 t270 t271 w0 _ ?side1 ?side2 ?side3 ?side4 ?side5 A4.out) ?_;(case side1=>repeat (first|(with_reducible first|exact HI0.out|apply IsS127.alloc|apply IsS127.drewN|apply IsS127.drew|apply IsS127.set_1|apply IsS127.set_2)|exact HI0.out));(case side2=>repeat (first|(with_reducible first|exact HB.out|apply pa|apply pb|apply pd|refine pt ?_ (IsS127.ge HI0.out))|exact HB.out));(case side3=>repeat (first|exact (Kd.R_reads' HO268.out).2.2|(with_reducible refine Kd.C_alloc ?_ _)|(with_reducible refine Kd.C_drewN ?_ _)|(with_reducible refine Kd.C_drew ?_)));(case side4=>exact (Kd.R_reads' HO268.out).2.1);(case side5=>exact far_slice (IsS127.own_ne HI0.out HO268.out d9));rintro e w9 ⟨rfl,hi,hb,hk⟩;refine ⟨_,rfl,?_⟩;replace HO268:=am (Kd.R_mono (Kd.R_keep (IsS127.apart (show IsS127 w0 _ g s0_0 t264 t265 from by repeat (first|(with_reducible first|exact HI0.out|apply IsS127.alloc|apply IsS127.drewN|apply IsS127.drew|apply IsS127.set_1|apply IsS127.set_2)|exact HI0.out)) (yR HO268) d9) hk (fun _ h=>h.2)) (fun _ h=>h.1));replace HK:=am (KeepBut.trans d0 hk (.inl rfl));replace HB:=am (hb);replace HI0:=am (hi);clear hb hk hi))
  go_ret
  exact ⟨d2,d4,d6,d0⟩
 replace c3:=Bool.eq_false_iff.mpr c3
 subst c3
 replace H:=yn H
 obtain ⟨⟨t272,t273,t274⟩,A10,H⟩:=yo H
 try dsimp only at H
 simp only [Option.some.injEq,Prod.mk.injEq] at H
 obtain ⟨rfl,rfl,rfl⟩:=H
 go_enter Try.func146,Try.ntmps146
 go_wp2_with (first|((with_reducible refine gC 101 ?_);refine gM (some 4) Try.func101 (args:=#[.pointer (some ⟨g,0,none⟩), .int .i64 5]) (spec_l1Cur_one.calls g s0_0 s0_1 s0_2 5 false t264 t265 w0 _ ?side1 ?side2 A2.out) ?_;(case side1=>repeat (first|(with_reducible first|exact HI0.out|apply IsS127.alloc|apply IsS127.drewN|apply IsS127.drew|apply IsS127.set_1|apply IsS127.set_2)|exact HI0.out));(case side2=>repeat (first|(with_reducible first|exact HB.out|apply pa|apply pb|apply pd|refine pt ?_ (IsS127.ge HI0.out))|exact HB.out));rintro e w11 ⟨rfl,hi,hb,hk⟩;refine ⟨_,rfl,?_⟩;replace HK:=am (KeepBut.trans d0 hk (.inl rfl));replace HB:=am (hb);replace HI0:=am (hi);clear hb hk hi)|((with_reducible refine gC 95 ?_);refine gM (some 10) Try.func95 (args:=#[.pointer (some ⟨g,0,none⟩), .int .i64 256]) (spec_l1Cur_pick.calls g s0_0 t264 t265 256 t272 t273 t274 w0 _ ?side1 ?side2 A10.out) ?_;(case side1=>repeat (first|(with_reducible first|exact HI0.out|apply IsS127.alloc|apply IsS127.drewN|apply IsS127.drew|apply IsS127.set_1|apply IsS127.set_2)|exact HI0.out));(case side2=>repeat (first|(with_reducible first|exact HB.out|apply pa|apply pb|apply pd|refine pt ?_ (IsS127.ge HI0.out))|exact HB.out));rintro e w12 ⟨rfl,hi,hb,hk⟩;refine ⟨_,rfl,?_⟩;replace HK:=am (KeepBut.trans d0 hk (.inl rfl));replace HB:=am (hb);replace HI0:=am (hi);clear hb hk hi))
 go_ret
 exact ⟨d2,d4,d6,d0⟩

def spec_l1Cur_vector.l0:Nat→Int→List Int→List Int→Int→Int→Option (List Int × Int × Int)
 | 0,_,_,_,_,_=>none
 | k+1,x1,x5,x1000,x1001,x1002=>if x1 > 0 then ((spec_l1Cur_byte.f x1000 x1001 x1002).bind fun bt275=>(if x5.length < 140737488355328 then (spec_l1Cur_vector.l0 k (wrap64 (x1 - 1)) (x5 ++ [bt275.1]) x1000 bt275.2.1 bt275.2.2) else (none))) else (some (x5,x1001,x1002))
def spec_l1Cur_vector.f (k:Nat) (s0_0:List Int) (s0_1:Int) (s0_2:Int) (a1:Int):Option (List Int × Int × Int):=spec_l1Cur_vector.l0 k a1 ([]:List Int) s0_0 s0_1 s0_2
theorem spec_l1Cur_vector.mono_l:∀ k,(∀ y0 y1 y2 y3 y4,LeO (spec_l1Cur_vector.l0 k y0 y1 y2 y3 y4) (spec_l1Cur_vector.l0 (k+1) y0 y1 y2 y3 y4))
 | 0=>fun _ _ _ _ _ r h=>by simp [spec_l1Cur_vector.l0] at h
 | k+1=>by
  have ih0:=spec_l1Cur_vector.mono_l k
  intro y0 y1 y2 y3 y4
  unfold spec_l1Cur_vector.l0
  exact mm
theorem spec_l1Cur_vector.mono:∀ a0 a1 a2 a3 k,LeO (spec_l1Cur_vector.f k a0 a1 a2 a3) (spec_l1Cur_vector.f (k+1) a0 a1 a2 a3):=by
 intro a0 a1 a2 a3 k
 have ih0:=spec_l1Cur_vector.mono_l k
 unfold spec_l1Cur_vector.f
 exact mm
theorem spec_l1Cur_vector.calls (k:Nat) (g:Nat) (s0_0:List Int) (s0_1:Int) (s0_2:Int) (a1:Int) (r1:List Int) (r2:Int) (r3:Int) (w0 w:World) (hI:IsS127 w0 w g s0_0 s0_1 s0_2) (hB:Below w0.heap.size w0 w) (h:spec_l1Cur_vector.f k s0_0 s0_1 s0_2 a1=some (r1,r2,r3)) :
  Calls Try.prog 102 #[.pointer (some ⟨g,0,none⟩), .int .i64 a1] w fun e w'=>∃ v0_:Value,e = .returned (v0_)∧Kd.R (Kd.int .u8) 5 w' w.heap.size (fun _=>True) v0_ r1∧IsS127 w0 w' g s0_0 r2 r3∧Below w0.heap.size w0 w'∧KeepBut w w' g none:=by
 have HI0:=am hI
 have HK:=am (KeepBut.refl w g none)
 have HL:=am hB.size
 clear hI
 have HW0:=am hB.size
 have HB:=am hB
 clear hB
 have H:=h
 unfold spec_l1Cur_vector.f at H
 clear h
 have H':=am H
 clear H
 go_enter Try.func102,Try.ntmps102
 go_wp2
 go_loopg [1,5] k (fun kq v1 v5 w'=>∃ (x1_1:Int) (x5_1:List Int) (x1001_1:Int) (x1002_1:Int),v1 = .int .i64 x1_1∧Aside0 (spec_l1Cur_vector.l0 kq x1_1 x5_1 s0_0 x1001_1 x1002_1=some (r1,r2,r3))∧Aside0 (kq≤k)∧Aside0 (Kd.R (Kd.int .u8) 5 w' w.heap.size (fun _=>True) v5 x5_1)∧Aside0 (IsS127 w0 w' g s0_0 x1001_1 x1002_1)∧Aside0 (KeepBut w w' g none)∧Aside0 (Below w0.heap.size w0 w'))
 case atStart=>exact ⟨(a1),(([]:List Int)),(s0_1),(s0_2),d3,H',⟨Nat.le_refl _⟩,⟨d29⟩,⟨d4⟩,⟨d0⟩,⟨d6⟩⟩
 case round =>
  clear H'
  try clear c1
  try clear p2
  obtain ⟨x1_1,x5_1,x1001_1,x1002_1,rfl,HA,HK1,HO_5,HI0,HK,HB⟩:=hrel
  cases gk with
  | zero=>exact absurd HA.out (by simp [spec_l1Cur_vector.l0])
  | succ k1 =>
   have H:=HA.out
   clear HA
   simp only [spec_l1Cur_vector.l0] at H
   by_cases c3:x1_1 > 0
   ·rw [if_pos c3] at H
    have c3b0:decide (0 < x1_1)=true:=decide_eq_true c3
    clear c3
    obtain ⟨⟨t275,t276,t277⟩,A4,H⟩:=yo H
    try dsimp only at H
    obtain ⟨c5,H⟩:=yi H
    have LMc5:=am c5
    clear c5
    generalize hy278:(x5_1 ++ [t275]:List Int)=y278 at H
    have Ny278:=am hy278.symm
    clear hy278
    have H':=am H
    clear H
    go_wp2_with (first|((with_reducible refine gC 146 ?_);refine gM (some 12) Try.func146 (args:=#[.pointer (some ⟨g,0,none⟩)]) (spec_l1Cur_byte.calls g s0_0 x1001_1 x1002_1 t275 t276 t277 w0 _ ?side1 ?side2 A4.out) ?_;(case side1=>repeat (first|(with_reducible first|exact HI0.out|apply IsS127.alloc|apply IsS127.drewN|apply IsS127.drew|apply IsS127.set_1|apply IsS127.set_2)|exact HI0.out));(case side2=>repeat (first|(with_reducible first|exact HB.out|apply pa|apply pb|apply pd|refine pt ?_ (IsS127.ge HI0.out))|exact HB.out));rintro e w6 ⟨rfl,hi,hb,hk⟩;refine ⟨_,rfl,?_⟩;replace HO_5:=am (Kd.R_mono (Kd.R_keep (IsS127.apart (show IsS127 w0 _ g s0_0 x1001_1 x1002_1 from by repeat (first|(with_reducible first|exact HI0.out|apply IsS127.alloc|apply IsS127.drewN|apply IsS127.drew|apply IsS127.set_1|apply IsS127.set_2)|exact HI0.out)) (yR HO_5) d9) hk (fun _ h=>h.2)) (fun _ h=>h.1));replace HK:=am (KeepBut.trans d0 hk (.inl rfl));replace HB:=am (hb);replace HI0:=am (hi);clear hb hk hi)|((with_reducible refine gate_builtin (b:=.append) (xs:=#[.tmp 10, .tmp 13]) rfl ?_);at_builtin;refine Kd.R_append (Kd.int .u8) w.heap.size rfl (.tmp 10) (.tmp 13) 24 5 (.int .u8 0) 1 rfl Try.underlying24 info5 rfl d9 d13 u5 x5_1 t275 [.int .u8 t275] (fun _=>True) (fun _=>False) rfl rfl d104 (fun _ hk=>hk.elim) d25 (by exact (yR HO_5)) (Below.refl _ _) (by exact (keep_size (w:=w) (g:=g) (row:=none) d0)) (by have:=LMc5.out;omega) ?_;intro v279 w7 ho hb hg hat;rw [← Ny278.out] at ho;have n0_:=am (IsS127.grown d4 hg (IsS127.own_ne HI0.out HO_5.out d9));have n1_:=am (below_weaken d6 HL.out hb);have n2_:=am (KeepBut.trans d0 (KeepBut.of_grown hg g) (Kd.R_base2 HO_5.out));have n3_:=am (ho);clear HI0 HB HK HO_5;have HI0:=n0_;have HB:=n1_;have HK:=n2_;have HO280:=n3_;clear n0_ n1_ n2_ n3_ ho hb hg hat))
    go_roundg k1
    case measure=>have:=HK1.out;omega
    case rel=>exact ⟨(wrap64 (x1_1 - 1)),(y278),(t276),(t277),d3,H',⟨d22⟩,⟨yR HO280⟩,⟨d4⟩,⟨d0⟩,⟨d6⟩⟩
   rw [if_neg c3] at H
   have c3b0:decide (0 < x1_1)=false:=decide_eq_false c3
   clear c3
   simp only [Option.some.injEq,Prod.mk.injEq] at H
   obtain ⟨rfl,rfl,rfl⟩:=H
   go_wp2
   go_ret
   exact ⟨_,d2,yR HO_5,d4,d6,d0⟩
mutual
def spec_l1Cur_matrix.l0:Nat→Int→Int→List Int→Int→Int→List (List Int)→Option ((List (List Int)) × Int × Int)
 | 0,_,_,_,_,_,_=>none
 | k+1,x1,x2,x1000,x1001,x1002,x135000=>if x1 > 0 then ((spec_l1Cur_vector.f k x1000 x1001 x1002 x2).bind fun bt135=>(if x135000.length < 5864062014805 then (spec_l1Cur_matrix.l0 k (wrap64 (x1 - 1)) x2 x1000 bt135.2.1 bt135.2.2 (x135000 ++ [bt135.1])) else (none))) else (if (x135000.length:Int) > 1 then ((spec_l1Cur_one.f x1000 x1001 x1002 6).bind fun bt143=>(spec_l1Cur_matrix.j1 k bt143.1 x1000 bt143.2.1 bt143.2.2 x135000)) else (spec_l1Cur_matrix.j1 k false x1000 x1001 x1002 x135000))
def spec_l1Cur_matrix.j1:Nat→Bool→List Int→Int→Int→List (List Int)→Option ((List (List Int)) × Int × Int)
 | 0,_,_,_,_,_=>none
 | k+1,x28,x1000,x1001,x1002,x135000=>if x28=true then ((some (([]:List Int):List Int)).bind fun y146=>(if 1 < (x135000.length:Int) then (if y146.length+(rd_L1 x135000 1).length < 140737488355328 then (if 0 < (x135000.length:Int) then (spec_l1Cur_matrix.j2 k x1000 x1001 x1002 (x135000.set (0:Int).toNat (y146 ++ (rd_L1 x135000 1)))) else (none)) else (none)) else (none))) else (spec_l1Cur_matrix.j2 k x1000 x1001 x1002 x135000)
def spec_l1Cur_matrix.j2:Nat→List Int→Int→Int→List (List Int)→Option ((List (List Int)) × Int × Int)
 | 0,_,_,_,_=>none
 | k+1,x1000,x1001,x1002,x135000=>if (x135000.length:Int) > 0 then ((spec_l1Cur_one.f x1000 x1001 x1002 40).bind fun bt154=>(if bt154.1=true then (if 0 < (x135000.length:Int) then (if (rd_L1 x135000 0).length < 140737488355328 then (some ((x135000.set (0:Int).toNat ((rd_L1 x135000 0) ++ [1])),bt154.2.1,bt154.2.2)) else (none)) else (none)) else (some (x135000,bt154.2.1,bt154.2.2)))) else (some (x135000,x1001,x1002))
end
def spec_l1Cur_matrix.f (k:Nat) (s0_0:List Int) (s0_1:Int) (s0_2:Int) (a1:Int) (a2:Int):Option ((List (List Int)) × Int × Int):=spec_l1Cur_matrix.l0 k a1 a2 s0_0 s0_1 s0_2 ([]:List (List Int))
theorem spec_l1Cur_matrix.mono_l:∀ k,(∀ y0 y1 y2 y3 y4 y5,LeO (spec_l1Cur_matrix.l0 k y0 y1 y2 y3 y4 y5) (spec_l1Cur_matrix.l0 (k+1) y0 y1 y2 y3 y4 y5))∧(∀ y0 y1 y2 y3 y4,LeO (spec_l1Cur_matrix.j1 k y0 y1 y2 y3 y4) (spec_l1Cur_matrix.j1 (k+1) y0 y1 y2 y3 y4))∧(∀ y0 y1 y2 y3,LeO (spec_l1Cur_matrix.j2 k y0 y1 y2 y3) (spec_l1Cur_matrix.j2 (k+1) y0 y1 y2 y3))
 | 0=>⟨fun _ _ _ _ _ _ r h=>by simp [spec_l1Cur_matrix.l0] at h,fun _ _ _ _ _ r h=>by simp [spec_l1Cur_matrix.j1] at h,fun _ _ _ _ r h=>by simp [spec_l1Cur_matrix.j2] at h⟩
 | k+1=>by
  obtain ⟨ih0,ih1,ih2⟩:=spec_l1Cur_matrix.mono_l k
  refine ⟨?_,?_,?_⟩
  ·intro y0 y1 y2 y3 y4 y5
   unfold spec_l1Cur_matrix.l0
   exact mm
  ·intro y0 y1 y2 y3 y4
   unfold spec_l1Cur_matrix.j1
   exact mm
  intro y0 y1 y2 y3
  unfold spec_l1Cur_matrix.j2
  exact mm
theorem spec_l1Cur_matrix.mono:∀ a0 a1 a2 a3 a4 k,LeO (spec_l1Cur_matrix.f k a0 a1 a2 a3 a4) (spec_l1Cur_matrix.f (k+1) a0 a1 a2 a3 a4):=by
 intro a0 a1 a2 a3 a4 k
 obtain ⟨ih0,ih1,ih2⟩:=spec_l1Cur_matrix.mono_l k
 unfold spec_l1Cur_matrix.f
 exact mm
def spec_l1Cur_matrix.T4:Bool × List (List Nat × List Nat):=(true,[([],[]),([0],[0]),([],[]),([],[]),([2,3],[2,3]),([4],[4]),([1,5,4],[1,5]),([0,1,2,3,4,5,6],[]),([7,6,6,0,1,2,3,4,5,6],[6,7])])
def spec_l1Cur_matrix.B4:List Nat:=[0,1,0,0,12,28,63,127,255]
theorem spec_l1Cur_matrix.tab4:rtab .any (opsOf Try.f94 4)=spec_l1Cur_matrix.T4:=by kernel_rfl
theorem spec_l1Cur_matrix.bits4:waitsOk spec_l1Cur_matrix.T4.2 spec_l1Cur_matrix.B4=true:=by kernel_rfl
def spec_l1Cur_matrix.T8:Bool × List (List Nat × List Nat):=(true,[([],[]),([0],[0]),([],[]),([2],[2]),([3],[3]),([4],[4]),([],[]),([5,6],[5,6]),([1,0,1,2,3,4,5,6,7],[1]),([8,7,7,0,1,2,3,4,5,6,7],[7,8])])
def spec_l1Cur_matrix.B8:List Nat:=[0,1,0,4,12,28,0,124,255,511]
theorem spec_l1Cur_matrix.tab8:rtab .any (opsOf Try.f94 8)=spec_l1Cur_matrix.T8:=by kernel_rfl
theorem spec_l1Cur_matrix.bits8:waitsOk spec_l1Cur_matrix.T8.2 spec_l1Cur_matrix.B8=true:=by kernel_rfl
theorem spec_l1Cur_matrix.calls (k:Nat) (g:Nat) (s0_0:List Int) (s0_1:Int) (s0_2:Int) (a1:Int) (a2:Int) (r1:List (List Int)) (r2:Int) (r3:Int) (w0 w:World) (hI:IsS127 w0 w g s0_0 s0_1 s0_2) (hB:Below w0.heap.size w0 w) (h:spec_l1Cur_matrix.f k s0_0 s0_1 s0_2 a1 a2=some (r1,r2,r3)) :
  Calls Try.prog 94 #[.pointer (some ⟨g,0,none⟩), .int .i64 a1, .int .i64 a2] w fun e w'=>∃ v0_:Value,e = .returned (.agg #[v0_])∧Kd.S (Kd.slice 5 (Kd.int .u8)) 24 w' w.heap.size (fun _=>True) v0_ r1∧IsS127 w0 w' g s0_0 r2 r3∧Below w0.heap.size w0 w'∧KeepBut w w' g none:=by
 have hu27:=Try.underlying27
 have HI0:=am hI
 have HK:=am (KeepBut.refl w g none)
 have HL:=am hB.size
 clear hI
 have HW0:=am hB.size
 have HB:=am hB
 clear hB
 have H:=h
 unfold spec_l1Cur_matrix.f at H
 clear h
 have H':=am H
 clear H
 go_enter Try.func94,Try.ntmps94
 go_wp2_with (first|((with_reducible refine gD 6 ?_);refine gB (cs:=#[.slice none 0 0]) 27 ?_;intro gb133 hg w4 hbox hb;replace HB:=am (pu d6 hb);have BK133:=am (hbox);have GW133:=am ((by rw [hg];exact (keep_size (w:=w) (g:=g) (row:=none) d0):w.heap.size≤gb133));have GE133:=am ((Nat.le_trans HW0.out (by rw [hg];exact (keep_size (w:=w) (g:=g) (row:=none) d0):w.heap.size≤gb133):w0.heap.size≤gb133));replace HK:=am (KeepBut.trans d0 (KeepBut.of_below hb g none) (.inl rfl));have NB0_133:=am ((by rw [hg];exact Nat.ne_of_lt (IsS127.lt (show IsS127 w0 _ g s0_0 s0_1 s0_2 from by repeat (first|(with_reducible first|exact HI0.out|apply IsS127.alloc|apply IsS127.drewN|apply IsS127.drew|apply IsS127.set_1|apply IsS127.set_2)|exact HI0.out))):g ≠ gb133));have NB133_0:=am ((by rw [hg];exact Nat.ne_of_gt (IsS127.lt (show IsS127 w0 _ g s0_0 s0_1 s0_2 from by repeat (first|(with_reducible first|exact HI0.out|apply IsS127.alloc|apply IsS127.drewN|apply IsS127.drew|apply IsS127.set_1|apply IsS127.set_2)|exact HI0.out))):gb133 ≠ g));replace HI0:=am (IsS127.below d4 hb);clear hb hbox hg)|((with_reducible refine gD 7 ?_);refine gB (cs:=#[.slice none 0 0]) 27 ?_;intro gb134 hg w5 hbox hb;replace HB:=am (pu (by repeat (first|(with_reducible first|exact HB.out|apply pa|apply pb|apply pd|refine pt ?_ (IsS127.ge HI0.out)|refine pt ?_ GE133.out)|exact HB.out)) hb);have BK134:=am (hbox);have GW134:=am ((by rw [hg];exact (keep_size (w:=w) (g:=g) (row:=none) d38):w.heap.size≤gb134));have GE134:=am ((Nat.le_trans HW0.out (by rw [hg];exact (keep_size (w:=w) (g:=g) (row:=none) d38):w.heap.size≤gb134):w0.heap.size≤gb134));replace HK:=am (KeepBut.trans d38 (KeepBut.of_below hb g none) (.inl rfl));have NB133_134:=yl BK133 hg;have NB134_133:=yg BK133 hg;replace BK133:=yb BK133 hb;have NB0_134:=am ((by rw [hg];exact Nat.ne_of_lt (IsS127.lt (show IsS127 w0 _ g s0_0 s0_1 s0_2 from by repeat (first|(with_reducible first|exact HI0.out|apply IsS127.alloc|apply IsS127.drewN|apply IsS127.drew|apply IsS127.set_1|apply IsS127.set_2|refine IsS127.far ?_ NB0_133.out _)|exact HI0.out))):g ≠ gb134));have NB134_0:=am ((by rw [hg];exact Nat.ne_of_gt (IsS127.lt (show IsS127 w0 _ g s0_0 s0_1 s0_2 from by repeat (first|(with_reducible first|exact HI0.out|apply IsS127.alloc|apply IsS127.drewN|apply IsS127.drew|apply IsS127.set_1|apply IsS127.set_2|refine IsS127.far ?_ NB0_133.out _)|exact HI0.out))):gb134 ≠ g));replace HI0:=am (IsS127.below (by repeat (first|(with_reducible first|exact HI0.out|apply IsS127.alloc|apply IsS127.drewN|apply IsS127.drew|apply IsS127.set_1|apply IsS127.set_2|refine IsS127.far ?_ NB0_133.out _)|exact HI0.out)) hb);clear hb hbox hg;have hnb6:=NB134_133.out;have hnc6:=NB133_134.out;have hnb7:=NB134_0.out;have hnc7:=NB0_134.out;obtain ⟨hcz8_0,hfz8_0⟩:=yk1 BK134))
 go_loopg [1] k (fun kq v1 w'=>∃ (x1_1:Int) (x1001_1:Int) (x1002_1:Int) (x135000_1:List (List Int)) (u135000:Value),v1 = .int .i64 x1_1∧Aside0 (spec_l1Cur_matrix.l0 kq x1_1 a2 s0_0 x1001_1 x1002_1 x135000_1=some (r1,r2,r3))∧Aside0 (kq≤k)∧Aside0 (Kd.S (Kd.slice 5 (Kd.int .u8)) 24 w' w.heap.size (fun _=>True) u135000 x135000_1)∧Aside0 (w'.heap[gb133]? = some (.cells #[(.slice none 0 0)] 27 (0,0)))∧Aside0 (w'.heap[gb134]? = some (.cells #[u135000] 27 (0,0)))∧Aside0 (IsS127 w0 w' g s0_0 x1001_1 x1002_1)∧Aside0 (KeepBut w w' g none)∧Aside0 (Below w0.heap.size w0 w'))
 case atStart=>exact ⟨(a1),(s0_1),(s0_2),(([]:List (List Int))),(.slice none 0 0),d3,H',⟨Nat.le_refl _⟩,⟨d11⟩,⟨yF BK133⟩,⟨by refine sB ?_;refine blk_put (cs:=#[.slice none 0 0]) ?_ 0 _ rfl;exact yB BK134⟩,⟨d7⟩,⟨d5⟩,⟨d8⟩⟩
 case round =>
  clear H'
  try clear p2
  try clear c6
  try clear c7
  try clear hcz8_0
  try clear hfz8_0
  obtain ⟨x1_1,x1001_1,x1002_1,x135000_1,u135000,rfl,HA,HK1,HO_135000,BK133,BK134,HI0,HK,HB⟩:=hrel
  cases gk with
  | zero=>exact absurd HA.out (by simp [spec_l1Cur_matrix.l0])
  | succ k1 =>
   have H:=HA.out
   clear HA
   simp only [spec_l1Cur_matrix.l0] at H
   by_cases c9:x1_1 > 0
   ·rw [if_pos c9] at H
    have c9b0:decide (0 < x1_1)=true:=decide_eq_true c9
    clear c9
    obtain ⟨⟨t135,t138,t139⟩,A10,H⟩:=yo H
    try dsimp only at H
    obtain ⟨c11,H⟩:=yi H
    have LMc11:=am c11
    clear c11
    generalize hy140:(x135000_1 ++ [t135]:List (List Int))=y140 at H
    have Ny140:=am hy140.symm
    clear hy140
    have H':=am H
    clear H
    try go_wp2
    replace HO_135000:=am (Kd.S_drew HO_135000.out)
    replace BK133:=am (qd BK133.out)
    replace BK134:=am (qd BK134.out)
    replace HI0:=am (IsS127.drew HI0.out)
    replace HK:=am (keep_drew HK.out)
    replace HB:=am (pd HB.out)
    refine rS (n:=9) (S:=fun w'=>w'.cell? ⟨gb134,0,none⟩=some (u135000)) (ds:=[8]) [(0,13),(2,15),(3,16),(1,14),(4,0),(5,0),(6,0),(7,20),(8,0)] d12 rfl spec_l1Cur_matrix.tab4 spec_l1Cur_matrix.bits4 (yk BK134 0) (fun hHeld HT_ HW_=>?_)
    generalize wr.drew=w12 at HO_135000 BK133 BK134 HI0 HK HB hHeld ⊢
    refine rR ?_
    refine rO (N:=some 17) HT_ rfl rfl d12 d9 (fun K hK=>?_)
    refine goes_ Try.func102 d12 rfl #[.pointer (some ⟨g,0,none⟩), .int .i64 a2] d20 rfl rfl d18 ?_
    with_reducible refine (spec_l1Cur_vector.calls k1 g s0_0 x1001_1 x1002_1 a2 t135 t138 t139 w0 _ ?side1 ?side2 A10.out).mono ?_
    (case side1=>repeat (first|(with_reducible first|exact HI0.out|apply IsS127.alloc|apply IsS127.drewN|apply IsS127.drew|apply IsS127.set_1|apply IsS127.set_2|refine IsS127.far ?_ NB0_133.out _|refine IsS127.far ?_ NB0_134.out _)|exact HI0.out))
    (case side2=>repeat (first|(with_reducible first|exact HB.out|apply pa|apply pb|apply pd|refine pt ?_ (IsS127.ge HI0.out)|refine pt ?_ GE133.out|refine pt ?_ GE134.out)|exact HB.out))
    rintro e w13 ⟨v136,rfl,ho0,hi,hb,hk⟩
    refine ⟨_,rfl,?_⟩
    replace HO_135000:=am (Kd.S_mono (Kd.S_told (Kd.S_oldK (IsS127.apartS (show IsS127 w0 _ g s0_0 x1001_1 x1002_1 from by repeat (first|(with_reducible first|exact HI0.out|apply IsS127.alloc|apply IsS127.drewN|apply IsS127.drew|apply IsS127.set_1|apply IsS127.set_2|refine IsS127.far ?_ NB0_133.out _|refine IsS127.far ?_ NB0_134.out _)|exact HI0.out)) (yS HO_135000) d9) hk) (Kd.R_base ho0)) (fun _ h_=>h_.1))
    replace BK133:=am (KeepBut.blk hk (g':=gb133) (o:=.cells #[.slice none 0 0] 27 (0,0)) (yB BK133) NB133_0.out d41)
    replace BK134:=am (KeepBut.blk hk (g':=gb134) (o:=.cells #[u135000] 27 (0,0)) (yB BK134) NB134_0.out d41)
    have HO137:=am (Kd.R_lower ho0 (keep_size (w:=w) (g:=g) (row:=none) d5))
    replace HK:=am (KeepBut.trans d5 hk (.inl rfl))
    replace HB:=am (hb)
    replace HI0:=am (hi)
    (try clear hb)
    (try clear hb2)
    (try clear hk)
    (try clear hi)
    (try clear ho0)
    obtain ⟨Ao15,co15,eo15⟩:=Kd.R_slice HO137.out
    (first|subst eo15|(injection eo15 with f1_ f2_ f3_;have f4_:=f1_.symm;have f5_:=f3_.symm;clear f1_ f2_ f3_;subst f4_;subst f5_))
    refine hK.out _ _ (yk BK134 0) (fun hHeld=>?_)
    clear hK K
    refine rN (a':=?_) ?_ ?_
    rotate_left
    ·show Act.put _ (some 17) _=_
     simp only [Act.put,q1,q2,q3,i64_w,i32_w]
     rfl
    refine rO (N:=some 18) HT_ rfl rfl d12 d9 (fun K hK=>?_)
    refine value_ (w1:=?_) (v:=?_) d20 rfl ?_ ?_
    rotate_left 2
    ·go_simp
     constructor
     ·rfl
     rfl
    refine hK.out _ _ ((blk_cell (qa BK134.out _) 0).trans rfl) (fun hHeld=>?_)
    clear hK K
    refine rN (a':=?_) ?_ ?_
    rotate_left
    ·show Act.put _ (some 18) _=_
     simp only [Act.put,q1,q2,q3,i64_w,i32_w]
     rfl
    refine rO (N:=some 19) HT_ rfl rfl d12 d9 (fun K hK=>?_)
    refine Kd.S_append_step (Kd.slice 5 (Kd.int .u8)) w.heap.size d20 (.tmp 14) (.tmp 18) 25 24 (.slice none 0 0) 24 rfl Try.underlying25 info24 rfl d9 d13 u135000 x135000_1 t135 [.slice Ao15 t135.length co15] (fun _=>True) (fun k_=>some k_=(.slice Ao15 t135.length co15:Value).ownBlock) rfl rfl ?aP (fun k_ hk_=>((Kd.R_mono (ok':=fun k_=>((fun _=>True)) k_∧some k_ ≠ (u135000:Value).ownBlock) (Kd.R_apart' (HO137.out) (Kd.S_typed HO_135000.out) d9) (fun k_ hk=>⟨trivial,hk.2⟩))).1 k_ hk_.symm) ?aF ?aO (Below.refl _ _) ?aS ?aL ?_
    (case aP=>exact Kd.M_row (Kd.R_mono (Kd.R_tight rfl (Kd.R_mono (ok':=fun k_=>((fun _=>True)) k_∧some k_ ≠ (u135000:Value).ownBlock) (Kd.R_apart' (HO137.out) (Kd.S_typed HO_135000.out) d9) (fun k_ hk=>⟨trivial,hk.2⟩))) (fun _ h_=>h_)))
    (case aF=>exact (fun _ _=>trivial))
    (case aO=>exact (by refine sS ?_;exact Kd.S_mono HO_135000.out (fun k_ hk=>⟨trivial,fun e_=>hk.2 e_⟩)))
    (case aS=>exact (keep_size (w:=w) (g:=g) (row:=none) d5))
    (case aL=>have:=LMc11.out;omega)
    intro v141 w14 ho hb hg hat
    rw [← Ny140.out] at ho
    have n0_:=am (blk_grown (g:=gb133) (o:=.cells #[.slice none 0 0] 27 (0,0)) (yB BK133) hg (Kd.S_ne HO_135000.out BK133.out d9))
    have n1_:=am (blk_grown (g:=gb134) (o:=.cells #[u135000] 27 (0,0)) (yB BK134) hg (Kd.S_ne HO_135000.out BK134.out d9))
    have n2_:=am (IsS127.grown d7 hg (IsS127.own_neS HI0.out HO_135000.out d9))
    have n3_:=am (below_weaken d8 HL.out hb)
    have n4_:=am (KeepBut.trans d5 (KeepBut.of_grown hg g) (Kd.S_base2 HO_135000.out))
    have n5_:=am (ho)
    clear BK133
    clear BK134
    clear HI0
    clear HB
    clear HK
    clear HO_135000
    clear HO137
    have BK133:=n0_
    have BK134:=n1_
    have HI0:=n2_
    have HB:=n3_
    have HK:=n4_
    have HO142:=n5_
    clear n0_ n1_ n2_ n3_ n4_ n5_
    clear ho hb hg hat
    obtain ⟨Ao16,co16,eo16⟩:=Kd.S_slice HO142.out
    (first|subst eo16|(injection eo16 with f1_ f2_ f3_;have f4_:=f1_.symm;have f5_:=f3_.symm;clear f1_ f2_ f3_;subst f4_;subst f5_))
    refine hK.out _ _ (yk BK134 0) (fun hHeld=>?_)
    clear hK K
    refine rN (a':=?_) ?_ ?_
    rotate_left
    ·show Act.put _ (some 19) _=_
     simp only [Act.put,q1,q2,q3,i64_w,i32_w]
     rfl
    refine rR ?_
    refine rL (N:=none) HT_ rfl rfl d12 d9 (fun K hK=>?_)
    have hs17:w14.cell? ⟨gb134,0,none⟩=some (u135000):=(blk_cell BK134.out 0).trans rfl
    have hfs17:=blk_frozen BK134.out 0
    have hns17_0:=NB133_134.out
    have hms17_0:=NB134_133.out
    refine skip_ (w1:=?_) d20 rfl ?_ ?_
    rotate_left
    ·go_simp
     rfl
    refine hK.out _ _ ?_
    clear hK K
    refine rD HT_ d12 ?_
    try go_wp2
    go_roundg k1
    case measure=>have:=HK1.out;omega
    case rel=>exact ⟨(wrap64 (x1_1 - 1)),(t138),(t139),(y140),(.slice Ao16 y140.length co16),d3,H',⟨d22⟩,⟨by refine sS ?_;exact Kd.S_mono (Kd.S_far (p:=⟨gb134,0,none⟩) (Kd.S_types HO142.out BK134.out d9) (fun _ hk=>hk.2) (.slice Ao16 y140.length co16)) (fun _ hk=>trivial)⟩,⟨yF BK133⟩,⟨by refine sB ?_;refine blk_put (cs:=#[u135000]) ?_ 0 _ rfl;exact yB BK134⟩,⟨d7⟩,⟨d5⟩,⟨d8⟩⟩
   rw [if_neg c9] at H
   have c9b0:decide (0 < x1_1)=false:=decide_eq_false c9
   clear c9
   have HC18:=am H
   clear H
   go_upto_region 5 with (fail)
   go_cut [28] (fun v28 wc=>∃ (kq:Nat) (x28_17:Bool) (x1001_17:Int) (x1002_17:Int),v28 = .bool x28_17∧Aside0 (spec_l1Cur_matrix.j1 kq x28_17 s0_0 x1001_17 x1002_17 x135000_1=some (r1,r2,r3))∧Aside0 (kq≤k1)∧Aside0 (Kd.S (Kd.slice 5 (Kd.int .u8)) 24 wc w.heap.size (fun _=>True) u135000 x135000_1)∧Aside0 (wc.heap[gb133]? = some (.cells #[(.slice none 0 0)] 27 (0,0)))∧Aside0 (wc.heap[gb134]? = some (.cells #[u135000] 27 (0,0)))∧Aside0 (IsS127 w0 wc g s0_0 x1001_17 x1002_17)∧Aside0 (KeepBut w wc g none)∧Aside0 (Below w0.heap.size w0 wc))
   case first =>
    have H:=HC18.out
    clear HC18
    by_cases c19:(x135000_1.length:Int) > 1
    ·rw [if_pos c19] at H
     have c19b0:decide (1 < (x135000_1.length:Int))=true:=decide_eq_true c19
     have c19b1:decide (1 < x135000_1.length)=true:=decide_eq_true d13
     clear c19
     (first|rw [c19b0]|(simp only [i64_w,i32_w];rw [c19b0])|skip)
     obtain ⟨⟨t143,t144,t145⟩,A20,H⟩:=yo H
     try dsimp only at H
     have H':=am H
     clear H
     have hnb21:=NB134_133.out
     have hnc21:=NB133_134.out
     have hnb22:=NB134_0.out
     have hnc22:=NB0_134.out
     obtain ⟨hcz23_0,hfz23_0⟩:=yk1 BK134
     obtain ⟨Ao24,co24,eo24⟩:=Kd.S_slice HO_135000.out
     subst eo24
     go_wp2_with (first|(go_at_call 101;(with_reducible refine (spec_l1Cur_one.calls g s0_0 x1001_1 x1002_1 6 t143 t144 t145 w0 _ d7 d8 A20.out).mono ?_);rintro e w25 ⟨rfl,hi,hb,hk⟩;replace HO_135000:=am (Kd.S_mono (Kd.S_keep (IsS127.apartS (show IsS127 w0 _ g s0_0 x1001_1 x1002_1 from by repeat (first|(with_reducible first|exact HI0.out|apply IsS127.alloc|apply IsS127.drewN|apply IsS127.drew|apply IsS127.set_1|apply IsS127.set_2|refine IsS127.far ?_ NB0_133.out _|refine IsS127.far ?_ NB0_134.out _)|exact HI0.out)) (yS HO_135000) d9) hk (fun _ h=>h.2)) (fun _ h=>h.1));replace BK133:=am (KeepBut.blk hk (g':=gb133) (o:=.cells #[.slice none 0 0] 27 (0,0)) (yB BK133) NB133_0.out d41);replace BK134:=am (KeepBut.blk hk (g':=gb134) (o:=.cells #[.slice Ao24 x135000_1.length co24] 27 (0,0)) (yB BK134) NB134_0.out d41);replace HK:=am (KeepBut.trans d5 hk (.inl rfl));replace HB:=am (hb);replace HI0:=am (hi);clear hb hk hi))
     go_meet
     case rel=>exact ⟨_,(t143),(t144),(t145),d3,H',⟨d103⟩,⟨yS HO_135000⟩,⟨yB BK133⟩,⟨yB BK134⟩,⟨d7⟩,⟨d5⟩,⟨d8⟩⟩
    rw [if_neg c19] at H
    have c19b0:decide (1 < (x135000_1.length:Int))=false:=decide_eq_false c19
    have c19b1:decide (1 < x135000_1.length)=false:=decide_eq_false d13
    clear c19
    (first|rw [c19b0]|(simp only [i64_w,i32_w];rw [c19b0])|skip)
    have H':=am H
    clear H
    have hnb26:=NB134_133.out
    have hnc26:=NB133_134.out
    have hnb27:=NB134_0.out
    have hnc27:=NB0_134.out
    obtain ⟨hcz28_0,hfz28_0⟩:=yk1 BK134
    obtain ⟨Ao29,co29,eo29⟩:=Kd.S_slice HO_135000.out
    subst eo29
    go_wp2
    go_meet
    case rel=>exact ⟨_,(false),(x1001_1),(x1002_1),d3,H',⟨d103⟩,⟨yS HO_135000⟩,⟨yB BK133⟩,⟨yB BK134⟩,⟨d7⟩,⟨d5⟩,⟨d8⟩⟩
   case rest =>
    clear HC18
    try clear c1
    try clear c2
    try clear p2
    try clear c6
    try clear p6
    try clear c7
    try clear c9
    try clear c9b0
    try clear c10
    try clear c11
    try clear c19
    try clear c19b0
    try clear c19b1
    try clear c21
    try clear c22
    try clear c26
    try clear c27
    try clear hcz23_0
    try clear hcz28_0
    try clear hcz8_0
    try clear hfz23_0
    try clear hfz28_0
    try clear hfz8_0
    try clear p2
    obtain ⟨kq,x28_17,x1001_17,x1002_17,rfl,HA,HJ17,HO_135000,BK133,BK134,HI0,HK,HB⟩:=hcut
    cases kq with
    | zero=>exact absurd HA.out (by simp [spec_l1Cur_matrix.j1])
    | succ kj17 =>
     have H:=HA.out
     clear HA
     simp only [spec_l1Cur_matrix.j1] at H
     have HC30:=am H
     clear H
     go_upto_if 28 with (fail)
     go_cut [] (fun wc=>∃ (kq:Nat) (x135000_29:List (List Int)) (u135000:Value),Aside0 (spec_l1Cur_matrix.j2 kq s0_0 x1001_17 x1002_17 x135000_29=some (r1,r2,r3))∧Aside0 (kq≤kj17)∧Aside0 (Kd.S (Kd.slice 5 (Kd.int .u8)) 24 wc w.heap.size (fun _=>True) u135000 x135000_29)∧Aside0 (wc.heap[gb133]? = some (.cells #[(.slice none 0 0)] 27 (0,0)))∧Aside0 (wc.heap[gb134]? = some (.cells #[u135000] 27 (0,0)))∧Aside0 (IsS127 w0 wc g s0_0 x1001_17 x1002_17)∧Aside0 (KeepBut w wc g none)∧Aside0 (Below w0.heap.size w0 wc))
     case first =>
      have H:=HC30.out
      clear HC30
      by_cases c31:x28_17=true
      ·subst c31
       replace H:=yt H
       obtain ⟨y146,hy146,H⟩:=ys H
       have Ny146:=am hy146
       clear hy146
       obtain ⟨c32,H⟩:=yi H
       have c32b0:=decide_eq_true c32
       have c32b1:decide (1 < x135000_1.length)=true:=decide_eq_true d13
       clear c32
       (first|rw [c32b0]|(simp only [i64_w,i32_w];rw [c32b0])|skip)
       obtain ⟨c33,H⟩:=yi H
       have LMc33:=am c33
       clear c33
       generalize hy150:(y146 ++ (rd_L1 x135000_1 1):List Int)=y150 at H
       have Ny150:=am hy150.symm
       clear hy150
       obtain ⟨c34,H⟩:=yi H
       have c34b0:=decide_eq_true c34
       have c34b1:decide (0 < x135000_1.length)=true:=decide_eq_true d13
       clear c34
       generalize hy153:(x135000_1.set (0:Int).toNat y150:List (List Int))=y153 at H
       have Ny153:=am hy153.symm
       clear hy153
       have H':=am H
       clear H
       have hnb36:=NB134_133.out
       have hnc36:=NB133_134.out
       have hnb37:=NB134_0.out
       have hnc37:=NB0_134.out
       obtain ⟨hcz38_0,hfz38_0⟩:=yk1 BK134
       go_wp2_with (fail)
       replace HO_135000:=am (Kd.S_drew HO_135000.out)
       replace BK133:=am (qd BK133.out)
       replace BK134:=am (qd BK134.out)
       replace HI0:=am (IsS127.drew HI0.out)
       replace HK:=am (keep_drew HK.out)
       replace HB:=am (pd HB.out)
       obtain ⟨Ao42,co42,eo42⟩:=Kd.S_slice HO_135000.out
       subst eo42
       have p149:0≤(1:Int):=d13
       have q149:1 < (x135000_1.length:Int):=od d1
       obtain ⟨ad149,A149_0,c149_0,e149,hx149_0,hl149_0,hi149_0⟩:=at_L1 (Kd.S_reads' HO_135000.out).2.2 1 p149 q149
       cases e149
       obtain ⟨ce149,hce149,hMe149,hcc149⟩:=Kd.S_get HO_135000.out [] 1 p149 (by first|exact q149|exact od d1|(have e_:=(Kd.S_reads' HO_135000.out).1;omega))
       obtain ⟨ve149_0,rfl,ge149_0⟩:=hMe149
       have hv149_0:=hcc149 0 _ rfl
       rw [Nat.add_zero,show ((Kd.slice 5 (Kd.int .u8))).sz=1 from rfl,Nat.mul_one] at hv149_0
       replace hv149_0:=Option.some.inj (hv149_0.symm.trans hx149_0)
       rw [hv149_0] at ge149_0
       have HL149_0:=am (show Kd.R (Kd.int .u8) 5 _ _ _ _ (rd_L1 x135000_1 1) from ge149_0)
       clear hv149_0 ge149_0
       have HX149_0:=am hx149_0
       clear hcc149 hce149
       have qi149:(1 < x135000_1.length)=True:=eq_true d13
       (try rw [show ((1:Int)).toNat=1 from rfl] at hx149_0)
       have HR149_0:=am hi149_0
       have HC149_0:=am hl149_0
       clear hi149_0 hl149_0
       replace p149:=eq_true p149
       replace q149:=eq_true q149
       have qz_:(0 < x135000_1.length)=True:=eq_true (by have h_:(1:Int) < (x135000_1.length:Int):=of_eq_true q149;omega)
       obtain ⟨go35,co35,eo35,gb35,gl35,cl35,HG35⟩:=Kd.S_form HO_135000.out (by have h_:=of_eq_true qz_;omega)
       (first|cases eo35|(injection eo35 with ea_ en_ ec_;(first|subst ea_|(injection ea_ with ea_;subst ea_));subst ec_;clear en_))
       have GB35:=am gb35
       have GG35:=am HG35
       clear gb35 gl35 HG35
       (first|simp only [add_plain] at hx149_0|skip)
       (try simp only [Nat.zero_add] at hx149_0)
       refine KitR.rS (n:=10) (B:=[0,0,0,0,0,0,0,0,0,511]) (S:=fun w'=>w'.cell? ⟨gb134,0,none⟩=some (.slice (some ⟨go35,0,none⟩) x135000_1.length co42)∧w'.cell? ⟨go35,1,none⟩=some (.slice A149_0 (rd_L1 x135000_1 1).length c149_0)) (ds:=[9]) [(0,29),(1,30),(3,32),(4,33),(5,34),(6,35),(2,0),(7,0),(8,37),(9,0)] d12 rfl rfl d12 ⟨yk BK134 0,hx149_0⟩ (fun hHeld HT_ HW_=>?_)
       generalize hwd_:wc.drew=wd_
       rw [hwd_] at hHeld
       rw [hwd_] at HO_135000
       rw [hwd_] at BK133
       rw [hwd_] at BK134
       rw [hwd_] at HI0
       rw [hwd_] at HK
       rw [hwd_] at HB
       rw [hwd_] at HL149_0
       rw [hwd_] at HR149_0
       refine KitR.rR ?_
       refine KitR.rO (N:=some 31) HT_ rfl rfl d12 d9 (fun K hK=>?_)
       refine Kd.R_lit_step (Kd.int .u8) _ 5 d20 (N:=31) rfl (xs:=([]:List Int)) (inner:=[]) (ok:=fun _=>True) (okp:=fun _=>True) ?hr ?hp (fun _ hk=>hk) trivial (Below.refl _ _) (Nat.le_refl _) d41 ?_
       (case hr=>first|(go_simp;done)|(go_simp;rfl))
       (case hp=>exact (Reps.none _ _))
       intro v147 w39 ho40 hb hg_ hnew_
       clear hg_ hnew_
       (first|rw [← Ny146.out] at ho40|(simp only [Int.reduceToNat] at ho40;rw [← Ny146.out] at ho40))
       replace HO_135000:=eS HO_135000 (Kd.R_base ho40) hb
       have HO148:=am (Kd.R_lower ho40 (keep_size (w:=w) (g:=g) (row:=none) d5))
       replace BK133:=yb BK133 hb
       replace BK134:=yb BK134 hb
       replace HK:=am (KeepBut.trans d5 (KeepBut.of_below hb g none) (.inl rfl))
       replace HB:=am (pu d8 hb)
       replace HI0:=am (IsS127.below d7 hb)
       have nl_:=eR HL149_0 (Kd.R_base ho40) hb
       clear HL149_0
       have HL149_0:=nl_
       clear nl_
       have nr_:=am (Kd.C_below HR149_0.out hb)
       clear HR149_0
       have HR149_0:=nr_
       clear nr_
       refine hK.out _ _ ⟨pw_cell_below hb hHeld.1,pw_cell_below hb hHeld.2⟩ (fun hHeld=>?_)
       clear hK K
       clear hb ho40
       refine KitR.rN (a':=?_) ?_ ?_
       rotate_left
       ·show Act.put _ (some 31) _=_
        simp only [Act.put,q1,q2,q3,i64_w,i32_w]
        rfl
       obtain ⟨_,hty_⟩:=Kd.S_typed HO_135000.out go35 rfl
       have hne_:=Kd.R_ne HO148.out hty_ d9
       clear hty_
       refine KitR.rO (N:=some 36) HT_ rfl rfl d12 d9 (fun K hK=>?_)
       refine Kd.R_append_rows_step (Kd.int .u8) w.heap.size d20 (.tmp 31) (.tmp 35) 24 5 (.int .u8 0) 1 rfl Try.underlying24 info5 rfl d9 d13 v147 y146 (rd_L1 x135000_1 1) _ _ _ (fun _=>True) (fun _=>False) rfl rfl ?aO ?aR (fun _ _ h=>h) (fun _ h=>h.elim) ?aF (Below.refl _ _) ?aS ?aL ?_
       (case aR=>repeat (first|exact (by repeat (first|(with_reducible exact HR149_0.out)|(with_reducible refine Kd.C_alloc ?_ _)|(with_reducible refine Kd.C_drewN ?_ _)|(with_reducible refine Kd.C_drew ?_)|exact HR149_0.out))|(with_reducible refine Kd.C_alloc ?_ _)|(with_reducible refine Kd.C_drewN ?_ _)|(with_reducible refine Kd.C_drew ?_)))
       (case aF=>exact (fun _ _=>trivial))
       (case aO=>exact (yR HO148))
       (case aS=>exact (keep_size (w:=w) (g:=g) (row:=none) d5))
       (case aL=>have:=LMc33.out;omega)
       intro v151 w43 ho hb hg hat
       have HS1_:=cell_grown hg hHeld.1 (Kd.R_ne HO148.out BK134.out d9)
       have HS2_:=cell_grown hg hHeld.2 hne_
       rw [← Ny150.out] at ho
       have n0_:=am (Kd.S_after (ok:=(fun _=>True)) (yS HO_135000) hg hat)
       have n1_:=am (blk_grown (g:=gb133) (o:=.cells #[.slice none 0 0] 27 (0,0)) (yB BK133) hg (Kd.R_ne HO148.out BK133.out d9))
       have n2_:=am (blk_grown (g:=gb134) (o:=.cells #[.slice (some ⟨go35,0,none⟩) x135000_1.length co42] 27 (0,0)) (yB BK134) hg (Kd.R_ne HO148.out BK134.out d9))
       have n3_:=am (IsS127.grown d7 hg (IsS127.own_ne HI0.out HO148.out d9))
       have n4_:=am (Kd.R_after (ok:=(fun k_=>some k_ ≠ (.slice (some ⟨go35,0,none⟩) x135000_1.length co42:Value).ownBlock)) (by refine sR ?_;exact Kd.R_mono HL149_0.out (fun _ hk=>⟨hk.1.2,hk.2⟩)) hg hat)
       have n5_:=am (below_weaken d8 HL.out hb)
       have n6_:=am (KeepBut.trans d5 (KeepBut.of_grown hg g) (Kd.R_base2 HO148.out))
       have n7_:=am (ho)
       clear HO_135000
       clear BK133
       clear BK134
       clear HI0
       clear HL149_0
       clear HB
       clear HK
       clear HO148
       have HO_135000:=n0_
       have BK133:=n1_
       have BK134:=n2_
       have HI0:=n3_
       have HL149_0:=n4_
       have HB:=n5_
       have HK:=n6_
       have HO152:=n7_
       clear n0_ n1_ n2_ n3_ n4_ n5_ n6_ n7_
       clear ho hb hg hat
       refine hK.out _ _ ⟨HS1_,HS2_⟩ (fun hHeld=>?_)
       clear hK K hne_ HS1_ HS2_
       refine KitR.rN (a':=?_) ?_ ?_
       rotate_left
       ·show Act.put _ (some 36) _=_
        simp only [Act.put,q1,q2,q3,i64_w,i32_w]
        rfl
       refine KitR.rR ?_
       obtain ⟨Az_,cz_,ez_⟩:=Kd.R_slice HO152.out
       subst ez_
       have p35:0≤(0:Int):=d13
       have q35:(0:Int) < ((x135000_1.length:Int):Int):=od d1
       obtain ⟨_,ce35,hcl35,hM35,hcc35,hfr35,_,_⟩:=Kd.S_elem HO_135000.out [] (0:Int) p35 q35
       obtain ⟨ve35_0,rfl,ge35_0⟩:=hM35
       have hx35_0:=hcc35 0 _ rfl
       have hf35_0:=hfr35 0
       (try simp only [show ((Kd.slice 5 (Kd.int .u8))).sz=1 from rfl,Nat.mul_one,Nat.add_zero] at hx35_0)
       (try simp only [show ((Kd.slice 5 (Kd.int .u8))).sz=1 from rfl,Nat.mul_one,Nat.add_zero] at hf35_0)
       clear hcl35 hcc35 hfr35
       (try clear hM35)
       (try rw [show ((0:Int)).toNat=0 from rfl] at hx35_0)
       (try simp only [Nat.reduceMul,Nat.zero_mul,Nat.zero_add,Nat.reduceAdd] at hx35_0)
       (try rw [show ((0:Int)).toNat=0 from rfl] at hf35_0)
       (try simp only [Nat.reduceMul,Nat.zero_mul,Nat.zero_add,Nat.reduceAdd] at hf35_0)
       replace p35:=eq_true p35
       replace q35:=eq_true q35
       have n_:=am (Kd.S_mono (ok':=(fun k_=>some k_ ≠ ((.slice Az_ y150.length cz_):Value).ownBlock)) HO_135000.out (fun k_ hk=>hk.2))
       clear HO_135000
       have HO_135000:=n_
       clear n_
       have HX44:=am (show Kd.S (Kd.slice 5 (Kd.int .u8)) 24 w43 w.heap.size (fun k_=>((fun _=>True)) k_∧¬ ((fun k_=>some k_=((.slice Az_ y150.length cz_):Value).ownBlock)) k_) (.slice (some ⟨go35,0,none⟩) x135000_1.length co42) x135000_1 from (by refine sS ?_;exact Kd.S_mono HO_135000.out (fun k_ hk=>⟨trivial,fun e_=>hk e_⟩)))
       obtain ⟨oki44,ce44,hcl44,hM44,hcc44,hfr44,hoki44,hH44⟩:=Kd.S_elem HX44.out [] (0:Int) d13 (by have h_:(0:Int) < ((x135000_1.length:Int):Int):=od d1;first|exact h_|(have e_:=(Kd.S_reads' HO_135000.out).1;omega)|simpa using h_)
       obtain ⟨ve44_0,rfl,ge44_0⟩:=hM44
       have HP44:=Kd.S_seg hH44 d13 (by have h_:(0:Int) < ((x135000_1.length:Int):Int):=od d1;first|exact h_|(have e_:=(Kd.S_reads' HO_135000.out).1;omega)|simpa using h_) (seg:=[(.slice Az_ y150.length cz_)]) (j:=0) (show 1≤1 from by decide) (x':=y150) (Kd.M_row (Kd.R_mono (Kd.R_tight rfl (Kd.R_mono (ok':=fun k_=>((fun _=>True)) k_∧k_ ≠ go35) (Kd.R_apart' (HO152.out) (Kd.S_typed HO_135000.out) d9) (fun k_ hk=>⟨trivial,fun e_=>(hk.2) (by rw [e_];rfl)⟩))) (fun _ h_=>Or.inr (h_)))) (fun _ hk=>hk) (fun k_ hk_=>((Kd.R_mono (ok':=fun k_=>((fun _=>True)) k_∧k_ ≠ go35) (Kd.R_apart' (HO152.out) (Kd.S_typed HO_135000.out) d9) (fun k_ hk=>⟨trivial,fun e_=>(hk.2) (by rw [e_];rfl)⟩))).1 k_ hk_.symm)
       have hx44_0:=hcc44 0 _ rfl
       (try simp only [show ((Kd.slice 5 (Kd.int .u8))).sz=1 from rfl,Nat.mul_one,Nat.add_zero] at hx44_0)
       (try rw [show ((0:Int)).toNat=0 from rfl] at hx44_0)
       (try simp only [Nat.reduceMul,Nat.zero_mul,Nat.zero_add,Nat.reduceAdd] at hx44_0)
       have hf44_0:=hfr44 0
       (try simp only [show ((Kd.slice 5 (Kd.int .u8))).sz=1 from rfl,Nat.mul_one,Nat.add_zero] at hf44_0)
       (try rw [show ((0:Int)).toNat=0 from rfl] at hf44_0)
       (try simp only [Nat.reduceMul,Nat.zero_mul,Nat.zero_add,Nat.reduceAdd] at hf44_0)
       clear hcl44 hcc44 hfr44 hoki44 hH44
       (try clear hM44)
       (try simp only [show ((Kd.slice 5 (Kd.int .u8))).sz=1 from rfl,Nat.mul_one,Nat.add_zero] at HP44)
       refine KitR.rL (N:=none) HT_ rfl rfl d12 d9 (fun K hK=>?_)
       refine skip_ (w1:=?_) d20 rfl ?_ ?_
       rotate_left
       ·go_simp
        rfl
       refine hK.out _ _ ?_
       clear hK K
       refine KitR.rD HT_ d12 ?_
       clear hHeld
       obtain ⟨w45,hw⟩:∃ W_:World,W_=(w43.setCell ⟨go35,0,none⟩ (.slice Az_ y150.length cz_)):=⟨_,rfl⟩
       rw [← hw]
       have hg:w43.grownBy w45 (some go35):=(by rw [hw];exact HP44.2)
       have hp_:Kd.S (Kd.slice 5 (Kd.int .u8)) 24 w45 w.heap.size (fun _=>True) (.slice (some ⟨go35,0,none⟩) x135000_1.length co42) y153:=(by rw [hw,Ny153.out];exact HP44.1)
       clear HP44
       have n0_:=am (hp_)
       have n1_:=am (blk_grown (g:=gb133) (o:=.cells #[.slice none 0 0] 27 (0,0)) (yB BK133) hg (Kd.S_ne HO_135000.out BK133.out d9))
       have n2_:=am (blk_grown (g:=gb134) (o:=.cells #[.slice (some ⟨go35,0,none⟩) x135000_1.length co42] 27 (0,0)) (yB BK134) hg (Kd.S_ne HO_135000.out BK134.out d9))
       have n3_:=am (IsS127.grown d7 hg (IsS127.own_neS HI0.out HO_135000.out d9))
       have n4_:=am (Kd.R_after (v:=(.slice (some ⟨go35,0,none⟩) x135000_1.length co42)) (v1:=(.slice (some ⟨go35,0,none⟩) x135000_1.length co42)) (ok:=(fun k_=>some k_ ≠ ((.slice Az_ y150.length cz_):Value).ownBlock)) (by refine sR ?_;exact Kd.R_mono HL149_0.out (fun _ hk=>⟨hk.2,hk.1⟩)) hg (.inl rfl))
       have n5_:=am ((by rw [hw];exact pt (HB.out) (Nat.le_trans HL.out GB35.out):Below w0.heap.size w0 w45))
       have n6_:=am (KeepBut.trans d5 (KeepBut.of_grown hg g) (Kd.S_base2 HO_135000.out))
       clear HO_135000
       clear BK133
       clear BK134
       clear HI0
       clear HL149_0
       clear HB
       clear HK
       clear HO152
       have HO_135000:=n0_
       have BK133:=n1_
       have BK134:=n2_
       have HI0:=n3_
       have HL149_0:=n4_
       have HB:=n5_
       have HK:=n6_
       clear n0_ n1_ n2_ n3_ n4_ n5_ n6_
       clear hg hw hp_
       try go_wp2
       go_meet
       case rel=>exact ⟨_,(y153),(.slice (some ⟨go35,0,none⟩) x135000_1.length co42),H',⟨by have:=HK1.out;have:=HJ17.out;first|omega|exact Nat.le_refl _⟩,⟨yS HO_135000⟩,⟨yB BK133⟩,⟨yB BK134⟩,⟨d7⟩,⟨d5⟩,⟨d8⟩⟩
      replace c31:=Bool.eq_false_iff.mpr c31
      subst c31
      replace H:=yn H
      have H':=am H
      clear H
      go_wp2
      go_meet
      case rel=>exact ⟨_,(x135000_1),(u135000),H',⟨by have:=HK1.out;have:=HJ17.out;first|omega|exact Nat.le_refl _⟩,⟨yS HO_135000⟩,⟨yB BK133⟩,⟨yB BK134⟩,⟨d7⟩,⟨d5⟩,⟨d8⟩⟩
     case rest =>
      clear HC30
      try clear c1
      try clear p1
      try clear q1
      try clear hx1
      try clear qi1
      try clear c2
      try clear p2
      try clear c3
      try clear p3
      try clear q3
      try clear hx3
      try clear qi3
      try clear hf3
      try clear c4
      try clear hx4
      try clear hf4
      try clear c6
      try clear p6
      try clear c7
      try clear c9
      try clear c9b0
      try clear c10
      try clear c11
      try clear c14
      try clear p14
      try clear q14
      try clear hx14
      try clear qi14
      try clear c19
      try clear c19b0
      try clear c19b1
      try clear c21
      try clear c22
      try clear c26
      try clear c27
      try clear c31
      try clear c32
      try clear c32b0
      try clear c32b1
      try clear c33
      try clear c34
      try clear c34b0
      try clear c34b1
      try clear c35
      try clear p35
      try clear q35
      try clear hx35
      try clear qi35
      try clear hf35
      try clear c36
      try clear c37
      try clear c44
      try clear hx44
      try clear hf44
      try clear hcz23_0
      try clear hcz28_0
      try clear hcz38_0
      try clear hcz41_0
      try clear hcz8_0
      try clear hfz23_0
      try clear hfz28_0
      try clear hfz38_0
      try clear hfz41_0
      try clear hfz8_0
      try clear hx149_0
      try clear hx35_0
      try clear hx44_0
      try clear p149
      try clear p2
      try clear p35
      try clear p6
      try clear q149
      try clear q35
      obtain ⟨kq,x135000_29,u135000,HA,HJ29,HO_135000,BK133,BK134,HI0,HK,HB⟩:=hcut
      cases kq with
      | zero=>exact absurd HA.out (by simp [spec_l1Cur_matrix.j2])
      | succ kj29 =>
       have H:=HA.out
       clear HA
       simp only [spec_l1Cur_matrix.j2] at H
       by_cases c46:(x135000_29.length:Int) > 0
       ·rw [if_pos c46] at H
        have c46b0:decide (0 < (x135000_29.length:Int))=true:=decide_eq_true c46
        have c46b1:decide (0 < x135000_29.length)=true:=decide_eq_true d13
        clear c46
        obtain ⟨⟨t154,t155,t156⟩,A47,H⟩:=yo H
        try dsimp only at H
        by_cases c48:t154=true
        ·subst c48
         replace H:=yt H
         obtain ⟨c49,H⟩:=yi H
         have c49b0:=decide_eq_true c49
         have c49b1:decide (0 < x135000_29.length)=true:=decide_eq_true d13
         clear c49
         obtain ⟨c50,H⟩:=yi H
         have LMc50:=am c50
         clear c50
         generalize hy158:((rd_L1 x135000_29 0) ++ [1]:List Int)=y158 at H
         have Ny158:=am hy158.symm
         clear hy158
         generalize hy161:(x135000_29.set (0:Int).toNat y158:List (List Int))=y161 at H
         have Ny161:=am hy161.symm
         clear hy161
         simp only [Option.some.injEq,Prod.mk.injEq] at H
         obtain ⟨rfl,rfl,rfl⟩:=H
         have hnb52:=NB134_133.out
         have hnc52:=NB133_134.out
         have hnb53:=NB134_0.out
         have hnc53:=NB0_134.out
         obtain ⟨hcz54_0,hfz54_0⟩:=yk1 BK134
         obtain ⟨Ao55,co55,eo55⟩:=Kd.S_slice HO_135000.out
         subst eo55
         try go_wp2_with (first|(go_at_call 101;(with_reducible refine (spec_l1Cur_one.calls g s0_0 x1001_17 x1002_17 40 true t155 t156 w0 _ d7 d8 A47.out).mono ?_);rintro e w56 ⟨rfl,hi,hb,hk⟩;replace HO_135000:=am (Kd.S_mono (Kd.S_keep (IsS127.apartS (show IsS127 w0 _ g s0_0 x1001_17 x1002_17 from by repeat (first|(with_reducible first|exact HI0.out|apply IsS127.alloc|apply IsS127.drewN|apply IsS127.drew|apply IsS127.set_1|apply IsS127.set_2|refine IsS127.far ?_ NB0_133.out _|refine IsS127.far ?_ NB0_134.out _)|exact HI0.out)) (yS HO_135000) d9) hk (fun _ h=>h.2)) (fun _ h=>h.1));replace BK133:=am (KeepBut.blk hk (g':=gb133) (o:=.cells #[.slice none 0 0] 27 (0,0)) (yB BK133) NB133_0.out d41);replace BK134:=am (KeepBut.blk hk (g':=gb134) (o:=.cells #[.slice Ao55 x135000_29.length co55] 27 (0,0)) (yB BK134) NB134_0.out d41);replace HK:=am (KeepBut.trans d5 hk (.inl rfl));replace HB:=am (hb);replace HI0:=am (hi);clear hb hk hi))
         replace HO_135000:=am (Kd.S_drew HO_135000.out)
         replace BK133:=am (qd BK133.out)
         replace BK134:=am (qd BK134.out)
         replace HI0:=am (IsS127.drew HI0.out)
         replace HK:=am (keep_drew HK.out)
         replace HB:=am (pd HB.out)
         have p157:0≤(0:Int):=d13
         have q157:0 < (x135000_29.length:Int):=od d1
         obtain ⟨ad157,A157_0,c157_0,e157,hx157_0,hl157_0,hi157_0⟩:=at_L1 (Kd.S_reads' HO_135000.out).2.2 0 p157 q157
         cases e157
         obtain ⟨ce157,hce157,hMe157,hcc157⟩:=Kd.S_get HO_135000.out [] 0 p157 (by first|exact q157|exact od d1|(have e_:=(Kd.S_reads' HO_135000.out).1;omega))
         obtain ⟨ve157_0,rfl,ge157_0⟩:=hMe157
         have hv157_0:=hcc157 0 _ rfl
         rw [Nat.add_zero,show ((Kd.slice 5 (Kd.int .u8))).sz=1 from rfl,Nat.mul_one] at hv157_0
         replace hv157_0:=Option.some.inj (hv157_0.symm.trans hx157_0)
         rw [hv157_0] at ge157_0
         have HL157_0:=am (show Kd.R (Kd.int .u8) 5 _ _ _ _ (rd_L1 x135000_29 0) from ge157_0)
         clear hv157_0 ge157_0
         have HX157_0:=am hx157_0
         clear hcc157 hce157
         have qi157:(0 < x135000_29.length)=True:=eq_true d13
         (try rw [show ((0:Int)).toNat=0 from rfl] at hx157_0)
         (try rw [Addr.add_zero'] at hx157_0)
         have HR157_0:=am hi157_0
         have HC157_0:=am hl157_0
         clear hi157_0 hl157_0
         replace p157:=eq_true p157
         replace q157:=eq_true q157
         obtain ⟨go58,co58,eo58,gb58,gl58,cl58,HG58⟩:=Kd.S_form HO_135000.out (by have h_:(0:Int) < ((x135000_29.length:Int):Int):=od d1;have h2_:0≤(0:Int):=d13;omega)
         (first|cases eo58|(injection eo58 with ea_ en_ ec_;(first|subst ea_|(injection ea_ with ea_;subst ea_));subst ec_;clear en_))
         have GB58:=am gb58
         have GG58:=am HG58
         clear gb58 gl58 HG58
         (first|simp only [add_plain] at hx157_0|skip)
         obtain ⟨oki58,ce58,hcl58,hM58,hcc58,_,_,hH58⟩:=Kd.S_elem HO_135000.out [] (0:Int) d13 (by have h_:(0:Int) < ((x135000_29.length:Int):Int):=od d1;first|exact h_|(have e_:=(Kd.S_reads' HO_135000.out).1;omega)|simpa using h_)
         obtain ⟨ve58_0,rfl,ge58_0⟩:=hM58
         have hv58:=hcc58 0 _ rfl
         have hX58:=HX157_0.out
         (try simp only [add_plain] at hX58)
         (try simp only [Nat.add_zero] at hv58)
         (try rw [show ((Kd.slice 5 (Kd.int .u8))).sz=1 from rfl,Nat.mul_one] at hv58)
         replace hv58:=Option.some.inj (hv58.symm.trans hX58)
         subst hv58
         clear hX58 hcc58 hcl58
         have UU58:=am (show Kd.R (Kd.int .u8) 5 _ w.heap.size oki58 (.slice A157_0 (rd_L1 x135000_29 0).length c157_0) (rd_L1 x135000_29 0) from ge58_0)
         have HH58:=am hH58
         have HN58:=am (Kd.S_reads' HO_135000.out).1
         clear hH58 ge58_0
         refine rS (n:=10) (S:=fun w'=>w'.cell? ⟨gb134,0,none⟩=some (.slice (some ⟨go58,0,none⟩) x135000_29.length co55)∧w'.cell? ⟨go58,0,none⟩=some (.slice A157_0 (rd_L1 x135000_29 0).length c157_0)) (ds:=[9]) [(0,46),(2,48),(1,47),(3,49),(4,50),(5,51),(6,0),(7,0),(8,54),(9,0)] d12 rfl spec_l1Cur_matrix.tab8 spec_l1Cur_matrix.bits8 ⟨yk BK134 0,hx157_0⟩ (fun hHeld HT_ HW_=>?_)
         generalize w56.drew=w57 at HO_135000 BK133 BK134 HI0 HK HB GG58 HH58 HL157_0 HR157_0 HX157_0 UU58 hx157_0 hHeld ⊢
         refine rR ?_
         refine rO (N:=some 52) HT_ rfl rfl d12 d9 (fun K hK=>?_)
         refine value_ (w1:=?_) (v:=?_) d20 rfl ?_ ?_
         rotate_left 2
         ·go_simp
          constructor
          ·rfl
          rfl
         refine hK.out _ _ ⟨(blk_cell (qa BK134.out _) 0).trans rfl,(World.cell?_alloc_lt _ _ _ (World.block_lt_of_cell? _ _ (hHeld.2))).trans (hHeld.2)⟩ (fun hHeld=>?_)
         clear hK K
         refine rN (a':=?_) ?_ ?_
         rotate_left
         ·show Act.put _ (some 52) _=_
          simp only [Act.put,q1,q2,q3,i64_w,i32_w]
          rfl
         refine rO (N:=some 53) HT_ rfl rfl d12 d9 (fun K hK=>?_)
         refine Kd.R_append_step (Kd.int .u8) w.heap.size d20 (.tmp 51) (.tmp 52) 24 5 (.int .u8 0) 1 rfl Try.underlying24 info5 rfl d9 d13 (.slice A157_0 (rd_L1 x135000_29 0).length c157_0) (rd_L1 x135000_29 0) 1 [.int .u8 1] (fun k_=>oki58 k_∨((fun _=>True)) k_∧w57.heap.size≤k_) (fun _=>False) rfl rfl ?aP (fun _ hk=>hk.elim) ?aF ?aO (Below.refl _ _) ?aS ?aL ?_
         (case aP=>exact rfl)
         (case aF=>exact (fun k_ hk=>.inr ⟨trivial,hk⟩))
         (case aO=>exact (by refine sR ?_;exact Kd.R_mono UU58.out (fun _ hk=>.inl hk)))
         (case aS=>exact (keep_size (w:=w) (g:=g) (row:=none) d5))
         (case aL=>have:=LMc50.out;omega)
         intro v159 w59 ho hb hg hat
         (first|have HS1_:=cell_grown hg (hHeld.2) d53|have HS1_:=cell_grown hg (cell_unalloc (hHeld.2) (by first|(rw [add_block];exact Kd.S_lt HO_135000.out _ rfl)|(show (Addr.add _ _).block < _;rw [add_block];exact Kd.S_lt HO_135000.out _ rfl)|exact Kd.S_lt HO_135000.out _ rfl)) d53)
         rw [← Ny158.out] at ho
         have n0_:=am (blk_grown (g:=gb133) (o:=.cells #[.slice none 0 0] 27 (0,0)) (yB BK133) hg (Kd.R_ne HL157_0.out BK133.out d9))
         have n1_:=am (blk_grown (g:=gb134) (o:=.cells #[.slice (some ⟨go58,0,none⟩) x135000_29.length co55] 27 (0,0)) (yB BK134) hg (Kd.R_ne HL157_0.out BK134.out d9))
         have n2_:=am (IsS127.grown d7 hg (IsS127.own_ne HI0.out HL157_0.out d9))
         have n3_:=am (below_weaken d8 HL.out hb)
         have n4_:=am (KeepBut.trans d5 (KeepBut.of_grown hg g) (Kd.R_base2 HL157_0.out))
         have n5_:=am (Kd.H_grown (Kd.H_widen (by repeat (first|exact HH58.out|refine Kd.H_alloc ?_ _|refine Kd.H_drewN ?_ _|refine Kd.H_drew ?_))) hg (fun k_ e_=>.inl (UU58.out.1 k_ e_)))
         have n6_:=am (ho)
         clear BK133
         clear BK134
         clear HI0
         clear HB
         clear HK
         clear HH58
         clear HO_135000
         clear UU58
         clear HL157_0
         have BK133:=n0_
         have BK134:=n1_
         have HI0:=n2_
         have HB:=n3_
         have HK:=n4_
         have HH58:=n5_
         have HO160:=n6_
         clear n0_ n1_ n2_ n3_ n4_ n5_ n6_
         clear ho hb hg hat
         have p51:0≤(0:Int):=d13
         have q51:(0:Int) < ((x135000_29.length:Int):Int):=od d1
         replace p51:=eq_true p51
         replace q51:=eq_true q51
         obtain ⟨Ao62,co62,eo62⟩:=Kd.R_slice HO160.out
         (first|subst eo62|(injection eo62 with f1_ f2_ f3_;have f4_:=f1_.symm;have f5_:=f3_.symm;clear f1_ f2_ f3_;subst f4_;subst f5_))
         obtain ⟨_,_,hraw60,_,_,hcc60,_⟩:=Kd.H_raw HH58.out d13 (by have h_:(0:Int) < ((x135000_29.length:Int):Int):=od d1;first|exact h_|(have e_:=(HN58.out);omega)|simpa using h_)
         obtain ⟨_,hfr60⟩:=Kd.H_at HH58.out d13 (by have h_:(0:Int) < ((x135000_29.length:Int):Int):=od d1;first|exact h_|(have e_:=(HN58.out);omega)|simpa using h_)
         have hx60_0:=hcc60 0 _ rfl
         have hf60_0:=hfr60 0
         (try simp only [Nat.add_zero] at hx60_0 hf60_0)
         (try rw [show ((Kd.slice 5 (Kd.int .u8))).sz=1 from rfl,Nat.mul_one] at hx60_0)
         (try rw [show ((Kd.slice 5 (Kd.int .u8))).sz=1 from rfl,Nat.mul_one] at hf60_0)
         (try rw [show ((0:Int)).toNat=0 from rfl] at hx60_0)
         (try simp only [Nat.reduceMul,Nat.zero_mul,Nat.zero_add,Nat.reduceAdd] at hx60_0)
         (try rw [show ((0:Int)).toNat=0 from rfl] at hf60_0)
         (try simp only [Nat.reduceMul,Nat.zero_mul,Nat.zero_add,Nat.reduceAdd] at hf60_0)
         have HP60:=Kd.S_seg0 HH58.out d13 (by have h_:(0:Int) < ((x135000_29.length:Int):Int):=od d1;first|exact h_|(have e_:=(HN58.out);omega)|simpa using h_) (seg:=[.slice Ao62 y158.length co62]) (j:=0) (show 1≤1 from by decide) (x':=y158) (Kd.M_row HO160.out) (fun _ hk=>hk)
         (try simp only [show ((Kd.slice 5 (Kd.int .u8))).sz=1 from rfl,Nat.mul_one,Nat.add_zero] at HP60)
         clear hcc60 hfr60
         have HN0_go58:=am (show g ≠ go58 from by have h_:=IsS127.own_ne HI0.out hraw60 d9;intro e_;exact h_ (by rw [e_];rfl))
         have HNB133_go58:=am (show gb133 ≠ go58 from by have h_:=Kd.R_ne hraw60 BK133.out d9;intro e_;exact h_ (by rw [e_];rfl))
         have HNB134_go58:=am (show gb134 ≠ go58 from by have h_:=Kd.R_ne hraw60 BK134.out d9;intro e_;exact h_ (by rw [e_];rfl))
         have HS60:=HP60.1
         rw [← Ny161.out] at HS60
         have HQ60:=am HS60
         obtain ⟨_,hgg60⟩:=Kd.R_typed hraw60 go58 rfl
         have GG60_:=am hgg60
         clear HP60 HS60 hgg60
         refine hK.out _ _ ⟨yk BK134 0,HS1_⟩ (fun hHeld=>?_)
         clear hK K
         refine rN (a':=?_) ?_ ?_
         rotate_left
         ·show Act.put _ (some 53) _=_
          simp only [Act.put,q1,q2,q3,i64_w,i32_w]
          rfl
         refine rR ?_
         refine rL (N:=none) HT_ rfl rfl d12 d9 (fun K hK=>?_)
         refine skip_ (w1:=?_) d20 rfl ?_ ?_
         rotate_left
         ·go_simp
          rfl
         refine hK.out _ _ ?_
         clear hK K
         refine rD HT_ d12 ?_
         generalize hw_:(w59.setCell ⟨go58,0,none⟩ (.slice Ao62 y158.length co62))=w63
         replace HO_135000:Aside0 (Kd.S (Kd.slice 5 (Kd.int .u8)) 24 w63 w.heap.size (fun _=>True) (.slice (some ⟨go58,0,none⟩) x135000_29.length co55) y161):=⟨by rw [← hw_];exact yS HQ60⟩
         replace BK133:Aside0 (w63.heap[gb133]? = some (.cells #[.slice none 0 0] 27 (0,0))):=⟨by rw [← hw_];refine sB ?_;refine blk_far ?_ HNB133_go58.out _;exact yB BK133⟩
         replace BK134:Aside0 (w63.heap[gb134]? = some (.cells #[.slice (some ⟨go58,0,none⟩) x135000_29.length co55] 27 (0,0))):=⟨by rw [← hw_];refine sB ?_;refine blk_far ?_ HNB134_go58.out _;exact yB BK134⟩
         replace HK:Aside0 (KeepBut w w63 g none):=⟨by rw [← hw_];repeat (first|(with_reducible first|exact HK.out|apply KeepBut.set_|apply keep_drewN|apply keep_drew|apply keep_alloc|refine keep_far ?_ GB58.out _|refine keep_far ?_ GW133.out _|refine keep_far ?_ GW134.out _)|exact HK.out)⟩
         replace HB:Aside0 (Below w0.heap.size w0 w63):=⟨by rw [← hw_];repeat (first|(with_reducible first|exact HB.out|apply pa|apply pb|apply pd|refine pt ?_ (Nat.le_trans HL.out GB58.out)|refine pt ?_ (IsS127.ge HI0.out)|refine pt ?_ GE133.out|refine pt ?_ GE134.out)|exact HB.out)⟩
         replace HI0:Aside0 (IsS127 w0 w63 g s0_0 t155 t156):=⟨by rw [← hw_];repeat (first|(with_reducible first|exact HI0.out|apply IsS127.alloc|apply IsS127.drewN|apply IsS127.drew|apply IsS127.set_1|apply IsS127.set_2|refine IsS127.far ?_ HN0_go58.out _|refine IsS127.far ?_ NB0_133.out _|refine IsS127.far ?_ NB0_134.out _)|exact HI0.out)⟩
         clear hw_
         obtain ⟨hcz64_0,hfz64_0⟩:=yk1 BK134
         have hnb65:=NB133_0.out
         have hnc65:=NB0_133.out
         obtain ⟨hcz66_0,hfz66_0⟩:=yk1 BK133
         try go_wp2
         refine bodyPost_ret (results_cell_row rfl _ _ gb133 27 #[.slice (some ⟨go58,0,none⟩) x135000_29.length co55] (0,0) _ rfl d101 Try.underlying27 rfl d12) rfl ?_
         exact ⟨_,d2,by refine sS ?_;exact Kd.S_mono (Kd.S_far (p:=⟨gb133,0,none⟩) (Kd.S_types HO_135000.out BK133.out d9) (fun _ hk=>hk.2) (.slice (some ⟨go58,0,none⟩) x135000_29.length co55)) (fun _ hk=>trivial),d7,d8,d5⟩
        replace c48:=Bool.eq_false_iff.mpr c48
        subst c48
        replace H:=yn H
        simp only [Option.some.injEq,Prod.mk.injEq] at H
        obtain ⟨rfl,rfl,rfl⟩:=H
        have hnb67:=NB134_133.out
        have hnc67:=NB133_134.out
        have hnb68:=NB134_0.out
        have hnc68:=NB0_134.out
        obtain ⟨hcz69_0,hfz69_0⟩:=yk1 BK134
        obtain ⟨Ao70,co70,eo70⟩:=Kd.S_slice HO_135000.out
        subst eo70
        go_wp2_with (first|(go_at_call 101;(with_reducible refine (spec_l1Cur_one.calls g s0_0 x1001_17 x1002_17 40 false t155 t156 w0 _ d7 d8 A47.out).mono ?_);rintro e w71 ⟨rfl,hi,hb,hk⟩;replace HO_135000:=am (Kd.S_mono (Kd.S_keep (IsS127.apartS (show IsS127 w0 _ g s0_0 x1001_17 x1002_17 from by repeat (first|(with_reducible first|exact HI0.out|apply IsS127.alloc|apply IsS127.drewN|apply IsS127.drew|apply IsS127.set_1|apply IsS127.set_2|refine IsS127.far ?_ NB0_133.out _|refine IsS127.far ?_ NB0_134.out _)|exact HI0.out)) (yS HO_135000) d9) hk (fun _ h=>h.2)) (fun _ h=>h.1));replace BK133:=am (KeepBut.blk hk (g':=gb133) (o:=.cells #[.slice none 0 0] 27 (0,0)) (yB BK133) NB133_0.out d41);replace BK134:=am (KeepBut.blk hk (g':=gb134) (o:=.cells #[.slice Ao70 x135000_29.length co70] 27 (0,0)) (yB BK134) NB134_0.out d41);replace HK:=am (KeepBut.trans d5 hk (.inl rfl));replace HB:=am (hb);replace HI0:=am (hi);clear hb hk hi;obtain ⟨hcz72_0,hfz72_0⟩:=yk1 BK134;have hnb73:=NB133_0.out;have hnc73:=NB0_133.out;obtain ⟨hcz74_0,hfz74_0⟩:=yk1 BK133))
        refine bodyPost_ret (results_cell_row rfl _ _ gb133 27 #[.slice Ao70 x135000_29.length co70] (0,0) _ rfl d101 Try.underlying27 rfl d12) rfl ?_
        exact ⟨_,d2,by refine sS ?_;exact Kd.S_mono (Kd.S_far (p:=⟨gb133,0,none⟩) (Kd.S_types HO_135000.out BK133.out d9) (fun _ hk=>hk.2) (.slice Ao70 x135000_29.length co70)) (fun _ hk=>trivial),d7,d8,d5⟩
       rw [if_neg c46] at H
       have c46b0:decide (0 < (x135000_29.length:Int))=false:=decide_eq_false c46
       have c46b1:decide (0 < x135000_29.length)=false:=decide_eq_false d13
       clear c46
       simp only [Option.some.injEq,Prod.mk.injEq] at H
       obtain ⟨rfl,rfl,rfl⟩:=H
       have hnb75:=NB134_133.out
       have hnc75:=NB133_134.out
       have hnb76:=NB134_0.out
       have hnc76:=NB0_134.out
       obtain ⟨hcz77_0,hfz77_0⟩:=yk1 BK134
       obtain ⟨Ao78,co78,eo78⟩:=Kd.S_slice HO_135000.out
       subst eo78
       have hnb79:=NB133_0.out
       have hnc79:=NB0_133.out
       obtain ⟨hcz80_0,hfz80_0⟩:=yk1 BK133
       go_wp2
       refine bodyPost_ret (results_cell_row rfl _ _ gb133 27 #[.slice Ao78 x135000_29.length co78] (0,0) _ rfl d101 Try.underlying27 rfl d12) rfl ?_
       exact ⟨_,d2,by refine sS ?_;exact Kd.S_mono (Kd.S_far (p:=⟨gb133,0,none⟩) (Kd.S_types HO_135000.out BK133.out d9) (fun _ hk=>hk.2) (.slice Ao78 x135000_29.length co78)) (fun _ hk=>trivial),d7,d8,d5⟩
end Go.Proofs.Yteflgifmdojahaa.PFnCauchy
-- SQUEEZED
