import Derived.Test.YteflgifmdojahaaVFnMsrB
import Derived.Test.YteflgifmdojahaaPFnMsrx0
import Derived.Test.YteflgifmdojahaaPFnMsrx1
import Derived.Test.YteflgifmdojahaaPFnMsrx5
namespace Go.Proofs.Yteflgifmdojahaa.PFnMsr
open Go.RowKit Go.Proofs.YteflgifmdojahaaW.PrintWords Go.Proofs.YteflgifmdojahaaW.PrintLast Go.Proofs.YteflgifmdojahaaW.PrintMore Go.Proofs.Yteflgifmdojahaa.KitS
attribute [local go_sem] max2_int min2_int max_two min_two max_three min_three max_four min_four
set_option linter.unusedVariables false
set_option maxHeartbeats 8000000
set_option maxRecDepth 100000
set_option linter.unusedSimpArgs false
section
section
open Go.Proofs.Yteflgifmdojahaa.Gf Go.Proofs.Yteflgifmdojahaa.Kit Go.Proofs.Yteflgifmdojahaa.KitW Go.Proofs.Yteflgifmdojahaa.KitN
namespace SpecElim
theorem spec_l1Times.ev_l0:∀ (n o x y:Nat),y < 2 ^ n→n≤8→o < 256→x < 256 →
  Ev (fun k=>spec_l1Times.l0 k (o:Int) (x:Int) (y:Int)) ((T n o x y:Nat):Int)
 | 0,o,x,y,hy,_,ho,hx=>by
  refine Ev.step (fun k=>spec_l1Times.l0.eq_2 _ _ _ k) ?_
  have:y=0:=by simpa using hy
  subst this
  refine ev_neg D8 (ev_now ?_)
  simp only [T]
  omega
 | n+1,o,x,y,hy,hn,ho,hx=>by
  have hy8:y < 256:=Nat.lt_of_lt_of_le hy (Nat.pow_le_pow_right (n:=2) D8 hn)
  by_cases h0:y=0
  ·subst h0
   refine Ev.step (fun k=>spec_l1Times.l0.eq_2 _ _ _ k) ?_
   refine ev_neg D8 (ev_now ?_)
   rw [T_zero]
   omega
  refine Ev.step (fun k=>spec_l1Times.l0.eq_2 _ _ _ k) ?_
  refine ev_pos D11 ?_
  have e2:wrap64 ((x:Int)*2)=((2*x:Nat):Int):=by rw [wrap_id D11 D11];omega
  have e3:((y:Int) / 2)=((y / 2:Nat):Int):=by omega
  have e4:Go.bits .xor .i64 (o:Int) (x:Int)=((o ^^^ x:Nat):Int):=xor_i64 D11 D11
  have e5:Go.bits .xor .i64 ((2*x:Nat):Int) 283=((2*x ^^^ 283:Nat):Int):=xor_i64 (m:=2*x) (n:=283) D11 D11
  rw [and1_i64 D11,e2,e3,e4,e5]
  have hT:T (n+1) o x y=T n (if y % 2=1 then o ^^^ x else o) (xt x) (y / 2):=by rw [T]
  rw [hT]
  have hxt:=xt_lt hx
  have hox:=xor_lt ho hx
  have hh:y / 2 < 2 ^ n:=by rw [Nat.pow_succ] at hy;omega
  by_cases h1:y % 2=1
  ·rw [if_pos h1]
   refine ev_pos D11 ?_
   by_cases h2:2*x > 255
   ·refine ev_pos D11 ?_
    have:xt x=2*x ^^^ 283:=by unfold xt;rw [if_pos h2]
    rw [this] at hxt ⊢
    exact spec_l1Times.ev_l0 n _ _ _ hh D11 hox hxt
   refine ev_neg D11 ?_
   have:xt x=2*x:=by unfold xt;rw [if_neg h2]
   rw [this] at hxt ⊢
   exact spec_l1Times.ev_l0 n _ _ _ hh D11 hox hxt
  rw [if_neg h1]
  refine ev_neg D11 ?_
  by_cases h2:2*x > 255
  ·refine ev_pos D11 ?_
   have:xt x=2*x ^^^ 283:=by unfold xt;rw [if_pos h2]
   rw [this] at hxt ⊢
   exact spec_l1Times.ev_l0 n _ _ _ hh D11 ho hxt
  refine ev_neg D11 ?_
  have:xt x=2*x:=by unfold xt;rw [if_neg h2]
  rw [this] at hxt ⊢
  exact spec_l1Times.ev_l0 n _ _ _ hh D11 ho hxt
theorem spec_l1Times.ev {a b:Int} (ha:Byte a) (hb:Byte b):Ev (fun k=>spec_l1Times.f k a b) (mul a b):=by
 obtain ⟨m,hm,rfl⟩:=ha.nat
 obtain ⟨n,hn,rfl⟩:=hb.nat
 unfold spec_l1Times.f
 rw [wrap_id (i:=(m:Int)) D11 D11,wrap_id (i:=(n:Int)) D11 D11]
 have h:=spec_l1Times.ev_l0 8 0 m n hn (Nat.le_refl _) D8 hm
 exact ev_eq h (by unfold Gf.mul gm;simp)
theorem spec_l1Power.ev_l0 (a:Int) (ha:Byte a):∀ (n m:Nat),n < 4611686018427387904→Ev (fun k=>spec_l1Power.l0 k a (n:Int) (pow a m)) (pow a (m+n))
 | 0,m,_=>by
  refine Ev.step (fun k=>spec_l1Power.l0.eq_2 _ _ _ k) ?_
  exact ev_neg D11 (ev_now rfl)
 | n+1,m,hn=>by
  refine Ev.step (fun k=>spec_l1Power.l0.eq_2 _ _ _ k) ?_
  refine ev_pos D11 ?_
  refine ev_bind (spec_l1Times.ev (Byte.pow ha m) ha) ?_
  have e:wrap64 (((n+1:Nat):Int) - 1)=(n:Int):=by unfold wrap64;omega
  rw [e,← pow_succ]
  refine ev_eq (spec_l1Power.ev_l0 a ha n (m+1) D11) ?_
  rw [Nat.add_right_comm,Nat.add_assoc]
theorem spec_l1Power.ev {a:Int} (ha:Byte a) (n:Nat) (hn:n < 4611686018427387904):Ev (fun k=>spec_l1Power.f k a (n:Int)) (pow a n):=by
 unfold spec_l1Power.f
 have:=spec_l1Power.ev_l0 a ha n 0 hn
 rw [pow_zero,Nat.zero_add] at this
 exact this
theorem spec_l1Inverse.ev {a:Int} (ha:Byte a):Ev (fun k=>spec_l1Inverse.f k a) (inv a):=by
 unfold spec_l1Inverse.f
 by_cases h:a=0
 ·subst h
  exact ev_pos rfl (ev_now inv_zero.symm)
 exact ev_neg h (ev_bind (spec_l1Power.ev ha 254 D8) (ev_now (inv_pow a).symm))
theorem spec_l1Scale.ev_l0 (a:Int) (ha:Byte a) (v:List Int) (hv:Bytes v) (hs:v.length < 140737488355328):∀ (n i:Nat) (o:List Int),i+n=v.length→o=(scale a v).take i →
  Ev (fun k=>spec_l1Scale.l0 k a o v (v.length:Int) (i:Int)) (scale a v)
 | 0,i,o,hi,ho=>by
  refine Ev.step (fun k=>spec_l1Scale.l0.eq_2 _ _ _ _ _ k) ?_
  refine ev_neg D11 (ev_now ?_)
  subst ho
  rw [List.take_of_length_le (by rw [scale_length];omega)]
 | n+1,i,o,hi,ho=>by
  have hz:=scale_length a v
  have hlen:o.length=i:=by rw [ho,List.length_take,hz];omega
  refine Ev.step (fun k=>spec_l1Scale.l0.eq_2 _ _ _ _ _ k) ?_
  refine ev_pos D11 (ev_pos D11 (ev_pos D11 ?_))
  refine ev_bind (spec_l1Times.ev ha (bytes_rd hv D11)) ?_
  refine ev_pos D11 ?_
  rw [inc D11,rd_get D11]
  refine spec_l1Scale.ev_l0 a ha v hv hs n (i+1) _ D11 ?_
  rw [List.take_succ_eq_append_getElem D11,← ho]
  simp [scale]
theorem spec_l1Scale.ev {a:Int} (ha:Byte a) {v:List Int} (hv:Bytes v) (hs:v.length < 140737488355328):Ev (fun k=>spec_l1Scale.f k a v) (scale a v):=by
 unfold spec_l1Scale.f
 exact spec_l1Scale.ev_l0 a ha v hv hs v.length 0 [] D11 rfl
theorem spec_l1Add.ev_l0 (v w:List Int) (hv:Bytes v) (hw:Bytes w) (hl:v.length=w.length) (hs:v.length < 140737488355328):∀ (n i:Nat) (o:List Int),i+n=v.length→o=(addV v w).take i →
  Ev (fun k=>spec_l1Add.l0 k v w o (v.length:Int) (i:Int)) (addV v w)
 | 0,i,o,hi,ho=>by
  refine Ev.step (fun k=>spec_l1Add.l0.eq_2 _ _ _ _ _ k) ?_
  refine ev_neg D11 (ev_now ?_)
  subst ho
  rw [List.take_of_length_le (by rw [addV_length];omega)]
 | n+1,i,o,hi,ho=>by
  have hz:=addV_length v w
  have hlen:o.length=i:=by rw [ho,List.length_take,hz];omega
  refine Ev.step (fun k=>spec_l1Add.l0.eq_2 _ _ _ _ _ k) ?_
  refine ev_pos D11 (ev_pos D11 (ev_pos D11 (ev_pos D11 (ev_pos D11 ?_))))
  rw [inc D11,xor_u8 (bytes_rd hv D11) (bytes_rd hw D11),rd_get D11,rd_get D11]
  refine spec_l1Add.ev_l0 v w hv hw hl hs n (i+1) _ D11 ?_
  rw [List.take_succ_eq_append_getElem D11,← ho]
  simp [addV]
theorem spec_l1Add.ev {v w:List Int} (hv:Bytes v) (hw:Bytes w) (hl:v.length=w.length) (hs:v.length < 140737488355328):Ev (fun k=>spec_l1Add.f k v w) (addV v w):=by
 unfold spec_l1Add.f
 exact spec_l1Add.ev_l0 v w hv hw hl hs v.length 0 [] D11 rfl
theorem spec_l2Own.ev_l0 (l:List (List Int)) (hl:l.length≤1048576) (hr:∀ r ∈ l,r.length≤1048576):∀ (d i:Nat) (o:List (List Int)),i+d=l.length→o=l.take i→Ev (fun k=>spec_l2Own.l0 k l (l.length:Int) (i:Int) o) l
 | 0,i,o,hi,ho=>by
  refine Ev.step (fun k=>spec_l2Own.l0.eq_2 _ _ _ _ k) ?_
  refine ev_neg D11 (ev_now ?_)
  rw [ho,List.take_of_length_le D11]
 | d+1,i,o,hi,ho=>by
  have hol:o.length=i:=by rw [ho,List.length_take];omega
  have hrl:(l.getD i []).length≤1048576:=by
   rw [List.getD_eq_getElem?_getD,List.getElem?_eq_getElem (show i < l.length by omega)]
   exact hr _ (List.getElem_mem _)
  refine Ev.step (fun k=>spec_l2Own.l0.eq_2 _ _ _ _ k) ?_
  simp only [Option.bind_some]
  refine ev_pos D11 (ev_pos D11 (ev_pos D11 (ev_pos (show ([]:List Int).length+(l.getD i []).length < 140737488355328 by simp only [List.length_nil];omega) (ev_pos D11 ?_))))
  rw [inc D11]
  refine spec_l2Own.ev_l0 l hl hr d (i+1) _ D11 ?_
  rw [List.take_succ_eq_append_getElem (show i < l.length by omega),← ho,show l[i]' D11=l.getD i [] by rw [List.getD_eq_getElem?_getD,List.getElem?_eq_getElem (show i < l.length by omega)];rfl]
  rfl
theorem spec_l2Own.ev (l:List (List Int)) (hl:l.length≤1048576) (hr:∀ r ∈ l,r.length≤1048576):Ev (fun k=>spec_l2Own.f k l) l:=by
 unfold spec_l2Own.f
 exact spec_l2Own.ev_l0 l hl hr l.length 0 [] D11 rfl
end SpecElim
structure LR (w:World) (p4 p5 p7 p8 g1 c1 g2 c2 len m1 m2:Nat) (LA LB:List (List Int)) (wr:World):Prop where
 NA:Kd.N (Kd.slice 5 (Kd.int .u8)) 24 wr w.heap.size (fun b=>b ≠ g2∧b ≠ p4∧b ≠ p5∧w.heap.size≤b) (.slice (some ⟨g1,0,none⟩) len c1) LA
 NB:Kd.N (Kd.slice 5 (Kd.int .u8)) 24 wr w.heap.size (fun b=>b ≠ g1∧b ≠ p4∧b ≠ p5∧w.heap.size≤b) (.slice (some ⟨g2,0,none⟩) len c2) LB
 b4:wr.heap[p4]? = some (.cells #[.slice none 0 0] 27 (0,0))
 b5:wr.heap[p5]? = some (.cells #[.slice none 0 0] 27 (0,0))
 b7:wr.heap[p7]? = some (.cells #[.slice (some ⟨g1,0,none⟩) len c1] 27 (0,0))
 b8:wr.heap[p8]? = some (.cells #[.slice (some ⟨g2,0,none⟩) len c2] 27 (0,0))
 B:Below w.heap.size w wr
 lo:w.heap.size≤p4∧w.heap.size≤p5∧p4 ≠ p5
 allA:∀ r ∈ LA,okI m1 r
 allB:∀ r ∈ LB,okI m2 r
section
variable {w wr w1:World} {p4 p5 p7 p8 g1 c1 g2 c2 len m1 m2:Nat} {LA LB:List (List Int)}
theorem LR.below (h:LR w p4 p5 p7 p8 g1 c1 g2 c2 len m1 m2 LA LB wr) (hb:Below wr.heap.size wr w1):LR w p4 p5 p7 p8 g1 c1 g2 c2 len m1 m2 LA LB w1 :=
 ⟨Kd.N_below h.NA hb,Kd.N_below h.NB hb,qb h.b4 hb,qb h.b5 hb,qb h.b7 hb,qb h.b8 hb,pu h.B hb,h.lo,h.allA,h.allB⟩
theorem LR.ne (h:LR w p4 p5 p7 p8 g1 c1 g2 c2 len m1 m2 LA LB wr):g1 ≠ g2:=(h.NA.1 g1 D81).1
theorem LR.keyA (h:LR w p4 p5 p7 p8 g1 c1 g2 c2 len m1 m2 LA LB wr):wr.cell? ⟨p7,0,none⟩=some (.slice (some ⟨g1,0,none⟩) len c1):=(blk_cell h.b7 0).trans rfl
theorem LR.keyB (h:LR w p4 p5 p7 p8 g1 c1 g2 c2 len m1 m2 LA LB wr):wr.cell? ⟨p8,0,none⟩=some (.slice (some ⟨g2,0,none⟩) len c2):=(blk_cell h.b8 0).trans rfl
theorem LR.rowA (h:LR w p4 p5 p7 p8 g1 c1 g2 c2 len m1 m2 LA LB wr) (i:Nat) (hi:i < len) :
  ∃ r A c,LA.getD i []=r∧okI m1 r∧wr.cell? ⟨g1,i,none⟩=some (.slice A m1 c)∧m1≤c∧Kd.F (Kd.int .u8) wr (fun b=>b ≠ g1∧b ≠ g2∧b ≠ p4∧b ≠ p5∧w.heap.size≤b) A m1 r∧wr.frozen? ⟨g1,i,none⟩=false:=by
 obtain ⟨A,c,h1,h2,h3,h4⟩:=N_row h.NA i hi
 have hr:okI m1 (LA.getD i []):=RowK.at_all (O:=rowI) h.allA (by rw [← (N_len h.NA).1];exact hi)
 rw [hr.2] at h1 h2 h3
 exact ⟨_,A,c,rfl,hr,h1,h2,Kd.F_mono h3 (fun b hb=>⟨hb.2,hb.1⟩),h4⟩
theorem LR.rowB (h:LR w p4 p5 p7 p8 g1 c1 g2 c2 len m1 m2 LA LB wr) (i:Nat) (hi:i < len) :
  ∃ r A c,LB.getD i []=r∧okI m2 r∧wr.cell? ⟨g2,i,none⟩=some (.slice A m2 c)∧m2≤c∧Kd.F (Kd.int .u8) wr (fun b=>b ≠ g1∧b ≠ g2∧b ≠ p4∧b ≠ p5∧w.heap.size≤b) A m2 r∧wr.frozen? ⟨g2,i,none⟩=false:=by
 obtain ⟨A,c,h1,h2,h3,h4⟩:=N_row h.NB i hi
 have hr:okI m2 (LB.getD i []):=RowK.at_all (O:=rowI) h.allB (by rw [← (N_len h.NB).1];exact hi)
 rw [hr.2] at h1 h2 h3
 exact ⟨_,A,c,rfl,hr,h1,h2,Kd.F_mono h3 (fun b hb=>⟨hb.1.1,hb.2,hb.1.2⟩),h4⟩
theorem LR.putA (h:LR w p4 p5 p7 p8 g1 c1 g2 c2 len m1 m2 LA LB wr) (i:Nat) (hi:i < len) {A:Option Addr} {c:Nat} {x:List Int} (hx:okI m1 x) (hc:m1≤c) (hF:Kd.F (Kd.int .u8) wr (fun b=>b ≠ g1∧b ≠ g2∧b ≠ p4∧b ≠ p5∧w.heap.size≤b) A m1 x) :
  LR w p4 p5 p7 p8 g1 c1 g2 c2 len m1 m2 (LA.set i x) LB (wr.setCell ⟨g1,i,none⟩ (.slice A m1 c)):=by
 obtain ⟨h1,h2⟩:=N_put h.NA i hi (A:=A) (c:=c) (x:=x) (okp:=fun b=>b ≠ g1∧b ≠ g2∧b ≠ p4∧b ≠ p5∧w.heap.size≤b) (by rw [hx.2];exact hc) (by rw [hx.2];exact hF) (fun _ hk=>⟨hk.2,hk.1⟩)
 rw [hx.2] at h1 h2
 have n4:=Kd.N_ne h.NA h.b4 D8
 have n5:=Kd.N_ne h.NA h.b5 D8
 have n7:=Kd.N_ne h.NA h.b7 D8
 have n8:=Kd.N_ne h.NA h.b8 D8
 exact ⟨h1,Kd.N_grown h.NB h2 (fun k hk e=>hk.1 (by injection e)),blk_grown h.b4 h2 n4,blk_grown h.b5 h2 n5,blk_grown h.b7 h2 n7,blk_grown h.b8 h2 n8,pt h.B (Kd.N_base h.NA g1 D81),h.lo,el_set_all h.allA hx i,h.allB⟩
theorem LR.putB (h:LR w p4 p5 p7 p8 g1 c1 g2 c2 len m1 m2 LA LB wr) (i:Nat) (hi:i < len) {A:Option Addr} {c:Nat} {x:List Int} (hx:okI m2 x) (hc:m2≤c) (hF:Kd.F (Kd.int .u8) wr (fun b=>b ≠ g1∧b ≠ g2∧b ≠ p4∧b ≠ p5∧w.heap.size≤b) A m2 x) :
  LR w p4 p5 p7 p8 g1 c1 g2 c2 len m1 m2 LA (LB.set i x) (wr.setCell ⟨g2,i,none⟩ (.slice A m2 c)):=by
 obtain ⟨h1,h2⟩:=N_put h.NB i hi (A:=A) (c:=c) (x:=x) (okp:=fun b=>b ≠ g1∧b ≠ g2∧b ≠ p4∧b ≠ p5∧w.heap.size≤b) (by rw [hx.2];exact hc) (by rw [hx.2];exact hF) (fun _ hk=>⟨⟨hk.1,hk.2.2⟩,hk.2.1⟩)
 rw [hx.2] at h1 h2
 have n4:=Kd.N_ne h.NB h.b4 D8
 have n5:=Kd.N_ne h.NB h.b5 D8
 have n7:=Kd.N_ne h.NB h.b7 D8
 have n8:=Kd.N_ne h.NB h.b8 D8
 exact ⟨Kd.N_grown h.NA h2 (fun k hk e=>hk.1 (by injection e)),h1,blk_grown h.b4 h2 n4,blk_grown h.b5 h2 n5,blk_grown h.b7 h2 n7,blk_grown h.b8 h2 n8,pt h.B (Kd.N_base h.NB g2 D81),h.lo,h.allA,el_set_all h.allB hx i⟩
theorem LR.fresh (h:LR w p4 p5 p7 p8 g1 c1 g2 c2 len m1 m2 LA LB wr) {A:Option Addr} {n c:Nat} {x:List Int} (ho:Kd.R (Kd.int .u8) 5 w1 wr.heap.size (fun _=>True) (.slice A n c) x) :
  Kd.F (Kd.int .u8) w1 (fun b=>b ≠ g1∧b ≠ g2∧b ≠ p4∧b ≠ p5∧w.heap.size≤b) A n x:=by
 have h1:=Kd.N_lt h.NA g1 D81
 have h2:=Kd.N_lt h.NB g2 D81
 have h4:=blk_lt h.b4
 have h5:=blk_lt h.b5
 have hs:=h.B.size
 exact Kd.R_F (Kd.R_mono (Kd.R_bound ho) (fun b hk=>by have:=hk.2.1;omega))
end
set_option maxHeartbeats 16000000 in
theorem spec_l2Reduce.calls (A0:Option Addr) (c0:Nat) (l0:List (List Int)) (A1:Option Addr) (c1:Nat) (l1:List (List Int)) (m1 m2:Nat) (w:World) (hr0:Kd.C (Kd.slice 5 (Kd.int .u8)) w A0 l0.length l0) (hc0:l0.length≤c0) (hr1:Kd.C (Kd.slice 5 (Kd.int .u8)) w A1 l1.length l1) (hc1:l1.length≤c1)
  (h0:∀ r ∈ l0,okI m1 r) (h1:∀ r ∈ l1,okI m2 r) (hne:1≤l0.length) (hle:l0.length≤1000) (hll:l0.length=l1.length) (hm1:m1≤1000) (hm2:m2≤1000) :
  Calls Try.prog 148 #[.agg #[.slice A0 l0.length c0], .agg #[.slice A1 l1.length c1]] w fun e w'=>∃ (A0_:Option Addr) (n0_ c0_:Nat) (v1_:Value),e = .returned (.tuple #[.agg #[.slice A0_ n0_ c0_], .agg #[v1_], .int .i64 ((redP l0 l1 m1).2:Nat)]) ∧
   Kd.N (Kd.slice 5 (Kd.int .u8)) 24 w' w.heap.size (fun b=>w.heap.size≤b) v1_ ((redP l0 l1 m1).1.map Prod.snd)∧Below w.heap.size w w':=by
 obtain ⟨kA,hA⟩:=(SpecElim.spec_l2Own.ev l0 D11 (fun r hr=>by rw [(h0 r hr).2];omega)).rounds
 obtain ⟨kB,hB⟩:=(SpecElim.spec_l2Own.ev l1 D11 (fun r hr=>by rw [(h1 r hr).2];omega)).rounds
 obtain ⟨len,hlen⟩:∃ n,n=l0.length:=⟨_,rfl⟩
 have hlen1:len=l1.length:=by omega
 obtain ⟨L,hL⟩:∃ L,L=l0.zip l1:=⟨_,rfl⟩
 have HA:=am hA
 have HB1:=am hB
 have HLE:=am hlen
 have HLE1:=am hlen1
 have HL:=am hL
 have HLA:=am (show L.map Prod.fst=l0 by rw [hL];exact zip_fst hll)
 have HLB:=am (show L.map Prod.snd=l1 by rw [hL];exact zip_snd hll)
 have HOK:=am (show ∀ r ∈ L,okP m1 m2 r by rw [hL];exact zip_ok h0 h1)
 have HLL:=am (show L.length=len by rw [hL,List.length_zip,← hll,Nat.min_self,hlen])
 have HR0:=am hr0
 have HR1:=am hr1
 have HO0:=am h0
 have HO1:=am h1
 show Calls Try.prog 148 #[.agg #[.slice A0 l0.length c0], .agg #[.slice A1 l1.length c1]] w fun e w'=>∃ (A0_:Option Addr) (n0_ c0_:Nat) (v1_:Value),e = .returned (.tuple #[.agg #[.slice A0_ n0_ c0_], .agg #[v1_], .int .i64 ((rowP.red (l0.zip l1) m1).2:Nat)]) ∧
   Kd.N (Kd.slice 5 (Kd.int .u8)) 24 w' w.heap.size (fun b=>w.heap.size≤b) v1_ ((rowP.red (l0.zip l1) m1).1.map Prod.snd)∧Below w.heap.size w w'
 rw [← hL,← hlen,← hlen1]
 rw [← hlen] at hc0 hne hle
 rw [← hlen1] at hc1
 clear hA hB hlen hlen1 hL hr0 hr1 h0 h1 hll
 have hu:=Try.underlying27
 go_enter Try.func148,Try.ntmps148
 go_wp2_with fail
 obtain ⟨W0,hW0⟩:∃ W:World,W=((((w.alloc (.cells #[.slice A0 len c0] 27 (0,0))).alloc (.cells #[.slice A1 len c1] 27 (0,0))).alloc (.cells #[.slice none 0 0] 27 (0,0))).alloc (.cells #[.slice none 0 0] 27 (0,0))):=⟨_,rfl⟩
 have hB0:Below w.heap.size w W0:=by rw [hW0];exact pa (pa (pa (pa (Below.refl _ _) _) _) _) _
 have h3:W0.heap[w.heap.size+1]? = some (.cells #[.slice A1 len c1] 27 (0,0)):=by rw [hW0];exact qa (qa (by have z:=heap_alloc_new (w.alloc (.cells #[.slice A0 len c0] 27 (0,0))) (.cells #[.slice A1 len c1] 27 (0,0));simpa using z) _) _
 have h4:W0.heap[w.heap.size+1+1]? = some (.cells #[.slice none 0 0] 27 (0,0)):=by rw [hW0];exact qa (by have z:=heap_alloc_new ((w.alloc (.cells #[.slice A0 len c0] 27 (0,0))).alloc (.cells #[.slice A1 len c1] 27 (0,0))) (.cells #[.slice none 0 0] 27 (0,0));simpa using z) _
 have h5:W0.heap[w.heap.size+1+1+1]? = some (.cells #[.slice none 0 0] 27 (0,0)):=by rw [hW0];have z:=heap_alloc_new (((w.alloc (.cells #[.slice A0 len c0] 27 (0,0))).alloc (.cells #[.slice A1 len c1] 27 (0,0))).alloc (.cells #[.slice none 0 0] 27 (0,0))) (.cells #[.slice none 0 0] 27 (0,0));simpa using z
 rw [← hW0]
 clear hW0
 generalize hp5:w.heap.size+1+1+1=p5 at h5 ⊢
 generalize hp4:w.heap.size+1+1=p4 at h4 ⊢
 generalize hp3:w.heap.size+1=p3 at h3 ⊢
 have HP:=am (show w.heap.size≤p4∧w.heap.size≤p5∧p4 ≠ p5 by omega)
 have hA:=spec_l2Own.calls kA A0 c0 l0 l0 W0 (Kd.C_below HR0.out hB0) (by rw [← HLE.out];exact hc0) HA.out
 rw [← HLE.out] at hA
 refine hA.mono ?_
 clear hA hp3 hp4 hp5
 rintro e w1 ⟨va,rfl,hoA,hbA⟩
 obtain ⟨g1,cap1,ea,hg1,hg1l,_⟩:=Kd.S_form hoA (by rw [← HLE.out];exact hne)
 rw [← HLE.out] at ea
 subst ea
 have hB1:=pu hB0 hbA
 have hc3:∀ o,(w1.alloc o).cell? ⟨p3,0,none⟩=some (.slice A1 len c1):=fun o=>(blk_cell (qa (qb h3 hbA) o) 0).trans rfl
 go_wp2_with fail
 have hB2:Below w.heap.size w (w1.alloc (.cells #[.slice (some ⟨g1,0,none⟩) len cap1] 27 (0,0))):=pa hB1 _
 have h7:=heap_alloc_new w1 (.cells #[.slice (some ⟨g1,0,none⟩) len cap1] 27 (0,0))
 have hNA:=Kd.N_alloc (Kd.S_N (Kd.S_bound hoA)) (.cells #[.slice (some ⟨g1,0,none⟩) len cap1] 27 (0,0))
 have hz2:w1.heap.size≤(w1.alloc (.cells #[.slice (some ⟨g1,0,none⟩) len cap1] 27 (0,0))).heap.size:=(pa (Below.refl w1.heap.size w1) _).size
 have hz0:W0.heap.size≤w1.heap.size:=hbA.size
 have h42:=qa (qb h4 hbA) (.cells #[.slice (some ⟨g1,0,none⟩) len cap1] 27 (0,0))
 have h52:=qa (qb h5 hbA) (.cells #[.slice (some ⟨g1,0,none⟩) len cap1] 27 (0,0))
 have hl4:=blk_lt h4
 have hl5:=blk_lt h5
 have hR1:=Kd.C_below HR1.out hB2
 have hzw:=hB0.size
 clear hc3 h3 h4 h5 hbA hoA hB1 hB0
 generalize hp7:w1.heap.size=p7 at *
 generalize (w1.alloc (.cells #[.slice (some ⟨g1,0,none⟩) len cap1] 27 (0,0)))=w2 at *
 have hA:=spec_l2Own.calls kB A1 c1 l1 l1 w2 hR1 (by rw [← HLE1.out];exact hc1) HB1.out
 rw [← HLE1.out] at hA
 refine hA.mono ?_
 clear hA hR1
 rintro e w3 ⟨vb,rfl,hoB,hbB⟩
 obtain ⟨g2,cap2,eb,hg2,hg2l,_⟩:=Kd.S_form hoB (by rw [← HLE1.out];exact hne)
 rw [← HLE1.out] at eb
 subst eb
 have hLR:LR w p4 p5 p7 w3.heap.size g1 cap1 g2 cap2 len m1 m2 l0 l1 (w3.alloc (.cells #[.slice (some ⟨g2,0,none⟩) len cap2] 27 (0,0))):=by
  have hs2:=hbB.size
  have hs0:=hB2.size
  refine ⟨?_,?_,qa (qb h42 hbB) _,qa (qb h52 hbB) _,qa (qb h7 hbB) _,heap_alloc_new w3 _,pa (pu hB2 hbB) _,HP.out,HO0.out,HO1.out⟩
  ·exact Kd.N_lower (Kd.N_mono (Kd.N_alloc (Kd.N_below hNA hbB) _) (fun b hb=>by have:=hb.2.1;have:=hb.2.2.1;exact ⟨D11,D11,D11,D11⟩)) (by have:=HP.out;omega)
  exact Kd.N_lower (Kd.N_mono (Kd.N_alloc (Kd.S_N (Kd.S_bound hoB)) _) (fun b hb=>by have:=hb.2.1;exact ⟨D11,D11,D11,D11⟩)) hs0
 have HLR:=am hLR
 clear hLR hNA hoB hbB hB2 h7 h42 h52 hl4 hl5 hz2 hz0
 go_wp2_with fail
 generalize (w3.alloc (.cells #[.slice (some ⟨g2,0,none⟩) len cap2] 27 (0,0)))=W4 at HLR ⊢
 generalize w3.heap.size=p8 at HLR ⊢
 go_loopg [9,10] (m1+1) (fun fu v9 v10 wr=>∃ k:Nat,k≤m1∧m1 - k < fu∧v9 = .int .i64 ((rowP.red L k).2:Nat)∧v10 = .int .i64 k∧Aside0 (LR w p4 p5 p7 p8 g1 cap1 g2 cap2 len m1 m2 ((rowP.red L k).1.map Prod.fst) ((rowP.red L k).1.map Prod.snd) wr))
 case atStart=>exact ⟨0,Nat.zero_le _,D11,rfl,rfl,⟨by show LR w p4 p5 p7 p8 g1 cap1 g2 cap2 len m1 m2 (L.map Prod.fst) (L.map Prod.snd) W4;rw [HLA.out,HLB.out];exact HLR.out⟩⟩
 case round =>
  clear HLR
  obtain ⟨k,hk,hfu,rfl,rfl,HE⟩:=hrel
  obtain ⟨q,hq⟩:∃ q,q=rowP.red L k:=⟨_,rfl⟩
  rw [← hq] at HE ⊢
  have HQ:=am hq
  clear hq
  obtain ⟨L1,a⟩:=q
  have hlen1:L1.length=len:=by rw [show L1=(rowP.red L k).1 by rw [← HQ.out],RowK.red_length,HLL.out]
  have ha:a≤len:=by
   have h2:=(RowK.red_rank (O:=rowP) L k).2
   rw [← HQ.out,HLL.out] at h2
   exact h2
  replace HE:Aside0 (LR w p4 p5 p7 p8 g1 cap1 g2 cap2 len m1 m2 (L1.map Prod.fst) (L1.map Prod.snd) wr):=HE
  have hkA:=HE.out.keyA
  have hkB:=HE.out.keyB
  have h0l:0 < len:=by omega
  obtain ⟨_,A00,c00,_,_,hcell0,_,_,_⟩:=HE.out.rowA 0 h0l
  by_cases hkn:k < m1
  case neg =>
   have e:k=m1:=by omega
   subst e
   have hkz:¬ (k:Int) < (k:Int):=by omega
   have hdk:decide ((k:Int) < (k:Int))=false:=decide_eq_false hkz
   go_wp2_with fail
   replace HE:=am (HE.out.below (pd (Below.refl _ _)))
   have hkA:=HE.out.keyA
   have hkB:=HE.out.keyB
   have hk4:wr.drew.cell? ⟨p4,0,none⟩=some (.slice none 0 0):=(blk_cell HE.out.b4 0).trans rfl
   have hf4:=blk_frozen HE.out.b4 0
   have h47:p4 ≠ p7:=fun e=>by have z:=HE.out.b4;rw [e,HE.out.b7] at z;cases z
   have h48:p4 ≠ p8:=fun e=>by have z:=HE.out.b4;rw [e,HE.out.b8] at z;cases z
   have h45:=HE.out.lo.2.2
   refine start_ (n:=6) (S:=fun w'=>w'.cell? ⟨p7,0,none⟩=some (.slice (some ⟨g1,0,none⟩) len cap1)∧w'.cell? ⟨p8,0,none⟩=some (.slice (some ⟨g2,0,none⟩) len cap2)) (ds:=[4]) #[Z,Z,Z,Z,Z,Z] D5 rfl rfl ⟨hkA,hkB⟩ (fun hHeld=>?_)
   generalize wr.drew=wr at HE hHeld hk4 hf4 ⊢
   refine take_ (i:=0) (N:=some 166) (v:=?_) (a':=?_) #[Y,Z,Z,Z,Z,Z] rfl rfl D5 hh (Or.inl ⟨D15,?_⟩) hHeld ?_ ?_
   rotate_left
   ·rintro w' ⟨s0,s1⟩
    go_simp
    with_reducible rfl
   rotate_left
   ·simp only [Act.put,q1,q2,q3,i64_w,i32_w]
    rfl
   refine take_ (i:=1) (N:=some 167) (v:=?_) (a':=?_) #[Y,Y,Z,Z,Z,Z] rfl rfl D5 hh (Or.inl ⟨D15,?_⟩) hHeld ?_ ?_
   rotate_left
   ·rintro w' ⟨s0,s1⟩
    go_simp
    with_reducible rfl
   rotate_left
   ·simp only [Act.put,q1,q2,q3,i64_w,i32_w]
    rfl
   refine pure_ (i:=2) (N:=some 168) (v:=_) (a':=_) #[Y,Y,Y,Z,Z,Z] rfl rfl D5 hh (Or.inl ⟨D15,nP⟩) nQ ?_
   have hc7:=(World.cell?_setCell_far wr ⟨p4,0,none⟩ ⟨p7,0,none⟩ (.slice (some ⟨g1,0,none⟩) len cap1) h47).trans hHeld.1
   have hc8:=(World.cell?_setCell_far wr ⟨p4,0,none⟩ ⟨p8,0,none⟩ (.slice (some ⟨g1,0,none⟩) len cap1) h48).trans hHeld.2
   have hb4:=blk_put HE.out.b4 0 (.slice (some ⟨g1,0,none⟩) len cap1) rfl
   have hb5:=blk_far HE.out.b5 (p:=⟨p4,0,none⟩) (fun e=>h45 e.symm) (.slice (some ⟨g1,0,none⟩) len cap1)
   have hNB:=Kd.N_far HE.out.NB (p:=⟨p4,0,none⟩) (fun k hk=>hk.2.1) (.slice (some ⟨g1,0,none⟩) len cap1)
   have hBB:=pt (j:=0) (v:=.slice (some ⟨g1,0,none⟩) len cap1) HE.out.B HE.out.lo.1
   refine one_ (i:=3) (N:=none) #[Y,Y,Y,Y,Z,Z] rfl rfl D5 D8 (fun K hK=>?_)
   refine skip_ (w1:=?_) D15 rfl ?_ ?_
   rotate_left
   ·go_simp
    rfl
   refine hK.out _ _ ⟨hc7,hc8⟩ (fun hHeld=>?_)
   clear hK K hk4 hf4 hc7 hc8
   have hlo5:=HE.out.lo.2.1
   clear HE
   generalize wr.setCell ⟨p4,0,none⟩ (.slice (some ⟨g1,0,none⟩) len cap1)=wr at hb4 hb5 hNB hBB hHeld ⊢
   have hk5:wr.cell? ⟨p5,0,none⟩=some (.slice none 0 0):=(blk_cell hb5 0).trans rfl
   have hf5:=blk_frozen hb5 0
   refine last_ (i:=4) (N:=none) #[Y,Y,Y,Y,Y,Z] rfl rfl D5 D8 (fun K hK=>?_)
   refine skip_ (w1:=?_) D15 rfl ?_ ?_
   rotate_left
   ·go_simp
    rfl
   refine hK.out _ _ ?_
   clear hK K
   have hN2:=Kd.N_far hNB (p:=⟨p5,0,none⟩) (fun k hk=>hk.2.2.1) (.slice (some ⟨g2,0,none⟩) len cap2)
   have hB2:=pt (j:=0) (v:=.slice (some ⟨g2,0,none⟩) len cap2) hBB hlo5
   have h4:=blk_far hb4 (p:=⟨p5,0,none⟩) h45 (.slice (some ⟨g2,0,none⟩) len cap2)
   have h5:=blk_put hb5 0 (.slice (some ⟨g2,0,none⟩) len cap2) rfl
   clear hk5 hf5 hb4 hb5 hNB hBB hHeld
   generalize wr.setCell ⟨p5,0,none⟩ (.slice (some ⟨g2,0,none⟩) len cap2)=wr at hN2 hB2 h4 h5 ⊢
   have HNF:=am (Kd.N_mono hN2 (ok':=fun b=>w.heap.size≤b) (fun _ hk=>hk.2.2.2))
   have HBF:=am hB2
   clear hN2 hB2
   refine pure_ (i:=5) (N:=some 6) (v:=_) (a':=_) #[Y,Y,Y,Y,Y,Y] rfl rfl D5 hh (Or.inl ⟨D15,nP⟩) nQ ?_
   refine done_ D5 ?_
   go_wp2_with fail
   (try simp only [Exit.inBlock,Exit.then])
   refine bodyPost_ret (results_cct rfl _ _ p4 p5 27 27 #[.slice (some ⟨g1,0,none⟩) len cap1] #[.slice (some ⟨g2,0,none⟩) len cap2] (0,0) (0,0) _ _ rfl h4 hu rfl D5 rfl h5 hu rfl D5) rfl ?_
   rw [← HQ.out]
   exact ⟨_,_,_,_,rfl,HNF.out,HBF.out⟩
  have hkz:(k:Int) < (m1:Int):=by omega
  have hdk:decide ((k:Int) < (m1:Int))=true:=decide_eq_true hkz
  by_cases hal:a < len
  case neg =>
   have e:a=len:=by omega
   subst e
   have haz:¬ (a:Int) < (a:Int):=by omega
   have hda:decide ((a:Int) < (a:Int))=false:=decide_eq_false haz
   go_wp2_with fail
   replace HE:=am (HE.out.below (pd (Below.refl _ _)))
   have hkA:=HE.out.keyA
   have hkB:=HE.out.keyB
   have hk4:wr.drew.cell? ⟨p4,0,none⟩=some (.slice none 0 0):=(blk_cell HE.out.b4 0).trans rfl
   have hf4:=blk_frozen HE.out.b4 0
   have h47:p4 ≠ p7:=fun e=>by have z:=HE.out.b4;rw [e,HE.out.b7] at z;cases z
   have h48:p4 ≠ p8:=fun e=>by have z:=HE.out.b4;rw [e,HE.out.b8] at z;cases z
   have h45:=HE.out.lo.2.2
   refine start_ (n:=6) (S:=fun w'=>w'.cell? ⟨p7,0,none⟩=some (.slice (some ⟨g1,0,none⟩) a cap1)∧w'.cell? ⟨p8,0,none⟩=some (.slice (some ⟨g2,0,none⟩) a cap2)) (ds:=[4]) #[Z,Z,Z,Z,Z,Z] D5 rfl rfl ⟨hkA,hkB⟩ (fun hHeld=>?_)
   generalize wr.drew=wr at HE hHeld hk4 hf4 ⊢
   refine take_ (i:=0) (N:=some 166) (v:=?_) (a':=?_) #[Y,Z,Z,Z,Z,Z] rfl rfl D5 hh (Or.inl ⟨D15,?_⟩) hHeld ?_ ?_
   rotate_left
   ·rintro w' ⟨s0,s1⟩
    go_simp
    with_reducible rfl
   rotate_left
   ·simp only [Act.put,q1,q2,q3,i64_w,i32_w]
    rfl
   refine take_ (i:=1) (N:=some 167) (v:=?_) (a':=?_) #[Y,Y,Z,Z,Z,Z] rfl rfl D5 hh (Or.inl ⟨D15,?_⟩) hHeld ?_ ?_
   rotate_left
   ·rintro w' ⟨s0,s1⟩
    go_simp
    with_reducible rfl
   rotate_left
   ·simp only [Act.put,q1,q2,q3,i64_w,i32_w]
    rfl
   refine pure_ (i:=2) (N:=some 168) (v:=_) (a':=_) #[Y,Y,Y,Z,Z,Z] rfl rfl D5 hh (Or.inl ⟨D15,nP⟩) nQ ?_
   have hc7:=(World.cell?_setCell_far wr ⟨p4,0,none⟩ ⟨p7,0,none⟩ (.slice (some ⟨g1,0,none⟩) a cap1) h47).trans hHeld.1
   have hc8:=(World.cell?_setCell_far wr ⟨p4,0,none⟩ ⟨p8,0,none⟩ (.slice (some ⟨g1,0,none⟩) a cap1) h48).trans hHeld.2
   have hb4:=blk_put HE.out.b4 0 (.slice (some ⟨g1,0,none⟩) a cap1) rfl
   have hb5:=blk_far HE.out.b5 (p:=⟨p4,0,none⟩) (fun e=>h45 e.symm) (.slice (some ⟨g1,0,none⟩) a cap1)
   have hNB:=Kd.N_far HE.out.NB (p:=⟨p4,0,none⟩) (fun k hk=>hk.2.1) (.slice (some ⟨g1,0,none⟩) a cap1)
   have hBB:=pt (j:=0) (v:=.slice (some ⟨g1,0,none⟩) a cap1) HE.out.B HE.out.lo.1
   refine one_ (i:=3) (N:=none) #[Y,Y,Y,Y,Z,Z] rfl rfl D5 D8 (fun K hK=>?_)
   refine skip_ (w1:=?_) D15 rfl ?_ ?_
   rotate_left
   ·go_simp
    rfl
   refine hK.out _ _ ⟨hc7,hc8⟩ (fun hHeld=>?_)
   clear hK K hk4 hf4 hc7 hc8
   have hlo5:=HE.out.lo.2.1
   clear HE
   generalize wr.setCell ⟨p4,0,none⟩ (.slice (some ⟨g1,0,none⟩) a cap1)=wr at hb4 hb5 hNB hBB hHeld ⊢
   have hk5:wr.cell? ⟨p5,0,none⟩=some (.slice none 0 0):=(blk_cell hb5 0).trans rfl
   have hf5:=blk_frozen hb5 0
   refine last_ (i:=4) (N:=none) #[Y,Y,Y,Y,Y,Z] rfl rfl D5 D8 (fun K hK=>?_)
   refine skip_ (w1:=?_) D15 rfl ?_ ?_
   rotate_left
   ·go_simp
    rfl
   refine hK.out _ _ ?_
   clear hK K
   have hN2:=Kd.N_far hNB (p:=⟨p5,0,none⟩) (fun k hk=>hk.2.2.1) (.slice (some ⟨g2,0,none⟩) a cap2)
   have hB2:=pt (j:=0) (v:=.slice (some ⟨g2,0,none⟩) a cap2) hBB hlo5
   have h4:=blk_far hb4 (p:=⟨p5,0,none⟩) h45 (.slice (some ⟨g2,0,none⟩) a cap2)
   have h5:=blk_put hb5 0 (.slice (some ⟨g2,0,none⟩) a cap2) rfl
   clear hk5 hf5 hb4 hb5 hNB hBB hHeld
   generalize wr.setCell ⟨p5,0,none⟩ (.slice (some ⟨g2,0,none⟩) a cap2)=wr at hN2 hB2 h4 h5 ⊢
   have HNF:=am (Kd.N_mono hN2 (ok':=fun b=>w.heap.size≤b) (fun _ hk=>hk.2.2.2))
   have HBF:=am hB2
   clear hN2 hB2
   refine pure_ (i:=5) (N:=some 6) (v:=_) (a':=_) #[Y,Y,Y,Y,Y,Y] rfl rfl D5 hh (Or.inl ⟨D15,nP⟩) nQ ?_
   refine done_ D5 ?_
   go_wp2_with fail
   (try simp only [Exit.inBlock,Exit.then])
   refine bodyPost_ret (results_cct rfl _ _ p4 p5 27 27 #[.slice (some ⟨g1,0,none⟩) a cap1] #[.slice (some ⟨g2,0,none⟩) a cap2] (0,0) (0,0) _ _ rfl h4 hu rfl D5 rfl h5 hu rfl D5) rfl ?_
   have hf:(rowP.red L k).2=L.length:=by rw [← HQ.out,HLL.out]
   have e2:=RowK.red_full hf (m1 - k)
   rw [show k+(m1 - k)=m1 by omega] at e2
   rw [e2,← HQ.out]
   exact ⟨_,_,_,_,rfl,HNF.out,HBF.out⟩
  have haz:(a:Int) < (len:Int):=by omega
  have hda:decide ((a:Int) < (len:Int))=true:=decide_eq_true haz
  go_wp2_with fail
  go_loopg [11] (len+1) (fun fu v11 wr=>∃ p:Nat,a≤p∧p≤len∧len - p < fu∧v11 = .int .i64 p∧Aside0 (∀ i,a≤i→i < p→((L1.map Prod.fst).getD i []).getD k 0=0)∧Aside0 (LR w p4 p5 p7 p8 g1 cap1 g2 cap2 len m1 m2 (L1.map Prod.fst) (L1.map Prod.snd) wr))
  case atStart=>exact ⟨a,Nat.le_refl _,ha,D11,rfl,⟨fun i h1 h2=>by omega⟩,HE⟩
  case round =>
   clear HE hkA hkB hcell0
   obtain ⟨p,hap,hp,hfp,rfl,HZ,HE⟩:=hrel
   have hkA:=HE.out.keyA
   have hkB:=HE.out.keyB
   by_cases hpl:p < len
   case neg =>
    have e:p=len:=by omega
    subst e
    have hpz:¬ (p:Int) < (p:Int):=by omega
    have hdp:decide ((p:Int) < (p:Int))=false:=decide_eq_false hpz
    have HS:=am (rp_none HQ.out HLL.out hal hlen1 HZ.out)
    go_wp2_with fail
    go_roundg (m1 - k)
    case measure=>omega
    case rel=>exact ⟨k+1,D11,D11,by rw [HS.out],by go_num,⟨by rw [HS.out];exact HE.out⟩⟩
   have hpz:(p:Int) < (len:Int):=by omega
   have hdp:decide ((p:Int) < (len:Int))=true:=decide_eq_true hpz
   obtain ⟨r1,A1,c1,hr1,hok1,hcell1,hle1,hF1,hfr1⟩:=HE.out.rowA p hpl
   obtain ⟨ad1,rfl,hbyte⟩:=F_m hF1 hok1.2 k hkn
   obtain ⟨y,hy⟩:∃ y,y=r1.getD k 0:=⟨_,rfl⟩
   rw [← hy] at hbyte
   have HY:=am hy
   have HR1E:=am hr1
   clear hy
   by_cases hy0:y=0
   case pos =>
    have HZ2:=am (show ∀ i,a≤i→i < p+1→((L1.map Prod.fst).getD i []).getD k 0=0 from fun i h1 h2=>by
     by_cases e:i=p
     ·subst e;rw [hr1,← HY.out];exact hy0
     exact HZ.out i h1 D11)
    clear hr1 HR1E HY hF1
    subst hy0
    go_wp2_with fail
    go_roundg (len - p)
    case measure=>omega
    case rel=>exact ⟨p+1,D11,D11,D11,by go_num,HZ2,HE⟩
   have hb2:(y == 0)=false:=by simpa using hy0
   have hne:¬ (p:Int)=(len:Int):=by omega
   have hdne:((p:Int) == (len:Int))=false:=by simpa using hne
   have HS:=am (rp_some HQ.out HLL.out hal hlen1 hap hpl (by rw [hr1,← HY.out];exact hy0) HZ.out)
   obtain ⟨s1,B1,d1,hs1,hokb1,hcellb1,hleb1,hFb1,hfrb1⟩:=HE.out.rowB p hpl
   clear hr1
   have hyb:Byte y:=by rw [HY.out];exact bytes_getD hok1.1 k
   have hyi:=hyb.inv
   obtain ⟨kI,hI⟩:=(SpecElim.spec_l1Inverse.ev hyb).rounds
   obtain ⟨kHSA,hSA⟩:=(SpecElim.spec_l1Scale.ev hyi hok1.1 (by rw [hok1.2];omega)).rounds
   obtain ⟨kHSB,hSB⟩:=(SpecElim.spec_l1Scale.ev hyi hokb1.1 (by rw [hokb1.2];omega)).rounds
   have HI:=am hI
   have HSA:=am hSA
   have HSB:=am hSB
   have HS1:=am hs1
   have HF1:=am hF1
   have HFb1:=am hFb1
   have hkz2:(k:Int) < (m1:Int):=hkz
   clear hI hSA hSB hs1 hF1 hFb1
   go_wp2_with fail
   clear hcell1 hbyte hcellb1 hkA hkB
   replace HE:=am (HE.out.below (pd (Below.refl _ _)))
   have hk0:=HE.out.keyA
   obtain ⟨ra,A9,c9,hra,hok9,hcell9,hle9,hF9,_⟩:=HE.out.rowA a hal
   obtain ⟨_,_,_,_,_,hcellp,_,_,hfrp⟩:=HE.out.rowA p hpl
   refine start_ (n:=10) (S:=fun w'=>w'.cell? ⟨p7,0,none⟩=some (.slice (some ⟨g1,0,none⟩) len cap1)∧w'.cell? ⟨g1,a,none⟩=some (.slice A9 m1 c9)) (ds:=[9]) #[Z,Z,Z,Z,Z,Z,Z,Z,Z,Z] D5 rfl rfl ⟨hk0,hcell9⟩ (fun hHeld=>?_)
   replace HF1:=am (Kd.F_drew HF1.out)
   replace HFb1:=am (Kd.F_drew HFb1.out)
   generalize wr.drew=wr at HE HF1 HFb1 hHeld hF9 hcellp hfrp ⊢
   clear hk0 hcell9
   refine pure_ (i:=0) (N:=some 71) (v:=_) (a':=_) #[Y,Z,Z,Z,Z,Z,Z,Z,Z,Z] rfl rfl D5 hh (Or.inl ⟨D15,nP⟩) nQ ?_
   refine take_ (i:=1) (N:=some 72) (v:=?_) (a':=?_) #[Y,Y,Z,Z,Z,Z,Z,Z,Z,Z] rfl rfl D5 hh (Or.inl ⟨D15,?_⟩) hHeld ?_ ?_
   rotate_left
   ·rintro w' ⟨s0,s1⟩
    go_simp
    with_reducible rfl
   rotate_left
   ·simp only [Act.put,q1,q2,q3,i64_w,i32_w]
    rfl
   refine pure_ (i:=2) (N:=some 73) (v:=_) (a':=_) #[Y,Y,Y,Z,Z,Z,Z,Z,Z,Z] rfl rfl D5 hh (Or.inl ⟨D15,nP⟩) nQ ?_
   refine pure_ (i:=3) (N:=some 74) (v:=_) (a':=_) #[Y,Y,Y,Y,Z,Z,Z,Z,Z,Z] rfl rfl D5 hh (Or.inl ⟨D15,nP⟩) nQ ?_
   refine take_ (i:=4) (N:=some 75) (v:=?_) (a':=?_) #[Y,Y,Y,Y,Y,Z,Z,Z,Z,Z] rfl rfl D5 hh (Or.inl ⟨D15,?_⟩) hHeld ?_ ?_
   rotate_left
   ·rintro w' ⟨s0,s1⟩
    go_simp
    with_reducible rfl
   rotate_left
   ·simp only [Act.put,q1,q2,q3,i64_w,i32_w]
    rfl
   refine pure_ (i:=5) (N:=some 76) (v:=_) (a':=_) #[Y,Y,Y,Y,Y,Y,Z,Z,Z,Z] rfl rfl D5 hh (Or.inl ⟨D15,nP⟩) nQ ?_
   refine pure_ (i:=6) (N:=some 77) (v:=_) (a':=_) #[Y,Y,Y,Y,Y,Y,Y,Z,Z,Z] rfl rfl D5 hh (Or.inl ⟨D15,nP⟩) nQ ?_
   refine take_ (i:=7) (N:=some 78) (v:=?_) (a':=?_) #[Y,Y,Y,Y,Y,Y,Y,Y,Z,Z] rfl rfl D5 hh (Or.inl ⟨D15,?_⟩) hHeld ?_ ?_
   rotate_left
   ·rintro w' ⟨s0,s1⟩
    go_simp
    with_reducible rfl
   rotate_left
   ·simp only [Act.put,q1,q2,q3,i64_w,i32_w]
    rfl
   refine pure_ (i:=8) (N:=some 79) (v:=_) (a':=_) #[Y,Y,Y,Y,Y,Y,Y,Y,Y,Z] rfl rfl D5 hh (Or.inl ⟨D15,nP⟩) nQ ?_
   refine last_ (i:=9) (N:=none) #[Y,Y,Y,Y,Y,Y,Y,Y,Y,Y] rfl rfl D5 D8 (fun K hK=>?_)
   refine skip_ (w1:=?_) D15 rfl ?_ ?_
   rotate_left
   ·go_simp
    rfl
   refine hK.out _ _ ?_
   clear hK K
   refine done_ D5 ?_
   have hE1:=HE.out.putA p hpl hok9 hle9 hF9
   replace HF1:=am (Kd.F_far HF1.out (p:=⟨g1,p,none⟩) (fun k hk=>hk.1) (.slice A9 m1 c9))
   replace HFb1:=am (Kd.F_far HFb1.out (p:=⟨g1,p,none⟩) (fun k hk=>hk.1) (.slice A9 m1 c9))
   clear HE hHeld hF9 hcellp hfrp hok9 hle9
   generalize wr.setCell ⟨g1,p,none⟩ (.slice A9 m1 c9)=wr at hE1 HF1 HFb1 ⊢
   have HE:=am hE1
   clear hE1
   go_wp2_with fail
   replace HE:=am (HE.out.below (pd (Below.refl _ _)))
   have hk0:=HE.out.keyB
   obtain ⟨sa,A9,c9,hsa,hok9,hcell9,hle9,hF9,_⟩:=HE.out.rowB a hal
   obtain ⟨_,_,_,_,_,hcellp,_,_,hfrp⟩:=HE.out.rowB p hpl
   refine start_ (n:=10) (S:=fun w'=>w'.cell? ⟨p8,0,none⟩=some (.slice (some ⟨g2,0,none⟩) len cap2)∧w'.cell? ⟨g2,a,none⟩=some (.slice A9 m2 c9)) (ds:=[9]) #[Z,Z,Z,Z,Z,Z,Z,Z,Z,Z] D5 rfl rfl ⟨hk0,hcell9⟩ (fun hHeld=>?_)
   replace HF1:=am (Kd.F_drew HF1.out)
   replace HFb1:=am (Kd.F_drew HFb1.out)
   generalize wr.drew=wr at HE HF1 HFb1 hHeld hF9 hcellp hfrp ⊢
   clear hk0 hcell9
   refine pure_ (i:=0) (N:=some 80) (v:=_) (a':=_) #[Y,Z,Z,Z,Z,Z,Z,Z,Z,Z] rfl rfl D5 hh (Or.inl ⟨D15,nP⟩) nQ ?_
   refine take_ (i:=1) (N:=some 81) (v:=?_) (a':=?_) #[Y,Y,Z,Z,Z,Z,Z,Z,Z,Z] rfl rfl D5 hh (Or.inl ⟨D15,?_⟩) hHeld ?_ ?_
   rotate_left
   ·rintro w' ⟨s0,s1⟩
    go_simp
    with_reducible rfl
   rotate_left
   ·simp only [Act.put,q1,q2,q3,i64_w,i32_w]
    rfl
   refine pure_ (i:=2) (N:=some 82) (v:=_) (a':=_) #[Y,Y,Y,Z,Z,Z,Z,Z,Z,Z] rfl rfl D5 hh (Or.inl ⟨D15,nP⟩) nQ ?_
   refine pure_ (i:=3) (N:=some 83) (v:=_) (a':=_) #[Y,Y,Y,Y,Z,Z,Z,Z,Z,Z] rfl rfl D5 hh (Or.inl ⟨D15,nP⟩) nQ ?_
   refine take_ (i:=4) (N:=some 84) (v:=?_) (a':=?_) #[Y,Y,Y,Y,Y,Z,Z,Z,Z,Z] rfl rfl D5 hh (Or.inl ⟨D15,?_⟩) hHeld ?_ ?_
   rotate_left
   ·rintro w' ⟨s0,s1⟩
    go_simp
    with_reducible rfl
   rotate_left
   ·simp only [Act.put,q1,q2,q3,i64_w,i32_w]
    rfl
   refine pure_ (i:=5) (N:=some 85) (v:=_) (a':=_) #[Y,Y,Y,Y,Y,Y,Z,Z,Z,Z] rfl rfl D5 hh (Or.inl ⟨D15,nP⟩) nQ ?_
   refine pure_ (i:=6) (N:=some 86) (v:=_) (a':=_) #[Y,Y,Y,Y,Y,Y,Y,Z,Z,Z] rfl rfl D5 hh (Or.inl ⟨D15,nP⟩) nQ ?_
   refine take_ (i:=7) (N:=some 87) (v:=?_) (a':=?_) #[Y,Y,Y,Y,Y,Y,Y,Y,Z,Z] rfl rfl D5 hh (Or.inl ⟨D15,?_⟩) hHeld ?_ ?_
   rotate_left
   ·rintro w' ⟨s0,s1⟩
    go_simp
    with_reducible rfl
   rotate_left
   ·simp only [Act.put,q1,q2,q3,i64_w,i32_w]
    rfl
   refine pure_ (i:=8) (N:=some 88) (v:=_) (a':=_) #[Y,Y,Y,Y,Y,Y,Y,Y,Y,Z] rfl rfl D5 hh (Or.inl ⟨D15,nP⟩) nQ ?_
   refine last_ (i:=9) (N:=none) #[Y,Y,Y,Y,Y,Y,Y,Y,Y,Y] rfl rfl D5 D8 (fun K hK=>?_)
   refine skip_ (w1:=?_) D15 rfl ?_ ?_
   rotate_left
   ·go_simp
    rfl
   refine hK.out _ _ ?_
   clear hK K
   refine done_ D5 ?_
   have hE1:=HE.out.putB p hpl hok9 hle9 hF9
   replace HF1:=am (Kd.F_far HF1.out (p:=⟨g2,p,none⟩) (fun k hk=>hk.2.1) (.slice A9 m2 c9))
   replace HFb1:=am (Kd.F_far HFb1.out (p:=⟨g2,p,none⟩) (fun k hk=>hk.2.1) (.slice A9 m2 c9))
   clear HE hHeld hF9 hcellp hfrp hok9 hle9
   generalize wr.setCell ⟨g2,p,none⟩ (.slice A9 m2 c9)=wr at hE1 HF1 HFb1 ⊢
   have HE:=am hE1
   clear hE1
   obtain ⟨ad1',e1,hbyte⟩:=F_m HF1.out hok1.2 k hkn
   injection e1 with e1
   subst e1
   rw [← HY.out] at hbyte
   go_wp2_with fail
   refine (spec_l1Inverse.calls kI y (inv y) _ HI.out).mono ?_
   rintro e w4 ⟨rfl,⟨q4,rfl⟩⟩
   clear hbyte
   replace HE:=am (HE.out.below (w1:=wr.drewN q4) (pb (Below.refl _ _) q4))
   replace HF1:=am (Kd.F_drewN HF1.out q4)
   replace HFb1:=am (Kd.F_drewN HFb1.out q4)
   generalize wr.drewN q4=wr at HE HF1 HFb1 ⊢
   go_wp2_with fail
   replace HE:=am (HE.out.below (pd (Below.refl _ _)))
   have hk0:=HE.out.keyA
   refine start_ (n:=8) (S:=fun w'=>w'.cell? ⟨p7,0,none⟩=some (.slice (some ⟨g1,0,none⟩) len cap1)) (ds:=[7]) #[Z,Z,Z,Z,Z,Z,Z,Z] D5 rfl rfl hk0 (fun hHeld=>?_)
   replace HF1:=am (Kd.F_drew HF1.out)
   replace HFb1:=am (Kd.F_drew HFb1.out)
   generalize wr.drew=wr at HE HF1 HFb1 hHeld ⊢
   clear hk0
   refine pure_ (i:=0) (N:=some 94) (v:=_) (a':=_) #[Y,Z,Z,Z,Z,Z,Z,Z] rfl rfl D5 hh (Or.inl ⟨D15,nP⟩) nQ ?_
   refine take_ (i:=1) (N:=some 95) (v:=?_) (a':=?_) #[Y,Y,Z,Z,Z,Z,Z,Z] rfl rfl D5 hh (Or.inl ⟨D15,?_⟩) hHeld ?_ ?_
   rotate_left
   ·rintro w' s0
    go_simp
    with_reducible rfl
   rotate_left
   ·simp only [Act.put,q1,q2,q3,i64_w,i32_w]
    rfl
   refine pure_ (i:=2) (N:=some 96) (v:=_) (a':=_) #[Y,Y,Y,Z,Z,Z,Z,Z] rfl rfl D5 hh (Or.inl ⟨D15,nP⟩) nQ ?_
   refine pure_ (i:=3) (N:=some 97) (v:=_) (a':=_) #[Y,Y,Y,Y,Z,Z,Z,Z] rfl rfl D5 hh (Or.inl ⟨D15,nP⟩) nQ ?_
   refine pure_ (i:=4) (N:=some 98) (v:=_) (a':=_) #[Y,Y,Y,Y,Y,Z,Z,Z] rfl rfl D5 hh (Or.inl ⟨D15,nP⟩) nQ ?_
   refine one_ (i:=5) (N:=some 99) #[Y,Y,Y,Y,Y,Y,Z,Z] rfl rfl D5 D8 (fun K hK=>?_)
   refine goes_ Try.func122 D5 rfl #[Value.int .u8 (inv y),Value.slice (some ad1) m1 c1] D15 rfl rfl D35 ?_
   have hS:=spec_l1Scale.calls kHSA (inv y) (some ad1) c1 r1 (scale (inv y) r1) wr (F_C HF1.out hok1.2) (by rw [hok1.2];exact hle1) HSA.out
   rw [hok1.2] at hS
   refine hS.mono ?_
   clear hS
   rintro e w5 ⟨v5,rfl,ho5,hb5⟩
   refine ⟨_,rfl,?_⟩
   obtain ⟨A5,c5,e5⟩:=Kd.R_slice ho5
   rw [scale_length,hok1.2] at e5
   subst e5
   have hle5:m1≤c5:=(Kd.R_reads' ho5).2.1
   have HF5:=am (HE.out.fresh ho5)
   replace HE:=am (HE.out.below hb5)
   replace hHeld:=pw_cell_below hb5 hHeld
   replace HFb1:=am (Kd.F_below HFb1.out hb5)
   clear ho5 hb5 HF1
   refine hK.out _ _ hHeld (fun hHeld=>?_)
   clear hK K
   refine norm_ (nA 99) ?_
   refine pure_ (i:=6) (N:=some 100) (v:=_) (a':=_) #[Y,Y,Y,Y,Y,Y,Y,Z] rfl rfl D5 hh (Or.inl ⟨D15,nP⟩) nQ ?_
   obtain ⟨_,_,_,_,_,hcell3,_,_,hfr3⟩:=HE.out.rowA a hal
   refine last_ (i:=7) (N:=none) #[Y,Y,Y,Y,Y,Y,Y,Y] rfl rfl D5 D8 (fun K hK=>?_)
   refine skip_ (w1:=?_) D15 rfl ?_ ?_
   rotate_left
   ·go_simp
    rfl
   refine hK.out _ _ ?_
   clear hK K
   refine done_ D5 ?_
   have hokx:=el_scale hyi hok1
   have hE1:=HE.out.putA a hal hokx hle5 HF5.out
   replace HFb1:=am (Kd.F_far HFb1.out (p:=⟨g1,a,none⟩) (fun k hk=>hk.1) (.slice A5 m1 c5))
   clear HE HF5 hcell3 hfr3 hHeld hokx
   generalize w5.setCell ⟨g1,a,none⟩ (.slice A5 m1 c5)=wr at hE1 HFb1 ⊢
   have HE:=am hE1
   clear hE1 hle5
   go_wp2_with fail
   replace HE:=am (HE.out.below (pd (Below.refl _ _)))
   have hk0:=HE.out.keyB
   refine start_ (n:=8) (S:=fun w'=>w'.cell? ⟨p8,0,none⟩=some (.slice (some ⟨g2,0,none⟩) len cap2)) (ds:=[7]) #[Z,Z,Z,Z,Z,Z,Z,Z] D5 rfl rfl hk0 (fun hHeld=>?_)
   replace HFb1:=am (Kd.F_drew HFb1.out)
   generalize wr.drew=wr at HE HFb1 hHeld ⊢
   clear hk0
   refine pure_ (i:=0) (N:=some 101) (v:=_) (a':=_) #[Y,Z,Z,Z,Z,Z,Z,Z] rfl rfl D5 hh (Or.inl ⟨D15,nP⟩) nQ ?_
   refine take_ (i:=1) (N:=some 102) (v:=?_) (a':=?_) #[Y,Y,Z,Z,Z,Z,Z,Z] rfl rfl D5 hh (Or.inl ⟨D15,?_⟩) hHeld ?_ ?_
   rotate_left
   ·rintro w' s0
    go_simp
    with_reducible rfl
   rotate_left
   ·simp only [Act.put,q1,q2,q3,i64_w,i32_w]
    rfl
   refine pure_ (i:=2) (N:=some 103) (v:=_) (a':=_) #[Y,Y,Y,Z,Z,Z,Z,Z] rfl rfl D5 hh (Or.inl ⟨D15,nP⟩) nQ ?_
   refine pure_ (i:=3) (N:=some 104) (v:=_) (a':=_) #[Y,Y,Y,Y,Z,Z,Z,Z] rfl rfl D5 hh (Or.inl ⟨D15,nP⟩) nQ ?_
   refine pure_ (i:=4) (N:=some 105) (v:=_) (a':=_) #[Y,Y,Y,Y,Y,Z,Z,Z] rfl rfl D5 hh (Or.inl ⟨D15,nP⟩) nQ ?_
   refine one_ (i:=5) (N:=some 106) #[Y,Y,Y,Y,Y,Y,Z,Z] rfl rfl D5 D8 (fun K hK=>?_)
   refine goes_ Try.func122 D5 rfl #[Value.int .u8 (inv y),Value.slice B1 m2 d1] D15 rfl rfl D35 ?_
   have hS:=spec_l1Scale.calls kHSB (inv y) B1 d1 s1 (scale (inv y) s1) wr (F_C HFb1.out hokb1.2) (by rw [hokb1.2];exact hleb1) HSB.out
   rw [hokb1.2] at hS
   refine hS.mono ?_
   clear hS
   rintro e w5 ⟨v5,rfl,ho5,hb5⟩
   refine ⟨_,rfl,?_⟩
   obtain ⟨A5,c5,e5⟩:=Kd.R_slice ho5
   rw [scale_length,hokb1.2] at e5
   subst e5
   have hle5:m2≤c5:=(Kd.R_reads' ho5).2.1
   have HF5:=am (HE.out.fresh ho5)
   replace HE:=am (HE.out.below hb5)
   replace hHeld:=pw_cell_below hb5 hHeld
   clear ho5 hb5 HFb1
   refine hK.out _ _ hHeld (fun hHeld=>?_)
   clear hK K
   refine norm_ (nA 106) ?_
   refine pure_ (i:=6) (N:=some 107) (v:=_) (a':=_) #[Y,Y,Y,Y,Y,Y,Y,Z] rfl rfl D5 hh (Or.inl ⟨D15,nP⟩) nQ ?_
   obtain ⟨_,_,_,_,_,hcell3,_,_,hfr3⟩:=HE.out.rowB a hal
   refine last_ (i:=7) (N:=none) #[Y,Y,Y,Y,Y,Y,Y,Y] rfl rfl D5 D8 (fun K hK=>?_)
   refine skip_ (w1:=?_) D15 rfl ?_ ?_
   rotate_left
   ·go_simp
    rfl
   refine hK.out _ _ ?_
   clear hK K
   refine done_ D5 ?_
   have hokx:=el_scale hyi hokb1
   have hE1:=HE.out.putB a hal hokx hle5 HF5.out
   clear HE HF5 hcell3 hfr3 hHeld hokx
   generalize w5.setCell ⟨g2,a,none⟩ (.slice A5 m2 c5)=wr at hE1 ⊢
   have HE:=am hE1
   clear hE1 hle5
   have hE1:=HE.out
   rw [← hra,HY.out,← HR1E.out,← rp_lift_fst,← hsa,← HS1.out,← rp_lift_snd] at hE1
   obtain ⟨L3,hL3⟩:∃ L3,L3=rowP.lift L1 k a p:=⟨_,rfl⟩
   rw [← hL3] at hE1 HS
   clear HE hL3 hra hsa HY HR1E HS1 hok1 hokb1 HI HSA HSB hyb hyi hb2 hy0
   have HE:=am hE1
   clear hE1
   have hkA:=HE.out.keyA
   go_wp2_with fail
   go_loopg [111] (len+1) (fun fu v111 wr=>∃ i:Nat,i≤len∧len - i < fu∧v111 = .int .i64 i∧Aside0 (LR w p4 p5 p7 p8 g1 cap1 g2 cap2 len m1 m2 ((rowP.clr k a L3 i).map Prod.fst) ((rowP.clr k a L3 i).map Prod.snd) wr))
   case atStart=>exact ⟨0,Nat.zero_le _,D11,rfl,HE⟩
   case round =>
    clear HE hkA
    obtain ⟨i,hi,hfi,rfl,HE⟩:=hrel
    have hkA:=HE.out.keyA
    by_cases hil:i < len
    case neg =>
     have e:i=len:=by omega
     subst e
     have hrz:¬ (i:Int) < (i:Int):=by omega
     have hdr:decide ((i:Int) < (i:Int))=false:=decide_eq_false hrz
     go_wp2_with fail
     go_roundg (m1 - k)
     case measure=>omega
     case rel=>exact ⟨k+1,D11,D11,by rw [HS.out];go_num,by go_num,⟨by rw [HS.out];exact HE.out⟩⟩
    have hrz:(i:Int) < (len:Int):=by omega
    have hdr:decide ((i:Int) < (len:Int))=true:=decide_eq_true hrz
    obtain ⟨ri,Ai,ci,hri,hoki,hcelli,hlei,hFi,_⟩:=HE.out.rowA i hil
    obtain ⟨adi,rfl,hbyte⟩:=F_m hFi hoki.2 k hkn
    obtain ⟨z,hz⟩:∃ z,z=ri.getD k 0:=⟨_,rfl⟩
    rw [← hz] at hbyte
    have HZE:=am (hz.trans (by rw [← hri]))
    have hzb:Byte z:=by rw [hz];exact bytes_getD hoki.1 k
    clear hz hFi
    by_cases hia:i=a
    case pos =>
     have HT:=am (rp_clr_skip (L:=L3) (k:=k) (a:=a) (r:=i) (.inl hia))
     clear HZE hri
     subst hia
     go_wp2_with fail
     go_roundg (len - i)
     case measure=>omega
     case rel=>exact ⟨i+1,D11,D11,by go_num,⟨by rw [HT.out];exact HE.out⟩⟩
    have hiz:¬ (i:Int)=(a:Int):=by omega
    by_cases hz0:z=0
    case pos =>
     have HT:=am (rp_clr_skip (L:=L3) (k:=k) (a:=a) (r:=i) (.inr (HZE.out.symm.trans hz0)))
     clear HZE hri
     subst hz0
     go_wp2_with fail
     go_roundg (len - i)
     case measure=>omega
     case rel=>exact ⟨i+1,D11,D11,by go_num,⟨by rw [HT.out];exact HE.out⟩⟩
    have hb1:((i:Int) != (a:Int))=true:=bne_iff_ne.2 hiz
    have hb2:(z != 0)=true:=bne_iff_ne.2 hz0
    have HT:=am (rp_clr_do (L:=L3) hia HZE.out.symm hz0)
    clear HZE hri
    go_wp2_with fail
    clear hkA hcelli hbyte
    replace HE:=am (HE.out.below (pd (Below.refl _ _)))
    have hk0:=HE.out.keyA
    obtain ⟨x6,A6,c6,hx6,hok6,hcell6,hle6,hF6,_⟩:=HE.out.rowA i hil
    obtain ⟨x7,A7,c7,hx7,hok7,hcell7,hle7,hF7,_⟩:=HE.out.rowA a hal
    have hok8:=el_scale hzb hok7
    have hok9:=el_add hok6 hok8
    obtain ⟨kS,hS⟩:=(SpecElim.spec_l1Scale.ev hzb hok7.1 (by rw [hok7.2];omega)).rounds
    obtain ⟨kA,hA⟩:=(SpecElim.spec_l1Add.ev hok6.1 hok8.1 (by rw [hok6.2,hok8.2]) (by rw [hok6.2];omega)).rounds
    have HSc:=am hS
    have HAd:=am hA
    clear hS hA
    refine start_ (n:=18) (S:=fun w'=>w'.cell? ⟨p7,0,none⟩=some (.slice (some ⟨g1,0,none⟩) len cap1)∧w'.cell? ⟨g1,i,none⟩=some (.slice A6 m1 c6)∧w'.cell? ⟨g1,a,none⟩=some (.slice A7 m1 c7)) (ds:=[17]) #[Z,Z,Z,Z,Z,Z,Z,Z,Z,Z,Z,Z,Z,Z,Z,Z,Z,Z] D5 rfl rfl ⟨hk0,hcell6,hcell7⟩ (fun hHeld=>?_)
    generalize wr.drew=wr at HE hHeld hF6 hF7 ⊢
    have HF6:=am hF6
    have HF7:=am hF7
    clear hF6 hF7 hk0 hcell6 hcell7
    refine pure_ (i:=0) (N:=some 129) (v:=_) (a':=_) #[Y,Z,Z,Z,Z,Z,Z,Z,Z,Z,Z,Z,Z,Z,Z,Z,Z,Z] rfl rfl D5 hh (Or.inl ⟨D15,nP⟩) nQ ?_
    refine take_ (i:=1) (N:=some 130) (v:=?_) (a':=?_) #[Y,Y,Z,Z,Z,Z,Z,Z,Z,Z,Z,Z,Z,Z,Z,Z,Z,Z] rfl rfl D5 hh (Or.inl ⟨D15,?_⟩) hHeld ?_ ?_
    rotate_left
    ·rintro w' ⟨s0,s1,s2⟩
     go_simp
     with_reducible rfl
    rotate_left
    ·simp only [Act.put,q1,q2,q3,i64_w,i32_w]
     rfl
    refine pure_ (i:=2) (N:=some 131) (v:=_) (a':=_) #[Y,Y,Y,Z,Z,Z,Z,Z,Z,Z,Z,Z,Z,Z,Z,Z,Z,Z] rfl rfl D5 hh (Or.inl ⟨D15,nP⟩) nQ ?_
    refine pure_ (i:=3) (N:=some 132) (v:=_) (a':=_) #[Y,Y,Y,Y,Z,Z,Z,Z,Z,Z,Z,Z,Z,Z,Z,Z,Z,Z] rfl rfl D5 hh (Or.inl ⟨D15,nP⟩) nQ ?_
    refine take_ (i:=4) (N:=some 133) (v:=?_) (a':=?_) #[Y,Y,Y,Y,Y,Z,Z,Z,Z,Z,Z,Z,Z,Z,Z,Z,Z,Z] rfl rfl D5 hh (Or.inl ⟨D15,?_⟩) hHeld ?_ ?_
    rotate_left
    ·rintro w' ⟨s0,s1,s2⟩
     go_simp
     with_reducible rfl
    rotate_left
    ·simp only [Act.put,q1,q2,q3,i64_w,i32_w]
     rfl
    refine pure_ (i:=5) (N:=some 134) (v:=_) (a':=_) #[Y,Y,Y,Y,Y,Y,Z,Z,Z,Z,Z,Z,Z,Z,Z,Z,Z,Z] rfl rfl D5 hh (Or.inl ⟨D15,nP⟩) nQ ?_
    refine pure_ (i:=6) (N:=some 135) (v:=_) (a':=_) #[Y,Y,Y,Y,Y,Y,Y,Z,Z,Z,Z,Z,Z,Z,Z,Z,Z,Z] rfl rfl D5 hh (Or.inl ⟨D15,nP⟩) nQ ?_
    refine take_ (i:=7) (N:=some 136) (v:=?_) (a':=?_) #[Y,Y,Y,Y,Y,Y,Y,Y,Z,Z,Z,Z,Z,Z,Z,Z,Z,Z] rfl rfl D5 hh (Or.inl ⟨D15,?_⟩) hHeld ?_ ?_
    rotate_left
    ·rintro w' ⟨s0,s1,s2⟩
     go_simp
     with_reducible rfl
    rotate_left
    ·simp only [Act.put,q1,q2,q3,i64_w,i32_w]
     rfl
    refine pure_ (i:=8) (N:=some 137) (v:=_) (a':=_) #[Y,Y,Y,Y,Y,Y,Y,Y,Y,Z,Z,Z,Z,Z,Z,Z,Z,Z] rfl rfl D5 hh (Or.inl ⟨D15,nP⟩) nQ ?_
    refine pure_ (i:=9) (N:=some 138) (v:=_) (a':=_) #[Y,Y,Y,Y,Y,Y,Y,Y,Y,Y,Z,Z,Z,Z,Z,Z,Z,Z] rfl rfl D5 hh (Or.inl ⟨D15,nP⟩) nQ ?_
    refine take_ (i:=10) (N:=some 139) (v:=?_) (a':=?_) #[Y,Y,Y,Y,Y,Y,Y,Y,Y,Y,Y,Z,Z,Z,Z,Z,Z,Z] rfl rfl D5 hh (Or.inl ⟨D15,?_⟩) hHeld ?_ ?_
    rotate_left
    ·rintro w' ⟨s0,s1,s2⟩
     go_simp
     with_reducible rfl
    rotate_left
    ·simp only [Act.put,q1,q2,q3,i64_w,i32_w]
     rfl
    refine pure_ (i:=11) (N:=some 140) (v:=_) (a':=_) #[Y,Y,Y,Y,Y,Y,Y,Y,Y,Y,Y,Y,Z,Z,Z,Z,Z,Z] rfl rfl D5 hh (Or.inl ⟨D15,nP⟩) nQ ?_
    refine pure_ (i:=12) (N:=some 141) (v:=_) (a':=_) #[Y,Y,Y,Y,Y,Y,Y,Y,Y,Y,Y,Y,Y,Z,Z,Z,Z,Z] rfl rfl D5 hh (Or.inl ⟨D15,nP⟩) nQ ?_
    refine take_ (i:=13) (N:=some 142) (v:=?_) (a':=?_) #[Y,Y,Y,Y,Y,Y,Y,Y,Y,Y,Y,Y,Y,Y,Z,Z,Z,Z] rfl rfl D5 hh (Or.inl ⟨D15,?_⟩) hHeld ?_ ?_
    rotate_left
    ·rintro w' ⟨s0,s1,s2⟩
     go_simp
     with_reducible rfl
    rotate_left
    ·simp only [Act.put,q1,q2,q3,i64_w,i32_w]
     rfl
    refine one_ (i:=14) (N:=some 143) #[Y,Y,Y,Y,Y,Y,Y,Y,Y,Y,Y,Y,Y,Y,Y,Z,Z,Z] rfl rfl D5 D8 (fun K hK=>?_)
    refine goes_ Try.func122 D5 rfl #[Value.int .u8 z,Value.slice A7 m1 c7] D15 rfl rfl D35 ?_
    have hS:=spec_l1Scale.calls kS z A7 c7 x7 (scale z x7) wr (F_C HF7.out hok7.2) (by rw [hok7.2];exact hle7) HSc.out
    rw [hok7.2] at hS
    refine hS.mono ?_
    clear hS
    rintro e w5 ⟨v5,rfl,ho5,hb5⟩
    refine ⟨_,rfl,?_⟩
    obtain ⟨A8,c8,e8⟩:=Kd.R_slice ho5
    rw [scale_length,hok7.2] at e8
    subst e8
    have hle8:m1≤c8:=(Kd.R_reads' ho5).2.1
    have HF8:=am (HE.out.fresh ho5)
    replace HE:=am (HE.out.below hb5)
    replace HF6:=am (Kd.F_below HF6.out hb5)
    replace hHeld:=(show _∧_∧_ from ⟨pw_cell_below hb5 hHeld.1,pw_cell_below hb5 hHeld.2.1,pw_cell_below hb5 hHeld.2.2⟩)
    clear ho5 hb5 HF7
    refine hK.out _ _ ⟨hHeld.1,hHeld.2.1,hHeld.2.2⟩ (fun hHeld=>?_)
    clear hK K
    refine norm_ (nA 143) ?_
    refine one_ (i:=15) (N:=some 144) #[Y,Y,Y,Y,Y,Y,Y,Y,Y,Y,Y,Y,Y,Y,Y,Y,Z,Z] rfl rfl D5 D8 (fun K hK=>?_)
    refine goes_ Try.func73 D5 rfl #[Value.slice A6 m1 c6,Value.slice A8 m1 c8] D15 rfl rfl D35 ?_
    have hS:=spec_l1Add.calls kA A6 c6 x6 A8 c8 (scale z x7) (addV x6 (scale z x7)) w5 (F_C HF6.out hok6.2) (by rw [hok6.2];exact hle6) (F_C HF8.out hok8.2) (by rw [hok8.2];exact hle8) HAd.out
    rw [hok6.2,hok8.2] at hS
    refine hS.mono ?_
    clear hS
    rintro e w6 ⟨v6,rfl,ho6,hb6⟩
    refine ⟨_,rfl,?_⟩
    obtain ⟨A9,c9,e9⟩:=Kd.R_slice ho6
    rw [hok9.2] at e9
    subst e9
    have hle9:m1≤c9:=(Kd.R_reads' ho6).2.1
    have HF9:=am (HE.out.fresh ho6)
    replace HE:=am (HE.out.below hb6)
    replace hHeld:=(show _∧_∧_ from ⟨pw_cell_below hb6 hHeld.1,pw_cell_below hb6 hHeld.2.1,pw_cell_below hb6 hHeld.2.2⟩)
    clear ho6 hb6 HF6 HF8
    refine hK.out _ _ ⟨hHeld.1,hHeld.2.1,hHeld.2.2⟩ (fun hHeld=>?_)
    clear hK K
    refine norm_ (nA 144) ?_
    refine pure_ (i:=16) (N:=some 145) (v:=_) (a':=_) #[Y,Y,Y,Y,Y,Y,Y,Y,Y,Y,Y,Y,Y,Y,Y,Y,Y,Z] rfl rfl D5 hh (Or.inl ⟨D15,nP⟩) nQ ?_
    obtain ⟨_,_,_,_,_,hcell3,_,_,hfr3⟩:=HE.out.rowA i hil
    refine last_ (i:=17) (N:=none) #[Y,Y,Y,Y,Y,Y,Y,Y,Y,Y,Y,Y,Y,Y,Y,Y,Y,Y] rfl rfl D5 D8 (fun K hK=>?_)
    refine skip_ (w1:=?_) D15 rfl ?_ ?_
    rotate_left
    ·go_simp
     rfl
    refine hK.out _ _ ?_
    clear hK K
    refine done_ D5 ?_
    have hE1:=HE.out.putA i hil hok9 hle9 HF9.out
    rw [← hx6,← hx7] at hE1
    clear HE HF9 hcell3 hfr3 hHeld
    generalize w6.setCell ⟨g1,i,none⟩ (.slice A9 m1 c9)=wr at hE1 ⊢
    have HE:=am hE1
    clear hE1 hx6 hx7 hok6 hok7 hok8 hok9 hle6 hle7 hle8 hle9 HSc HAd
    go_wp2_with fail
    replace HE:=am (HE.out.below (pd (Below.refl _ _)))
    have hk0:=HE.out.keyB
    obtain ⟨x6,A6,c6,hx6,hok6,hcell6,hle6,hF6,_⟩:=HE.out.rowB i hil
    obtain ⟨x7,A7,c7,hx7,hok7,hcell7,hle7,hF7,_⟩:=HE.out.rowB a hal
    have hok8:=el_scale hzb hok7
    have hok9:=el_add hok6 hok8
    obtain ⟨kS,hS⟩:=(SpecElim.spec_l1Scale.ev hzb hok7.1 (by rw [hok7.2];omega)).rounds
    obtain ⟨kA,hA⟩:=(SpecElim.spec_l1Add.ev hok6.1 hok8.1 (by rw [hok6.2,hok8.2]) (by rw [hok6.2];omega)).rounds
    have HSc:=am hS
    have HAd:=am hA
    clear hS hA
    refine start_ (n:=18) (S:=fun w'=>w'.cell? ⟨p8,0,none⟩=some (.slice (some ⟨g2,0,none⟩) len cap2)∧w'.cell? ⟨g2,i,none⟩=some (.slice A6 m2 c6)∧w'.cell? ⟨g2,a,none⟩=some (.slice A7 m2 c7)) (ds:=[17]) #[Z,Z,Z,Z,Z,Z,Z,Z,Z,Z,Z,Z,Z,Z,Z,Z,Z,Z] D5 rfl rfl ⟨hk0,hcell6,hcell7⟩ (fun hHeld=>?_)
    generalize wr.drew=wr at HE hHeld hF6 hF7 ⊢
    have HF6:=am hF6
    have HF7:=am hF7
    clear hF6 hF7 hk0 hcell6 hcell7
    refine pure_ (i:=0) (N:=some 146) (v:=_) (a':=_) #[Y,Z,Z,Z,Z,Z,Z,Z,Z,Z,Z,Z,Z,Z,Z,Z,Z,Z] rfl rfl D5 hh (Or.inl ⟨D15,nP⟩) nQ ?_
    refine take_ (i:=1) (N:=some 147) (v:=?_) (a':=?_) #[Y,Y,Z,Z,Z,Z,Z,Z,Z,Z,Z,Z,Z,Z,Z,Z,Z,Z] rfl rfl D5 hh (Or.inl ⟨D15,?_⟩) hHeld ?_ ?_
    rotate_left
    ·rintro w' ⟨s0,s1,s2⟩
     go_simp
     with_reducible rfl
    rotate_left
    ·simp only [Act.put,q1,q2,q3,i64_w,i32_w]
     rfl
    refine pure_ (i:=2) (N:=some 148) (v:=_) (a':=_) #[Y,Y,Y,Z,Z,Z,Z,Z,Z,Z,Z,Z,Z,Z,Z,Z,Z,Z] rfl rfl D5 hh (Or.inl ⟨D15,nP⟩) nQ ?_
    refine pure_ (i:=3) (N:=some 149) (v:=_) (a':=_) #[Y,Y,Y,Y,Z,Z,Z,Z,Z,Z,Z,Z,Z,Z,Z,Z,Z,Z] rfl rfl D5 hh (Or.inl ⟨D15,nP⟩) nQ ?_
    refine take_ (i:=4) (N:=some 150) (v:=?_) (a':=?_) #[Y,Y,Y,Y,Y,Z,Z,Z,Z,Z,Z,Z,Z,Z,Z,Z,Z,Z] rfl rfl D5 hh (Or.inl ⟨D15,?_⟩) hHeld ?_ ?_
    rotate_left
    ·rintro w' ⟨s0,s1,s2⟩
     go_simp
     with_reducible rfl
    rotate_left
    ·simp only [Act.put,q1,q2,q3,i64_w,i32_w]
     rfl
    refine pure_ (i:=5) (N:=some 151) (v:=_) (a':=_) #[Y,Y,Y,Y,Y,Y,Z,Z,Z,Z,Z,Z,Z,Z,Z,Z,Z,Z] rfl rfl D5 hh (Or.inl ⟨D15,nP⟩) nQ ?_
    refine pure_ (i:=6) (N:=some 152) (v:=_) (a':=_) #[Y,Y,Y,Y,Y,Y,Y,Z,Z,Z,Z,Z,Z,Z,Z,Z,Z,Z] rfl rfl D5 hh (Or.inl ⟨D15,nP⟩) nQ ?_
    refine take_ (i:=7) (N:=some 153) (v:=?_) (a':=?_) #[Y,Y,Y,Y,Y,Y,Y,Y,Z,Z,Z,Z,Z,Z,Z,Z,Z,Z] rfl rfl D5 hh (Or.inl ⟨D15,?_⟩) hHeld ?_ ?_
    rotate_left
    ·rintro w' ⟨s0,s1,s2⟩
     go_simp
     with_reducible rfl
    rotate_left
    ·simp only [Act.put,q1,q2,q3,i64_w,i32_w]
     rfl
    refine pure_ (i:=8) (N:=some 154) (v:=_) (a':=_) #[Y,Y,Y,Y,Y,Y,Y,Y,Y,Z,Z,Z,Z,Z,Z,Z,Z,Z] rfl rfl D5 hh (Or.inl ⟨D15,nP⟩) nQ ?_
    refine pure_ (i:=9) (N:=some 155) (v:=_) (a':=_) #[Y,Y,Y,Y,Y,Y,Y,Y,Y,Y,Z,Z,Z,Z,Z,Z,Z,Z] rfl rfl D5 hh (Or.inl ⟨D15,nP⟩) nQ ?_
    refine take_ (i:=10) (N:=some 156) (v:=?_) (a':=?_) #[Y,Y,Y,Y,Y,Y,Y,Y,Y,Y,Y,Z,Z,Z,Z,Z,Z,Z] rfl rfl D5 hh (Or.inl ⟨D15,?_⟩) hHeld ?_ ?_
    rotate_left
    ·rintro w' ⟨s0,s1,s2⟩
     go_simp
     with_reducible rfl
    rotate_left
    ·simp only [Act.put,q1,q2,q3,i64_w,i32_w]
     rfl
    refine pure_ (i:=11) (N:=some 157) (v:=_) (a':=_) #[Y,Y,Y,Y,Y,Y,Y,Y,Y,Y,Y,Y,Z,Z,Z,Z,Z,Z] rfl rfl D5 hh (Or.inl ⟨D15,nP⟩) nQ ?_
    refine pure_ (i:=12) (N:=some 158) (v:=_) (a':=_) #[Y,Y,Y,Y,Y,Y,Y,Y,Y,Y,Y,Y,Y,Z,Z,Z,Z,Z] rfl rfl D5 hh (Or.inl ⟨D15,nP⟩) nQ ?_
    refine take_ (i:=13) (N:=some 159) (v:=?_) (a':=?_) #[Y,Y,Y,Y,Y,Y,Y,Y,Y,Y,Y,Y,Y,Y,Z,Z,Z,Z] rfl rfl D5 hh (Or.inl ⟨D15,?_⟩) hHeld ?_ ?_
    rotate_left
    ·rintro w' ⟨s0,s1,s2⟩
     go_simp
     with_reducible rfl
    rotate_left
    ·simp only [Act.put,q1,q2,q3,i64_w,i32_w]
     rfl
    refine one_ (i:=14) (N:=some 160) #[Y,Y,Y,Y,Y,Y,Y,Y,Y,Y,Y,Y,Y,Y,Y,Z,Z,Z] rfl rfl D5 D8 (fun K hK=>?_)
    refine goes_ Try.func122 D5 rfl #[Value.int .u8 z,Value.slice A7 m2 c7] D15 rfl rfl D35 ?_
    have hS:=spec_l1Scale.calls kS z A7 c7 x7 (scale z x7) wr (F_C HF7.out hok7.2) (by rw [hok7.2];exact hle7) HSc.out
    rw [hok7.2] at hS
    refine hS.mono ?_
    clear hS
    rintro e w5 ⟨v5,rfl,ho5,hb5⟩
    refine ⟨_,rfl,?_⟩
    obtain ⟨A8,c8,e8⟩:=Kd.R_slice ho5
    rw [scale_length,hok7.2] at e8
    subst e8
    have hle8:m2≤c8:=(Kd.R_reads' ho5).2.1
    have HF8:=am (HE.out.fresh ho5)
    replace HE:=am (HE.out.below hb5)
    replace HF6:=am (Kd.F_below HF6.out hb5)
    replace hHeld:=(show _∧_∧_ from ⟨pw_cell_below hb5 hHeld.1,pw_cell_below hb5 hHeld.2.1,pw_cell_below hb5 hHeld.2.2⟩)
    clear ho5 hb5 HF7
    refine hK.out _ _ ⟨hHeld.1,hHeld.2.1,hHeld.2.2⟩ (fun hHeld=>?_)
    clear hK K
    refine norm_ (nA 160) ?_
    refine one_ (i:=15) (N:=some 161) #[Y,Y,Y,Y,Y,Y,Y,Y,Y,Y,Y,Y,Y,Y,Y,Y,Z,Z] rfl rfl D5 D8 (fun K hK=>?_)
    refine goes_ Try.func73 D5 rfl #[Value.slice A6 m2 c6,Value.slice A8 m2 c8] D15 rfl rfl D35 ?_
    have hS:=spec_l1Add.calls kA A6 c6 x6 A8 c8 (scale z x7) (addV x6 (scale z x7)) w5 (F_C HF6.out hok6.2) (by rw [hok6.2];exact hle6) (F_C HF8.out hok8.2) (by rw [hok8.2];exact hle8) HAd.out
    rw [hok6.2,hok8.2] at hS
    refine hS.mono ?_
    clear hS
    rintro e w6 ⟨v6,rfl,ho6,hb6⟩
    refine ⟨_,rfl,?_⟩
    obtain ⟨A9,c9,e9⟩:=Kd.R_slice ho6
    rw [hok9.2] at e9
    subst e9
    have hle9:m2≤c9:=(Kd.R_reads' ho6).2.1
    have HF9:=am (HE.out.fresh ho6)
    replace HE:=am (HE.out.below hb6)
    replace hHeld:=(show _∧_∧_ from ⟨pw_cell_below hb6 hHeld.1,pw_cell_below hb6 hHeld.2.1,pw_cell_below hb6 hHeld.2.2⟩)
    clear ho6 hb6 HF6 HF8
    refine hK.out _ _ ⟨hHeld.1,hHeld.2.1,hHeld.2.2⟩ (fun hHeld=>?_)
    clear hK K
    refine norm_ (nA 161) ?_
    refine pure_ (i:=16) (N:=some 162) (v:=_) (a':=_) #[Y,Y,Y,Y,Y,Y,Y,Y,Y,Y,Y,Y,Y,Y,Y,Y,Y,Z] rfl rfl D5 hh (Or.inl ⟨D15,nP⟩) nQ ?_
    obtain ⟨_,_,_,_,_,hcell3,_,_,hfr3⟩:=HE.out.rowB i hil
    refine last_ (i:=17) (N:=none) #[Y,Y,Y,Y,Y,Y,Y,Y,Y,Y,Y,Y,Y,Y,Y,Y,Y,Y] rfl rfl D5 D8 (fun K hK=>?_)
    refine skip_ (w1:=?_) D15 rfl ?_ ?_
    rotate_left
    ·go_simp
     rfl
    refine hK.out _ _ ?_
    clear hK K
    refine done_ D5 ?_
    have hE1:=HE.out.putB i hil hok9 hle9 HF9.out
    rw [← hx6,← hx7] at hE1
    clear HE HF9 hcell3 hfr3 hHeld
    generalize w6.setCell ⟨g2,i,none⟩ (.slice A9 m2 c9)=wr at hE1 ⊢
    have HE:=am hE1
    clear hE1 hx6 hx7 hok6 hok7 hok8 hok9 hle6 hle7 hle8 hle9 HSc HAd
    go_wp2_with fail
    go_roundg (len - i)
    case measure=>omega
    case rel=>exact ⟨i+1,D11,D11,by go_num,⟨by rw [HT.out.1,HT.out.2];exact HE.out⟩⟩
end
end
def spec_l2Identity.l0:Nat→Int→Int→List (List Int)→Option ((List (List Int)))
 | 0,_,_,_=>none
 | k+1,x10,x11,x512000=>if x11 < x10 then (if 0≤x11 then (if x11 < (x512000.length:Int) then (if x11 < ((rd_L3 x512000 x11).length:Int) then (spec_l2Identity.l0 k x10 (wrap64 (x11+1)) (x512000.set (x11:Int).toNat ((rd_L3 x512000 x11).set (x11:Int).toNat 1))) else (none)) else (none)) else (none)) else (some x512000)
def spec_l2Identity.f (k:Nat) (a0:Int):Option ((List (List Int))):=(spec_l2Blank.f k a0 a0).bind fun t508=>(spec_l2Identity.l0 k (t508.length:Int) 0 t508)
theorem spec_l2Identity.mono_l:∀ k,(∀ y0 y1 y2,LeO (spec_l2Identity.l0 k y0 y1 y2) (spec_l2Identity.l0 (k+1) y0 y1 y2))
 | 0=>fun _ _ _ r h=>by simp [spec_l2Identity.l0] at h
 | k+1=>by
  have ih0:=spec_l2Identity.mono_l k
  intro y0 y1 y2
  unfold spec_l2Identity.l0
  exact mm
theorem spec_l2Identity.mono:∀ a0 k,LeO (spec_l2Identity.f k a0) (spec_l2Identity.f (k+1) a0):=by
 intro a0 k
 have ih0:=spec_l2Identity.mono_l k
 unfold spec_l2Identity.f
 exact mm
theorem spec_l2Identity.calls (k:Nat) (a0:Int) (r:List (List Int)) (w:World) (h:spec_l2Identity.f k a0=some r) :
  Calls Try.prog 149 #[.int .i64 a0] w fun e w'=>∃ v0_:Value,e = .returned (.agg #[v0_])∧Kd.S (Kd.slice 5 (Kd.int .u8)) 24 w' w.heap.size (fun _=>True) v0_ r∧Below w.heap.size w w':=by
 have hu27:=Try.underlying27
 have HB:=am (Below.refl w.heap.size w)
 have H:=h
 unfold spec_l2Identity.f at H
 clear h
 obtain ⟨t508,A2,H⟩:=yo H
 have H':=am H
 clear H
 go_enter Try.func149,Try.ntmps149
 go_wp2_with (first|((with_reducible refine gD 2 ?_);refine gB (cs:=#[.slice none 0 0]) 27 ?_;intro gb507 hg w3 hbox hb;have BK507:=am (hbox);have GW507:=ye HB hg;replace HB:=yH HB hb;have GE507:=GW507;clear hb hbox hg)|((with_reducible refine gC 124 ?_);refine gM (some 7) Try.func124 (args:=#[.int .i64 a0, .int .i64 a0]) (spec_l2Blank.calls k a0 a0 t508 _ A2.out) ?_;rintro e w4 ⟨v509,rfl,ho0,hb⟩;refine ⟨_,rfl,?_⟩;have HO510:=am (Kd.S_lower ho0 (pz (yW HB)));replace BK507:=yb BK507 hb;replace HB:=yH HB hb;clear hb ho0)|((with_reducible refine gD 3 ?_);refine gB (cs:=#[.slice none 0 0]) 27 ?_;intro gb511 hg w5 hbox hb;replace HO510:=bS HO510 hb;have BK511:=am (hbox);have GW511:=ye HB hg;replace HB:=yH HB hb;have NB507_511:=yl BK507 hg;have NB511_507:=yg BK507 hg;replace BK507:=yb BK507 hb;have GE511:=GW511;clear hb hbox hg;obtain ⟨Ao6,co6,eo6⟩:=Kd.S_slice HO510.out;subst eo6;have hnb7:=NB511_507.out;have hnc7:=NB507_511.out;obtain ⟨hcz8_0,hfz8_0⟩:=yk1 BK511))
 go_loopg [11] k (fun kq v11 w'=>∃ (x11_1:Int) (x512000_1:List (List Int)) (u512000:Value),v11 = .int .i64 x11_1∧Aside0 (spec_l2Identity.l0 kq (t508.length:Int) x11_1 x512000_1=some r)∧Aside0 (kq≤k)∧Aside0 (Kd.S (Kd.slice 5 (Kd.int .u8)) 24 w' w.heap.size (fun _=>True) u512000 x512000_1)∧Aside0 (w'.heap[gb507]? = some (.cells #[(.slice none 0 0)] 27 (0,0)))∧Aside0 (w'.heap[gb511]? = some (.cells #[u512000] 27 (0,0)))∧Aside0 (Below w.heap.size w w'))
 case atStart=>exact ⟨(0),(t508),(.slice Ao6 t508.length co6),D1,H',⟨Nat.le_refl _⟩,⟨by refine sS ?_;exact Kd.S_mono (Kd.S_far (p:=⟨gb511,0,none⟩) (Kd.S_types HO510.out BK511.out D8) (fun _ hk=>hk.2) (.slice Ao6 t508.length co6)) (fun _ hk=>trivial)⟩,⟨yF BK507⟩,⟨by refine sB ?_;refine blk_put (cs:=#[.slice none 0 0]) ?_ 0 _ rfl;exact yB BK511⟩,⟨yW HB⟩⟩
 case round =>
  clear H'
  try clear c1
  try clear p2
  try clear c7
  try clear hcz8_0
  try clear hfz8_0
  obtain ⟨x11_1,x512000_1,u512000,rfl,HA,HK1,HO_512000,BK507,BK511,HB⟩:=hrel
  cases gk with
  | zero=>exact absurd HA.out (by simp [spec_l2Identity.l0])
  | succ k1 =>
   have H:=HA.out
   clear HA
   simp only [spec_l2Identity.l0] at H
   by_cases c9:x11_1 < (t508.length:Int)
   ·rw [if_pos c9] at H
    have c9b0:=decide_eq_true c9
    clear c9
    obtain ⟨c10,H⟩:=yi H
    have c10b0:=decide_eq_true c10
    clear c10
    obtain ⟨c11,H⟩:=yi H
    have c11b0:=decide_eq_true c11
    clear c11
    obtain ⟨c12,H⟩:=yi H
    have c12b0:=decide_eq_true c12
    clear c12
    generalize hy513:((rd_L3 x512000_1 x11_1).set (x11_1:Int).toNat 1:List Int)=y513 at H
    have Ny513:=am hy513.symm
    clear hy513
    generalize hy515:(x512000_1.set (x11_1:Int).toNat y513:List (List Int))=y515 at H
    have Ny515:=am hy515.symm
    clear hy515
    have H':=am H
    clear H
    have hnb14:=NB511_507.out
    have hnc14:=NB507_511.out
    obtain ⟨hcz15_0,hfz15_0⟩:=yk1 BK511
    obtain ⟨Ao16,co16,eo16⟩:=Kd.S_slice HO_512000.out
    subst eo16
    have p512:0≤(x11_1:Int):=od D0
    have q512:x11_1 < (x512000_1.length:Int):=od D0
    obtain ⟨ad512,A512_0,c512_0,e512,hx512_0,hl512_0,hi512_0⟩:=at_L3 (Kd.S_reads' HO_512000.out).2.2 x11_1 p512 q512
    cases e512
    obtain ⟨ce512,hce512,hMe512,hcc512⟩:=Kd.S_get HO_512000.out [] x11_1 p512 (by first|exact q512|exact od D0|(have e_:=(Kd.S_reads' HO_512000.out).1;omega))
    obtain ⟨ve512_0,rfl,ge512_0⟩:=hMe512
    have hv512_0:=hcc512 0 _ rfl
    rw [Nat.add_zero,show ((Kd.slice 5 (Kd.int .u8))).sz=1 from rfl,Nat.mul_one] at hv512_0
    replace hv512_0:=Option.some.inj (hv512_0.symm.trans hx512_0)
    rw [hv512_0] at ge512_0
    have HL512_0:=am (show Kd.R (Kd.int .u8) 5 _ _ _ _ (rd_L3 x512000_1 x11_1) from ge512_0)
    clear hv512_0 ge512_0
    have HX512_0:=am hx512_0
    clear hcc512 hce512
    have HR512_0:=am hi512_0
    have HC512_0:=am hl512_0
    clear hi512_0 hl512_0
    replace p512:=eq_true p512
    replace q512:=eq_true q512
    have p13:0≤(x11_1:Int):=od D0
    have q13:(x11_1:Int) < (((rd_L3 x512000_1 x11_1).length:Int):Int):=od D0
    obtain ⟨go13,co13,eo13,gb13,gl13,cl13,HG13⟩:=Kd.R_form HL512_0.out D11
    (first|cases eo13|(injection eo13 with ea_ en_ ec_;(first|subst ea_|(injection ea_ with ea_;subst ea_));subst ec_;clear en_))
    have GB13:=am gb13
    have GG13:=am HG13
    clear gb13 gl13 HG13
    obtain ⟨hx13_0,hf13_0⟩:=Kd.R_celln 0 HL512_0.out (x11_1:Int) p13 q13
    replace p13:=eq_true p13
    replace q13:=eq_true q13
    have hq17:(x11_1:Int) < (x512000_1.length:Int):=(by have h_:(x11_1:Int) < ((x512000_1.length:Int):Int):=od D0;first|exact h_|(have e_:=(Kd.S_reads' HO_512000.out).1;omega)|simpa only [List.length_set,List.length_set] using h_)
    obtain ⟨oki17,ce17,hcl17,hM17,hcc17,hok17,hbk17⟩:=Kd.S_borrow HO_512000.out [] (x11_1:Int) (od D0) hq17
    obtain ⟨ve17_0,rfl,ge17_0⟩:=hM17
    have hv17:=hcc17 0 _ rfl
    rw [Nat.add_zero,show ((Kd.slice 5 (Kd.int .u8))).sz=1 from rfl,Nat.mul_one] at hv17
    replace hv17:=Option.some.inj (hv17.symm.trans HX512_0.out)
    subst hv17
    clear hcc17 hcl17
    replace ge17_0:=(show Kd.R (Kd.int .u8) 5 _ _ _ _ (rd_L3 x512000_1 x11_1) from ge17_0)
    have HP17:=Kd.R_putg ge17_0 (x11_1:Int) 1
    go_wp2_with (first|((with_reducible refine gate_store (t:=5) (p:=20) rfl ?_);refine store_event (t:=5) (p:=20) (v:=?vo_w18) (w1:=(wr.setCell ⟨go13,(x11_1:Int).toNat,none⟩ (.int .u8 1))) ?hg ?ho ?hn ?hr ?_;(case ho=>rfl);(case hg=>rfl);(case hn=>rfl);(case hr=>first|(go_simp;done)|(go_simp;rfl));intro w18 hw;have hg:wr.grownBy w18 (some go13):=(by rw [hw];exact HP17.2);have hz_:Kd.R (Kd.int .u8) 5 w18 w.heap.size oki17 (.slice (some ⟨go13,0,none⟩) (rd_L3 x512000_1 x11_1).length c512_0) y513:=(by rw [hw,Ny513.out];exact HP17.1);have hp_:Kd.S (Kd.slice 5 (Kd.int .u8)) 24 w18 w.heap.size (fun _=>True) (.slice (some ad512) x512000_1.length co16) y515:=(by rw [Ny515.out];exact hbk17 hg (fun k_ e_=>by injection e_ with e_;subst e_;exact ge17_0.1 _ rfl) (Kd.M_row hz_));have hm_:=Kd.R_mono hz_ hok17;clear HP17 hbk17;have n0_:=am (hp_);have n1_:=am (blk_grown (g:=gb507) (o:=.cells #[.slice none 0 0] 27 (0,0)) (yB BK507) hg (Kd.R_ne HL512_0.out BK507.out D8));have n2_:=am (blk_grown (g:=gb511) (o:=.cells #[.slice (some ad512) x512000_1.length co16] 27 (0,0)) (yB BK511) hg (Kd.R_ne HL512_0.out BK511.out D8));have n3_:=am ((by rw [hw];exact pt (HB.out) GB13.out:Below w.heap.size w w18));have n4_:=am (hm_);have n5_:=am ((Kd.R_reads' hm_).2.1);clear HO_512000 BK507 BK511 HB HL512_0;have HO_512000:=n0_;have BK507:=n1_;have BK511:=n2_;have HB:=n3_;have HL516:=n4_;have HC514:=n5_;clear n0_ n1_ n2_ n3_ n4_ n5_ hg hw hp_ hz_ hm_ hok17))
    go_roundg k1
    case measure=>have:=HK1.out;omega
    case rel=>exact ⟨(wrap64 (x11_1+1)),(y515),(.slice (some ad512) x512000_1.length co16),D1,H',⟨D34⟩,⟨yS HO_512000⟩,⟨yB BK507⟩,⟨yB BK511⟩,⟨yW HB⟩⟩
   rw [if_neg c9] at H
   have c9b0:=decide_eq_false c9
   clear c9
   obtain rfl:=Option.some.inj H
   have hnb19:=NB511_507.out
   have hnc19:=NB507_511.out
   obtain ⟨hcz20_0,hfz20_0⟩:=yk1 BK511
   obtain ⟨Ao21,co21,eo21⟩:=Kd.S_slice HO_512000.out
   subst eo21
   obtain ⟨hcz22_0,hfz22_0⟩:=yk1 BK507
   go_wp2
   refine bodyPost_ret (results_cell_row rfl _ _ gb507 27 #[.slice Ao21 x512000_1.length co21] (0,0) _ rfl (by refine sB ?_;refine blk_put (cs:=#[.slice none 0 0]) ?_ 0 _ rfl;exact yB BK507) Try.underlying27 rfl D5) rfl ?_
   exact ⟨_,D2,by refine sS ?_;exact Kd.S_mono (Kd.S_far (p:=⟨gb507,0,none⟩) (Kd.S_types HO_512000.out BK507.out D8) (fun _ hk=>hk.2) (.slice Ao21 x512000_1.length co21)) (fun _ hk=>trivial),yW HB⟩
section
section
open Go.Proofs.Yteflgifmdojahaa.Gf Go.Proofs.Yteflgifmdojahaa.Kit Go.Proofs.Yteflgifmdojahaa.KitW Go.Proofs.Yteflgifmdojahaa.KitN
namespace SpecInv
theorem rdSS (l:List (List Int)) (i:Nat) (h:i < l.length):rd_L3 l (i:Int)=l[i]:=by unfold rd_L3;simp [List.getD,h]
theorem spec_l2Blank.ev_l0 (n m:Nat) (hn:n≤1048576) (hm:m≤1048576):∀ (d i:Nat),i+d=n→Ev (fun k=>spec_l2Blank.l0 k (n:Int) (m:Int) (i:Int) (blankM i m)) (blankM n m)
 | 0,i,hi=>by
  obtain rfl:i=n:=by omega
  refine Ev.step (fun k=>spec_l2Blank.l0.eq_2 _ _ _ _ k) ?_
  exact ev_neg D11 (ev_now rfl)
 | d+1,i,hi=>by
  have ih:=spec_l2Blank.ev_l0 n m hn hm d (i+1) D11
  refine Ev.step (fun k=>spec_l2Blank.l0.eq_2 _ _ _ _ k) ?_
  refine ev_pos D11 (ev_pos D11 (ev_pos D11 (ev_pos (by simp [blankM];omega) ?_)))
  rw [inc D11,Int.toNat_natCast]
  have e:blankM i m ++ [List.replicate m 0]=blankM (i+1) m:=by
   unfold blankM;rw [List.replicate_succ']
  rw [e]
  exact ih
theorem spec_l2Blank.ev (n m:Nat) (hn:n≤1048576) (hm:m≤1048576):Ev (fun k=>spec_l2Blank.f k (n:Int) (m:Int)) (blankM n m):=by
 unfold spec_l2Blank.f
 exact spec_l2Blank.ev_l0 n m hn hm n 0 D11
def idPart (n i:Nat):List (List Int):=(List.range n).map fun j=>if j < i then (List.replicate n 0).set j 1 else List.replicate n 0
theorem idPart_length (n i:Nat):(idPart n i).length=n:=by simp [idPart]
theorem idPart_zero (n:Nat):idPart n 0=blankM n n:=by
 apply List.ext_getElem
 ·simp [idPart,blankM]
 intro j h1 h2;simp [idPart,blankM]
theorem idPart_all (n:Nat):idPart n n=idM n:=by
 apply List.ext_getElem
 ·simp [idPart,idM]
 intro j h1 h2
 have:j < n:=by simpa [idPart] using h1
 simp [idPart,idM,this]
theorem idPart_succ (n i:Nat) (hi:i < n):(idPart n i).set i ((List.replicate n 0).set i 1)=idPart n (i+1):=by
 apply List.ext_getElem
 ·simp [idPart]
 intro j h1 h2
 rw [List.getElem_set]
 by_cases e:i=j
 ·subst e
  simp [idPart]
 rw [if_neg e]
 simp only [idPart,List.getElem_map,List.getElem_range]
 by_cases h:j < i
 ·rw [if_pos h,if_pos D11]
 rw [if_neg h,if_neg D11]
theorem spec_l2Identity.ev_l0 (n:Nat) (hn:n≤1048576):∀ (d i:Nat),i+d=n→Ev (fun k=>spec_l2Identity.l0 k (n:Int) (i:Int) (idPart n i)) (idM n)
 | 0,i,hi=>by
  obtain rfl:i=n:=by omega
  refine Ev.step (fun k=>spec_l2Identity.l0.eq_2 _ _ _ k) ?_
  exact ev_neg D11 (ev_now (idPart_all i))
 | d+1,i,hi=>by
  have hl:=idPart_length n i
  have hg:rd_L3 (idPart n i) (i:Int)=List.replicate n 0:=by
   rw [rdSS _ i D11]
   simp [idPart]
  have ih:=spec_l2Identity.ev_l0 n hn d (i+1) D11
  refine Ev.step (fun k=>spec_l2Identity.l0.eq_2 _ _ _ k) ?_
  rw [hg]
  refine ev_pos D11 (ev_pos D11 (ev_pos D11 (ev_pos (by simp;omega) ?_)))
  rw [inc D11,Int.toNat_natCast,idPart_succ n i D11]
  exact ih
theorem spec_l2Identity.ev (n:Nat) (hn:n≤1048576):Ev (fun k=>spec_l2Identity.f k (n:Int)) (idM n):=by
 unfold spec_l2Identity.f
 refine ev_bind (spec_l2Blank.ev n n hn hn) ?_
 have e:((blankM n n).length:Int)=(n:Int):=by simp [blankM]
 rw [e,← idPart_zero]
 exact spec_l2Identity.ev_l0 n hn n 0 D11
end SpecInv
def spec_l2Inverse.f (l0:List (List Int)):Option (List (List Int) × Bool):=if sqN l0=true then some ((redP l0 (idM l0.length) l0.length).1.map Prod.snd,decide ((redP l0 (idM l0.length) l0.length).2=l0.length)) else none
set_option maxHeartbeats 16000000 in
theorem spec_l2Inverse.calls (A0:Option Addr) (c0:Nat) (l0:List (List Int)) (r1:List (List Int)) (r2:Bool) (w:World) (hr0:Kd.C (Kd.slice 5 (Kd.int .u8)) w A0 l0.length l0) (hc0:l0.length≤c0) (h:spec_l2Inverse.f l0=some (r1,r2)) :
  Calls Try.prog 114 #[.agg #[.slice A0 l0.length c0]] w fun e w'=>∃ v0_:Value,e = .returned (.tuple #[.agg #[v0_], .bool r2])∧Kd.N (Kd.slice 5 (Kd.int .u8)) 24 w' w.heap.size (fun k_=>(w.heap.size≤k_)) v0_ r1∧Below w.heap.size w w':=by
 unfold spec_l2Inverse.f at h
 by_cases hs:sqN l0=true
 case neg=>rw [if_neg hs] at h;cases h
 rw [if_pos hs] at h
 have hrr:=Option.some.inj h
 clear h
 obtain ⟨h1,h2,h3⟩:=sqN_iff.1 hs
 clear hs
 obtain ⟨n,hn⟩:∃ n,n=l0.length:=⟨_,rfl⟩
 rw [← hn] at hrr h3
 obtain ⟨D,hD⟩:∃ D,D=(redP l0 (idM n) n).1.map Prod.snd:=⟨_,rfl⟩
 obtain ⟨z,hz⟩:∃ z,z=(redP l0 (idM n) n).2:=⟨_,rfl⟩
 rw [← hD,← hz] at hrr
 injection hrr with e1 e2
 subst e1
 obtain ⟨kI,hI⟩:=(SpecInv.spec_l2Identity.ev n D11).rounds
 have HI:=am hI
 have HN:=am hn
 have HD:=am hD
 have HZ:=am hz
 have HE2:=am e2
 have HR0:=am hr0
 have HOK:=am h3
 have hn1:1≤n:=by omega
 have hn2:n≤1000:=by omega
 rw [← hn] at hc0 ⊢
 clear hI hn hD hz e2 hr0 h1 h2 h3
 have hu:=Try.underlying27
 obtain ⟨W0,hW⟩:∃ W:World,W=(w.alloc (.cells #[.slice A0 n c0] 27 (0,0))).alloc (.cells #[.slice none 0 0] 27 (0,0)):=⟨_,rfl⟩
 have HB:Below w.heap.size w W0:=by rw [hW];exact pa (pa (Below.refl _ _) _) _
 have b1:W0.heap[w.heap.size]? = some (.cells #[.slice A0 n c0] 27 (0,0)):=by rw [hW];exact qa (heap_alloc_new w _) _
 have b2:W0.heap[w.heap.size+1]? = some (.cells #[.slice none 0 0] 27 (0,0)):=by rw [hW];have y:=heap_alloc_new (w.alloc (.cells #[.slice A0 n c0] 27 (0,0))) (.cells #[.slice none 0 0] 27 (0,0));simpa using y
 have hbox:W0.cell? ⟨w.heap.size,0,none⟩=some (.slice A0 n c0):=(blk_cell b1 0).trans rfl
 have hp2:=blk_lt b2
 go_enter Try.func114,Try.ntmps114
 go_wp2_with fail
 rw [← hW]
 clear hW
 have HBOX:=hbox
 have h12:w.heap.size ≠ w.heap.size+1:=by omega
 refine start_ (n:=13) (S:=fun w'=>w'.cell? ⟨w.heap.size,0,none⟩=some (.slice A0 n c0)) (ds:=[10,11]) #[Z,Z,Z,Z,Z,Z,Z,Z,Z,Z,Z,Z,Z] D5 rfl rfl hbox (fun hHeld=>?_)
 replace HB:=pd HB
 replace b1:=qd b1
 replace b2:=qd b2
 have up2:w.heap.size+1 < W0.drew.heap.size:=blk_lt b2
 have hsw:w.heap.size≤W0.drew.heap.size:=HB.size
 have lp2:w.heap.size≤w.heap.size+1:=by omega
 clear hbox HBOX hp2 h12
 generalize W0.drew=W1 at HB b1 b2 hHeld up2 hsw ⊢
 refine take_ (i:=0) (N:=some 12) (v:=?_) (a':=?_) #[Y,Z,Z,Z,Z,Z,Z,Z,Z,Z,Z,Z,Z] rfl rfl D5 hh (Or.inl ⟨D15,?_⟩) hHeld ?_ ?_
 rotate_left
 ·intro w' s0
  go_simp
  with_reducible rfl
 rotate_left
 ·simp only [Act.put,q1,q2,q3,i64_w,i32_w]
  rfl
 refine pure_ (i:=1) (N:=some 13) (v:=_) (a':=_) #[Y,Y,Z,Z,Z,Z,Z,Z,Z,Z,Z,Z,Z] rfl rfl D5 hh (Or.inl ⟨D15,nP⟩) nQ ?_
 obtain ⟨p2,hp2⟩:∃ p2,p2=w.heap.size+1:=⟨_,rfl⟩
 rw [← hp2] at b2 up2 lp2
 have hpp:w.heap.size+1=p2:=hp2.symm
 clear hp2
 rw [hpp]
 refine join_ (σ:=Nat × Nat × (Option Addr × Nat) × (Option Addr × Nat × Nat) × (Option Addr × Nat × Nat)) 3 #[Y,Y,Y,Y,Y,Y,Y,Y,Y,Y,Z,Z,Z] (fun s=>[(14, .agg #[.slice s.2.2.1.1 n s.2.2.1.2]),(15, .tuple #[.agg #[.slice s.2.2.2.1.1 s.2.2.2.1.2.1 s.2.2.2.1.2.2], .agg #[.slice s.2.2.2.2.1 s.2.2.2.2.2.1 s.2.2.2.2.2.2], .int .i64 (z:Nat)]),(5, .pointer (some ⟨s.1,0,none⟩)),(6, .pointer (some ⟨s.2.1,0,none⟩)),(11, .tuple #[.agg #[.slice s.2.2.2.1.1 s.2.2.2.1.2.1 s.2.2.2.1.2.2], .agg #[.slice s.2.2.2.2.1 s.2.2.2.2.2.1 s.2.2.2.2.2.2], .int .i64 (z:Nat)]),(16, .agg #[.slice s.2.2.2.1.1 s.2.2.2.1.2.1 s.2.2.2.1.2.2]),(17, .agg #[.slice s.2.2.2.2.1 s.2.2.2.2.2.1 s.2.2.2.2.2.2]),(18, .int .i64 (z:Nat))])
  (fun s W=>Below w.heap.size w W∧W.heap[p2]? = some (.cells #[.slice none 0 0] 27 (0,0))∧W.heap[s.1]? = some (.cells #[.slice none 0 0] 27 (0,0))∧W.heap[s.2.1]? = some (.cells #[.slice none 0 0] 27 (0,0))∧s.1 ≠ s.2.1∧w.heap.size≤s.1∧w.heap.size≤s.2.1∧∃ lo hi,Kd.N (Kd.slice 5 (Kd.int .u8)) 24 W w.heap.size (fun b=>lo≤b∧b < hi) (.slice s.2.2.2.2.1 s.2.2.2.2.2.1 s.2.2.2.2.2.2) D∧(s.1 < lo∨hi≤s.1)∧(s.2.1 < lo∨hi≤s.2.1)∧p2 < lo∧w.heap.size≤lo∧p2 ≠ s.1∧p2 ≠ s.2.1) ?_ ?_
 rotate_left
 ·intro hcont
  refine three_ (i:=2) (j:=8) (k:=9) (Ni:=some 14) (Nj:=some 5) (Nk:=some 6) #[Y,Y,Y,Z,Z,Z,Z,Z,Z,Z,Z,Z,Z] #[Y,Y,Z,Z,Z,Z,Z,Z,Y,Z,Z,Z,Z] #[Y,Y,Z,Z,Z,Z,Z,Z,Z,Y,Z,Z,Z] rfl rfl rfl rfl rfl rfl D5 D8 D8 D8 (fun K hK=>?_) (fun K hK=>?_) (fun K hK=>?_)
  ·skip
   refine goes_ Try.func149 D5 rfl #[.int .i64 n] D15 rfl rfl D27 ?_
   refine (spec_l2Identity.calls kI (n:Int) (idM n) _ HI.out).mono ?_
   rintro e W2_ ⟨v14,rfl,ho,hb⟩
   refine ⟨_,rfl,?_⟩
   obtain ⟨A14,c14,e14⟩:=Kd.S_slice ho
   rw [idM_length] at e14
   subst e14
   have hI:=(Kd.S_reads' ho).2.2
   have hIc:=(Kd.S_reads' ho).2.1
   clear ho
   have hsz_:=hb.size
   replace b1:=qb b1 hb
   replace b2:=qb b2 hb
   replace HB:=pu HB hb
   replace hsw:w.heap.size≤W2_.heap.size:=by omega
   replace up2:p2 < W2_.heap.size:=by omega
   clear hb hsz_
   refine hK.out _ _ ((blk_cell b1 0).trans rfl) (fun hHeld=>?_)
   clear hK K
   refine norm_ (nA 14) ?_
   refine three_ (i:=3) (j:=8) (k:=9) (Ni:=some 15) (Nj:=some 5) (Nk:=some 6) #[Y,Y,Y,Y,Z,Z,Z,Z,Z,Z,Z,Z,Z] #[Y,Y,Y,Z,Z,Z,Z,Z,Y,Z,Z,Z,Z] #[Y,Y,Y,Z,Z,Z,Z,Z,Z,Y,Z,Z,Z] rfl rfl rfl rfl rfl rfl D5 D8 D8 D8 (fun K hK=>?_) (fun K hK=>?_) (fun K hK=>?_)
   ·skip
    refine goes_ Try.func148 D5 rfl #[.agg #[.slice A0 n c0], .agg #[.slice A14 n c14]] D15 rfl rfl D27 ?_
    have hc:=spec_l2Reduce.calls A0 c0 l0 A14 c14 (idM n) n n W2_ (Kd.C_below HR0.out HB) D63 hI D64 HOK.out (idM_ok n) D62 D61 D57 hn2 hn2
    rw [← HN.out,idM_length,← HZ.out,← HD.out] at hc
    refine hc.mono ?_
    clear hc
    rintro e W3_ ⟨A5,n5,c5,v1,rfl,hN0,hb⟩
    refine ⟨_,rfl,?_⟩
    obtain ⟨A6,c6,e6⟩:=Kd.N_slice hN0
    generalize hn6:D.length=n6 at e6
    subst e6
    obtain ⟨lo,hlo⟩:∃ z,z=W2_.heap.size:=⟨_,rfl⟩
    obtain ⟨hi,hhi⟩:∃ z,z=W3_.heap.size:=⟨_,rfl⟩
    have hN:=Kd.N_lower (Kd.N_mono (Kd.N_bound hN0) (ok':=fun b=>lo≤b∧b < hi) (fun b hk=>⟨D96,D95⟩)) hsw
    clear hN0
    have hlw:w.heap.size≤lo:=by omega
    have rp2:p2 < lo:=by omega
    have uhi:hi≤W3_.heap.size:=by omega
    clear hlo hhi
    have hsz_:=hb.size
    replace b1:=qb b1 hb
    replace b2:=qb b2 hb
    replace HB:=pu HB hb
    replace hsw:w.heap.size≤W3_.heap.size:=by omega
    replace up2:p2 < W3_.heap.size:=by omega
    clear hb hsz_
    refine hK.out _ _ ((blk_cell b1 0).trans rfl) (fun hHeld=>?_)
    clear hK K
    refine norm_ (nA 15) ?_
    refine pure_ (i:=4) (N:=some 11) (v:=_) (a':=_) #[Y,Y,Y,Y,Y,Z,Z,Z,Z,Z,Z,Z,Z] rfl rfl D5 hh (Or.inl ⟨D15,nP⟩) nQ ?_
    refine pure_ (i:=5) (N:=some 16) (v:=_) (a':=_) #[Y,Y,Y,Y,Y,Y,Z,Z,Z,Z,Z,Z,Z] rfl rfl D5 hh (Or.inl ⟨D15,nP⟩) nQ ?_
    refine pure_ (i:=6) (N:=some 17) (v:=_) (a':=_) #[Y,Y,Y,Y,Y,Y,Y,Z,Z,Z,Z,Z,Z] rfl rfl D5 hh (Or.inl ⟨D15,nP⟩) nQ ?_
    refine pure_ (i:=7) (N:=some 18) (v:=_) (a':=_) #[Y,Y,Y,Y,Y,Y,Y,Y,Z,Z,Z,Z,Z] rfl rfl D5 hh (Or.inl ⟨D15,nP⟩) nQ ?_
    refine two_ (i:=8) (j:=9) (Ni:=some 5) (Nj:=some 6) #[Y,Y,Y,Y,Y,Y,Y,Y,Y,Z,Z,Z,Z] #[Y,Y,Y,Y,Y,Y,Y,Y,Z,Y,Z,Z,Z] rfl rfl rfl rfl D5 D8 D8 (fun K hK=>?_) (fun K hK=>?_)
    ·skip
     refine value_ (v:=.pointer (some ⟨W3_.heap.size,0,none⟩)) (w1:=W3_.alloc (.cells #[.slice none 0 0] 27 (0,0))) D15 rfl ?_ ?_
     ·first|(go_simp;done)|(go_simp;rfl)
     have hq_:=Below.refl W3_.heap.size W3_
     have hal_:=pa hq_ (.cells #[.slice none 0 0] 27 (0,0))
     have b5:=heap_alloc_new W3_ (.cells #[.slice none 0 0] 27 (0,0))
     have hsz_:(W3_.alloc (.cells #[.slice none 0 0] 27 (0,0))).heap.size=W3_.heap.size+1:=by simp
     replace b1:=qa b1 (.cells #[.slice none 0 0] 27 (0,0))
     replace b2:=qa b2 (.cells #[.slice none 0 0] 27 (0,0))
     replace HB:=pa HB (.cells #[.slice none 0 0] 27 (0,0))
     replace hN:=Kd.N_alloc hN (.cells #[.slice none 0 0] 27 (0,0))
     generalize W3_.alloc (.cells #[.slice none 0 0] 27 (0,0))=W4_ at *
     obtain ⟨q5,hq5⟩:∃ q5,q5=W3_.heap.size:=⟨_,rfl⟩
     rw [← hq5] at b5 ⊢
     have lq5:w.heap.size≤q5:=by omega
     have np25:p2 ≠ q5:=by omega
     have uq5:q5 < W4_.heap.size:=by omega
     have rq5:q5 < lo∨hi≤q5:=Or.inr D11
     replace uhi:hi≤W4_.heap.size:=by omega
     replace hsw:w.heap.size≤W4_.heap.size:=by omega
     replace up2:p2 < W4_.heap.size:=by omega
     clear hq_ hal_ hsz_ hq5
     refine hK.out _ _ ((blk_cell b1 0).trans rfl) (fun hHeld=>?_)
     clear hK K
     refine norm_ (nA 5) ?_
     refine one_ (i:=9) (N:=some 6) #[Y,Y,Y,Y,Y,Y,Y,Y,Y,Y,Z,Z,Z] rfl rfl D5 D8 (fun K hK=>?_)
     refine value_ (v:=.pointer (some ⟨W4_.heap.size,0,none⟩)) (w1:=W4_.alloc (.cells #[.slice none 0 0] 27 (0,0))) D15 rfl ?_ ?_
     ·first|(go_simp;done)|(go_simp;rfl)
     have hq_:=Below.refl W4_.heap.size W4_
     have hal_:=pa hq_ (.cells #[.slice none 0 0] 27 (0,0))
     have b6:=heap_alloc_new W4_ (.cells #[.slice none 0 0] 27 (0,0))
     have hsz_:(W4_.alloc (.cells #[.slice none 0 0] 27 (0,0))).heap.size=W4_.heap.size+1:=by simp
     replace b1:=qa b1 (.cells #[.slice none 0 0] 27 (0,0))
     replace b2:=qa b2 (.cells #[.slice none 0 0] 27 (0,0))
     replace b5:=qa b5 (.cells #[.slice none 0 0] 27 (0,0))
     replace HB:=pa HB (.cells #[.slice none 0 0] 27 (0,0))
     replace hN:=Kd.N_alloc hN (.cells #[.slice none 0 0] 27 (0,0))
     generalize W4_.alloc (.cells #[.slice none 0 0] 27 (0,0))=W5_ at *
     obtain ⟨q6,hq6⟩:∃ q6,q6=W4_.heap.size:=⟨_,rfl⟩
     rw [← hq6] at b6 ⊢
     have lq6:w.heap.size≤q6:=by omega
     have np26:p2 ≠ q6:=by omega
     have uq6:q6 < W5_.heap.size:=by omega
     have hne:q5 ≠ q6:=by omega
     replace uq5:q5 < W5_.heap.size:=by omega
     have rq6:q6 < lo∨hi≤q6:=Or.inr D11
     replace uhi:hi≤W5_.heap.size:=by omega
     replace hsw:w.heap.size≤W5_.heap.size:=by omega
     replace up2:p2 < W5_.heap.size:=by omega
     clear hq_ hal_ hsz_ hq6
     refine hK.out _ _ ((blk_cell b1 0).trans rfl) (fun hHeld=>?_)
     clear hK K
     refine norm_ (nA 6) ?_
     refine norm_ ?_ (hcont (q5,q6,(A14,c14),(A5,n5,c5),(A6,n6,c6)) _ ⟨HB,b2,b5,b6,hne,lq5,lq6,lo,hi,hN,rq5,rq6,rp2,hlw,np25,np26⟩)
     first|(simp only [putAll,Act.put,q1,q2,q3];done)|rfl|(simp only [putAll,Act.put,q1,q2,q3];rfl)
    skip
    refine value_ (v:=.pointer (some ⟨W3_.heap.size,0,none⟩)) (w1:=W3_.alloc (.cells #[.slice none 0 0] 27 (0,0))) D15 rfl ?_ ?_
    ·first|(go_simp;done)|(go_simp;rfl)
    have hq_:=Below.refl W3_.heap.size W3_
    have hal_:=pa hq_ (.cells #[.slice none 0 0] 27 (0,0))
    have b6:=heap_alloc_new W3_ (.cells #[.slice none 0 0] 27 (0,0))
    have hsz_:(W3_.alloc (.cells #[.slice none 0 0] 27 (0,0))).heap.size=W3_.heap.size+1:=by simp
    replace b1:=qa b1 (.cells #[.slice none 0 0] 27 (0,0))
    replace b2:=qa b2 (.cells #[.slice none 0 0] 27 (0,0))
    replace HB:=pa HB (.cells #[.slice none 0 0] 27 (0,0))
    replace hN:=Kd.N_alloc hN (.cells #[.slice none 0 0] 27 (0,0))
    generalize W3_.alloc (.cells #[.slice none 0 0] 27 (0,0))=W4_ at *
    obtain ⟨q6,hq6⟩:∃ q6,q6=W3_.heap.size:=⟨_,rfl⟩
    rw [← hq6] at b6 ⊢
    have lq6:w.heap.size≤q6:=by omega
    have np26:p2 ≠ q6:=by omega
    have uq6:q6 < W4_.heap.size:=by omega
    have rq6:q6 < lo∨hi≤q6:=Or.inr D11
    replace uhi:hi≤W4_.heap.size:=by omega
    replace hsw:w.heap.size≤W4_.heap.size:=by omega
    replace up2:p2 < W4_.heap.size:=by omega
    clear hq_ hal_ hsz_ hq6
    refine hK.out _ _ ((blk_cell b1 0).trans rfl) (fun hHeld=>?_)
    clear hK K
    refine norm_ (nA 6) ?_
    refine one_ (i:=8) (N:=some 5) #[Y,Y,Y,Y,Y,Y,Y,Y,Y,Y,Z,Z,Z] rfl rfl D5 D8 (fun K hK=>?_)
    refine value_ (v:=.pointer (some ⟨W4_.heap.size,0,none⟩)) (w1:=W4_.alloc (.cells #[.slice none 0 0] 27 (0,0))) D15 rfl ?_ ?_
    ·first|(go_simp;done)|(go_simp;rfl)
    have hq_:=Below.refl W4_.heap.size W4_
    have hal_:=pa hq_ (.cells #[.slice none 0 0] 27 (0,0))
    have b5:=heap_alloc_new W4_ (.cells #[.slice none 0 0] 27 (0,0))
    have hsz_:(W4_.alloc (.cells #[.slice none 0 0] 27 (0,0))).heap.size=W4_.heap.size+1:=by simp
    replace b1:=qa b1 (.cells #[.slice none 0 0] 27 (0,0))
    replace b2:=qa b2 (.cells #[.slice none 0 0] 27 (0,0))
    replace b6:=qa b6 (.cells #[.slice none 0 0] 27 (0,0))
    replace HB:=pa HB (.cells #[.slice none 0 0] 27 (0,0))
    replace hN:=Kd.N_alloc hN (.cells #[.slice none 0 0] 27 (0,0))
    generalize W4_.alloc (.cells #[.slice none 0 0] 27 (0,0))=W5_ at *
    obtain ⟨q5,hq5⟩:∃ q5,q5=W4_.heap.size:=⟨_,rfl⟩
    rw [← hq5] at b5 ⊢
    have lq5:w.heap.size≤q5:=by omega
    have np25:p2 ≠ q5:=by omega
    have uq5:q5 < W5_.heap.size:=by omega
    have hne:q5 ≠ q6:=by omega
    replace uq6:q6 < W5_.heap.size:=by omega
    have rq5:q5 < lo∨hi≤q5:=Or.inr D11
    replace uhi:hi≤W5_.heap.size:=by omega
    replace hsw:w.heap.size≤W5_.heap.size:=by omega
    replace up2:p2 < W5_.heap.size:=by omega
    clear hq_ hal_ hsz_ hq5
    refine hK.out _ _ ((blk_cell b1 0).trans rfl) (fun hHeld=>?_)
    clear hK K
    refine norm_ (nA 5) ?_
    refine norm_ ?_ (hcont (q5,q6,(A14,c14),(A5,n5,c5),(A6,n6,c6)) _ ⟨HB,b2,b5,b6,hne,lq5,lq6,lo,hi,hN,rq5,rq6,rp2,hlw,np25,np26⟩)
    first|(simp only [putAll,Act.put,q1,q2,q3];done)|rfl|(simp only [putAll,Act.put,q1,q2,q3];rfl)
   ·skip
    refine value_ (v:=.pointer (some ⟨W2_.heap.size,0,none⟩)) (w1:=W2_.alloc (.cells #[.slice none 0 0] 27 (0,0))) D15 rfl ?_ ?_
    ·first|(go_simp;done)|(go_simp;rfl)
    have hq_:=Below.refl W2_.heap.size W2_
    have hal_:=pa hq_ (.cells #[.slice none 0 0] 27 (0,0))
    have b5:=heap_alloc_new W2_ (.cells #[.slice none 0 0] 27 (0,0))
    have hsz_:(W2_.alloc (.cells #[.slice none 0 0] 27 (0,0))).heap.size=W2_.heap.size+1:=by simp
    replace b1:=qa b1 (.cells #[.slice none 0 0] 27 (0,0))
    replace b2:=qa b2 (.cells #[.slice none 0 0] 27 (0,0))
    replace HB:=pa HB (.cells #[.slice none 0 0] 27 (0,0))
    replace hI:=Kd.C_alloc hI (.cells #[.slice none 0 0] 27 (0,0))
    generalize W2_.alloc (.cells #[.slice none 0 0] 27 (0,0))=W3_ at *
    obtain ⟨q5,hq5⟩:∃ q5,q5=W2_.heap.size:=⟨_,rfl⟩
    rw [← hq5] at b5 ⊢
    have lq5:w.heap.size≤q5:=by omega
    have np25:p2 ≠ q5:=by omega
    have uq5:q5 < W3_.heap.size:=by omega
    replace hsw:w.heap.size≤W3_.heap.size:=by omega
    replace up2:p2 < W3_.heap.size:=by omega
    clear hq_ hal_ hsz_ hq5
    refine hK.out _ _ ((blk_cell b1 0).trans rfl) (fun hHeld=>?_)
    clear hK K
    refine norm_ (nA 5) ?_
    refine two_ (i:=3) (j:=9) (Ni:=some 15) (Nj:=some 6) #[Y,Y,Y,Y,Z,Z,Z,Z,Y,Z,Z,Z,Z] #[Y,Y,Y,Z,Z,Z,Z,Z,Y,Y,Z,Z,Z] rfl rfl rfl rfl D5 D8 D8 (fun K hK=>?_) (fun K hK=>?_)
    ·skip
     refine goes_ Try.func148 D5 rfl #[.agg #[.slice A0 n c0], .agg #[.slice A14 n c14]] D15 rfl rfl D27 ?_
     have hc:=spec_l2Reduce.calls A0 c0 l0 A14 c14 (idM n) n n W3_ (Kd.C_below HR0.out HB) D63 hI D64 HOK.out (idM_ok n) D62 D61 D57 hn2 hn2
     rw [← HN.out,idM_length,← HZ.out,← HD.out] at hc
     refine hc.mono ?_
     clear hc
     rintro e W4_ ⟨A5,n5,c5,v1,rfl,hN0,hb⟩
     refine ⟨_,rfl,?_⟩
     obtain ⟨A6,c6,e6⟩:=Kd.N_slice hN0
     generalize hn6:D.length=n6 at e6
     subst e6
     obtain ⟨lo,hlo⟩:∃ z,z=W3_.heap.size:=⟨_,rfl⟩
     obtain ⟨hi,hhi⟩:∃ z,z=W4_.heap.size:=⟨_,rfl⟩
     have hN:=Kd.N_lower (Kd.N_mono (Kd.N_bound hN0) (ok':=fun b=>lo≤b∧b < hi) (fun b hk=>⟨D96,D95⟩)) hsw
     clear hN0
     have hlw:w.heap.size≤lo:=by omega
     have rp2:p2 < lo:=by omega
     have uhi:hi≤W4_.heap.size:=by omega
     have rq5:q5 < lo∨hi≤q5:=Or.inl D11
     clear hlo hhi
     have hsz_:=hb.size
     replace b1:=qb b1 hb
     replace b2:=qb b2 hb
     replace b5:=qb b5 hb
     replace HB:=pu HB hb
     replace hsw:w.heap.size≤W4_.heap.size:=by omega
     replace up2:p2 < W4_.heap.size:=by omega
     replace uq5:q5 < W4_.heap.size:=by omega
     clear hb hsz_
     refine hK.out _ _ ((blk_cell b1 0).trans rfl) (fun hHeld=>?_)
     clear hK K
     refine norm_ (nA 15) ?_
     refine pure_ (i:=4) (N:=some 11) (v:=_) (a':=_) #[Y,Y,Y,Y,Y,Z,Z,Z,Y,Z,Z,Z,Z] rfl rfl D5 hh (Or.inl ⟨D15,nP⟩) nQ ?_
     refine pure_ (i:=5) (N:=some 16) (v:=_) (a':=_) #[Y,Y,Y,Y,Y,Y,Z,Z,Y,Z,Z,Z,Z] rfl rfl D5 hh (Or.inl ⟨D15,nP⟩) nQ ?_
     refine pure_ (i:=6) (N:=some 17) (v:=_) (a':=_) #[Y,Y,Y,Y,Y,Y,Y,Z,Y,Z,Z,Z,Z] rfl rfl D5 hh (Or.inl ⟨D15,nP⟩) nQ ?_
     refine pure_ (i:=7) (N:=some 18) (v:=_) (a':=_) #[Y,Y,Y,Y,Y,Y,Y,Y,Y,Z,Z,Z,Z] rfl rfl D5 hh (Or.inl ⟨D15,nP⟩) nQ ?_
     refine one_ (i:=9) (N:=some 6) #[Y,Y,Y,Y,Y,Y,Y,Y,Y,Y,Z,Z,Z] rfl rfl D5 D8 (fun K hK=>?_)
     refine value_ (v:=.pointer (some ⟨W4_.heap.size,0,none⟩)) (w1:=W4_.alloc (.cells #[.slice none 0 0] 27 (0,0))) D15 rfl ?_ ?_
     ·first|(go_simp;done)|(go_simp;rfl)
     have hq_:=Below.refl W4_.heap.size W4_
     have hal_:=pa hq_ (.cells #[.slice none 0 0] 27 (0,0))
     have b6:=heap_alloc_new W4_ (.cells #[.slice none 0 0] 27 (0,0))
     have hsz_:(W4_.alloc (.cells #[.slice none 0 0] 27 (0,0))).heap.size=W4_.heap.size+1:=by simp
     replace b1:=qa b1 (.cells #[.slice none 0 0] 27 (0,0))
     replace b2:=qa b2 (.cells #[.slice none 0 0] 27 (0,0))
     replace b5:=qa b5 (.cells #[.slice none 0 0] 27 (0,0))
     replace HB:=pa HB (.cells #[.slice none 0 0] 27 (0,0))
     replace hN:=Kd.N_alloc hN (.cells #[.slice none 0 0] 27 (0,0))
     generalize W4_.alloc (.cells #[.slice none 0 0] 27 (0,0))=W5_ at *
     obtain ⟨q6,hq6⟩:∃ q6,q6=W4_.heap.size:=⟨_,rfl⟩
     rw [← hq6] at b6 ⊢
     have lq6:w.heap.size≤q6:=by omega
     have np26:p2 ≠ q6:=by omega
     have uq6:q6 < W5_.heap.size:=by omega
     have hne:q5 ≠ q6:=by omega
     replace uq5:q5 < W5_.heap.size:=by omega
     have rq6:q6 < lo∨hi≤q6:=Or.inr D11
     replace uhi:hi≤W5_.heap.size:=by omega
     replace hsw:w.heap.size≤W5_.heap.size:=by omega
     replace up2:p2 < W5_.heap.size:=by omega
     clear hq_ hal_ hsz_ hq6
     refine hK.out _ _ ((blk_cell b1 0).trans rfl) (fun hHeld=>?_)
     clear hK K
     refine norm_ (nA 6) ?_
     refine norm_ ?_ (hcont (q5,q6,(A14,c14),(A5,n5,c5),(A6,n6,c6)) _ ⟨HB,b2,b5,b6,hne,lq5,lq6,lo,hi,hN,rq5,rq6,rp2,hlw,np25,np26⟩)
     first|(simp only [putAll,Act.put,q1,q2,q3];done)|rfl|(simp only [putAll,Act.put,q1,q2,q3];rfl)
    skip
    refine value_ (v:=.pointer (some ⟨W3_.heap.size,0,none⟩)) (w1:=W3_.alloc (.cells #[.slice none 0 0] 27 (0,0))) D15 rfl ?_ ?_
    ·first|(go_simp;done)|(go_simp;rfl)
    have hq_:=Below.refl W3_.heap.size W3_
    have hal_:=pa hq_ (.cells #[.slice none 0 0] 27 (0,0))
    have b6:=heap_alloc_new W3_ (.cells #[.slice none 0 0] 27 (0,0))
    have hsz_:(W3_.alloc (.cells #[.slice none 0 0] 27 (0,0))).heap.size=W3_.heap.size+1:=by simp
    replace b1:=qa b1 (.cells #[.slice none 0 0] 27 (0,0))
    replace b2:=qa b2 (.cells #[.slice none 0 0] 27 (0,0))
    replace b5:=qa b5 (.cells #[.slice none 0 0] 27 (0,0))
    replace HB:=pa HB (.cells #[.slice none 0 0] 27 (0,0))
    replace hI:=Kd.C_alloc hI (.cells #[.slice none 0 0] 27 (0,0))
    generalize W3_.alloc (.cells #[.slice none 0 0] 27 (0,0))=W4_ at *
    obtain ⟨q6,hq6⟩:∃ q6,q6=W3_.heap.size:=⟨_,rfl⟩
    rw [← hq6] at b6 ⊢
    have lq6:w.heap.size≤q6:=by omega
    have np26:p2 ≠ q6:=by omega
    have uq6:q6 < W4_.heap.size:=by omega
    have hne:q5 ≠ q6:=by omega
    replace uq5:q5 < W4_.heap.size:=by omega
    replace hsw:w.heap.size≤W4_.heap.size:=by omega
    replace up2:p2 < W4_.heap.size:=by omega
    clear hq_ hal_ hsz_ hq6
    refine hK.out _ _ ((blk_cell b1 0).trans rfl) (fun hHeld=>?_)
    clear hK K
    refine norm_ (nA 6) ?_
    refine one_ (i:=3) (N:=some 15) #[Y,Y,Y,Y,Z,Z,Z,Z,Y,Y,Z,Z,Z] rfl rfl D5 D8 (fun K hK=>?_)
    refine goes_ Try.func148 D5 rfl #[.agg #[.slice A0 n c0], .agg #[.slice A14 n c14]] D15 rfl rfl D27 ?_
    have hc:=spec_l2Reduce.calls A0 c0 l0 A14 c14 (idM n) n n W4_ (Kd.C_below HR0.out HB) D63 hI D64 HOK.out (idM_ok n) D62 D61 D57 hn2 hn2
    rw [← HN.out,idM_length,← HZ.out,← HD.out] at hc
    refine hc.mono ?_
    clear hc
    rintro e W5_ ⟨A5,n5,c5,v1,rfl,hN0,hb⟩
    refine ⟨_,rfl,?_⟩
    obtain ⟨A6,c6,e6⟩:=Kd.N_slice hN0
    generalize hn6:D.length=n6 at e6
    subst e6
    obtain ⟨lo,hlo⟩:∃ z,z=W4_.heap.size:=⟨_,rfl⟩
    obtain ⟨hi,hhi⟩:∃ z,z=W5_.heap.size:=⟨_,rfl⟩
    have hN:=Kd.N_lower (Kd.N_mono (Kd.N_bound hN0) (ok':=fun b=>lo≤b∧b < hi) (fun b hk=>⟨D96,D95⟩)) hsw
    clear hN0
    have hlw:w.heap.size≤lo:=by omega
    have rp2:p2 < lo:=by omega
    have uhi:hi≤W5_.heap.size:=by omega
    have rq5:q5 < lo∨hi≤q5:=Or.inl D11
    have rq6:q6 < lo∨hi≤q6:=Or.inl D11
    clear hlo hhi
    have hsz_:=hb.size
    replace b1:=qb b1 hb
    replace b2:=qb b2 hb
    replace b5:=qb b5 hb
    replace b6:=qb b6 hb
    replace HB:=pu HB hb
    replace hsw:w.heap.size≤W5_.heap.size:=by omega
    replace up2:p2 < W5_.heap.size:=by omega
    replace uq5:q5 < W5_.heap.size:=by omega
    replace uq6:q6 < W5_.heap.size:=by omega
    clear hb hsz_
    refine hK.out _ _ ((blk_cell b1 0).trans rfl) (fun hHeld=>?_)
    clear hK K
    refine norm_ (nA 15) ?_
    refine pure_ (i:=4) (N:=some 11) (v:=_) (a':=_) #[Y,Y,Y,Y,Y,Z,Z,Z,Y,Y,Z,Z,Z] rfl rfl D5 hh (Or.inl ⟨D15,nP⟩) nQ ?_
    refine pure_ (i:=5) (N:=some 16) (v:=_) (a':=_) #[Y,Y,Y,Y,Y,Y,Z,Z,Y,Y,Z,Z,Z] rfl rfl D5 hh (Or.inl ⟨D15,nP⟩) nQ ?_
    refine pure_ (i:=6) (N:=some 17) (v:=_) (a':=_) #[Y,Y,Y,Y,Y,Y,Y,Z,Y,Y,Z,Z,Z] rfl rfl D5 hh (Or.inl ⟨D15,nP⟩) nQ ?_
    refine pure_ (i:=7) (N:=some 18) (v:=_) (a':=_) #[Y,Y,Y,Y,Y,Y,Y,Y,Y,Y,Z,Z,Z] rfl rfl D5 hh (Or.inl ⟨D15,nP⟩) nQ ?_
    refine norm_ ?_ (hcont (q5,q6,(A14,c14),(A5,n5,c5),(A6,n6,c6)) _ ⟨HB,b2,b5,b6,hne,lq5,lq6,lo,hi,hN,rq5,rq6,rp2,hlw,np25,np26⟩)
    first|(simp only [putAll,Act.put,q1,q2,q3];done)|rfl|(simp only [putAll,Act.put,q1,q2,q3];rfl)
   skip
   refine value_ (v:=.pointer (some ⟨W2_.heap.size,0,none⟩)) (w1:=W2_.alloc (.cells #[.slice none 0 0] 27 (0,0))) D15 rfl ?_ ?_
   ·first|(go_simp;done)|(go_simp;rfl)
   have hq_:=Below.refl W2_.heap.size W2_
   have hal_:=pa hq_ (.cells #[.slice none 0 0] 27 (0,0))
   have b6:=heap_alloc_new W2_ (.cells #[.slice none 0 0] 27 (0,0))
   have hsz_:(W2_.alloc (.cells #[.slice none 0 0] 27 (0,0))).heap.size=W2_.heap.size+1:=by simp
   replace b1:=qa b1 (.cells #[.slice none 0 0] 27 (0,0))
   replace b2:=qa b2 (.cells #[.slice none 0 0] 27 (0,0))
   replace HB:=pa HB (.cells #[.slice none 0 0] 27 (0,0))
   replace hI:=Kd.C_alloc hI (.cells #[.slice none 0 0] 27 (0,0))
   generalize W2_.alloc (.cells #[.slice none 0 0] 27 (0,0))=W3_ at *
   obtain ⟨q6,hq6⟩:∃ q6,q6=W2_.heap.size:=⟨_,rfl⟩
   rw [← hq6] at b6 ⊢
   have lq6:w.heap.size≤q6:=by omega
   have np26:p2 ≠ q6:=by omega
   have uq6:q6 < W3_.heap.size:=by omega
   replace hsw:w.heap.size≤W3_.heap.size:=by omega
   replace up2:p2 < W3_.heap.size:=by omega
   clear hq_ hal_ hsz_ hq6
   refine hK.out _ _ ((blk_cell b1 0).trans rfl) (fun hHeld=>?_)
   clear hK K
   refine norm_ (nA 6) ?_
   refine two_ (i:=3) (j:=8) (Ni:=some 15) (Nj:=some 5) #[Y,Y,Y,Y,Z,Z,Z,Z,Z,Y,Z,Z,Z] #[Y,Y,Y,Z,Z,Z,Z,Z,Y,Y,Z,Z,Z] rfl rfl rfl rfl D5 D8 D8 (fun K hK=>?_) (fun K hK=>?_)
   ·skip
    refine goes_ Try.func148 D5 rfl #[.agg #[.slice A0 n c0], .agg #[.slice A14 n c14]] D15 rfl rfl D27 ?_
    have hc:=spec_l2Reduce.calls A0 c0 l0 A14 c14 (idM n) n n W3_ (Kd.C_below HR0.out HB) D63 hI D64 HOK.out (idM_ok n) D62 D61 D57 hn2 hn2
    rw [← HN.out,idM_length,← HZ.out,← HD.out] at hc
    refine hc.mono ?_
    clear hc
    rintro e W4_ ⟨A5,n5,c5,v1,rfl,hN0,hb⟩
    refine ⟨_,rfl,?_⟩
    obtain ⟨A6,c6,e6⟩:=Kd.N_slice hN0
    generalize hn6:D.length=n6 at e6
    subst e6
    obtain ⟨lo,hlo⟩:∃ z,z=W3_.heap.size:=⟨_,rfl⟩
    obtain ⟨hi,hhi⟩:∃ z,z=W4_.heap.size:=⟨_,rfl⟩
    have hN:=Kd.N_lower (Kd.N_mono (Kd.N_bound hN0) (ok':=fun b=>lo≤b∧b < hi) (fun b hk=>⟨D96,D95⟩)) hsw
    clear hN0
    have hlw:w.heap.size≤lo:=by omega
    have rp2:p2 < lo:=by omega
    have uhi:hi≤W4_.heap.size:=by omega
    have rq6:q6 < lo∨hi≤q6:=Or.inl D11
    clear hlo hhi
    have hsz_:=hb.size
    replace b1:=qb b1 hb
    replace b2:=qb b2 hb
    replace b6:=qb b6 hb
    replace HB:=pu HB hb
    replace hsw:w.heap.size≤W4_.heap.size:=by omega
    replace up2:p2 < W4_.heap.size:=by omega
    replace uq6:q6 < W4_.heap.size:=by omega
    clear hb hsz_
    refine hK.out _ _ ((blk_cell b1 0).trans rfl) (fun hHeld=>?_)
    clear hK K
    refine norm_ (nA 15) ?_
    refine pure_ (i:=4) (N:=some 11) (v:=_) (a':=_) #[Y,Y,Y,Y,Y,Z,Z,Z,Z,Y,Z,Z,Z] rfl rfl D5 hh (Or.inl ⟨D15,nP⟩) nQ ?_
    refine pure_ (i:=5) (N:=some 16) (v:=_) (a':=_) #[Y,Y,Y,Y,Y,Y,Z,Z,Z,Y,Z,Z,Z] rfl rfl D5 hh (Or.inl ⟨D15,nP⟩) nQ ?_
    refine pure_ (i:=6) (N:=some 17) (v:=_) (a':=_) #[Y,Y,Y,Y,Y,Y,Y,Z,Z,Y,Z,Z,Z] rfl rfl D5 hh (Or.inl ⟨D15,nP⟩) nQ ?_
    refine pure_ (i:=7) (N:=some 18) (v:=_) (a':=_) #[Y,Y,Y,Y,Y,Y,Y,Y,Z,Y,Z,Z,Z] rfl rfl D5 hh (Or.inl ⟨D15,nP⟩) nQ ?_
    refine one_ (i:=8) (N:=some 5) #[Y,Y,Y,Y,Y,Y,Y,Y,Y,Y,Z,Z,Z] rfl rfl D5 D8 (fun K hK=>?_)
    refine value_ (v:=.pointer (some ⟨W4_.heap.size,0,none⟩)) (w1:=W4_.alloc (.cells #[.slice none 0 0] 27 (0,0))) D15 rfl ?_ ?_
    ·first|(go_simp;done)|(go_simp;rfl)
    have hq_:=Below.refl W4_.heap.size W4_
    have hal_:=pa hq_ (.cells #[.slice none 0 0] 27 (0,0))
    have b5:=heap_alloc_new W4_ (.cells #[.slice none 0 0] 27 (0,0))
    have hsz_:(W4_.alloc (.cells #[.slice none 0 0] 27 (0,0))).heap.size=W4_.heap.size+1:=by simp
    replace b1:=qa b1 (.cells #[.slice none 0 0] 27 (0,0))
    replace b2:=qa b2 (.cells #[.slice none 0 0] 27 (0,0))
    replace b6:=qa b6 (.cells #[.slice none 0 0] 27 (0,0))
    replace HB:=pa HB (.cells #[.slice none 0 0] 27 (0,0))
    replace hN:=Kd.N_alloc hN (.cells #[.slice none 0 0] 27 (0,0))
    generalize W4_.alloc (.cells #[.slice none 0 0] 27 (0,0))=W5_ at *
    obtain ⟨q5,hq5⟩:∃ q5,q5=W4_.heap.size:=⟨_,rfl⟩
    rw [← hq5] at b5 ⊢
    have lq5:w.heap.size≤q5:=by omega
    have np25:p2 ≠ q5:=by omega
    have uq5:q5 < W5_.heap.size:=by omega
    have hne:q5 ≠ q6:=by omega
    replace uq6:q6 < W5_.heap.size:=by omega
    have rq5:q5 < lo∨hi≤q5:=Or.inr D11
    replace uhi:hi≤W5_.heap.size:=by omega
    replace hsw:w.heap.size≤W5_.heap.size:=by omega
    replace up2:p2 < W5_.heap.size:=by omega
    clear hq_ hal_ hsz_ hq5
    refine hK.out _ _ ((blk_cell b1 0).trans rfl) (fun hHeld=>?_)
    clear hK K
    refine norm_ (nA 5) ?_
    refine norm_ ?_ (hcont (q5,q6,(A14,c14),(A5,n5,c5),(A6,n6,c6)) _ ⟨HB,b2,b5,b6,hne,lq5,lq6,lo,hi,hN,rq5,rq6,rp2,hlw,np25,np26⟩)
    first|(simp only [putAll,Act.put,q1,q2,q3];done)|rfl|(simp only [putAll,Act.put,q1,q2,q3];rfl)
   skip
   refine value_ (v:=.pointer (some ⟨W3_.heap.size,0,none⟩)) (w1:=W3_.alloc (.cells #[.slice none 0 0] 27 (0,0))) D15 rfl ?_ ?_
   ·first|(go_simp;done)|(go_simp;rfl)
   have hq_:=Below.refl W3_.heap.size W3_
   have hal_:=pa hq_ (.cells #[.slice none 0 0] 27 (0,0))
   have b5:=heap_alloc_new W3_ (.cells #[.slice none 0 0] 27 (0,0))
   have hsz_:(W3_.alloc (.cells #[.slice none 0 0] 27 (0,0))).heap.size=W3_.heap.size+1:=by simp
   replace b1:=qa b1 (.cells #[.slice none 0 0] 27 (0,0))
   replace b2:=qa b2 (.cells #[.slice none 0 0] 27 (0,0))
   replace b6:=qa b6 (.cells #[.slice none 0 0] 27 (0,0))
   replace HB:=pa HB (.cells #[.slice none 0 0] 27 (0,0))
   replace hI:=Kd.C_alloc hI (.cells #[.slice none 0 0] 27 (0,0))
   generalize W3_.alloc (.cells #[.slice none 0 0] 27 (0,0))=W4_ at *
   obtain ⟨q5,hq5⟩:∃ q5,q5=W3_.heap.size:=⟨_,rfl⟩
   rw [← hq5] at b5 ⊢
   have lq5:w.heap.size≤q5:=by omega
   have np25:p2 ≠ q5:=by omega
   have uq5:q5 < W4_.heap.size:=by omega
   have hne:q5 ≠ q6:=by omega
   replace uq6:q6 < W4_.heap.size:=by omega
   replace hsw:w.heap.size≤W4_.heap.size:=by omega
   replace up2:p2 < W4_.heap.size:=by omega
   clear hq_ hal_ hsz_ hq5
   refine hK.out _ _ ((blk_cell b1 0).trans rfl) (fun hHeld=>?_)
   clear hK K
   refine norm_ (nA 5) ?_
   refine one_ (i:=3) (N:=some 15) #[Y,Y,Y,Y,Z,Z,Z,Z,Y,Y,Z,Z,Z] rfl rfl D5 D8 (fun K hK=>?_)
   refine goes_ Try.func148 D5 rfl #[.agg #[.slice A0 n c0], .agg #[.slice A14 n c14]] D15 rfl rfl D27 ?_
   have hc:=spec_l2Reduce.calls A0 c0 l0 A14 c14 (idM n) n n W4_ (Kd.C_below HR0.out HB) D63 hI D64 HOK.out (idM_ok n) D62 D61 D57 hn2 hn2
   rw [← HN.out,idM_length,← HZ.out,← HD.out] at hc
   refine hc.mono ?_
   clear hc
   rintro e W5_ ⟨A5,n5,c5,v1,rfl,hN0,hb⟩
   refine ⟨_,rfl,?_⟩
   obtain ⟨A6,c6,e6⟩:=Kd.N_slice hN0
   generalize hn6:D.length=n6 at e6
   subst e6
   obtain ⟨lo,hlo⟩:∃ z,z=W4_.heap.size:=⟨_,rfl⟩
   obtain ⟨hi,hhi⟩:∃ z,z=W5_.heap.size:=⟨_,rfl⟩
   have hN:=Kd.N_lower (Kd.N_mono (Kd.N_bound hN0) (ok':=fun b=>lo≤b∧b < hi) (fun b hk=>⟨D96,D95⟩)) hsw
   clear hN0
   have hlw:w.heap.size≤lo:=by omega
   have rp2:p2 < lo:=by omega
   have uhi:hi≤W5_.heap.size:=by omega
   have rq5:q5 < lo∨hi≤q5:=Or.inl D11
   have rq6:q6 < lo∨hi≤q6:=Or.inl D11
   clear hlo hhi
   have hsz_:=hb.size
   replace b1:=qb b1 hb
   replace b2:=qb b2 hb
   replace b5:=qb b5 hb
   replace b6:=qb b6 hb
   replace HB:=pu HB hb
   replace hsw:w.heap.size≤W5_.heap.size:=by omega
   replace up2:p2 < W5_.heap.size:=by omega
   replace uq5:q5 < W5_.heap.size:=by omega
   replace uq6:q6 < W5_.heap.size:=by omega
   clear hb hsz_
   refine hK.out _ _ ((blk_cell b1 0).trans rfl) (fun hHeld=>?_)
   clear hK K
   refine norm_ (nA 15) ?_
   refine pure_ (i:=4) (N:=some 11) (v:=_) (a':=_) #[Y,Y,Y,Y,Y,Z,Z,Z,Y,Y,Z,Z,Z] rfl rfl D5 hh (Or.inl ⟨D15,nP⟩) nQ ?_
   refine pure_ (i:=5) (N:=some 16) (v:=_) (a':=_) #[Y,Y,Y,Y,Y,Y,Z,Z,Y,Y,Z,Z,Z] rfl rfl D5 hh (Or.inl ⟨D15,nP⟩) nQ ?_
   refine pure_ (i:=6) (N:=some 17) (v:=_) (a':=_) #[Y,Y,Y,Y,Y,Y,Y,Z,Y,Y,Z,Z,Z] rfl rfl D5 hh (Or.inl ⟨D15,nP⟩) nQ ?_
   refine pure_ (i:=7) (N:=some 18) (v:=_) (a':=_) #[Y,Y,Y,Y,Y,Y,Y,Y,Y,Y,Z,Z,Z] rfl rfl D5 hh (Or.inl ⟨D15,nP⟩) nQ ?_
   refine norm_ ?_ (hcont (q5,q6,(A14,c14),(A5,n5,c5),(A6,n6,c6)) _ ⟨HB,b2,b5,b6,hne,lq5,lq6,lo,hi,hN,rq5,rq6,rp2,hlw,np25,np26⟩)
   first|(simp only [putAll,Act.put,q1,q2,q3];done)|rfl|(simp only [putAll,Act.put,q1,q2,q3];rfl)
  ·skip
   refine value_ (v:=.pointer (some ⟨W1.heap.size,0,none⟩)) (w1:=W1.alloc (.cells #[.slice none 0 0] 27 (0,0))) D15 rfl ?_ ?_
   ·first|(go_simp;done)|(go_simp;rfl)
   have hq_:=Below.refl W1.heap.size W1
   have hal_:=pa hq_ (.cells #[.slice none 0 0] 27 (0,0))
   have b5:=heap_alloc_new W1 (.cells #[.slice none 0 0] 27 (0,0))
   have hsz_:(W1.alloc (.cells #[.slice none 0 0] 27 (0,0))).heap.size=W1.heap.size+1:=by simp
   replace b1:=qa b1 (.cells #[.slice none 0 0] 27 (0,0))
   replace b2:=qa b2 (.cells #[.slice none 0 0] 27 (0,0))
   replace HB:=pa HB (.cells #[.slice none 0 0] 27 (0,0))
   generalize W1.alloc (.cells #[.slice none 0 0] 27 (0,0))=W2_ at *
   obtain ⟨q5,hq5⟩:∃ q5,q5=W1.heap.size:=⟨_,rfl⟩
   rw [← hq5] at b5 ⊢
   have lq5:w.heap.size≤q5:=by omega
   have np25:p2 ≠ q5:=by omega
   have uq5:q5 < W2_.heap.size:=by omega
   replace hsw:w.heap.size≤W2_.heap.size:=by omega
   replace up2:p2 < W2_.heap.size:=by omega
   clear hq_ hal_ hsz_ hq5
   refine hK.out _ _ ((blk_cell b1 0).trans rfl) (fun hHeld=>?_)
   clear hK K
   refine norm_ (nA 5) ?_
   refine two_ (i:=2) (j:=9) (Ni:=some 14) (Nj:=some 6) #[Y,Y,Y,Z,Z,Z,Z,Z,Y,Z,Z,Z,Z] #[Y,Y,Z,Z,Z,Z,Z,Z,Y,Y,Z,Z,Z] rfl rfl rfl rfl D5 D8 D8 (fun K hK=>?_) (fun K hK=>?_)
   ·skip
    refine goes_ Try.func149 D5 rfl #[.int .i64 n] D15 rfl rfl D27 ?_
    refine (spec_l2Identity.calls kI (n:Int) (idM n) _ HI.out).mono ?_
    rintro e W3_ ⟨v14,rfl,ho,hb⟩
    refine ⟨_,rfl,?_⟩
    obtain ⟨A14,c14,e14⟩:=Kd.S_slice ho
    rw [idM_length] at e14
    subst e14
    have hI:=(Kd.S_reads' ho).2.2
    have hIc:=(Kd.S_reads' ho).2.1
    clear ho
    have hsz_:=hb.size
    replace b1:=qb b1 hb
    replace b2:=qb b2 hb
    replace b5:=qb b5 hb
    replace HB:=pu HB hb
    replace hsw:w.heap.size≤W3_.heap.size:=by omega
    replace up2:p2 < W3_.heap.size:=by omega
    replace uq5:q5 < W3_.heap.size:=by omega
    clear hb hsz_
    refine hK.out _ _ ((blk_cell b1 0).trans rfl) (fun hHeld=>?_)
    clear hK K
    refine norm_ (nA 14) ?_
    refine two_ (i:=3) (j:=9) (Ni:=some 15) (Nj:=some 6) #[Y,Y,Y,Y,Z,Z,Z,Z,Y,Z,Z,Z,Z] #[Y,Y,Y,Z,Z,Z,Z,Z,Y,Y,Z,Z,Z] rfl rfl rfl rfl D5 D8 D8 (fun K hK=>?_) (fun K hK=>?_)
    ·skip
     refine goes_ Try.func148 D5 rfl #[.agg #[.slice A0 n c0], .agg #[.slice A14 n c14]] D15 rfl rfl D27 ?_
     have hc:=spec_l2Reduce.calls A0 c0 l0 A14 c14 (idM n) n n W3_ (Kd.C_below HR0.out HB) D63 hI D64 HOK.out (idM_ok n) D62 D61 D57 hn2 hn2
     rw [← HN.out,idM_length,← HZ.out,← HD.out] at hc
     refine hc.mono ?_
     clear hc
     rintro e W4_ ⟨A5,n5,c5,v1,rfl,hN0,hb⟩
     refine ⟨_,rfl,?_⟩
     obtain ⟨A6,c6,e6⟩:=Kd.N_slice hN0
     generalize hn6:D.length=n6 at e6
     subst e6
     obtain ⟨lo,hlo⟩:∃ z,z=W3_.heap.size:=⟨_,rfl⟩
     obtain ⟨hi,hhi⟩:∃ z,z=W4_.heap.size:=⟨_,rfl⟩
     have hN:=Kd.N_lower (Kd.N_mono (Kd.N_bound hN0) (ok':=fun b=>lo≤b∧b < hi) (fun b hk=>⟨D96,D95⟩)) hsw
     clear hN0
     have hlw:w.heap.size≤lo:=by omega
     have rp2:p2 < lo:=by omega
     have uhi:hi≤W4_.heap.size:=by omega
     have rq5:q5 < lo∨hi≤q5:=Or.inl D11
     clear hlo hhi
     have hsz_:=hb.size
     replace b1:=qb b1 hb
     replace b2:=qb b2 hb
     replace b5:=qb b5 hb
     replace HB:=pu HB hb
     replace hsw:w.heap.size≤W4_.heap.size:=by omega
     replace up2:p2 < W4_.heap.size:=by omega
     replace uq5:q5 < W4_.heap.size:=by omega
     clear hb hsz_
     refine hK.out _ _ ((blk_cell b1 0).trans rfl) (fun hHeld=>?_)
     clear hK K
     refine norm_ (nA 15) ?_
     refine pure_ (i:=4) (N:=some 11) (v:=_) (a':=_) #[Y,Y,Y,Y,Y,Z,Z,Z,Y,Z,Z,Z,Z] rfl rfl D5 hh (Or.inl ⟨D15,nP⟩) nQ ?_
     refine pure_ (i:=5) (N:=some 16) (v:=_) (a':=_) #[Y,Y,Y,Y,Y,Y,Z,Z,Y,Z,Z,Z,Z] rfl rfl D5 hh (Or.inl ⟨D15,nP⟩) nQ ?_
     refine pure_ (i:=6) (N:=some 17) (v:=_) (a':=_) #[Y,Y,Y,Y,Y,Y,Y,Z,Y,Z,Z,Z,Z] rfl rfl D5 hh (Or.inl ⟨D15,nP⟩) nQ ?_
     refine pure_ (i:=7) (N:=some 18) (v:=_) (a':=_) #[Y,Y,Y,Y,Y,Y,Y,Y,Y,Z,Z,Z,Z] rfl rfl D5 hh (Or.inl ⟨D15,nP⟩) nQ ?_
     refine one_ (i:=9) (N:=some 6) #[Y,Y,Y,Y,Y,Y,Y,Y,Y,Y,Z,Z,Z] rfl rfl D5 D8 (fun K hK=>?_)
     refine value_ (v:=.pointer (some ⟨W4_.heap.size,0,none⟩)) (w1:=W4_.alloc (.cells #[.slice none 0 0] 27 (0,0))) D15 rfl ?_ ?_
     ·first|(go_simp;done)|(go_simp;rfl)
     have hq_:=Below.refl W4_.heap.size W4_
     have hal_:=pa hq_ (.cells #[.slice none 0 0] 27 (0,0))
     have b6:=heap_alloc_new W4_ (.cells #[.slice none 0 0] 27 (0,0))
     have hsz_:(W4_.alloc (.cells #[.slice none 0 0] 27 (0,0))).heap.size=W4_.heap.size+1:=by simp
     replace b1:=qa b1 (.cells #[.slice none 0 0] 27 (0,0))
     replace b2:=qa b2 (.cells #[.slice none 0 0] 27 (0,0))
     replace b5:=qa b5 (.cells #[.slice none 0 0] 27 (0,0))
     replace HB:=pa HB (.cells #[.slice none 0 0] 27 (0,0))
     replace hN:=Kd.N_alloc hN (.cells #[.slice none 0 0] 27 (0,0))
     generalize W4_.alloc (.cells #[.slice none 0 0] 27 (0,0))=W5_ at *
     obtain ⟨q6,hq6⟩:∃ q6,q6=W4_.heap.size:=⟨_,rfl⟩
     rw [← hq6] at b6 ⊢
     have lq6:w.heap.size≤q6:=by omega
     have np26:p2 ≠ q6:=by omega
     have uq6:q6 < W5_.heap.size:=by omega
     have hne:q5 ≠ q6:=by omega
     replace uq5:q5 < W5_.heap.size:=by omega
     have rq6:q6 < lo∨hi≤q6:=Or.inr D11
     replace uhi:hi≤W5_.heap.size:=by omega
     replace hsw:w.heap.size≤W5_.heap.size:=by omega
     replace up2:p2 < W5_.heap.size:=by omega
     clear hq_ hal_ hsz_ hq6
     refine hK.out _ _ ((blk_cell b1 0).trans rfl) (fun hHeld=>?_)
     clear hK K
     refine norm_ (nA 6) ?_
     refine norm_ ?_ (hcont (q5,q6,(A14,c14),(A5,n5,c5),(A6,n6,c6)) _ ⟨HB,b2,b5,b6,hne,lq5,lq6,lo,hi,hN,rq5,rq6,rp2,hlw,np25,np26⟩)
     first|(simp only [putAll,Act.put,q1,q2,q3];done)|rfl|(simp only [putAll,Act.put,q1,q2,q3];rfl)
    skip
    refine value_ (v:=.pointer (some ⟨W3_.heap.size,0,none⟩)) (w1:=W3_.alloc (.cells #[.slice none 0 0] 27 (0,0))) D15 rfl ?_ ?_
    ·first|(go_simp;done)|(go_simp;rfl)
    have hq_:=Below.refl W3_.heap.size W3_
    have hal_:=pa hq_ (.cells #[.slice none 0 0] 27 (0,0))
    have b6:=heap_alloc_new W3_ (.cells #[.slice none 0 0] 27 (0,0))
    have hsz_:(W3_.alloc (.cells #[.slice none 0 0] 27 (0,0))).heap.size=W3_.heap.size+1:=by simp
    replace b1:=qa b1 (.cells #[.slice none 0 0] 27 (0,0))
    replace b2:=qa b2 (.cells #[.slice none 0 0] 27 (0,0))
    replace b5:=qa b5 (.cells #[.slice none 0 0] 27 (0,0))
    replace HB:=pa HB (.cells #[.slice none 0 0] 27 (0,0))
    replace hI:=Kd.C_alloc hI (.cells #[.slice none 0 0] 27 (0,0))
    generalize W3_.alloc (.cells #[.slice none 0 0] 27 (0,0))=W4_ at *
    obtain ⟨q6,hq6⟩:∃ q6,q6=W3_.heap.size:=⟨_,rfl⟩
    rw [← hq6] at b6 ⊢
    have lq6:w.heap.size≤q6:=by omega
    have np26:p2 ≠ q6:=by omega
    have uq6:q6 < W4_.heap.size:=by omega
    have hne:q5 ≠ q6:=by omega
    replace uq5:q5 < W4_.heap.size:=by omega
    replace hsw:w.heap.size≤W4_.heap.size:=by omega
    replace up2:p2 < W4_.heap.size:=by omega
    clear hq_ hal_ hsz_ hq6
    refine hK.out _ _ ((blk_cell b1 0).trans rfl) (fun hHeld=>?_)
    clear hK K
    refine norm_ (nA 6) ?_
    refine one_ (i:=3) (N:=some 15) #[Y,Y,Y,Y,Z,Z,Z,Z,Y,Y,Z,Z,Z] rfl rfl D5 D8 (fun K hK=>?_)
    refine goes_ Try.func148 D5 rfl #[.agg #[.slice A0 n c0], .agg #[.slice A14 n c14]] D15 rfl rfl D27 ?_
    have hc:=spec_l2Reduce.calls A0 c0 l0 A14 c14 (idM n) n n W4_ (Kd.C_below HR0.out HB) D63 hI D64 HOK.out (idM_ok n) D62 D61 D57 hn2 hn2
    rw [← HN.out,idM_length,← HZ.out,← HD.out] at hc
    refine hc.mono ?_
    clear hc
    rintro e W5_ ⟨A5,n5,c5,v1,rfl,hN0,hb⟩
    refine ⟨_,rfl,?_⟩
    obtain ⟨A6,c6,e6⟩:=Kd.N_slice hN0
    generalize hn6:D.length=n6 at e6
    subst e6
    obtain ⟨lo,hlo⟩:∃ z,z=W4_.heap.size:=⟨_,rfl⟩
    obtain ⟨hi,hhi⟩:∃ z,z=W5_.heap.size:=⟨_,rfl⟩
    have hN:=Kd.N_lower (Kd.N_mono (Kd.N_bound hN0) (ok':=fun b=>lo≤b∧b < hi) (fun b hk=>⟨D96,D95⟩)) hsw
    clear hN0
    have hlw:w.heap.size≤lo:=by omega
    have rp2:p2 < lo:=by omega
    have uhi:hi≤W5_.heap.size:=by omega
    have rq5:q5 < lo∨hi≤q5:=Or.inl D11
    have rq6:q6 < lo∨hi≤q6:=Or.inl D11
    clear hlo hhi
    have hsz_:=hb.size
    replace b1:=qb b1 hb
    replace b2:=qb b2 hb
    replace b5:=qb b5 hb
    replace b6:=qb b6 hb
    replace HB:=pu HB hb
    replace hsw:w.heap.size≤W5_.heap.size:=by omega
    replace up2:p2 < W5_.heap.size:=by omega
    replace uq5:q5 < W5_.heap.size:=by omega
    replace uq6:q6 < W5_.heap.size:=by omega
    clear hb hsz_
    refine hK.out _ _ ((blk_cell b1 0).trans rfl) (fun hHeld=>?_)
    clear hK K
    refine norm_ (nA 15) ?_
    refine pure_ (i:=4) (N:=some 11) (v:=_) (a':=_) #[Y,Y,Y,Y,Y,Z,Z,Z,Y,Y,Z,Z,Z] rfl rfl D5 hh (Or.inl ⟨D15,nP⟩) nQ ?_
    refine pure_ (i:=5) (N:=some 16) (v:=_) (a':=_) #[Y,Y,Y,Y,Y,Y,Z,Z,Y,Y,Z,Z,Z] rfl rfl D5 hh (Or.inl ⟨D15,nP⟩) nQ ?_
    refine pure_ (i:=6) (N:=some 17) (v:=_) (a':=_) #[Y,Y,Y,Y,Y,Y,Y,Z,Y,Y,Z,Z,Z] rfl rfl D5 hh (Or.inl ⟨D15,nP⟩) nQ ?_
    refine pure_ (i:=7) (N:=some 18) (v:=_) (a':=_) #[Y,Y,Y,Y,Y,Y,Y,Y,Y,Y,Z,Z,Z] rfl rfl D5 hh (Or.inl ⟨D15,nP⟩) nQ ?_
    refine norm_ ?_ (hcont (q5,q6,(A14,c14),(A5,n5,c5),(A6,n6,c6)) _ ⟨HB,b2,b5,b6,hne,lq5,lq6,lo,hi,hN,rq5,rq6,rp2,hlw,np25,np26⟩)
    first|(simp only [putAll,Act.put,q1,q2,q3];done)|rfl|(simp only [putAll,Act.put,q1,q2,q3];rfl)
   skip
   refine value_ (v:=.pointer (some ⟨W2_.heap.size,0,none⟩)) (w1:=W2_.alloc (.cells #[.slice none 0 0] 27 (0,0))) D15 rfl ?_ ?_
   ·first|(go_simp;done)|(go_simp;rfl)
   have hq_:=Below.refl W2_.heap.size W2_
   have hal_:=pa hq_ (.cells #[.slice none 0 0] 27 (0,0))
   have b6:=heap_alloc_new W2_ (.cells #[.slice none 0 0] 27 (0,0))
   have hsz_:(W2_.alloc (.cells #[.slice none 0 0] 27 (0,0))).heap.size=W2_.heap.size+1:=by simp
   replace b1:=qa b1 (.cells #[.slice none 0 0] 27 (0,0))
   replace b2:=qa b2 (.cells #[.slice none 0 0] 27 (0,0))
   replace b5:=qa b5 (.cells #[.slice none 0 0] 27 (0,0))
   replace HB:=pa HB (.cells #[.slice none 0 0] 27 (0,0))
   generalize W2_.alloc (.cells #[.slice none 0 0] 27 (0,0))=W3_ at *
   obtain ⟨q6,hq6⟩:∃ q6,q6=W2_.heap.size:=⟨_,rfl⟩
   rw [← hq6] at b6 ⊢
   have lq6:w.heap.size≤q6:=by omega
   have np26:p2 ≠ q6:=by omega
   have uq6:q6 < W3_.heap.size:=by omega
   have hne:q5 ≠ q6:=by omega
   replace uq5:q5 < W3_.heap.size:=by omega
   replace hsw:w.heap.size≤W3_.heap.size:=by omega
   replace up2:p2 < W3_.heap.size:=by omega
   clear hq_ hal_ hsz_ hq6
   refine hK.out _ _ ((blk_cell b1 0).trans rfl) (fun hHeld=>?_)
   clear hK K
   refine norm_ (nA 6) ?_
   refine one_ (i:=2) (N:=some 14) #[Y,Y,Y,Z,Z,Z,Z,Z,Y,Y,Z,Z,Z] rfl rfl D5 D8 (fun K hK=>?_)
   refine goes_ Try.func149 D5 rfl #[.int .i64 n] D15 rfl rfl D27 ?_
   refine (spec_l2Identity.calls kI (n:Int) (idM n) _ HI.out).mono ?_
   rintro e W4_ ⟨v14,rfl,ho,hb⟩
   refine ⟨_,rfl,?_⟩
   obtain ⟨A14,c14,e14⟩:=Kd.S_slice ho
   rw [idM_length] at e14
   subst e14
   have hI:=(Kd.S_reads' ho).2.2
   have hIc:=(Kd.S_reads' ho).2.1
   clear ho
   have hsz_:=hb.size
   replace b1:=qb b1 hb
   replace b2:=qb b2 hb
   replace b5:=qb b5 hb
   replace b6:=qb b6 hb
   replace HB:=pu HB hb
   replace hsw:w.heap.size≤W4_.heap.size:=by omega
   replace up2:p2 < W4_.heap.size:=by omega
   replace uq5:q5 < W4_.heap.size:=by omega
   replace uq6:q6 < W4_.heap.size:=by omega
   clear hb hsz_
   refine hK.out _ _ ((blk_cell b1 0).trans rfl) (fun hHeld=>?_)
   clear hK K
   refine norm_ (nA 14) ?_
   refine one_ (i:=3) (N:=some 15) #[Y,Y,Y,Y,Z,Z,Z,Z,Y,Y,Z,Z,Z] rfl rfl D5 D8 (fun K hK=>?_)
   refine goes_ Try.func148 D5 rfl #[.agg #[.slice A0 n c0], .agg #[.slice A14 n c14]] D15 rfl rfl D27 ?_
   have hc:=spec_l2Reduce.calls A0 c0 l0 A14 c14 (idM n) n n W4_ (Kd.C_below HR0.out HB) D63 hI D64 HOK.out (idM_ok n) D62 D61 D57 hn2 hn2
   rw [← HN.out,idM_length,← HZ.out,← HD.out] at hc
   refine hc.mono ?_
   clear hc
   rintro e W5_ ⟨A5,n5,c5,v1,rfl,hN0,hb⟩
   refine ⟨_,rfl,?_⟩
   obtain ⟨A6,c6,e6⟩:=Kd.N_slice hN0
   generalize hn6:D.length=n6 at e6
   subst e6
   obtain ⟨lo,hlo⟩:∃ z,z=W4_.heap.size:=⟨_,rfl⟩
   obtain ⟨hi,hhi⟩:∃ z,z=W5_.heap.size:=⟨_,rfl⟩
   have hN:=Kd.N_lower (Kd.N_mono (Kd.N_bound hN0) (ok':=fun b=>lo≤b∧b < hi) (fun b hk=>⟨D96,D95⟩)) hsw
   clear hN0
   have hlw:w.heap.size≤lo:=by omega
   have rp2:p2 < lo:=by omega
   have uhi:hi≤W5_.heap.size:=by omega
   have rq5:q5 < lo∨hi≤q5:=Or.inl D11
   have rq6:q6 < lo∨hi≤q6:=Or.inl D11
   clear hlo hhi
   have hsz_:=hb.size
   replace b1:=qb b1 hb
   replace b2:=qb b2 hb
   replace b5:=qb b5 hb
   replace b6:=qb b6 hb
   replace HB:=pu HB hb
   replace hsw:w.heap.size≤W5_.heap.size:=by omega
   replace up2:p2 < W5_.heap.size:=by omega
   replace uq5:q5 < W5_.heap.size:=by omega
   replace uq6:q6 < W5_.heap.size:=by omega
   clear hb hsz_
   refine hK.out _ _ ((blk_cell b1 0).trans rfl) (fun hHeld=>?_)
   clear hK K
   refine norm_ (nA 15) ?_
   refine pure_ (i:=4) (N:=some 11) (v:=_) (a':=_) #[Y,Y,Y,Y,Y,Z,Z,Z,Y,Y,Z,Z,Z] rfl rfl D5 hh (Or.inl ⟨D15,nP⟩) nQ ?_
   refine pure_ (i:=5) (N:=some 16) (v:=_) (a':=_) #[Y,Y,Y,Y,Y,Y,Z,Z,Y,Y,Z,Z,Z] rfl rfl D5 hh (Or.inl ⟨D15,nP⟩) nQ ?_
   refine pure_ (i:=6) (N:=some 17) (v:=_) (a':=_) #[Y,Y,Y,Y,Y,Y,Y,Z,Y,Y,Z,Z,Z] rfl rfl D5 hh (Or.inl ⟨D15,nP⟩) nQ ?_
   refine pure_ (i:=7) (N:=some 18) (v:=_) (a':=_) #[Y,Y,Y,Y,Y,Y,Y,Y,Y,Y,Z,Z,Z] rfl rfl D5 hh (Or.inl ⟨D15,nP⟩) nQ ?_
   refine norm_ ?_ (hcont (q5,q6,(A14,c14),(A5,n5,c5),(A6,n6,c6)) _ ⟨HB,b2,b5,b6,hne,lq5,lq6,lo,hi,hN,rq5,rq6,rp2,hlw,np25,np26⟩)
   first|(simp only [putAll,Act.put,q1,q2,q3];done)|rfl|(simp only [putAll,Act.put,q1,q2,q3];rfl)
  skip
  refine value_ (v:=.pointer (some ⟨W1.heap.size,0,none⟩)) (w1:=W1.alloc (.cells #[.slice none 0 0] 27 (0,0))) D15 rfl ?_ ?_
  ·first|(go_simp;done)|(go_simp;rfl)
  have hq_:=Below.refl W1.heap.size W1
  have hal_:=pa hq_ (.cells #[.slice none 0 0] 27 (0,0))
  have b6:=heap_alloc_new W1 (.cells #[.slice none 0 0] 27 (0,0))
  have hsz_:(W1.alloc (.cells #[.slice none 0 0] 27 (0,0))).heap.size=W1.heap.size+1:=by simp
  replace b1:=qa b1 (.cells #[.slice none 0 0] 27 (0,0))
  replace b2:=qa b2 (.cells #[.slice none 0 0] 27 (0,0))
  replace HB:=pa HB (.cells #[.slice none 0 0] 27 (0,0))
  generalize W1.alloc (.cells #[.slice none 0 0] 27 (0,0))=W2_ at *
  obtain ⟨q6,hq6⟩:∃ q6,q6=W1.heap.size:=⟨_,rfl⟩
  rw [← hq6] at b6 ⊢
  have lq6:w.heap.size≤q6:=by omega
  have np26:p2 ≠ q6:=by omega
  have uq6:q6 < W2_.heap.size:=by omega
  replace hsw:w.heap.size≤W2_.heap.size:=by omega
  replace up2:p2 < W2_.heap.size:=by omega
  clear hq_ hal_ hsz_ hq6
  refine hK.out _ _ ((blk_cell b1 0).trans rfl) (fun hHeld=>?_)
  clear hK K
  refine norm_ (nA 6) ?_
  refine two_ (i:=2) (j:=8) (Ni:=some 14) (Nj:=some 5) #[Y,Y,Y,Z,Z,Z,Z,Z,Z,Y,Z,Z,Z] #[Y,Y,Z,Z,Z,Z,Z,Z,Y,Y,Z,Z,Z] rfl rfl rfl rfl D5 D8 D8 (fun K hK=>?_) (fun K hK=>?_)
  ·skip
   refine goes_ Try.func149 D5 rfl #[.int .i64 n] D15 rfl rfl D27 ?_
   refine (spec_l2Identity.calls kI (n:Int) (idM n) _ HI.out).mono ?_
   rintro e W3_ ⟨v14,rfl,ho,hb⟩
   refine ⟨_,rfl,?_⟩
   obtain ⟨A14,c14,e14⟩:=Kd.S_slice ho
   rw [idM_length] at e14
   subst e14
   have hI:=(Kd.S_reads' ho).2.2
   have hIc:=(Kd.S_reads' ho).2.1
   clear ho
   have hsz_:=hb.size
   replace b1:=qb b1 hb
   replace b2:=qb b2 hb
   replace b6:=qb b6 hb
   replace HB:=pu HB hb
   replace hsw:w.heap.size≤W3_.heap.size:=by omega
   replace up2:p2 < W3_.heap.size:=by omega
   replace uq6:q6 < W3_.heap.size:=by omega
   clear hb hsz_
   refine hK.out _ _ ((blk_cell b1 0).trans rfl) (fun hHeld=>?_)
   clear hK K
   refine norm_ (nA 14) ?_
   refine two_ (i:=3) (j:=8) (Ni:=some 15) (Nj:=some 5) #[Y,Y,Y,Y,Z,Z,Z,Z,Z,Y,Z,Z,Z] #[Y,Y,Y,Z,Z,Z,Z,Z,Y,Y,Z,Z,Z] rfl rfl rfl rfl D5 D8 D8 (fun K hK=>?_) (fun K hK=>?_)
   ·skip
    refine goes_ Try.func148 D5 rfl #[.agg #[.slice A0 n c0], .agg #[.slice A14 n c14]] D15 rfl rfl D27 ?_
    have hc:=spec_l2Reduce.calls A0 c0 l0 A14 c14 (idM n) n n W3_ (Kd.C_below HR0.out HB) D63 hI D64 HOK.out (idM_ok n) D62 D61 D57 hn2 hn2
    rw [← HN.out,idM_length,← HZ.out,← HD.out] at hc
    refine hc.mono ?_
    clear hc
    rintro e W4_ ⟨A5,n5,c5,v1,rfl,hN0,hb⟩
    refine ⟨_,rfl,?_⟩
    obtain ⟨A6,c6,e6⟩:=Kd.N_slice hN0
    generalize hn6:D.length=n6 at e6
    subst e6
    obtain ⟨lo,hlo⟩:∃ z,z=W3_.heap.size:=⟨_,rfl⟩
    obtain ⟨hi,hhi⟩:∃ z,z=W4_.heap.size:=⟨_,rfl⟩
    have hN:=Kd.N_lower (Kd.N_mono (Kd.N_bound hN0) (ok':=fun b=>lo≤b∧b < hi) (fun b hk=>⟨D96,D95⟩)) hsw
    clear hN0
    have hlw:w.heap.size≤lo:=by omega
    have rp2:p2 < lo:=by omega
    have uhi:hi≤W4_.heap.size:=by omega
    have rq6:q6 < lo∨hi≤q6:=Or.inl D11
    clear hlo hhi
    have hsz_:=hb.size
    replace b1:=qb b1 hb
    replace b2:=qb b2 hb
    replace b6:=qb b6 hb
    replace HB:=pu HB hb
    replace hsw:w.heap.size≤W4_.heap.size:=by omega
    replace up2:p2 < W4_.heap.size:=by omega
    replace uq6:q6 < W4_.heap.size:=by omega
    clear hb hsz_
    refine hK.out _ _ ((blk_cell b1 0).trans rfl) (fun hHeld=>?_)
    clear hK K
    refine norm_ (nA 15) ?_
    refine pure_ (i:=4) (N:=some 11) (v:=_) (a':=_) #[Y,Y,Y,Y,Y,Z,Z,Z,Z,Y,Z,Z,Z] rfl rfl D5 hh (Or.inl ⟨D15,nP⟩) nQ ?_
    refine pure_ (i:=5) (N:=some 16) (v:=_) (a':=_) #[Y,Y,Y,Y,Y,Y,Z,Z,Z,Y,Z,Z,Z] rfl rfl D5 hh (Or.inl ⟨D15,nP⟩) nQ ?_
    refine pure_ (i:=6) (N:=some 17) (v:=_) (a':=_) #[Y,Y,Y,Y,Y,Y,Y,Z,Z,Y,Z,Z,Z] rfl rfl D5 hh (Or.inl ⟨D15,nP⟩) nQ ?_
    refine pure_ (i:=7) (N:=some 18) (v:=_) (a':=_) #[Y,Y,Y,Y,Y,Y,Y,Y,Z,Y,Z,Z,Z] rfl rfl D5 hh (Or.inl ⟨D15,nP⟩) nQ ?_
    refine one_ (i:=8) (N:=some 5) #[Y,Y,Y,Y,Y,Y,Y,Y,Y,Y,Z,Z,Z] rfl rfl D5 D8 (fun K hK=>?_)
    refine value_ (v:=.pointer (some ⟨W4_.heap.size,0,none⟩)) (w1:=W4_.alloc (.cells #[.slice none 0 0] 27 (0,0))) D15 rfl ?_ ?_
    ·first|(go_simp;done)|(go_simp;rfl)
    have hq_:=Below.refl W4_.heap.size W4_
    have hal_:=pa hq_ (.cells #[.slice none 0 0] 27 (0,0))
    have b5:=heap_alloc_new W4_ (.cells #[.slice none 0 0] 27 (0,0))
    have hsz_:(W4_.alloc (.cells #[.slice none 0 0] 27 (0,0))).heap.size=W4_.heap.size+1:=by simp
    replace b1:=qa b1 (.cells #[.slice none 0 0] 27 (0,0))
    replace b2:=qa b2 (.cells #[.slice none 0 0] 27 (0,0))
    replace b6:=qa b6 (.cells #[.slice none 0 0] 27 (0,0))
    replace HB:=pa HB (.cells #[.slice none 0 0] 27 (0,0))
    replace hN:=Kd.N_alloc hN (.cells #[.slice none 0 0] 27 (0,0))
    generalize W4_.alloc (.cells #[.slice none 0 0] 27 (0,0))=W5_ at *
    obtain ⟨q5,hq5⟩:∃ q5,q5=W4_.heap.size:=⟨_,rfl⟩
    rw [← hq5] at b5 ⊢
    have lq5:w.heap.size≤q5:=by omega
    have np25:p2 ≠ q5:=by omega
    have uq5:q5 < W5_.heap.size:=by omega
    have hne:q5 ≠ q6:=by omega
    replace uq6:q6 < W5_.heap.size:=by omega
    have rq5:q5 < lo∨hi≤q5:=Or.inr D11
    replace uhi:hi≤W5_.heap.size:=by omega
    replace hsw:w.heap.size≤W5_.heap.size:=by omega
    replace up2:p2 < W5_.heap.size:=by omega
    clear hq_ hal_ hsz_ hq5
    refine hK.out _ _ ((blk_cell b1 0).trans rfl) (fun hHeld=>?_)
    clear hK K
    refine norm_ (nA 5) ?_
    refine norm_ ?_ (hcont (q5,q6,(A14,c14),(A5,n5,c5),(A6,n6,c6)) _ ⟨HB,b2,b5,b6,hne,lq5,lq6,lo,hi,hN,rq5,rq6,rp2,hlw,np25,np26⟩)
    first|(simp only [putAll,Act.put,q1,q2,q3];done)|rfl|(simp only [putAll,Act.put,q1,q2,q3];rfl)
   skip
   refine value_ (v:=.pointer (some ⟨W3_.heap.size,0,none⟩)) (w1:=W3_.alloc (.cells #[.slice none 0 0] 27 (0,0))) D15 rfl ?_ ?_
   ·first|(go_simp;done)|(go_simp;rfl)
   have hq_:=Below.refl W3_.heap.size W3_
   have hal_:=pa hq_ (.cells #[.slice none 0 0] 27 (0,0))
   have b5:=heap_alloc_new W3_ (.cells #[.slice none 0 0] 27 (0,0))
   have hsz_:(W3_.alloc (.cells #[.slice none 0 0] 27 (0,0))).heap.size=W3_.heap.size+1:=by simp
   replace b1:=qa b1 (.cells #[.slice none 0 0] 27 (0,0))
   replace b2:=qa b2 (.cells #[.slice none 0 0] 27 (0,0))
   replace b6:=qa b6 (.cells #[.slice none 0 0] 27 (0,0))
   replace HB:=pa HB (.cells #[.slice none 0 0] 27 (0,0))
   replace hI:=Kd.C_alloc hI (.cells #[.slice none 0 0] 27 (0,0))
   generalize W3_.alloc (.cells #[.slice none 0 0] 27 (0,0))=W4_ at *
   obtain ⟨q5,hq5⟩:∃ q5,q5=W3_.heap.size:=⟨_,rfl⟩
   rw [← hq5] at b5 ⊢
   have lq5:w.heap.size≤q5:=by omega
   have np25:p2 ≠ q5:=by omega
   have uq5:q5 < W4_.heap.size:=by omega
   have hne:q5 ≠ q6:=by omega
   replace uq6:q6 < W4_.heap.size:=by omega
   replace hsw:w.heap.size≤W4_.heap.size:=by omega
   replace up2:p2 < W4_.heap.size:=by omega
   clear hq_ hal_ hsz_ hq5
   refine hK.out _ _ ((blk_cell b1 0).trans rfl) (fun hHeld=>?_)
   clear hK K
   refine norm_ (nA 5) ?_
   refine one_ (i:=3) (N:=some 15) #[Y,Y,Y,Y,Z,Z,Z,Z,Y,Y,Z,Z,Z] rfl rfl D5 D8 (fun K hK=>?_)
   refine goes_ Try.func148 D5 rfl #[.agg #[.slice A0 n c0], .agg #[.slice A14 n c14]] D15 rfl rfl D27 ?_
   have hc:=spec_l2Reduce.calls A0 c0 l0 A14 c14 (idM n) n n W4_ (Kd.C_below HR0.out HB) D63 hI D64 HOK.out (idM_ok n) D62 D61 D57 hn2 hn2
   rw [← HN.out,idM_length,← HZ.out,← HD.out] at hc
   refine hc.mono ?_
   clear hc
   rintro e W5_ ⟨A5,n5,c5,v1,rfl,hN0,hb⟩
   refine ⟨_,rfl,?_⟩
   obtain ⟨A6,c6,e6⟩:=Kd.N_slice hN0
   generalize hn6:D.length=n6 at e6
   subst e6
   obtain ⟨lo,hlo⟩:∃ z,z=W4_.heap.size:=⟨_,rfl⟩
   obtain ⟨hi,hhi⟩:∃ z,z=W5_.heap.size:=⟨_,rfl⟩
   have hN:=Kd.N_lower (Kd.N_mono (Kd.N_bound hN0) (ok':=fun b=>lo≤b∧b < hi) (fun b hk=>⟨D96,D95⟩)) hsw
   clear hN0
   have hlw:w.heap.size≤lo:=by omega
   have rp2:p2 < lo:=by omega
   have uhi:hi≤W5_.heap.size:=by omega
   have rq5:q5 < lo∨hi≤q5:=Or.inl D11
   have rq6:q6 < lo∨hi≤q6:=Or.inl D11
   clear hlo hhi
   have hsz_:=hb.size
   replace b1:=qb b1 hb
   replace b2:=qb b2 hb
   replace b5:=qb b5 hb
   replace b6:=qb b6 hb
   replace HB:=pu HB hb
   replace hsw:w.heap.size≤W5_.heap.size:=by omega
   replace up2:p2 < W5_.heap.size:=by omega
   replace uq5:q5 < W5_.heap.size:=by omega
   replace uq6:q6 < W5_.heap.size:=by omega
   clear hb hsz_
   refine hK.out _ _ ((blk_cell b1 0).trans rfl) (fun hHeld=>?_)
   clear hK K
   refine norm_ (nA 15) ?_
   refine pure_ (i:=4) (N:=some 11) (v:=_) (a':=_) #[Y,Y,Y,Y,Y,Z,Z,Z,Y,Y,Z,Z,Z] rfl rfl D5 hh (Or.inl ⟨D15,nP⟩) nQ ?_
   refine pure_ (i:=5) (N:=some 16) (v:=_) (a':=_) #[Y,Y,Y,Y,Y,Y,Z,Z,Y,Y,Z,Z,Z] rfl rfl D5 hh (Or.inl ⟨D15,nP⟩) nQ ?_
   refine pure_ (i:=6) (N:=some 17) (v:=_) (a':=_) #[Y,Y,Y,Y,Y,Y,Y,Z,Y,Y,Z,Z,Z] rfl rfl D5 hh (Or.inl ⟨D15,nP⟩) nQ ?_
   refine pure_ (i:=7) (N:=some 18) (v:=_) (a':=_) #[Y,Y,Y,Y,Y,Y,Y,Y,Y,Y,Z,Z,Z] rfl rfl D5 hh (Or.inl ⟨D15,nP⟩) nQ ?_
   refine norm_ ?_ (hcont (q5,q6,(A14,c14),(A5,n5,c5),(A6,n6,c6)) _ ⟨HB,b2,b5,b6,hne,lq5,lq6,lo,hi,hN,rq5,rq6,rp2,hlw,np25,np26⟩)
   first|(simp only [putAll,Act.put,q1,q2,q3];done)|rfl|(simp only [putAll,Act.put,q1,q2,q3];rfl)
  skip
  refine value_ (v:=.pointer (some ⟨W2_.heap.size,0,none⟩)) (w1:=W2_.alloc (.cells #[.slice none 0 0] 27 (0,0))) D15 rfl ?_ ?_
  ·first|(go_simp;done)|(go_simp;rfl)
  have hq_:=Below.refl W2_.heap.size W2_
  have hal_:=pa hq_ (.cells #[.slice none 0 0] 27 (0,0))
  have b5:=heap_alloc_new W2_ (.cells #[.slice none 0 0] 27 (0,0))
  have hsz_:(W2_.alloc (.cells #[.slice none 0 0] 27 (0,0))).heap.size=W2_.heap.size+1:=by simp
  replace b1:=qa b1 (.cells #[.slice none 0 0] 27 (0,0))
  replace b2:=qa b2 (.cells #[.slice none 0 0] 27 (0,0))
  replace b6:=qa b6 (.cells #[.slice none 0 0] 27 (0,0))
  replace HB:=pa HB (.cells #[.slice none 0 0] 27 (0,0))
  generalize W2_.alloc (.cells #[.slice none 0 0] 27 (0,0))=W3_ at *
  obtain ⟨q5,hq5⟩:∃ q5,q5=W2_.heap.size:=⟨_,rfl⟩
  rw [← hq5] at b5 ⊢
  have lq5:w.heap.size≤q5:=by omega
  have np25:p2 ≠ q5:=by omega
  have uq5:q5 < W3_.heap.size:=by omega
  have hne:q5 ≠ q6:=by omega
  replace uq6:q6 < W3_.heap.size:=by omega
  replace hsw:w.heap.size≤W3_.heap.size:=by omega
  replace up2:p2 < W3_.heap.size:=by omega
  clear hq_ hal_ hsz_ hq5
  refine hK.out _ _ ((blk_cell b1 0).trans rfl) (fun hHeld=>?_)
  clear hK K
  refine norm_ (nA 5) ?_
  refine one_ (i:=2) (N:=some 14) #[Y,Y,Y,Z,Z,Z,Z,Z,Y,Y,Z,Z,Z] rfl rfl D5 D8 (fun K hK=>?_)
  refine goes_ Try.func149 D5 rfl #[.int .i64 n] D15 rfl rfl D27 ?_
  refine (spec_l2Identity.calls kI (n:Int) (idM n) _ HI.out).mono ?_
  rintro e W4_ ⟨v14,rfl,ho,hb⟩
  refine ⟨_,rfl,?_⟩
  obtain ⟨A14,c14,e14⟩:=Kd.S_slice ho
  rw [idM_length] at e14
  subst e14
  have hI:=(Kd.S_reads' ho).2.2
  have hIc:=(Kd.S_reads' ho).2.1
  clear ho
  have hsz_:=hb.size
  replace b1:=qb b1 hb
  replace b2:=qb b2 hb
  replace b5:=qb b5 hb
  replace b6:=qb b6 hb
  replace HB:=pu HB hb
  replace hsw:w.heap.size≤W4_.heap.size:=by omega
  replace up2:p2 < W4_.heap.size:=by omega
  replace uq5:q5 < W4_.heap.size:=by omega
  replace uq6:q6 < W4_.heap.size:=by omega
  clear hb hsz_
  refine hK.out _ _ ((blk_cell b1 0).trans rfl) (fun hHeld=>?_)
  clear hK K
  refine norm_ (nA 14) ?_
  refine one_ (i:=3) (N:=some 15) #[Y,Y,Y,Y,Z,Z,Z,Z,Y,Y,Z,Z,Z] rfl rfl D5 D8 (fun K hK=>?_)
  refine goes_ Try.func148 D5 rfl #[.agg #[.slice A0 n c0], .agg #[.slice A14 n c14]] D15 rfl rfl D27 ?_
  have hc:=spec_l2Reduce.calls A0 c0 l0 A14 c14 (idM n) n n W4_ (Kd.C_below HR0.out HB) D63 hI D64 HOK.out (idM_ok n) D62 D61 D57 hn2 hn2
  rw [← HN.out,idM_length,← HZ.out,← HD.out] at hc
  refine hc.mono ?_
  clear hc
  rintro e W5_ ⟨A5,n5,c5,v1,rfl,hN0,hb⟩
  refine ⟨_,rfl,?_⟩
  obtain ⟨A6,c6,e6⟩:=Kd.N_slice hN0
  generalize hn6:D.length=n6 at e6
  subst e6
  obtain ⟨lo,hlo⟩:∃ z,z=W4_.heap.size:=⟨_,rfl⟩
  obtain ⟨hi,hhi⟩:∃ z,z=W5_.heap.size:=⟨_,rfl⟩
  have hN:=Kd.N_lower (Kd.N_mono (Kd.N_bound hN0) (ok':=fun b=>lo≤b∧b < hi) (fun b hk=>⟨D96,D95⟩)) hsw
  clear hN0
  have hlw:w.heap.size≤lo:=by omega
  have rp2:p2 < lo:=by omega
  have uhi:hi≤W5_.heap.size:=by omega
  have rq5:q5 < lo∨hi≤q5:=Or.inl D11
  have rq6:q6 < lo∨hi≤q6:=Or.inl D11
  clear hlo hhi
  have hsz_:=hb.size
  replace b1:=qb b1 hb
  replace b2:=qb b2 hb
  replace b5:=qb b5 hb
  replace b6:=qb b6 hb
  replace HB:=pu HB hb
  replace hsw:w.heap.size≤W5_.heap.size:=by omega
  replace up2:p2 < W5_.heap.size:=by omega
  replace uq5:q5 < W5_.heap.size:=by omega
  replace uq6:q6 < W5_.heap.size:=by omega
  clear hb hsz_
  refine hK.out _ _ ((blk_cell b1 0).trans rfl) (fun hHeld=>?_)
  clear hK K
  refine norm_ (nA 15) ?_
  refine pure_ (i:=4) (N:=some 11) (v:=_) (a':=_) #[Y,Y,Y,Y,Y,Z,Z,Z,Y,Y,Z,Z,Z] rfl rfl D5 hh (Or.inl ⟨D15,nP⟩) nQ ?_
  refine pure_ (i:=5) (N:=some 16) (v:=_) (a':=_) #[Y,Y,Y,Y,Y,Y,Z,Z,Y,Y,Z,Z,Z] rfl rfl D5 hh (Or.inl ⟨D15,nP⟩) nQ ?_
  refine pure_ (i:=6) (N:=some 17) (v:=_) (a':=_) #[Y,Y,Y,Y,Y,Y,Y,Z,Y,Y,Z,Z,Z] rfl rfl D5 hh (Or.inl ⟨D15,nP⟩) nQ ?_
  refine pure_ (i:=7) (N:=some 18) (v:=_) (a':=_) #[Y,Y,Y,Y,Y,Y,Y,Y,Y,Y,Z,Z,Z] rfl rfl D5 hh (Or.inl ⟨D15,nP⟩) nQ ?_
  refine norm_ ?_ (hcont (q5,q6,(A14,c14),(A5,n5,c5),(A6,n6,c6)) _ ⟨HB,b2,b5,b6,hne,lq5,lq6,lo,hi,hN,rq5,rq6,rp2,hlw,np25,np26⟩)
  first|(simp only [putAll,Act.put,q1,q2,q3];done)|rfl|(simp only [putAll,Act.put,q1,q2,q3];rfl)
 rintro ⟨q5,q6,⟨A14,c14⟩,⟨A5,n5,c5⟩,⟨A6,n6,c6⟩⟩ W ⟨HB,b2,b5,b6,hne,lq5,lq6,lo,hi,hN,rq5,rq6,rp2,hlw,np25,np26⟩
 refine norm_ (a':=?_) ?_ ?_
 rotate_left
 ·simp only [putAll,Act.put,q1,q2,q3]
  rfl
 simp only [] at b5 b6 hne lq5 lq6 hN rq5 rq6
 clear b1 hHeld up2 hsw
 have hk5:W.cell? ⟨q5,0,none⟩=some (.slice none 0 0):=(blk_cell b5 0).trans rfl
 have hf5:=blk_frozen b5 0
 refine last_ (i:=10) (N:=none) #[Y,Y,Y,Y,Y,Y,Y,Y,Y,Y,Y,Z,Z] rfl rfl D5 D8 (fun K hK=>?_)
 refine skip_ (w1:=?_) D15 rfl ?_ ?_
 rotate_left
 ·go_simp
  rfl
 refine hK.out _ _ ?_
 clear hK K
 replace hN:=Kd.N_far hN (p:=⟨q5,0,none⟩) (fun k hk=>by have:k ≠ q5:=D11;exact this) (.slice A5 n5 c5)
 replace HB:=pt (j:=0) (v:=.slice A5 n5 c5) HB lq5
 replace b2:=blk_far b2 (p:=⟨q5,0,none⟩) (show p2 ≠ q5 from np25) (.slice A5 n5 c5)
 replace b6:=blk_far b6 (p:=⟨q5,0,none⟩) (show q6 ≠ q5 from fun e=>hne e.symm) (.slice A5 n5 c5)
 clear b5 hk5 hf5
 generalize W.setCell ⟨q5,0,none⟩ (.slice A5 n5 c5)=W at hN HB b2 b6 ⊢
 have hk6:W.cell? ⟨q6,0,none⟩=some (.slice none 0 0):=(blk_cell b6 0).trans rfl
 have hf6:=blk_frozen b6 0
 refine last_ (i:=11) (N:=none) #[Y,Y,Y,Y,Y,Y,Y,Y,Y,Y,Y,Y,Z] rfl rfl D5 D8 (fun K hK=>?_)
 refine skip_ (w1:=?_) D15 rfl ?_ ?_
 rotate_left
 ·go_simp
  rfl
 refine hK.out _ _ ?_
 clear hK K
 replace hN:=Kd.N_far hN (p:=⟨q6,0,none⟩) (fun k hk=>by have:k ≠ q6:=D11;exact this) (.slice A6 n6 c6)
 replace HB:=pt (j:=0) (v:=.slice A6 n6 c6) HB lq6
 replace b2:=blk_far b2 (p:=⟨q6,0,none⟩) (show p2 ≠ q6 from np26) (.slice A6 n6 c6)
 have b6':=blk_put b6 0 (.slice A6 n6 c6) rfl
 clear b6 hk6 hf6
 generalize W.setCell ⟨q6,0,none⟩ (.slice A6 n6 c6)=W at hN HB b2 b6' ⊢
 refine pure_ (i:=12) (N:=some 7) (v:=_) (a':=_) #[Y,Y,Y,Y,Y,Y,Y,Y,Y,Y,Y,Y,Y] rfl rfl D5 hh (Or.inl ⟨D15,nP⟩) nQ ?_
 refine done_ D5 ?_
 have hk6:W.cell? ⟨q6,0,none⟩=some (.slice A6 n6 c6):=(blk_cell b6' 0).trans rfl
 have hzb:((z:Int) == (n:Int))=r2:=by rw [← HE2.out];exact Bool.eq_iff_iff.2 (by simp only [beq_iff_eq,decide_eq_true_eq];omega)
 have hk2:W.cell? ⟨p2,0,none⟩=some (.slice none 0 0):=(blk_cell b2 0).trans rfl
 have hf2:=blk_frozen b2 0
 have HNF:=am (Kd.N_far hN (p:=⟨p2,0,none⟩) (fun k hk=>by have:k ≠ p2:=D11;exact this) (.slice A6 n6 c6))
 have HBF:=am (pt (j:=0) (v:=.slice A6 n6 c6) HB lp2)
 have b2':=blk_put b2 0 (.slice A6 n6 c6) rfl
 clear b2 hN HB
 go_wp2_with fail
 (try simp only [Exit.inBlock,Exit.then])
 refine bodyPost_ret (results_ct rfl _ _ p2 27 #[.slice A6 n6 c6] (0,0) _ rfl b2' Try.underlying27 rfl D5) rfl ?_
 exact ⟨_,by first|rfl|(simp;done)|(trace_state;rfl),Kd.N_mono HNF.out (fun k hk=>by have:=hk.1;omega),HBF.out⟩

end
end
end Go.Proofs.Yteflgifmdojahaa.PFnMsr
-- SQUEEZED
