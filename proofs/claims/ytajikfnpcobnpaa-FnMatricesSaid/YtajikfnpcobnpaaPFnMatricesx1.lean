import Derived.Test.YtajikfnpcobnpaaVFnMatricesB
import Derived.Test.YtajikfnpcobnpaaPFnMatricesx0
namespace Go.Proofs.Ytajikfnpcobnpaa.PFnMatrices
open Go.RowKit Go.Proofs.YtajikfnpcobnpaaW.PrintWords Go.Proofs.YtajikfnpcobnpaaW.PrintLast Go.Proofs.YtajikfnpcobnpaaW.PrintMore Go.Proofs.Ytajikfnpcobnpaa.KitS
attribute [local go_sem] max2_int min2_int max_two min_two max_three min_three max_four min_four
set_option linter.unusedVariables false
set_option maxHeartbeats 8000000
set_option maxRecDepth 100000
set_option linter.unusedSimpArgs false
section
section
open Go.Proofs.Ytajikfnpcobnpaa.Gf Go.Proofs.Ytajikfnpcobnpaa.Kit Go.Proofs.Ytajikfnpcobnpaa.KitW Go.Proofs.Ytajikfnpcobnpaa.KitN
namespace SpecElim
theorem spec_l1Times.ev_l0:∀ (n o x y:Nat),y < 2 ^ n→n≤8→o < 256→x < 256 →
  Ev (fun k=>spec_l1Times.l0 k (o:Int) (x:Int) (y:Int)) ((T n o x y:Nat):Int)
 | 0,o,x,y,hy,_,ho,hx=>by
  refine Ev.step (fun k=>spec_l1Times.l0.eq_2 _ _ _ k) ?_
  have:y=0:=by simpa using hy
  subst this
  refine ev_neg D24 (ev_now ?_)
  simp only [T]
  omega
 | n+1,o,x,y,hy,hn,ho,hx=>by
  have hy8:y < 256:=Nat.lt_of_lt_of_le hy (Nat.pow_le_pow_right (n:=2) D24 hn)
  by_cases h0:y=0
  ·subst h0
   refine Ev.step (fun k=>spec_l1Times.l0.eq_2 _ _ _ k) ?_
   refine ev_neg D24 (ev_now ?_)
   rw [T_zero]
   omega
  refine Ev.step (fun k=>spec_l1Times.l0.eq_2 _ _ _ k) ?_
  refine ev_pos D23 ?_
  have e2:wrap64 ((x:Int)*2)=((2*x:Nat):Int):=by rw [wrap_id D23 D23];omega
  have e3:((y:Int) / 2)=((y / 2:Nat):Int):=by omega
  have e4:Go.bits .xor .i64 (o:Int) (x:Int)=((o ^^^ x:Nat):Int):=xor_i64 D23 D23
  have e5:Go.bits .xor .i64 ((2*x:Nat):Int) 283=((2*x ^^^ 283:Nat):Int):=xor_i64 (m:=2*x) (n:=283) D23 D23
  rw [and1_i64 D23,e2,e3,e4,e5]
  have hT:T (n+1) o x y=T n (if y % 2=1 then o ^^^ x else o) (xt x) (y / 2):=by rw [T]
  rw [hT]
  have hxt:=xt_lt hx
  have hox:=xor_lt ho hx
  have hh:y / 2 < 2 ^ n:=by rw [Nat.pow_succ] at hy;omega
  by_cases h1:y % 2=1
  ·rw [if_pos h1]
   refine ev_pos D23 ?_
   by_cases h2:2*x > 255
   ·refine ev_pos D23 ?_
    have:xt x=2*x ^^^ 283:=by unfold xt;rw [if_pos h2]
    rw [this] at hxt ⊢
    exact spec_l1Times.ev_l0 n _ _ _ hh D23 hox hxt
   refine ev_neg D23 ?_
   have:xt x=2*x:=by unfold xt;rw [if_neg h2]
   rw [this] at hxt ⊢
   exact spec_l1Times.ev_l0 n _ _ _ hh D23 hox hxt
  rw [if_neg h1]
  refine ev_neg D23 ?_
  by_cases h2:2*x > 255
  ·refine ev_pos D23 ?_
   have:xt x=2*x ^^^ 283:=by unfold xt;rw [if_pos h2]
   rw [this] at hxt ⊢
   exact spec_l1Times.ev_l0 n _ _ _ hh D23 ho hxt
  refine ev_neg D23 ?_
  have:xt x=2*x:=by unfold xt;rw [if_neg h2]
  rw [this] at hxt ⊢
  exact spec_l1Times.ev_l0 n _ _ _ hh D23 ho hxt
theorem spec_l1Times.ev {a b:Int} (ha:Byte a) (hb:Byte b):Ev (fun k=>spec_l1Times.f k a b) (mul a b):=by
 obtain ⟨m,hm,rfl⟩:=ha.nat
 obtain ⟨n,hn,rfl⟩:=hb.nat
 unfold spec_l1Times.f
 rw [wrap_id (i:=(m:Int)) D23 D23,wrap_id (i:=(n:Int)) D23 D23]
 have h:=spec_l1Times.ev_l0 8 0 m n hn (Nat.le_refl _) D24 hm
 exact ev_eq h (by unfold Gf.mul gm;simp)
theorem spec_l1Power.ev_l0 (a:Int) (ha:Byte a):∀ (n m:Nat),n < 4611686018427387904→Ev (fun k=>spec_l1Power.l0 k a (n:Int) (pow a m)) (pow a (m+n))
 | 0,m,_=>by
  refine Ev.step (fun k=>spec_l1Power.l0.eq_2 _ _ _ k) ?_
  exact ev_neg D23 (ev_now rfl)
 | n+1,m,hn=>by
  refine Ev.step (fun k=>spec_l1Power.l0.eq_2 _ _ _ k) ?_
  refine ev_pos D23 ?_
  refine ev_bind (spec_l1Times.ev (Byte.pow ha m) ha) ?_
  have e:wrap64 (((n+1:Nat):Int) - 1)=(n:Int):=by unfold wrap64;omega
  rw [e,← pow_succ]
  refine ev_eq (spec_l1Power.ev_l0 a ha n (m+1) D23) ?_
  rw [Nat.add_right_comm,Nat.add_assoc]
theorem spec_l1Power.ev {a:Int} (ha:Byte a) (n:Nat) (hn:n < 4611686018427387904):Ev (fun k=>spec_l1Power.f k a (n:Int)) (pow a n):=by
 unfold spec_l1Power.f
 have:=spec_l1Power.ev_l0 a ha n 0 hn
 rw [pow_zero,Nat.zero_add] at this
 exact this
theorem spec_l1Inverse.ev {a:Int} (ha:Byte a):Ev (fun k=>spec_l1Inverse.f k a) (inv a):=by
 unfold spec_l1Inverse.f
 by_cases h:a=0
 ·subst h
  exact ev_pos rfl (ev_now inv_zero.symm)
 exact ev_neg h (ev_bind (spec_l1Power.ev ha 254 D24) (ev_now (inv_pow a).symm))
theorem spec_l1Scale.ev_l0 (a:Int) (ha:Byte a) (v:List Int) (hv:Bytes v) (hs:v.length < 140737488355328):∀ (n i:Nat) (o:List Int),i+n=v.length→o=(scale a v).take i →
  Ev (fun k=>spec_l1Scale.l0 k a o v (v.length:Int) (i:Int)) (scale a v)
 | 0,i,o,hi,ho=>by
  refine Ev.step (fun k=>spec_l1Scale.l0.eq_2 _ _ _ _ _ k) ?_
  refine ev_neg D23 (ev_now ?_)
  subst ho
  rw [List.take_of_length_le (by rw [scale_length];omega)]
 | n+1,i,o,hi,ho=>by
  have hz:=scale_length a v
  have hlen:o.length=i:=by rw [ho,List.length_take,hz];omega
  refine Ev.step (fun k=>spec_l1Scale.l0.eq_2 _ _ _ _ _ k) ?_
  refine ev_pos D23 (ev_pos D23 (ev_pos D23 ?_))
  refine ev_bind (spec_l1Times.ev ha (bytes_rd hv D23)) ?_
  refine ev_pos D23 ?_
  rw [inc D23,rd_get D23]
  refine spec_l1Scale.ev_l0 a ha v hv hs n (i+1) _ D23 ?_
  rw [List.take_succ_eq_append_getElem D23,← ho]
  simp [scale]
theorem spec_l1Scale.ev {a:Int} (ha:Byte a) {v:List Int} (hv:Bytes v) (hs:v.length < 140737488355328):Ev (fun k=>spec_l1Scale.f k a v) (scale a v):=by
 unfold spec_l1Scale.f
 exact spec_l1Scale.ev_l0 a ha v hv hs v.length 0 [] D23 rfl
theorem spec_l1Add.ev_l0 (v w:List Int) (hv:Bytes v) (hw:Bytes w) (hl:v.length=w.length) (hs:v.length < 140737488355328):∀ (n i:Nat) (o:List Int),i+n=v.length→o=(addV v w).take i →
  Ev (fun k=>spec_l1Add.l0 k v w o (v.length:Int) (i:Int)) (addV v w)
 | 0,i,o,hi,ho=>by
  refine Ev.step (fun k=>spec_l1Add.l0.eq_2 _ _ _ _ _ k) ?_
  refine ev_neg D23 (ev_now ?_)
  subst ho
  rw [List.take_of_length_le (by rw [addV_length];omega)]
 | n+1,i,o,hi,ho=>by
  have hz:=addV_length v w
  have hlen:o.length=i:=by rw [ho,List.length_take,hz];omega
  refine Ev.step (fun k=>spec_l1Add.l0.eq_2 _ _ _ _ _ k) ?_
  refine ev_pos D23 (ev_pos D23 (ev_pos D23 (ev_pos D23 (ev_pos D23 ?_))))
  rw [inc D23,xor_u8 (bytes_rd hv D23) (bytes_rd hw D23),rd_get D23,rd_get D23]
  refine spec_l1Add.ev_l0 v w hv hw hl hs n (i+1) _ D23 ?_
  rw [List.take_succ_eq_append_getElem D23,← ho]
  simp [addV]
theorem spec_l1Add.ev {v w:List Int} (hv:Bytes v) (hw:Bytes w) (hl:v.length=w.length) (hs:v.length < 140737488355328):Ev (fun k=>spec_l1Add.f k v w) (addV v w):=by
 unfold spec_l1Add.f
 exact spec_l1Add.ev_l0 v w hv hw hl hs v.length 0 [] D23 rfl
theorem spec_l2Own.ev_l0 (l:List (List Int)) (hl:l.length≤1048576) (hr:∀ r ∈ l,r.length≤1048576):∀ (d i:Nat) (o:List (List Int)),i+d=l.length→o=l.take i→Ev (fun k=>spec_l2Own.l0 k l (l.length:Int) (i:Int) o) l
 | 0,i,o,hi,ho=>by
  refine Ev.step (fun k=>spec_l2Own.l0.eq_2 _ _ _ _ k) ?_
  refine ev_neg D23 (ev_now ?_)
  rw [ho,List.take_of_length_le D23]
 | d+1,i,o,hi,ho=>by
  have hol:o.length=i:=by rw [ho,List.length_take];omega
  have hrl:(l.getD i []).length≤1048576:=by
   rw [List.getD_eq_getElem?_getD,List.getElem?_eq_getElem (show i < l.length by omega)]
   exact hr _ (List.getElem_mem _)
  refine Ev.step (fun k=>spec_l2Own.l0.eq_2 _ _ _ _ k) ?_
  simp only [Option.bind_some]
  refine ev_pos D23 (ev_pos D23 (ev_pos D23 (ev_pos (show ([]:List Int).length+(l.getD i []).length < 140737488355328 by simp only [List.length_nil];omega) (ev_pos D23 ?_))))
  rw [inc D23]
  refine spec_l2Own.ev_l0 l hl hr d (i+1) _ D23 ?_
  rw [List.take_succ_eq_append_getElem (show i < l.length by omega),← ho,show l[i]' D23=l.getD i [] by rw [List.getD_eq_getElem?_getD,List.getElem?_eq_getElem (show i < l.length by omega)];rfl]
  rfl
theorem spec_l2Own.ev (l:List (List Int)) (hl:l.length≤1048576) (hr:∀ r ∈ l,r.length≤1048576):Ev (fun k=>spec_l2Own.f k l) l:=by
 unfold spec_l2Own.f
 exact spec_l2Own.ev_l0 l hl hr l.length 0 [] D23 rfl
end SpecElim
structure LR (w:World) (p4 p5 p7 p8 g1 c1 g2 c2 len m1 m2:Nat) (LA LB:List (List Int)) (wr:World):Prop where
 NA:Kd.N (Kd.slice 5 (Kd.int .u8)) 57 wr w.heap.size (fun b=>b ≠ g2∧b ≠ p4∧b ≠ p5∧w.heap.size≤b) (.slice (some ⟨g1,0,none⟩) len c1) LA
 NB:Kd.N (Kd.slice 5 (Kd.int .u8)) 57 wr w.heap.size (fun b=>b ≠ g1∧b ≠ p4∧b ≠ p5∧w.heap.size≤b) (.slice (some ⟨g2,0,none⟩) len c2) LB
 b4:wr.heap[p4]? = some (.cells #[.slice none 0 0] 43 (0,0))
 b5:wr.heap[p5]? = some (.cells #[.slice none 0 0] 43 (0,0))
 b7:wr.heap[p7]? = some (.cells #[.slice (some ⟨g1,0,none⟩) len c1] 43 (0,0))
 b8:wr.heap[p8]? = some (.cells #[.slice (some ⟨g2,0,none⟩) len c2] 43 (0,0))
 B:Below w.heap.size w wr
 lo:w.heap.size≤p4∧w.heap.size≤p5∧p4 ≠ p5
 allA:∀ r ∈ LA,okI m1 r
 allB:∀ r ∈ LB,okI m2 r
section
variable {w wr w1:World} {p4 p5 p7 p8 g1 c1 g2 c2 len m1 m2:Nat} {LA LB:List (List Int)}
theorem LR.below (h:LR w p4 p5 p7 p8 g1 c1 g2 c2 len m1 m2 LA LB wr) (hb:Below wr.heap.size wr w1):LR w p4 p5 p7 p8 g1 c1 g2 c2 len m1 m2 LA LB w1 :=
 ⟨Kd.N_below h.NA hb,Kd.N_below h.NB hb,qb h.b4 hb,qb h.b5 hb,qb h.b7 hb,qb h.b8 hb,pu h.B hb,h.lo,h.allA,h.allB⟩
theorem LR.ne (h:LR w p4 p5 p7 p8 g1 c1 g2 c2 len m1 m2 LA LB wr):g1 ≠ g2:=(h.NA.1 g1 D142).1
theorem LR.keyA (h:LR w p4 p5 p7 p8 g1 c1 g2 c2 len m1 m2 LA LB wr):wr.cell? ⟨p7,0,none⟩=some (.slice (some ⟨g1,0,none⟩) len c1):=(blk_cell h.b7 0).trans rfl
theorem LR.keyB (h:LR w p4 p5 p7 p8 g1 c1 g2 c2 len m1 m2 LA LB wr):wr.cell? ⟨p8,0,none⟩=some (.slice (some ⟨g2,0,none⟩) len c2):=(blk_cell h.b8 0).trans rfl
theorem LR.rowA (h:LR w p4 p5 p7 p8 g1 c1 g2 c2 len m1 m2 LA LB wr) (i:Nat) (hi:i < len) :
  ∃ r A c,LA.getD i []=r∧okI m1 r∧wr.cell? ⟨g1,i,none⟩=some (.slice A m1 c)∧m1≤c∧Kd.F (Kd.int .u8) wr (fun b=>b ≠ g1∧b ≠ g2∧b ≠ p4∧b ≠ p5∧w.heap.size≤b) A m1 r∧wr.frozen? ⟨g1,i,none⟩=false:=by
 obtain ⟨A,c,h1,h2,h3,h4⟩:=N_row h.NA i hi
 have hr:okI m1 (LA.getD i []):=RowK.at_all (O:=rowI) h.allA (by rw [← (N_len h.NA).1];exact hi)
 rw [hr.2] at h1 h2 h3
 exact ⟨_,A,c,rfl,hr,h1,h2,Kd.F_mono h3 (fun b hb=>⟨hb.2,hb.1⟩),h4⟩
theorem LR.rowB (h:LR w p4 p5 p7 p8 g1 c1 g2 c2 len m1 m2 LA LB wr) (i:Nat) (hi:i < len) :
  ∃ r A c,LB.getD i []=r∧okI m2 r∧wr.cell? ⟨g2,i,none⟩=some (.slice A m2 c)∧m2≤c∧Kd.F (Kd.int .u8) wr (fun b=>b ≠ g1∧b ≠ g2∧b ≠ p4∧b ≠ p5∧w.heap.size≤b) A m2 r∧wr.frozen? ⟨g2,i,none⟩=false:=by
 obtain ⟨A,c,h1,h2,h3,h4⟩:=N_row h.NB i hi
 have hr:okI m2 (LB.getD i []):=RowK.at_all (O:=rowI) h.allB (by rw [← (N_len h.NB).1];exact hi)
 rw [hr.2] at h1 h2 h3
 exact ⟨_,A,c,rfl,hr,h1,h2,Kd.F_mono h3 (fun b hb=>⟨hb.1.1,hb.2,hb.1.2⟩),h4⟩
theorem LR.putA (h:LR w p4 p5 p7 p8 g1 c1 g2 c2 len m1 m2 LA LB wr) (i:Nat) (hi:i < len) {A:Option Addr} {c:Nat} {x:List Int} (hx:okI m1 x) (hc:m1≤c) (hF:Kd.F (Kd.int .u8) wr (fun b=>b ≠ g1∧b ≠ g2∧b ≠ p4∧b ≠ p5∧w.heap.size≤b) A m1 x) :
  LR w p4 p5 p7 p8 g1 c1 g2 c2 len m1 m2 (LA.set i x) LB (wr.setCell ⟨g1,i,none⟩ (.slice A m1 c)):=by
 obtain ⟨h1,h2⟩:=N_put h.NA i hi (A:=A) (c:=c) (x:=x) (okp:=fun b=>b ≠ g1∧b ≠ g2∧b ≠ p4∧b ≠ p5∧w.heap.size≤b) (by rw [hx.2];exact hc) (by rw [hx.2];exact hF) (fun _ hk=>⟨hk.2,hk.1⟩)
 rw [hx.2] at h1 h2
 have n4:=Kd.N_ne h.NA h.b4 D24
 have n5:=Kd.N_ne h.NA h.b5 D24
 have n7:=Kd.N_ne h.NA h.b7 D24
 have n8:=Kd.N_ne h.NA h.b8 D24
 exact ⟨h1,Kd.N_grown h.NB h2 (fun k hk e=>hk.1 (by injection e)),blk_grown h.b4 h2 n4,blk_grown h.b5 h2 n5,blk_grown h.b7 h2 n7,blk_grown h.b8 h2 n8,pt h.B (Kd.N_base h.NA g1 D142),h.lo,el_set_all h.allA hx i,h.allB⟩
theorem LR.putB (h:LR w p4 p5 p7 p8 g1 c1 g2 c2 len m1 m2 LA LB wr) (i:Nat) (hi:i < len) {A:Option Addr} {c:Nat} {x:List Int} (hx:okI m2 x) (hc:m2≤c) (hF:Kd.F (Kd.int .u8) wr (fun b=>b ≠ g1∧b ≠ g2∧b ≠ p4∧b ≠ p5∧w.heap.size≤b) A m2 x) :
  LR w p4 p5 p7 p8 g1 c1 g2 c2 len m1 m2 LA (LB.set i x) (wr.setCell ⟨g2,i,none⟩ (.slice A m2 c)):=by
 obtain ⟨h1,h2⟩:=N_put h.NB i hi (A:=A) (c:=c) (x:=x) (okp:=fun b=>b ≠ g1∧b ≠ g2∧b ≠ p4∧b ≠ p5∧w.heap.size≤b) (by rw [hx.2];exact hc) (by rw [hx.2];exact hF) (fun _ hk=>⟨⟨hk.1,hk.2.2⟩,hk.2.1⟩)
 rw [hx.2] at h1 h2
 have n4:=Kd.N_ne h.NB h.b4 D24
 have n5:=Kd.N_ne h.NB h.b5 D24
 have n7:=Kd.N_ne h.NB h.b7 D24
 have n8:=Kd.N_ne h.NB h.b8 D24
 exact ⟨Kd.N_grown h.NA h2 (fun k hk e=>hk.1 (by injection e)),h1,blk_grown h.b4 h2 n4,blk_grown h.b5 h2 n5,blk_grown h.b7 h2 n7,blk_grown h.b8 h2 n8,pt h.B (Kd.N_base h.NB g2 D142),h.lo,h.allA,el_set_all h.allB hx i⟩
theorem LR.fresh (h:LR w p4 p5 p7 p8 g1 c1 g2 c2 len m1 m2 LA LB wr) {A:Option Addr} {n c:Nat} {x:List Int} (ho:Kd.R (Kd.int .u8) 5 w1 wr.heap.size (fun _=>True) (.slice A n c) x) :
  Kd.F (Kd.int .u8) w1 (fun b=>b ≠ g1∧b ≠ g2∧b ≠ p4∧b ≠ p5∧w.heap.size≤b) A n x:=by
 have h1:=Kd.N_lt h.NA g1 D142
 have h2:=Kd.N_lt h.NB g2 D142
 have h4:=blk_lt h.b4
 have h5:=blk_lt h.b5
 have hs:=h.B.size
 exact Kd.R_F (Kd.R_mono (Kd.R_bound ho) (fun b hk=>by have:=hk.2.1;omega))
end
set_option maxHeartbeats 16000000 in
theorem spec_l2Reduce.calls (A0:Option Addr) (c0:Nat) (l0:List (List Int)) (A1:Option Addr) (c1:Nat) (l1:List (List Int)) (m1 m2:Nat) (w:World) (hr0:Kd.C (Kd.slice 5 (Kd.int .u8)) w A0 l0.length l0) (hc0:l0.length≤c0) (hr1:Kd.C (Kd.slice 5 (Kd.int .u8)) w A1 l1.length l1) (hc1:l1.length≤c1)
  (h0:∀ r ∈ l0,okI m1 r) (h1:∀ r ∈ l1,okI m2 r) (hne:1≤l0.length) (hle:l0.length≤1000) (hll:l0.length=l1.length) (hm1:m1≤1000) (hm2:m2≤1000) :
  Calls Try.prog 175 #[.agg #[.slice A0 l0.length c0], .agg #[.slice A1 l1.length c1]] w fun e w'=>∃ (A0_:Option Addr) (n0_ c0_:Nat) (v1_:Value),e = .returned (.tuple #[.agg #[.slice A0_ n0_ c0_], .agg #[v1_], .int .i64 ((redP l0 l1 m1).2:Nat)]) ∧
   Kd.N (Kd.slice 5 (Kd.int .u8)) 57 w' w.heap.size (fun b=>w.heap.size≤b) v1_ ((redP l0 l1 m1).1.map Prod.snd)∧Below w.heap.size w w':=by
 obtain ⟨kA,hA⟩:=(SpecElim.spec_l2Own.ev l0 D23 (fun r hr=>by rw [(h0 r hr).2];omega)).rounds
 obtain ⟨kB,hB⟩:=(SpecElim.spec_l2Own.ev l1 D23 (fun r hr=>by rw [(h1 r hr).2];omega)).rounds
 obtain ⟨len,hlen⟩:∃ n,n=l0.length:=⟨_,rfl⟩
 have hlen1:len=l1.length:=by omega
 obtain ⟨L,hL⟩:∃ L,L=l0.zip l1:=⟨_,rfl⟩
 have HA:=am hA
 have HB1:=am hB
 have HLE:=am hlen
 have HLE1:=am hlen1
 have HL:=am hL
 have HLA:=am (show L.map Prod.fst=l0 by rw [hL];exact zip_fst hll)
 have HLB:=am (show L.map Prod.snd=l1 by rw [hL];exact zip_snd hll)
 have HOK:=am (show ∀ r ∈ L,okP m1 m2 r by rw [hL];exact zip_ok h0 h1)
 have HLL:=am (show L.length=len by rw [hL,List.length_zip,← hll,Nat.min_self,hlen])
 have HR0:=am hr0
 have HR1:=am hr1
 have HO0:=am h0
 have HO1:=am h1
 show Calls Try.prog 175 #[.agg #[.slice A0 l0.length c0], .agg #[.slice A1 l1.length c1]] w fun e w'=>∃ (A0_:Option Addr) (n0_ c0_:Nat) (v1_:Value),e = .returned (.tuple #[.agg #[.slice A0_ n0_ c0_], .agg #[v1_], .int .i64 ((rowP.red (l0.zip l1) m1).2:Nat)]) ∧
   Kd.N (Kd.slice 5 (Kd.int .u8)) 57 w' w.heap.size (fun b=>w.heap.size≤b) v1_ ((rowP.red (l0.zip l1) m1).1.map Prod.snd)∧Below w.heap.size w w'
 rw [← hL,← hlen,← hlen1]
 rw [← hlen] at hc0 hne hle
 rw [← hlen1] at hc1
 clear hA hB hlen hlen1 hL hr0 hr1 h0 h1 hll
 have hu:=Try.underlying43
 go_enter Try.func175,Try.ntmps175
 go_wp2_with fail
 obtain ⟨W0,hW0⟩:∃ W:World,W=((((w.alloc (.cells #[.slice A0 len c0] 43 (0,0))).alloc (.cells #[.slice A1 len c1] 43 (0,0))).alloc (.cells #[.slice none 0 0] 43 (0,0))).alloc (.cells #[.slice none 0 0] 43 (0,0))):=⟨_,rfl⟩
 have hB0:Below w.heap.size w W0:=by rw [hW0];exact pa (pa (pa (pa (Below.refl _ _) _) _) _) _
 have h3:W0.heap[w.heap.size+1]? = some (.cells #[.slice A1 len c1] 43 (0,0)):=by rw [hW0];exact qa (qa (by have z:=heap_alloc_new (w.alloc (.cells #[.slice A0 len c0] 43 (0,0))) (.cells #[.slice A1 len c1] 43 (0,0));simpa using z) _) _
 have h4:W0.heap[w.heap.size+1+1]? = some (.cells #[.slice none 0 0] 43 (0,0)):=by rw [hW0];exact qa (by have z:=heap_alloc_new ((w.alloc (.cells #[.slice A0 len c0] 43 (0,0))).alloc (.cells #[.slice A1 len c1] 43 (0,0))) (.cells #[.slice none 0 0] 43 (0,0));simpa using z) _
 have h5:W0.heap[w.heap.size+1+1+1]? = some (.cells #[.slice none 0 0] 43 (0,0)):=by rw [hW0];have z:=heap_alloc_new (((w.alloc (.cells #[.slice A0 len c0] 43 (0,0))).alloc (.cells #[.slice A1 len c1] 43 (0,0))).alloc (.cells #[.slice none 0 0] 43 (0,0))) (.cells #[.slice none 0 0] 43 (0,0));simpa using z
 rw [← hW0]
 clear hW0
 generalize hp5:w.heap.size+1+1+1=p5 at h5 ⊢
 generalize hp4:w.heap.size+1+1=p4 at h4 ⊢
 generalize hp3:w.heap.size+1=p3 at h3 ⊢
 have HP:=am (show w.heap.size≤p4∧w.heap.size≤p5∧p4 ≠ p5 by omega)
 have hA:=spec_l2Own.calls kA A0 c0 l0 l0 W0 (Kd.C_below HR0.out hB0) (by rw [← HLE.out];exact hc0) HA.out
 rw [← HLE.out] at hA
 refine hA.mono ?_
 clear hA hp3 hp4 hp5
 rintro e w1 ⟨va,rfl,hoA,hbA⟩
 obtain ⟨g1,cap1,ea,hg1,hg1l,_⟩:=Kd.S_form hoA (by rw [← HLE.out];exact hne)
 rw [← HLE.out] at ea
 subst ea
 have hB1:=pu hB0 hbA
 have hc3:∀ o,(w1.alloc o).cell? ⟨p3,0,none⟩=some (.slice A1 len c1):=fun o=>(blk_cell (qa (qb h3 hbA) o) 0).trans rfl
 go_wp2_with fail
 have hB2:Below w.heap.size w (w1.alloc (.cells #[.slice (some ⟨g1,0,none⟩) len cap1] 43 (0,0))):=pa hB1 _
 have h7:=heap_alloc_new w1 (.cells #[.slice (some ⟨g1,0,none⟩) len cap1] 43 (0,0))
 have hNA:=Kd.N_alloc (Kd.S_N (Kd.S_bound hoA)) (.cells #[.slice (some ⟨g1,0,none⟩) len cap1] 43 (0,0))
 have hz2:w1.heap.size≤(w1.alloc (.cells #[.slice (some ⟨g1,0,none⟩) len cap1] 43 (0,0))).heap.size:=(pa (Below.refl w1.heap.size w1) _).size
 have hz0:W0.heap.size≤w1.heap.size:=hbA.size
 have h42:=qa (qb h4 hbA) (.cells #[.slice (some ⟨g1,0,none⟩) len cap1] 43 (0,0))
 have h52:=qa (qb h5 hbA) (.cells #[.slice (some ⟨g1,0,none⟩) len cap1] 43 (0,0))
 have hl4:=blk_lt h4
 have hl5:=blk_lt h5
 have hR1:=Kd.C_below HR1.out hB2
 have hzw:=hB0.size
 clear hc3 h3 h4 h5 hbA hoA hB1 hB0
 generalize hp7:w1.heap.size=p7 at *
 generalize (w1.alloc (.cells #[.slice (some ⟨g1,0,none⟩) len cap1] 43 (0,0)))=w2 at *
 have hA:=spec_l2Own.calls kB A1 c1 l1 l1 w2 hR1 (by rw [← HLE1.out];exact hc1) HB1.out
 rw [← HLE1.out] at hA
 refine hA.mono ?_
 clear hA hR1
 rintro e w3 ⟨vb,rfl,hoB,hbB⟩
 obtain ⟨g2,cap2,eb,hg2,hg2l,_⟩:=Kd.S_form hoB (by rw [← HLE1.out];exact hne)
 rw [← HLE1.out] at eb
 subst eb
 have hLR:LR w p4 p5 p7 w3.heap.size g1 cap1 g2 cap2 len m1 m2 l0 l1 (w3.alloc (.cells #[.slice (some ⟨g2,0,none⟩) len cap2] 43 (0,0))):=by
  have hs2:=hbB.size
  have hs0:=hB2.size
  refine ⟨?_,?_,qa (qb h42 hbB) _,qa (qb h52 hbB) _,qa (qb h7 hbB) _,heap_alloc_new w3 _,pa (pu hB2 hbB) _,HP.out,HO0.out,HO1.out⟩
  ·exact Kd.N_lower (Kd.N_mono (Kd.N_alloc (Kd.N_below hNA hbB) _) (fun b hb=>by have:=hb.2.1;have:=hb.2.2.1;exact ⟨D23,D23,D23,D23⟩)) (by have:=HP.out;omega)
  exact Kd.N_lower (Kd.N_mono (Kd.N_alloc (Kd.S_N (Kd.S_bound hoB)) _) (fun b hb=>by have:=hb.2.1;exact ⟨D23,D23,D23,D23⟩)) hs0
 have HLR:=am hLR
 clear hLR hNA hoB hbB hB2 h7 h42 h52 hl4 hl5 hz2 hz0
 go_wp2_with fail
 generalize (w3.alloc (.cells #[.slice (some ⟨g2,0,none⟩) len cap2] 43 (0,0)))=W4 at HLR ⊢
 generalize w3.heap.size=p8 at HLR ⊢
 go_loopg [9,10] (m1+1) (fun fu v9 v10 wr=>∃ k:Nat,k≤m1∧m1 - k < fu∧v9 = .int .i64 ((rowP.red L k).2:Nat)∧v10 = .int .i64 k∧Aside0 (LR w p4 p5 p7 p8 g1 cap1 g2 cap2 len m1 m2 ((rowP.red L k).1.map Prod.fst) ((rowP.red L k).1.map Prod.snd) wr))
 case atStart=>exact ⟨0,Nat.zero_le _,D23,rfl,rfl,⟨by show LR w p4 p5 p7 p8 g1 cap1 g2 cap2 len m1 m2 (L.map Prod.fst) (L.map Prod.snd) W4;rw [HLA.out,HLB.out];exact HLR.out⟩⟩
 case round =>
  clear HLR
  obtain ⟨k,hk,hfu,rfl,rfl,HE⟩:=hrel
  obtain ⟨q,hq⟩:∃ q,q=rowP.red L k:=⟨_,rfl⟩
  rw [← hq] at HE ⊢
  have HQ:=am hq
  clear hq
  obtain ⟨L1,a⟩:=q
  have hlen1:L1.length=len:=by rw [show L1=(rowP.red L k).1 by rw [← HQ.out],RowK.red_length,HLL.out]
  have ha:a≤len:=by
   have h2:=(RowK.red_rank (O:=rowP) L k).2
   rw [← HQ.out,HLL.out] at h2
   exact h2
  replace HE:Aside0 (LR w p4 p5 p7 p8 g1 cap1 g2 cap2 len m1 m2 (L1.map Prod.fst) (L1.map Prod.snd) wr):=HE
  have hkA:=HE.out.keyA
  have hkB:=HE.out.keyB
  have h0l:0 < len:=by omega
  obtain ⟨_,A00,c00,_,_,hcell0,_,_,_⟩:=HE.out.rowA 0 h0l
  by_cases hkn:k < m1
  case neg =>
   have e:k=m1:=by omega
   subst e
   have hkz:¬ (k:Int) < (k:Int):=by omega
   have hdk:decide ((k:Int) < (k:Int))=false:=decide_eq_false hkz
   go_wp2_with fail
   replace HE:=am (HE.out.below (pd (Below.refl _ _)))
   have hkA:=HE.out.keyA
   have hkB:=HE.out.keyB
   have hk4:wr.drew.cell? ⟨p4,0,none⟩=some (.slice none 0 0):=(blk_cell HE.out.b4 0).trans rfl
   have hf4:=blk_frozen HE.out.b4 0
   have h47:p4 ≠ p7:=fun e=>by have z:=HE.out.b4;rw [e,HE.out.b7] at z;cases z
   have h48:p4 ≠ p8:=fun e=>by have z:=HE.out.b4;rw [e,HE.out.b8] at z;cases z
   have h45:=HE.out.lo.2.2
   refine start_ (n:=6) (S:=fun w'=>w'.cell? ⟨p7,0,none⟩=some (.slice (some ⟨g1,0,none⟩) len cap1)∧w'.cell? ⟨p8,0,none⟩=some (.slice (some ⟨g2,0,none⟩) len cap2)) (ds:=[4]) #[Z,Z,Z,Z,Z,Z] D3 rfl rfl ⟨hkA,hkB⟩ (fun hHeld=>?_)
   generalize wr.drew=wr at HE hHeld hk4 hf4 ⊢
   refine take_ (i:=0) (N:=some 166) (v:=?_) (a':=?_) #[Y,Z,Z,Z,Z,Z] rfl rfl D3 hh (Or.inl ⟨D35,?_⟩) hHeld ?_ ?_
   rotate_left
   ·rintro w' ⟨s0,s1⟩
    go_simp
    with_reducible rfl
   rotate_left
   ·simp only [Act.put,q1,q2,q3,i64_w,i32_w]
    rfl
   refine take_ (i:=1) (N:=some 167) (v:=?_) (a':=?_) #[Y,Y,Z,Z,Z,Z] rfl rfl D3 hh (Or.inl ⟨D35,?_⟩) hHeld ?_ ?_
   rotate_left
   ·rintro w' ⟨s0,s1⟩
    go_simp
    with_reducible rfl
   rotate_left
   ·simp only [Act.put,q1,q2,q3,i64_w,i32_w]
    rfl
   refine pure_ (i:=2) (N:=some 168) (v:=?_) (a':=?_) #[Y,Y,Y,Z,Z,Z] rfl rfl D3 hh (Or.inl ⟨D35,?_⟩) ?_ ?_
   rotate_left
   ·intro w'
    go_simp
    with_reducible rfl
   rotate_left
   ·simp only [Act.put,q1,q2,q3,i64_w,i32_w]
    rfl
   have hc7:=(World.cell?_setCell_far wr ⟨p4,0,none⟩ ⟨p7,0,none⟩ (.slice (some ⟨g1,0,none⟩) len cap1) h47).trans hHeld.1
   have hc8:=(World.cell?_setCell_far wr ⟨p4,0,none⟩ ⟨p8,0,none⟩ (.slice (some ⟨g1,0,none⟩) len cap1) h48).trans hHeld.2
   have hb4:=blk_put HE.out.b4 0 (.slice (some ⟨g1,0,none⟩) len cap1) rfl
   have hb5:=blk_far HE.out.b5 (p:=⟨p4,0,none⟩) (fun e=>h45 e.symm) (.slice (some ⟨g1,0,none⟩) len cap1)
   have hNB:=Kd.N_far HE.out.NB (p:=⟨p4,0,none⟩) (fun k hk=>hk.2.1) (.slice (some ⟨g1,0,none⟩) len cap1)
   have hBB:=pt (j:=0) (v:=.slice (some ⟨g1,0,none⟩) len cap1) HE.out.B HE.out.lo.1
   refine one_ (i:=3) (N:=none) #[Y,Y,Y,Y,Z,Z] rfl rfl D3 D24 (fun K hK=>?_)
   refine skip_ (w1:=?_) D35 rfl ?_ ?_
   rotate_left
   ·go_simp
    rfl
   refine hK.out _ _ ⟨hc7,hc8⟩ (fun hHeld=>?_)
   clear hK K hk4 hf4 hc7 hc8
   have hlo5:=HE.out.lo.2.1
   clear HE
   generalize wr.setCell ⟨p4,0,none⟩ (.slice (some ⟨g1,0,none⟩) len cap1)=wr at hb4 hb5 hNB hBB hHeld ⊢
   have hk5:wr.cell? ⟨p5,0,none⟩=some (.slice none 0 0):=(blk_cell hb5 0).trans rfl
   have hf5:=blk_frozen hb5 0
   refine last_ (i:=4) (N:=none) #[Y,Y,Y,Y,Y,Z] rfl rfl D3 D24 (fun K hK=>?_)
   refine skip_ (w1:=?_) D35 rfl ?_ ?_
   rotate_left
   ·go_simp
    rfl
   refine hK.out _ _ ?_
   clear hK K
   have hN2:=Kd.N_far hNB (p:=⟨p5,0,none⟩) (fun k hk=>hk.2.2.1) (.slice (some ⟨g2,0,none⟩) len cap2)
   have hB2:=pt (j:=0) (v:=.slice (some ⟨g2,0,none⟩) len cap2) hBB hlo5
   have h4:=blk_far hb4 (p:=⟨p5,0,none⟩) h45 (.slice (some ⟨g2,0,none⟩) len cap2)
   have h5:=blk_put hb5 0 (.slice (some ⟨g2,0,none⟩) len cap2) rfl
   clear hk5 hf5 hb4 hb5 hNB hBB hHeld
   generalize wr.setCell ⟨p5,0,none⟩ (.slice (some ⟨g2,0,none⟩) len cap2)=wr at hN2 hB2 h4 h5 ⊢
   have HNF:=am (Kd.N_mono hN2 (ok':=fun b=>w.heap.size≤b) (fun _ hk=>hk.2.2.2))
   have HBF:=am hB2
   clear hN2 hB2
   refine pure_ (i:=5) (N:=some 6) (v:=?_) (a':=?_) #[Y,Y,Y,Y,Y,Y] rfl rfl D3 hh (Or.inl ⟨D35,?_⟩) ?_ ?_
   rotate_left
   ·intro w'
    go_simp
    with_reducible rfl
   rotate_left
   ·simp only [Act.put,q1,q2,q3,i64_w,i32_w]
    rfl
   refine done_ D3 ?_
   go_wp2_with fail
   (try simp only [Exit.inBlock,Exit.then])
   refine bodyPost_ret (results_cct rfl _ _ p4 p5 43 43 #[.slice (some ⟨g1,0,none⟩) len cap1] #[.slice (some ⟨g2,0,none⟩) len cap2] (0,0) (0,0) _ _ rfl h4 hu rfl D3 rfl h5 hu rfl D3) rfl ?_
   rw [← HQ.out]
   exact ⟨_,_,_,_,rfl,HNF.out,HBF.out⟩
  have hkz:(k:Int) < (m1:Int):=by omega
  have hdk:decide ((k:Int) < (m1:Int))=true:=decide_eq_true hkz
  by_cases hal:a < len
  case neg =>
   have e:a=len:=by omega
   subst e
   have haz:¬ (a:Int) < (a:Int):=by omega
   have hda:decide ((a:Int) < (a:Int))=false:=decide_eq_false haz
   go_wp2_with fail
   replace HE:=am (HE.out.below (pd (Below.refl _ _)))
   have hkA:=HE.out.keyA
   have hkB:=HE.out.keyB
   have hk4:wr.drew.cell? ⟨p4,0,none⟩=some (.slice none 0 0):=(blk_cell HE.out.b4 0).trans rfl
   have hf4:=blk_frozen HE.out.b4 0
   have h47:p4 ≠ p7:=fun e=>by have z:=HE.out.b4;rw [e,HE.out.b7] at z;cases z
   have h48:p4 ≠ p8:=fun e=>by have z:=HE.out.b4;rw [e,HE.out.b8] at z;cases z
   have h45:=HE.out.lo.2.2
   refine start_ (n:=6) (S:=fun w'=>w'.cell? ⟨p7,0,none⟩=some (.slice (some ⟨g1,0,none⟩) a cap1)∧w'.cell? ⟨p8,0,none⟩=some (.slice (some ⟨g2,0,none⟩) a cap2)) (ds:=[4]) #[Z,Z,Z,Z,Z,Z] D3 rfl rfl ⟨hkA,hkB⟩ (fun hHeld=>?_)
   generalize wr.drew=wr at HE hHeld hk4 hf4 ⊢
   refine take_ (i:=0) (N:=some 166) (v:=?_) (a':=?_) #[Y,Z,Z,Z,Z,Z] rfl rfl D3 hh (Or.inl ⟨D35,?_⟩) hHeld ?_ ?_
   rotate_left
   ·rintro w' ⟨s0,s1⟩
    go_simp
    with_reducible rfl
   rotate_left
   ·simp only [Act.put,q1,q2,q3,i64_w,i32_w]
    rfl
   refine take_ (i:=1) (N:=some 167) (v:=?_) (a':=?_) #[Y,Y,Z,Z,Z,Z] rfl rfl D3 hh (Or.inl ⟨D35,?_⟩) hHeld ?_ ?_
   rotate_left
   ·rintro w' ⟨s0,s1⟩
    go_simp
    with_reducible rfl
   rotate_left
   ·simp only [Act.put,q1,q2,q3,i64_w,i32_w]
    rfl
   refine pure_ (i:=2) (N:=some 168) (v:=?_) (a':=?_) #[Y,Y,Y,Z,Z,Z] rfl rfl D3 hh (Or.inl ⟨D35,?_⟩) ?_ ?_
   rotate_left
   ·intro w'
    go_simp
    with_reducible rfl
   rotate_left
   ·simp only [Act.put,q1,q2,q3,i64_w,i32_w]
    rfl
   have hc7:=(World.cell?_setCell_far wr ⟨p4,0,none⟩ ⟨p7,0,none⟩ (.slice (some ⟨g1,0,none⟩) a cap1) h47).trans hHeld.1
   have hc8:=(World.cell?_setCell_far wr ⟨p4,0,none⟩ ⟨p8,0,none⟩ (.slice (some ⟨g1,0,none⟩) a cap1) h48).trans hHeld.2
   have hb4:=blk_put HE.out.b4 0 (.slice (some ⟨g1,0,none⟩) a cap1) rfl
   have hb5:=blk_far HE.out.b5 (p:=⟨p4,0,none⟩) (fun e=>h45 e.symm) (.slice (some ⟨g1,0,none⟩) a cap1)
   have hNB:=Kd.N_far HE.out.NB (p:=⟨p4,0,none⟩) (fun k hk=>hk.2.1) (.slice (some ⟨g1,0,none⟩) a cap1)
   have hBB:=pt (j:=0) (v:=.slice (some ⟨g1,0,none⟩) a cap1) HE.out.B HE.out.lo.1
   refine one_ (i:=3) (N:=none) #[Y,Y,Y,Y,Z,Z] rfl rfl D3 D24 (fun K hK=>?_)
   refine skip_ (w1:=?_) D35 rfl ?_ ?_
   rotate_left
   ·go_simp
    rfl
   refine hK.out _ _ ⟨hc7,hc8⟩ (fun hHeld=>?_)
   clear hK K hk4 hf4 hc7 hc8
   have hlo5:=HE.out.lo.2.1
   clear HE
   generalize wr.setCell ⟨p4,0,none⟩ (.slice (some ⟨g1,0,none⟩) a cap1)=wr at hb4 hb5 hNB hBB hHeld ⊢
   have hk5:wr.cell? ⟨p5,0,none⟩=some (.slice none 0 0):=(blk_cell hb5 0).trans rfl
   have hf5:=blk_frozen hb5 0
   refine last_ (i:=4) (N:=none) #[Y,Y,Y,Y,Y,Z] rfl rfl D3 D24 (fun K hK=>?_)
   refine skip_ (w1:=?_) D35 rfl ?_ ?_
   rotate_left
   ·go_simp
    rfl
   refine hK.out _ _ ?_
   clear hK K
   have hN2:=Kd.N_far hNB (p:=⟨p5,0,none⟩) (fun k hk=>hk.2.2.1) (.slice (some ⟨g2,0,none⟩) a cap2)
   have hB2:=pt (j:=0) (v:=.slice (some ⟨g2,0,none⟩) a cap2) hBB hlo5
   have h4:=blk_far hb4 (p:=⟨p5,0,none⟩) h45 (.slice (some ⟨g2,0,none⟩) a cap2)
   have h5:=blk_put hb5 0 (.slice (some ⟨g2,0,none⟩) a cap2) rfl
   clear hk5 hf5 hb4 hb5 hNB hBB hHeld
   generalize wr.setCell ⟨p5,0,none⟩ (.slice (some ⟨g2,0,none⟩) a cap2)=wr at hN2 hB2 h4 h5 ⊢
   have HNF:=am (Kd.N_mono hN2 (ok':=fun b=>w.heap.size≤b) (fun _ hk=>hk.2.2.2))
   have HBF:=am hB2
   clear hN2 hB2
   refine pure_ (i:=5) (N:=some 6) (v:=?_) (a':=?_) #[Y,Y,Y,Y,Y,Y] rfl rfl D3 hh (Or.inl ⟨D35,?_⟩) ?_ ?_
   rotate_left
   ·intro w'
    go_simp
    with_reducible rfl
   rotate_left
   ·simp only [Act.put,q1,q2,q3,i64_w,i32_w]
    rfl
   refine done_ D3 ?_
   go_wp2_with fail
   (try simp only [Exit.inBlock,Exit.then])
   refine bodyPost_ret (results_cct rfl _ _ p4 p5 43 43 #[.slice (some ⟨g1,0,none⟩) a cap1] #[.slice (some ⟨g2,0,none⟩) a cap2] (0,0) (0,0) _ _ rfl h4 hu rfl D3 rfl h5 hu rfl D3) rfl ?_
   have hf:(rowP.red L k).2=L.length:=by rw [← HQ.out,HLL.out]
   have e2:=RowK.red_full hf (m1 - k)
   rw [show k+(m1 - k)=m1 by omega] at e2
   rw [e2,← HQ.out]
   exact ⟨_,_,_,_,rfl,HNF.out,HBF.out⟩
  have haz:(a:Int) < (len:Int):=by omega
  have hda:decide ((a:Int) < (len:Int))=true:=decide_eq_true haz
  go_wp2_with fail
  go_loopg [11] (len+1) (fun fu v11 wr=>∃ p:Nat,a≤p∧p≤len∧len - p < fu∧v11 = .int .i64 p∧Aside0 (∀ i,a≤i→i < p→((L1.map Prod.fst).getD i []).getD k 0=0)∧Aside0 (LR w p4 p5 p7 p8 g1 cap1 g2 cap2 len m1 m2 (L1.map Prod.fst) (L1.map Prod.snd) wr))
  case atStart=>exact ⟨a,Nat.le_refl _,ha,D23,rfl,⟨fun i h1 h2=>by omega⟩,HE⟩
  case round =>
   clear HE hkA hkB hcell0
   obtain ⟨p,hap,hp,hfp,rfl,HZ,HE⟩:=hrel
   have hkA:=HE.out.keyA
   have hkB:=HE.out.keyB
   by_cases hpl:p < len
   case neg =>
    have e:p=len:=by omega
    subst e
    have hpz:¬ (p:Int) < (p:Int):=by omega
    have hdp:decide ((p:Int) < (p:Int))=false:=decide_eq_false hpz
    have HS:=am (rp_none HQ.out HLL.out hal hlen1 HZ.out)
    go_wp2_with fail
    go_roundg (m1 - k)
    case measure=>omega
    case rel=>exact ⟨k+1,D23,D23,by rw [HS.out],by go_num,⟨by rw [HS.out];exact HE.out⟩⟩
   have hpz:(p:Int) < (len:Int):=by omega
   have hdp:decide ((p:Int) < (len:Int))=true:=decide_eq_true hpz
   obtain ⟨r1,A1,c1,hr1,hok1,hcell1,hle1,hF1,hfr1⟩:=HE.out.rowA p hpl
   obtain ⟨ad1,rfl,hbyte⟩:=F_m hF1 hok1.2 k hkn
   obtain ⟨y,hy⟩:∃ y,y=r1.getD k 0:=⟨_,rfl⟩
   rw [← hy] at hbyte
   have HY:=am hy
   have HR1E:=am hr1
   clear hy
   by_cases hy0:y=0
   case pos =>
    have HZ2:=am (show ∀ i,a≤i→i < p+1→((L1.map Prod.fst).getD i []).getD k 0=0 from fun i h1 h2=>by
     by_cases e:i=p
     ·subst e;rw [hr1,← HY.out];exact hy0
     exact HZ.out i h1 D23)
    clear hr1 HR1E HY hF1
    subst hy0
    go_wp2_with fail
    go_roundg (len - p)
    case measure=>omega
    case rel=>exact ⟨p+1,D23,D23,D23,by go_num,HZ2,HE⟩
   have hb2:(y == 0)=false:=by simpa using hy0
   have hne:¬ (p:Int)=(len:Int):=by omega
   have hdne:((p:Int) == (len:Int))=false:=by simpa using hne
   have HS:=am (rp_some HQ.out HLL.out hal hlen1 hap hpl (by rw [hr1,← HY.out];exact hy0) HZ.out)
   obtain ⟨s1,B1,d1,hs1,hokb1,hcellb1,hleb1,hFb1,hfrb1⟩:=HE.out.rowB p hpl
   clear hr1
   have hyb:Byte y:=by rw [HY.out];exact bytes_getD hok1.1 k
   have hyi:=hyb.inv
   obtain ⟨kI,hI⟩:=(SpecElim.spec_l1Inverse.ev hyb).rounds
   obtain ⟨kHSA,hSA⟩:=(SpecElim.spec_l1Scale.ev hyi hok1.1 (by rw [hok1.2];omega)).rounds
   obtain ⟨kHSB,hSB⟩:=(SpecElim.spec_l1Scale.ev hyi hokb1.1 (by rw [hokb1.2];omega)).rounds
   have HI:=am hI
   have HSA:=am hSA
   have HSB:=am hSB
   have HS1:=am hs1
   have HF1:=am hF1
   have HFb1:=am hFb1
   have hkz2:(k:Int) < (m1:Int):=hkz
   clear hI hSA hSB hs1 hF1 hFb1
   go_wp2_with fail
   clear hcell1 hbyte hcellb1 hkA hkB
   replace HE:=am (HE.out.below (pd (Below.refl _ _)))
   have hk0:=HE.out.keyA
   obtain ⟨ra,A9,c9,hra,hok9,hcell9,hle9,hF9,_⟩:=HE.out.rowA a hal
   obtain ⟨_,_,_,_,_,hcellp,_,_,hfrp⟩:=HE.out.rowA p hpl
   refine start_ (n:=10) (S:=fun w'=>w'.cell? ⟨p7,0,none⟩=some (.slice (some ⟨g1,0,none⟩) len cap1)∧w'.cell? ⟨g1,a,none⟩=some (.slice A9 m1 c9)) (ds:=[9]) #[Z,Z,Z,Z,Z,Z,Z,Z,Z,Z] D3 rfl rfl ⟨hk0,hcell9⟩ (fun hHeld=>?_)
   replace HF1:=am (Kd.F_drew HF1.out)
   replace HFb1:=am (Kd.F_drew HFb1.out)
   generalize wr.drew=wr at HE HF1 HFb1 hHeld hF9 hcellp hfrp ⊢
   clear hk0 hcell9
   refine pure_ (i:=0) (N:=some 71) (v:=?_) (a':=?_) #[Y,Z,Z,Z,Z,Z,Z,Z,Z,Z] rfl rfl D3 hh (Or.inl ⟨D35,?_⟩) ?_ ?_
   rotate_left
   ·intro w'
    go_simp
    with_reducible rfl
   rotate_left
   ·simp only [Act.put,q1,q2,q3,i64_w,i32_w]
    rfl
   refine take_ (i:=1) (N:=some 72) (v:=?_) (a':=?_) #[Y,Y,Z,Z,Z,Z,Z,Z,Z,Z] rfl rfl D3 hh (Or.inl ⟨D35,?_⟩) hHeld ?_ ?_
   rotate_left
   ·rintro w' ⟨s0,s1⟩
    go_simp
    with_reducible rfl
   rotate_left
   ·simp only [Act.put,q1,q2,q3,i64_w,i32_w]
    rfl
   refine pure_ (i:=2) (N:=some 73) (v:=?_) (a':=?_) #[Y,Y,Y,Z,Z,Z,Z,Z,Z,Z] rfl rfl D3 hh (Or.inl ⟨D35,?_⟩) ?_ ?_
   rotate_left
   ·intro w'
    go_simp
    with_reducible rfl
   rotate_left
   ·simp only [Act.put,q1,q2,q3,i64_w,i32_w]
    rfl
   refine pure_ (i:=3) (N:=some 74) (v:=?_) (a':=?_) #[Y,Y,Y,Y,Z,Z,Z,Z,Z,Z] rfl rfl D3 hh (Or.inl ⟨D35,?_⟩) ?_ ?_
   rotate_left
   ·intro w'
    go_simp
    with_reducible rfl
   rotate_left
   ·simp only [Act.put,q1,q2,q3,i64_w,i32_w]
    rfl
   refine take_ (i:=4) (N:=some 75) (v:=?_) (a':=?_) #[Y,Y,Y,Y,Y,Z,Z,Z,Z,Z] rfl rfl D3 hh (Or.inl ⟨D35,?_⟩) hHeld ?_ ?_
   rotate_left
   ·rintro w' ⟨s0,s1⟩
    go_simp
    with_reducible rfl
   rotate_left
   ·simp only [Act.put,q1,q2,q3,i64_w,i32_w]
    rfl
   refine pure_ (i:=5) (N:=some 76) (v:=?_) (a':=?_) #[Y,Y,Y,Y,Y,Y,Z,Z,Z,Z] rfl rfl D3 hh (Or.inl ⟨D35,?_⟩) ?_ ?_
   rotate_left
   ·intro w'
    go_simp
    with_reducible rfl
   rotate_left
   ·simp only [Act.put,q1,q2,q3,i64_w,i32_w]
    rfl
   refine pure_ (i:=6) (N:=some 77) (v:=?_) (a':=?_) #[Y,Y,Y,Y,Y,Y,Y,Z,Z,Z] rfl rfl D3 hh (Or.inl ⟨D35,?_⟩) ?_ ?_
   rotate_left
   ·intro w'
    go_simp
    with_reducible rfl
   rotate_left
   ·simp only [Act.put,q1,q2,q3,i64_w,i32_w]
    rfl
   refine take_ (i:=7) (N:=some 78) (v:=?_) (a':=?_) #[Y,Y,Y,Y,Y,Y,Y,Y,Z,Z] rfl rfl D3 hh (Or.inl ⟨D35,?_⟩) hHeld ?_ ?_
   rotate_left
   ·rintro w' ⟨s0,s1⟩
    go_simp
    with_reducible rfl
   rotate_left
   ·simp only [Act.put,q1,q2,q3,i64_w,i32_w]
    rfl
   refine pure_ (i:=8) (N:=some 79) (v:=?_) (a':=?_) #[Y,Y,Y,Y,Y,Y,Y,Y,Y,Z] rfl rfl D3 hh (Or.inl ⟨D35,?_⟩) ?_ ?_
   rotate_left
   ·intro w'
    go_simp
    with_reducible rfl
   rotate_left
   ·simp only [Act.put,q1,q2,q3,i64_w,i32_w]
    rfl
   refine last_ (i:=9) (N:=none) #[Y,Y,Y,Y,Y,Y,Y,Y,Y,Y] rfl rfl D3 D24 (fun K hK=>?_)
   refine skip_ (w1:=?_) D35 rfl ?_ ?_
   rotate_left
   ·go_simp
    rfl
   refine hK.out _ _ ?_
   clear hK K
   refine done_ D3 ?_
   have hE1:=HE.out.putA p hpl hok9 hle9 hF9
   replace HF1:=am (Kd.F_far HF1.out (p:=⟨g1,p,none⟩) (fun k hk=>hk.1) (.slice A9 m1 c9))
   replace HFb1:=am (Kd.F_far HFb1.out (p:=⟨g1,p,none⟩) (fun k hk=>hk.1) (.slice A9 m1 c9))
   clear HE hHeld hF9 hcellp hfrp hok9 hle9
   generalize wr.setCell ⟨g1,p,none⟩ (.slice A9 m1 c9)=wr at hE1 HF1 HFb1 ⊢
   have HE:=am hE1
   clear hE1
   go_wp2_with fail
   replace HE:=am (HE.out.below (pd (Below.refl _ _)))
   have hk0:=HE.out.keyB
   obtain ⟨sa,A9,c9,hsa,hok9,hcell9,hle9,hF9,_⟩:=HE.out.rowB a hal
   obtain ⟨_,_,_,_,_,hcellp,_,_,hfrp⟩:=HE.out.rowB p hpl
   refine start_ (n:=10) (S:=fun w'=>w'.cell? ⟨p8,0,none⟩=some (.slice (some ⟨g2,0,none⟩) len cap2)∧w'.cell? ⟨g2,a,none⟩=some (.slice A9 m2 c9)) (ds:=[9]) #[Z,Z,Z,Z,Z,Z,Z,Z,Z,Z] D3 rfl rfl ⟨hk0,hcell9⟩ (fun hHeld=>?_)
   replace HF1:=am (Kd.F_drew HF1.out)
   replace HFb1:=am (Kd.F_drew HFb1.out)
   generalize wr.drew=wr at HE HF1 HFb1 hHeld hF9 hcellp hfrp ⊢
   clear hk0 hcell9
   refine pure_ (i:=0) (N:=some 80) (v:=?_) (a':=?_) #[Y,Z,Z,Z,Z,Z,Z,Z,Z,Z] rfl rfl D3 hh (Or.inl ⟨D35,?_⟩) ?_ ?_
   rotate_left
   ·intro w'
    go_simp
    with_reducible rfl
   rotate_left
   ·simp only [Act.put,q1,q2,q3,i64_w,i32_w]
    rfl
   refine take_ (i:=1) (N:=some 81) (v:=?_) (a':=?_) #[Y,Y,Z,Z,Z,Z,Z,Z,Z,Z] rfl rfl D3 hh (Or.inl ⟨D35,?_⟩) hHeld ?_ ?_
   rotate_left
   ·rintro w' ⟨s0,s1⟩
    go_simp
    with_reducible rfl
   rotate_left
   ·simp only [Act.put,q1,q2,q3,i64_w,i32_w]
    rfl
   refine pure_ (i:=2) (N:=some 82) (v:=?_) (a':=?_) #[Y,Y,Y,Z,Z,Z,Z,Z,Z,Z] rfl rfl D3 hh (Or.inl ⟨D35,?_⟩) ?_ ?_
   rotate_left
   ·intro w'
    go_simp
    with_reducible rfl
   rotate_left
   ·simp only [Act.put,q1,q2,q3,i64_w,i32_w]
    rfl
   refine pure_ (i:=3) (N:=some 83) (v:=?_) (a':=?_) #[Y,Y,Y,Y,Z,Z,Z,Z,Z,Z] rfl rfl D3 hh (Or.inl ⟨D35,?_⟩) ?_ ?_
   rotate_left
   ·intro w'
    go_simp
    with_reducible rfl
   rotate_left
   ·simp only [Act.put,q1,q2,q3,i64_w,i32_w]
    rfl
   refine take_ (i:=4) (N:=some 84) (v:=?_) (a':=?_) #[Y,Y,Y,Y,Y,Z,Z,Z,Z,Z] rfl rfl D3 hh (Or.inl ⟨D35,?_⟩) hHeld ?_ ?_
   rotate_left
   ·rintro w' ⟨s0,s1⟩
    go_simp
    with_reducible rfl
   rotate_left
   ·simp only [Act.put,q1,q2,q3,i64_w,i32_w]
    rfl
   refine pure_ (i:=5) (N:=some 85) (v:=?_) (a':=?_) #[Y,Y,Y,Y,Y,Y,Z,Z,Z,Z] rfl rfl D3 hh (Or.inl ⟨D35,?_⟩) ?_ ?_
   rotate_left
   ·intro w'
    go_simp
    with_reducible rfl
   rotate_left
   ·simp only [Act.put,q1,q2,q3,i64_w,i32_w]
    rfl
   refine pure_ (i:=6) (N:=some 86) (v:=?_) (a':=?_) #[Y,Y,Y,Y,Y,Y,Y,Z,Z,Z] rfl rfl D3 hh (Or.inl ⟨D35,?_⟩) ?_ ?_
   rotate_left
   ·intro w'
    go_simp
    with_reducible rfl
   rotate_left
   ·simp only [Act.put,q1,q2,q3,i64_w,i32_w]
    rfl
   refine take_ (i:=7) (N:=some 87) (v:=?_) (a':=?_) #[Y,Y,Y,Y,Y,Y,Y,Y,Z,Z] rfl rfl D3 hh (Or.inl ⟨D35,?_⟩) hHeld ?_ ?_
   rotate_left
   ·rintro w' ⟨s0,s1⟩
    go_simp
    with_reducible rfl
   rotate_left
   ·simp only [Act.put,q1,q2,q3,i64_w,i32_w]
    rfl
   refine pure_ (i:=8) (N:=some 88) (v:=?_) (a':=?_) #[Y,Y,Y,Y,Y,Y,Y,Y,Y,Z] rfl rfl D3 hh (Or.inl ⟨D35,?_⟩) ?_ ?_
   rotate_left
   ·intro w'
    go_simp
    with_reducible rfl
   rotate_left
   ·simp only [Act.put,q1,q2,q3,i64_w,i32_w]
    rfl
   refine last_ (i:=9) (N:=none) #[Y,Y,Y,Y,Y,Y,Y,Y,Y,Y] rfl rfl D3 D24 (fun K hK=>?_)
   refine skip_ (w1:=?_) D35 rfl ?_ ?_
   rotate_left
   ·go_simp
    rfl
   refine hK.out _ _ ?_
   clear hK K
   refine done_ D3 ?_
   have hE1:=HE.out.putB p hpl hok9 hle9 hF9
   replace HF1:=am (Kd.F_far HF1.out (p:=⟨g2,p,none⟩) (fun k hk=>hk.2.1) (.slice A9 m2 c9))
   replace HFb1:=am (Kd.F_far HFb1.out (p:=⟨g2,p,none⟩) (fun k hk=>hk.2.1) (.slice A9 m2 c9))
   clear HE hHeld hF9 hcellp hfrp hok9 hle9
   generalize wr.setCell ⟨g2,p,none⟩ (.slice A9 m2 c9)=wr at hE1 HF1 HFb1 ⊢
   have HE:=am hE1
   clear hE1
   obtain ⟨ad1',e1,hbyte⟩:=F_m HF1.out hok1.2 k hkn
   injection e1 with e1
   subst e1
   rw [← HY.out] at hbyte
   go_wp2_with fail
   refine (spec_l1Inverse.calls kI y (inv y) _ HI.out).mono ?_
   rintro e w4 ⟨rfl,⟨q4,rfl⟩⟩
   clear hbyte
   replace HE:=am (HE.out.below (w1:=wr.drewN q4) (pb (Below.refl _ _) q4))
   replace HF1:=am (Kd.F_drewN HF1.out q4)
   replace HFb1:=am (Kd.F_drewN HFb1.out q4)
   generalize wr.drewN q4=wr at HE HF1 HFb1 ⊢
   go_wp2_with fail
   replace HE:=am (HE.out.below (pd (Below.refl _ _)))
   have hk0:=HE.out.keyA
   refine start_ (n:=8) (S:=fun w'=>w'.cell? ⟨p7,0,none⟩=some (.slice (some ⟨g1,0,none⟩) len cap1)) (ds:=[7]) #[Z,Z,Z,Z,Z,Z,Z,Z] D3 rfl rfl hk0 (fun hHeld=>?_)
   replace HF1:=am (Kd.F_drew HF1.out)
   replace HFb1:=am (Kd.F_drew HFb1.out)
   generalize wr.drew=wr at HE HF1 HFb1 hHeld ⊢
   clear hk0
   refine pure_ (i:=0) (N:=some 94) (v:=?_) (a':=?_) #[Y,Z,Z,Z,Z,Z,Z,Z] rfl rfl D3 hh (Or.inl ⟨D35,?_⟩) ?_ ?_
   rotate_left
   ·intro w'
    go_simp
    with_reducible rfl
   rotate_left
   ·simp only [Act.put,q1,q2,q3,i64_w,i32_w]
    rfl
   refine take_ (i:=1) (N:=some 95) (v:=?_) (a':=?_) #[Y,Y,Z,Z,Z,Z,Z,Z] rfl rfl D3 hh (Or.inl ⟨D35,?_⟩) hHeld ?_ ?_
   rotate_left
   ·rintro w' s0
    go_simp
    with_reducible rfl
   rotate_left
   ·simp only [Act.put,q1,q2,q3,i64_w,i32_w]
    rfl
   refine pure_ (i:=2) (N:=some 96) (v:=?_) (a':=?_) #[Y,Y,Y,Z,Z,Z,Z,Z] rfl rfl D3 hh (Or.inl ⟨D35,?_⟩) ?_ ?_
   rotate_left
   ·intro w'
    go_simp
    with_reducible rfl
   rotate_left
   ·simp only [Act.put,q1,q2,q3,i64_w,i32_w]
    rfl
   refine pure_ (i:=3) (N:=some 97) (v:=?_) (a':=?_) #[Y,Y,Y,Y,Z,Z,Z,Z] rfl rfl D3 hh (Or.inl ⟨D35,?_⟩) ?_ ?_
   rotate_left
   ·intro w'
    go_simp
    with_reducible rfl
   rotate_left
   ·simp only [Act.put,q1,q2,q3,i64_w,i32_w]
    rfl
   refine pure_ (i:=4) (N:=some 98) (v:=?_) (a':=?_) #[Y,Y,Y,Y,Y,Z,Z,Z] rfl rfl D3 hh (Or.inl ⟨D35,?_⟩) ?_ ?_
   rotate_left
   ·intro w'
    go_simp
    with_reducible rfl
   rotate_left
   ·simp only [Act.put,q1,q2,q3,i64_w,i32_w]
    rfl
   refine one_ (i:=5) (N:=some 99) #[Y,Y,Y,Y,Y,Y,Z,Z] rfl rfl D3 D24 (fun K hK=>?_)
   refine goes_ Try.func124 D3 rfl #[Value.int .u8 (inv y),Value.slice (some ad1) m1 c1] D35 rfl rfl D36 ?_
   have hS:=spec_l1Scale.calls kHSA (inv y) (some ad1) c1 r1 (scale (inv y) r1) wr (F_C HF1.out hok1.2) (by rw [hok1.2];exact hle1) HSA.out
   rw [hok1.2] at hS
   refine hS.mono ?_
   clear hS
   rintro e w5 ⟨v5,rfl,ho5,hb5⟩
   refine ⟨_,rfl,?_⟩
   obtain ⟨A5,c5,e5⟩:=Kd.R_slice ho5
   rw [scale_length,hok1.2] at e5
   subst e5
   have hle5:m1≤c5:=(Kd.R_reads' ho5).2.1
   have HF5:=am (HE.out.fresh ho5)
   replace HE:=am (HE.out.below hb5)
   replace hHeld:=pw_cell_below hb5 hHeld
   replace HFb1:=am (Kd.F_below HFb1.out hb5)
   clear ho5 hb5 HF1
   refine hK.out _ _ hHeld (fun hHeld=>?_)
   clear hK K
   refine norm_ (nA 99) ?_
   refine pure_ (i:=6) (N:=some 100) (v:=?_) (a':=?_) #[Y,Y,Y,Y,Y,Y,Y,Z] rfl rfl D3 hh (Or.inl ⟨D35,?_⟩) ?_ ?_
   rotate_left
   ·intro w'
    go_simp
    with_reducible rfl
   rotate_left
   ·simp only [Act.put,q1,q2,q3,i64_w,i32_w]
    rfl
   obtain ⟨_,_,_,_,_,hcell3,_,_,hfr3⟩:=HE.out.rowA a hal
   refine last_ (i:=7) (N:=none) #[Y,Y,Y,Y,Y,Y,Y,Y] rfl rfl D3 D24 (fun K hK=>?_)
   refine skip_ (w1:=?_) D35 rfl ?_ ?_
   rotate_left
   ·go_simp
    rfl
   refine hK.out _ _ ?_
   clear hK K
   refine done_ D3 ?_
   have hokx:=el_scale hyi hok1
   have hE1:=HE.out.putA a hal hokx hle5 HF5.out
   replace HFb1:=am (Kd.F_far HFb1.out (p:=⟨g1,a,none⟩) (fun k hk=>hk.1) (.slice A5 m1 c5))
   clear HE HF5 hcell3 hfr3 hHeld hokx
   generalize w5.setCell ⟨g1,a,none⟩ (.slice A5 m1 c5)=wr at hE1 HFb1 ⊢
   have HE:=am hE1
   clear hE1 hle5
   go_wp2_with fail
   replace HE:=am (HE.out.below (pd (Below.refl _ _)))
   have hk0:=HE.out.keyB
   refine start_ (n:=8) (S:=fun w'=>w'.cell? ⟨p8,0,none⟩=some (.slice (some ⟨g2,0,none⟩) len cap2)) (ds:=[7]) #[Z,Z,Z,Z,Z,Z,Z,Z] D3 rfl rfl hk0 (fun hHeld=>?_)
   replace HFb1:=am (Kd.F_drew HFb1.out)
   generalize wr.drew=wr at HE HFb1 hHeld ⊢
   clear hk0
   refine pure_ (i:=0) (N:=some 101) (v:=?_) (a':=?_) #[Y,Z,Z,Z,Z,Z,Z,Z] rfl rfl D3 hh (Or.inl ⟨D35,?_⟩) ?_ ?_
   rotate_left
   ·intro w'
    go_simp
    with_reducible rfl
   rotate_left
   ·simp only [Act.put,q1,q2,q3,i64_w,i32_w]
    rfl
   refine take_ (i:=1) (N:=some 102) (v:=?_) (a':=?_) #[Y,Y,Z,Z,Z,Z,Z,Z] rfl rfl D3 hh (Or.inl ⟨D35,?_⟩) hHeld ?_ ?_
   rotate_left
   ·rintro w' s0
    go_simp
    with_reducible rfl
   rotate_left
   ·simp only [Act.put,q1,q2,q3,i64_w,i32_w]
    rfl
   refine pure_ (i:=2) (N:=some 103) (v:=?_) (a':=?_) #[Y,Y,Y,Z,Z,Z,Z,Z] rfl rfl D3 hh (Or.inl ⟨D35,?_⟩) ?_ ?_
   rotate_left
   ·intro w'
    go_simp
    with_reducible rfl
   rotate_left
   ·simp only [Act.put,q1,q2,q3,i64_w,i32_w]
    rfl
   refine pure_ (i:=3) (N:=some 104) (v:=?_) (a':=?_) #[Y,Y,Y,Y,Z,Z,Z,Z] rfl rfl D3 hh (Or.inl ⟨D35,?_⟩) ?_ ?_
   rotate_left
   ·intro w'
    go_simp
    with_reducible rfl
   rotate_left
   ·simp only [Act.put,q1,q2,q3,i64_w,i32_w]
    rfl
   refine pure_ (i:=4) (N:=some 105) (v:=?_) (a':=?_) #[Y,Y,Y,Y,Y,Z,Z,Z] rfl rfl D3 hh (Or.inl ⟨D35,?_⟩) ?_ ?_
   rotate_left
   ·intro w'
    go_simp
    with_reducible rfl
   rotate_left
   ·simp only [Act.put,q1,q2,q3,i64_w,i32_w]
    rfl
   refine one_ (i:=5) (N:=some 106) #[Y,Y,Y,Y,Y,Y,Z,Z] rfl rfl D3 D24 (fun K hK=>?_)
   refine goes_ Try.func124 D3 rfl #[Value.int .u8 (inv y),Value.slice B1 m2 d1] D35 rfl rfl D36 ?_
   have hS:=spec_l1Scale.calls kHSB (inv y) B1 d1 s1 (scale (inv y) s1) wr (F_C HFb1.out hokb1.2) (by rw [hokb1.2];exact hleb1) HSB.out
   rw [hokb1.2] at hS
   refine hS.mono ?_
   clear hS
   rintro e w5 ⟨v5,rfl,ho5,hb5⟩
   refine ⟨_,rfl,?_⟩
   obtain ⟨A5,c5,e5⟩:=Kd.R_slice ho5
   rw [scale_length,hokb1.2] at e5
   subst e5
   have hle5:m2≤c5:=(Kd.R_reads' ho5).2.1
   have HF5:=am (HE.out.fresh ho5)
   replace HE:=am (HE.out.below hb5)
   replace hHeld:=pw_cell_below hb5 hHeld
   clear ho5 hb5 HFb1
   refine hK.out _ _ hHeld (fun hHeld=>?_)
   clear hK K
   refine norm_ (nA 106) ?_
   refine pure_ (i:=6) (N:=some 107) (v:=?_) (a':=?_) #[Y,Y,Y,Y,Y,Y,Y,Z] rfl rfl D3 hh (Or.inl ⟨D35,?_⟩) ?_ ?_
   rotate_left
   ·intro w'
    go_simp
    with_reducible rfl
   rotate_left
   ·simp only [Act.put,q1,q2,q3,i64_w,i32_w]
    rfl
   obtain ⟨_,_,_,_,_,hcell3,_,_,hfr3⟩:=HE.out.rowB a hal
   refine last_ (i:=7) (N:=none) #[Y,Y,Y,Y,Y,Y,Y,Y] rfl rfl D3 D24 (fun K hK=>?_)
   refine skip_ (w1:=?_) D35 rfl ?_ ?_
   rotate_left
   ·go_simp
    rfl
   refine hK.out _ _ ?_
   clear hK K
   refine done_ D3 ?_
   have hokx:=el_scale hyi hokb1
   have hE1:=HE.out.putB a hal hokx hle5 HF5.out
   clear HE HF5 hcell3 hfr3 hHeld hokx
   generalize w5.setCell ⟨g2,a,none⟩ (.slice A5 m2 c5)=wr at hE1 ⊢
   have HE:=am hE1
   clear hE1 hle5
   have hE1:=HE.out
   rw [← hra,HY.out,← HR1E.out,← rp_lift_fst,← hsa,← HS1.out,← rp_lift_snd] at hE1
   obtain ⟨L3,hL3⟩:∃ L3,L3=rowP.lift L1 k a p:=⟨_,rfl⟩
   rw [← hL3] at hE1 HS
   clear HE hL3 hra hsa HY HR1E HS1 hok1 hokb1 HI HSA HSB hyb hyi hb2 hy0
   have HE:=am hE1
   clear hE1
   have hkA:=HE.out.keyA
   go_wp2_with fail
   go_loopg [111] (len+1) (fun fu v111 wr=>∃ i:Nat,i≤len∧len - i < fu∧v111 = .int .i64 i∧Aside0 (LR w p4 p5 p7 p8 g1 cap1 g2 cap2 len m1 m2 ((rowP.clr k a L3 i).map Prod.fst) ((rowP.clr k a L3 i).map Prod.snd) wr))
   case atStart=>exact ⟨0,Nat.zero_le _,D23,rfl,HE⟩
   case round =>
    clear HE hkA
    obtain ⟨i,hi,hfi,rfl,HE⟩:=hrel
    have hkA:=HE.out.keyA
    by_cases hil:i < len
    case neg =>
     have e:i=len:=by omega
     subst e
     have hrz:¬ (i:Int) < (i:Int):=by omega
     have hdr:decide ((i:Int) < (i:Int))=false:=decide_eq_false hrz
     go_wp2_with fail
     go_roundg (m1 - k)
     case measure=>omega
     case rel=>exact ⟨k+1,D23,D23,by rw [HS.out];go_num,by go_num,⟨by rw [HS.out];exact HE.out⟩⟩
    have hrz:(i:Int) < (len:Int):=by omega
    have hdr:decide ((i:Int) < (len:Int))=true:=decide_eq_true hrz
    obtain ⟨ri,Ai,ci,hri,hoki,hcelli,hlei,hFi,_⟩:=HE.out.rowA i hil
    obtain ⟨adi,rfl,hbyte⟩:=F_m hFi hoki.2 k hkn
    obtain ⟨z,hz⟩:∃ z,z=ri.getD k 0:=⟨_,rfl⟩
    rw [← hz] at hbyte
    have HZE:=am (hz.trans (by rw [← hri]))
    have hzb:Byte z:=by rw [hz];exact bytes_getD hoki.1 k
    clear hz hFi
    by_cases hia:i=a
    case pos =>
     have HT:=am (rp_clr_skip (L:=L3) (k:=k) (a:=a) (r:=i) (.inl hia))
     clear HZE hri
     subst hia
     go_wp2_with fail
     go_roundg (len - i)
     case measure=>omega
     case rel=>exact ⟨i+1,D23,D23,by go_num,⟨by rw [HT.out];exact HE.out⟩⟩
    have hiz:¬ (i:Int)=(a:Int):=by omega
    by_cases hz0:z=0
    case pos =>
     have HT:=am (rp_clr_skip (L:=L3) (k:=k) (a:=a) (r:=i) (.inr (HZE.out.symm.trans hz0)))
     clear HZE hri
     subst hz0
     go_wp2_with fail
     go_roundg (len - i)
     case measure=>omega
     case rel=>exact ⟨i+1,D23,D23,by go_num,⟨by rw [HT.out];exact HE.out⟩⟩
    have hb1:((i:Int) != (a:Int))=true:=bne_iff_ne.2 hiz
    have hb2:(z != 0)=true:=bne_iff_ne.2 hz0
    have HT:=am (rp_clr_do (L:=L3) hia HZE.out.symm hz0)
    clear HZE hri
    go_wp2_with fail
    clear hkA hcelli hbyte
    replace HE:=am (HE.out.below (pd (Below.refl _ _)))
    have hk0:=HE.out.keyA
    obtain ⟨x6,A6,c6,hx6,hok6,hcell6,hle6,hF6,_⟩:=HE.out.rowA i hil
    obtain ⟨x7,A7,c7,hx7,hok7,hcell7,hle7,hF7,_⟩:=HE.out.rowA a hal
    have hok8:=el_scale hzb hok7
    have hok9:=el_add hok6 hok8
    obtain ⟨kS,hS⟩:=(SpecElim.spec_l1Scale.ev hzb hok7.1 (by rw [hok7.2];omega)).rounds
    obtain ⟨kA,hA⟩:=(SpecElim.spec_l1Add.ev hok6.1 hok8.1 (by rw [hok6.2,hok8.2]) (by rw [hok6.2];omega)).rounds
    have HSc:=am hS
    have HAd:=am hA
    clear hS hA
    refine start_ (n:=18) (S:=fun w'=>w'.cell? ⟨p7,0,none⟩=some (.slice (some ⟨g1,0,none⟩) len cap1)∧w'.cell? ⟨g1,i,none⟩=some (.slice A6 m1 c6)∧w'.cell? ⟨g1,a,none⟩=some (.slice A7 m1 c7)) (ds:=[17]) #[Z,Z,Z,Z,Z,Z,Z,Z,Z,Z,Z,Z,Z,Z,Z,Z,Z,Z] D3 rfl rfl ⟨hk0,hcell6,hcell7⟩ (fun hHeld=>?_)
    generalize wr.drew=wr at HE hHeld hF6 hF7 ⊢
    have HF6:=am hF6
    have HF7:=am hF7
    clear hF6 hF7 hk0 hcell6 hcell7
    refine pure_ (i:=0) (N:=some 129) (v:=?_) (a':=?_) #[Y,Z,Z,Z,Z,Z,Z,Z,Z,Z,Z,Z,Z,Z,Z,Z,Z,Z] rfl rfl D3 hh (Or.inl ⟨D35,?_⟩) ?_ ?_
    rotate_left
    ·intro w'
     go_simp
     with_reducible rfl
    rotate_left
    ·simp only [Act.put,q1,q2,q3,i64_w,i32_w]
     rfl
    refine take_ (i:=1) (N:=some 130) (v:=?_) (a':=?_) #[Y,Y,Z,Z,Z,Z,Z,Z,Z,Z,Z,Z,Z,Z,Z,Z,Z,Z] rfl rfl D3 hh (Or.inl ⟨D35,?_⟩) hHeld ?_ ?_
    rotate_left
    ·rintro w' ⟨s0,s1,s2⟩
     go_simp
     with_reducible rfl
    rotate_left
    ·simp only [Act.put,q1,q2,q3,i64_w,i32_w]
     rfl
    refine pure_ (i:=2) (N:=some 131) (v:=?_) (a':=?_) #[Y,Y,Y,Z,Z,Z,Z,Z,Z,Z,Z,Z,Z,Z,Z,Z,Z,Z] rfl rfl D3 hh (Or.inl ⟨D35,?_⟩) ?_ ?_
    rotate_left
    ·intro w'
     go_simp
     with_reducible rfl
    rotate_left
    ·simp only [Act.put,q1,q2,q3,i64_w,i32_w]
     rfl
    refine pure_ (i:=3) (N:=some 132) (v:=?_) (a':=?_) #[Y,Y,Y,Y,Z,Z,Z,Z,Z,Z,Z,Z,Z,Z,Z,Z,Z,Z] rfl rfl D3 hh (Or.inl ⟨D35,?_⟩) ?_ ?_
    rotate_left
    ·intro w'
     go_simp
     with_reducible rfl
    rotate_left
    ·simp only [Act.put,q1,q2,q3,i64_w,i32_w]
     rfl
    refine take_ (i:=4) (N:=some 133) (v:=?_) (a':=?_) #[Y,Y,Y,Y,Y,Z,Z,Z,Z,Z,Z,Z,Z,Z,Z,Z,Z,Z] rfl rfl D3 hh (Or.inl ⟨D35,?_⟩) hHeld ?_ ?_
    rotate_left
    ·rintro w' ⟨s0,s1,s2⟩
     go_simp
     with_reducible rfl
    rotate_left
    ·simp only [Act.put,q1,q2,q3,i64_w,i32_w]
     rfl
    refine pure_ (i:=5) (N:=some 134) (v:=?_) (a':=?_) #[Y,Y,Y,Y,Y,Y,Z,Z,Z,Z,Z,Z,Z,Z,Z,Z,Z,Z] rfl rfl D3 hh (Or.inl ⟨D35,?_⟩) ?_ ?_
    rotate_left
    ·intro w'
     go_simp
     with_reducible rfl
    rotate_left
    ·simp only [Act.put,q1,q2,q3,i64_w,i32_w]
     rfl
    refine pure_ (i:=6) (N:=some 135) (v:=?_) (a':=?_) #[Y,Y,Y,Y,Y,Y,Y,Z,Z,Z,Z,Z,Z,Z,Z,Z,Z,Z] rfl rfl D3 hh (Or.inl ⟨D35,?_⟩) ?_ ?_
    rotate_left
    ·intro w'
     go_simp
     with_reducible rfl
    rotate_left
    ·simp only [Act.put,q1,q2,q3,i64_w,i32_w]
     rfl
    refine take_ (i:=7) (N:=some 136) (v:=?_) (a':=?_) #[Y,Y,Y,Y,Y,Y,Y,Y,Z,Z,Z,Z,Z,Z,Z,Z,Z,Z] rfl rfl D3 hh (Or.inl ⟨D35,?_⟩) hHeld ?_ ?_
    rotate_left
    ·rintro w' ⟨s0,s1,s2⟩
     go_simp
     with_reducible rfl
    rotate_left
    ·simp only [Act.put,q1,q2,q3,i64_w,i32_w]
     rfl
    refine pure_ (i:=8) (N:=some 137) (v:=?_) (a':=?_) #[Y,Y,Y,Y,Y,Y,Y,Y,Y,Z,Z,Z,Z,Z,Z,Z,Z,Z] rfl rfl D3 hh (Or.inl ⟨D35,?_⟩) ?_ ?_
    rotate_left
    ·intro w'
     go_simp
     with_reducible rfl
    rotate_left
    ·simp only [Act.put,q1,q2,q3,i64_w,i32_w]
     rfl
    refine pure_ (i:=9) (N:=some 138) (v:=?_) (a':=?_) #[Y,Y,Y,Y,Y,Y,Y,Y,Y,Y,Z,Z,Z,Z,Z,Z,Z,Z] rfl rfl D3 hh (Or.inl ⟨D35,?_⟩) ?_ ?_
    rotate_left
    ·intro w'
     go_simp
     with_reducible rfl
    rotate_left
    ·simp only [Act.put,q1,q2,q3,i64_w,i32_w]
     rfl
    refine take_ (i:=10) (N:=some 139) (v:=?_) (a':=?_) #[Y,Y,Y,Y,Y,Y,Y,Y,Y,Y,Y,Z,Z,Z,Z,Z,Z,Z] rfl rfl D3 hh (Or.inl ⟨D35,?_⟩) hHeld ?_ ?_
    rotate_left
    ·rintro w' ⟨s0,s1,s2⟩
     go_simp
     with_reducible rfl
    rotate_left
    ·simp only [Act.put,q1,q2,q3,i64_w,i32_w]
     rfl
    refine pure_ (i:=11) (N:=some 140) (v:=?_) (a':=?_) #[Y,Y,Y,Y,Y,Y,Y,Y,Y,Y,Y,Y,Z,Z,Z,Z,Z,Z] rfl rfl D3 hh (Or.inl ⟨D35,?_⟩) ?_ ?_
    rotate_left
    ·intro w'
     go_simp
     with_reducible rfl
    rotate_left
    ·simp only [Act.put,q1,q2,q3,i64_w,i32_w]
     rfl
    refine pure_ (i:=12) (N:=some 141) (v:=?_) (a':=?_) #[Y,Y,Y,Y,Y,Y,Y,Y,Y,Y,Y,Y,Y,Z,Z,Z,Z,Z] rfl rfl D3 hh (Or.inl ⟨D35,?_⟩) ?_ ?_
    rotate_left
    ·intro w'
     go_simp
     with_reducible rfl
    rotate_left
    ·simp only [Act.put,q1,q2,q3,i64_w,i32_w]
     rfl
    refine take_ (i:=13) (N:=some 142) (v:=?_) (a':=?_) #[Y,Y,Y,Y,Y,Y,Y,Y,Y,Y,Y,Y,Y,Y,Z,Z,Z,Z] rfl rfl D3 hh (Or.inl ⟨D35,?_⟩) hHeld ?_ ?_
    rotate_left
    ·rintro w' ⟨s0,s1,s2⟩
     go_simp
     with_reducible rfl
    rotate_left
    ·simp only [Act.put,q1,q2,q3,i64_w,i32_w]
     rfl
    refine one_ (i:=14) (N:=some 143) #[Y,Y,Y,Y,Y,Y,Y,Y,Y,Y,Y,Y,Y,Y,Y,Z,Z,Z] rfl rfl D3 D24 (fun K hK=>?_)
    refine goes_ Try.func124 D3 rfl #[Value.int .u8 z,Value.slice A7 m1 c7] D35 rfl rfl D36 ?_
    have hS:=spec_l1Scale.calls kS z A7 c7 x7 (scale z x7) wr (F_C HF7.out hok7.2) (by rw [hok7.2];exact hle7) HSc.out
    rw [hok7.2] at hS
    refine hS.mono ?_
    clear hS
    rintro e w5 ⟨v5,rfl,ho5,hb5⟩
    refine ⟨_,rfl,?_⟩
    obtain ⟨A8,c8,e8⟩:=Kd.R_slice ho5
    rw [scale_length,hok7.2] at e8
    subst e8
    have hle8:m1≤c8:=(Kd.R_reads' ho5).2.1
    have HF8:=am (HE.out.fresh ho5)
    replace HE:=am (HE.out.below hb5)
    replace HF6:=am (Kd.F_below HF6.out hb5)
    replace hHeld:=(show _∧_∧_ from ⟨pw_cell_below hb5 hHeld.1,pw_cell_below hb5 hHeld.2.1,pw_cell_below hb5 hHeld.2.2⟩)
    clear ho5 hb5 HF7
    refine hK.out _ _ ⟨hHeld.1,hHeld.2.1,hHeld.2.2⟩ (fun hHeld=>?_)
    clear hK K
    refine norm_ (nA 143) ?_
    refine one_ (i:=15) (N:=some 144) #[Y,Y,Y,Y,Y,Y,Y,Y,Y,Y,Y,Y,Y,Y,Y,Y,Z,Z] rfl rfl D3 D24 (fun K hK=>?_)
    refine goes_ Try.func123 D3 rfl #[Value.slice A6 m1 c6,Value.slice A8 m1 c8] D35 rfl rfl D36 ?_
    have hS:=spec_l1Add.calls kA A6 c6 x6 A8 c8 (scale z x7) (addV x6 (scale z x7)) w5 (F_C HF6.out hok6.2) (by rw [hok6.2];exact hle6) (F_C HF8.out hok8.2) (by rw [hok8.2];exact hle8) HAd.out
    rw [hok6.2,hok8.2] at hS
    refine hS.mono ?_
    clear hS
    rintro e w6 ⟨v6,rfl,ho6,hb6⟩
    refine ⟨_,rfl,?_⟩
    obtain ⟨A9,c9,e9⟩:=Kd.R_slice ho6
    rw [hok9.2] at e9
    subst e9
    have hle9:m1≤c9:=(Kd.R_reads' ho6).2.1
    have HF9:=am (HE.out.fresh ho6)
    replace HE:=am (HE.out.below hb6)
    replace hHeld:=(show _∧_∧_ from ⟨pw_cell_below hb6 hHeld.1,pw_cell_below hb6 hHeld.2.1,pw_cell_below hb6 hHeld.2.2⟩)
    clear ho6 hb6 HF6 HF8
    refine hK.out _ _ ⟨hHeld.1,hHeld.2.1,hHeld.2.2⟩ (fun hHeld=>?_)
    clear hK K
    refine norm_ (nA 144) ?_
    refine pure_ (i:=16) (N:=some 145) (v:=?_) (a':=?_) #[Y,Y,Y,Y,Y,Y,Y,Y,Y,Y,Y,Y,Y,Y,Y,Y,Y,Z] rfl rfl D3 hh (Or.inl ⟨D35,?_⟩) ?_ ?_
    rotate_left
    ·intro w'
     go_simp
     with_reducible rfl
    rotate_left
    ·simp only [Act.put,q1,q2,q3,i64_w,i32_w]
     rfl
    obtain ⟨_,_,_,_,_,hcell3,_,_,hfr3⟩:=HE.out.rowA i hil
    refine last_ (i:=17) (N:=none) #[Y,Y,Y,Y,Y,Y,Y,Y,Y,Y,Y,Y,Y,Y,Y,Y,Y,Y] rfl rfl D3 D24 (fun K hK=>?_)
    refine skip_ (w1:=?_) D35 rfl ?_ ?_
    rotate_left
    ·go_simp
     rfl
    refine hK.out _ _ ?_
    clear hK K
    refine done_ D3 ?_
    have hE1:=HE.out.putA i hil hok9 hle9 HF9.out
    rw [← hx6,← hx7] at hE1
    clear HE HF9 hcell3 hfr3 hHeld
    generalize w6.setCell ⟨g1,i,none⟩ (.slice A9 m1 c9)=wr at hE1 ⊢
    have HE:=am hE1
    clear hE1 hx6 hx7 hok6 hok7 hok8 hok9 hle6 hle7 hle8 hle9 HSc HAd
    go_wp2_with fail
    replace HE:=am (HE.out.below (pd (Below.refl _ _)))
    have hk0:=HE.out.keyB
    obtain ⟨x6,A6,c6,hx6,hok6,hcell6,hle6,hF6,_⟩:=HE.out.rowB i hil
    obtain ⟨x7,A7,c7,hx7,hok7,hcell7,hle7,hF7,_⟩:=HE.out.rowB a hal
    have hok8:=el_scale hzb hok7
    have hok9:=el_add hok6 hok8
    obtain ⟨kS,hS⟩:=(SpecElim.spec_l1Scale.ev hzb hok7.1 (by rw [hok7.2];omega)).rounds
    obtain ⟨kA,hA⟩:=(SpecElim.spec_l1Add.ev hok6.1 hok8.1 (by rw [hok6.2,hok8.2]) (by rw [hok6.2];omega)).rounds
    have HSc:=am hS
    have HAd:=am hA
    clear hS hA
    refine start_ (n:=18) (S:=fun w'=>w'.cell? ⟨p8,0,none⟩=some (.slice (some ⟨g2,0,none⟩) len cap2)∧w'.cell? ⟨g2,i,none⟩=some (.slice A6 m2 c6)∧w'.cell? ⟨g2,a,none⟩=some (.slice A7 m2 c7)) (ds:=[17]) #[Z,Z,Z,Z,Z,Z,Z,Z,Z,Z,Z,Z,Z,Z,Z,Z,Z,Z] D3 rfl rfl ⟨hk0,hcell6,hcell7⟩ (fun hHeld=>?_)
    generalize wr.drew=wr at HE hHeld hF6 hF7 ⊢
    have HF6:=am hF6
    have HF7:=am hF7
    clear hF6 hF7 hk0 hcell6 hcell7
    refine pure_ (i:=0) (N:=some 146) (v:=?_) (a':=?_) #[Y,Z,Z,Z,Z,Z,Z,Z,Z,Z,Z,Z,Z,Z,Z,Z,Z,Z] rfl rfl D3 hh (Or.inl ⟨D35,?_⟩) ?_ ?_
    rotate_left
    ·intro w'
     go_simp
     with_reducible rfl
    rotate_left
    ·simp only [Act.put,q1,q2,q3,i64_w,i32_w]
     rfl
    refine take_ (i:=1) (N:=some 147) (v:=?_) (a':=?_) #[Y,Y,Z,Z,Z,Z,Z,Z,Z,Z,Z,Z,Z,Z,Z,Z,Z,Z] rfl rfl D3 hh (Or.inl ⟨D35,?_⟩) hHeld ?_ ?_
    rotate_left
    ·rintro w' ⟨s0,s1,s2⟩
     go_simp
     with_reducible rfl
    rotate_left
    ·simp only [Act.put,q1,q2,q3,i64_w,i32_w]
     rfl
    refine pure_ (i:=2) (N:=some 148) (v:=?_) (a':=?_) #[Y,Y,Y,Z,Z,Z,Z,Z,Z,Z,Z,Z,Z,Z,Z,Z,Z,Z] rfl rfl D3 hh (Or.inl ⟨D35,?_⟩) ?_ ?_
    rotate_left
    ·intro w'
     go_simp
     with_reducible rfl
    rotate_left
    ·simp only [Act.put,q1,q2,q3,i64_w,i32_w]
     rfl
    refine pure_ (i:=3) (N:=some 149) (v:=?_) (a':=?_) #[Y,Y,Y,Y,Z,Z,Z,Z,Z,Z,Z,Z,Z,Z,Z,Z,Z,Z] rfl rfl D3 hh (Or.inl ⟨D35,?_⟩) ?_ ?_
    rotate_left
    ·intro w'
     go_simp
     with_reducible rfl
    rotate_left
    ·simp only [Act.put,q1,q2,q3,i64_w,i32_w]
     rfl
    refine take_ (i:=4) (N:=some 150) (v:=?_) (a':=?_) #[Y,Y,Y,Y,Y,Z,Z,Z,Z,Z,Z,Z,Z,Z,Z,Z,Z,Z] rfl rfl D3 hh (Or.inl ⟨D35,?_⟩) hHeld ?_ ?_
    rotate_left
    ·rintro w' ⟨s0,s1,s2⟩
     go_simp
     with_reducible rfl
    rotate_left
    ·simp only [Act.put,q1,q2,q3,i64_w,i32_w]
     rfl
    refine pure_ (i:=5) (N:=some 151) (v:=?_) (a':=?_) #[Y,Y,Y,Y,Y,Y,Z,Z,Z,Z,Z,Z,Z,Z,Z,Z,Z,Z] rfl rfl D3 hh (Or.inl ⟨D35,?_⟩) ?_ ?_
    rotate_left
    ·intro w'
     go_simp
     with_reducible rfl
    rotate_left
    ·simp only [Act.put,q1,q2,q3,i64_w,i32_w]
     rfl
    refine pure_ (i:=6) (N:=some 152) (v:=?_) (a':=?_) #[Y,Y,Y,Y,Y,Y,Y,Z,Z,Z,Z,Z,Z,Z,Z,Z,Z,Z] rfl rfl D3 hh (Or.inl ⟨D35,?_⟩) ?_ ?_
    rotate_left
    ·intro w'
     go_simp
     with_reducible rfl
    rotate_left
    ·simp only [Act.put,q1,q2,q3,i64_w,i32_w]
     rfl
    refine take_ (i:=7) (N:=some 153) (v:=?_) (a':=?_) #[Y,Y,Y,Y,Y,Y,Y,Y,Z,Z,Z,Z,Z,Z,Z,Z,Z,Z] rfl rfl D3 hh (Or.inl ⟨D35,?_⟩) hHeld ?_ ?_
    rotate_left
    ·rintro w' ⟨s0,s1,s2⟩
     go_simp
     with_reducible rfl
    rotate_left
    ·simp only [Act.put,q1,q2,q3,i64_w,i32_w]
     rfl
    refine pure_ (i:=8) (N:=some 154) (v:=?_) (a':=?_) #[Y,Y,Y,Y,Y,Y,Y,Y,Y,Z,Z,Z,Z,Z,Z,Z,Z,Z] rfl rfl D3 hh (Or.inl ⟨D35,?_⟩) ?_ ?_
    rotate_left
    ·intro w'
     go_simp
     with_reducible rfl
    rotate_left
    ·simp only [Act.put,q1,q2,q3,i64_w,i32_w]
     rfl
    refine pure_ (i:=9) (N:=some 155) (v:=?_) (a':=?_) #[Y,Y,Y,Y,Y,Y,Y,Y,Y,Y,Z,Z,Z,Z,Z,Z,Z,Z] rfl rfl D3 hh (Or.inl ⟨D35,?_⟩) ?_ ?_
    rotate_left
    ·intro w'
     go_simp
     with_reducible rfl
    rotate_left
    ·simp only [Act.put,q1,q2,q3,i64_w,i32_w]
     rfl
    refine take_ (i:=10) (N:=some 156) (v:=?_) (a':=?_) #[Y,Y,Y,Y,Y,Y,Y,Y,Y,Y,Y,Z,Z,Z,Z,Z,Z,Z] rfl rfl D3 hh (Or.inl ⟨D35,?_⟩) hHeld ?_ ?_
    rotate_left
    ·rintro w' ⟨s0,s1,s2⟩
     go_simp
     with_reducible rfl
    rotate_left
    ·simp only [Act.put,q1,q2,q3,i64_w,i32_w]
     rfl
    refine pure_ (i:=11) (N:=some 157) (v:=?_) (a':=?_) #[Y,Y,Y,Y,Y,Y,Y,Y,Y,Y,Y,Y,Z,Z,Z,Z,Z,Z] rfl rfl D3 hh (Or.inl ⟨D35,?_⟩) ?_ ?_
    rotate_left
    ·intro w'
     go_simp
     with_reducible rfl
    rotate_left
    ·simp only [Act.put,q1,q2,q3,i64_w,i32_w]
     rfl
    refine pure_ (i:=12) (N:=some 158) (v:=?_) (a':=?_) #[Y,Y,Y,Y,Y,Y,Y,Y,Y,Y,Y,Y,Y,Z,Z,Z,Z,Z] rfl rfl D3 hh (Or.inl ⟨D35,?_⟩) ?_ ?_
    rotate_left
    ·intro w'
     go_simp
     with_reducible rfl
    rotate_left
    ·simp only [Act.put,q1,q2,q3,i64_w,i32_w]
     rfl
    refine take_ (i:=13) (N:=some 159) (v:=?_) (a':=?_) #[Y,Y,Y,Y,Y,Y,Y,Y,Y,Y,Y,Y,Y,Y,Z,Z,Z,Z] rfl rfl D3 hh (Or.inl ⟨D35,?_⟩) hHeld ?_ ?_
    rotate_left
    ·rintro w' ⟨s0,s1,s2⟩
     go_simp
     with_reducible rfl
    rotate_left
    ·simp only [Act.put,q1,q2,q3,i64_w,i32_w]
     rfl
    refine one_ (i:=14) (N:=some 160) #[Y,Y,Y,Y,Y,Y,Y,Y,Y,Y,Y,Y,Y,Y,Y,Z,Z,Z] rfl rfl D3 D24 (fun K hK=>?_)
    refine goes_ Try.func124 D3 rfl #[Value.int .u8 z,Value.slice A7 m2 c7] D35 rfl rfl D36 ?_
    have hS:=spec_l1Scale.calls kS z A7 c7 x7 (scale z x7) wr (F_C HF7.out hok7.2) (by rw [hok7.2];exact hle7) HSc.out
    rw [hok7.2] at hS
    refine hS.mono ?_
    clear hS
    rintro e w5 ⟨v5,rfl,ho5,hb5⟩
    refine ⟨_,rfl,?_⟩
    obtain ⟨A8,c8,e8⟩:=Kd.R_slice ho5
    rw [scale_length,hok7.2] at e8
    subst e8
    have hle8:m2≤c8:=(Kd.R_reads' ho5).2.1
    have HF8:=am (HE.out.fresh ho5)
    replace HE:=am (HE.out.below hb5)
    replace HF6:=am (Kd.F_below HF6.out hb5)
    replace hHeld:=(show _∧_∧_ from ⟨pw_cell_below hb5 hHeld.1,pw_cell_below hb5 hHeld.2.1,pw_cell_below hb5 hHeld.2.2⟩)
    clear ho5 hb5 HF7
    refine hK.out _ _ ⟨hHeld.1,hHeld.2.1,hHeld.2.2⟩ (fun hHeld=>?_)
    clear hK K
    refine norm_ (nA 160) ?_
    refine one_ (i:=15) (N:=some 161) #[Y,Y,Y,Y,Y,Y,Y,Y,Y,Y,Y,Y,Y,Y,Y,Y,Z,Z] rfl rfl D3 D24 (fun K hK=>?_)
    refine goes_ Try.func123 D3 rfl #[Value.slice A6 m2 c6,Value.slice A8 m2 c8] D35 rfl rfl D36 ?_
    have hS:=spec_l1Add.calls kA A6 c6 x6 A8 c8 (scale z x7) (addV x6 (scale z x7)) w5 (F_C HF6.out hok6.2) (by rw [hok6.2];exact hle6) (F_C HF8.out hok8.2) (by rw [hok8.2];exact hle8) HAd.out
    rw [hok6.2,hok8.2] at hS
    refine hS.mono ?_
    clear hS
    rintro e w6 ⟨v6,rfl,ho6,hb6⟩
    refine ⟨_,rfl,?_⟩
    obtain ⟨A9,c9,e9⟩:=Kd.R_slice ho6
    rw [hok9.2] at e9
    subst e9
    have hle9:m2≤c9:=(Kd.R_reads' ho6).2.1
    have HF9:=am (HE.out.fresh ho6)
    replace HE:=am (HE.out.below hb6)
    replace hHeld:=(show _∧_∧_ from ⟨pw_cell_below hb6 hHeld.1,pw_cell_below hb6 hHeld.2.1,pw_cell_below hb6 hHeld.2.2⟩)
    clear ho6 hb6 HF6 HF8
    refine hK.out _ _ ⟨hHeld.1,hHeld.2.1,hHeld.2.2⟩ (fun hHeld=>?_)
    clear hK K
    refine norm_ (nA 161) ?_
    refine pure_ (i:=16) (N:=some 162) (v:=?_) (a':=?_) #[Y,Y,Y,Y,Y,Y,Y,Y,Y,Y,Y,Y,Y,Y,Y,Y,Y,Z] rfl rfl D3 hh (Or.inl ⟨D35,?_⟩) ?_ ?_
    rotate_left
    ·intro w'
     go_simp
     with_reducible rfl
    rotate_left
    ·simp only [Act.put,q1,q2,q3,i64_w,i32_w]
     rfl
    obtain ⟨_,_,_,_,_,hcell3,_,_,hfr3⟩:=HE.out.rowB i hil
    refine last_ (i:=17) (N:=none) #[Y,Y,Y,Y,Y,Y,Y,Y,Y,Y,Y,Y,Y,Y,Y,Y,Y,Y] rfl rfl D3 D24 (fun K hK=>?_)
    refine skip_ (w1:=?_) D35 rfl ?_ ?_
    rotate_left
    ·go_simp
     rfl
    refine hK.out _ _ ?_
    clear hK K
    refine done_ D3 ?_
    have hE1:=HE.out.putB i hil hok9 hle9 HF9.out
    rw [← hx6,← hx7] at hE1
    clear HE HF9 hcell3 hfr3 hHeld
    generalize w6.setCell ⟨g2,i,none⟩ (.slice A9 m2 c9)=wr at hE1 ⊢
    have HE:=am hE1
    clear hE1 hx6 hx7 hok6 hok7 hok8 hok9 hle6 hle7 hle8 hle9 HSc HAd
    go_wp2_with fail
    go_roundg (len - i)
    case measure=>omega
    case rel=>exact ⟨i+1,D23,D23,by go_num,⟨by rw [HT.out.1,HT.out.2];exact HE.out⟩⟩
end
end
section
section
open Go.Proofs.Ytajikfnpcobnpaa.Gf Go.Proofs.Ytajikfnpcobnpaa.Kit Go.Proofs.Ytajikfnpcobnpaa.KitW Go.Proofs.Ytajikfnpcobnpaa.KitN
def spec_l2Rank.f (l0:List (List Int)):Option Int:=if decide (1≤l0.length) && sqM l0 then some ((rowI.red l0 (l0.getD 0 []).length).2:Nat) else none
theorem spec_l2Rank.calls (A0_0:Option Addr) (c0_0:Nat) (l0_0:List (List Int)) (r:Int) (w:World) (hr0_0:Kd.C (Kd.slice 5 (Kd.int .u8)) w A0_0 l0_0.length l0_0) (hc0_0:l0_0.length≤c0_0) (h:spec_l2Rank.f l0_0=some r) :
  Calls Try.prog 104 #[.agg #[.slice A0_0 l0_0.length c0_0]] w fun e w'=>e = .returned (.int .i64 r)∧Below w.heap.size w w':=by
 unfold spec_l2Rank.f at h
 by_cases hs:(decide (1≤l0_0.length) && sqM l0_0)=true
 case neg=>rw [if_neg hs] at h;cases h
 rw [if_pos hs] at h
 obtain rfl:=Option.some.inj h
 clear h
 rw [Bool.and_eq_true,decide_eq_true_eq,sqM_iff] at hs
 obtain ⟨h1,h2,h3,h4⟩:=hs
 obtain ⟨m,hm⟩:∃ m,m=(l0_0.getD 0 []).length:=⟨_,rfl⟩
 have he:(rowI.red l0_0 m).2=(redP l0_0 l0_0 m).2:=by
  rw [← hm] at h4
  have z:=RowK.red_map (shutP m m) (hom_fst m m) (zip_ok h4 h4) m (Nat.le_refl _)
  rw [zip_fst rfl] at z
  rw [z];rfl
 rw [← hm] at h3 h4 ⊢
 rw [he]
 obtain ⟨W,hW⟩:∃ W:World,W=w.alloc (.cells #[.slice A0_0 l0_0.length c0_0] 43 (0,0)):=⟨_,rfl⟩
 have hB:Below w.heap.size w W:=by rw [hW];exact pa (Below.refl _ _) _
 have hbox:W.cell? ⟨w.heap.size,0,none⟩=some (.slice A0_0 l0_0.length c0_0):=by rw [hW];exact (blk_cell (heap_alloc_new w _) 0).trans rfl
 have hc:=spec_l2Reduce.calls A0_0 c0_0 l0_0 A0_0 c0_0 l0_0 m m W (Kd.C_below hr0_0 hB) hc0_0 (Kd.C_below hr0_0 hB) hc0_0 h4 h4 h1 h2 rfl h3 h3
 have HC:=am hc
 have HB:=am hB
 obtain ⟨q,hq⟩:∃ q,q=(redP l0_0 l0_0 m).2:=⟨_,rfl⟩
 rw [← hq] at HC ⊢
 obtain ⟨n,hn⟩:∃ n,n=l0_0.length:=⟨_,rfl⟩
 rw [← hn] at HC hbox hW ⊢
 clear hc hB he hq h1 h2 h3 h4 hm hr0_0 hc0_0 hn
 have hu:=Try.underlying43
 go_enter Try.func104,Try.ntmps104
 go_wp2_with fail
 rw [← hW]
 refine HC.out.mono ?_
 clear HC hW
 rintro e w2 ⟨A5,n5,c5,v1,rfl,hN,hB2⟩
 obtain ⟨A6,c6,rfl⟩:=Kd.N_slice hN
 generalize ((redP l0_0 l0_0 m).1.map Prod.snd).length=n6
 have HB2:=am (pu HB.out hB2)
 clear hN hB2
 go_wp2_with fail
 go_ret
 refine ⟨rfl,?_⟩
 first|exact pa (pa HB2.out _) _|(trace_state;sorry)
end

def spec_RankOf.f (k:Nat) (l0_0:List (List Int)):Option (Int × Bool):=(spec_GoodMatrix.f k l0_0).bind fun t146=>(if t146=true then ((spec_l2Rank.f l0_0).bind fun t147=>(some (t147,true))) else (some (0,false)))
theorem spec_RankOf.mono:∀ a0 k,LeO (spec_RankOf.f k a0) (spec_RankOf.f (k+1) a0):=by
 intro a0 k
 unfold spec_RankOf.f
 exact mm
theorem spec_RankOf.calls (k:Nat) (A0_0:Option Addr) (c0_0:Nat) (l0_0:List (List Int)) (r1:Int) (r2:Bool) (w:World) (hr0_0:Kd.C (Kd.slice 5 (Kd.int .u8)) w A0_0 l0_0.length l0_0) (hc0_0:l0_0.length≤c0_0) (h:spec_RankOf.f k l0_0=some (r1,r2)) :
  Calls Try.prog 26 #[.agg #[.slice A0_0 l0_0.length c0_0]] w fun e w'=>e = .returned (.tuple #[.int .i64 r1, .bool r2])∧Below w.heap.size w w':=by
 have hu43:=Try.underlying43
 have HR0_0:=am hr0_0
 have HC0_0:=am hc0_0
 clear hr0_0 hc0_0
 have HB:=am (Below.refl w.heap.size w)
 have H:=h
 unfold spec_RankOf.f at H
 clear h
 obtain ⟨t146,A2,H⟩:=yo H
 by_cases c3:t146=true
 ·subst c3
  replace H:=yt H
  obtain ⟨t147,A4,H⟩:=yo H
  simp only [Option.some.injEq,Prod.mk.injEq] at H
  obtain ⟨rfl,rfl⟩:=H
  go_enter Try.func26,Try.ntmps26
  go_wp2_with (first|((with_reducible refine gD 1 ?_);refine gB (cs:=#[.slice A0_0 l0_0.length c0_0]) 43 ?_;intro gb145 hg w5 hbox hb;have BK145:=am (hbox);have GW145:=ye HB hg;replace HB:=yH HB hb;have GE145:=GW145;clear hb hbox hg;obtain ⟨hcz6_0,hfz6_0⟩:=yk1 BK145)|((with_reducible refine gC 103 ?_);refine gM (some 5) Try.func103 (args:=#[.agg #[.slice A0_0 l0_0.length c0_0]]) (spec_GoodMatrix.calls k _ _ l0_0 true _ (yc (Kd.C_below HR0_0.out HB.out)) HC0_0.out A2.out) ?_;rintro e w7 ⟨rfl,hb⟩;refine ⟨_,rfl,?_⟩;replace BK145:=yb BK145 hb;replace HB:=yH HB hb;clear hb;obtain ⟨hcz8_0,hfz8_0⟩:=yk1 BK145)|((with_reducible refine gC 104 ?_);refine gM (some 8) Try.func104 (args:=#[.agg #[.slice A0_0 l0_0.length c0_0]]) (spec_l2Rank.calls _ _ l0_0 t147 _ (yc (Kd.C_below HR0_0.out HB.out)) HC0_0.out A4.out) ?_;rintro e w9 ⟨rfl,hb⟩;refine ⟨_,rfl,?_⟩;replace BK145:=yb BK145 hb;replace HB:=yH HB hb;clear hb))
  go_ret2
  exact ⟨D0,yW HB⟩
 replace c3:=Bool.eq_false_iff.mpr c3
 subst c3
 replace H:=yn H
 simp only [Option.some.injEq,Prod.mk.injEq] at H
 obtain ⟨rfl,rfl⟩:=H
 go_enter Try.func26,Try.ntmps26
 go_wp2_with (first|((with_reducible refine gD 1 ?_);refine gB (cs:=#[.slice A0_0 l0_0.length c0_0]) 43 ?_;intro gb145 hg w10 hbox hb;have BK145:=am (hbox);have GW145:=ye HB hg;replace HB:=yH HB hb;have GE145:=GW145;clear hb hbox hg;obtain ⟨hcz11_0,hfz11_0⟩:=yk1 BK145)|((with_reducible refine gC 103 ?_);refine gM (some 5) Try.func103 (args:=#[.agg #[.slice A0_0 l0_0.length c0_0]]) (spec_GoodMatrix.calls k _ _ l0_0 false _ (yc (Kd.C_below HR0_0.out HB.out)) HC0_0.out A2.out) ?_;rintro e w12 ⟨rfl,hb⟩;refine ⟨_,rfl,?_⟩;replace BK145:=yb BK145 hb;replace HB:=yH HB hb;clear hb))
 go_ret2
 exact ⟨D0,yW HB⟩

def impl_within.f (a0:Int) (a1:Int) (a2:Int):Option (Bool):=if a0 ≥ a1 then (some (decide (a0≤a2))) else (some false)
theorem impl_within.calls (a0:Int) (a1:Int) (a2:Int) (r:Bool) (w:World) (h:impl_within.f a0 a1 a2=some r) :
  Calls Try.prog 137 #[.int .i64 a0, .int .i64 a1, .int .i64 a2] w fun e w'=>e = .returned (.bool r)∧Drawn0 w w':=by
 have H:=h
 unfold impl_within.f at H
 clear h
 by_cases c4:a0 ≥ a1
 ·rw [if_pos c4] at H
  have c4b0:decide (a1≤a0)=true:=decide_eq_true c4
  clear c4
  obtain rfl:=Option.some.inj H
  go_enter Try.func137,Try.ntmps137
  go_wp2
  go_ret
  exact ⟨D2,D34⟩
 rw [if_neg c4] at H
 have c4b0:decide (a1≤a0)=false:=decide_eq_false c4
 clear c4
 obtain rfl:=Option.some.inj H
 go_enter Try.func137,Try.ntmps137
 go_wp2
 go_ret
 exact ⟨D2,D34⟩



section
open Go.Proofs.Ytajikfnpcobnpaa.Gf Go.Proofs.Ytajikfnpcobnpaa.Kit
theorem gm_at {w:World} {A:Option Addr} {n:Nat} {xs:List (List Int)} (h:Kd.C (Kd.slice 5 (Kd.int .u8)) w A n xs) (i:Nat) (h1:i < n):∃ ad A0 c0,A=some ad∧w.cell? (ad.add i)=some (.slice A0 (xs.getD i []).length c0):=by
 obtain ⟨ad,c,e,_,hK,hc0⟩:=Kd.C_get h ([]:List Int) (i:Int) D23 D23
 have hc:∀ j u,c[j]? = some u→w.cell? (ad.add ((i:Int).toNat*1+j))=some u:=hc0
 obtain ⟨A0,c0,rfl,l0,g0⟩:=hK
 exact ⟨ad,A0,c0,e,by have hq:=hc 0 _ rfl;rwa [Nat.mul_one,Nat.add_zero,Int.toNat_natCast] at hq⟩
theorem gm_drawn {a b c:World} (h:Drawn0 a b) (k:Drawn0 b c):Drawn0 a c:=by
 obtain ⟨q,rfl⟩:=k.out
 exact Drawn0.step h q
/-- The test of one row: does its length differ from the first row's? -/
theorem gm_test (gb:Nat) (ad:Addr) (n c:Nat) (hn:0 < n) (A0:Option Addr) (k0 c0:Nat) (A1:Option Addr) (k1 c1:Nat) (W:World)
  (hbox:W.cell? ⟨gb,0,none⟩=some (.slice (some ad) n c)) (h0:W.cell? (ad.add 0)=some (.slice A0 k0 c0)) :
  Calls Try.prog 165 #[.slice A1 k1 c1, .pointer (some ⟨gb,0,none⟩)] W fun e w'=>e = .returned (.bool (k1 != k0))∧Drawn0 W w':=by
 rw [Addr.add_zero'] at h0
 have hn':(0 < n)=True:=eq_true hn
 go_enter Try.func165,Try.ntmps165
 go_wp2
 go_ret
 refine ⟨?_,Drawn0.refl _⟩
 by_cases e:k1=k0
 ·subst e;simp
 have e2:¬ ((k1:Int)=(k0:Int)):=by omega
 simp only [bne]
 rw [show ((k1:Int) == (k0:Int))=false by simpa using e2,show (k1 == k0)=false by simpa using e]
 rfl
/-- The first place below n at which p holds, -1 if there is none. -/
def IdxOf (p:Nat→Bool) (n:Nat) (r:Int):Prop:=(r = -1∧∀ i,i < n→p i=false)∨∃ i:Nat,i < n∧r=(i:Int)∧p i=true∧∀ j,j < i→p j=false
set_option maxHeartbeats 4000000 in
theorem rows_IndexFunc (g:Nat) (eg:∀ args w,(callFunc g args).run Try.prog w = .ok (.enter g args) w) (fv:Value) (p:Nat→Bool) (ad:Addr) (n c:Nat) (v:Nat→Value) (w:World) (hbig:n≤9223372036854775806)
  (hc:∀ i,i < n→w.cell? (ad.add i)=some (v i))
  (hp:∀ i,i < n→∀ W,Drawn0 w W→Calls Try.prog g #[v i,fv] W fun e w'=>e = .returned (.bool (p i))∧Drawn0 W w') :
  Calls Try.prog 200 #[.slice (some ad) n c, .func (.func g) #[] #[fv]] w fun e w'=>(∃ r,e = .returned (.int .i64 r)∧IdxOf p n r)∧Drawn0 w w':=by
 have HP:=am hp
 have HC:=am hc
 clear hp hc
 go_enter Try.func200,Try.ntmps200
 go_wp2
 go_loopg [5,8] n (fun gg _ s8 wr=>∃ kk:Nat,kk≤n∧n - kk≤gg∧s8 = .int .i64 kk∧Aside0 (Drawn0 w wr)∧Aside0 (∀ j,j < kk→p j=false))
 case atStart=>exact ⟨0,Nat.zero_le _,D23,rfl,⟨Drawn0.refl _⟩,⟨fun j hj=>absurd hj (Nat.not_lt_zero _)⟩⟩
 case round =>
  obtain ⟨kk,hkk,hg,rfl,HD,HA⟩:=hrel
  by_cases hlt:kk < n
  ·have hltz:(kk:Int) < (n:Int):=by omega
   have hcell:wr.cell? (ad.add kk)=some (v kk):=by
    obtain ⟨q,rfl⟩:=HD.out.out
    exact HC.out kk hlt
   have hcall:=HP.out kk hlt
   cases hq:p kk with
   | true =>
    rw [hq] at hcall
    have HQ:=am hq
    clear hq
    have HX:=am hcall
    clear hcall
    go_wp2_with (go_at_fn g;refine (HX.out _ ?dr).mono ?_;(case dr=>exact HD.out);rintro e w' ⟨rfl,hd⟩)
    go_ret
    exact ⟨⟨_,rfl, .inr ⟨kk,hlt,rfl,HQ.out,HA.out⟩⟩,gm_drawn HD.out hd⟩
   | false =>
    rw [hq] at hcall
    have HQ:=am hq
    clear hq
    have HX:=am hcall
    clear hcall
    go_wp2_with (go_at_fn g;refine (HX.out _ ?dr).mono ?_;(case dr=>exact HD.out);rintro e w' ⟨rfl,hd⟩)
    go_roundg (n - (kk+1))
    case measure=>omega
    case rel=>exact ⟨kk+1,D23,D23,by go_num,⟨gm_drawn HD.out hd⟩,⟨fun j hj=>by by_cases e:j=kk;exact e ▸ HQ.out;exact HA.out j D23⟩⟩
  have hltz:¬ (kk:Int) < (n:Int):=by omega
  have:kk=n:=by omega
  subst this
  go_wp2
  go_ret
  exact ⟨⟨_,rfl, .inl ⟨rfl,HA.out⟩⟩,HD.out⟩
theorem idxOf_nonneg {p:Nat→Bool} {n:Nat} {r:Int} (h:IdxOf p n r):decide (r ≥ 0)=(List.range n).any p:=by
 rcases h with ⟨rfl,h⟩ | ⟨i,hi,rfl,hp,_⟩
 ·have:(List.range n).any p=false:=by
   rw [List.any_eq_false]
   intro x hx
   rw [h x (by simpa using hx)]
   simp
  rw [this];rfl
 have:(List.range n).any p=true:=List.any_eq_true.2 ⟨i,by simpa using hi,hp⟩
 rw [this];simp
set_option maxHeartbeats 4000000 in
theorem rows_ContainsFunc (g:Nat) (eg:∀ args w,(callFunc g args).run Try.prog w = .ok (.enter g args) w) (fv:Value) (p:Nat→Bool) (ad:Addr) (n c:Nat) (v:Nat→Value) (w:World) (hbig:n≤9223372036854775806)
  (hc:∀ i,i < n→w.cell? (ad.add i)=some (v i))
  (hp:∀ i,i < n→∀ W,Drawn0 w W→Calls Try.prog g #[v i,fv] W fun e w'=>e = .returned (.bool (p i))∧Drawn0 W w') :
  Calls Try.prog 164 #[.slice (some ad) n c, .func (.func g) #[] #[fv]] w fun e w'=>e = .returned (.bool ((List.range n).any p))∧Drawn0 w w':=by
 have HX:=am (rows_IndexFunc g eg fv p ad n c v w hbig hc hp)
 clear hp hc
 go_enter Try.func164,Try.ntmps164
 go_wp2_with (go_at_call 200;refine HX.out.mono ?_;rintro e w' ⟨⟨r,rfl,hr⟩,hd⟩)
 go_ret
 refine ⟨?_,hd⟩
 rw [← idxOf_nonneg hr]
 first|rfl|(simp;done)
theorem gm_within (a b c:Int):impl_within.f a b c=some (decide (b≤a∧a≤c)):=by
 unfold impl_within.f
 by_cases h:a ≥ b
 ·rw [if_pos h];simp [h]
 rw [if_neg h];simp;omega
def impl_GoodMatrix.f (l0_0:List (List Int)):Option (Bool):=some (goodM l0_0)
set_option maxHeartbeats 4000000 in
theorem impl_GoodMatrix.calls (A0_0:Option Addr) (c0_0:Nat) (l0_0:List (List Int)) (r:Bool) (w:World) (hr0_0:Kd.C (Kd.slice 5 (Kd.int .u8)) w A0_0 l0_0.length l0_0) (hc0_0:l0_0.length≤c0_0) (h:impl_GoodMatrix.f l0_0=some r) :
  Calls Try.prog 77 #[.agg #[.slice A0_0 l0_0.length c0_0]] w fun e w'=>e = .returned (.bool r)∧Below w.heap.size w w':=by
 obtain rfl:=Option.some.inj h
 clear h
 have hu:=Try.underlying43
 go_enter Try.func77,Try.ntmps77
 go_wp2_with fail
 obtain ⟨W,hW⟩:∃ W:World,W=w.alloc (.cells #[.slice A0_0 l0_0.length c0_0] 43 (0,0)):=⟨_,rfl⟩
 have hb:Below w.heap.size w W:=by rw [hW];exact pa (Below.refl _ _) _
 have hc1:W.cell? ⟨w.heap.size,0,none⟩=some (.slice A0_0 l0_0.length c0_0):=by rw [hW];go_simp
 rw [← hW]
 clear hW
 have hw1:impl_within.f (l0_0.length:Int) 1 16=some (decide (1≤(l0_0.length:Int)∧(l0_0.length:Int)≤16)):=gm_within _ _ _
 by_cases h1:1≤l0_0.length∧l0_0.length≤16
 ·rw [show decide (1≤(l0_0.length:Int)∧(l0_0.length:Int)≤16)=true from decide_eq_true D23] at hw1
  obtain ⟨ad,A0,c0,rfl,hcell⟩:=gm_at hr0_0 0 D23
  have hrows:∀ i,i < l0_0.length→∃ A1 c1,W.cell? (ad.add i)=some (.slice A1 (l0_0.getD i []).length c1):=fun i hi=>by
   obtain ⟨ad2,A1,c1,e,h2⟩:=gm_at hr0_0 i hi
   injection e with e
   subst e
   exact ⟨A1,c1,(hb.cell (World.block_lt_of_cell? w _ h2)).trans h2⟩
  have hcell2:W.cell? (ad.add 0)=some (.slice A0 (l0_0.getD 0 []).length c0):=(hb.cell (World.block_lt_of_cell? w _ hcell)).trans hcell
  rw [Addr.add_zero'] at hcell2
  have hlt:(0 < l0_0.length)=True:=eq_true D23
  have hw2:impl_within.f ((l0_0.getD 0 []).length:Int) 1 16=some (decide (1≤((l0_0.getD 0 []).length:Int)∧((l0_0.getD 0 []).length:Int)≤16)):=gm_within _ _ _
  obtain ⟨n0,hn0⟩:∃ n0,n0=(l0_0.getD 0 []).length:=⟨_,rfl⟩
  rw [← hn0] at hw2 hcell2
  by_cases h2:1≤n0∧n0≤16
  ·rw [show decide (1≤(n0:Int)∧(n0:Int)≤16)=true from decide_eq_true D23] at hw2
   have hv:∃ v:Nat→Value,∀ i,i < l0_0.length→∃ A1 c1,v i = .slice A1 (l0_0.getD i []).length c1∧W.cell? (ad.add i)=some (v i):=by
    refine ⟨fun i=>(W.cell? (ad.add i)).getD undef,fun i hi=>?_⟩
    obtain ⟨A1,c1,e⟩:=hrows i hi
    exact ⟨A1,c1,by show (W.cell? (ad.add i)).getD undef=_;rw [e];rfl,by show _=some ((W.cell? (ad.add i)).getD undef);rw [e];rfl⟩
   obtain ⟨v,hv⟩:=hv
   have HV:=am hv
   have HW1:=am hw1
   have HW2:=am hw2
   have HB:=am hb
   have HN:=am hn0
   have HL:=am h1
   have H2:=am h2
   clear hv hw1 hw2 hb hrows hr0_0 hcell hn0 h1 h2
   have h0l:0 < l0_0.length:=by have:=HL.out;omega
   go_wp2_with (first|(go_at_call 137;first|(with_reducible refine (impl_within.calls (l0_0.length:Int) 1 16 true _ HW1.out).mono ?_;rintro e w' ⟨rfl,⟨q,rfl⟩⟩)|(with_reducible refine (impl_within.calls (n0:Int) 1 16 true _ HW2.out).mono ?_;rintro e w' ⟨rfl,⟨q2,rfl⟩⟩))|fail)
   have hcf:=rows_ContainsFunc 165 (enters_of Try.func165 rfl rfl) (.pointer (some ⟨w.heap.size,0,none⟩)) (fun i=>(l0_0.getD i []).length != n0) ad l0_0.length c0_0 v (W.drewN (q+q2)) (by have:=HL.out;omega) (fun i hi=>by obtain ⟨A1,c1,_,e⟩:=HV.out i hi;exact e)
    (fun i hi W1 hd=>by
     obtain ⟨A1,c1,e,_⟩:=HV.out i hi
     rw [e]
     obtain ⟨q3,rfl⟩:=hd.out
     refine gm_test w.heap.size ad l0_0.length c0_0 h0l A0 n0 c0 A1 _ c1 _ hc1 ?_
     rw [Addr.add_zero'];exact hcell2)
   refine hcf.mono ?_
   clear hcf
   rintro e w' ⟨rfl,⟨q3,rfl⟩⟩
   go_wp2
   go_ret
   refine ⟨?_,pb HB.out _⟩
   have e:goodM l0_0 = !((List.range l0_0.length).any fun i=>(l0_0.getD i []).length != n0):=by
    unfold goodM
    rw [← HN.out,decide_eq_true (show 1≤l0_0.length∧l0_0.length≤16∧1≤n0∧n0≤16 from ⟨HL.out.1,HL.out.2,H2.out⟩),Bool.true_and]
   rw [e]
   rfl
  rw [show decide (1≤(n0:Int)∧(n0:Int)≤16)=false from decide_eq_false D23] at hw2
  have HW1:=am hw1
  have HW2:=am hw2
  have HB:=am hb
  have HN:=am hn0
  have H2:=am h2
  have h0l:0 < l0_0.length:=by omega
  clear hw1 hw2 hb hrows hr0_0 hcell hn0 h1 h2
  go_wp2_with (first|(go_at_call 137;first|(with_reducible refine (impl_within.calls (l0_0.length:Int) 1 16 true _ HW1.out).mono ?_;rintro e w' ⟨rfl,⟨q,rfl⟩⟩)|(with_reducible refine (impl_within.calls (n0:Int) 1 16 false _ HW2.out).mono ?_;rintro e w' ⟨rfl,⟨q2,rfl⟩⟩))|fail)
  go_ret
  refine ⟨?_,pb HB.out _⟩
  have e:goodM l0_0=false:=by
   unfold goodM
   rw [← HN.out,decide_eq_false (fun z=>H2.out z.2.2),Bool.false_and]
  rw [e]
  rfl
 rw [show decide (1≤(l0_0.length:Int)∧(l0_0.length:Int)≤16)=false from decide_eq_false D23] at hw1
 have HW1:=am hw1
 have HB:=am hb
 have H1:=am h1
 clear hw1 hb h1 hr0_0
 go_wp2_with (first|(go_at_call 137;(with_reducible refine (impl_within.calls (l0_0.length:Int) 1 16 false _ HW1.out).mono ?_;rintro e w' ⟨rfl,⟨q,rfl⟩⟩))|fail)
 go_ret
 refine ⟨?_,pb HB.out _⟩
 have e:goodM l0_0=false:=by
  unfold goodM
  rw [decide_eq_false (fun z=>H1.out ⟨z.1,z.2.1⟩),Bool.false_and]
 rw [e]
 rfl
end

def slices_Clone_byte_byte_SS.f (l0:List (List Int)):Option (List (List Int)):=(some (([]:List (List Int)):List (List Int))).bind fun y181=>(if y181.length+l0.length < 5864062014805 then (some (y181 ++ l0)) else (none))
theorem slices_Clone_byte_byte_SS.info:(Try.prog.info? 57).map (fun i=>(i.zero,i.size,i.bytes))=some (some (.slice none 0 0),1,24):=by kernel_rfl
theorem slices_Clone_byte_byte_SS.calls (P0_:Nat→Prop) (A0:Option Addr) (c0:Nat) (l0:List (List Int)) (r:List (List Int)) (w:World) (hs0:Kd.V (Kd.slice 5 (Kd.int .u8)) 57 w w.heap.size (fun k_=>P0_ k_) (.slice A0 l0.length c0) l0) (h:slices_Clone_byte_byte_SS.f l0=some r) :
  Calls Try.prog 158 #[.slice A0 l0.length c0] w fun e w'=>∃ v0_:Value,e = .returned (v0_)∧Kd.N (Kd.slice 5 (Kd.int .u8)) 57 w' w.heap.size (fun k_=>(P0_ k_∨w.heap.size≤k_)) v0_ r∧Below w.heap.size w w':=by
 have hs1:=Kd.V_bound hs0
 have HR0:=am (Kd.V_F hs1)
 have HE0:=am (Kd.V_reads' hs0).2.2
 clear hs0 hs1
 have HB:=am (Below.refl w.heap.size w)
 have H:=h
 unfold slices_Clone_byte_byte_SS.f at H
 clear h
 obtain ⟨y181,hy181,H⟩:=ys H
 have Ny181:=am hy181
 clear hy181
 by_cases c2:y181.length+l0.length < 5864062014805
 ·rw [if_pos c2] at H
  have LMc2:=am c2
  clear c2
  generalize hy184:(y181 ++ l0:List (List Int))=y184 at H
  have Ny184:=am hy184.symm
  clear hy184
  obtain rfl:=Option.some.inj H
  have keq:=fun (W:World) (a:Option Addr) (n c:Nat)=>Lib.run_eql_slice_nil (P:=Try.prog) W 37 57 a n c 0 0 Try.underlying37
  cases A0 with
  | none =>
   have e0:l0=[]:=by
    have hc:=HE0.out
    by_cases hp:0 < l0.length
    ·obtain ⟨ad,h1,_⟩:=hc.2.2 hp
     cases h1
    exact List.eq_nil_of_length_eq_zero D23
   have ey:y184=[]:=by rw [Ny184.out,Ny181.out,e0];rfl
   subst ey
   go_enter Try.func158,Try.ntmps158
   go_wp2
   go_ret
   exact ⟨_,rfl,Kd.N_nil _ _ _ _ _,HB.out⟩
  | some ad0 =>
  clear HE0
  go_enter Try.func158,Try.ntmps158
  go_wp2_with (first|((with_reducible refine gD 5 ?_);refine Kd.N_lit (Kd.slice 5 (Kd.int .u8)) w.heap.size 57 D35 (N':=5) D35 (xs:=([]:List (List Int))) (inner:=[]) (ok:=fun k_=>P0_ k_∨w.heap.size≤k_) (okp:=fun _=>False) D45 D72 (fun _ hk=>hk.elim) (.inr (pz HB.out)) HB.out (pz HB.out) D52 ?_;intro v182 w3 ho4 hb hg_ hnew_;clear hg_ hnew_;(first|rw [← Ny181.out] at ho4|(simp only [Int.reduceToNat] at ho4;rw [← Ny181.out] at ho4));have HO183:=am (ho4);replace HB:=am hb;replace HR0:=am (Kd.F_below HR0.out hb);clear hb ho4)|((with_reducible refine gate_builtin (b:=.append) (xs:=#[.tmp 5, .tmp 6]) rfl ?_);at_builtin;refine Kd.N_append_rows (Kd.slice 5 (Kd.int .u8)) (w0:=w) w.heap.size rfl (.tmp 5) (.tmp 6) 37 57 (.slice none 0 0) 24 rfl Try.underlying37 slices_Clone_byte_byte_SS.info rfl D24 D23 v182 y181 l0 _ _ _ (fun k_=>P0_ k_∨w.heap.size≤k_) (fun k_=>P0_ k_∧k_ < w.heap.size) rfl rfl HO183.out HR0.out (fun k hk=>⟨.inl hk.1,fun e=>by have:=Kd.N_base HO183.out k e.symm;have:=hk.2;omega⟩) (fun k hk=>.inr (Nat.le_trans (pz HB.out) hk)) HB.out (pz HB.out) (by have:=LMc2.out;omega) ?_;intro v185 w5 ho hb hg hat;rw [← Ny184.out] at ho;have n0_:=am (hb);have n1_:=am (ho);clear HB HO183;have HB:=n0_;have HO186:=n1_;clear n0_ n1_ ho hb hg hat))
  go_ret
  exact ⟨_,D0,HO186.out,HB.out⟩
 rw [if_neg c2] at H
 exact absurd H D52

def impl_added.l0:Nat→List Int→List Int→List Int→Int→Int→Option (List Int)
 | 0,_,_,_,_,_=>none
 | k+1,x1,x5,x9,x10,x11=>if x11 < x10 then (if 0≤x11 then (if x11 < (x9.length:Int) then (if x11 < (x1.length:Int) then (if x5.length < 140737488355328 then (impl_added.l0 k x1 (x5 ++ [Go.bits .xor .u8 (rd x9 x11) (rd x1 x11)]) x9 x10 (wrap64 (x11+1))) else (none)) else (none)) else (none)) else (none)) else (some x5)
def impl_added.f (k:Nat) (l0:List Int) (l1:List Int):Option (List Int):=impl_added.l0 k l1 (([]:List Int)) l0 (l0.length:Int) 0
theorem impl_added.mono_l:∀ k,(∀ y0 y1 y2 y3 y4,LeO (impl_added.l0 k y0 y1 y2 y3 y4) (impl_added.l0 (k+1) y0 y1 y2 y3 y4))
 | 0=>fun _ _ _ _ _ r h=>by simp [impl_added.l0] at h
 | k+1=>by
  have ih0:=impl_added.mono_l k
  intro y0 y1 y2 y3 y4
  unfold impl_added.l0
  exact mm
theorem impl_added.mono:∀ a0 a1 k,LeO (impl_added.f k a0 a1) (impl_added.f (k+1) a0 a1):=by
 intro a0 a1 k
 have ih0:=impl_added.mono_l k
 unfold impl_added.f
 exact mm
theorem impl_added.calls (k:Nat) (A0:Option Addr) (c0:Nat) (l0:List Int) (A1:Option Addr) (c1:Nat) (l1:List Int) (r:List Int) (w:World) (hr0:Kd.C (Kd.int .u8) w A0 l0.length l0) (hc0:l0.length≤c0) (hr1:Kd.C (Kd.int .u8) w A1 l1.length l1) (hc1:l1.length≤c1) (h:impl_added.f k l0 l1=some r) :
  Calls Try.prog 131 #[.slice A0 l0.length c0, .slice A1 l1.length c1] w fun e w'=>∃ v0_:Value,e = .returned (v0_)∧Kd.R (Kd.int .u8) 5 w' w.heap.size (fun _=>True) v0_ r∧Below w.heap.size w w':=by
 have HR0:=am hr0
 have HC0:=am hc0
 clear hr0 hc0
 have HR1:=am hr1
 have HC1:=am hc1
 clear hr1 hc1
 have HB:=am (Below.refl w.heap.size w)
 have H:=h
 unfold impl_added.f at H
 clear h
 generalize hy148:(([]:List Int):List Int)=y148 at H
 have Ny148:=am hy148.symm
 clear hy148
 have H':=am H
 clear H
 go_enter Try.func131,Try.ntmps131
 go_wp2_with (first|((with_reducible refine gD 8 ?_);refine Kd.R_lit (Kd.int .u8) _ 5 D35 (N:=8) D35 (xs:=([]:List Int)) (inner:=[]) (ok:=fun _=>True) (okp:=fun _=>True) D45 D72 (fun _ hk=>hk) trivial (Below.refl _ _) (Nat.le_refl _) D52 ?_;intro v149 w3 ho4 hb hg_ hnew_;clear hg_ hnew_;(first|rw [← Ny148.out] at ho4|(simp only [Int.reduceToNat] at ho4;rw [← Ny148.out] at ho4));have HO150:=am (Kd.R_lower ho4 (pz (yW HB)));replace HB:=yH HB hb;clear hb ho4))
 go_loopg [5,11] k (fun kq v5 v11 w'=>∃ (x5_1:List Int) (x11_1:Int),v11 = .int .i64 x11_1∧Aside0 (impl_added.l0 kq l1 x5_1 l0 (l0.length:Int) x11_1=some r)∧Aside0 (kq≤k)∧Aside0 (Kd.R (Kd.int .u8) 5 w' w.heap.size (fun _=>True) v5 x5_1)∧Aside0 (Below w.heap.size w w'))
 case atStart=>exact ⟨(y148),(0),D2,H',⟨Nat.le_refl _⟩,⟨yR HO150⟩,⟨yW HB⟩⟩
 case round =>
  clear H'
  try clear c1
  try clear p2
  obtain ⟨x5_1,x11_1,rfl,HA,HK1,HO_5,HB⟩:=hrel
  cases gk with
  | zero=>exact absurd HA.out (by simp [impl_added.l0])
  | succ k1 =>
   have H:=HA.out
   clear HA
   simp only [impl_added.l0] at H
   by_cases c5:x11_1 < (l0.length:Int)
   ·rw [if_pos c5] at H
    have c5b0:=decide_eq_true c5
    clear c5
    obtain ⟨c6,H⟩:=yi H
    have c6b0:=decide_eq_true c6
    clear c6
    obtain ⟨c7,H⟩:=yi H
    have c7b0:=decide_eq_true c7
    clear c7
    obtain ⟨c8,H⟩:=yi H
    have c8b0:=decide_eq_true c8
    clear c8
    obtain ⟨c9,H⟩:=yi H
    have LMc9:=am c9
    clear c9
    generalize hy153:(x5_1 ++ [Go.bits .xor .u8 (rd l0 x11_1) (rd l1 x11_1)]:List Int)=y153 at H
    have Ny153:=am hy153.symm
    clear hy153
    have H':=am H
    clear H
    have p151:0≤(x11_1:Int):=od D1
    have q151:x11_1 < (l0.length:Int):=od D1
    obtain ⟨ad151,e151,hx151_0⟩:=Kd.at_int HR0.out x11_1 p151 q151
    cases e151
    replace hx151_0:=(HB.out.cell (World.block_lt_of_cell? w _ hx151_0)).trans hx151_0
    replace p151:=eq_true p151
    replace q151:=eq_true q151
    have p152:0≤(x11_1:Int):=od D1
    have q152:x11_1 < (l1.length:Int):=od D1
    obtain ⟨ad152,e152,hx152_0⟩:=Kd.at_int HR1.out x11_1 p152 q152
    cases e152
    replace hx152_0:=(HB.out.cell (World.block_lt_of_cell? w _ hx152_0)).trans hx152_0
    replace p152:=eq_true p152
    replace q152:=eq_true q152
    go_wp2_with (first|((with_reducible refine gate_builtin (b:=.append) (xs:=#[.tmp 16, .tmp 23]) rfl ?_);at_builtin;refine Kd.R_append (Kd.int .u8) (w0:=w) w.heap.size rfl (.tmp 16) (.tmp 23) 57 5 (.int .u8 0) 1 rfl Try.underlying57 info5 rfl D24 D23 u5 x5_1 (Go.bits .xor .u8 (rd l0 x11_1) (rd l1 x11_1)) [.int .u8 (Go.bits .xor .u8 (rd l0 x11_1) (rd l1 x11_1))] (fun _=>True) (fun _=>False) rfl rfl (by exact rfl) (fun _ hk=>hk.elim) D75 (by exact (yR HO_5)) D135 D87 (by have:=LMc9.out;omega) ?_;intro v154 w10 ho hb hg hat;rw [← Ny153.out] at ho;have n0_:=am (hb);have n1_:=am (ho);clear HB HO_5;have HB:=n0_;have HO155:=n1_;clear n0_ n1_ ho hb hg hat))
    go_roundg k1
    case measure=>have:=HK1.out;omega
    case rel=>exact ⟨(y153),(wrap64 (x11_1+1)),D2,H',⟨D50⟩,⟨yR HO155⟩,⟨yW HB⟩⟩
   rw [if_neg c5] at H
   have c5b0:=decide_eq_false c5
   clear c5
   obtain rfl:=Option.some.inj H
   go_wp2
   go_ret
   exact ⟨_,D0,yR HO_5,yW HB⟩

def impl_scaled.l0:Nat→Int→List Int→List Int→Int→Int→Option (List Int)
 | 0,_,_,_,_,_=>none
 | k+1,x0,x5,x9,x10,x11=>if x11 < x10 then (if 0≤x11 then (if x11 < (x9.length:Int) then ((impl_Times.f k x0 (rd x9 x11)).bind fun t160=>(if x5.length < 140737488355328 then (impl_scaled.l0 k x0 (x5 ++ [t160]) x9 x10 (wrap64 (x11+1))) else (none))) else (none)) else (none)) else (some x5)
def impl_scaled.f (k:Nat) (a0:Int) (l1:List Int):Option (List Int):=impl_scaled.l0 k a0 (([]:List Int)) l1 (l1.length:Int) 0
theorem impl_scaled.mono_l:∀ k,(∀ y0 y1 y2 y3 y4,LeO (impl_scaled.l0 k y0 y1 y2 y3 y4) (impl_scaled.l0 (k+1) y0 y1 y2 y3 y4))
 | 0=>fun _ _ _ _ _ r h=>by simp [impl_scaled.l0] at h
 | k+1=>by
  have ih0:=impl_scaled.mono_l k
  intro y0 y1 y2 y3 y4
  unfold impl_scaled.l0
  exact mm
theorem impl_scaled.mono:∀ a0 a1 k,LeO (impl_scaled.f k a0 a1) (impl_scaled.f (k+1) a0 a1):=by
 intro a0 a1 k
 have ih0:=impl_scaled.mono_l k
 unfold impl_scaled.f
 exact mm
theorem impl_scaled.calls (k:Nat) (a0:Int) (A1:Option Addr) (c1:Nat) (l1:List Int) (r:List Int) (w:World) (hr1:Kd.C (Kd.int .u8) w A1 l1.length l1) (hc1:l1.length≤c1) (h:impl_scaled.f k a0 l1=some r) :
  Calls Try.prog 132 #[.int .u8 a0, .slice A1 l1.length c1] w fun e w'=>∃ v0_:Value,e = .returned (v0_)∧Kd.R (Kd.int .u8) 5 w' w.heap.size (fun _=>True) v0_ r∧Below w.heap.size w w':=by
 have HR1:=am hr1
 have HC1:=am hc1
 clear hr1 hc1
 have HB:=am (Below.refl w.heap.size w)
 have H:=h
 unfold impl_scaled.f at H
 clear h
 generalize hy156:(([]:List Int):List Int)=y156 at H
 have Ny156:=am hy156.symm
 clear hy156
 have H':=am H
 clear H
 go_enter Try.func132,Try.ntmps132
 go_wp2_with (first|((with_reducible refine gD 8 ?_);refine Kd.R_lit (Kd.int .u8) _ 5 D35 (N:=8) D35 (xs:=([]:List Int)) (inner:=[]) (ok:=fun _=>True) (okp:=fun _=>True) D45 D72 (fun _ hk=>hk) trivial (Below.refl _ _) (Nat.le_refl _) D52 ?_;intro v157 w3 ho4 hb hg_ hnew_;clear hg_ hnew_;(first|rw [← Ny156.out] at ho4|(simp only [Int.reduceToNat] at ho4;rw [← Ny156.out] at ho4));have HO158:=am (Kd.R_lower ho4 (pz (yW HB)));replace HB:=yH HB hb;clear hb ho4))
 go_loopg [5,11] k (fun kq v5 v11 w'=>∃ (x5_1:List Int) (x11_1:Int),v11 = .int .i64 x11_1∧Aside0 (impl_scaled.l0 kq a0 x5_1 l1 (l1.length:Int) x11_1=some r)∧Aside0 (kq≤k)∧Aside0 (Kd.R (Kd.int .u8) 5 w' w.heap.size (fun _=>True) v5 x5_1)∧Aside0 (Below w.heap.size w w'))
 case atStart=>exact ⟨(y156),(0),D2,H',⟨Nat.le_refl _⟩,⟨yR HO158⟩,⟨yW HB⟩⟩
 case round =>
  clear H'
  try clear c1
  try clear p2
  obtain ⟨x5_1,x11_1,rfl,HA,HK1,HO_5,HB⟩:=hrel
  cases gk with
  | zero=>exact absurd HA.out (by simp [impl_scaled.l0])
  | succ k1 =>
   have H:=HA.out
   clear HA
   simp only [impl_scaled.l0] at H
   by_cases c5:x11_1 < (l1.length:Int)
   ·rw [if_pos c5] at H
    have c5b0:=decide_eq_true c5
    clear c5
    obtain ⟨c6,H⟩:=yi H
    have c6b0:=decide_eq_true c6
    clear c6
    obtain ⟨c7,H⟩:=yi H
    have c7b0:=decide_eq_true c7
    clear c7
    obtain ⟨t160,A8,H⟩:=yo H
    obtain ⟨c9,H⟩:=yi H
    have LMc9:=am c9
    clear c9
    generalize hy161:(x5_1 ++ [t160]:List Int)=y161 at H
    have Ny161:=am hy161.symm
    clear hy161
    have H':=am H
    clear H
    have p159:0≤(x11_1:Int):=od D1
    have q159:x11_1 < (l1.length:Int):=od D1
    obtain ⟨ad159,e159,hx159_0⟩:=Kd.at_int HR1.out x11_1 p159 q159
    cases e159
    replace hx159_0:=(HB.out.cell (World.block_lt_of_cell? w _ hx159_0)).trans hx159_0
    replace p159:=eq_true p159
    replace q159:=eq_true q159
    go_wp2_with (first|((with_reducible refine gC 192 ?_);refine gM (some 18) Try.func192 (args:=#[.int .u8 a0, .int .u8 (rd l1 x11_1)]) (impl_Times.calls k1 a0 (rd l1 x11_1) t160 _ A8.out) ?_;rintro e w' ⟨rfl,⟨nd,rfl⟩⟩;refine ⟨_,rfl,?_⟩)|((with_reducible refine gate_builtin (b:=.append) (xs:=#[.tmp 15, .tmp 19]) rfl ?_);at_builtin;refine Kd.R_append (Kd.int .u8) (w0:=w) w.heap.size rfl (.tmp 15) (.tmp 19) 57 5 (.int .u8 0) 1 rfl Try.underlying57 info5 rfl D24 D23 u5 x5_1 t160 [.int .u8 t160] (fun _=>True) (fun _=>False) rfl rfl (by exact rfl) (fun _ hk=>hk.elim) D75 (by exact (yR HO_5)) D135 D87 (by have:=LMc9.out;omega) ?_;intro v162 w10 ho hb hg hat;rw [← Ny161.out] at ho;have n0_:=am (hb);have n1_:=am (ho);clear HB HO_5;have HB:=n0_;have HO163:=n1_;clear n0_ n1_ ho hb hg hat))
    go_roundg k1
    case measure=>have:=HK1.out;omega
    case rel=>exact ⟨(y161),(wrap64 (x11_1+1)),D2,H',⟨D50⟩,⟨yR HO163⟩,⟨yW HB⟩⟩
   rw [if_neg c5] at H
   have c5b0:=decide_eq_false c5
   clear c5
   obtain rfl:=Option.some.inj H
   go_wp2
   go_ret
   exact ⟨_,D0,yR HO_5,yW HB⟩

def impl_Inverse.f (k:Nat) (a0:Int):Option (Int):=(impl_power.f k a0 254).bind fun t164=>(some t164)
theorem impl_Inverse.mono:∀ a0 k,LeO (impl_Inverse.f k a0) (impl_Inverse.f (k+1) a0):=by
 intro a0 k
 unfold impl_Inverse.f
 exact mm
theorem impl_Inverse.calls (k:Nat) (a0:Int) (r:Int) (w:World) (h:impl_Inverse.f k a0=some r) :
  Calls Try.prog 207 #[.int .u8 a0] w fun e w'=>e = .returned (.int .u8 r)∧Drawn0 w w':=by
 have H:=h
 unfold impl_Inverse.f at H
 clear h
 obtain ⟨t164,A2,H⟩:=yo H
 obtain rfl:=Option.some.inj H
 go_enter Try.func207,Try.ntmps207
 go_wp2_with (first|((with_reducible refine gC 180 ?_);refine gM (some 4) Try.func180 (args:=#[.int .u8 a0, .int .i64 254]) (impl_power.calls k a0 254 t164 _ A2.out) ?_;rintro e w' ⟨rfl,⟨nd,rfl⟩⟩;refine ⟨_,rfl,?_⟩))
 go_ret
 exact ⟨D2,D34⟩
end
section
section
open Go.Proofs.Ytajikfnpcobnpaa.Gf Go.Proofs.Ytajikfnpcobnpaa.Kit Go.Proofs.Ytajikfnpcobnpaa.KitW Go.Proofs.Ytajikfnpcobnpaa.KitN
namespace ImplElim
theorem impl_Times.ev_l0 (b:Nat) (hb:b < 256):∀ (n i o x:Nat),i+n=8→o < 256→x < 256 →
  Ev (fun k=>impl_Times.l0 k (b:Int) (o:Int) (i:Int) (x:Int)) ((T n o x (b / 2 ^ i):Nat):Int)
 | 0,i,o,x,hi,ho,hx=>by
  refine Ev.step (fun k=>impl_Times.l0.eq_2 _ _ _ _ k) ?_
  refine ev_neg D23 (ev_now ?_)
  simp only [T]
  omega
 | n+1,i,o,x,hi,ho,hx=>by
  refine Ev.step (fun k=>impl_Times.l0.eq_2 _ _ _ _ k) ?_
  refine ev_pos D23 (ev_pos D23 ?_)
  have e1:shr .u8 (b:Int) (i:Int)=((b / 2 ^ i:Nat):Int):=by
   unfold shr
   rw [Nat.min_eq_left (by simp only [IntKind.bits];omega)]
   simp
  have hd:b / 2 ^ i < 256:=Nat.lt_of_le_of_lt (Nat.div_le_self _ _) hb
  have e2:wrap64 ((x:Int)*2)=((2*x:Nat):Int):=by rw [wrap_id D23 D23];omega
  have e3:wrap64 ((i:Int)+1)=((i+1:Nat):Int):=by rw [wrap_id D23 D23];omega
  rw [e1,and1_u8 hd,e2,e3]
  have e4:Go.bits .xor .i64 (o:Int) (x:Int)=((o ^^^ x:Nat):Int):=xor_i64 D23 D23
  have e5:Go.bits .xor .i64 ((2*x:Nat):Int) 283=((2*x ^^^ 283:Nat):Int):=xor_i64 (m:=2*x) (n:=283) D23 D23
  have e6:b / 2 ^ i / 2=b / 2 ^ (i+1):=by rw [Nat.div_div_eq_div_mul,Nat.pow_succ]
  rw [e4,e5]
  have hT:T (n+1) o x (b / 2 ^ i)=T n (if b / 2 ^ i % 2=1 then o ^^^ x else o) (xt x) (b / 2 ^ (i+1)):=by rw [T,e6]
  rw [hT]
  have hxt:=xt_lt hx
  have hox:=xor_lt ho hx
  by_cases h1:b / 2 ^ i % 2=1
  ·rw [if_pos h1]
   refine ev_pos D23 ?_
   by_cases h2:2*x > 255
   ·refine ev_pos D23 ?_
    have:xt x=2*x ^^^ 283:=by unfold xt;rw [if_pos h2]
    rw [this] at hxt ⊢
    exact impl_Times.ev_l0 b hb n (i+1) _ _ D23 hox hxt
   refine ev_neg D23 ?_
   have:xt x=2*x:=by unfold xt;rw [if_neg h2]
   rw [this] at hxt ⊢
   exact impl_Times.ev_l0 b hb n (i+1) _ _ D23 hox hxt
  rw [if_neg h1]
  refine ev_neg D23 ?_
  by_cases h2:2*x > 255
  ·refine ev_pos D23 ?_
   have:xt x=2*x ^^^ 283:=by unfold xt;rw [if_pos h2]
   rw [this] at hxt ⊢
   exact impl_Times.ev_l0 b hb n (i+1) _ _ D23 ho hxt
  refine ev_neg D23 ?_
  have:xt x=2*x:=by unfold xt;rw [if_neg h2]
  rw [this] at hxt ⊢
  exact impl_Times.ev_l0 b hb n (i+1) _ _ D23 ho hxt
theorem impl_Times.ev {a b:Int} (ha:Byte a) (hb:Byte b):Ev (fun k=>impl_Times.f k a b) (mul a b):=by
 obtain ⟨m,hm,rfl⟩:=ha.nat
 obtain ⟨n,hn,rfl⟩:=hb.nat
 unfold impl_Times.f
 rw [wrap_id D23 D23]
 have h:=impl_Times.ev_l0 n hn 8 0 0 m rfl D24 hm
 exact ev_eq h (by unfold Gf.mul gm;simp)
theorem impl_power.ev_l0:∀ (N n:Nat) (a o:Int),n≤N→n < 4294967296→Byte a→Byte o→Ev (fun k=>impl_power.l0 k a (n:Int) o) (mul o (pow a n)):=by
 intro N
 induction N with
 | zero =>
  intro n a o hN hn ha ho
  obtain rfl:n=0:=by omega
  refine Ev.step (fun k=>impl_power.l0.eq_2 _ _ _ k) ?_
  exact ev_neg D23 (ev_now (by rw [pow_zero,mul_one ho]))
 | succ N ih =>
  intro n a o hN hn ha ho
  refine Ev.step (fun k=>impl_power.l0.eq_2 _ _ _ k) ?_
  by_cases h0:n=0
  ·subst h0
   exact ev_neg D23 (ev_now (by rw [pow_zero,mul_one ho]))
  refine ev_pos D23 ?_
  have e:((n:Int) / 2)=((n / 2:Nat):Int):=by omega
  have haa:=Byte.mul ha a
  have hsq:pow (mul a a) (n / 2)=pow a (2*(n / 2)):=by rw [pow_mul ha,pow_two ha]
  rw [and1_i64 hn,e]
  by_cases h1:n % 2=1
  ·refine ev_pos D23 ?_
   refine ev_bind (impl_Times.ev ho ha) (ev_bind (impl_Times.ev ha ha) ?_)
   refine ev_eq (ih (n / 2) _ _ D23 D23 haa (Byte.mul ho a)) ?_
   have hn2:n=1+2*(n / 2):=by omega
   rw [hsq,mul_assoc ho ha (Byte.pow ha _)]
   conv=>rhs;rw [hn2,pow_add ha,pow_one ha]
  refine ev_neg D23 ?_
  refine ev_bind (impl_Times.ev ha ha) ?_
  refine ev_eq (ih (n / 2) _ _ D23 D23 haa ho) ?_
  have hn2:n=2*(n / 2):=by omega
  rw [hsq,← hn2]
theorem impl_power.ev {a:Int} (ha:Byte a) (n:Nat) (hn:n < 4294967296):Ev (fun k=>impl_power.f k a (n:Int)) (pow a n):=by
 unfold impl_power.f
 refine ev_eq (impl_power.ev_l0 n n a 1 (Nat.le_refl _) hn ha .one) ?_
 exact one_mul (Byte.pow ha n)
theorem impl_Inverse.ev {a:Int} (ha:Byte a):Ev (fun k=>impl_Inverse.f k a) (inv a):=by
 unfold impl_Inverse.f
 exact ev_bind (impl_power.ev ha 254 D24) (ev_now (inv_pow a).symm)
theorem impl_scaled.ev_l0 (a:Int) (ha:Byte a) (v:List Int) (hv:Bytes v) (hs:v.length < 140737488355328):∀ (n i:Nat) (o:List Int),i+n=v.length→o=(scale a v).take i →
  Ev (fun k=>impl_scaled.l0 k a o v (v.length:Int) (i:Int)) (scale a v)
 | 0,i,o,hi,ho=>by
  refine Ev.step (fun k=>impl_scaled.l0.eq_2 _ _ _ _ _ k) ?_
  refine ev_neg D23 (ev_now ?_)
  subst ho
  rw [List.take_of_length_le (by rw [scale_length];omega)]
 | n+1,i,o,hi,ho=>by
  have hz:=scale_length a v
  have hlen:o.length=i:=by rw [ho,List.length_take,hz];omega
  refine Ev.step (fun k=>impl_scaled.l0.eq_2 _ _ _ _ _ k) ?_
  refine ev_pos D23 (ev_pos D23 (ev_pos D23 ?_))
  refine ev_bind (impl_Times.ev ha (bytes_rd hv D23)) ?_
  refine ev_pos D23 ?_
  rw [inc D23,rd_get D23]
  refine impl_scaled.ev_l0 a ha v hv hs n (i+1) _ D23 ?_
  rw [List.take_succ_eq_append_getElem D23,← ho]
  simp [scale]
theorem impl_scaled.ev {a:Int} (ha:Byte a) {v:List Int} (hv:Bytes v) (hs:v.length < 140737488355328):Ev (fun k=>impl_scaled.f k a v) (scale a v):=by
 unfold impl_scaled.f
 exact impl_scaled.ev_l0 a ha v hv hs v.length 0 [] D23 rfl
theorem impl_added.ev_l0 (v w:List Int) (hv:Bytes v) (hw:Bytes w) (hl:v.length=w.length) (hs:v.length < 140737488355328):∀ (n i:Nat) (o:List Int),i+n=v.length→o=(addV v w).take i →
  Ev (fun k=>impl_added.l0 k w o v (v.length:Int) (i:Int)) (addV v w)
 | 0,i,o,hi,ho=>by
  refine Ev.step (fun k=>impl_added.l0.eq_2 _ _ _ _ _ k) ?_
  refine ev_neg D23 (ev_now ?_)
  subst ho
  rw [List.take_of_length_le (by rw [addV_length];omega)]
 | n+1,i,o,hi,ho=>by
  have hz:=addV_length v w
  have hlen:o.length=i:=by rw [ho,List.length_take,hz];omega
  refine Ev.step (fun k=>impl_added.l0.eq_2 _ _ _ _ _ k) ?_
  refine ev_pos D23 (ev_pos D23 (ev_pos D23 (ev_pos D23 (ev_pos D23 ?_))))
  rw [inc D23,xor_u8 (bytes_rd hv D23) (bytes_rd hw D23),rd_get D23,rd_get D23]
  refine impl_added.ev_l0 v w hv hw hl hs n (i+1) _ D23 ?_
  rw [List.take_succ_eq_append_getElem D23,← ho]
  simp [addV]
theorem impl_added.ev {v w:List Int} (hv:Bytes v) (hw:Bytes w) (hl:v.length=w.length) (hs:v.length < 140737488355328):Ev (fun k=>impl_added.f k v w) (addV v w):=by
 unfold impl_added.f
 exact impl_added.ev_l0 v w hv hw hl hs v.length 0 [] D23 rfl
end ImplElim
/-- The test of one row: has it something at k? -/
theorem el_test (gk:Nat) (k:Nat) (A:Option Addr) (c:Nat) (l:List Int) (okf:Nat→Prop) (hk:k < l.length) (W:World)
  (hbox:W.cell? ⟨gk,0,none⟩=some (.int .i64 k)) (hF:Kd.F (Kd.int .u8) W okf A l.length l) :
  Calls Try.prog 206 #[.slice A l.length c, .pointer (some ⟨gk,0,none⟩)] W fun e w'=>e = .returned (.bool (l.getD k 0 != 0))∧Drawn0 W w':=by
 obtain ⟨ad,rfl,hc⟩:=F_byte hF k hk
 clear hF
 obtain ⟨x,hx⟩:∃ x,x=l.getD k 0:=⟨_,rfl⟩
 rw [← hx] at hc ⊢
 obtain ⟨n,hn⟩:∃ n,n=l.length:=⟨_,rfl⟩
 rw [← hn] at hk ⊢
 clear hx hn
 have hkz:(k:Int) < (n:Int):=by omega
 go_enter Try.func206,Try.ntmps206
 go_wp2
 go_ret
 exact ⟨by first|rfl|(simp [bne];done),Drawn0.refl _⟩
set_option maxHeartbeats 4000000 in
theorem el_IndexFunc (g:Nat) (eg:∀ args w,(callFunc g args).run Try.prog w = .ok (.enter g args) w) (fv:Value) (p:Nat→Bool) (ad:Addr) (n c:Nat) (v:Nat→Value) (w:World) (hbig:n≤9223372036854775806)
  (hc:∀ i,i < n→w.cell? (ad.add i)=some (v i))
  (hp:∀ i,i < n→∀ W,Drawn0 w W→Calls Try.prog g #[v i,fv] W fun e w'=>e = .returned (.bool (p i))∧Drawn0 W w') :
  Calls Try.prog 200 #[.slice (some ad) n c, .func (.func g) #[] #[fv]] w fun e w'=>(∃ r,e = .returned (.int .i64 r)∧IdxOf p n r)∧Drawn0 w w':=by
 have HP:=am hp
 have HC:=am hc
 clear hp hc
 go_enter Try.func200,Try.ntmps200
 go_wp2
 go_loopg [5,8] n (fun gg _ s8 wr=>∃ kk:Nat,kk≤n∧n - kk≤gg∧s8 = .int .i64 kk∧Aside0 (Drawn0 w wr)∧Aside0 (∀ j,j < kk→p j=false))
 case atStart=>exact ⟨0,Nat.zero_le _,D23,rfl,⟨Drawn0.refl _⟩,⟨fun j hj=>absurd hj (Nat.not_lt_zero _)⟩⟩
 case round =>
  obtain ⟨kk,hkk,hg,rfl,HD,HA⟩:=hrel
  by_cases hlt:kk < n
  ·have hltz:(kk:Int) < (n:Int):=by omega
   have hcell:wr.cell? (ad.add kk)=some (v kk):=by
    obtain ⟨q,rfl⟩:=HD.out.out
    exact HC.out kk hlt
   have hcall:=HP.out kk hlt
   cases hq:p kk with
   | true =>
    rw [hq] at hcall
    have HQ:=am hq
    clear hq
    have HX:=am hcall
    clear hcall
    go_wp2_with (go_at_fn g;refine (HX.out _ ?dr).mono ?_;(case dr=>exact HD.out);rintro e w' ⟨rfl,hd⟩)
    go_ret
    exact ⟨⟨_,rfl, .inr ⟨kk,hlt,rfl,HQ.out,HA.out⟩⟩,drawn_trans HD.out hd⟩
   | false =>
    rw [hq] at hcall
    have HQ:=am hq
    clear hq
    have HX:=am hcall
    clear hcall
    go_wp2_with (go_at_fn g;refine (HX.out _ ?dr).mono ?_;(case dr=>exact HD.out);rintro e w' ⟨rfl,hd⟩)
    go_roundg (n - (kk+1))
    case measure=>omega
    case rel=>exact ⟨kk+1,D23,D23,by go_num,⟨drawn_trans HD.out hd⟩,⟨fun j hj=>by by_cases e:j=kk;exact e ▸ HQ.out;exact HA.out j D23⟩⟩
  have hltz:¬ (kk:Int) < (n:Int):=by omega
  have:kk=n:=by omega
  subst this
  go_wp2
  go_ret
  exact ⟨⟨_,rfl, .inl ⟨rfl,HA.out⟩⟩,HD.out⟩
section
theorem el_lift {R1:List (List Int)} {a p k:Nat} {r0 r1:List Int} (h0:R1.getD a []=r0) (h1:R1.getD p []=r1):((R1.set a r1).set p r0).set a (scale (inv (r1.getD k 0)) r1)=rowI.lift R1 k a p:=by
 show _=(R1.set p (R1.getD a [])).set a (scale (inv ((R1.getD p []).getD k 0)) (R1.getD p []))
 rw [h0,h1]
 by_cases e:a=p
 ·subst e;rw [List.set_set,List.set_set,List.set_set]
 rw [List.set_comm _ _ e,List.set_set]
theorem el_top {R1:List (List Int)} {a p:Nat} {r0 r1:List Int} (ha:a < R1.length) (h0:R1.getD a []=r0) (h1:R1.getD p []=r1):((R1.set a r1).set p r0).getD a []=r1:=by
 by_cases e:p=a
 ·subst e
  rw [List.set_set,List.getD_eq_getElem?_getD,List.getElem?_set_self ha,← h1,h0];rfl
 rw [List.getD_eq_getElem?_getD,List.getElem?_set_ne e,List.getElem?_set_self ha];rfl
theorem el_clr_skip {R:List (List Int)} {k a r:Nat} {x:List Int} (hx:(rowI.clr k a R r).getD r []=x) (h:r=a∨x.getD k 0=0):rowI.clr k a R (r+1)=rowI.clr k a R r:=by
 show (if r ≠ a∧((rowI.clr k a R r).getD r []).getD k 0 ≠ 0 then _ else rowI.clr k a R r)=_
 rw [hx,if_neg]
 intro z
 rcases h with e|e
 ·exact z.1 e
 exact z.2 e
theorem el_clr_do {R:List (List Int)} {k a r:Nat} {x y:List Int} (hx:(rowI.clr k a R r).getD r []=x) (hy:(rowI.clr k a R r).getD a []=y) (h:r ≠ a) (h2:x.getD k 0 ≠ 0):rowI.clr k a R (r+1)=(rowI.clr k a R r).set r (addV x (scale (x.getD k 0) y)):=by
 show (if r ≠ a∧((rowI.clr k a R r).getD r []).getD k 0 ≠ 0 then (rowI.clr k a R r).set r (addV ((rowI.clr k a R r).getD r []) (scale (((rowI.clr k a R r).getD r []).getD k 0) ((rowI.clr k a R r).getD a []))) else rowI.clr k a R r)=_
 rw [hx,hy,if_pos ⟨h,h2⟩]
end
theorem el_none {R R1:List (List Int)} {k a len:Nat} (hq:(R1,a)=rowI.red R k) (hl:R.length=len) (ha:a < len) (hl1:R1.length=len) (h:∀ i,i < len - a→((R1.getD (a+i) []).getD k 0 != 0)=false):rowI.red R (k+1)=(R1,a):=by
 show (if (rowI.red R k).2 < R.length then rowI.stp k (rowI.red R k) else rowI.red R k)=_
 rw [← hq,hl,if_pos ha]
 unfold RowK.stp
 have e:rowI.piv R1 k a=none:=RowK.piv_none (fun j h1 h2=>by
  have h3:=h (j - a) D23
  rw [show a+(j - a)=j by omega] at h3
  exact Decidable.of_not_not fun z=>by
   have z2:((R1.getD j []).getD k 0 != 0)=true:=bne_iff_ne.2 z
   rw [z2] at h3;cases h3)
 show (match rowI.piv R1 k a with|none=>(R1,a)|some i=>(rowI.clr k a (rowI.lift R1 k a i) R1.length,a+1))=_
 rw [e]
theorem el_some {R R1:List (List Int)} {k a len i:Nat} (hq:(R1,a)=rowI.red R k) (hl:R.length=len) (ha:a < len) (hl1:R1.length=len) (hi:i < len - a) (hp:((R1.getD (a+i) []).getD k 0 != 0)=true) (h:∀ j,j < i→((R1.getD (a+j) []).getD k 0 != 0)=false):rowI.red R (k+1)=(rowI.clr k a (rowI.lift R1 k a (a+i)) len,a+1):=by
 show (if (rowI.red R k).2 < R.length then rowI.stp k (rowI.red R k) else rowI.red R k)=_
 rw [← hq,hl,if_pos ha]
 unfold RowK.stp
 have e:rowI.piv R1 k a=some (a+i):=RowK.piv_some D23 D23 (bne_iff_ne.1 hp) (fun j h1 h2=>by
  have h3:=h (j - a) D23
  rw [show a+(j - a)=j by omega] at h3
  exact Decidable.of_not_not fun z=>by
   have z2:((R1.getD j []).getD k 0 != 0)=true:=bne_iff_ne.2 z
   rw [z2] at h3;cases h3)
 show (match rowI.piv R1 k a with|none=>(R1,a)|some i=>(rowI.clr k a (rowI.lift R1 k a i) R1.length,a+1))=_
 rw [e,← hl1]
structure EL (w0:World) (g cap len gb k m:Nat) (R:List (List Int)) (wr:World):Prop where
 N:Kd.N (Kd.slice 5 (Kd.int .u8)) 57 wr w0.heap.size (fun b=>b ≠ gb) (.slice (some ⟨g,0,none⟩) len cap) R
 box:wr.heap[gb]? = some (.cells #[.int .i64 k] 3 (0,0))
 B:Below w0.heap.size w0 wr
 low:w0.heap.size≤gb
 all:∀ r ∈ R,okI m r
section
variable {w0 wr w1:World} {g cap len gb k m:Nat} {R:List (List Int)}
theorem EL.ne (h:EL w0 g cap len gb k m R wr):gb ≠ g:=fun e=>Kd.N_ne h.N h.box D24 (by rw [e];simp [Value.ownBlock])
theorem EL.below (h:EL w0 g cap len gb k m R wr) (hb:Below wr.heap.size wr w1):EL w0 g cap len gb k m R w1 :=
 ⟨Kd.N_below h.N hb,qb h.box hb,pu h.B hb,h.low,h.all⟩
theorem EL.first {okn:Nat→Prop} (hN:Kd.N (Kd.slice 5 (Kd.int .u8)) 57 wr w0.heap.size okn (.slice (some ⟨g,0,none⟩) len cap) R) (hB:Below w0.heap.size w0 wr) (hR:∀ r ∈ R,okI m r) (k:Nat) :
  EL w0 g cap len wr.heap.size k m R (wr.alloc (.cells #[.int .i64 k] 3 (0,0))) :=
 ⟨Kd.N_mono (Kd.N_alloc (Kd.N_bound hN) _) (fun k hk=>by have:=hk.2;omega),heap_alloc_new wr _,pa hB _,hB.size,hR⟩
theorem EL.size (h:EL w0 g cap len gb k m R wr):R.length=len:=(N_len h.N).1.symm
theorem EL.row (h:EL w0 g cap len gb k m R wr) (i:Nat) (hi:i < len) :
  ∃ r A c,R.getD i []=r∧okI m r∧wr.cell? ⟨g,i,none⟩=some (.slice A m c)∧m≤c∧Kd.F (Kd.int .u8) wr (fun b=>b ≠ gb∧b ≠ g) A m r∧wr.frozen? ⟨g,i,none⟩=false:=by
 obtain ⟨A,c,h1,h2,h3,h4⟩:=N_row h.N i hi
 have hr:okI m (R.getD i []):=RowK.at_all (O:=rowI) h.all (by rw [h.size];exact hi)
 rw [hr.2] at h1 h2 h3
 exact ⟨_,A,c,rfl,hr,h1,h2,h3,h4⟩
theorem EL.put (h:EL w0 g cap len gb k m R wr) (i:Nat) (hi:i < len) {A:Option Addr} {c:Nat} {x:List Int} (hx:okI m x) (hc:m≤c) (hF:Kd.F (Kd.int .u8) wr (fun b=>b ≠ gb∧b ≠ g) A m x) :
  EL w0 g cap len gb k m (R.set i x) (wr.setCell ⟨g,i,none⟩ (.slice A m c)):=by
 obtain ⟨h1,h2⟩:=N_put h.N i hi (A:=A) (c:=c) (x:=x) (okp:=fun b=>b ≠ gb∧b ≠ g) (by rw [hx.2];exact hc) (by rw [hx.2];exact hF) (fun _ hk=>hk)
 rw [hx.2] at h1 h2
 exact ⟨h1,blk_grown h.box h2 (fun e=>h.ne (by injection e)),pt h.B (Kd.N_base h.N g D142),h.low,el_set_all h.all hx i⟩
theorem EL.fresh (h:EL w0 g cap len gb k m R wr) {A:Option Addr} {n c:Nat} {x:List Int} (ho:Kd.R (Kd.int .u8) 5 w1 wr.heap.size (fun _=>True) (.slice A n c) x) :
  Kd.F (Kd.int .u8) w1 (fun b=>b ≠ gb∧b ≠ g) A n x:=by
 have hg:=Kd.N_lt h.N g D142
 have hb:=blk_lt h.box
 exact Kd.R_F (Kd.R_mono (Kd.R_bound ho) (fun b hk=>by have:=hk.2.1;omega))
theorem EL.key (h:EL w0 g cap len gb k m R wr):wr.cell? ⟨gb,0,none⟩=some (.int .i64 k):=(blk_cell h.box 0).trans rfl
end
theorem impl_eliminate.calls (R:List (List Int)) (m n:Nat) (hR:∀ r ∈ R,okI m r) (hn:n≤m) (hm:m≤1000000) (hl:R.length≤1000) (g cap len:Nat) (hlen:R.length=len) (w0 w:World) (hB:Below w0.heap.size w0 w)
  (hN:Kd.N (Kd.slice 5 (Kd.int .u8)) 57 w w0.heap.size (fun _=>True) (.slice (some ⟨g,0,none⟩) len cap) R) :
  Calls Try.prog 184 #[.slice (some ⟨g,0,none⟩) len cap, .int .i64 n] w fun e w'=>e = .returned (.int .i64 ((rowI.red R n).2:Nat)) ∧
   Kd.N (Kd.slice 5 (Kd.int .u8)) 57 w' w0.heap.size (fun _=>True) (.slice (some ⟨g,0,none⟩) len cap) (rowI.red R n).1∧Below w0.heap.size w0 w':=by
 have hnc:len≤cap:=(N_len hN).2
 have hll:len≤1000:=by omega
 have HN:=am hN
 have HB:=am hB
 have HR:=am hR
 have HL:=am hlen
 clear hN hB hR hlen
 go_enter Try.func184,Try.ntmps184
 go_wp2_with fail
 go_loopg [5,6] (n+1) (fun fu v5 v6 wr=>∃ k gb:Nat,k≤n∧n - k < fu∧v5 = .int .i64 ((rowI.red R k).2:Nat)∧v6 = .pointer (some ⟨gb,0,none⟩)∧Aside0 (EL w0 g cap len gb k m (rowI.red R k).1 wr))
 case atStart=>exact ⟨0,w.heap.size,Nat.zero_le _,D23,rfl,rfl,⟨EL.first HN.out HB.out HR.out 0⟩⟩
 case round =>
  obtain ⟨k,gb,hk,hfu,rfl,rfl,HE⟩:=hrel
  have HA:=am (RowK.red_all (shutI m) HR.out k)
  obtain ⟨q,hq⟩:∃ q,q=rowI.red R k:=⟨_,rfl⟩
  rw [← hq] at HE HA ⊢
  have HQ:=am hq
  clear hq
  obtain ⟨R1,a⟩:=q
  have hlen1:R1.length=len:=by rw [show R1=(rowI.red R k).1 by rw [← HQ.out],RowK.red_length,HL.out]
  have ha:a≤len:=by
   have h2:=(RowK.red_rank (O:=rowI) R k).2
   rw [← HQ.out,HL.out] at h2
   exact h2
  have hbox:wr.cell? ⟨gb,0,none⟩=some (.int .i64 k):=(blk_cell HE.out.box 0).trans rfl
  by_cases hkn:k < n
  case neg =>
   have e:k=n:=by omega
   subst e
   have hkz:¬ (k:Int) < (k:Int):=by omega
   have hdk:decide ((k:Int) < (k:Int))=false:=decide_eq_false hkz
   go_wp2
   go_ret
   refine ⟨?_,?_,HE.out.B⟩
   ·rw [← HQ.out];rfl
   rw [← HQ.out];exact Kd.N_mono HE.out.N (fun _ _=>trivial)
  have hkz:(k:Int) < (n:Int):=by omega
  have hdk:decide ((k:Int) < (n:Int))=true:=decide_eq_true hkz
  by_cases hal:a < len
  case neg =>
   have e:a=len:=by omega
   subst e
   have haz:¬ (a:Int) < (a:Int):=by omega
   have hda:decide ((a:Int) < (a:Int))=false:=decide_eq_false haz
   go_wp2
   go_ret
   have hf:(rowI.red R k).2=R.length:=by rw [← HQ.out,HL.out]
   have e2:=RowK.red_full hf (n - k)
   rw [show k+(n - k)=n by omega] at e2
   rw [e2,← HQ.out]
   exact ⟨rfl,Kd.N_mono HE.out.N (fun _ _=>trivial),HE.out.B⟩
  have haz:(a:Int) < (len:Int):=by omega
  have hda:decide ((a:Int) < (len:Int))=true:=decide_eq_true haz
  have hac:(cap=a)=False:=eq_false D23
  have halc:a≤cap:=by omega
  go_wp2_with fail
  have hcell:∀ i,i < len - a→wr.cell? ⟨g,a+i,none⟩=some ((wr.cell? ⟨g,a+i,none⟩).getD undef):=fun i hi=>by
   obtain ⟨A,c,e,_⟩:=N_row HE.out.N (a+i) D23
   rw [e];rfl
  refine (el_IndexFunc 206 (enters_of Try.func206 rfl rfl) (.pointer (some ⟨gb,0,none⟩)) (fun i=>(R1.getD (a+i) []).getD k 0 != 0) ⟨g,a,none⟩ (len - a) (cap - a) (fun i=>(wr.cell? ⟨g,a+i,none⟩).getD undef) wr D23 (fun i hi=>by rw [add_at];exact hcell i hi) (fun i hi W hd=>?_)).mono ?_
  ·obtain ⟨A,c,e,hle,hF,_⟩:=N_row HE.out.N (a+i) D23
   obtain ⟨q,rfl⟩:=hd.out
   rw [e]
   have hlk:k < (R1.getD (a+i) []).length:=by
    have:=(RowK.at_all (O:=rowI) HA.out (i:=a+i) D23).2
    rw [show (rowI.nul:List Int)=[] from rfl] at this
    omega
   exact el_test gb k A c _ _ hlk _ hbox (Kd.F_drewN hF q)
  clear hcell
  rintro e w' ⟨⟨r,rfl,hr⟩,⟨q,rfl⟩⟩
  have hE1:=HE.out.below (w1:=wr.drewN q) (pb (Below.refl _ _) q)
  clear HE hbox
  have HE:=am hE1
  clear hE1
  generalize wr.drewN q=wr at HE ⊢
  have hbox:wr.cell? ⟨gb,0,none⟩=some (.int .i64 k):=(blk_cell HE.out.box 0).trans rfl
  rcases hr with ⟨rfl,hnone⟩ | ⟨i,hi,rfl,hp,hfirst⟩
  ·have hst:=el_none HQ.out HL.out hal hlen1 hnone
   have HS:=am hst
   clear hst
   go_wp2_with fail
   go_roundg (gk - 1)
   case measure=>omega
   case rel=>exact ⟨k+1,wr.heap.size,D23,D23,by rw [HS.out],by first|rfl|(simp;done),⟨by rw [HS.out];exact EL.first HE.out.N HE.out.B HE.out.all (k+1)⟩⟩
  have hst:=el_some HQ.out HL.out hal hlen1 hi hp hfirst
  have HS:=am hst
  clear hst
  replace hp:((R1.getD (a+i) []).getD k 0 != 0)=true:=hp
  have HP:=am hp
  clear hp hfirst
  have hneg:¬ ((i:Int) < 0):=by omega
  have hdn:decide ((i:Int) < 0)=false:=decide_eq_false hneg
  obtain ⟨p,hpe⟩:∃ p,p=a+i:=⟨_,rfl⟩
  have hpl:(p:Int) < (len:Int):=by omega
  have hp0:p < len:=by omega
  have hap:a≤p:=by omega
  rw [← hpe] at HP HS
  have hw:wrap64 ((a:Int)+(i:Int))=(p:Int):=by rw [hpe,wrap_id D23 D23];omega
  go_wp2_with fail
  clear hpe
  have hbm:k < m:=by omega
  replace HE:=am (HE.out.below (pd (Below.refl _ _)))
  obtain ⟨r1,A1,c1,hr1,hok1,hcell1,hle1,hF1,hfr1⟩:=HE.out.row p hp0
  obtain ⟨r0,A0,c0,hr0,hok0,hcell0,hle0,hF0,hfr0⟩:=HE.out.row a hal
  refine start_ (n:=20) (S:=fun w'=>w'.cell? ⟨g,p,none⟩=some (.slice A1 m c1)∧w'.cell? ⟨g,a,none⟩=some (.slice A0 m c0)) (ds:=[17,19]) #[Z,Z,Z,Z,Z,Z,Z,Z,Z,Z,Z,Z,Z,Z,Z,Z,Z,Z,Z,Z] D3 rfl rfl ⟨hcell1,hcell0⟩ (fun hHeld=>?_)
  generalize wr.drew=wr at HE hHeld hF1 hF0 hcell0 hcell1 hfr0 hfr1 ⊢
  have HF1:=am hF1
  have HF0:=am hF0
  clear hF1 hF0 hbox
  refine pure_ (i:=0) (N:=some 28) (v:=?_) (a':=?_) #[Y,Z,Z,Z,Z,Z,Z,Z,Z,Z,Z,Z,Z,Z,Z,Z,Z,Z,Z,Z] rfl rfl D3 hh (Or.inl ⟨D35,?_⟩) ?_ ?_
  rotate_left
  ·intro w'
   go_simp
   with_reducible rfl
  rotate_left
  ·simp only [Act.put,q1,q2,q3,i64_w,i32_w]
   rfl
  refine pure_ (i:=1) (N:=some 29) (v:=?_) (a':=?_) #[Y,Y,Z,Z,Z,Z,Z,Z,Z,Z,Z,Z,Z,Z,Z,Z,Z,Z,Z,Z] rfl rfl D3 hh (Or.inl ⟨D35,?_⟩) ?_ ?_
  rotate_left
  ·intro w'
   go_simp
   with_reducible rfl
  rotate_left
  ·simp only [Act.put,q1,q2,q3,i64_w,i32_w]
   rfl
  refine pure_ (i:=6) (N:=some 34) (v:=?_) (a':=?_) #[Y,Y,Z,Z,Z,Z,Y,Z,Z,Z,Z,Z,Z,Z,Z,Z,Z,Z,Z,Z] rfl rfl D3 hh (Or.inl ⟨D35,?_⟩) ?_ ?_
  rotate_left
  ·intro w'
   go_simp
   with_reducible rfl
  rotate_left
  ·simp only [Act.put,q1,q2,q3,i64_w,i32_w]
   rfl
  refine pure_ (i:=7) (N:=some 35) (v:=?_) (a':=?_) #[Y,Y,Z,Z,Z,Z,Y,Y,Z,Z,Z,Z,Z,Z,Z,Z,Z,Z,Z,Z] rfl rfl D3 hh (Or.inl ⟨D35,?_⟩) ?_ ?_
  rotate_left
  ·intro w'
   go_simp
   with_reducible rfl
  rotate_left
  ·simp only [Act.put,q1,q2,q3,i64_w,i32_w]
   rfl
  refine pure_ (i:=8) (N:=some 36) (v:=?_) (a':=?_) #[Y,Y,Z,Z,Z,Z,Y,Y,Y,Z,Z,Z,Z,Z,Z,Z,Z,Z,Z,Z] rfl rfl D3 hh (Or.inl ⟨D35,?_⟩) ?_ ?_
  rotate_left
  ·intro w'
   go_simp
   with_reducible rfl
  rotate_left
  ·simp only [Act.put,q1,q2,q3,i64_w,i32_w]
   rfl
  refine pure_ (i:=9) (N:=some 37) (v:=?_) (a':=?_) #[Y,Y,Z,Z,Z,Z,Y,Y,Y,Y,Z,Z,Z,Z,Z,Z,Z,Z,Z,Z] rfl rfl D3 hh (Or.inl ⟨D35,?_⟩) ?_ ?_
  rotate_left
  ·intro w'
   go_simp
   with_reducible rfl
  rotate_left
  ·simp only [Act.put,q1,q2,q3,i64_w,i32_w]
   rfl
  refine pure_ (i:=10) (N:=some 38) (v:=?_) (a':=?_) #[Y,Y,Z,Z,Z,Z,Y,Y,Y,Y,Y,Z,Z,Z,Z,Z,Z,Z,Z,Z] rfl rfl D3 hh (Or.inl ⟨D35,?_⟩) ?_ ?_
  rotate_left
  ·intro w'
   go_simp
   with_reducible rfl
  rotate_left
  ·simp only [Act.put,q1,q2,q3,i64_w,i32_w]
   rfl
  refine pure_ (i:=12) (N:=some 40) (v:=?_) (a':=?_) #[Y,Y,Z,Z,Z,Z,Y,Y,Y,Y,Y,Z,Y,Z,Z,Z,Z,Z,Z,Z] rfl rfl D3 hh (Or.inl ⟨D35,?_⟩) ?_ ?_
  rotate_left
  ·intro w'
   go_simp
   with_reducible rfl
  rotate_left
  ·simp only [Act.put,q1,q2,q3,i64_w,i32_w]
   rfl
  refine pure_ (i:=13) (N:=some 41) (v:=?_) (a':=?_) #[Y,Y,Z,Z,Z,Z,Y,Y,Y,Y,Y,Z,Y,Y,Z,Z,Z,Z,Z,Z] rfl rfl D3 hh (Or.inl ⟨D35,?_⟩) ?_ ?_
  rotate_left
  ·intro w'
   go_simp
   with_reducible rfl
  rotate_left
  ·simp only [Act.put,q1,q2,q3,i64_w,i32_w]
   rfl
  refine pure_ (i:=14) (N:=some 42) (v:=?_) (a':=?_) #[Y,Y,Z,Z,Z,Z,Y,Y,Y,Y,Y,Z,Y,Y,Y,Z,Z,Z,Z,Z] rfl rfl D3 hh (Or.inl ⟨D35,?_⟩) ?_ ?_
  rotate_left
  ·intro w'
   go_simp
   with_reducible rfl
  rotate_left
  ·simp only [Act.put,q1,q2,q3,i64_w,i32_w]
   rfl
  refine take_ (i:=11) (N:=some 39) (v:=?_) (a':=?_) #[Y,Y,Z,Z,Z,Z,Y,Y,Y,Y,Y,Y,Y,Y,Y,Z,Z,Z,Z,Z] rfl rfl D3 hh (Or.inl ⟨D35,?_⟩) hHeld ?_ ?_
  rotate_left
  ·rintro w' ⟨s0,s1⟩
   go_simp
   with_reducible rfl
  rotate_left
  ·simp only [Act.put,q1,q2,q3,i64_w,i32_w]
   rfl
  refine take_ (i:=15) (N:=some 43) (v:=?_) (a':=?_) #[Y,Y,Z,Z,Z,Z,Y,Y,Y,Y,Y,Y,Y,Y,Y,Y,Z,Z,Z,Z] rfl rfl D3 hh (Or.inl ⟨D35,?_⟩) hHeld ?_ ?_
  rotate_left
  ·rintro w' ⟨s0,s1⟩
   go_simp
   with_reducible rfl
  rotate_left
  ·simp only [Act.put,q1,q2,q3,i64_w,i32_w]
   rfl
  refine pure_ (i:=2) (N:=some 30) (v:=?_) (a':=?_) #[Y,Y,Y,Z,Z,Z,Y,Y,Y,Y,Y,Y,Y,Y,Y,Y,Z,Z,Z,Z] rfl rfl D3 hh (Or.inl ⟨D35,?_⟩) ?_ ?_
  rotate_left
  ·intro w'
   go_simp
   with_reducible rfl
  rotate_left
  ·simp only [Act.put,q1,q2,q3,i64_w,i32_w]
   rfl
  refine pure_ (i:=3) (N:=some 31) (v:=?_) (a':=?_) #[Y,Y,Y,Y,Z,Z,Y,Y,Y,Y,Y,Y,Y,Y,Y,Y,Z,Z,Z,Z] rfl rfl D3 hh (Or.inl ⟨D35,?_⟩) ?_ ?_
  rotate_left
  ·intro w'
   go_simp
   with_reducible rfl
  rotate_left
  ·simp only [Act.put,q1,q2,q3,i64_w,i32_w]
   rfl
  refine pure_ (i:=4) (N:=some 32) (v:=?_) (a':=?_) #[Y,Y,Y,Y,Y,Z,Y,Y,Y,Y,Y,Y,Y,Y,Y,Y,Z,Z,Z,Z] rfl rfl D3 hh (Or.inl ⟨D35,?_⟩) ?_ ?_
  rotate_left
  ·intro w'
   go_simp
   with_reducible rfl
  rotate_left
  ·simp only [Act.put,q1,q2,q3,i64_w,i32_w]
   rfl
  refine pure_ (i:=5) (N:=some 33) (v:=?_) (a':=?_) #[Y,Y,Y,Y,Y,Y,Y,Y,Y,Y,Y,Y,Y,Y,Y,Y,Z,Z,Z,Z] rfl rfl D3 hh (Or.inl ⟨D35,?_⟩) ?_ ?_
  rotate_left
  ·intro w'
   go_simp
   with_reducible rfl
  rotate_left
  ·simp only [Act.put,q1,q2,q3,i64_w,i32_w]
   rfl
  refine pure_ (i:=16) (N:=some 44) (v:=?_) (a':=?_) #[Y,Y,Y,Y,Y,Y,Y,Y,Y,Y,Y,Y,Y,Y,Y,Y,Y,Z,Z,Z] rfl rfl D3 hh (Or.inl ⟨D35,?_⟩) ?_ ?_
  rotate_left
  ·intro w'
   go_simp
   with_reducible rfl
  rotate_left
  ·simp only [Act.put,q1,q2,q3,i64_w,i32_w]
   rfl
  refine last_ (i:=17) (N:=none) #[Y,Y,Y,Y,Y,Y,Y,Y,Y,Y,Y,Y,Y,Y,Y,Y,Y,Y,Z,Z] rfl rfl D3 D24 (fun K hK=>?_)
  refine skip_ (w1:=?_) D35 rfl ?_ ?_
  rotate_left
  ·go_simp
   rfl
  refine hK.out _ _ ?_
  clear hK K
  have hE1:=HE.out.put a hal hok1 hle1 HF1.out
  have HF0':=am (Kd.F_far HF0.out (p:=⟨g,a,none⟩) (fun k hk=>hk.2) (.slice A1 m c1))
  clear HE HF0 HF1 hHeld hcell0 hcell1 hfr0 hfr1
  generalize wr.setCell ⟨g,a,none⟩ (.slice A1 m c1)=wr at hE1 HF0' ⊢
  have HE:=am hE1
  clear hE1
  obtain ⟨_,_,_,_,_,hcellp,_,_,hfrp⟩:=HE.out.row p hp0
  refine pure_ (i:=18) (N:=some 45) (v:=?_) (a':=?_) #[Y,Y,Y,Y,Y,Y,Y,Y,Y,Y,Y,Y,Y,Y,Y,Y,Y,Y,Y,Z] rfl rfl D3 hh (Or.inl ⟨D35,?_⟩) ?_ ?_
  rotate_left
  ·intro w'
   go_simp
   with_reducible rfl
  rotate_left
  ·simp only [Act.put,q1,q2,q3,i64_w,i32_w]
   rfl
  refine last_ (i:=19) (N:=none) #[Y,Y,Y,Y,Y,Y,Y,Y,Y,Y,Y,Y,Y,Y,Y,Y,Y,Y,Y,Y] rfl rfl D3 D24 (fun K hK=>?_)
  refine skip_ (w1:=?_) D35 rfl ?_ ?_
  rotate_left
  ·go_simp
   rfl
  refine hK.out _ _ ?_
  clear hK K
  refine done_ D3 ?_
  have hE1:=HE.out.put p hp0 hok0 hle0 HF0'.out
  clear HE HF0' hcellp hfrp
  generalize wr.setCell ⟨g,p,none⟩ (.slice A0 m c0)=wr at hE1 ⊢
  have HE:=am hE1
  clear hE1 hw
  go_wp2_with fail
  have htop:=el_top (by rw [hlen1];exact hal) hr0 hr1
  replace HE:=am (HE.out.below (pd (Below.refl _ _)))
  obtain ⟨r2,A2,c2,hr2,hok2,hcell2,hle2,hF2,hfr2⟩:=HE.out.row a hal
  rw [htop] at hr2
  subst hr2
  obtain ⟨ad2,rfl,hbyte⟩:=F_m hF2 hok2.2 k hbm
  obtain ⟨x,hx⟩:∃ x,x=r1.getD k 0:=⟨_,rfl⟩
  rw [← hx] at hbyte
  have hkey:=HE.out.key
  have hkm:(k:Int) < (m:Int):=by omega
  have hxb:Byte x:=by rw [hx];exact bytes_getD hok1.1 k
  obtain ⟨kI,hI⟩:=(ImplElim.impl_Inverse.ev hxb).rounds
  obtain ⟨kS,hS⟩:=(ImplElim.impl_scaled.ev hxb.inv hok1.1 (by rw [hok1.2];omega)).rounds
  have HI:=am hI
  have HSc:=am hS
  clear hI hS htop
  refine start_ (n:=17) (S:=fun w'=>w'.cell? ⟨g,a,none⟩=some (.slice (some ad2) m c2)∧w'.cell? ⟨gb,0,none⟩=some (.int .i64 k)∧w'.cell? (ad2.add k)=some (.int .u8 x)) (ds:=[16]) #[Z,Z,Z,Z,Z,Z,Z,Z,Z,Z,Z,Z,Z,Z,Z,Z,Z] D3 rfl rfl ⟨hcell2,hkey,hbyte⟩ (fun hHeld=>?_)
  generalize wr.drew=wr at HE hHeld hF2 hkey hbyte hcell2 hfr2 ⊢
  have HF2:=am hF2
  clear hF2 hkey hbyte hcell2 hfr2
  refine pure_ (i:=0) (N:=some 46) (v:=?_) (a':=?_) #[Y,Z,Z,Z,Z,Z,Z,Z,Z,Z,Z,Z,Z,Z,Z,Z,Z] rfl rfl D3 hh (Or.inl ⟨D35,?_⟩) ?_ ?_
  rotate_left
  ·intro w'
   go_simp
   with_reducible rfl
  rotate_left
  ·simp only [Act.put,q1,q2,q3,i64_w,i32_w]
   rfl
  refine pure_ (i:=1) (N:=some 47) (v:=?_) (a':=?_) #[Y,Y,Z,Z,Z,Z,Z,Z,Z,Z,Z,Z,Z,Z,Z,Z,Z] rfl rfl D3 hh (Or.inl ⟨D35,?_⟩) ?_ ?_
  rotate_left
  ·intro w'
   go_simp
   with_reducible rfl
  rotate_left
  ·simp only [Act.put,q1,q2,q3,i64_w,i32_w]
   rfl
  refine pure_ (i:=2) (N:=some 48) (v:=?_) (a':=?_) #[Y,Y,Y,Z,Z,Z,Z,Z,Z,Z,Z,Z,Z,Z,Z,Z,Z] rfl rfl D3 hh (Or.inl ⟨D35,?_⟩) ?_ ?_
  rotate_left
  ·intro w'
   go_simp
   with_reducible rfl
  rotate_left
  ·simp only [Act.put,q1,q2,q3,i64_w,i32_w]
   rfl
  refine pure_ (i:=3) (N:=some 49) (v:=?_) (a':=?_) #[Y,Y,Y,Y,Z,Z,Z,Z,Z,Z,Z,Z,Z,Z,Z,Z,Z] rfl rfl D3 hh (Or.inl ⟨D35,?_⟩) ?_ ?_
  rotate_left
  ·intro w'
   go_simp
   with_reducible rfl
  rotate_left
  ·simp only [Act.put,q1,q2,q3,i64_w,i32_w]
   rfl
  refine pure_ (i:=4) (N:=some 50) (v:=?_) (a':=?_) #[Y,Y,Y,Y,Y,Z,Z,Z,Z,Z,Z,Z,Z,Z,Z,Z,Z] rfl rfl D3 hh (Or.inl ⟨D35,?_⟩) ?_ ?_
  rotate_left
  ·intro w'
   go_simp
   with_reducible rfl
  rotate_left
  ·simp only [Act.put,q1,q2,q3,i64_w,i32_w]
   rfl
  refine take_ (i:=5) (N:=some 51) (v:=?_) (a':=?_) #[Y,Y,Y,Y,Y,Y,Z,Z,Z,Z,Z,Z,Z,Z,Z,Z,Z] rfl rfl D3 hh (Or.inl ⟨D35,?_⟩) hHeld ?_ ?_
  rotate_left
  ·rintro w' ⟨s0,s1,s2⟩
   go_simp
   with_reducible rfl
  rotate_left
  ·simp only [Act.put,q1,q2,q3,i64_w,i32_w]
   rfl
  refine take_ (i:=6) (N:=some 52) (v:=?_) (a':=?_) #[Y,Y,Y,Y,Y,Y,Y,Z,Z,Z,Z,Z,Z,Z,Z,Z,Z] rfl rfl D3 hh (Or.inl ⟨D35,?_⟩) hHeld ?_ ?_
  rotate_left
  ·rintro w' ⟨s0,s1,s2⟩
   go_simp
   with_reducible rfl
  rotate_left
  ·simp only [Act.put,q1,q2,q3,i64_w,i32_w]
   rfl
  refine pure_ (i:=7) (N:=some 53) (v:=?_) (a':=?_) #[Y,Y,Y,Y,Y,Y,Y,Y,Z,Z,Z,Z,Z,Z,Z,Z,Z] rfl rfl D3 hh (Or.inl ⟨D35,?_⟩) ?_ ?_
  rotate_left
  ·intro w'
   go_simp
   with_reducible rfl
  rotate_left
  ·simp only [Act.put,q1,q2,q3,i64_w,i32_w]
   rfl
  refine take_ (i:=8) (N:=some 54) (v:=?_) (a':=?_) #[Y,Y,Y,Y,Y,Y,Y,Y,Y,Z,Z,Z,Z,Z,Z,Z,Z] rfl rfl D3 hh (Or.inl ⟨D35,?_⟩) hHeld ?_ ?_
  rotate_left
  ·rintro w' ⟨s0,s1,s2⟩
   go_simp
   with_reducible rfl
  rotate_left
  ·simp only [Act.put,q1,q2,q3,i64_w,i32_w]
   rfl
  refine pure_ (i:=10) (N:=some 56) (v:=?_) (a':=?_) #[Y,Y,Y,Y,Y,Y,Y,Y,Y,Z,Y,Z,Z,Z,Z,Z,Z] rfl rfl D3 hh (Or.inl ⟨D35,?_⟩) ?_ ?_
  rotate_left
  ·intro w'
   go_simp
   with_reducible rfl
  rotate_left
  ·simp only [Act.put,q1,q2,q3,i64_w,i32_w]
   rfl
  refine pure_ (i:=11) (N:=some 57) (v:=?_) (a':=?_) #[Y,Y,Y,Y,Y,Y,Y,Y,Y,Z,Y,Y,Z,Z,Z,Z,Z] rfl rfl D3 hh (Or.inl ⟨D35,?_⟩) ?_ ?_
  rotate_left
  ·intro w'
   go_simp
   with_reducible rfl
  rotate_left
  ·simp only [Act.put,q1,q2,q3,i64_w,i32_w]
   rfl
  refine pure_ (i:=12) (N:=some 58) (v:=?_) (a':=?_) #[Y,Y,Y,Y,Y,Y,Y,Y,Y,Z,Y,Y,Y,Z,Z,Z,Z] rfl rfl D3 hh (Or.inl ⟨D35,?_⟩) ?_ ?_
  rotate_left
  ·intro w'
   go_simp
   with_reducible rfl
  rotate_left
  ·simp only [Act.put,q1,q2,q3,i64_w,i32_w]
   rfl
  refine take_ (i:=13) (N:=some 59) (v:=?_) (a':=?_) #[Y,Y,Y,Y,Y,Y,Y,Y,Y,Z,Y,Y,Y,Y,Z,Z,Z] rfl rfl D3 hh (Or.inl ⟨D35,?_⟩) hHeld ?_ ?_
  rotate_left
  ·rintro w' ⟨s0,s1,s2⟩
   go_simp
   with_reducible rfl
  rotate_left
  ·simp only [Act.put,q1,q2,q3,i64_w,i32_w]
   rfl
  refine one_ (i:=9) (N:=some 55) #[Y,Y,Y,Y,Y,Y,Y,Y,Y,Y,Y,Y,Y,Y,Z,Z,Z] rfl rfl D3 D24 (fun K hK=>?_)
  refine goes_ Try.func207 D3 rfl #[Value.int .u8 x] D35 rfl rfl D36 ?_
  refine (impl_Inverse.calls kI x (inv x) _ HI.out).mono ?_
  rintro e w4 ⟨rfl,⟨q4,rfl⟩⟩
  refine ⟨_,rfl,?_⟩
  replace HE:=am (HE.out.below (w1:=wr.drewN q4) (pb (Below.refl _ _) q4))
  replace HF2:=am (Kd.F_drewN HF2.out q4)
  refine hK.out _ _ ⟨hHeld.1,hHeld.2.1,hHeld.2.2⟩ (fun hHeld=>?_)
  clear hK K
  refine norm_ (nA 55) ?_
  refine one_ (i:=14) (N:=some 60) #[Y,Y,Y,Y,Y,Y,Y,Y,Y,Y,Y,Y,Y,Y,Y,Z,Z] rfl rfl D3 D24 (fun K hK=>?_)
  refine goes_ Try.func132 D3 rfl #[Value.int .u8 (inv x),Value.slice (some ad2) m c2] D35 rfl rfl D36 ?_
  have hS:=impl_scaled.calls kS (inv x) (some ad2) c2 r1 (scale (inv x) r1) (wr.drewN q4) (F_C HF2.out hok1.2) (by rw [hok1.2];exact hle2) HSc.out
  rw [hok1.2] at hS
  refine hS.mono ?_
  clear hS
  rintro e w5 ⟨v5,rfl,ho5,hb5⟩
  refine ⟨_,rfl,?_⟩
  obtain ⟨A5,c5,e5⟩:=Kd.R_slice ho5
  rw [scale_length,hok1.2] at e5
  subst e5
  have hle5:m≤c5:=(Kd.R_reads' ho5).2.1
  have HF5:=am (HE.out.fresh ho5)
  replace HE:=am (HE.out.below hb5)
  replace hHeld:=(show _∧_∧_ from ⟨pw_cell_below hb5 hHeld.1,pw_cell_below hb5 hHeld.2.1,pw_cell_below hb5 hHeld.2.2⟩)
  clear ho5 hb5 HF2
  refine hK.out _ _ ⟨hHeld.1,hHeld.2.1,hHeld.2.2⟩ (fun hHeld=>?_)
  clear hK K
  refine norm_ (nA 60) ?_
  refine pure_ (i:=15) (N:=some 61) (v:=?_) (a':=?_) #[Y,Y,Y,Y,Y,Y,Y,Y,Y,Y,Y,Y,Y,Y,Y,Y,Z] rfl rfl D3 hh (Or.inl ⟨D35,?_⟩) ?_ ?_
  rotate_left
  ·intro w'
   go_simp
   with_reducible rfl
  rotate_left
  ·simp only [Act.put,q1,q2,q3,i64_w,i32_w]
   rfl
  obtain ⟨_,_,_,_,_,hcell3,_,_,hfr3⟩:=HE.out.row a hal
  refine last_ (i:=16) (N:=none) #[Y,Y,Y,Y,Y,Y,Y,Y,Y,Y,Y,Y,Y,Y,Y,Y,Y] rfl rfl D3 D24 (fun K hK=>?_)
  refine skip_ (w1:=?_) D35 rfl ?_ ?_
  rotate_left
  ·go_simp
   rfl
  refine hK.out _ _ ?_
  clear hK K
  refine done_ D3 ?_
  have hokx:=el_scale hxb.inv hok1
  have hE1:=HE.out.put a hal hokx hle5 HF5.out
  rw [show scale (inv x) r1=scale (inv (r1.getD k 0)) r1 by rw [hx],el_lift hr0 hr1] at hE1
  clear hx
  clear HE HF5 hcell3 hfr3 hHeld
  generalize w5.setCell ⟨g,a,none⟩ (.slice A5 m c5)=wr at hE1 ⊢
  obtain ⟨R3,hR3⟩:∃ R3,R3=rowI.lift R1 k a p:=⟨_,rfl⟩
  rw [← hR3] at hE1 HS
  clear hR3
  have HE:=am hE1
  clear hE1
  go_wp2_with fail
  go_loopg [64] (len+1) (fun fu v64 wr=>∃ r:Nat,r≤len∧len - r < fu∧v64 = .int .i64 r∧Aside0 (EL w0 g cap len gb k m (rowI.clr k a R3 r) wr))
  case atStart=>exact ⟨0,Nat.zero_le _,D23,rfl,HE⟩
  case round =>
   clear HE
   obtain ⟨r,hr,hfr,rfl,HE⟩:=hrel
   by_cases hrl:r < len
   case neg =>
    have e:r=len:=by omega
    subst e
    have hrz:¬ (r:Int) < (r:Int):=by omega
    have hdr:decide ((r:Int) < (r:Int))=false:=decide_eq_false hrz
    have hkey:=HE.out.key
    go_wp2_with fail
    go_roundg (n - k)
    case measure=>omega
    case rel=>exact ⟨k+1,_,D23,D23,by rw [HS.out];go_num,by first|rfl|(simp;done),⟨by rw [HS.out];exact EL.first HE.out.N HE.out.B HE.out.all (k+1)⟩⟩
   have hrz:(r:Int) < (len:Int):=by omega
   have hkey:=HE.out.key
   have hdr:decide ((r:Int) < (len:Int))=true:=decide_eq_true hrz
   obtain ⟨rr,A6,c6,hr6,hok6,hcell6,hle6,hF6,hfr6⟩:=HE.out.row r hrl
   by_cases hra:r=a
   case pos =>
    have hS:=el_clr_skip hr6 (.inl hra)
    have HT:=am hS
    clear hS hF6
    subst hra
    go_wp2_with fail
    go_roundg (len - r)
    case measure=>omega
    case rel=>exact ⟨r+1,D23,D23,by go_num,⟨by rw [HT.out];exact HE.out⟩⟩
   have hraz:¬ (r:Int)=(a:Int):=by omega
   obtain ⟨ad6,rfl,hbyte6⟩:=F_m hF6 hok6.2 k hbm
   obtain ⟨y,hy⟩:∃ y,y=rr.getD k 0:=⟨_,rfl⟩
   rw [← hy] at hbyte6
   have HY:=am hy
   clear hy
   have hkm:(k:Int) < (m:Int):=by omega
   by_cases hy0:y=0
   case pos =>
    have hS:=el_clr_skip hr6 (.inr (HY.out.symm.trans hy0))
    have HT:=am hS
    clear hS hF6 HY
    subst hy0
    go_wp2_with fail
    go_roundg (len - r)
    case measure=>omega
    case rel=>exact ⟨r+1,D23,D23,by go_num,⟨by rw [HT.out];exact HE.out⟩⟩
   have hyb:Byte y:=by rw [HY.out];exact bytes_getD hok6.1 k
   replace HE:=am (HE.out.below (pd (Below.refl _ _)))
   replace hF6:=Kd.F_drew hF6
   obtain ⟨ry,A7,c7,hr7,hok7,hcell7,hle7,hF7,hfr7⟩:=HE.out.row a hal
   have hS:=el_clr_do hr6 hr7 hra (by rw [← HY.out];exact hy0)
   rw [← HY.out] at hS
   have HT:=am hS
   clear hS
   have hok8:=el_scale hyb hok7
   have hok9:=el_add hok6 hok8
   obtain ⟨kS,hS⟩:=(ImplElim.impl_scaled.ev hyb hok7.1 (by rw [hok7.2];omega)).rounds
   obtain ⟨kA,hA⟩:=(ImplElim.impl_added.ev hok6.1 hok8.1 (by rw [hok6.2,hok8.2]) (by rw [hok6.2];omega)).rounds
   have HSc:=am hS
   have HAd:=am hA
   clear hS hA
   have hb1:((r:Int) != (a:Int))=true:=bne_iff_ne.2 hraz
   have hb2:(y != 0)=true:=bne_iff_ne.2 hy0
   go_wp2_with fail
   refine start_ (n:=15) (S:=fun w'=>w'.cell? ⟨g,a,none⟩=some (.slice A7 m c7)∧w'.cell? ⟨gb,0,none⟩=some (.int .i64 k)∧w'.cell? (ad6.add k)=some (.int .u8 y)) (ds:=[14]) #[Z,Z,Z,Z,Z,Z,Z,Z,Z,Z,Z,Z,Z,Z,Z] D3 rfl rfl ⟨hcell7,hkey,hbyte6⟩ (fun hHeld=>?_)
   generalize wr.drew=wr at HE hHeld hF6 hF7 hcell6 hfr6 hkey hbyte6 hcell7 hfr7 ⊢
   have HF6:=am hF6
   have HF7:=am hF7
   clear hF6 hF7 hcell6 hfr6 hkey hbyte6 hcell7 hfr7
   refine pure_ (i:=0) (N:=some 79) (v:=?_) (a':=?_) #[Y,Z,Z,Z,Z,Z,Z,Z,Z,Z,Z,Z,Z,Z,Z] rfl rfl D3 hh (Or.inl ⟨D35,?_⟩) ?_ ?_
   rotate_left
   ·intro w'
    go_simp
    with_reducible rfl
   rotate_left
   ·simp only [Act.put,q1,q2,q3,i64_w,i32_w]
    rfl
   refine pure_ (i:=1) (N:=some 80) (v:=?_) (a':=?_) #[Y,Y,Z,Z,Z,Z,Z,Z,Z,Z,Z,Z,Z,Z,Z] rfl rfl D3 hh (Or.inl ⟨D35,?_⟩) ?_ ?_
   rotate_left
   ·intro w'
    go_simp
    with_reducible rfl
   rotate_left
   ·simp only [Act.put,q1,q2,q3,i64_w,i32_w]
    rfl
   refine pure_ (i:=2) (N:=some 81) (v:=?_) (a':=?_) #[Y,Y,Y,Z,Z,Z,Z,Z,Z,Z,Z,Z,Z,Z,Z] rfl rfl D3 hh (Or.inl ⟨D35,?_⟩) ?_ ?_
   rotate_left
   ·intro w'
    go_simp
    with_reducible rfl
   rotate_left
   ·simp only [Act.put,q1,q2,q3,i64_w,i32_w]
    rfl
   refine pure_ (i:=3) (N:=some 82) (v:=?_) (a':=?_) #[Y,Y,Y,Y,Z,Z,Z,Z,Z,Z,Z,Z,Z,Z,Z] rfl rfl D3 hh (Or.inl ⟨D35,?_⟩) ?_ ?_
   rotate_left
   ·intro w'
    go_simp
    with_reducible rfl
   rotate_left
   ·simp only [Act.put,q1,q2,q3,i64_w,i32_w]
    rfl
   refine take_ (i:=4) (N:=some 83) (v:=?_) (a':=?_) #[Y,Y,Y,Y,Y,Z,Z,Z,Z,Z,Z,Z,Z,Z,Z] rfl rfl D3 hh (Or.inl ⟨D35,?_⟩) hHeld ?_ ?_
   rotate_left
   ·rintro w' ⟨s0,s1,s2⟩
    go_simp
    with_reducible rfl
   rotate_left
   ·simp only [Act.put,q1,q2,q3,i64_w,i32_w]
    rfl
   refine pure_ (i:=5) (N:=some 84) (v:=?_) (a':=?_) #[Y,Y,Y,Y,Y,Y,Z,Z,Z,Z,Z,Z,Z,Z,Z] rfl rfl D3 hh (Or.inl ⟨D35,?_⟩) ?_ ?_
   rotate_left
   ·intro w'
    go_simp
    with_reducible rfl
   rotate_left
   ·simp only [Act.put,q1,q2,q3,i64_w,i32_w]
    rfl
   refine take_ (i:=6) (N:=some 85) (v:=?_) (a':=?_) #[Y,Y,Y,Y,Y,Y,Y,Z,Z,Z,Z,Z,Z,Z,Z] rfl rfl D3 hh (Or.inl ⟨D35,?_⟩) hHeld ?_ ?_
   rotate_left
   ·rintro w' ⟨s0,s1,s2⟩
    go_simp
    with_reducible rfl
   rotate_left
   ·simp only [Act.put,q1,q2,q3,i64_w,i32_w]
    rfl
   refine pure_ (i:=7) (N:=some 86) (v:=?_) (a':=?_) #[Y,Y,Y,Y,Y,Y,Y,Y,Z,Z,Z,Z,Z,Z,Z] rfl rfl D3 hh (Or.inl ⟨D35,?_⟩) ?_ ?_
   rotate_left
   ·intro w'
    go_simp
    with_reducible rfl
   rotate_left
   ·simp only [Act.put,q1,q2,q3,i64_w,i32_w]
    rfl
   refine pure_ (i:=8) (N:=some 87) (v:=?_) (a':=?_) #[Y,Y,Y,Y,Y,Y,Y,Y,Y,Z,Z,Z,Z,Z,Z] rfl rfl D3 hh (Or.inl ⟨D35,?_⟩) ?_ ?_
   rotate_left
   ·intro w'
    go_simp
    with_reducible rfl
   rotate_left
   ·simp only [Act.put,q1,q2,q3,i64_w,i32_w]
    rfl
   refine pure_ (i:=9) (N:=some 88) (v:=?_) (a':=?_) #[Y,Y,Y,Y,Y,Y,Y,Y,Y,Y,Z,Z,Z,Z,Z] rfl rfl D3 hh (Or.inl ⟨D35,?_⟩) ?_ ?_
   rotate_left
   ·intro w'
    go_simp
    with_reducible rfl
   rotate_left
   ·simp only [Act.put,q1,q2,q3,i64_w,i32_w]
    rfl
   refine take_ (i:=10) (N:=some 89) (v:=?_) (a':=?_) #[Y,Y,Y,Y,Y,Y,Y,Y,Y,Y,Y,Z,Z,Z,Z] rfl rfl D3 hh (Or.inl ⟨D35,?_⟩) hHeld ?_ ?_
   rotate_left
   ·rintro w' ⟨s0,s1,s2⟩
    go_simp
    with_reducible rfl
   rotate_left
   ·simp only [Act.put,q1,q2,q3,i64_w,i32_w]
    rfl
   refine one_ (i:=11) (N:=some 90) #[Y,Y,Y,Y,Y,Y,Y,Y,Y,Y,Y,Y,Z,Z,Z] rfl rfl D3 D24 (fun K hK=>?_)
   refine goes_ Try.func132 D3 rfl #[Value.int .u8 y,Value.slice A7 m c7] D35 rfl rfl D36 ?_
   have hS:=impl_scaled.calls kS y A7 c7 ry (scale y ry) wr (F_C HF7.out hok7.2) (by rw [hok7.2];exact hle7) HSc.out
   rw [hok7.2] at hS
   refine hS.mono ?_
   clear hS
   rintro e w5 ⟨v5,rfl,ho5,hb5⟩
   refine ⟨_,rfl,?_⟩
   obtain ⟨A8,c8,e8⟩:=Kd.R_slice ho5
   rw [scale_length,hok7.2] at e8
   subst e8
   have hle8:m≤c8:=(Kd.R_reads' ho5).2.1
   have HF8:=am (HE.out.fresh ho5)
   replace HE:=am (HE.out.below hb5)
   replace HF6:=am (Kd.F_below HF6.out hb5)
   replace hHeld:=(show _∧_∧_ from ⟨pw_cell_below hb5 hHeld.1,pw_cell_below hb5 hHeld.2.1,pw_cell_below hb5 hHeld.2.2⟩)
   clear ho5 hb5 HF7
   refine hK.out _ _ ⟨hHeld.1,hHeld.2.1,hHeld.2.2⟩ (fun hHeld=>?_)
   clear hK K
   refine norm_ (nA 90) ?_
   refine one_ (i:=12) (N:=some 91) #[Y,Y,Y,Y,Y,Y,Y,Y,Y,Y,Y,Y,Y,Z,Z] rfl rfl D3 D24 (fun K hK=>?_)
   refine goes_ Try.func131 D3 rfl #[Value.slice (some ad6) m c6,Value.slice A8 m c8] D35 rfl rfl D36 ?_
   have hS:=impl_added.calls kA (some ad6) c6 rr A8 c8 (scale y ry) (addV rr (scale y ry)) w5 (F_C HF6.out hok6.2) (by rw [hok6.2];exact hle6) (F_C HF8.out hok8.2) (by rw [hok8.2];exact hle8) HAd.out
   rw [hok6.2,hok8.2] at hS
   refine hS.mono ?_
   clear hS
   rintro e w6 ⟨v6,rfl,ho6,hb6⟩
   refine ⟨_,rfl,?_⟩
   obtain ⟨A9,c9,e9⟩:=Kd.R_slice ho6
   rw [hok9.2] at e9
   subst e9
   have hle9:m≤c9:=(Kd.R_reads' ho6).2.1
   have HF9:=am (HE.out.fresh ho6)
   replace HE:=am (HE.out.below hb6)
   replace hHeld:=(show _∧_∧_ from ⟨pw_cell_below hb6 hHeld.1,pw_cell_below hb6 hHeld.2.1,pw_cell_below hb6 hHeld.2.2⟩)
   clear ho6 hb6 HF6 HF8
   refine hK.out _ _ ⟨hHeld.1,hHeld.2.1,hHeld.2.2⟩ (fun hHeld=>?_)
   clear hK K
   refine norm_ (nA 91) ?_
   refine pure_ (i:=13) (N:=some 92) (v:=?_) (a':=?_) #[Y,Y,Y,Y,Y,Y,Y,Y,Y,Y,Y,Y,Y,Y,Z] rfl rfl D3 hh (Or.inl ⟨D35,?_⟩) ?_ ?_
   rotate_left
   ·intro w'
    go_simp
    with_reducible rfl
   rotate_left
   ·simp only [Act.put,q1,q2,q3,i64_w,i32_w]
    rfl
   obtain ⟨_,_,_,_,_,hcell3,_,_,hfr3⟩:=HE.out.row r hrl
   refine last_ (i:=14) (N:=none) #[Y,Y,Y,Y,Y,Y,Y,Y,Y,Y,Y,Y,Y,Y,Y] rfl rfl D3 D24 (fun K hK=>?_)
   refine skip_ (w1:=?_) D35 rfl ?_ ?_
   rotate_left
   ·go_simp
    rfl
   refine hK.out _ _ ?_
   clear hK K
   refine done_ D3 ?_
   have hE1:=HE.out.put r hrl hok9 hle9 HF9.out
   clear HE HF9 hcell3 hfr3 hHeld
   generalize w6.setCell ⟨g,r,none⟩ (.slice A9 m c9)=wr at hE1 ⊢
   rw [← HT.out] at hE1
   have HE:=am hE1
   clear hE1
   go_wp2_with fail
   go_roundg (len - r)
   case measure=>omega
   case rel=>exact ⟨r+1,D23,D23,by go_num,HE⟩
end
end
end Go.Proofs.Ytajikfnpcobnpaa.PFnMatrices
-- SQUEEZED
