import Derived.Test.YteflgifmdojahaaVFnRegeneratedB
import Derived.Test.YteflgifmdojahaaPFnRegeneratedx0
import Derived.Test.YteflgifmdojahaaPFnRegeneratedx5
namespace Go.Proofs.Yteflgifmdojahaa.PFnRegenerated
open Go.RowKit Go.Proofs.YteflgifmdojahaaW.PrintWords Go.Proofs.YteflgifmdojahaaW.PrintLast Go.Proofs.YteflgifmdojahaaW.PrintMore Go.Proofs.Yteflgifmdojahaa.KitS
attribute [local go_sem] max2_int min2_int max_two min_two max_three min_three max_four min_four
set_option linter.unusedVariables false
set_option maxHeartbeats 8000000
set_option maxRecDepth 100000
set_option linter.unusedSimpArgs false
section
section
open Go.Proofs.Yteflgifmdojahaa.Gf Go.Proofs.Yteflgifmdojahaa.Kit Go.Proofs.Yteflgifmdojahaa.KitW Go.Proofs.Yteflgifmdojahaa.KitN
namespace SpecInv
theorem rdSS (l:List (List Int)) (i:Nat) (h:i < l.length):rd_L1 l (i:Int)=l[i]:=by unfold rd_L1;simp [List.getD,h]
theorem spec_l2Blank.ev_l0 (n m:Nat) (hn:n≤1048576) (hm:m≤1048576):∀ (d i:Nat),i+d=n→Ev (fun k=>spec_l2Blank.l0 k (n:Int) (m:Int) (i:Int) (blankM i m)) (blankM n m)
 | 0,i,hi=>by
  obtain rfl:i=n:=by omega
  refine Ev.step (fun k=>spec_l2Blank.l0.eq_2 _ _ _ _ k) ?_
  exact ev_neg D13 (ev_now rfl)
 | d+1,i,hi=>by
  have ih:=spec_l2Blank.ev_l0 n m hn hm d (i+1) D13
  refine Ev.step (fun k=>spec_l2Blank.l0.eq_2 _ _ _ _ k) ?_
  refine ev_pos D13 (ev_pos D13 (ev_pos D13 (ev_pos (by simp [blankM];omega) ?_)))
  rw [inc D13,Int.toNat_natCast]
  have e:blankM i m ++ [List.replicate m 0]=blankM (i+1) m:=by
   unfold blankM;rw [List.replicate_succ']
  rw [e]
  exact ih
theorem spec_l2Blank.ev (n m:Nat) (hn:n≤1048576) (hm:m≤1048576):Ev (fun k=>spec_l2Blank.f k (n:Int) (m:Int)) (blankM n m):=by
 unfold spec_l2Blank.f
 exact spec_l2Blank.ev_l0 n m hn hm n 0 D13
def idPart (n i:Nat):List (List Int):=(List.range n).map fun j=>if j < i then (List.replicate n 0).set j 1 else List.replicate n 0
theorem idPart_length (n i:Nat):(idPart n i).length=n:=by simp [idPart]
theorem idPart_zero (n:Nat):idPart n 0=blankM n n:=by
 apply List.ext_getElem
 ·simp [idPart,blankM]
 intro j h1 h2;simp [idPart,blankM]
theorem idPart_all (n:Nat):idPart n n=idM n:=by
 apply List.ext_getElem
 ·simp [idPart,idM]
 intro j h1 h2
 have:j < n:=by simpa [idPart] using h1
 simp [idPart,idM,this]
theorem idPart_succ (n i:Nat) (hi:i < n):(idPart n i).set i ((List.replicate n 0).set i 1)=idPart n (i+1):=by
 apply List.ext_getElem
 ·simp [idPart]
 intro j h1 h2
 rw [List.getElem_set]
 by_cases e:i=j
 ·subst e
  simp [idPart]
 rw [if_neg e]
 simp only [idPart,List.getElem_map,List.getElem_range]
 by_cases h:j < i
 ·rw [if_pos h,if_pos D13]
 rw [if_neg h,if_neg D13]
theorem spec_l2Identity.ev_l0 (n:Nat) (hn:n≤1048576):∀ (d i:Nat),i+d=n→Ev (fun k=>spec_l2Identity.l0 k (n:Int) (i:Int) (idPart n i)) (idM n)
 | 0,i,hi=>by
  obtain rfl:i=n:=by omega
  refine Ev.step (fun k=>spec_l2Identity.l0.eq_2 _ _ _ k) ?_
  exact ev_neg D13 (ev_now (idPart_all i))
 | d+1,i,hi=>by
  have hl:=idPart_length n i
  have hg:rd_L1 (idPart n i) (i:Int)=List.replicate n 0:=by
   rw [rdSS _ i D13]
   simp [idPart]
  have ih:=spec_l2Identity.ev_l0 n hn d (i+1) D13
  refine Ev.step (fun k=>spec_l2Identity.l0.eq_2 _ _ _ k) ?_
  rw [hg]
  refine ev_pos D13 (ev_pos D13 (ev_pos D13 (ev_pos (by simp;omega) ?_)))
  rw [inc D13,Int.toNat_natCast,idPart_succ n i D13]
  exact ih
theorem spec_l2Identity.ev (n:Nat) (hn:n≤1048576):Ev (fun k=>spec_l2Identity.f k (n:Int)) (idM n):=by
 unfold spec_l2Identity.f
 refine ev_bind (spec_l2Blank.ev n n hn hn) ?_
 have e:((blankM n n).length:Int)=(n:Int):=by simp [blankM]
 rw [e,← idPart_zero]
 exact spec_l2Identity.ev_l0 n hn n 0 D13
end SpecInv
def spec_l2Inverse.f (l0:List (List Int)):Option (List (List Int) × Bool):=if sqN l0=true then some ((redP l0 (idM l0.length) l0.length).1.map Prod.snd,decide ((redP l0 (idM l0.length) l0.length).2=l0.length)) else none
set_option maxHeartbeats 16000000 in
theorem spec_l2Inverse.calls (A0:Option Addr) (c0:Nat) (l0:List (List Int)) (r1:List (List Int)) (r2:Bool) (w:World) (hr0:Kd.C (Kd.slice 5 (Kd.int .u8)) w A0 l0.length l0) (hc0:l0.length≤c0) (h:spec_l2Inverse.f l0=some (r1,r2)) :
  Calls Try.prog 114 #[.agg #[.slice A0 l0.length c0]] w fun e w'=>∃ v0_:Value,e = .returned (.tuple #[.agg #[v0_], .bool r2])∧Kd.N (Kd.slice 5 (Kd.int .u8)) 24 w' w.heap.size (fun k_=>(w.heap.size≤k_)) v0_ r1∧Below w.heap.size w w':=by
 unfold spec_l2Inverse.f at h
 by_cases hs:sqN l0=true
 case neg=>rw [if_neg hs] at h;cases h
 rw [if_pos hs] at h
 have hrr:=Option.some.inj h
 clear h
 obtain ⟨h1,h2,h3⟩:=sqN_iff.1 hs
 clear hs
 obtain ⟨n,hn⟩:∃ n,n=l0.length:=⟨_,rfl⟩
 rw [← hn] at hrr h3
 obtain ⟨D,hD⟩:∃ D,D=(redP l0 (idM n) n).1.map Prod.snd:=⟨_,rfl⟩
 obtain ⟨z,hz⟩:∃ z,z=(redP l0 (idM n) n).2:=⟨_,rfl⟩
 rw [← hD,← hz] at hrr
 injection hrr with e1 e2
 subst e1
 obtain ⟨kI,hI⟩:=(SpecInv.spec_l2Identity.ev n D13).rounds
 have HI:=am hI
 have HN:=am hn
 have HD:=am hD
 have HZ:=am hz
 have HE2:=am e2
 have HR0:=am hr0
 have HOK:=am h3
 have hn1:1≤n:=by omega
 have hn2:n≤1000:=by omega
 rw [← hn] at hc0 ⊢
 clear hI hn hD hz e2 hr0 h1 h2 h3
 have hu:=Try.underlying27
 obtain ⟨W0,hW⟩:∃ W:World,W=(w.alloc (.cells #[.slice A0 n c0] 27 (0,0))).alloc (.cells #[.slice none 0 0] 27 (0,0)):=⟨_,rfl⟩
 have HB:Below w.heap.size w W0:=by rw [hW];exact pa (pa (Below.refl _ _) _) _
 have b1:W0.heap[w.heap.size]? = some (.cells #[.slice A0 n c0] 27 (0,0)):=by rw [hW];exact qa (heap_alloc_new w _) _
 have b2:W0.heap[w.heap.size+1]? = some (.cells #[.slice none 0 0] 27 (0,0)):=by rw [hW];have y:=heap_alloc_new (w.alloc (.cells #[.slice A0 n c0] 27 (0,0))) (.cells #[.slice none 0 0] 27 (0,0));simpa using y
 have hbox:W0.cell? ⟨w.heap.size,0,none⟩=some (.slice A0 n c0):=(blk_cell b1 0).trans rfl
 have hp2:=blk_lt b2
 go_enter Try.func114,Try.ntmps114
 go_wp2_with fail
 rw [← hW]
 clear hW
 have HBOX:=hbox
 have h12:w.heap.size ≠ w.heap.size+1:=by omega
 refine start_ (n:=13) (S:=fun w'=>w'.cell? ⟨w.heap.size,0,none⟩=some (.slice A0 n c0)) (ds:=[10,11]) #[Z,Z,Z,Z,Z,Z,Z,Z,Z,Z,Z,Z,Z] D2 rfl rfl hbox (fun hHeld=>?_)
 replace HB:=pd HB
 replace b1:=qd b1
 replace b2:=qd b2
 have up2:w.heap.size+1 < W0.drew.heap.size:=blk_lt b2
 have hsw:w.heap.size≤W0.drew.heap.size:=HB.size
 have lp2:w.heap.size≤w.heap.size+1:=by omega
 clear hbox HBOX hp2 h12
 generalize W0.drew=W1 at HB b1 b2 hHeld up2 hsw ⊢
 refine take_ (i:=0) (N:=some 12) (v:=?_) (a':=?_) #[Y,Z,Z,Z,Z,Z,Z,Z,Z,Z,Z,Z,Z] rfl rfl D2 hh (Or.inl ⟨D16,?_⟩) hHeld ?_ ?_
 rotate_left
 ·intro w' s0
  go_simp
  with_reducible rfl
 rotate_left
 ·simp only [Act.put,q1,q2,q3,i64_w,i32_w]
  rfl
 refine pure_ (i:=1) (N:=some 13) (v:=?_) (a':=?_) #[Y,Y,Z,Z,Z,Z,Z,Z,Z,Z,Z,Z,Z] rfl rfl D2 hh (Or.inl ⟨D16,?_⟩) ?_ ?_
 rotate_left
 ·intro w'
  go_simp
  with_reducible rfl
 rotate_left
 ·simp only [Act.put,q1,q2,q3,i64_w,i32_w]
  rfl
 obtain ⟨p2,hp2⟩:∃ p2,p2=w.heap.size+1:=⟨_,rfl⟩
 rw [← hp2] at b2 up2 lp2
 have hpp:w.heap.size+1=p2:=hp2.symm
 clear hp2
 rw [hpp]
 refine join_ (σ:=Nat × Nat × (Option Addr × Nat) × (Option Addr × Nat × Nat) × (Option Addr × Nat × Nat)) 3 #[Y,Y,Y,Y,Y,Y,Y,Y,Y,Y,Z,Z,Z] (fun s=>[(14, .agg #[.slice s.2.2.1.1 n s.2.2.1.2]),(15, .tuple #[.agg #[.slice s.2.2.2.1.1 s.2.2.2.1.2.1 s.2.2.2.1.2.2], .agg #[.slice s.2.2.2.2.1 s.2.2.2.2.2.1 s.2.2.2.2.2.2], .int .i64 (z:Nat)]),(5, .pointer (some ⟨s.1,0,none⟩)),(6, .pointer (some ⟨s.2.1,0,none⟩)),(11, .tuple #[.agg #[.slice s.2.2.2.1.1 s.2.2.2.1.2.1 s.2.2.2.1.2.2], .agg #[.slice s.2.2.2.2.1 s.2.2.2.2.2.1 s.2.2.2.2.2.2], .int .i64 (z:Nat)]),(16, .agg #[.slice s.2.2.2.1.1 s.2.2.2.1.2.1 s.2.2.2.1.2.2]),(17, .agg #[.slice s.2.2.2.2.1 s.2.2.2.2.2.1 s.2.2.2.2.2.2]),(18, .int .i64 (z:Nat))])
  (fun s W=>Below w.heap.size w W∧W.heap[p2]? = some (.cells #[.slice none 0 0] 27 (0,0))∧W.heap[s.1]? = some (.cells #[.slice none 0 0] 27 (0,0))∧W.heap[s.2.1]? = some (.cells #[.slice none 0 0] 27 (0,0))∧s.1 ≠ s.2.1∧w.heap.size≤s.1∧w.heap.size≤s.2.1∧∃ lo hi,Kd.N (Kd.slice 5 (Kd.int .u8)) 24 W w.heap.size (fun b=>lo≤b∧b < hi) (.slice s.2.2.2.2.1 s.2.2.2.2.2.1 s.2.2.2.2.2.2) D∧(s.1 < lo∨hi≤s.1)∧(s.2.1 < lo∨hi≤s.2.1)∧p2 < lo∧w.heap.size≤lo∧p2 ≠ s.1∧p2 ≠ s.2.1) ?_ ?_
 rotate_left
 ·intro hcont
  refine three_ (i:=2) (j:=8) (k:=9) (Ni:=some 14) (Nj:=some 5) (Nk:=some 6) #[Y,Y,Y,Z,Z,Z,Z,Z,Z,Z,Z,Z,Z] #[Y,Y,Z,Z,Z,Z,Z,Z,Y,Z,Z,Z,Z] #[Y,Y,Z,Z,Z,Z,Z,Z,Z,Y,Z,Z,Z] rfl rfl rfl rfl rfl rfl D2 D5 D5 D5 (fun K hK=>?_) (fun K hK=>?_) (fun K hK=>?_)
  ·skip
   refine goes_ Try.func149 D2 rfl #[.int .i64 n] D16 rfl rfl D32 ?_
   refine (spec_l2Identity.calls kI (n:Int) (idM n) _ HI.out).mono ?_
   rintro e W2_ ⟨v14,rfl,ho,hb⟩
   refine ⟨_,rfl,?_⟩
   obtain ⟨A14,c14,e14⟩:=Kd.S_slice ho
   rw [idM_length] at e14
   subst e14
   have hI:=(Kd.S_reads' ho).2.2
   have hIc:=(Kd.S_reads' ho).2.1
   clear ho
   have hsz_:=hb.size
   replace b1:=qb b1 hb
   replace b2:=qb b2 hb
   replace HB:=pu HB hb
   replace hsw:w.heap.size≤W2_.heap.size:=by omega
   replace up2:p2 < W2_.heap.size:=by omega
   clear hb hsz_
   refine hK.out _ _ ((blk_cell b1 0).trans rfl) (fun hHeld=>?_)
   clear hK K
   refine norm_ (nA 14) ?_
   refine three_ (i:=3) (j:=8) (k:=9) (Ni:=some 15) (Nj:=some 5) (Nk:=some 6) #[Y,Y,Y,Y,Z,Z,Z,Z,Z,Z,Z,Z,Z] #[Y,Y,Y,Z,Z,Z,Z,Z,Y,Z,Z,Z,Z] #[Y,Y,Y,Z,Z,Z,Z,Z,Z,Y,Z,Z,Z] rfl rfl rfl rfl rfl rfl D2 D5 D5 D5 (fun K hK=>?_) (fun K hK=>?_) (fun K hK=>?_)
   ·skip
    refine goes_ Try.func148 D2 rfl #[.agg #[.slice A0 n c0], .agg #[.slice A14 n c14]] D16 rfl rfl D32 ?_
    have hc:=spec_l2Reduce.calls A0 c0 l0 A14 c14 (idM n) n n W2_ (Kd.C_below HR0.out HB) D81 hI D82 HOK.out (idM_ok n) D80 D79 D71 hn2 hn2
    rw [← HN.out,idM_length,← HZ.out,← HD.out] at hc
    refine hc.mono ?_
    clear hc
    rintro e W3_ ⟨A5,n5,c5,v1,rfl,hN0,hb⟩
    refine ⟨_,rfl,?_⟩
    obtain ⟨A6,c6,e6⟩:=Kd.N_slice hN0
    generalize hn6:D.length=n6 at e6
    subst e6
    obtain ⟨lo,hlo⟩:∃ z,z=W2_.heap.size:=⟨_,rfl⟩
    obtain ⟨hi,hhi⟩:∃ z,z=W3_.heap.size:=⟨_,rfl⟩
    have hN:=Kd.N_lower (Kd.N_mono (Kd.N_bound hN0) (ok':=fun b=>lo≤b∧b < hi) (fun b hk=>⟨D113,D112⟩)) hsw
    clear hN0
    have hlw:w.heap.size≤lo:=by omega
    have rp2:p2 < lo:=by omega
    have uhi:hi≤W3_.heap.size:=by omega
    clear hlo hhi
    have hsz_:=hb.size
    replace b1:=qb b1 hb
    replace b2:=qb b2 hb
    replace HB:=pu HB hb
    replace hsw:w.heap.size≤W3_.heap.size:=by omega
    replace up2:p2 < W3_.heap.size:=by omega
    clear hb hsz_
    refine hK.out _ _ ((blk_cell b1 0).trans rfl) (fun hHeld=>?_)
    clear hK K
    refine norm_ (nA 15) ?_
    refine pure_ (i:=4) (N:=some 11) (v:=?_) (a':=?_) #[Y,Y,Y,Y,Y,Z,Z,Z,Z,Z,Z,Z,Z] rfl rfl D2 hh (Or.inl ⟨D16,?_⟩) ?_ ?_
    rotate_left
    ·intro w'
     go_simp
     with_reducible rfl
    rotate_left
    ·simp only [Act.put,q1,q2,q3,i64_w,i32_w]
     rfl
    refine pure_ (i:=5) (N:=some 16) (v:=?_) (a':=?_) #[Y,Y,Y,Y,Y,Y,Z,Z,Z,Z,Z,Z,Z] rfl rfl D2 hh (Or.inl ⟨D16,?_⟩) ?_ ?_
    rotate_left
    ·intro w'
     go_simp
     with_reducible rfl
    rotate_left
    ·simp only [Act.put,q1,q2,q3,i64_w,i32_w]
     rfl
    refine pure_ (i:=6) (N:=some 17) (v:=?_) (a':=?_) #[Y,Y,Y,Y,Y,Y,Y,Z,Z,Z,Z,Z,Z] rfl rfl D2 hh (Or.inl ⟨D16,?_⟩) ?_ ?_
    rotate_left
    ·intro w'
     go_simp
     with_reducible rfl
    rotate_left
    ·simp only [Act.put,q1,q2,q3,i64_w,i32_w]
     rfl
    refine pure_ (i:=7) (N:=some 18) (v:=?_) (a':=?_) #[Y,Y,Y,Y,Y,Y,Y,Y,Z,Z,Z,Z,Z] rfl rfl D2 hh (Or.inl ⟨D16,?_⟩) ?_ ?_
    rotate_left
    ·intro w'
     go_simp
     with_reducible rfl
    rotate_left
    ·simp only [Act.put,q1,q2,q3,i64_w,i32_w]
     rfl
    refine two_ (i:=8) (j:=9) (Ni:=some 5) (Nj:=some 6) #[Y,Y,Y,Y,Y,Y,Y,Y,Y,Z,Z,Z,Z] #[Y,Y,Y,Y,Y,Y,Y,Y,Z,Y,Z,Z,Z] rfl rfl rfl rfl D2 D5 D5 (fun K hK=>?_) (fun K hK=>?_)
    ·skip
     refine value_ (v:=.pointer (some ⟨W3_.heap.size,0,none⟩)) (w1:=W3_.alloc (.cells #[.slice none 0 0] 27 (0,0))) D16 rfl ?_ ?_
     ·first|(go_simp;done)|(go_simp;rfl)
     have hq_:=Below.refl W3_.heap.size W3_
     have hal_:=pa hq_ (.cells #[.slice none 0 0] 27 (0,0))
     have b5:=heap_alloc_new W3_ (.cells #[.slice none 0 0] 27 (0,0))
     have hsz_:(W3_.alloc (.cells #[.slice none 0 0] 27 (0,0))).heap.size=W3_.heap.size+1:=by simp
     replace b1:=qa b1 (.cells #[.slice none 0 0] 27 (0,0))
     replace b2:=qa b2 (.cells #[.slice none 0 0] 27 (0,0))
     replace HB:=pa HB (.cells #[.slice none 0 0] 27 (0,0))
     replace hN:=Kd.N_alloc hN (.cells #[.slice none 0 0] 27 (0,0))
     generalize W3_.alloc (.cells #[.slice none 0 0] 27 (0,0))=W4_ at *
     obtain ⟨q5,hq5⟩:∃ q5,q5=W3_.heap.size:=⟨_,rfl⟩
     rw [← hq5] at b5 ⊢
     have lq5:w.heap.size≤q5:=by omega
     have np25:p2 ≠ q5:=by omega
     have uq5:q5 < W4_.heap.size:=by omega
     have rq5:q5 < lo∨hi≤q5:=Or.inr D13
     replace uhi:hi≤W4_.heap.size:=by omega
     replace hsw:w.heap.size≤W4_.heap.size:=by omega
     replace up2:p2 < W4_.heap.size:=by omega
     clear hq_ hal_ hsz_ hq5
     refine hK.out _ _ ((blk_cell b1 0).trans rfl) (fun hHeld=>?_)
     clear hK K
     refine norm_ (nA 5) ?_
     refine one_ (i:=9) (N:=some 6) #[Y,Y,Y,Y,Y,Y,Y,Y,Y,Y,Z,Z,Z] rfl rfl D2 D5 (fun K hK=>?_)
     refine value_ (v:=.pointer (some ⟨W4_.heap.size,0,none⟩)) (w1:=W4_.alloc (.cells #[.slice none 0 0] 27 (0,0))) D16 rfl ?_ ?_
     ·first|(go_simp;done)|(go_simp;rfl)
     have hq_:=Below.refl W4_.heap.size W4_
     have hal_:=pa hq_ (.cells #[.slice none 0 0] 27 (0,0))
     have b6:=heap_alloc_new W4_ (.cells #[.slice none 0 0] 27 (0,0))
     have hsz_:(W4_.alloc (.cells #[.slice none 0 0] 27 (0,0))).heap.size=W4_.heap.size+1:=by simp
     replace b1:=qa b1 (.cells #[.slice none 0 0] 27 (0,0))
     replace b2:=qa b2 (.cells #[.slice none 0 0] 27 (0,0))
     replace b5:=qa b5 (.cells #[.slice none 0 0] 27 (0,0))
     replace HB:=pa HB (.cells #[.slice none 0 0] 27 (0,0))
     replace hN:=Kd.N_alloc hN (.cells #[.slice none 0 0] 27 (0,0))
     generalize W4_.alloc (.cells #[.slice none 0 0] 27 (0,0))=W5_ at *
     obtain ⟨q6,hq6⟩:∃ q6,q6=W4_.heap.size:=⟨_,rfl⟩
     rw [← hq6] at b6 ⊢
     have lq6:w.heap.size≤q6:=by omega
     have np26:p2 ≠ q6:=by omega
     have uq6:q6 < W5_.heap.size:=by omega
     have hne:q5 ≠ q6:=by omega
     replace uq5:q5 < W5_.heap.size:=by omega
     have rq6:q6 < lo∨hi≤q6:=Or.inr D13
     replace uhi:hi≤W5_.heap.size:=by omega
     replace hsw:w.heap.size≤W5_.heap.size:=by omega
     replace up2:p2 < W5_.heap.size:=by omega
     clear hq_ hal_ hsz_ hq6
     refine hK.out _ _ ((blk_cell b1 0).trans rfl) (fun hHeld=>?_)
     clear hK K
     refine norm_ (nA 6) ?_
     refine norm_ ?_ (hcont (q5,q6,(A14,c14),(A5,n5,c5),(A6,n6,c6)) _ ⟨HB,b2,b5,b6,hne,lq5,lq6,lo,hi,hN,rq5,rq6,rp2,hlw,np25,np26⟩)
     first|(simp only [putAll,Act.put,q1,q2,q3];done)|rfl|(simp only [putAll,Act.put,q1,q2,q3];rfl)
    skip
    refine value_ (v:=.pointer (some ⟨W3_.heap.size,0,none⟩)) (w1:=W3_.alloc (.cells #[.slice none 0 0] 27 (0,0))) D16 rfl ?_ ?_
    ·first|(go_simp;done)|(go_simp;rfl)
    have hq_:=Below.refl W3_.heap.size W3_
    have hal_:=pa hq_ (.cells #[.slice none 0 0] 27 (0,0))
    have b6:=heap_alloc_new W3_ (.cells #[.slice none 0 0] 27 (0,0))
    have hsz_:(W3_.alloc (.cells #[.slice none 0 0] 27 (0,0))).heap.size=W3_.heap.size+1:=by simp
    replace b1:=qa b1 (.cells #[.slice none 0 0] 27 (0,0))
    replace b2:=qa b2 (.cells #[.slice none 0 0] 27 (0,0))
    replace HB:=pa HB (.cells #[.slice none 0 0] 27 (0,0))
    replace hN:=Kd.N_alloc hN (.cells #[.slice none 0 0] 27 (0,0))
    generalize W3_.alloc (.cells #[.slice none 0 0] 27 (0,0))=W4_ at *
    obtain ⟨q6,hq6⟩:∃ q6,q6=W3_.heap.size:=⟨_,rfl⟩
    rw [← hq6] at b6 ⊢
    have lq6:w.heap.size≤q6:=by omega
    have np26:p2 ≠ q6:=by omega
    have uq6:q6 < W4_.heap.size:=by omega
    have rq6:q6 < lo∨hi≤q6:=Or.inr D13
    replace uhi:hi≤W4_.heap.size:=by omega
    replace hsw:w.heap.size≤W4_.heap.size:=by omega
    replace up2:p2 < W4_.heap.size:=by omega
    clear hq_ hal_ hsz_ hq6
    refine hK.out _ _ ((blk_cell b1 0).trans rfl) (fun hHeld=>?_)
    clear hK K
    refine norm_ (nA 6) ?_
    refine one_ (i:=8) (N:=some 5) #[Y,Y,Y,Y,Y,Y,Y,Y,Y,Y,Z,Z,Z] rfl rfl D2 D5 (fun K hK=>?_)
    refine value_ (v:=.pointer (some ⟨W4_.heap.size,0,none⟩)) (w1:=W4_.alloc (.cells #[.slice none 0 0] 27 (0,0))) D16 rfl ?_ ?_
    ·first|(go_simp;done)|(go_simp;rfl)
    have hq_:=Below.refl W4_.heap.size W4_
    have hal_:=pa hq_ (.cells #[.slice none 0 0] 27 (0,0))
    have b5:=heap_alloc_new W4_ (.cells #[.slice none 0 0] 27 (0,0))
    have hsz_:(W4_.alloc (.cells #[.slice none 0 0] 27 (0,0))).heap.size=W4_.heap.size+1:=by simp
    replace b1:=qa b1 (.cells #[.slice none 0 0] 27 (0,0))
    replace b2:=qa b2 (.cells #[.slice none 0 0] 27 (0,0))
    replace b6:=qa b6 (.cells #[.slice none 0 0] 27 (0,0))
    replace HB:=pa HB (.cells #[.slice none 0 0] 27 (0,0))
    replace hN:=Kd.N_alloc hN (.cells #[.slice none 0 0] 27 (0,0))
    generalize W4_.alloc (.cells #[.slice none 0 0] 27 (0,0))=W5_ at *
    obtain ⟨q5,hq5⟩:∃ q5,q5=W4_.heap.size:=⟨_,rfl⟩
    rw [← hq5] at b5 ⊢
    have lq5:w.heap.size≤q5:=by omega
    have np25:p2 ≠ q5:=by omega
    have uq5:q5 < W5_.heap.size:=by omega
    have hne:q5 ≠ q6:=by omega
    replace uq6:q6 < W5_.heap.size:=by omega
    have rq5:q5 < lo∨hi≤q5:=Or.inr D13
    replace uhi:hi≤W5_.heap.size:=by omega
    replace hsw:w.heap.size≤W5_.heap.size:=by omega
    replace up2:p2 < W5_.heap.size:=by omega
    clear hq_ hal_ hsz_ hq5
    refine hK.out _ _ ((blk_cell b1 0).trans rfl) (fun hHeld=>?_)
    clear hK K
    refine norm_ (nA 5) ?_
    refine norm_ ?_ (hcont (q5,q6,(A14,c14),(A5,n5,c5),(A6,n6,c6)) _ ⟨HB,b2,b5,b6,hne,lq5,lq6,lo,hi,hN,rq5,rq6,rp2,hlw,np25,np26⟩)
    first|(simp only [putAll,Act.put,q1,q2,q3];done)|rfl|(simp only [putAll,Act.put,q1,q2,q3];rfl)
   ·skip
    refine value_ (v:=.pointer (some ⟨W2_.heap.size,0,none⟩)) (w1:=W2_.alloc (.cells #[.slice none 0 0] 27 (0,0))) D16 rfl ?_ ?_
    ·first|(go_simp;done)|(go_simp;rfl)
    have hq_:=Below.refl W2_.heap.size W2_
    have hal_:=pa hq_ (.cells #[.slice none 0 0] 27 (0,0))
    have b5:=heap_alloc_new W2_ (.cells #[.slice none 0 0] 27 (0,0))
    have hsz_:(W2_.alloc (.cells #[.slice none 0 0] 27 (0,0))).heap.size=W2_.heap.size+1:=by simp
    replace b1:=qa b1 (.cells #[.slice none 0 0] 27 (0,0))
    replace b2:=qa b2 (.cells #[.slice none 0 0] 27 (0,0))
    replace HB:=pa HB (.cells #[.slice none 0 0] 27 (0,0))
    replace hI:=Kd.C_alloc hI (.cells #[.slice none 0 0] 27 (0,0))
    generalize W2_.alloc (.cells #[.slice none 0 0] 27 (0,0))=W3_ at *
    obtain ⟨q5,hq5⟩:∃ q5,q5=W2_.heap.size:=⟨_,rfl⟩
    rw [← hq5] at b5 ⊢
    have lq5:w.heap.size≤q5:=by omega
    have np25:p2 ≠ q5:=by omega
    have uq5:q5 < W3_.heap.size:=by omega
    replace hsw:w.heap.size≤W3_.heap.size:=by omega
    replace up2:p2 < W3_.heap.size:=by omega
    clear hq_ hal_ hsz_ hq5
    refine hK.out _ _ ((blk_cell b1 0).trans rfl) (fun hHeld=>?_)
    clear hK K
    refine norm_ (nA 5) ?_
    refine two_ (i:=3) (j:=9) (Ni:=some 15) (Nj:=some 6) #[Y,Y,Y,Y,Z,Z,Z,Z,Y,Z,Z,Z,Z] #[Y,Y,Y,Z,Z,Z,Z,Z,Y,Y,Z,Z,Z] rfl rfl rfl rfl D2 D5 D5 (fun K hK=>?_) (fun K hK=>?_)
    ·skip
     refine goes_ Try.func148 D2 rfl #[.agg #[.slice A0 n c0], .agg #[.slice A14 n c14]] D16 rfl rfl D32 ?_
     have hc:=spec_l2Reduce.calls A0 c0 l0 A14 c14 (idM n) n n W3_ (Kd.C_below HR0.out HB) D81 hI D82 HOK.out (idM_ok n) D80 D79 D71 hn2 hn2
     rw [← HN.out,idM_length,← HZ.out,← HD.out] at hc
     refine hc.mono ?_
     clear hc
     rintro e W4_ ⟨A5,n5,c5,v1,rfl,hN0,hb⟩
     refine ⟨_,rfl,?_⟩
     obtain ⟨A6,c6,e6⟩:=Kd.N_slice hN0
     generalize hn6:D.length=n6 at e6
     subst e6
     obtain ⟨lo,hlo⟩:∃ z,z=W3_.heap.size:=⟨_,rfl⟩
     obtain ⟨hi,hhi⟩:∃ z,z=W4_.heap.size:=⟨_,rfl⟩
     have hN:=Kd.N_lower (Kd.N_mono (Kd.N_bound hN0) (ok':=fun b=>lo≤b∧b < hi) (fun b hk=>⟨D113,D112⟩)) hsw
     clear hN0
     have hlw:w.heap.size≤lo:=by omega
     have rp2:p2 < lo:=by omega
     have uhi:hi≤W4_.heap.size:=by omega
     have rq5:q5 < lo∨hi≤q5:=Or.inl D13
     clear hlo hhi
     have hsz_:=hb.size
     replace b1:=qb b1 hb
     replace b2:=qb b2 hb
     replace b5:=qb b5 hb
     replace HB:=pu HB hb
     replace hsw:w.heap.size≤W4_.heap.size:=by omega
     replace up2:p2 < W4_.heap.size:=by omega
     replace uq5:q5 < W4_.heap.size:=by omega
     clear hb hsz_
     refine hK.out _ _ ((blk_cell b1 0).trans rfl) (fun hHeld=>?_)
     clear hK K
     refine norm_ (nA 15) ?_
     refine pure_ (i:=4) (N:=some 11) (v:=?_) (a':=?_) #[Y,Y,Y,Y,Y,Z,Z,Z,Y,Z,Z,Z,Z] rfl rfl D2 hh (Or.inl ⟨D16,?_⟩) ?_ ?_
     rotate_left
     ·intro w'
      go_simp
      with_reducible rfl
     rotate_left
     ·simp only [Act.put,q1,q2,q3,i64_w,i32_w]
      rfl
     refine pure_ (i:=5) (N:=some 16) (v:=?_) (a':=?_) #[Y,Y,Y,Y,Y,Y,Z,Z,Y,Z,Z,Z,Z] rfl rfl D2 hh (Or.inl ⟨D16,?_⟩) ?_ ?_
     rotate_left
     ·intro w'
      go_simp
      with_reducible rfl
     rotate_left
     ·simp only [Act.put,q1,q2,q3,i64_w,i32_w]
      rfl
     refine pure_ (i:=6) (N:=some 17) (v:=?_) (a':=?_) #[Y,Y,Y,Y,Y,Y,Y,Z,Y,Z,Z,Z,Z] rfl rfl D2 hh (Or.inl ⟨D16,?_⟩) ?_ ?_
     rotate_left
     ·intro w'
      go_simp
      with_reducible rfl
     rotate_left
     ·simp only [Act.put,q1,q2,q3,i64_w,i32_w]
      rfl
     refine pure_ (i:=7) (N:=some 18) (v:=?_) (a':=?_) #[Y,Y,Y,Y,Y,Y,Y,Y,Y,Z,Z,Z,Z] rfl rfl D2 hh (Or.inl ⟨D16,?_⟩) ?_ ?_
     rotate_left
     ·intro w'
      go_simp
      with_reducible rfl
     rotate_left
     ·simp only [Act.put,q1,q2,q3,i64_w,i32_w]
      rfl
     refine one_ (i:=9) (N:=some 6) #[Y,Y,Y,Y,Y,Y,Y,Y,Y,Y,Z,Z,Z] rfl rfl D2 D5 (fun K hK=>?_)
     refine value_ (v:=.pointer (some ⟨W4_.heap.size,0,none⟩)) (w1:=W4_.alloc (.cells #[.slice none 0 0] 27 (0,0))) D16 rfl ?_ ?_
     ·first|(go_simp;done)|(go_simp;rfl)
     have hq_:=Below.refl W4_.heap.size W4_
     have hal_:=pa hq_ (.cells #[.slice none 0 0] 27 (0,0))
     have b6:=heap_alloc_new W4_ (.cells #[.slice none 0 0] 27 (0,0))
     have hsz_:(W4_.alloc (.cells #[.slice none 0 0] 27 (0,0))).heap.size=W4_.heap.size+1:=by simp
     replace b1:=qa b1 (.cells #[.slice none 0 0] 27 (0,0))
     replace b2:=qa b2 (.cells #[.slice none 0 0] 27 (0,0))
     replace b5:=qa b5 (.cells #[.slice none 0 0] 27 (0,0))
     replace HB:=pa HB (.cells #[.slice none 0 0] 27 (0,0))
     replace hN:=Kd.N_alloc hN (.cells #[.slice none 0 0] 27 (0,0))
     generalize W4_.alloc (.cells #[.slice none 0 0] 27 (0,0))=W5_ at *
     obtain ⟨q6,hq6⟩:∃ q6,q6=W4_.heap.size:=⟨_,rfl⟩
     rw [← hq6] at b6 ⊢
     have lq6:w.heap.size≤q6:=by omega
     have np26:p2 ≠ q6:=by omega
     have uq6:q6 < W5_.heap.size:=by omega
     have hne:q5 ≠ q6:=by omega
     replace uq5:q5 < W5_.heap.size:=by omega
     have rq6:q6 < lo∨hi≤q6:=Or.inr D13
     replace uhi:hi≤W5_.heap.size:=by omega
     replace hsw:w.heap.size≤W5_.heap.size:=by omega
     replace up2:p2 < W5_.heap.size:=by omega
     clear hq_ hal_ hsz_ hq6
     refine hK.out _ _ ((blk_cell b1 0).trans rfl) (fun hHeld=>?_)
     clear hK K
     refine norm_ (nA 6) ?_
     refine norm_ ?_ (hcont (q5,q6,(A14,c14),(A5,n5,c5),(A6,n6,c6)) _ ⟨HB,b2,b5,b6,hne,lq5,lq6,lo,hi,hN,rq5,rq6,rp2,hlw,np25,np26⟩)
     first|(simp only [putAll,Act.put,q1,q2,q3];done)|rfl|(simp only [putAll,Act.put,q1,q2,q3];rfl)
    skip
    refine value_ (v:=.pointer (some ⟨W3_.heap.size,0,none⟩)) (w1:=W3_.alloc (.cells #[.slice none 0 0] 27 (0,0))) D16 rfl ?_ ?_
    ·first|(go_simp;done)|(go_simp;rfl)
    have hq_:=Below.refl W3_.heap.size W3_
    have hal_:=pa hq_ (.cells #[.slice none 0 0] 27 (0,0))
    have b6:=heap_alloc_new W3_ (.cells #[.slice none 0 0] 27 (0,0))
    have hsz_:(W3_.alloc (.cells #[.slice none 0 0] 27 (0,0))).heap.size=W3_.heap.size+1:=by simp
    replace b1:=qa b1 (.cells #[.slice none 0 0] 27 (0,0))
    replace b2:=qa b2 (.cells #[.slice none 0 0] 27 (0,0))
    replace b5:=qa b5 (.cells #[.slice none 0 0] 27 (0,0))
    replace HB:=pa HB (.cells #[.slice none 0 0] 27 (0,0))
    replace hI:=Kd.C_alloc hI (.cells #[.slice none 0 0] 27 (0,0))
    generalize W3_.alloc (.cells #[.slice none 0 0] 27 (0,0))=W4_ at *
    obtain ⟨q6,hq6⟩:∃ q6,q6=W3_.heap.size:=⟨_,rfl⟩
    rw [← hq6] at b6 ⊢
    have lq6:w.heap.size≤q6:=by omega
    have np26:p2 ≠ q6:=by omega
    have uq6:q6 < W4_.heap.size:=by omega
    have hne:q5 ≠ q6:=by omega
    replace uq5:q5 < W4_.heap.size:=by omega
    replace hsw:w.heap.size≤W4_.heap.size:=by omega
    replace up2:p2 < W4_.heap.size:=by omega
    clear hq_ hal_ hsz_ hq6
    refine hK.out _ _ ((blk_cell b1 0).trans rfl) (fun hHeld=>?_)
    clear hK K
    refine norm_ (nA 6) ?_
    refine one_ (i:=3) (N:=some 15) #[Y,Y,Y,Y,Z,Z,Z,Z,Y,Y,Z,Z,Z] rfl rfl D2 D5 (fun K hK=>?_)
    refine goes_ Try.func148 D2 rfl #[.agg #[.slice A0 n c0], .agg #[.slice A14 n c14]] D16 rfl rfl D32 ?_
    have hc:=spec_l2Reduce.calls A0 c0 l0 A14 c14 (idM n) n n W4_ (Kd.C_below HR0.out HB) D81 hI D82 HOK.out (idM_ok n) D80 D79 D71 hn2 hn2
    rw [← HN.out,idM_length,← HZ.out,← HD.out] at hc
    refine hc.mono ?_
    clear hc
    rintro e W5_ ⟨A5,n5,c5,v1,rfl,hN0,hb⟩
    refine ⟨_,rfl,?_⟩
    obtain ⟨A6,c6,e6⟩:=Kd.N_slice hN0
    generalize hn6:D.length=n6 at e6
    subst e6
    obtain ⟨lo,hlo⟩:∃ z,z=W4_.heap.size:=⟨_,rfl⟩
    obtain ⟨hi,hhi⟩:∃ z,z=W5_.heap.size:=⟨_,rfl⟩
    have hN:=Kd.N_lower (Kd.N_mono (Kd.N_bound hN0) (ok':=fun b=>lo≤b∧b < hi) (fun b hk=>⟨D113,D112⟩)) hsw
    clear hN0
    have hlw:w.heap.size≤lo:=by omega
    have rp2:p2 < lo:=by omega
    have uhi:hi≤W5_.heap.size:=by omega
    have rq5:q5 < lo∨hi≤q5:=Or.inl D13
    have rq6:q6 < lo∨hi≤q6:=Or.inl D13
    clear hlo hhi
    have hsz_:=hb.size
    replace b1:=qb b1 hb
    replace b2:=qb b2 hb
    replace b5:=qb b5 hb
    replace b6:=qb b6 hb
    replace HB:=pu HB hb
    replace hsw:w.heap.size≤W5_.heap.size:=by omega
    replace up2:p2 < W5_.heap.size:=by omega
    replace uq5:q5 < W5_.heap.size:=by omega
    replace uq6:q6 < W5_.heap.size:=by omega
    clear hb hsz_
    refine hK.out _ _ ((blk_cell b1 0).trans rfl) (fun hHeld=>?_)
    clear hK K
    refine norm_ (nA 15) ?_
    refine pure_ (i:=4) (N:=some 11) (v:=?_) (a':=?_) #[Y,Y,Y,Y,Y,Z,Z,Z,Y,Y,Z,Z,Z] rfl rfl D2 hh (Or.inl ⟨D16,?_⟩) ?_ ?_
    rotate_left
    ·intro w'
     go_simp
     with_reducible rfl
    rotate_left
    ·simp only [Act.put,q1,q2,q3,i64_w,i32_w]
     rfl
    refine pure_ (i:=5) (N:=some 16) (v:=?_) (a':=?_) #[Y,Y,Y,Y,Y,Y,Z,Z,Y,Y,Z,Z,Z] rfl rfl D2 hh (Or.inl ⟨D16,?_⟩) ?_ ?_
    rotate_left
    ·intro w'
     go_simp
     with_reducible rfl
    rotate_left
    ·simp only [Act.put,q1,q2,q3,i64_w,i32_w]
     rfl
    refine pure_ (i:=6) (N:=some 17) (v:=?_) (a':=?_) #[Y,Y,Y,Y,Y,Y,Y,Z,Y,Y,Z,Z,Z] rfl rfl D2 hh (Or.inl ⟨D16,?_⟩) ?_ ?_
    rotate_left
    ·intro w'
     go_simp
     with_reducible rfl
    rotate_left
    ·simp only [Act.put,q1,q2,q3,i64_w,i32_w]
     rfl
    refine pure_ (i:=7) (N:=some 18) (v:=?_) (a':=?_) #[Y,Y,Y,Y,Y,Y,Y,Y,Y,Y,Z,Z,Z] rfl rfl D2 hh (Or.inl ⟨D16,?_⟩) ?_ ?_
    rotate_left
    ·intro w'
     go_simp
     with_reducible rfl
    rotate_left
    ·simp only [Act.put,q1,q2,q3,i64_w,i32_w]
     rfl
    refine norm_ ?_ (hcont (q5,q6,(A14,c14),(A5,n5,c5),(A6,n6,c6)) _ ⟨HB,b2,b5,b6,hne,lq5,lq6,lo,hi,hN,rq5,rq6,rp2,hlw,np25,np26⟩)
    first|(simp only [putAll,Act.put,q1,q2,q3];done)|rfl|(simp only [putAll,Act.put,q1,q2,q3];rfl)
   skip
   refine value_ (v:=.pointer (some ⟨W2_.heap.size,0,none⟩)) (w1:=W2_.alloc (.cells #[.slice none 0 0] 27 (0,0))) D16 rfl ?_ ?_
   ·first|(go_simp;done)|(go_simp;rfl)
   have hq_:=Below.refl W2_.heap.size W2_
   have hal_:=pa hq_ (.cells #[.slice none 0 0] 27 (0,0))
   have b6:=heap_alloc_new W2_ (.cells #[.slice none 0 0] 27 (0,0))
   have hsz_:(W2_.alloc (.cells #[.slice none 0 0] 27 (0,0))).heap.size=W2_.heap.size+1:=by simp
   replace b1:=qa b1 (.cells #[.slice none 0 0] 27 (0,0))
   replace b2:=qa b2 (.cells #[.slice none 0 0] 27 (0,0))
   replace HB:=pa HB (.cells #[.slice none 0 0] 27 (0,0))
   replace hI:=Kd.C_alloc hI (.cells #[.slice none 0 0] 27 (0,0))
   generalize W2_.alloc (.cells #[.slice none 0 0] 27 (0,0))=W3_ at *
   obtain ⟨q6,hq6⟩:∃ q6,q6=W2_.heap.size:=⟨_,rfl⟩
   rw [← hq6] at b6 ⊢
   have lq6:w.heap.size≤q6:=by omega
   have np26:p2 ≠ q6:=by omega
   have uq6:q6 < W3_.heap.size:=by omega
   replace hsw:w.heap.size≤W3_.heap.size:=by omega
   replace up2:p2 < W3_.heap.size:=by omega
   clear hq_ hal_ hsz_ hq6
   refine hK.out _ _ ((blk_cell b1 0).trans rfl) (fun hHeld=>?_)
   clear hK K
   refine norm_ (nA 6) ?_
   refine two_ (i:=3) (j:=8) (Ni:=some 15) (Nj:=some 5) #[Y,Y,Y,Y,Z,Z,Z,Z,Z,Y,Z,Z,Z] #[Y,Y,Y,Z,Z,Z,Z,Z,Y,Y,Z,Z,Z] rfl rfl rfl rfl D2 D5 D5 (fun K hK=>?_) (fun K hK=>?_)
   ·skip
    refine goes_ Try.func148 D2 rfl #[.agg #[.slice A0 n c0], .agg #[.slice A14 n c14]] D16 rfl rfl D32 ?_
    have hc:=spec_l2Reduce.calls A0 c0 l0 A14 c14 (idM n) n n W3_ (Kd.C_below HR0.out HB) D81 hI D82 HOK.out (idM_ok n) D80 D79 D71 hn2 hn2
    rw [← HN.out,idM_length,← HZ.out,← HD.out] at hc
    refine hc.mono ?_
    clear hc
    rintro e W4_ ⟨A5,n5,c5,v1,rfl,hN0,hb⟩
    refine ⟨_,rfl,?_⟩
    obtain ⟨A6,c6,e6⟩:=Kd.N_slice hN0
    generalize hn6:D.length=n6 at e6
    subst e6
    obtain ⟨lo,hlo⟩:∃ z,z=W3_.heap.size:=⟨_,rfl⟩
    obtain ⟨hi,hhi⟩:∃ z,z=W4_.heap.size:=⟨_,rfl⟩
    have hN:=Kd.N_lower (Kd.N_mono (Kd.N_bound hN0) (ok':=fun b=>lo≤b∧b < hi) (fun b hk=>⟨D113,D112⟩)) hsw
    clear hN0
    have hlw:w.heap.size≤lo:=by omega
    have rp2:p2 < lo:=by omega
    have uhi:hi≤W4_.heap.size:=by omega
    have rq6:q6 < lo∨hi≤q6:=Or.inl D13
    clear hlo hhi
    have hsz_:=hb.size
    replace b1:=qb b1 hb
    replace b2:=qb b2 hb
    replace b6:=qb b6 hb
    replace HB:=pu HB hb
    replace hsw:w.heap.size≤W4_.heap.size:=by omega
    replace up2:p2 < W4_.heap.size:=by omega
    replace uq6:q6 < W4_.heap.size:=by omega
    clear hb hsz_
    refine hK.out _ _ ((blk_cell b1 0).trans rfl) (fun hHeld=>?_)
    clear hK K
    refine norm_ (nA 15) ?_
    refine pure_ (i:=4) (N:=some 11) (v:=?_) (a':=?_) #[Y,Y,Y,Y,Y,Z,Z,Z,Z,Y,Z,Z,Z] rfl rfl D2 hh (Or.inl ⟨D16,?_⟩) ?_ ?_
    rotate_left
    ·intro w'
     go_simp
     with_reducible rfl
    rotate_left
    ·simp only [Act.put,q1,q2,q3,i64_w,i32_w]
     rfl
    refine pure_ (i:=5) (N:=some 16) (v:=?_) (a':=?_) #[Y,Y,Y,Y,Y,Y,Z,Z,Z,Y,Z,Z,Z] rfl rfl D2 hh (Or.inl ⟨D16,?_⟩) ?_ ?_
    rotate_left
    ·intro w'
     go_simp
     with_reducible rfl
    rotate_left
    ·simp only [Act.put,q1,q2,q3,i64_w,i32_w]
     rfl
    refine pure_ (i:=6) (N:=some 17) (v:=?_) (a':=?_) #[Y,Y,Y,Y,Y,Y,Y,Z,Z,Y,Z,Z,Z] rfl rfl D2 hh (Or.inl ⟨D16,?_⟩) ?_ ?_
    rotate_left
    ·intro w'
     go_simp
     with_reducible rfl
    rotate_left
    ·simp only [Act.put,q1,q2,q3,i64_w,i32_w]
     rfl
    refine pure_ (i:=7) (N:=some 18) (v:=?_) (a':=?_) #[Y,Y,Y,Y,Y,Y,Y,Y,Z,Y,Z,Z,Z] rfl rfl D2 hh (Or.inl ⟨D16,?_⟩) ?_ ?_
    rotate_left
    ·intro w'
     go_simp
     with_reducible rfl
    rotate_left
    ·simp only [Act.put,q1,q2,q3,i64_w,i32_w]
     rfl
    refine one_ (i:=8) (N:=some 5) #[Y,Y,Y,Y,Y,Y,Y,Y,Y,Y,Z,Z,Z] rfl rfl D2 D5 (fun K hK=>?_)
    refine value_ (v:=.pointer (some ⟨W4_.heap.size,0,none⟩)) (w1:=W4_.alloc (.cells #[.slice none 0 0] 27 (0,0))) D16 rfl ?_ ?_
    ·first|(go_simp;done)|(go_simp;rfl)
    have hq_:=Below.refl W4_.heap.size W4_
    have hal_:=pa hq_ (.cells #[.slice none 0 0] 27 (0,0))
    have b5:=heap_alloc_new W4_ (.cells #[.slice none 0 0] 27 (0,0))
    have hsz_:(W4_.alloc (.cells #[.slice none 0 0] 27 (0,0))).heap.size=W4_.heap.size+1:=by simp
    replace b1:=qa b1 (.cells #[.slice none 0 0] 27 (0,0))
    replace b2:=qa b2 (.cells #[.slice none 0 0] 27 (0,0))
    replace b6:=qa b6 (.cells #[.slice none 0 0] 27 (0,0))
    replace HB:=pa HB (.cells #[.slice none 0 0] 27 (0,0))
    replace hN:=Kd.N_alloc hN (.cells #[.slice none 0 0] 27 (0,0))
    generalize W4_.alloc (.cells #[.slice none 0 0] 27 (0,0))=W5_ at *
    obtain ⟨q5,hq5⟩:∃ q5,q5=W4_.heap.size:=⟨_,rfl⟩
    rw [← hq5] at b5 ⊢
    have lq5:w.heap.size≤q5:=by omega
    have np25:p2 ≠ q5:=by omega
    have uq5:q5 < W5_.heap.size:=by omega
    have hne:q5 ≠ q6:=by omega
    replace uq6:q6 < W5_.heap.size:=by omega
    have rq5:q5 < lo∨hi≤q5:=Or.inr D13
    replace uhi:hi≤W5_.heap.size:=by omega
    replace hsw:w.heap.size≤W5_.heap.size:=by omega
    replace up2:p2 < W5_.heap.size:=by omega
    clear hq_ hal_ hsz_ hq5
    refine hK.out _ _ ((blk_cell b1 0).trans rfl) (fun hHeld=>?_)
    clear hK K
    refine norm_ (nA 5) ?_
    refine norm_ ?_ (hcont (q5,q6,(A14,c14),(A5,n5,c5),(A6,n6,c6)) _ ⟨HB,b2,b5,b6,hne,lq5,lq6,lo,hi,hN,rq5,rq6,rp2,hlw,np25,np26⟩)
    first|(simp only [putAll,Act.put,q1,q2,q3];done)|rfl|(simp only [putAll,Act.put,q1,q2,q3];rfl)
   skip
   refine value_ (v:=.pointer (some ⟨W3_.heap.size,0,none⟩)) (w1:=W3_.alloc (.cells #[.slice none 0 0] 27 (0,0))) D16 rfl ?_ ?_
   ·first|(go_simp;done)|(go_simp;rfl)
   have hq_:=Below.refl W3_.heap.size W3_
   have hal_:=pa hq_ (.cells #[.slice none 0 0] 27 (0,0))
   have b5:=heap_alloc_new W3_ (.cells #[.slice none 0 0] 27 (0,0))
   have hsz_:(W3_.alloc (.cells #[.slice none 0 0] 27 (0,0))).heap.size=W3_.heap.size+1:=by simp
   replace b1:=qa b1 (.cells #[.slice none 0 0] 27 (0,0))
   replace b2:=qa b2 (.cells #[.slice none 0 0] 27 (0,0))
   replace b6:=qa b6 (.cells #[.slice none 0 0] 27 (0,0))
   replace HB:=pa HB (.cells #[.slice none 0 0] 27 (0,0))
   replace hI:=Kd.C_alloc hI (.cells #[.slice none 0 0] 27 (0,0))
   generalize W3_.alloc (.cells #[.slice none 0 0] 27 (0,0))=W4_ at *
   obtain ⟨q5,hq5⟩:∃ q5,q5=W3_.heap.size:=⟨_,rfl⟩
   rw [← hq5] at b5 ⊢
   have lq5:w.heap.size≤q5:=by omega
   have np25:p2 ≠ q5:=by omega
   have uq5:q5 < W4_.heap.size:=by omega
   have hne:q5 ≠ q6:=by omega
   replace uq6:q6 < W4_.heap.size:=by omega
   replace hsw:w.heap.size≤W4_.heap.size:=by omega
   replace up2:p2 < W4_.heap.size:=by omega
   clear hq_ hal_ hsz_ hq5
   refine hK.out _ _ ((blk_cell b1 0).trans rfl) (fun hHeld=>?_)
   clear hK K
   refine norm_ (nA 5) ?_
   refine one_ (i:=3) (N:=some 15) #[Y,Y,Y,Y,Z,Z,Z,Z,Y,Y,Z,Z,Z] rfl rfl D2 D5 (fun K hK=>?_)
   refine goes_ Try.func148 D2 rfl #[.agg #[.slice A0 n c0], .agg #[.slice A14 n c14]] D16 rfl rfl D32 ?_
   have hc:=spec_l2Reduce.calls A0 c0 l0 A14 c14 (idM n) n n W4_ (Kd.C_below HR0.out HB) D81 hI D82 HOK.out (idM_ok n) D80 D79 D71 hn2 hn2
   rw [← HN.out,idM_length,← HZ.out,← HD.out] at hc
   refine hc.mono ?_
   clear hc
   rintro e W5_ ⟨A5,n5,c5,v1,rfl,hN0,hb⟩
   refine ⟨_,rfl,?_⟩
   obtain ⟨A6,c6,e6⟩:=Kd.N_slice hN0
   generalize hn6:D.length=n6 at e6
   subst e6
   obtain ⟨lo,hlo⟩:∃ z,z=W4_.heap.size:=⟨_,rfl⟩
   obtain ⟨hi,hhi⟩:∃ z,z=W5_.heap.size:=⟨_,rfl⟩
   have hN:=Kd.N_lower (Kd.N_mono (Kd.N_bound hN0) (ok':=fun b=>lo≤b∧b < hi) (fun b hk=>⟨D113,D112⟩)) hsw
   clear hN0
   have hlw:w.heap.size≤lo:=by omega
   have rp2:p2 < lo:=by omega
   have uhi:hi≤W5_.heap.size:=by omega
   have rq5:q5 < lo∨hi≤q5:=Or.inl D13
   have rq6:q6 < lo∨hi≤q6:=Or.inl D13
   clear hlo hhi
   have hsz_:=hb.size
   replace b1:=qb b1 hb
   replace b2:=qb b2 hb
   replace b5:=qb b5 hb
   replace b6:=qb b6 hb
   replace HB:=pu HB hb
   replace hsw:w.heap.size≤W5_.heap.size:=by omega
   replace up2:p2 < W5_.heap.size:=by omega
   replace uq5:q5 < W5_.heap.size:=by omega
   replace uq6:q6 < W5_.heap.size:=by omega
   clear hb hsz_
   refine hK.out _ _ ((blk_cell b1 0).trans rfl) (fun hHeld=>?_)
   clear hK K
   refine norm_ (nA 15) ?_
   refine pure_ (i:=4) (N:=some 11) (v:=?_) (a':=?_) #[Y,Y,Y,Y,Y,Z,Z,Z,Y,Y,Z,Z,Z] rfl rfl D2 hh (Or.inl ⟨D16,?_⟩) ?_ ?_
   rotate_left
   ·intro w'
    go_simp
    with_reducible rfl
   rotate_left
   ·simp only [Act.put,q1,q2,q3,i64_w,i32_w]
    rfl
   refine pure_ (i:=5) (N:=some 16) (v:=?_) (a':=?_) #[Y,Y,Y,Y,Y,Y,Z,Z,Y,Y,Z,Z,Z] rfl rfl D2 hh (Or.inl ⟨D16,?_⟩) ?_ ?_
   rotate_left
   ·intro w'
    go_simp
    with_reducible rfl
   rotate_left
   ·simp only [Act.put,q1,q2,q3,i64_w,i32_w]
    rfl
   refine pure_ (i:=6) (N:=some 17) (v:=?_) (a':=?_) #[Y,Y,Y,Y,Y,Y,Y,Z,Y,Y,Z,Z,Z] rfl rfl D2 hh (Or.inl ⟨D16,?_⟩) ?_ ?_
   rotate_left
   ·intro w'
    go_simp
    with_reducible rfl
   rotate_left
   ·simp only [Act.put,q1,q2,q3,i64_w,i32_w]
    rfl
   refine pure_ (i:=7) (N:=some 18) (v:=?_) (a':=?_) #[Y,Y,Y,Y,Y,Y,Y,Y,Y,Y,Z,Z,Z] rfl rfl D2 hh (Or.inl ⟨D16,?_⟩) ?_ ?_
   rotate_left
   ·intro w'
    go_simp
    with_reducible rfl
   rotate_left
   ·simp only [Act.put,q1,q2,q3,i64_w,i32_w]
    rfl
   refine norm_ ?_ (hcont (q5,q6,(A14,c14),(A5,n5,c5),(A6,n6,c6)) _ ⟨HB,b2,b5,b6,hne,lq5,lq6,lo,hi,hN,rq5,rq6,rp2,hlw,np25,np26⟩)
   first|(simp only [putAll,Act.put,q1,q2,q3];done)|rfl|(simp only [putAll,Act.put,q1,q2,q3];rfl)
  ·skip
   refine value_ (v:=.pointer (some ⟨W1.heap.size,0,none⟩)) (w1:=W1.alloc (.cells #[.slice none 0 0] 27 (0,0))) D16 rfl ?_ ?_
   ·first|(go_simp;done)|(go_simp;rfl)
   have hq_:=Below.refl W1.heap.size W1
   have hal_:=pa hq_ (.cells #[.slice none 0 0] 27 (0,0))
   have b5:=heap_alloc_new W1 (.cells #[.slice none 0 0] 27 (0,0))
   have hsz_:(W1.alloc (.cells #[.slice none 0 0] 27 (0,0))).heap.size=W1.heap.size+1:=by simp
   replace b1:=qa b1 (.cells #[.slice none 0 0] 27 (0,0))
   replace b2:=qa b2 (.cells #[.slice none 0 0] 27 (0,0))
   replace HB:=pa HB (.cells #[.slice none 0 0] 27 (0,0))
   generalize W1.alloc (.cells #[.slice none 0 0] 27 (0,0))=W2_ at *
   obtain ⟨q5,hq5⟩:∃ q5,q5=W1.heap.size:=⟨_,rfl⟩
   rw [← hq5] at b5 ⊢
   have lq5:w.heap.size≤q5:=by omega
   have np25:p2 ≠ q5:=by omega
   have uq5:q5 < W2_.heap.size:=by omega
   replace hsw:w.heap.size≤W2_.heap.size:=by omega
   replace up2:p2 < W2_.heap.size:=by omega
   clear hq_ hal_ hsz_ hq5
   refine hK.out _ _ ((blk_cell b1 0).trans rfl) (fun hHeld=>?_)
   clear hK K
   refine norm_ (nA 5) ?_
   refine two_ (i:=2) (j:=9) (Ni:=some 14) (Nj:=some 6) #[Y,Y,Y,Z,Z,Z,Z,Z,Y,Z,Z,Z,Z] #[Y,Y,Z,Z,Z,Z,Z,Z,Y,Y,Z,Z,Z] rfl rfl rfl rfl D2 D5 D5 (fun K hK=>?_) (fun K hK=>?_)
   ·skip
    refine goes_ Try.func149 D2 rfl #[.int .i64 n] D16 rfl rfl D32 ?_
    refine (spec_l2Identity.calls kI (n:Int) (idM n) _ HI.out).mono ?_
    rintro e W3_ ⟨v14,rfl,ho,hb⟩
    refine ⟨_,rfl,?_⟩
    obtain ⟨A14,c14,e14⟩:=Kd.S_slice ho
    rw [idM_length] at e14
    subst e14
    have hI:=(Kd.S_reads' ho).2.2
    have hIc:=(Kd.S_reads' ho).2.1
    clear ho
    have hsz_:=hb.size
    replace b1:=qb b1 hb
    replace b2:=qb b2 hb
    replace b5:=qb b5 hb
    replace HB:=pu HB hb
    replace hsw:w.heap.size≤W3_.heap.size:=by omega
    replace up2:p2 < W3_.heap.size:=by omega
    replace uq5:q5 < W3_.heap.size:=by omega
    clear hb hsz_
    refine hK.out _ _ ((blk_cell b1 0).trans rfl) (fun hHeld=>?_)
    clear hK K
    refine norm_ (nA 14) ?_
    refine two_ (i:=3) (j:=9) (Ni:=some 15) (Nj:=some 6) #[Y,Y,Y,Y,Z,Z,Z,Z,Y,Z,Z,Z,Z] #[Y,Y,Y,Z,Z,Z,Z,Z,Y,Y,Z,Z,Z] rfl rfl rfl rfl D2 D5 D5 (fun K hK=>?_) (fun K hK=>?_)
    ·skip
     refine goes_ Try.func148 D2 rfl #[.agg #[.slice A0 n c0], .agg #[.slice A14 n c14]] D16 rfl rfl D32 ?_
     have hc:=spec_l2Reduce.calls A0 c0 l0 A14 c14 (idM n) n n W3_ (Kd.C_below HR0.out HB) D81 hI D82 HOK.out (idM_ok n) D80 D79 D71 hn2 hn2
     rw [← HN.out,idM_length,← HZ.out,← HD.out] at hc
     refine hc.mono ?_
     clear hc
     rintro e W4_ ⟨A5,n5,c5,v1,rfl,hN0,hb⟩
     refine ⟨_,rfl,?_⟩
     obtain ⟨A6,c6,e6⟩:=Kd.N_slice hN0
     generalize hn6:D.length=n6 at e6
     subst e6
     obtain ⟨lo,hlo⟩:∃ z,z=W3_.heap.size:=⟨_,rfl⟩
     obtain ⟨hi,hhi⟩:∃ z,z=W4_.heap.size:=⟨_,rfl⟩
     have hN:=Kd.N_lower (Kd.N_mono (Kd.N_bound hN0) (ok':=fun b=>lo≤b∧b < hi) (fun b hk=>⟨D113,D112⟩)) hsw
     clear hN0
     have hlw:w.heap.size≤lo:=by omega
     have rp2:p2 < lo:=by omega
     have uhi:hi≤W4_.heap.size:=by omega
     have rq5:q5 < lo∨hi≤q5:=Or.inl D13
     clear hlo hhi
     have hsz_:=hb.size
     replace b1:=qb b1 hb
     replace b2:=qb b2 hb
     replace b5:=qb b5 hb
     replace HB:=pu HB hb
     replace hsw:w.heap.size≤W4_.heap.size:=by omega
     replace up2:p2 < W4_.heap.size:=by omega
     replace uq5:q5 < W4_.heap.size:=by omega
     clear hb hsz_
     refine hK.out _ _ ((blk_cell b1 0).trans rfl) (fun hHeld=>?_)
     clear hK K
     refine norm_ (nA 15) ?_
     refine pure_ (i:=4) (N:=some 11) (v:=?_) (a':=?_) #[Y,Y,Y,Y,Y,Z,Z,Z,Y,Z,Z,Z,Z] rfl rfl D2 hh (Or.inl ⟨D16,?_⟩) ?_ ?_
     rotate_left
     ·intro w'
      go_simp
      with_reducible rfl
     rotate_left
     ·simp only [Act.put,q1,q2,q3,i64_w,i32_w]
      rfl
     refine pure_ (i:=5) (N:=some 16) (v:=?_) (a':=?_) #[Y,Y,Y,Y,Y,Y,Z,Z,Y,Z,Z,Z,Z] rfl rfl D2 hh (Or.inl ⟨D16,?_⟩) ?_ ?_
     rotate_left
     ·intro w'
      go_simp
      with_reducible rfl
     rotate_left
     ·simp only [Act.put,q1,q2,q3,i64_w,i32_w]
      rfl
     refine pure_ (i:=6) (N:=some 17) (v:=?_) (a':=?_) #[Y,Y,Y,Y,Y,Y,Y,Z,Y,Z,Z,Z,Z] rfl rfl D2 hh (Or.inl ⟨D16,?_⟩) ?_ ?_
     rotate_left
     ·intro w'
      go_simp
      with_reducible rfl
     rotate_left
     ·simp only [Act.put,q1,q2,q3,i64_w,i32_w]
      rfl
     refine pure_ (i:=7) (N:=some 18) (v:=?_) (a':=?_) #[Y,Y,Y,Y,Y,Y,Y,Y,Y,Z,Z,Z,Z] rfl rfl D2 hh (Or.inl ⟨D16,?_⟩) ?_ ?_
     rotate_left
     ·intro w'
      go_simp
      with_reducible rfl
     rotate_left
     ·simp only [Act.put,q1,q2,q3,i64_w,i32_w]
      rfl
     refine one_ (i:=9) (N:=some 6) #[Y,Y,Y,Y,Y,Y,Y,Y,Y,Y,Z,Z,Z] rfl rfl D2 D5 (fun K hK=>?_)
     refine value_ (v:=.pointer (some ⟨W4_.heap.size,0,none⟩)) (w1:=W4_.alloc (.cells #[.slice none 0 0] 27 (0,0))) D16 rfl ?_ ?_
     ·first|(go_simp;done)|(go_simp;rfl)
     have hq_:=Below.refl W4_.heap.size W4_
     have hal_:=pa hq_ (.cells #[.slice none 0 0] 27 (0,0))
     have b6:=heap_alloc_new W4_ (.cells #[.slice none 0 0] 27 (0,0))
     have hsz_:(W4_.alloc (.cells #[.slice none 0 0] 27 (0,0))).heap.size=W4_.heap.size+1:=by simp
     replace b1:=qa b1 (.cells #[.slice none 0 0] 27 (0,0))
     replace b2:=qa b2 (.cells #[.slice none 0 0] 27 (0,0))
     replace b5:=qa b5 (.cells #[.slice none 0 0] 27 (0,0))
     replace HB:=pa HB (.cells #[.slice none 0 0] 27 (0,0))
     replace hN:=Kd.N_alloc hN (.cells #[.slice none 0 0] 27 (0,0))
     generalize W4_.alloc (.cells #[.slice none 0 0] 27 (0,0))=W5_ at *
     obtain ⟨q6,hq6⟩:∃ q6,q6=W4_.heap.size:=⟨_,rfl⟩
     rw [← hq6] at b6 ⊢
     have lq6:w.heap.size≤q6:=by omega
     have np26:p2 ≠ q6:=by omega
     have uq6:q6 < W5_.heap.size:=by omega
     have hne:q5 ≠ q6:=by omega
     replace uq5:q5 < W5_.heap.size:=by omega
     have rq6:q6 < lo∨hi≤q6:=Or.inr D13
     replace uhi:hi≤W5_.heap.size:=by omega
     replace hsw:w.heap.size≤W5_.heap.size:=by omega
     replace up2:p2 < W5_.heap.size:=by omega
     clear hq_ hal_ hsz_ hq6
     refine hK.out _ _ ((blk_cell b1 0).trans rfl) (fun hHeld=>?_)
     clear hK K
     refine norm_ (nA 6) ?_
     refine norm_ ?_ (hcont (q5,q6,(A14,c14),(A5,n5,c5),(A6,n6,c6)) _ ⟨HB,b2,b5,b6,hne,lq5,lq6,lo,hi,hN,rq5,rq6,rp2,hlw,np25,np26⟩)
     first|(simp only [putAll,Act.put,q1,q2,q3];done)|rfl|(simp only [putAll,Act.put,q1,q2,q3];rfl)
    skip
    refine value_ (v:=.pointer (some ⟨W3_.heap.size,0,none⟩)) (w1:=W3_.alloc (.cells #[.slice none 0 0] 27 (0,0))) D16 rfl ?_ ?_
    ·first|(go_simp;done)|(go_simp;rfl)
    have hq_:=Below.refl W3_.heap.size W3_
    have hal_:=pa hq_ (.cells #[.slice none 0 0] 27 (0,0))
    have b6:=heap_alloc_new W3_ (.cells #[.slice none 0 0] 27 (0,0))
    have hsz_:(W3_.alloc (.cells #[.slice none 0 0] 27 (0,0))).heap.size=W3_.heap.size+1:=by simp
    replace b1:=qa b1 (.cells #[.slice none 0 0] 27 (0,0))
    replace b2:=qa b2 (.cells #[.slice none 0 0] 27 (0,0))
    replace b5:=qa b5 (.cells #[.slice none 0 0] 27 (0,0))
    replace HB:=pa HB (.cells #[.slice none 0 0] 27 (0,0))
    replace hI:=Kd.C_alloc hI (.cells #[.slice none 0 0] 27 (0,0))
    generalize W3_.alloc (.cells #[.slice none 0 0] 27 (0,0))=W4_ at *
    obtain ⟨q6,hq6⟩:∃ q6,q6=W3_.heap.size:=⟨_,rfl⟩
    rw [← hq6] at b6 ⊢
    have lq6:w.heap.size≤q6:=by omega
    have np26:p2 ≠ q6:=by omega
    have uq6:q6 < W4_.heap.size:=by omega
    have hne:q5 ≠ q6:=by omega
    replace uq5:q5 < W4_.heap.size:=by omega
    replace hsw:w.heap.size≤W4_.heap.size:=by omega
    replace up2:p2 < W4_.heap.size:=by omega
    clear hq_ hal_ hsz_ hq6
    refine hK.out _ _ ((blk_cell b1 0).trans rfl) (fun hHeld=>?_)
    clear hK K
    refine norm_ (nA 6) ?_
    refine one_ (i:=3) (N:=some 15) #[Y,Y,Y,Y,Z,Z,Z,Z,Y,Y,Z,Z,Z] rfl rfl D2 D5 (fun K hK=>?_)
    refine goes_ Try.func148 D2 rfl #[.agg #[.slice A0 n c0], .agg #[.slice A14 n c14]] D16 rfl rfl D32 ?_
    have hc:=spec_l2Reduce.calls A0 c0 l0 A14 c14 (idM n) n n W4_ (Kd.C_below HR0.out HB) D81 hI D82 HOK.out (idM_ok n) D80 D79 D71 hn2 hn2
    rw [← HN.out,idM_length,← HZ.out,← HD.out] at hc
    refine hc.mono ?_
    clear hc
    rintro e W5_ ⟨A5,n5,c5,v1,rfl,hN0,hb⟩
    refine ⟨_,rfl,?_⟩
    obtain ⟨A6,c6,e6⟩:=Kd.N_slice hN0
    generalize hn6:D.length=n6 at e6
    subst e6
    obtain ⟨lo,hlo⟩:∃ z,z=W4_.heap.size:=⟨_,rfl⟩
    obtain ⟨hi,hhi⟩:∃ z,z=W5_.heap.size:=⟨_,rfl⟩
    have hN:=Kd.N_lower (Kd.N_mono (Kd.N_bound hN0) (ok':=fun b=>lo≤b∧b < hi) (fun b hk=>⟨D113,D112⟩)) hsw
    clear hN0
    have hlw:w.heap.size≤lo:=by omega
    have rp2:p2 < lo:=by omega
    have uhi:hi≤W5_.heap.size:=by omega
    have rq5:q5 < lo∨hi≤q5:=Or.inl D13
    have rq6:q6 < lo∨hi≤q6:=Or.inl D13
    clear hlo hhi
    have hsz_:=hb.size
    replace b1:=qb b1 hb
    replace b2:=qb b2 hb
    replace b5:=qb b5 hb
    replace b6:=qb b6 hb
    replace HB:=pu HB hb
    replace hsw:w.heap.size≤W5_.heap.size:=by omega
    replace up2:p2 < W5_.heap.size:=by omega
    replace uq5:q5 < W5_.heap.size:=by omega
    replace uq6:q6 < W5_.heap.size:=by omega
    clear hb hsz_
    refine hK.out _ _ ((blk_cell b1 0).trans rfl) (fun hHeld=>?_)
    clear hK K
    refine norm_ (nA 15) ?_
    refine pure_ (i:=4) (N:=some 11) (v:=?_) (a':=?_) #[Y,Y,Y,Y,Y,Z,Z,Z,Y,Y,Z,Z,Z] rfl rfl D2 hh (Or.inl ⟨D16,?_⟩) ?_ ?_
    rotate_left
    ·intro w'
     go_simp
     with_reducible rfl
    rotate_left
    ·simp only [Act.put,q1,q2,q3,i64_w,i32_w]
     rfl
    refine pure_ (i:=5) (N:=some 16) (v:=?_) (a':=?_) #[Y,Y,Y,Y,Y,Y,Z,Z,Y,Y,Z,Z,Z] rfl rfl D2 hh (Or.inl ⟨D16,?_⟩) ?_ ?_
    rotate_left
    ·intro w'
     go_simp
     with_reducible rfl
    rotate_left
    ·simp only [Act.put,q1,q2,q3,i64_w,i32_w]
     rfl
    refine pure_ (i:=6) (N:=some 17) (v:=?_) (a':=?_) #[Y,Y,Y,Y,Y,Y,Y,Z,Y,Y,Z,Z,Z] rfl rfl D2 hh (Or.inl ⟨D16,?_⟩) ?_ ?_
    rotate_left
    ·intro w'
     go_simp
     with_reducible rfl
    rotate_left
    ·simp only [Act.put,q1,q2,q3,i64_w,i32_w]
     rfl
    refine pure_ (i:=7) (N:=some 18) (v:=?_) (a':=?_) #[Y,Y,Y,Y,Y,Y,Y,Y,Y,Y,Z,Z,Z] rfl rfl D2 hh (Or.inl ⟨D16,?_⟩) ?_ ?_
    rotate_left
    ·intro w'
     go_simp
     with_reducible rfl
    rotate_left
    ·simp only [Act.put,q1,q2,q3,i64_w,i32_w]
     rfl
    refine norm_ ?_ (hcont (q5,q6,(A14,c14),(A5,n5,c5),(A6,n6,c6)) _ ⟨HB,b2,b5,b6,hne,lq5,lq6,lo,hi,hN,rq5,rq6,rp2,hlw,np25,np26⟩)
    first|(simp only [putAll,Act.put,q1,q2,q3];done)|rfl|(simp only [putAll,Act.put,q1,q2,q3];rfl)
   skip
   refine value_ (v:=.pointer (some ⟨W2_.heap.size,0,none⟩)) (w1:=W2_.alloc (.cells #[.slice none 0 0] 27 (0,0))) D16 rfl ?_ ?_
   ·first|(go_simp;done)|(go_simp;rfl)
   have hq_:=Below.refl W2_.heap.size W2_
   have hal_:=pa hq_ (.cells #[.slice none 0 0] 27 (0,0))
   have b6:=heap_alloc_new W2_ (.cells #[.slice none 0 0] 27 (0,0))
   have hsz_:(W2_.alloc (.cells #[.slice none 0 0] 27 (0,0))).heap.size=W2_.heap.size+1:=by simp
   replace b1:=qa b1 (.cells #[.slice none 0 0] 27 (0,0))
   replace b2:=qa b2 (.cells #[.slice none 0 0] 27 (0,0))
   replace b5:=qa b5 (.cells #[.slice none 0 0] 27 (0,0))
   replace HB:=pa HB (.cells #[.slice none 0 0] 27 (0,0))
   generalize W2_.alloc (.cells #[.slice none 0 0] 27 (0,0))=W3_ at *
   obtain ⟨q6,hq6⟩:∃ q6,q6=W2_.heap.size:=⟨_,rfl⟩
   rw [← hq6] at b6 ⊢
   have lq6:w.heap.size≤q6:=by omega
   have np26:p2 ≠ q6:=by omega
   have uq6:q6 < W3_.heap.size:=by omega
   have hne:q5 ≠ q6:=by omega
   replace uq5:q5 < W3_.heap.size:=by omega
   replace hsw:w.heap.size≤W3_.heap.size:=by omega
   replace up2:p2 < W3_.heap.size:=by omega
   clear hq_ hal_ hsz_ hq6
   refine hK.out _ _ ((blk_cell b1 0).trans rfl) (fun hHeld=>?_)
   clear hK K
   refine norm_ (nA 6) ?_
   refine one_ (i:=2) (N:=some 14) #[Y,Y,Y,Z,Z,Z,Z,Z,Y,Y,Z,Z,Z] rfl rfl D2 D5 (fun K hK=>?_)
   refine goes_ Try.func149 D2 rfl #[.int .i64 n] D16 rfl rfl D32 ?_
   refine (spec_l2Identity.calls kI (n:Int) (idM n) _ HI.out).mono ?_
   rintro e W4_ ⟨v14,rfl,ho,hb⟩
   refine ⟨_,rfl,?_⟩
   obtain ⟨A14,c14,e14⟩:=Kd.S_slice ho
   rw [idM_length] at e14
   subst e14
   have hI:=(Kd.S_reads' ho).2.2
   have hIc:=(Kd.S_reads' ho).2.1
   clear ho
   have hsz_:=hb.size
   replace b1:=qb b1 hb
   replace b2:=qb b2 hb
   replace b5:=qb b5 hb
   replace b6:=qb b6 hb
   replace HB:=pu HB hb
   replace hsw:w.heap.size≤W4_.heap.size:=by omega
   replace up2:p2 < W4_.heap.size:=by omega
   replace uq5:q5 < W4_.heap.size:=by omega
   replace uq6:q6 < W4_.heap.size:=by omega
   clear hb hsz_
   refine hK.out _ _ ((blk_cell b1 0).trans rfl) (fun hHeld=>?_)
   clear hK K
   refine norm_ (nA 14) ?_
   refine one_ (i:=3) (N:=some 15) #[Y,Y,Y,Y,Z,Z,Z,Z,Y,Y,Z,Z,Z] rfl rfl D2 D5 (fun K hK=>?_)
   refine goes_ Try.func148 D2 rfl #[.agg #[.slice A0 n c0], .agg #[.slice A14 n c14]] D16 rfl rfl D32 ?_
   have hc:=spec_l2Reduce.calls A0 c0 l0 A14 c14 (idM n) n n W4_ (Kd.C_below HR0.out HB) D81 hI D82 HOK.out (idM_ok n) D80 D79 D71 hn2 hn2
   rw [← HN.out,idM_length,← HZ.out,← HD.out] at hc
   refine hc.mono ?_
   clear hc
   rintro e W5_ ⟨A5,n5,c5,v1,rfl,hN0,hb⟩
   refine ⟨_,rfl,?_⟩
   obtain ⟨A6,c6,e6⟩:=Kd.N_slice hN0
   generalize hn6:D.length=n6 at e6
   subst e6
   obtain ⟨lo,hlo⟩:∃ z,z=W4_.heap.size:=⟨_,rfl⟩
   obtain ⟨hi,hhi⟩:∃ z,z=W5_.heap.size:=⟨_,rfl⟩
   have hN:=Kd.N_lower (Kd.N_mono (Kd.N_bound hN0) (ok':=fun b=>lo≤b∧b < hi) (fun b hk=>⟨D113,D112⟩)) hsw
   clear hN0
   have hlw:w.heap.size≤lo:=by omega
   have rp2:p2 < lo:=by omega
   have uhi:hi≤W5_.heap.size:=by omega
   have rq5:q5 < lo∨hi≤q5:=Or.inl D13
   have rq6:q6 < lo∨hi≤q6:=Or.inl D13
   clear hlo hhi
   have hsz_:=hb.size
   replace b1:=qb b1 hb
   replace b2:=qb b2 hb
   replace b5:=qb b5 hb
   replace b6:=qb b6 hb
   replace HB:=pu HB hb
   replace hsw:w.heap.size≤W5_.heap.size:=by omega
   replace up2:p2 < W5_.heap.size:=by omega
   replace uq5:q5 < W5_.heap.size:=by omega
   replace uq6:q6 < W5_.heap.size:=by omega
   clear hb hsz_
   refine hK.out _ _ ((blk_cell b1 0).trans rfl) (fun hHeld=>?_)
   clear hK K
   refine norm_ (nA 15) ?_
   refine pure_ (i:=4) (N:=some 11) (v:=?_) (a':=?_) #[Y,Y,Y,Y,Y,Z,Z,Z,Y,Y,Z,Z,Z] rfl rfl D2 hh (Or.inl ⟨D16,?_⟩) ?_ ?_
   rotate_left
   ·intro w'
    go_simp
    with_reducible rfl
   rotate_left
   ·simp only [Act.put,q1,q2,q3,i64_w,i32_w]
    rfl
   refine pure_ (i:=5) (N:=some 16) (v:=?_) (a':=?_) #[Y,Y,Y,Y,Y,Y,Z,Z,Y,Y,Z,Z,Z] rfl rfl D2 hh (Or.inl ⟨D16,?_⟩) ?_ ?_
   rotate_left
   ·intro w'
    go_simp
    with_reducible rfl
   rotate_left
   ·simp only [Act.put,q1,q2,q3,i64_w,i32_w]
    rfl
   refine pure_ (i:=6) (N:=some 17) (v:=?_) (a':=?_) #[Y,Y,Y,Y,Y,Y,Y,Z,Y,Y,Z,Z,Z] rfl rfl D2 hh (Or.inl ⟨D16,?_⟩) ?_ ?_
   rotate_left
   ·intro w'
    go_simp
    with_reducible rfl
   rotate_left
   ·simp only [Act.put,q1,q2,q3,i64_w,i32_w]
    rfl
   refine pure_ (i:=7) (N:=some 18) (v:=?_) (a':=?_) #[Y,Y,Y,Y,Y,Y,Y,Y,Y,Y,Z,Z,Z] rfl rfl D2 hh (Or.inl ⟨D16,?_⟩) ?_ ?_
   rotate_left
   ·intro w'
    go_simp
    with_reducible rfl
   rotate_left
   ·simp only [Act.put,q1,q2,q3,i64_w,i32_w]
    rfl
   refine norm_ ?_ (hcont (q5,q6,(A14,c14),(A5,n5,c5),(A6,n6,c6)) _ ⟨HB,b2,b5,b6,hne,lq5,lq6,lo,hi,hN,rq5,rq6,rp2,hlw,np25,np26⟩)
   first|(simp only [putAll,Act.put,q1,q2,q3];done)|rfl|(simp only [putAll,Act.put,q1,q2,q3];rfl)
  skip
  refine value_ (v:=.pointer (some ⟨W1.heap.size,0,none⟩)) (w1:=W1.alloc (.cells #[.slice none 0 0] 27 (0,0))) D16 rfl ?_ ?_
  ·first|(go_simp;done)|(go_simp;rfl)
  have hq_:=Below.refl W1.heap.size W1
  have hal_:=pa hq_ (.cells #[.slice none 0 0] 27 (0,0))
  have b6:=heap_alloc_new W1 (.cells #[.slice none 0 0] 27 (0,0))
  have hsz_:(W1.alloc (.cells #[.slice none 0 0] 27 (0,0))).heap.size=W1.heap.size+1:=by simp
  replace b1:=qa b1 (.cells #[.slice none 0 0] 27 (0,0))
  replace b2:=qa b2 (.cells #[.slice none 0 0] 27 (0,0))
  replace HB:=pa HB (.cells #[.slice none 0 0] 27 (0,0))
  generalize W1.alloc (.cells #[.slice none 0 0] 27 (0,0))=W2_ at *
  obtain ⟨q6,hq6⟩:∃ q6,q6=W1.heap.size:=⟨_,rfl⟩
  rw [← hq6] at b6 ⊢
  have lq6:w.heap.size≤q6:=by omega
  have np26:p2 ≠ q6:=by omega
  have uq6:q6 < W2_.heap.size:=by omega
  replace hsw:w.heap.size≤W2_.heap.size:=by omega
  replace up2:p2 < W2_.heap.size:=by omega
  clear hq_ hal_ hsz_ hq6
  refine hK.out _ _ ((blk_cell b1 0).trans rfl) (fun hHeld=>?_)
  clear hK K
  refine norm_ (nA 6) ?_
  refine two_ (i:=2) (j:=8) (Ni:=some 14) (Nj:=some 5) #[Y,Y,Y,Z,Z,Z,Z,Z,Z,Y,Z,Z,Z] #[Y,Y,Z,Z,Z,Z,Z,Z,Y,Y,Z,Z,Z] rfl rfl rfl rfl D2 D5 D5 (fun K hK=>?_) (fun K hK=>?_)
  ·skip
   refine goes_ Try.func149 D2 rfl #[.int .i64 n] D16 rfl rfl D32 ?_
   refine (spec_l2Identity.calls kI (n:Int) (idM n) _ HI.out).mono ?_
   rintro e W3_ ⟨v14,rfl,ho,hb⟩
   refine ⟨_,rfl,?_⟩
   obtain ⟨A14,c14,e14⟩:=Kd.S_slice ho
   rw [idM_length] at e14
   subst e14
   have hI:=(Kd.S_reads' ho).2.2
   have hIc:=(Kd.S_reads' ho).2.1
   clear ho
   have hsz_:=hb.size
   replace b1:=qb b1 hb
   replace b2:=qb b2 hb
   replace b6:=qb b6 hb
   replace HB:=pu HB hb
   replace hsw:w.heap.size≤W3_.heap.size:=by omega
   replace up2:p2 < W3_.heap.size:=by omega
   replace uq6:q6 < W3_.heap.size:=by omega
   clear hb hsz_
   refine hK.out _ _ ((blk_cell b1 0).trans rfl) (fun hHeld=>?_)
   clear hK K
   refine norm_ (nA 14) ?_
   refine two_ (i:=3) (j:=8) (Ni:=some 15) (Nj:=some 5) #[Y,Y,Y,Y,Z,Z,Z,Z,Z,Y,Z,Z,Z] #[Y,Y,Y,Z,Z,Z,Z,Z,Y,Y,Z,Z,Z] rfl rfl rfl rfl D2 D5 D5 (fun K hK=>?_) (fun K hK=>?_)
   ·skip
    refine goes_ Try.func148 D2 rfl #[.agg #[.slice A0 n c0], .agg #[.slice A14 n c14]] D16 rfl rfl D32 ?_
    have hc:=spec_l2Reduce.calls A0 c0 l0 A14 c14 (idM n) n n W3_ (Kd.C_below HR0.out HB) D81 hI D82 HOK.out (idM_ok n) D80 D79 D71 hn2 hn2
    rw [← HN.out,idM_length,← HZ.out,← HD.out] at hc
    refine hc.mono ?_
    clear hc
    rintro e W4_ ⟨A5,n5,c5,v1,rfl,hN0,hb⟩
    refine ⟨_,rfl,?_⟩
    obtain ⟨A6,c6,e6⟩:=Kd.N_slice hN0
    generalize hn6:D.length=n6 at e6
    subst e6
    obtain ⟨lo,hlo⟩:∃ z,z=W3_.heap.size:=⟨_,rfl⟩
    obtain ⟨hi,hhi⟩:∃ z,z=W4_.heap.size:=⟨_,rfl⟩
    have hN:=Kd.N_lower (Kd.N_mono (Kd.N_bound hN0) (ok':=fun b=>lo≤b∧b < hi) (fun b hk=>⟨D113,D112⟩)) hsw
    clear hN0
    have hlw:w.heap.size≤lo:=by omega
    have rp2:p2 < lo:=by omega
    have uhi:hi≤W4_.heap.size:=by omega
    have rq6:q6 < lo∨hi≤q6:=Or.inl D13
    clear hlo hhi
    have hsz_:=hb.size
    replace b1:=qb b1 hb
    replace b2:=qb b2 hb
    replace b6:=qb b6 hb
    replace HB:=pu HB hb
    replace hsw:w.heap.size≤W4_.heap.size:=by omega
    replace up2:p2 < W4_.heap.size:=by omega
    replace uq6:q6 < W4_.heap.size:=by omega
    clear hb hsz_
    refine hK.out _ _ ((blk_cell b1 0).trans rfl) (fun hHeld=>?_)
    clear hK K
    refine norm_ (nA 15) ?_
    refine pure_ (i:=4) (N:=some 11) (v:=?_) (a':=?_) #[Y,Y,Y,Y,Y,Z,Z,Z,Z,Y,Z,Z,Z] rfl rfl D2 hh (Or.inl ⟨D16,?_⟩) ?_ ?_
    rotate_left
    ·intro w'
     go_simp
     with_reducible rfl
    rotate_left
    ·simp only [Act.put,q1,q2,q3,i64_w,i32_w]
     rfl
    refine pure_ (i:=5) (N:=some 16) (v:=?_) (a':=?_) #[Y,Y,Y,Y,Y,Y,Z,Z,Z,Y,Z,Z,Z] rfl rfl D2 hh (Or.inl ⟨D16,?_⟩) ?_ ?_
    rotate_left
    ·intro w'
     go_simp
     with_reducible rfl
    rotate_left
    ·simp only [Act.put,q1,q2,q3,i64_w,i32_w]
     rfl
    refine pure_ (i:=6) (N:=some 17) (v:=?_) (a':=?_) #[Y,Y,Y,Y,Y,Y,Y,Z,Z,Y,Z,Z,Z] rfl rfl D2 hh (Or.inl ⟨D16,?_⟩) ?_ ?_
    rotate_left
    ·intro w'
     go_simp
     with_reducible rfl
    rotate_left
    ·simp only [Act.put,q1,q2,q3,i64_w,i32_w]
     rfl
    refine pure_ (i:=7) (N:=some 18) (v:=?_) (a':=?_) #[Y,Y,Y,Y,Y,Y,Y,Y,Z,Y,Z,Z,Z] rfl rfl D2 hh (Or.inl ⟨D16,?_⟩) ?_ ?_
    rotate_left
    ·intro w'
     go_simp
     with_reducible rfl
    rotate_left
    ·simp only [Act.put,q1,q2,q3,i64_w,i32_w]
     rfl
    refine one_ (i:=8) (N:=some 5) #[Y,Y,Y,Y,Y,Y,Y,Y,Y,Y,Z,Z,Z] rfl rfl D2 D5 (fun K hK=>?_)
    refine value_ (v:=.pointer (some ⟨W4_.heap.size,0,none⟩)) (w1:=W4_.alloc (.cells #[.slice none 0 0] 27 (0,0))) D16 rfl ?_ ?_
    ·first|(go_simp;done)|(go_simp;rfl)
    have hq_:=Below.refl W4_.heap.size W4_
    have hal_:=pa hq_ (.cells #[.slice none 0 0] 27 (0,0))
    have b5:=heap_alloc_new W4_ (.cells #[.slice none 0 0] 27 (0,0))
    have hsz_:(W4_.alloc (.cells #[.slice none 0 0] 27 (0,0))).heap.size=W4_.heap.size+1:=by simp
    replace b1:=qa b1 (.cells #[.slice none 0 0] 27 (0,0))
    replace b2:=qa b2 (.cells #[.slice none 0 0] 27 (0,0))
    replace b6:=qa b6 (.cells #[.slice none 0 0] 27 (0,0))
    replace HB:=pa HB (.cells #[.slice none 0 0] 27 (0,0))
    replace hN:=Kd.N_alloc hN (.cells #[.slice none 0 0] 27 (0,0))
    generalize W4_.alloc (.cells #[.slice none 0 0] 27 (0,0))=W5_ at *
    obtain ⟨q5,hq5⟩:∃ q5,q5=W4_.heap.size:=⟨_,rfl⟩
    rw [← hq5] at b5 ⊢
    have lq5:w.heap.size≤q5:=by omega
    have np25:p2 ≠ q5:=by omega
    have uq5:q5 < W5_.heap.size:=by omega
    have hne:q5 ≠ q6:=by omega
    replace uq6:q6 < W5_.heap.size:=by omega
    have rq5:q5 < lo∨hi≤q5:=Or.inr D13
    replace uhi:hi≤W5_.heap.size:=by omega
    replace hsw:w.heap.size≤W5_.heap.size:=by omega
    replace up2:p2 < W5_.heap.size:=by omega
    clear hq_ hal_ hsz_ hq5
    refine hK.out _ _ ((blk_cell b1 0).trans rfl) (fun hHeld=>?_)
    clear hK K
    refine norm_ (nA 5) ?_
    refine norm_ ?_ (hcont (q5,q6,(A14,c14),(A5,n5,c5),(A6,n6,c6)) _ ⟨HB,b2,b5,b6,hne,lq5,lq6,lo,hi,hN,rq5,rq6,rp2,hlw,np25,np26⟩)
    first|(simp only [putAll,Act.put,q1,q2,q3];done)|rfl|(simp only [putAll,Act.put,q1,q2,q3];rfl)
   skip
   refine value_ (v:=.pointer (some ⟨W3_.heap.size,0,none⟩)) (w1:=W3_.alloc (.cells #[.slice none 0 0] 27 (0,0))) D16 rfl ?_ ?_
   ·first|(go_simp;done)|(go_simp;rfl)
   have hq_:=Below.refl W3_.heap.size W3_
   have hal_:=pa hq_ (.cells #[.slice none 0 0] 27 (0,0))
   have b5:=heap_alloc_new W3_ (.cells #[.slice none 0 0] 27 (0,0))
   have hsz_:(W3_.alloc (.cells #[.slice none 0 0] 27 (0,0))).heap.size=W3_.heap.size+1:=by simp
   replace b1:=qa b1 (.cells #[.slice none 0 0] 27 (0,0))
   replace b2:=qa b2 (.cells #[.slice none 0 0] 27 (0,0))
   replace b6:=qa b6 (.cells #[.slice none 0 0] 27 (0,0))
   replace HB:=pa HB (.cells #[.slice none 0 0] 27 (0,0))
   replace hI:=Kd.C_alloc hI (.cells #[.slice none 0 0] 27 (0,0))
   generalize W3_.alloc (.cells #[.slice none 0 0] 27 (0,0))=W4_ at *
   obtain ⟨q5,hq5⟩:∃ q5,q5=W3_.heap.size:=⟨_,rfl⟩
   rw [← hq5] at b5 ⊢
   have lq5:w.heap.size≤q5:=by omega
   have np25:p2 ≠ q5:=by omega
   have uq5:q5 < W4_.heap.size:=by omega
   have hne:q5 ≠ q6:=by omega
   replace uq6:q6 < W4_.heap.size:=by omega
   replace hsw:w.heap.size≤W4_.heap.size:=by omega
   replace up2:p2 < W4_.heap.size:=by omega
   clear hq_ hal_ hsz_ hq5
   refine hK.out _ _ ((blk_cell b1 0).trans rfl) (fun hHeld=>?_)
   clear hK K
   refine norm_ (nA 5) ?_
   refine one_ (i:=3) (N:=some 15) #[Y,Y,Y,Y,Z,Z,Z,Z,Y,Y,Z,Z,Z] rfl rfl D2 D5 (fun K hK=>?_)
   refine goes_ Try.func148 D2 rfl #[.agg #[.slice A0 n c0], .agg #[.slice A14 n c14]] D16 rfl rfl D32 ?_
   have hc:=spec_l2Reduce.calls A0 c0 l0 A14 c14 (idM n) n n W4_ (Kd.C_below HR0.out HB) D81 hI D82 HOK.out (idM_ok n) D80 D79 D71 hn2 hn2
   rw [← HN.out,idM_length,← HZ.out,← HD.out] at hc
   refine hc.mono ?_
   clear hc
   rintro e W5_ ⟨A5,n5,c5,v1,rfl,hN0,hb⟩
   refine ⟨_,rfl,?_⟩
   obtain ⟨A6,c6,e6⟩:=Kd.N_slice hN0
   generalize hn6:D.length=n6 at e6
   subst e6
   obtain ⟨lo,hlo⟩:∃ z,z=W4_.heap.size:=⟨_,rfl⟩
   obtain ⟨hi,hhi⟩:∃ z,z=W5_.heap.size:=⟨_,rfl⟩
   have hN:=Kd.N_lower (Kd.N_mono (Kd.N_bound hN0) (ok':=fun b=>lo≤b∧b < hi) (fun b hk=>⟨D113,D112⟩)) hsw
   clear hN0
   have hlw:w.heap.size≤lo:=by omega
   have rp2:p2 < lo:=by omega
   have uhi:hi≤W5_.heap.size:=by omega
   have rq5:q5 < lo∨hi≤q5:=Or.inl D13
   have rq6:q6 < lo∨hi≤q6:=Or.inl D13
   clear hlo hhi
   have hsz_:=hb.size
   replace b1:=qb b1 hb
   replace b2:=qb b2 hb
   replace b5:=qb b5 hb
   replace b6:=qb b6 hb
   replace HB:=pu HB hb
   replace hsw:w.heap.size≤W5_.heap.size:=by omega
   replace up2:p2 < W5_.heap.size:=by omega
   replace uq5:q5 < W5_.heap.size:=by omega
   replace uq6:q6 < W5_.heap.size:=by omega
   clear hb hsz_
   refine hK.out _ _ ((blk_cell b1 0).trans rfl) (fun hHeld=>?_)
   clear hK K
   refine norm_ (nA 15) ?_
   refine pure_ (i:=4) (N:=some 11) (v:=?_) (a':=?_) #[Y,Y,Y,Y,Y,Z,Z,Z,Y,Y,Z,Z,Z] rfl rfl D2 hh (Or.inl ⟨D16,?_⟩) ?_ ?_
   rotate_left
   ·intro w'
    go_simp
    with_reducible rfl
   rotate_left
   ·simp only [Act.put,q1,q2,q3,i64_w,i32_w]
    rfl
   refine pure_ (i:=5) (N:=some 16) (v:=?_) (a':=?_) #[Y,Y,Y,Y,Y,Y,Z,Z,Y,Y,Z,Z,Z] rfl rfl D2 hh (Or.inl ⟨D16,?_⟩) ?_ ?_
   rotate_left
   ·intro w'
    go_simp
    with_reducible rfl
   rotate_left
   ·simp only [Act.put,q1,q2,q3,i64_w,i32_w]
    rfl
   refine pure_ (i:=6) (N:=some 17) (v:=?_) (a':=?_) #[Y,Y,Y,Y,Y,Y,Y,Z,Y,Y,Z,Z,Z] rfl rfl D2 hh (Or.inl ⟨D16,?_⟩) ?_ ?_
   rotate_left
   ·intro w'
    go_simp
    with_reducible rfl
   rotate_left
   ·simp only [Act.put,q1,q2,q3,i64_w,i32_w]
    rfl
   refine pure_ (i:=7) (N:=some 18) (v:=?_) (a':=?_) #[Y,Y,Y,Y,Y,Y,Y,Y,Y,Y,Z,Z,Z] rfl rfl D2 hh (Or.inl ⟨D16,?_⟩) ?_ ?_
   rotate_left
   ·intro w'
    go_simp
    with_reducible rfl
   rotate_left
   ·simp only [Act.put,q1,q2,q3,i64_w,i32_w]
    rfl
   refine norm_ ?_ (hcont (q5,q6,(A14,c14),(A5,n5,c5),(A6,n6,c6)) _ ⟨HB,b2,b5,b6,hne,lq5,lq6,lo,hi,hN,rq5,rq6,rp2,hlw,np25,np26⟩)
   first|(simp only [putAll,Act.put,q1,q2,q3];done)|rfl|(simp only [putAll,Act.put,q1,q2,q3];rfl)
  skip
  refine value_ (v:=.pointer (some ⟨W2_.heap.size,0,none⟩)) (w1:=W2_.alloc (.cells #[.slice none 0 0] 27 (0,0))) D16 rfl ?_ ?_
  ·first|(go_simp;done)|(go_simp;rfl)
  have hq_:=Below.refl W2_.heap.size W2_
  have hal_:=pa hq_ (.cells #[.slice none 0 0] 27 (0,0))
  have b5:=heap_alloc_new W2_ (.cells #[.slice none 0 0] 27 (0,0))
  have hsz_:(W2_.alloc (.cells #[.slice none 0 0] 27 (0,0))).heap.size=W2_.heap.size+1:=by simp
  replace b1:=qa b1 (.cells #[.slice none 0 0] 27 (0,0))
  replace b2:=qa b2 (.cells #[.slice none 0 0] 27 (0,0))
  replace b6:=qa b6 (.cells #[.slice none 0 0] 27 (0,0))
  replace HB:=pa HB (.cells #[.slice none 0 0] 27 (0,0))
  generalize W2_.alloc (.cells #[.slice none 0 0] 27 (0,0))=W3_ at *
  obtain ⟨q5,hq5⟩:∃ q5,q5=W2_.heap.size:=⟨_,rfl⟩
  rw [← hq5] at b5 ⊢
  have lq5:w.heap.size≤q5:=by omega
  have np25:p2 ≠ q5:=by omega
  have uq5:q5 < W3_.heap.size:=by omega
  have hne:q5 ≠ q6:=by omega
  replace uq6:q6 < W3_.heap.size:=by omega
  replace hsw:w.heap.size≤W3_.heap.size:=by omega
  replace up2:p2 < W3_.heap.size:=by omega
  clear hq_ hal_ hsz_ hq5
  refine hK.out _ _ ((blk_cell b1 0).trans rfl) (fun hHeld=>?_)
  clear hK K
  refine norm_ (nA 5) ?_
  refine one_ (i:=2) (N:=some 14) #[Y,Y,Y,Z,Z,Z,Z,Z,Y,Y,Z,Z,Z] rfl rfl D2 D5 (fun K hK=>?_)
  refine goes_ Try.func149 D2 rfl #[.int .i64 n] D16 rfl rfl D32 ?_
  refine (spec_l2Identity.calls kI (n:Int) (idM n) _ HI.out).mono ?_
  rintro e W4_ ⟨v14,rfl,ho,hb⟩
  refine ⟨_,rfl,?_⟩
  obtain ⟨A14,c14,e14⟩:=Kd.S_slice ho
  rw [idM_length] at e14
  subst e14
  have hI:=(Kd.S_reads' ho).2.2
  have hIc:=(Kd.S_reads' ho).2.1
  clear ho
  have hsz_:=hb.size
  replace b1:=qb b1 hb
  replace b2:=qb b2 hb
  replace b5:=qb b5 hb
  replace b6:=qb b6 hb
  replace HB:=pu HB hb
  replace hsw:w.heap.size≤W4_.heap.size:=by omega
  replace up2:p2 < W4_.heap.size:=by omega
  replace uq5:q5 < W4_.heap.size:=by omega
  replace uq6:q6 < W4_.heap.size:=by omega
  clear hb hsz_
  refine hK.out _ _ ((blk_cell b1 0).trans rfl) (fun hHeld=>?_)
  clear hK K
  refine norm_ (nA 14) ?_
  refine one_ (i:=3) (N:=some 15) #[Y,Y,Y,Y,Z,Z,Z,Z,Y,Y,Z,Z,Z] rfl rfl D2 D5 (fun K hK=>?_)
  refine goes_ Try.func148 D2 rfl #[.agg #[.slice A0 n c0], .agg #[.slice A14 n c14]] D16 rfl rfl D32 ?_
  have hc:=spec_l2Reduce.calls A0 c0 l0 A14 c14 (idM n) n n W4_ (Kd.C_below HR0.out HB) D81 hI D82 HOK.out (idM_ok n) D80 D79 D71 hn2 hn2
  rw [← HN.out,idM_length,← HZ.out,← HD.out] at hc
  refine hc.mono ?_
  clear hc
  rintro e W5_ ⟨A5,n5,c5,v1,rfl,hN0,hb⟩
  refine ⟨_,rfl,?_⟩
  obtain ⟨A6,c6,e6⟩:=Kd.N_slice hN0
  generalize hn6:D.length=n6 at e6
  subst e6
  obtain ⟨lo,hlo⟩:∃ z,z=W4_.heap.size:=⟨_,rfl⟩
  obtain ⟨hi,hhi⟩:∃ z,z=W5_.heap.size:=⟨_,rfl⟩
  have hN:=Kd.N_lower (Kd.N_mono (Kd.N_bound hN0) (ok':=fun b=>lo≤b∧b < hi) (fun b hk=>⟨D113,D112⟩)) hsw
  clear hN0
  have hlw:w.heap.size≤lo:=by omega
  have rp2:p2 < lo:=by omega
  have uhi:hi≤W5_.heap.size:=by omega
  have rq5:q5 < lo∨hi≤q5:=Or.inl D13
  have rq6:q6 < lo∨hi≤q6:=Or.inl D13
  clear hlo hhi
  have hsz_:=hb.size
  replace b1:=qb b1 hb
  replace b2:=qb b2 hb
  replace b5:=qb b5 hb
  replace b6:=qb b6 hb
  replace HB:=pu HB hb
  replace hsw:w.heap.size≤W5_.heap.size:=by omega
  replace up2:p2 < W5_.heap.size:=by omega
  replace uq5:q5 < W5_.heap.size:=by omega
  replace uq6:q6 < W5_.heap.size:=by omega
  clear hb hsz_
  refine hK.out _ _ ((blk_cell b1 0).trans rfl) (fun hHeld=>?_)
  clear hK K
  refine norm_ (nA 15) ?_
  refine pure_ (i:=4) (N:=some 11) (v:=?_) (a':=?_) #[Y,Y,Y,Y,Y,Z,Z,Z,Y,Y,Z,Z,Z] rfl rfl D2 hh (Or.inl ⟨D16,?_⟩) ?_ ?_
  rotate_left
  ·intro w'
   go_simp
   with_reducible rfl
  rotate_left
  ·simp only [Act.put,q1,q2,q3,i64_w,i32_w]
   rfl
  refine pure_ (i:=5) (N:=some 16) (v:=?_) (a':=?_) #[Y,Y,Y,Y,Y,Y,Z,Z,Y,Y,Z,Z,Z] rfl rfl D2 hh (Or.inl ⟨D16,?_⟩) ?_ ?_
  rotate_left
  ·intro w'
   go_simp
   with_reducible rfl
  rotate_left
  ·simp only [Act.put,q1,q2,q3,i64_w,i32_w]
   rfl
  refine pure_ (i:=6) (N:=some 17) (v:=?_) (a':=?_) #[Y,Y,Y,Y,Y,Y,Y,Z,Y,Y,Z,Z,Z] rfl rfl D2 hh (Or.inl ⟨D16,?_⟩) ?_ ?_
  rotate_left
  ·intro w'
   go_simp
   with_reducible rfl
  rotate_left
  ·simp only [Act.put,q1,q2,q3,i64_w,i32_w]
   rfl
  refine pure_ (i:=7) (N:=some 18) (v:=?_) (a':=?_) #[Y,Y,Y,Y,Y,Y,Y,Y,Y,Y,Z,Z,Z] rfl rfl D2 hh (Or.inl ⟨D16,?_⟩) ?_ ?_
  rotate_left
  ·intro w'
   go_simp
   with_reducible rfl
  rotate_left
  ·simp only [Act.put,q1,q2,q3,i64_w,i32_w]
   rfl
  refine norm_ ?_ (hcont (q5,q6,(A14,c14),(A5,n5,c5),(A6,n6,c6)) _ ⟨HB,b2,b5,b6,hne,lq5,lq6,lo,hi,hN,rq5,rq6,rp2,hlw,np25,np26⟩)
  first|(simp only [putAll,Act.put,q1,q2,q3];done)|rfl|(simp only [putAll,Act.put,q1,q2,q3];rfl)
 rintro ⟨q5,q6,⟨A14,c14⟩,⟨A5,n5,c5⟩,⟨A6,n6,c6⟩⟩ W ⟨HB,b2,b5,b6,hne,lq5,lq6,lo,hi,hN,rq5,rq6,rp2,hlw,np25,np26⟩
 refine norm_ (a':=?_) ?_ ?_
 rotate_left
 ·simp only [putAll,Act.put,q1,q2,q3]
  rfl
 simp only [] at b5 b6 hne lq5 lq6 hN rq5 rq6
 clear b1 hHeld up2 hsw
 have hk5:W.cell? ⟨q5,0,none⟩=some (.slice none 0 0):=(blk_cell b5 0).trans rfl
 have hf5:=blk_frozen b5 0
 refine last_ (i:=10) (N:=none) #[Y,Y,Y,Y,Y,Y,Y,Y,Y,Y,Y,Z,Z] rfl rfl D2 D5 (fun K hK=>?_)
 refine skip_ (w1:=?_) D16 rfl ?_ ?_
 rotate_left
 ·go_simp
  rfl
 refine hK.out _ _ ?_
 clear hK K
 replace hN:=Kd.N_far hN (p:=⟨q5,0,none⟩) (fun k hk=>by have:k ≠ q5:=D13;exact this) (.slice A5 n5 c5)
 replace HB:=pt (j:=0) (v:=.slice A5 n5 c5) HB lq5
 replace b2:=blk_far b2 (p:=⟨q5,0,none⟩) (show p2 ≠ q5 from np25) (.slice A5 n5 c5)
 replace b6:=blk_far b6 (p:=⟨q5,0,none⟩) (show q6 ≠ q5 from fun e=>hne e.symm) (.slice A5 n5 c5)
 clear b5 hk5 hf5
 generalize W.setCell ⟨q5,0,none⟩ (.slice A5 n5 c5)=W at hN HB b2 b6 ⊢
 have hk6:W.cell? ⟨q6,0,none⟩=some (.slice none 0 0):=(blk_cell b6 0).trans rfl
 have hf6:=blk_frozen b6 0
 refine last_ (i:=11) (N:=none) #[Y,Y,Y,Y,Y,Y,Y,Y,Y,Y,Y,Y,Z] rfl rfl D2 D5 (fun K hK=>?_)
 refine skip_ (w1:=?_) D16 rfl ?_ ?_
 rotate_left
 ·go_simp
  rfl
 refine hK.out _ _ ?_
 clear hK K
 replace hN:=Kd.N_far hN (p:=⟨q6,0,none⟩) (fun k hk=>by have:k ≠ q6:=D13;exact this) (.slice A6 n6 c6)
 replace HB:=pt (j:=0) (v:=.slice A6 n6 c6) HB lq6
 replace b2:=blk_far b2 (p:=⟨q6,0,none⟩) (show p2 ≠ q6 from np26) (.slice A6 n6 c6)
 have b6':=blk_put b6 0 (.slice A6 n6 c6) rfl
 clear b6 hk6 hf6
 generalize W.setCell ⟨q6,0,none⟩ (.slice A6 n6 c6)=W at hN HB b2 b6' ⊢
 refine pure_ (i:=12) (N:=some 7) (v:=?_) (a':=?_) #[Y,Y,Y,Y,Y,Y,Y,Y,Y,Y,Y,Y,Y] rfl rfl D2 hh (Or.inl ⟨D16,?_⟩) ?_ ?_
 rotate_left
 ·intro w'
  go_simp
  with_reducible rfl
 rotate_left
 ·simp only [Act.put,q1,q2,q3,i64_w,i32_w]
  rfl
 refine done_ D2 ?_
 have hk6:W.cell? ⟨q6,0,none⟩=some (.slice A6 n6 c6):=(blk_cell b6' 0).trans rfl
 have hzb:((z:Int) == (n:Int))=r2:=by rw [← HE2.out];exact Bool.eq_iff_iff.2 (by simp only [beq_iff_eq,decide_eq_true_eq];omega)
 have hk2:W.cell? ⟨p2,0,none⟩=some (.slice none 0 0):=(blk_cell b2 0).trans rfl
 have hf2:=blk_frozen b2 0
 have HNF:=am (Kd.N_far hN (p:=⟨p2,0,none⟩) (fun k hk=>by have:k ≠ p2:=D13;exact this) (.slice A6 n6 c6))
 have HBF:=am (pt (j:=0) (v:=.slice A6 n6 c6) HB lp2)
 have b2':=blk_put b2 0 (.slice A6 n6 c6) rfl
 clear b2 hN HB
 go_wp2_with fail
 (try simp only [Exit.inBlock,Exit.then])
 refine bodyPost_ret (results_ct rfl _ _ p2 27 #[.slice A6 n6 c6] (0,0) _ rfl b2' Try.underlying27 rfl D2) rfl ?_
 exact ⟨_,by first|rfl|(simp;done)|(trace_state;rfl),Kd.N_mono HNF.out (fun k hk=>by have:=hk.1;omega),HBF.out⟩

end
end
end Go.Proofs.Yteflgifmdojahaa.PFnRegenerated
-- SQUEEZED
