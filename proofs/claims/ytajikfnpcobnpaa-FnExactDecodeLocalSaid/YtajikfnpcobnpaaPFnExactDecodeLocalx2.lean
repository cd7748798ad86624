import Derived.Test.YtajikfnpcobnpaaVDecodeLocalB
import Derived.Test.YtajikfnpcobnpaaPFnExactDecodeLocalx0
import Derived.Test.YtajikfnpcobnpaaPFnExactDecodeLocalx1
namespace Go.Proofs.Ytajikfnpcobnpaa.PFnExactDecodeLocal
open Go.RowKit Go.Proofs.YtajikfnpcobnpaaW.PrintWords Go.Proofs.YtajikfnpcobnpaaW.PrintLast Go.Proofs.YtajikfnpcobnpaaW.PrintMore Go.Proofs.Ytajikfnpcobnpaa.KitS
attribute [local go_sem] max2_int min2_int max_two min_two max_three min_three max_four min_four
set_option linter.unusedVariables false
set_option maxHeartbeats 8000000
set_option maxRecDepth 100000
set_option linter.unusedSimpArgs false
section
section
open Go.Proofs.Ytajikfnpcobnpaa.Gf Go.Proofs.Ytajikfnpcobnpaa.Kit Go.Proofs.Ytajikfnpcobnpaa.KitW Go.Proofs.Ytajikfnpcobnpaa.KitN
namespace SpecInv
theorem rdSS (l:List (List Int)) (i:Nat) (h:i < l.length):rd_L1 l (i:Int)=l[i]:=by unfold rd_L1;simp [List.getD,h]
theorem spec_l2Blank.ev_l0 (n m:Nat) (hn:n≤1048576) (hm:m≤1048576):∀ (d i:Nat),i+d=n→Ev (fun k=>spec_l2Blank.l0 k (n:Int) (m:Int) (i:Int) (blankM i m)) (blankM n m)
 | 0,i,hi=>by
  obtain rfl:i=n:=by omega
  refine Ev.step (fun k=>spec_l2Blank.l0.eq_2 _ _ _ _ k) ?_
  exact ev_neg D5 (ev_now rfl)
 | d+1,i,hi=>by
  have ih:=spec_l2Blank.ev_l0 n m hn hm d (i+1) D5
  refine Ev.step (fun k=>spec_l2Blank.l0.eq_2 _ _ _ _ k) ?_
  refine ev_pos D5 (ev_pos D5 (ev_pos D5 (ev_pos (by simp [blankM];omega) ?_)))
  rw [inc D5,Int.toNat_natCast]
  have e:blankM i m ++ [List.replicate m 0]=blankM (i+1) m:=by
   unfold blankM;rw [List.replicate_succ']
  rw [e]
  exact ih
theorem spec_l2Blank.ev (n m:Nat) (hn:n≤1048576) (hm:m≤1048576):Ev (fun k=>spec_l2Blank.f k (n:Int) (m:Int)) (blankM n m):=by
 unfold spec_l2Blank.f
 exact spec_l2Blank.ev_l0 n m hn hm n 0 D5
def idPart (n i:Nat):List (List Int):=(List.range n).map fun j=>if j < i then (List.replicate n 0).set j 1 else List.replicate n 0
theorem idPart_length (n i:Nat):(idPart n i).length=n:=by simp [idPart]
theorem idPart_zero (n:Nat):idPart n 0=blankM n n:=by
 apply List.ext_getElem
 ·simp [idPart,blankM]
 intro j h1 h2;simp [idPart,blankM]
theorem idPart_all (n:Nat):idPart n n=idM n:=by
 apply List.ext_getElem
 ·simp [idPart,idM]
 intro j h1 h2
 have:j < n:=by simpa [idPart] using h1
 simp [idPart,idM,this]
theorem idPart_succ (n i:Nat) (hi:i < n):(idPart n i).set i ((List.replicate n 0).set i 1)=idPart n (i+1):=by
 apply List.ext_getElem
 ·simp [idPart]
 intro j h1 h2
 rw [List.getElem_set]
 by_cases e:i=j
 ·subst e
  simp [idPart]
 rw [if_neg e]
 simp only [idPart,List.getElem_map,List.getElem_range]
 by_cases h:j < i
 ·rw [if_pos h,if_pos D5]
 rw [if_neg h,if_neg D5]
theorem spec_l2Identity.ev_l0 (n:Nat) (hn:n≤1048576):∀ (d i:Nat),i+d=n→Ev (fun k=>spec_l2Identity.l0 k (n:Int) (i:Int) (idPart n i)) (idM n)
 | 0,i,hi=>by
  obtain rfl:i=n:=by omega
  refine Ev.step (fun k=>spec_l2Identity.l0.eq_2 _ _ _ k) ?_
  exact ev_neg D5 (ev_now (idPart_all i))
 | d+1,i,hi=>by
  have hl:=idPart_length n i
  have hg:rd_L1 (idPart n i) (i:Int)=List.replicate n 0:=by
   rw [rdSS _ i D5]
   simp [idPart]
  have ih:=spec_l2Identity.ev_l0 n hn d (i+1) D5
  refine Ev.step (fun k=>spec_l2Identity.l0.eq_2 _ _ _ k) ?_
  rw [hg]
  refine ev_pos D5 (ev_pos D5 (ev_pos D5 (ev_pos (by simp;omega) ?_)))
  rw [inc D5,Int.toNat_natCast,idPart_succ n i D5]
  exact ih
theorem spec_l2Identity.ev (n:Nat) (hn:n≤1048576):Ev (fun k=>spec_l2Identity.f k (n:Int)) (idM n):=by
 unfold spec_l2Identity.f
 refine ev_bind (spec_l2Blank.ev n n hn hn) ?_
 have e:((blankM n n).length:Int)=(n:Int):=by simp [blankM]
 rw [e,← idPart_zero]
 exact spec_l2Identity.ev_l0 n hn n 0 D5
end SpecInv
def spec_l2Inverse.f (l0:List (List Int)):Option (List (List Int) × Bool):=if sqN l0=true then some ((redP l0 (idM l0.length) l0.length).1.map Prod.snd,decide ((redP l0 (idM l0.length) l0.length).2=l0.length)) else none
set_option maxHeartbeats 16000000 in
theorem spec_l2Inverse.calls (A0:Option Addr) (c0:Nat) (l0:List (List Int)) (r1:List (List Int)) (r2:Bool) (w:World) (hr0:Kd.C (Kd.slice 5 (Kd.int .u8)) w A0 l0.length l0) (hc0:l0.length≤c0) (h:spec_l2Inverse.f l0=some (r1,r2)) :
  Calls Try.prog 91 #[.agg #[.slice A0 l0.length c0]] w fun e w'=>∃ v0_:Value,e = .returned (.tuple #[.agg #[v0_], .bool r2])∧Kd.N (Kd.slice 5 (Kd.int .u8)) 57 w' w.heap.size (fun k_=>(w.heap.size≤k_)) v0_ r1∧Below w.heap.size w w':=by
 unfold spec_l2Inverse.f at h
 by_cases hs:sqN l0=true
 case neg=>rw [if_neg hs] at h;cases h
 rw [if_pos hs] at h
 have hrr:=Option.some.inj h
 clear h
 obtain ⟨h1,h2,h3⟩:=sqN_iff.1 hs
 clear hs
 obtain ⟨n,hn⟩:∃ n,n=l0.length:=⟨_,rfl⟩
 rw [← hn] at hrr h3
 obtain ⟨D,hD⟩:∃ D,D=(redP l0 (idM n) n).1.map Prod.snd:=⟨_,rfl⟩
 obtain ⟨z,hz⟩:∃ z,z=(redP l0 (idM n) n).2:=⟨_,rfl⟩
 rw [← hD,← hz] at hrr
 injection hrr with e1 e2
 subst e1
 obtain ⟨kI,hI⟩:=(SpecInv.spec_l2Identity.ev n D5).rounds
 have HI:=am hI
 have HN:=am hn
 have HD:=am hD
 have HZ:=am hz
 have HE2:=am e2
 have HR0:=am hr0
 have HOK:=am h3
 have hn1:1≤n:=by omega
 have hn2:n≤1000:=by omega
 rw [← hn] at hc0 ⊢
 clear hI hn hD hz e2 hr0 h1 h2 h3
 have hu:=Try.underlying43
 obtain ⟨W0,hW⟩:∃ W:World,W=(w.alloc (.cells #[.slice A0 n c0] 43 (0,0))).alloc (.cells #[.slice none 0 0] 43 (0,0)):=⟨_,rfl⟩
 have HB:Below w.heap.size w W0:=by rw [hW];exact pa (pa (Below.refl _ _) _) _
 have b1:W0.heap[w.heap.size]? = some (.cells #[.slice A0 n c0] 43 (0,0)):=by rw [hW];exact qa (heap_alloc_new w _) _
 have b2:W0.heap[w.heap.size+1]? = some (.cells #[.slice none 0 0] 43 (0,0)):=by rw [hW];have y:=heap_alloc_new (w.alloc (.cells #[.slice A0 n c0] 43 (0,0))) (.cells #[.slice none 0 0] 43 (0,0));simpa using y
 have hbox:W0.cell? ⟨w.heap.size,0,none⟩=some (.slice A0 n c0):=(blk_cell b1 0).trans rfl
 have hp2:=blk_lt b2
 go_enter Try.func91,Try.ntmps91
 go_wp2_with fail
 rw [← hW]
 clear hW
 have HBOX:=hbox
 have h12:w.heap.size ≠ w.heap.size+1:=by omega
 refine start_ (n:=13) (S:=fun w'=>w'.cell? ⟨w.heap.size,0,none⟩=some (.slice A0 n c0)) (ds:=[10,11]) #[Z,Z,Z,Z,Z,Z,Z,Z,Z,Z,Z,Z,Z] D3 rfl rfl hbox (fun hHeld=>?_)
 replace HB:=pd HB
 replace b1:=qd b1
 replace b2:=qd b2
 have up2:w.heap.size+1 < W0.drew.heap.size:=blk_lt b2
 have hsw:w.heap.size≤W0.drew.heap.size:=HB.size
 have lp2:w.heap.size≤w.heap.size+1:=by omega
 clear hbox HBOX hp2 h12
 generalize W0.drew=W1 at HB b1 b2 hHeld up2 hsw ⊢
 refine take_ (i:=0) (N:=some 12) (v:=?_) (a':=?_) #[Y,Z,Z,Z,Z,Z,Z,Z,Z,Z,Z,Z,Z] rfl rfl D3 hh (Or.inl ⟨D11,?_⟩) hHeld ?_ ?_
 rotate_left
 ·intro w' s0
  go_simp
  with_reducible rfl
 rotate_left
 ·simp only [Act.put,q1,q2,q3,i64_w,i32_w]
  rfl
 refine pure_ (i:=1) (N:=some 13) (v:=?_) (a':=?_) #[Y,Y,Z,Z,Z,Z,Z,Z,Z,Z,Z,Z,Z] rfl rfl D3 hh (Or.inl ⟨D11,?_⟩) ?_ ?_
 rotate_left
 ·intro w'
  go_simp
  with_reducible rfl
 rotate_left
 ·simp only [Act.put,q1,q2,q3,i64_w,i32_w]
  rfl
 obtain ⟨p2,hp2⟩:∃ p2,p2=w.heap.size+1:=⟨_,rfl⟩
 rw [← hp2] at b2 up2 lp2
 have hpp:w.heap.size+1=p2:=hp2.symm
 clear hp2
 rw [hpp]
 refine join_ (σ:=Nat × Nat × (Option Addr × Nat) × (Option Addr × Nat × Nat) × (Option Addr × Nat × Nat)) 3 #[Y,Y,Y,Y,Y,Y,Y,Y,Y,Y,Z,Z,Z] (fun s=>[(14, .agg #[.slice s.2.2.1.1 n s.2.2.1.2]),(15, .tuple #[.agg #[.slice s.2.2.2.1.1 s.2.2.2.1.2.1 s.2.2.2.1.2.2], .agg #[.slice s.2.2.2.2.1 s.2.2.2.2.2.1 s.2.2.2.2.2.2], .int .i64 (z:Nat)]),(5, .pointer (some ⟨s.1,0,none⟩)),(6, .pointer (some ⟨s.2.1,0,none⟩)),(11, .tuple #[.agg #[.slice s.2.2.2.1.1 s.2.2.2.1.2.1 s.2.2.2.1.2.2], .agg #[.slice s.2.2.2.2.1 s.2.2.2.2.2.1 s.2.2.2.2.2.2], .int .i64 (z:Nat)]),(16, .agg #[.slice s.2.2.2.1.1 s.2.2.2.1.2.1 s.2.2.2.1.2.2]),(17, .agg #[.slice s.2.2.2.2.1 s.2.2.2.2.2.1 s.2.2.2.2.2.2]),(18, .int .i64 (z:Nat))])
  (fun s W=>Below w.heap.size w W∧W.heap[p2]? = some (.cells #[.slice none 0 0] 43 (0,0))∧W.heap[s.1]? = some (.cells #[.slice none 0 0] 43 (0,0))∧W.heap[s.2.1]? = some (.cells #[.slice none 0 0] 43 (0,0))∧s.1 ≠ s.2.1∧w.heap.size≤s.1∧w.heap.size≤s.2.1∧∃ lo hi,Kd.N (Kd.slice 5 (Kd.int .u8)) 57 W w.heap.size (fun b=>lo≤b∧b < hi) (.slice s.2.2.2.2.1 s.2.2.2.2.2.1 s.2.2.2.2.2.2) D∧(s.1 < lo∨hi≤s.1)∧(s.2.1 < lo∨hi≤s.2.1)∧p2 < lo∧w.heap.size≤lo∧p2 ≠ s.1∧p2 ≠ s.2.1) ?_ ?_
 rotate_left
 ·intro hcont
  refine three_ (i:=2) (j:=8) (k:=9) (Ni:=some 14) (Nj:=some 5) (Nk:=some 6) #[Y,Y,Y,Z,Z,Z,Z,Z,Z,Z,Z,Z,Z] #[Y,Y,Z,Z,Z,Z,Z,Z,Y,Z,Z,Z,Z] #[Y,Y,Z,Z,Z,Z,Z,Z,Z,Y,Z,Z,Z] rfl rfl rfl rfl rfl rfl D3 D4 D4 D4 (fun K hK=>?_) (fun K hK=>?_) (fun K hK=>?_)
  ·skip
   refine goes_ Try.func176 D3 rfl #[.int .i64 n] D11 rfl rfl D23 ?_
   refine (spec_l2Identity.calls kI (n:Int) (idM n) _ HI.out).mono ?_
   rintro e W2_ ⟨v14,rfl,ho,hb⟩
   refine ⟨_,rfl,?_⟩
   obtain ⟨A14,c14,e14⟩:=Kd.S_slice ho
   rw [idM_length] at e14
   subst e14
   have hI:=(Kd.S_reads' ho).2.2
   have hIc:=(Kd.S_reads' ho).2.1
   clear ho
   have hsz_:=hb.size
   replace b1:=qb b1 hb
   replace b2:=qb b2 hb
   replace HB:=pu HB hb
   replace hsw:w.heap.size≤W2_.heap.size:=by omega
   replace up2:p2 < W2_.heap.size:=by omega
   clear hb hsz_
   refine hK.out _ _ ((blk_cell b1 0).trans rfl) (fun hHeld=>?_)
   clear hK K
   refine norm_ (a':=?_) ?_ ?_
   rotate_left
   ·show Act.put _ (some 14) _=_
    simp only [Act.put,q1,q2,q3,i64_w,i32_w]
    rfl
   refine three_ (i:=3) (j:=8) (k:=9) (Ni:=some 15) (Nj:=some 5) (Nk:=some 6) #[Y,Y,Y,Y,Z,Z,Z,Z,Z,Z,Z,Z,Z] #[Y,Y,Y,Z,Z,Z,Z,Z,Y,Z,Z,Z,Z] #[Y,Y,Y,Z,Z,Z,Z,Z,Z,Y,Z,Z,Z] rfl rfl rfl rfl rfl rfl D3 D4 D4 D4 (fun K hK=>?_) (fun K hK=>?_) (fun K hK=>?_)
   ·skip
    refine goes_ Try.func175 D3 rfl #[.agg #[.slice A0 n c0], .agg #[.slice A14 n c14]] D11 rfl rfl D23 ?_
    have hc:=spec_l2Reduce.calls A0 c0 l0 A14 c14 (idM n) n n W2_ (Kd.C_below HR0.out HB) D44 hI D45 HOK.out (idM_ok n) D43 D42 D27 hn2 hn2
    rw [← HN.out,idM_length,← HZ.out,← HD.out] at hc
    refine hc.mono ?_
    clear hc
    rintro e W3_ ⟨A5,n5,c5,v1,rfl,hN0,hb⟩
    refine ⟨_,rfl,?_⟩
    obtain ⟨A6,c6,e6⟩:=Kd.N_slice hN0
    generalize hn6:D.length=n6 at e6
    subst e6
    obtain ⟨lo,hlo⟩:∃ z,z=W2_.heap.size:=⟨_,rfl⟩
    obtain ⟨hi,hhi⟩:∃ z,z=W3_.heap.size:=⟨_,rfl⟩
    have hN:=Kd.N_lower (Kd.N_mono (Kd.N_bound hN0) (ok':=fun b=>lo≤b∧b < hi) (fun b hk=>⟨D56,D55⟩)) hsw
    clear hN0
    have hlw:w.heap.size≤lo:=by omega
    have rp2:p2 < lo:=by omega
    have uhi:hi≤W3_.heap.size:=by omega
    clear hlo hhi
    have hsz_:=hb.size
    replace b1:=qb b1 hb
    replace b2:=qb b2 hb
    replace HB:=pu HB hb
    replace hsw:w.heap.size≤W3_.heap.size:=by omega
    replace up2:p2 < W3_.heap.size:=by omega
    clear hb hsz_
    refine hK.out _ _ ((blk_cell b1 0).trans rfl) (fun hHeld=>?_)
    clear hK K
    refine norm_ (a':=?_) ?_ ?_
    rotate_left
    ·show Act.put _ (some 15) _=_
     simp only [Act.put,q1,q2,q3,i64_w,i32_w]
     rfl
    refine pure_ (i:=4) (N:=some 11) (v:=?_) (a':=?_) #[Y,Y,Y,Y,Y,Z,Z,Z,Z,Z,Z,Z,Z] rfl rfl D3 hh (Or.inl ⟨D11,?_⟩) ?_ ?_
    rotate_left
    ·intro w'
     go_simp
     with_reducible rfl
    rotate_left
    ·simp only [Act.put,q1,q2,q3,i64_w,i32_w]
     rfl
    refine pure_ (i:=5) (N:=some 16) (v:=?_) (a':=?_) #[Y,Y,Y,Y,Y,Y,Z,Z,Z,Z,Z,Z,Z] rfl rfl D3 hh (Or.inl ⟨D11,?_⟩) ?_ ?_
    rotate_left
    ·intro w'
     go_simp
     with_reducible rfl
    rotate_left
    ·simp only [Act.put,q1,q2,q3,i64_w,i32_w]
     rfl
    refine pure_ (i:=6) (N:=some 17) (v:=?_) (a':=?_) #[Y,Y,Y,Y,Y,Y,Y,Z,Z,Z,Z,Z,Z] rfl rfl D3 hh (Or.inl ⟨D11,?_⟩) ?_ ?_
    rotate_left
    ·intro w'
     go_simp
     with_reducible rfl
    rotate_left
    ·simp only [Act.put,q1,q2,q3,i64_w,i32_w]
     rfl
    refine pure_ (i:=7) (N:=some 18) (v:=?_) (a':=?_) #[Y,Y,Y,Y,Y,Y,Y,Y,Z,Z,Z,Z,Z] rfl rfl D3 hh (Or.inl ⟨D11,?_⟩) ?_ ?_
    rotate_left
    ·intro w'
     go_simp
     with_reducible rfl
    rotate_left
    ·simp only [Act.put,q1,q2,q3,i64_w,i32_w]
     rfl
    refine two_ (i:=8) (j:=9) (Ni:=some 5) (Nj:=some 6) #[Y,Y,Y,Y,Y,Y,Y,Y,Y,Z,Z,Z,Z] #[Y,Y,Y,Y,Y,Y,Y,Y,Z,Y,Z,Z,Z] rfl rfl rfl rfl D3 D4 D4 (fun K hK=>?_) (fun K hK=>?_)
    ·skip
     refine value_ (v:=.pointer (some ⟨W3_.heap.size,0,none⟩)) (w1:=W3_.alloc (.cells #[.slice none 0 0] 43 (0,0))) D11 rfl ?_ ?_
     ·first|(go_simp;done)|(go_simp;rfl)
     have hq_:=Below.refl W3_.heap.size W3_
     have hal_:=pa hq_ (.cells #[.slice none 0 0] 43 (0,0))
     have b5:=heap_alloc_new W3_ (.cells #[.slice none 0 0] 43 (0,0))
     have hsz_:(W3_.alloc (.cells #[.slice none 0 0] 43 (0,0))).heap.size=W3_.heap.size+1:=by simp
     replace b1:=qa b1 (.cells #[.slice none 0 0] 43 (0,0))
     replace b2:=qa b2 (.cells #[.slice none 0 0] 43 (0,0))
     replace HB:=pa HB (.cells #[.slice none 0 0] 43 (0,0))
     replace hN:=Kd.N_alloc hN (.cells #[.slice none 0 0] 43 (0,0))
     generalize W3_.alloc (.cells #[.slice none 0 0] 43 (0,0))=W4_ at *
     obtain ⟨q5,hq5⟩:∃ q5,q5=W3_.heap.size:=⟨_,rfl⟩
     rw [← hq5] at b5 ⊢
     have lq5:w.heap.size≤q5:=by omega
     have np25:p2 ≠ q5:=by omega
     have uq5:q5 < W4_.heap.size:=by omega
     have rq5:q5 < lo∨hi≤q5:=Or.inr D5
     replace uhi:hi≤W4_.heap.size:=by omega
     replace hsw:w.heap.size≤W4_.heap.size:=by omega
     replace up2:p2 < W4_.heap.size:=by omega
     clear hq_ hal_ hsz_ hq5
     refine hK.out _ _ ((blk_cell b1 0).trans rfl) (fun hHeld=>?_)
     clear hK K
     refine norm_ (a':=?_) ?_ ?_
     rotate_left
     ·show Act.put _ (some 5) _=_
      simp only [Act.put,q1,q2,q3,i64_w,i32_w]
      rfl
     refine one_ (i:=9) (N:=some 6) #[Y,Y,Y,Y,Y,Y,Y,Y,Y,Y,Z,Z,Z] rfl rfl D3 D4 (fun K hK=>?_)
     refine value_ (v:=.pointer (some ⟨W4_.heap.size,0,none⟩)) (w1:=W4_.alloc (.cells #[.slice none 0 0] 43 (0,0))) D11 rfl ?_ ?_
     ·first|(go_simp;done)|(go_simp;rfl)
     have hq_:=Below.refl W4_.heap.size W4_
     have hal_:=pa hq_ (.cells #[.slice none 0 0] 43 (0,0))
     have b6:=heap_alloc_new W4_ (.cells #[.slice none 0 0] 43 (0,0))
     have hsz_:(W4_.alloc (.cells #[.slice none 0 0] 43 (0,0))).heap.size=W4_.heap.size+1:=by simp
     replace b1:=qa b1 (.cells #[.slice none 0 0] 43 (0,0))
     replace b2:=qa b2 (.cells #[.slice none 0 0] 43 (0,0))
     replace b5:=qa b5 (.cells #[.slice none 0 0] 43 (0,0))
     replace HB:=pa HB (.cells #[.slice none 0 0] 43 (0,0))
     replace hN:=Kd.N_alloc hN (.cells #[.slice none 0 0] 43 (0,0))
     generalize W4_.alloc (.cells #[.slice none 0 0] 43 (0,0))=W5_ at *
     obtain ⟨q6,hq6⟩:∃ q6,q6=W4_.heap.size:=⟨_,rfl⟩
     rw [← hq6] at b6 ⊢
     have lq6:w.heap.size≤q6:=by omega
     have np26:p2 ≠ q6:=by omega
     have uq6:q6 < W5_.heap.size:=by omega
     have hne:q5 ≠ q6:=by omega
     replace uq5:q5 < W5_.heap.size:=by omega
     have rq6:q6 < lo∨hi≤q6:=Or.inr D5
     replace uhi:hi≤W5_.heap.size:=by omega
     replace hsw:w.heap.size≤W5_.heap.size:=by omega
     replace up2:p2 < W5_.heap.size:=by omega
     clear hq_ hal_ hsz_ hq6
     refine hK.out _ _ ((blk_cell b1 0).trans rfl) (fun hHeld=>?_)
     clear hK K
     refine norm_ (a':=?_) ?_ ?_
     rotate_left
     ·show Act.put _ (some 6) _=_
      simp only [Act.put,q1,q2,q3,i64_w,i32_w]
      rfl
     refine norm_ ?_ (hcont (q5,q6,(A14,c14),(A5,n5,c5),(A6,n6,c6)) _ ⟨HB,b2,b5,b6,hne,lq5,lq6,lo,hi,hN,rq5,rq6,rp2,hlw,np25,np26⟩)
     first|(simp only [putAll,Act.put,q1,q2,q3];done)|rfl|(simp only [putAll,Act.put,q1,q2,q3];rfl)
    skip
    refine value_ (v:=.pointer (some ⟨W3_.heap.size,0,none⟩)) (w1:=W3_.alloc (.cells #[.slice none 0 0] 43 (0,0))) D11 rfl ?_ ?_
    ·first|(go_simp;done)|(go_simp;rfl)
    have hq_:=Below.refl W3_.heap.size W3_
    have hal_:=pa hq_ (.cells #[.slice none 0 0] 43 (0,0))
    have b6:=heap_alloc_new W3_ (.cells #[.slice none 0 0] 43 (0,0))
    have hsz_:(W3_.alloc (.cells #[.slice none 0 0] 43 (0,0))).heap.size=W3_.heap.size+1:=by simp
    replace b1:=qa b1 (.cells #[.slice none 0 0] 43 (0,0))
    replace b2:=qa b2 (.cells #[.slice none 0 0] 43 (0,0))
    replace HB:=pa HB (.cells #[.slice none 0 0] 43 (0,0))
    replace hN:=Kd.N_alloc hN (.cells #[.slice none 0 0] 43 (0,0))
    generalize W3_.alloc (.cells #[.slice none 0 0] 43 (0,0))=W4_ at *
    obtain ⟨q6,hq6⟩:∃ q6,q6=W3_.heap.size:=⟨_,rfl⟩
    rw [← hq6] at b6 ⊢
    have lq6:w.heap.size≤q6:=by omega
    have np26:p2 ≠ q6:=by omega
    have uq6:q6 < W4_.heap.size:=by omega
    have rq6:q6 < lo∨hi≤q6:=Or.inr D5
    replace uhi:hi≤W4_.heap.size:=by omega
    replace hsw:w.heap.size≤W4_.heap.size:=by omega
    replace up2:p2 < W4_.heap.size:=by omega
    clear hq_ hal_ hsz_ hq6
    refine hK.out _ _ ((blk_cell b1 0).trans rfl) (fun hHeld=>?_)
    clear hK K
    refine norm_ (a':=?_) ?_ ?_
    rotate_left
    ·show Act.put _ (some 6) _=_
     simp only [Act.put,q1,q2,q3,i64_w,i32_w]
     rfl
    refine one_ (i:=8) (N:=some 5) #[Y,Y,Y,Y,Y,Y,Y,Y,Y,Y,Z,Z,Z] rfl rfl D3 D4 (fun K hK=>?_)
    refine value_ (v:=.pointer (some ⟨W4_.heap.size,0,none⟩)) (w1:=W4_.alloc (.cells #[.slice none 0 0] 43 (0,0))) D11 rfl ?_ ?_
    ·first|(go_simp;done)|(go_simp;rfl)
    have hq_:=Below.refl W4_.heap.size W4_
    have hal_:=pa hq_ (.cells #[.slice none 0 0] 43 (0,0))
    have b5:=heap_alloc_new W4_ (.cells #[.slice none 0 0] 43 (0,0))
    have hsz_:(W4_.alloc (.cells #[.slice none 0 0] 43 (0,0))).heap.size=W4_.heap.size+1:=by simp
    replace b1:=qa b1 (.cells #[.slice none 0 0] 43 (0,0))
    replace b2:=qa b2 (.cells #[.slice none 0 0] 43 (0,0))
    replace b6:=qa b6 (.cells #[.slice none 0 0] 43 (0,0))
    replace HB:=pa HB (.cells #[.slice none 0 0] 43 (0,0))
    replace hN:=Kd.N_alloc hN (.cells #[.slice none 0 0] 43 (0,0))
    generalize W4_.alloc (.cells #[.slice none 0 0] 43 (0,0))=W5_ at *
    obtain ⟨q5,hq5⟩:∃ q5,q5=W4_.heap.size:=⟨_,rfl⟩
    rw [← hq5] at b5 ⊢
    have lq5:w.heap.size≤q5:=by omega
    have np25:p2 ≠ q5:=by omega
    have uq5:q5 < W5_.heap.size:=by omega
    have hne:q5 ≠ q6:=by omega
    replace uq6:q6 < W5_.heap.size:=by omega
    have rq5:q5 < lo∨hi≤q5:=Or.inr D5
    replace uhi:hi≤W5_.heap.size:=by omega
    replace hsw:w.heap.size≤W5_.heap.size:=by omega
    replace up2:p2 < W5_.heap.size:=by omega
    clear hq_ hal_ hsz_ hq5
    refine hK.out _ _ ((blk_cell b1 0).trans rfl) (fun hHeld=>?_)
    clear hK K
    refine norm_ (a':=?_) ?_ ?_
    rotate_left
    ·show Act.put _ (some 5) _=_
     simp only [Act.put,q1,q2,q3,i64_w,i32_w]
     rfl
    refine norm_ ?_ (hcont (q5,q6,(A14,c14),(A5,n5,c5),(A6,n6,c6)) _ ⟨HB,b2,b5,b6,hne,lq5,lq6,lo,hi,hN,rq5,rq6,rp2,hlw,np25,np26⟩)
    first|(simp only [putAll,Act.put,q1,q2,q3];done)|rfl|(simp only [putAll,Act.put,q1,q2,q3];rfl)
   ·skip
    refine value_ (v:=.pointer (some ⟨W2_.heap.size,0,none⟩)) (w1:=W2_.alloc (.cells #[.slice none 0 0] 43 (0,0))) D11 rfl ?_ ?_
    ·first|(go_simp;done)|(go_simp;rfl)
    have hq_:=Below.refl W2_.heap.size W2_
    have hal_:=pa hq_ (.cells #[.slice none 0 0] 43 (0,0))
    have b5:=heap_alloc_new W2_ (.cells #[.slice none 0 0] 43 (0,0))
    have hsz_:(W2_.alloc (.cells #[.slice none 0 0] 43 (0,0))).heap.size=W2_.heap.size+1:=by simp
    replace b1:=qa b1 (.cells #[.slice none 0 0] 43 (0,0))
    replace b2:=qa b2 (.cells #[.slice none 0 0] 43 (0,0))
    replace HB:=pa HB (.cells #[.slice none 0 0] 43 (0,0))
    replace hI:=Kd.C_alloc hI (.cells #[.slice none 0 0] 43 (0,0))
    generalize W2_.alloc (.cells #[.slice none 0 0] 43 (0,0))=W3_ at *
    obtain ⟨q5,hq5⟩:∃ q5,q5=W2_.heap.size:=⟨_,rfl⟩
    rw [← hq5] at b5 ⊢
    have lq5:w.heap.size≤q5:=by omega
    have np25:p2 ≠ q5:=by omega
    have uq5:q5 < W3_.heap.size:=by omega
    replace hsw:w.heap.size≤W3_.heap.size:=by omega
    replace up2:p2 < W3_.heap.size:=by omega
    clear hq_ hal_ hsz_ hq5
    refine hK.out _ _ ((blk_cell b1 0).trans rfl) (fun hHeld=>?_)
    clear hK K
    refine norm_ (a':=?_) ?_ ?_
    rotate_left
    ·show Act.put _ (some 5) _=_
     simp only [Act.put,q1,q2,q3,i64_w,i32_w]
     rfl
    refine two_ (i:=3) (j:=9) (Ni:=some 15) (Nj:=some 6) #[Y,Y,Y,Y,Z,Z,Z,Z,Y,Z,Z,Z,Z] #[Y,Y,Y,Z,Z,Z,Z,Z,Y,Y,Z,Z,Z] rfl rfl rfl rfl D3 D4 D4 (fun K hK=>?_) (fun K hK=>?_)
    ·skip
     refine goes_ Try.func175 D3 rfl #[.agg #[.slice A0 n c0], .agg #[.slice A14 n c14]] D11 rfl rfl D23 ?_
     have hc:=spec_l2Reduce.calls A0 c0 l0 A14 c14 (idM n) n n W3_ (Kd.C_below HR0.out HB) D44 hI D45 HOK.out (idM_ok n) D43 D42 D27 hn2 hn2
     rw [← HN.out,idM_length,← HZ.out,← HD.out] at hc
     refine hc.mono ?_
     clear hc
     rintro e W4_ ⟨A5,n5,c5,v1,rfl,hN0,hb⟩
     refine ⟨_,rfl,?_⟩
     obtain ⟨A6,c6,e6⟩:=Kd.N_slice hN0
     generalize hn6:D.length=n6 at e6
     subst e6
     obtain ⟨lo,hlo⟩:∃ z,z=W3_.heap.size:=⟨_,rfl⟩
     obtain ⟨hi,hhi⟩:∃ z,z=W4_.heap.size:=⟨_,rfl⟩
     have hN:=Kd.N_lower (Kd.N_mono (Kd.N_bound hN0) (ok':=fun b=>lo≤b∧b < hi) (fun b hk=>⟨D56,D55⟩)) hsw
     clear hN0
     have hlw:w.heap.size≤lo:=by omega
     have rp2:p2 < lo:=by omega
     have uhi:hi≤W4_.heap.size:=by omega
     have rq5:q5 < lo∨hi≤q5:=Or.inl D5
     clear hlo hhi
     have hsz_:=hb.size
     replace b1:=qb b1 hb
     replace b2:=qb b2 hb
     replace b5:=qb b5 hb
     replace HB:=pu HB hb
     replace hsw:w.heap.size≤W4_.heap.size:=by omega
     replace up2:p2 < W4_.heap.size:=by omega
     replace uq5:q5 < W4_.heap.size:=by omega
     clear hb hsz_
     refine hK.out _ _ ((blk_cell b1 0).trans rfl) (fun hHeld=>?_)
     clear hK K
     refine norm_ (a':=?_) ?_ ?_
     rotate_left
     ·show Act.put _ (some 15) _=_
      simp only [Act.put,q1,q2,q3,i64_w,i32_w]
      rfl
     refine pure_ (i:=4) (N:=some 11) (v:=?_) (a':=?_) #[Y,Y,Y,Y,Y,Z,Z,Z,Y,Z,Z,Z,Z] rfl rfl D3 hh (Or.inl ⟨D11,?_⟩) ?_ ?_
     rotate_left
     ·intro w'
      go_simp
      with_reducible rfl
     rotate_left
     ·simp only [Act.put,q1,q2,q3,i64_w,i32_w]
      rfl
     refine pure_ (i:=5) (N:=some 16) (v:=?_) (a':=?_) #[Y,Y,Y,Y,Y,Y,Z,Z,Y,Z,Z,Z,Z] rfl rfl D3 hh (Or.inl ⟨D11,?_⟩) ?_ ?_
     rotate_left
     ·intro w'
      go_simp
      with_reducible rfl
     rotate_left
     ·simp only [Act.put,q1,q2,q3,i64_w,i32_w]
      rfl
     refine pure_ (i:=6) (N:=some 17) (v:=?_) (a':=?_) #[Y,Y,Y,Y,Y,Y,Y,Z,Y,Z,Z,Z,Z] rfl rfl D3 hh (Or.inl ⟨D11,?_⟩) ?_ ?_
     rotate_left
     ·intro w'
      go_simp
      with_reducible rfl
     rotate_left
     ·simp only [Act.put,q1,q2,q3,i64_w,i32_w]
      rfl
     refine pure_ (i:=7) (N:=some 18) (v:=?_) (a':=?_) #[Y,Y,Y,Y,Y,Y,Y,Y,Y,Z,Z,Z,Z] rfl rfl D3 hh (Or.inl ⟨D11,?_⟩) ?_ ?_
     rotate_left
     ·intro w'
      go_simp
      with_reducible rfl
     rotate_left
     ·simp only [Act.put,q1,q2,q3,i64_w,i32_w]
      rfl
     refine one_ (i:=9) (N:=some 6) #[Y,Y,Y,Y,Y,Y,Y,Y,Y,Y,Z,Z,Z] rfl rfl D3 D4 (fun K hK=>?_)
     refine value_ (v:=.pointer (some ⟨W4_.heap.size,0,none⟩)) (w1:=W4_.alloc (.cells #[.slice none 0 0] 43 (0,0))) D11 rfl ?_ ?_
     ·first|(go_simp;done)|(go_simp;rfl)
     have hq_:=Below.refl W4_.heap.size W4_
     have hal_:=pa hq_ (.cells #[.slice none 0 0] 43 (0,0))
     have b6:=heap_alloc_new W4_ (.cells #[.slice none 0 0] 43 (0,0))
     have hsz_:(W4_.alloc (.cells #[.slice none 0 0] 43 (0,0))).heap.size=W4_.heap.size+1:=by simp
     replace b1:=qa b1 (.cells #[.slice none 0 0] 43 (0,0))
     replace b2:=qa b2 (.cells #[.slice none 0 0] 43 (0,0))
     replace b5:=qa b5 (.cells #[.slice none 0 0] 43 (0,0))
     replace HB:=pa HB (.cells #[.slice none 0 0] 43 (0,0))
     replace hN:=Kd.N_alloc hN (.cells #[.slice none 0 0] 43 (0,0))
     generalize W4_.alloc (.cells #[.slice none 0 0] 43 (0,0))=W5_ at *
     obtain ⟨q6,hq6⟩:∃ q6,q6=W4_.heap.size:=⟨_,rfl⟩
     rw [← hq6] at b6 ⊢
     have lq6:w.heap.size≤q6:=by omega
     have np26:p2 ≠ q6:=by omega
     have uq6:q6 < W5_.heap.size:=by omega
     have hne:q5 ≠ q6:=by omega
     replace uq5:q5 < W5_.heap.size:=by omega
     have rq6:q6 < lo∨hi≤q6:=Or.inr D5
     replace uhi:hi≤W5_.heap.size:=by omega
     replace hsw:w.heap.size≤W5_.heap.size:=by omega
     replace up2:p2 < W5_.heap.size:=by omega
     clear hq_ hal_ hsz_ hq6
     refine hK.out _ _ ((blk_cell b1 0).trans rfl) (fun hHeld=>?_)
     clear hK K
     refine norm_ (a':=?_) ?_ ?_
     rotate_left
     ·show Act.put _ (some 6) _=_
      simp only [Act.put,q1,q2,q3,i64_w,i32_w]
      rfl
     refine norm_ ?_ (hcont (q5,q6,(A14,c14),(A5,n5,c5),(A6,n6,c6)) _ ⟨HB,b2,b5,b6,hne,lq5,lq6,lo,hi,hN,rq5,rq6,rp2,hlw,np25,np26⟩)
     first|(simp only [putAll,Act.put,q1,q2,q3];done)|rfl|(simp only [putAll,Act.put,q1,q2,q3];rfl)
    skip
    refine value_ (v:=.pointer (some ⟨W3_.heap.size,0,none⟩)) (w1:=W3_.alloc (.cells #[.slice none 0 0] 43 (0,0))) D11 rfl ?_ ?_
    ·first|(go_simp;done)|(go_simp;rfl)
    have hq_:=Below.refl W3_.heap.size W3_
    have hal_:=pa hq_ (.cells #[.slice none 0 0] 43 (0,0))
    have b6:=heap_alloc_new W3_ (.cells #[.slice none 0 0] 43 (0,0))
    have hsz_:(W3_.alloc (.cells #[.slice none 0 0] 43 (0,0))).heap.size=W3_.heap.size+1:=by simp
    replace b1:=qa b1 (.cells #[.slice none 0 0] 43 (0,0))
    replace b2:=qa b2 (.cells #[.slice none 0 0] 43 (0,0))
    replace b5:=qa b5 (.cells #[.slice none 0 0] 43 (0,0))
    replace HB:=pa HB (.cells #[.slice none 0 0] 43 (0,0))
    replace hI:=Kd.C_alloc hI (.cells #[.slice none 0 0] 43 (0,0))
    generalize W3_.alloc (.cells #[.slice none 0 0] 43 (0,0))=W4_ at *
    obtain ⟨q6,hq6⟩:∃ q6,q6=W3_.heap.size:=⟨_,rfl⟩
    rw [← hq6] at b6 ⊢
    have lq6:w.heap.size≤q6:=by omega
    have np26:p2 ≠ q6:=by omega
    have uq6:q6 < W4_.heap.size:=by omega
    have hne:q5 ≠ q6:=by omega
    replace uq5:q5 < W4_.heap.size:=by omega
    replace hsw:w.heap.size≤W4_.heap.size:=by omega
    replace up2:p2 < W4_.heap.size:=by omega
    clear hq_ hal_ hsz_ hq6
    refine hK.out _ _ ((blk_cell b1 0).trans rfl) (fun hHeld=>?_)
    clear hK K
    refine norm_ (a':=?_) ?_ ?_
    rotate_left
    ·show Act.put _ (some 6) _=_
     simp only [Act.put,q1,q2,q3,i64_w,i32_w]
     rfl
    refine one_ (i:=3) (N:=some 15) #[Y,Y,Y,Y,Z,Z,Z,Z,Y,Y,Z,Z,Z] rfl rfl D3 D4 (fun K hK=>?_)
    refine goes_ Try.func175 D3 rfl #[.agg #[.slice A0 n c0], .agg #[.slice A14 n c14]] D11 rfl rfl D23 ?_
    have hc:=spec_l2Reduce.calls A0 c0 l0 A14 c14 (idM n) n n W4_ (Kd.C_below HR0.out HB) D44 hI D45 HOK.out (idM_ok n) D43 D42 D27 hn2 hn2
    rw [← HN.out,idM_length,← HZ.out,← HD.out] at hc
    refine hc.mono ?_
    clear hc
    rintro e W5_ ⟨A5,n5,c5,v1,rfl,hN0,hb⟩
    refine ⟨_,rfl,?_⟩
    obtain ⟨A6,c6,e6⟩:=Kd.N_slice hN0
    generalize hn6:D.length=n6 at e6
    subst e6
    obtain ⟨lo,hlo⟩:∃ z,z=W4_.heap.size:=⟨_,rfl⟩
    obtain ⟨hi,hhi⟩:∃ z,z=W5_.heap.size:=⟨_,rfl⟩
    have hN:=Kd.N_lower (Kd.N_mono (Kd.N_bound hN0) (ok':=fun b=>lo≤b∧b < hi) (fun b hk=>⟨D56,D55⟩)) hsw
    clear hN0
    have hlw:w.heap.size≤lo:=by omega
    have rp2:p2 < lo:=by omega
    have uhi:hi≤W5_.heap.size:=by omega
    have rq5:q5 < lo∨hi≤q5:=Or.inl D5
    have rq6:q6 < lo∨hi≤q6:=Or.inl D5
    clear hlo hhi
    have hsz_:=hb.size
    replace b1:=qb b1 hb
    replace b2:=qb b2 hb
    replace b5:=qb b5 hb
    replace b6:=qb b6 hb
    replace HB:=pu HB hb
    replace hsw:w.heap.size≤W5_.heap.size:=by omega
    replace up2:p2 < W5_.heap.size:=by omega
    replace uq5:q5 < W5_.heap.size:=by omega
    replace uq6:q6 < W5_.heap.size:=by omega
    clear hb hsz_
    refine hK.out _ _ ((blk_cell b1 0).trans rfl) (fun hHeld=>?_)
    clear hK K
    refine norm_ (a':=?_) ?_ ?_
    rotate_left
    ·show Act.put _ (some 15) _=_
     simp only [Act.put,q1,q2,q3,i64_w,i32_w]
     rfl
    refine pure_ (i:=4) (N:=some 11) (v:=?_) (a':=?_) #[Y,Y,Y,Y,Y,Z,Z,Z,Y,Y,Z,Z,Z] rfl rfl D3 hh (Or.inl ⟨D11,?_⟩) ?_ ?_
    rotate_left
    ·intro w'
     go_simp
     with_reducible rfl
    rotate_left
    ·simp only [Act.put,q1,q2,q3,i64_w,i32_w]
     rfl
    refine pure_ (i:=5) (N:=some 16) (v:=?_) (a':=?_) #[Y,Y,Y,Y,Y,Y,Z,Z,Y,Y,Z,Z,Z] rfl rfl D3 hh (Or.inl ⟨D11,?_⟩) ?_ ?_
    rotate_left
    ·intro w'
     go_simp
     with_reducible rfl
    rotate_left
    ·simp only [Act.put,q1,q2,q3,i64_w,i32_w]
     rfl
    refine pure_ (i:=6) (N:=some 17) (v:=?_) (a':=?_) #[Y,Y,Y,Y,Y,Y,Y,Z,Y,Y,Z,Z,Z] rfl rfl D3 hh (Or.inl ⟨D11,?_⟩) ?_ ?_
    rotate_left
    ·intro w'
     go_simp
     with_reducible rfl
    rotate_left
    ·simp only [Act.put,q1,q2,q3,i64_w,i32_w]
     rfl
    refine pure_ (i:=7) (N:=some 18) (v:=?_) (a':=?_) #[Y,Y,Y,Y,Y,Y,Y,Y,Y,Y,Z,Z,Z] rfl rfl D3 hh (Or.inl ⟨D11,?_⟩) ?_ ?_
    rotate_left
    ·intro w'
     go_simp
     with_reducible rfl
    rotate_left
    ·simp only [Act.put,q1,q2,q3,i64_w,i32_w]
     rfl
    refine norm_ ?_ (hcont (q5,q6,(A14,c14),(A5,n5,c5),(A6,n6,c6)) _ ⟨HB,b2,b5,b6,hne,lq5,lq6,lo,hi,hN,rq5,rq6,rp2,hlw,np25,np26⟩)
    first|(simp only [putAll,Act.put,q1,q2,q3];done)|rfl|(simp only [putAll,Act.put,q1,q2,q3];rfl)
   skip
   refine value_ (v:=.pointer (some ⟨W2_.heap.size,0,none⟩)) (w1:=W2_.alloc (.cells #[.slice none 0 0] 43 (0,0))) D11 rfl ?_ ?_
   ·first|(go_simp;done)|(go_simp;rfl)
   have hq_:=Below.refl W2_.heap.size W2_
   have hal_:=pa hq_ (.cells #[.slice none 0 0] 43 (0,0))
   have b6:=heap_alloc_new W2_ (.cells #[.slice none 0 0] 43 (0,0))
   have hsz_:(W2_.alloc (.cells #[.slice none 0 0] 43 (0,0))).heap.size=W2_.heap.size+1:=by simp
   replace b1:=qa b1 (.cells #[.slice none 0 0] 43 (0,0))
   replace b2:=qa b2 (.cells #[.slice none 0 0] 43 (0,0))
   replace HB:=pa HB (.cells #[.slice none 0 0] 43 (0,0))
   replace hI:=Kd.C_alloc hI (.cells #[.slice none 0 0] 43 (0,0))
   generalize W2_.alloc (.cells #[.slice none 0 0] 43 (0,0))=W3_ at *
   obtain ⟨q6,hq6⟩:∃ q6,q6=W2_.heap.size:=⟨_,rfl⟩
   rw [← hq6] at b6 ⊢
   have lq6:w.heap.size≤q6:=by omega
   have np26:p2 ≠ q6:=by omega
   have uq6:q6 < W3_.heap.size:=by omega
   replace hsw:w.heap.size≤W3_.heap.size:=by omega
   replace up2:p2 < W3_.heap.size:=by omega
   clear hq_ hal_ hsz_ hq6
   refine hK.out _ _ ((blk_cell b1 0).trans rfl) (fun hHeld=>?_)
   clear hK K
   refine norm_ (a':=?_) ?_ ?_
   rotate_left
   ·show Act.put _ (some 6) _=_
    simp only [Act.put,q1,q2,q3,i64_w,i32_w]
    rfl
   refine two_ (i:=3) (j:=8) (Ni:=some 15) (Nj:=some 5) #[Y,Y,Y,Y,Z,Z,Z,Z,Z,Y,Z,Z,Z] #[Y,Y,Y,Z,Z,Z,Z,Z,Y,Y,Z,Z,Z] rfl rfl rfl rfl D3 D4 D4 (fun K hK=>?_) (fun K hK=>?_)
   ·skip
    refine goes_ Try.func175 D3 rfl #[.agg #[.slice A0 n c0], .agg #[.slice A14 n c14]] D11 rfl rfl D23 ?_
    have hc:=spec_l2Reduce.calls A0 c0 l0 A14 c14 (idM n) n n W3_ (Kd.C_below HR0.out HB) D44 hI D45 HOK.out (idM_ok n) D43 D42 D27 hn2 hn2
    rw [← HN.out,idM_length,← HZ.out,← HD.out] at hc
    refine hc.mono ?_
    clear hc
    rintro e W4_ ⟨A5,n5,c5,v1,rfl,hN0,hb⟩
    refine ⟨_,rfl,?_⟩
    obtain ⟨A6,c6,e6⟩:=Kd.N_slice hN0
    generalize hn6:D.length=n6 at e6
    subst e6
    obtain ⟨lo,hlo⟩:∃ z,z=W3_.heap.size:=⟨_,rfl⟩
    obtain ⟨hi,hhi⟩:∃ z,z=W4_.heap.size:=⟨_,rfl⟩
    have hN:=Kd.N_lower (Kd.N_mono (Kd.N_bound hN0) (ok':=fun b=>lo≤b∧b < hi) (fun b hk=>⟨D56,D55⟩)) hsw
    clear hN0
    have hlw:w.heap.size≤lo:=by omega
    have rp2:p2 < lo:=by omega
    have uhi:hi≤W4_.heap.size:=by omega
    have rq6:q6 < lo∨hi≤q6:=Or.inl D5
    clear hlo hhi
    have hsz_:=hb.size
    replace b1:=qb b1 hb
    replace b2:=qb b2 hb
    replace b6:=qb b6 hb
    replace HB:=pu HB hb
    replace hsw:w.heap.size≤W4_.heap.size:=by omega
    replace up2:p2 < W4_.heap.size:=by omega
    replace uq6:q6 < W4_.heap.size:=by omega
    clear hb hsz_
    refine hK.out _ _ ((blk_cell b1 0).trans rfl) (fun hHeld=>?_)
    clear hK K
    refine norm_ (a':=?_) ?_ ?_
    rotate_left
    ·show Act.put _ (some 15) _=_
     simp only [Act.put,q1,q2,q3,i64_w,i32_w]
     rfl
    refine pure_ (i:=4) (N:=some 11) (v:=?_) (a':=?_) #[Y,Y,Y,Y,Y,Z,Z,Z,Z,Y,Z,Z,Z] rfl rfl D3 hh (Or.inl ⟨D11,?_⟩) ?_ ?_
    rotate_left
    ·intro w'
     go_simp
     with_reducible rfl
    rotate_left
    ·simp only [Act.put,q1,q2,q3,i64_w,i32_w]
     rfl
    refine pure_ (i:=5) (N:=some 16) (v:=?_) (a':=?_) #[Y,Y,Y,Y,Y,Y,Z,Z,Z,Y,Z,Z,Z] rfl rfl D3 hh (Or.inl ⟨D11,?_⟩) ?_ ?_
    rotate_left
    ·intro w'
     go_simp
     with_reducible rfl
    rotate_left
    ·simp only [Act.put,q1,q2,q3,i64_w,i32_w]
     rfl
    refine pure_ (i:=6) (N:=some 17) (v:=?_) (a':=?_) #[Y,Y,Y,Y,Y,Y,Y,Z,Z,Y,Z,Z,Z] rfl rfl D3 hh (Or.inl ⟨D11,?_⟩) ?_ ?_
    rotate_left
    ·intro w'
     go_simp
     with_reducible rfl
    rotate_left
    ·simp only [Act.put,q1,q2,q3,i64_w,i32_w]
     rfl
    refine pure_ (i:=7) (N:=some 18) (v:=?_) (a':=?_) #[Y,Y,Y,Y,Y,Y,Y,Y,Z,Y,Z,Z,Z] rfl rfl D3 hh (Or.inl ⟨D11,?_⟩) ?_ ?_
    rotate_left
    ·intro w'
     go_simp
     with_reducible rfl
    rotate_left
    ·simp only [Act.put,q1,q2,q3,i64_w,i32_w]
     rfl
    refine one_ (i:=8) (N:=some 5) #[Y,Y,Y,Y,Y,Y,Y,Y,Y,Y,Z,Z,Z] rfl rfl D3 D4 (fun K hK=>?_)
    refine value_ (v:=.pointer (some ⟨W4_.heap.size,0,none⟩)) (w1:=W4_.alloc (.cells #[.slice none 0 0] 43 (0,0))) D11 rfl ?_ ?_
    ·first|(go_simp;done)|(go_simp;rfl)
    have hq_:=Below.refl W4_.heap.size W4_
    have hal_:=pa hq_ (.cells #[.slice none 0 0] 43 (0,0))
    have b5:=heap_alloc_new W4_ (.cells #[.slice none 0 0] 43 (0,0))
    have hsz_:(W4_.alloc (.cells #[.slice none 0 0] 43 (0,0))).heap.size=W4_.heap.size+1:=by simp
    replace b1:=qa b1 (.cells #[.slice none 0 0] 43 (0,0))
    replace b2:=qa b2 (.cells #[.slice none 0 0] 43 (0,0))
    replace b6:=qa b6 (.cells #[.slice none 0 0] 43 (0,0))
    replace HB:=pa HB (.cells #[.slice none 0 0] 43 (0,0))
    replace hN:=Kd.N_alloc hN (.cells #[.slice none 0 0] 43 (0,0))
    generalize W4_.alloc (.cells #[.slice none 0 0] 43 (0,0))=W5_ at *
    obtain ⟨q5,hq5⟩:∃ q5,q5=W4_.heap.size:=⟨_,rfl⟩
    rw [← hq5] at b5 ⊢
    have lq5:w.heap.size≤q5:=by omega
    have np25:p2 ≠ q5:=by omega
    have uq5:q5 < W5_.heap.size:=by omega
    have hne:q5 ≠ q6:=by omega
    replace uq6:q6 < W5_.heap.size:=by omega
    have rq5:q5 < lo∨hi≤q5:=Or.inr D5
    replace uhi:hi≤W5_.heap.size:=by omega
    replace hsw:w.heap.size≤W5_.heap.size:=by omega
    replace up2:p2 < W5_.heap.size:=by omega
    clear hq_ hal_ hsz_ hq5
    refine hK.out _ _ ((blk_cell b1 0).trans rfl) (fun hHeld=>?_)
    clear hK K
    refine norm_ (a':=?_) ?_ ?_
    rotate_left
    ·show Act.put _ (some 5) _=_
     simp only [Act.put,q1,q2,q3,i64_w,i32_w]
     rfl
    refine norm_ ?_ (hcont (q5,q6,(A14,c14),(A5,n5,c5),(A6,n6,c6)) _ ⟨HB,b2,b5,b6,hne,lq5,lq6,lo,hi,hN,rq5,rq6,rp2,hlw,np25,np26⟩)
    first|(simp only [putAll,Act.put,q1,q2,q3];done)|rfl|(simp only [putAll,Act.put,q1,q2,q3];rfl)
   skip
   refine value_ (v:=.pointer (some ⟨W3_.heap.size,0,none⟩)) (w1:=W3_.alloc (.cells #[.slice none 0 0] 43 (0,0))) D11 rfl ?_ ?_
   ·first|(go_simp;done)|(go_simp;rfl)
   have hq_:=Below.refl W3_.heap.size W3_
   have hal_:=pa hq_ (.cells #[.slice none 0 0] 43 (0,0))
   have b5:=heap_alloc_new W3_ (.cells #[.slice none 0 0] 43 (0,0))
   have hsz_:(W3_.alloc (.cells #[.slice none 0 0] 43 (0,0))).heap.size=W3_.heap.size+1:=by simp
   replace b1:=qa b1 (.cells #[.slice none 0 0] 43 (0,0))
   replace b2:=qa b2 (.cells #[.slice none 0 0] 43 (0,0))
   replace b6:=qa b6 (.cells #[.slice none 0 0] 43 (0,0))
   replace HB:=pa HB (.cells #[.slice none 0 0] 43 (0,0))
   replace hI:=Kd.C_alloc hI (.cells #[.slice none 0 0] 43 (0,0))
   generalize W3_.alloc (.cells #[.slice none 0 0] 43 (0,0))=W4_ at *
   obtain ⟨q5,hq5⟩:∃ q5,q5=W3_.heap.size:=⟨_,rfl⟩
   rw [← hq5] at b5 ⊢
   have lq5:w.heap.size≤q5:=by omega
   have np25:p2 ≠ q5:=by omega
   have uq5:q5 < W4_.heap.size:=by omega
   have hne:q5 ≠ q6:=by omega
   replace uq6:q6 < W4_.heap.size:=by omega
   replace hsw:w.heap.size≤W4_.heap.size:=by omega
   replace up2:p2 < W4_.heap.size:=by omega
   clear hq_ hal_ hsz_ hq5
   refine hK.out _ _ ((blk_cell b1 0).trans rfl) (fun hHeld=>?_)
   clear hK K
   refine norm_ (a':=?_) ?_ ?_
   rotate_left
   ·show Act.put _ (some 5) _=_
    simp only [Act.put,q1,q2,q3,i64_w,i32_w]
    rfl
   refine one_ (i:=3) (N:=some 15) #[Y,Y,Y,Y,Z,Z,Z,Z,Y,Y,Z,Z,Z] rfl rfl D3 D4 (fun K hK=>?_)
   refine goes_ Try.func175 D3 rfl #[.agg #[.slice A0 n c0], .agg #[.slice A14 n c14]] D11 rfl rfl D23 ?_
   have hc:=spec_l2Reduce.calls A0 c0 l0 A14 c14 (idM n) n n W4_ (Kd.C_below HR0.out HB) D44 hI D45 HOK.out (idM_ok n) D43 D42 D27 hn2 hn2
   rw [← HN.out,idM_length,← HZ.out,← HD.out] at hc
   refine hc.mono ?_
   clear hc
   rintro e W5_ ⟨A5,n5,c5,v1,rfl,hN0,hb⟩
   refine ⟨_,rfl,?_⟩
   obtain ⟨A6,c6,e6⟩:=Kd.N_slice hN0
   generalize hn6:D.length=n6 at e6
   subst e6
   obtain ⟨lo,hlo⟩:∃ z,z=W4_.heap.size:=⟨_,rfl⟩
   obtain ⟨hi,hhi⟩:∃ z,z=W5_.heap.size:=⟨_,rfl⟩
   have hN:=Kd.N_lower (Kd.N_mono (Kd.N_bound hN0) (ok':=fun b=>lo≤b∧b < hi) (fun b hk=>⟨D56,D55⟩)) hsw
   clear hN0
   have hlw:w.heap.size≤lo:=by omega
   have rp2:p2 < lo:=by omega
   have uhi:hi≤W5_.heap.size:=by omega
   have rq5:q5 < lo∨hi≤q5:=Or.inl D5
   have rq6:q6 < lo∨hi≤q6:=Or.inl D5
   clear hlo hhi
   have hsz_:=hb.size
   replace b1:=qb b1 hb
   replace b2:=qb b2 hb
   replace b5:=qb b5 hb
   replace b6:=qb b6 hb
   replace HB:=pu HB hb
   replace hsw:w.heap.size≤W5_.heap.size:=by omega
   replace up2:p2 < W5_.heap.size:=by omega
   replace uq5:q5 < W5_.heap.size:=by omega
   replace uq6:q6 < W5_.heap.size:=by omega
   clear hb hsz_
   refine hK.out _ _ ((blk_cell b1 0).trans rfl) (fun hHeld=>?_)
   clear hK K
   refine norm_ (a':=?_) ?_ ?_
   rotate_left
   ·show Act.put _ (some 15) _=_
    simp only [Act.put,q1,q2,q3,i64_w,i32_w]
    rfl
   refine pure_ (i:=4) (N:=some 11) (v:=?_) (a':=?_) #[Y,Y,Y,Y,Y,Z,Z,Z,Y,Y,Z,Z,Z] rfl rfl D3 hh (Or.inl ⟨D11,?_⟩) ?_ ?_
   rotate_left
   ·intro w'
    go_simp
    with_reducible rfl
   rotate_left
   ·simp only [Act.put,q1,q2,q3,i64_w,i32_w]
    rfl
   refine pure_ (i:=5) (N:=some 16) (v:=?_) (a':=?_) #[Y,Y,Y,Y,Y,Y,Z,Z,Y,Y,Z,Z,Z] rfl rfl D3 hh (Or.inl ⟨D11,?_⟩) ?_ ?_
   rotate_left
   ·intro w'
    go_simp
    with_reducible rfl
   rotate_left
   ·simp only [Act.put,q1,q2,q3,i64_w,i32_w]
    rfl
   refine pure_ (i:=6) (N:=some 17) (v:=?_) (a':=?_) #[Y,Y,Y,Y,Y,Y,Y,Z,Y,Y,Z,Z,Z] rfl rfl D3 hh (Or.inl ⟨D11,?_⟩) ?_ ?_
   rotate_left
   ·intro w'
    go_simp
    with_reducible rfl
   rotate_left
   ·simp only [Act.put,q1,q2,q3,i64_w,i32_w]
    rfl
   refine pure_ (i:=7) (N:=some 18) (v:=?_) (a':=?_) #[Y,Y,Y,Y,Y,Y,Y,Y,Y,Y,Z,Z,Z] rfl rfl D3 hh (Or.inl ⟨D11,?_⟩) ?_ ?_
   rotate_left
   ·intro w'
    go_simp
    with_reducible rfl
   rotate_left
   ·simp only [Act.put,q1,q2,q3,i64_w,i32_w]
    rfl
   refine norm_ ?_ (hcont (q5,q6,(A14,c14),(A5,n5,c5),(A6,n6,c6)) _ ⟨HB,b2,b5,b6,hne,lq5,lq6,lo,hi,hN,rq5,rq6,rp2,hlw,np25,np26⟩)
   first|(simp only [putAll,Act.put,q1,q2,q3];done)|rfl|(simp only [putAll,Act.put,q1,q2,q3];rfl)
  ·skip
   refine value_ (v:=.pointer (some ⟨W1.heap.size,0,none⟩)) (w1:=W1.alloc (.cells #[.slice none 0 0] 43 (0,0))) D11 rfl ?_ ?_
   ·first|(go_simp;done)|(go_simp;rfl)
   have hq_:=Below.refl W1.heap.size W1
   have hal_:=pa hq_ (.cells #[.slice none 0 0] 43 (0,0))
   have b5:=heap_alloc_new W1 (.cells #[.slice none 0 0] 43 (0,0))
   have hsz_:(W1.alloc (.cells #[.slice none 0 0] 43 (0,0))).heap.size=W1.heap.size+1:=by simp
   replace b1:=qa b1 (.cells #[.slice none 0 0] 43 (0,0))
   replace b2:=qa b2 (.cells #[.slice none 0 0] 43 (0,0))
   replace HB:=pa HB (.cells #[.slice none 0 0] 43 (0,0))
   generalize W1.alloc (.cells #[.slice none 0 0] 43 (0,0))=W2_ at *
   obtain ⟨q5,hq5⟩:∃ q5,q5=W1.heap.size:=⟨_,rfl⟩
   rw [← hq5] at b5 ⊢
   have lq5:w.heap.size≤q5:=by omega
   have np25:p2 ≠ q5:=by omega
   have uq5:q5 < W2_.heap.size:=by omega
   replace hsw:w.heap.size≤W2_.heap.size:=by omega
   replace up2:p2 < W2_.heap.size:=by omega
   clear hq_ hal_ hsz_ hq5
   refine hK.out _ _ ((blk_cell b1 0).trans rfl) (fun hHeld=>?_)
   clear hK K
   refine norm_ (a':=?_) ?_ ?_
   rotate_left
   ·show Act.put _ (some 5) _=_
    simp only [Act.put,q1,q2,q3,i64_w,i32_w]
    rfl
   refine two_ (i:=2) (j:=9) (Ni:=some 14) (Nj:=some 6) #[Y,Y,Y,Z,Z,Z,Z,Z,Y,Z,Z,Z,Z] #[Y,Y,Z,Z,Z,Z,Z,Z,Y,Y,Z,Z,Z] rfl rfl rfl rfl D3 D4 D4 (fun K hK=>?_) (fun K hK=>?_)
   ·skip
    refine goes_ Try.func176 D3 rfl #[.int .i64 n] D11 rfl rfl D23 ?_
    refine (spec_l2Identity.calls kI (n:Int) (idM n) _ HI.out).mono ?_
    rintro e W3_ ⟨v14,rfl,ho,hb⟩
    refine ⟨_,rfl,?_⟩
    obtain ⟨A14,c14,e14⟩:=Kd.S_slice ho
    rw [idM_length] at e14
    subst e14
    have hI:=(Kd.S_reads' ho).2.2
    have hIc:=(Kd.S_reads' ho).2.1
    clear ho
    have hsz_:=hb.size
    replace b1:=qb b1 hb
    replace b2:=qb b2 hb
    replace b5:=qb b5 hb
    replace HB:=pu HB hb
    replace hsw:w.heap.size≤W3_.heap.size:=by omega
    replace up2:p2 < W3_.heap.size:=by omega
    replace uq5:q5 < W3_.heap.size:=by omega
    clear hb hsz_
    refine hK.out _ _ ((blk_cell b1 0).trans rfl) (fun hHeld=>?_)
    clear hK K
    refine norm_ (a':=?_) ?_ ?_
    rotate_left
    ·show Act.put _ (some 14) _=_
     simp only [Act.put,q1,q2,q3,i64_w,i32_w]
     rfl
    refine two_ (i:=3) (j:=9) (Ni:=some 15) (Nj:=some 6) #[Y,Y,Y,Y,Z,Z,Z,Z,Y,Z,Z,Z,Z] #[Y,Y,Y,Z,Z,Z,Z,Z,Y,Y,Z,Z,Z] rfl rfl rfl rfl D3 D4 D4 (fun K hK=>?_) (fun K hK=>?_)
    ·skip
     refine goes_ Try.func175 D3 rfl #[.agg #[.slice A0 n c0], .agg #[.slice A14 n c14]] D11 rfl rfl D23 ?_
     have hc:=spec_l2Reduce.calls A0 c0 l0 A14 c14 (idM n) n n W3_ (Kd.C_below HR0.out HB) D44 hI D45 HOK.out (idM_ok n) D43 D42 D27 hn2 hn2
     rw [← HN.out,idM_length,← HZ.out,← HD.out] at hc
     refine hc.mono ?_
     clear hc
     rintro e W4_ ⟨A5,n5,c5,v1,rfl,hN0,hb⟩
     refine ⟨_,rfl,?_⟩
     obtain ⟨A6,c6,e6⟩:=Kd.N_slice hN0
     generalize hn6:D.length=n6 at e6
     subst e6
     obtain ⟨lo,hlo⟩:∃ z,z=W3_.heap.size:=⟨_,rfl⟩
     obtain ⟨hi,hhi⟩:∃ z,z=W4_.heap.size:=⟨_,rfl⟩
     have hN:=Kd.N_lower (Kd.N_mono (Kd.N_bound hN0) (ok':=fun b=>lo≤b∧b < hi) (fun b hk=>⟨D56,D55⟩)) hsw
     clear hN0
     have hlw:w.heap.size≤lo:=by omega
     have rp2:p2 < lo:=by omega
     have uhi:hi≤W4_.heap.size:=by omega
     have rq5:q5 < lo∨hi≤q5:=Or.inl D5
     clear hlo hhi
     have hsz_:=hb.size
     replace b1:=qb b1 hb
     replace b2:=qb b2 hb
     replace b5:=qb b5 hb
     replace HB:=pu HB hb
     replace hsw:w.heap.size≤W4_.heap.size:=by omega
     replace up2:p2 < W4_.heap.size:=by omega
     replace uq5:q5 < W4_.heap.size:=by omega
     clear hb hsz_
     refine hK.out _ _ ((blk_cell b1 0).trans rfl) (fun hHeld=>?_)
     clear hK K
     refine norm_ (a':=?_) ?_ ?_
     rotate_left
     ·show Act.put _ (some 15) _=_
      simp only [Act.put,q1,q2,q3,i64_w,i32_w]
      rfl
     refine pure_ (i:=4) (N:=some 11) (v:=?_) (a':=?_) #[Y,Y,Y,Y,Y,Z,Z,Z,Y,Z,Z,Z,Z] rfl rfl D3 hh (Or.inl ⟨D11,?_⟩) ?_ ?_
     rotate_left
     ·intro w'
      go_simp
      with_reducible rfl
     rotate_left
     ·simp only [Act.put,q1,q2,q3,i64_w,i32_w]
      rfl
     refine pure_ (i:=5) (N:=some 16) (v:=?_) (a':=?_) #[Y,Y,Y,Y,Y,Y,Z,Z,Y,Z,Z,Z,Z] rfl rfl D3 hh (Or.inl ⟨D11,?_⟩) ?_ ?_
     rotate_left
     ·intro w'
      go_simp
      with_reducible rfl
     rotate_left
     ·simp only [Act.put,q1,q2,q3,i64_w,i32_w]
      rfl
     refine pure_ (i:=6) (N:=some 17) (v:=?_) (a':=?_) #[Y,Y,Y,Y,Y,Y,Y,Z,Y,Z,Z,Z,Z] rfl rfl D3 hh (Or.inl ⟨D11,?_⟩) ?_ ?_
     rotate_left
     ·intro w'
      go_simp
      with_reducible rfl
     rotate_left
     ·simp only [Act.put,q1,q2,q3,i64_w,i32_w]
      rfl
     refine pure_ (i:=7) (N:=some 18) (v:=?_) (a':=?_) #[Y,Y,Y,Y,Y,Y,Y,Y,Y,Z,Z,Z,Z] rfl rfl D3 hh (Or.inl ⟨D11,?_⟩) ?_ ?_
     rotate_left
     ·intro w'
      go_simp
      with_reducible rfl
     rotate_left
     ·simp only [Act.put,q1,q2,q3,i64_w,i32_w]
      rfl
     refine one_ (i:=9) (N:=some 6) #[Y,Y,Y,Y,Y,Y,Y,Y,Y,Y,Z,Z,Z] rfl rfl D3 D4 (fun K hK=>?_)
     refine value_ (v:=.pointer (some ⟨W4_.heap.size,0,none⟩)) (w1:=W4_.alloc (.cells #[.slice none 0 0] 43 (0,0))) D11 rfl ?_ ?_
     ·first|(go_simp;done)|(go_simp;rfl)
     have hq_:=Below.refl W4_.heap.size W4_
     have hal_:=pa hq_ (.cells #[.slice none 0 0] 43 (0,0))
     have b6:=heap_alloc_new W4_ (.cells #[.slice none 0 0] 43 (0,0))
     have hsz_:(W4_.alloc (.cells #[.slice none 0 0] 43 (0,0))).heap.size=W4_.heap.size+1:=by simp
     replace b1:=qa b1 (.cells #[.slice none 0 0] 43 (0,0))
     replace b2:=qa b2 (.cells #[.slice none 0 0] 43 (0,0))
     replace b5:=qa b5 (.cells #[.slice none 0 0] 43 (0,0))
     replace HB:=pa HB (.cells #[.slice none 0 0] 43 (0,0))
     replace hN:=Kd.N_alloc hN (.cells #[.slice none 0 0] 43 (0,0))
     generalize W4_.alloc (.cells #[.slice none 0 0] 43 (0,0))=W5_ at *
     obtain ⟨q6,hq6⟩:∃ q6,q6=W4_.heap.size:=⟨_,rfl⟩
     rw [← hq6] at b6 ⊢
     have lq6:w.heap.size≤q6:=by omega
     have np26:p2 ≠ q6:=by omega
     have uq6:q6 < W5_.heap.size:=by omega
     have hne:q5 ≠ q6:=by omega
     replace uq5:q5 < W5_.heap.size:=by omega
     have rq6:q6 < lo∨hi≤q6:=Or.inr D5
     replace uhi:hi≤W5_.heap.size:=by omega
     replace hsw:w.heap.size≤W5_.heap.size:=by omega
     replace up2:p2 < W5_.heap.size:=by omega
     clear hq_ hal_ hsz_ hq6
     refine hK.out _ _ ((blk_cell b1 0).trans rfl) (fun hHeld=>?_)
     clear hK K
     refine norm_ (a':=?_) ?_ ?_
     rotate_left
     ·show Act.put _ (some 6) _=_
      simp only [Act.put,q1,q2,q3,i64_w,i32_w]
      rfl
     refine norm_ ?_ (hcont (q5,q6,(A14,c14),(A5,n5,c5),(A6,n6,c6)) _ ⟨HB,b2,b5,b6,hne,lq5,lq6,lo,hi,hN,rq5,rq6,rp2,hlw,np25,np26⟩)
     first|(simp only [putAll,Act.put,q1,q2,q3];done)|rfl|(simp only [putAll,Act.put,q1,q2,q3];rfl)
    skip
    refine value_ (v:=.pointer (some ⟨W3_.heap.size,0,none⟩)) (w1:=W3_.alloc (.cells #[.slice none 0 0] 43 (0,0))) D11 rfl ?_ ?_
    ·first|(go_simp;done)|(go_simp;rfl)
    have hq_:=Below.refl W3_.heap.size W3_
    have hal_:=pa hq_ (.cells #[.slice none 0 0] 43 (0,0))
    have b6:=heap_alloc_new W3_ (.cells #[.slice none 0 0] 43 (0,0))
    have hsz_:(W3_.alloc (.cells #[.slice none 0 0] 43 (0,0))).heap.size=W3_.heap.size+1:=by simp
    replace b1:=qa b1 (.cells #[.slice none 0 0] 43 (0,0))
    replace b2:=qa b2 (.cells #[.slice none 0 0] 43 (0,0))
    replace b5:=qa b5 (.cells #[.slice none 0 0] 43 (0,0))
    replace HB:=pa HB (.cells #[.slice none 0 0] 43 (0,0))
    replace hI:=Kd.C_alloc hI (.cells #[.slice none 0 0] 43 (0,0))
    generalize W3_.alloc (.cells #[.slice none 0 0] 43 (0,0))=W4_ at *
    obtain ⟨q6,hq6⟩:∃ q6,q6=W3_.heap.size:=⟨_,rfl⟩
    rw [← hq6] at b6 ⊢
    have lq6:w.heap.size≤q6:=by omega
    have np26:p2 ≠ q6:=by omega
    have uq6:q6 < W4_.heap.size:=by omega
    have hne:q5 ≠ q6:=by omega
    replace uq5:q5 < W4_.heap.size:=by omega
    replace hsw:w.heap.size≤W4_.heap.size:=by omega
    replace up2:p2 < W4_.heap.size:=by omega
    clear hq_ hal_ hsz_ hq6
    refine hK.out _ _ ((blk_cell b1 0).trans rfl) (fun hHeld=>?_)
    clear hK K
    refine norm_ (a':=?_) ?_ ?_
    rotate_left
    ·show Act.put _ (some 6) _=_
     simp only [Act.put,q1,q2,q3,i64_w,i32_w]
     rfl
    refine one_ (i:=3) (N:=some 15) #[Y,Y,Y,Y,Z,Z,Z,Z,Y,Y,Z,Z,Z] rfl rfl D3 D4 (fun K hK=>?_)
    refine goes_ Try.func175 D3 rfl #[.agg #[.slice A0 n c0], .agg #[.slice A14 n c14]] D11 rfl rfl D23 ?_
    have hc:=spec_l2Reduce.calls A0 c0 l0 A14 c14 (idM n) n n W4_ (Kd.C_below HR0.out HB) D44 hI D45 HOK.out (idM_ok n) D43 D42 D27 hn2 hn2
    rw [← HN.out,idM_length,← HZ.out,← HD.out] at hc
    refine hc.mono ?_
    clear hc
    rintro e W5_ ⟨A5,n5,c5,v1,rfl,hN0,hb⟩
    refine ⟨_,rfl,?_⟩
    obtain ⟨A6,c6,e6⟩:=Kd.N_slice hN0
    generalize hn6:D.length=n6 at e6
    subst e6
    obtain ⟨lo,hlo⟩:∃ z,z=W4_.heap.size:=⟨_,rfl⟩
    obtain ⟨hi,hhi⟩:∃ z,z=W5_.heap.size:=⟨_,rfl⟩
    have hN:=Kd.N_lower (Kd.N_mono (Kd.N_bound hN0) (ok':=fun b=>lo≤b∧b < hi) (fun b hk=>⟨D56,D55⟩)) hsw
    clear hN0
    have hlw:w.heap.size≤lo:=by omega
    have rp2:p2 < lo:=by omega
    have uhi:hi≤W5_.heap.size:=by omega
    have rq5:q5 < lo∨hi≤q5:=Or.inl D5
    have rq6:q6 < lo∨hi≤q6:=Or.inl D5
    clear hlo hhi
    have hsz_:=hb.size
    replace b1:=qb b1 hb
    replace b2:=qb b2 hb
    replace b5:=qb b5 hb
    replace b6:=qb b6 hb
    replace HB:=pu HB hb
    replace hsw:w.heap.size≤W5_.heap.size:=by omega
    replace up2:p2 < W5_.heap.size:=by omega
    replace uq5:q5 < W5_.heap.size:=by omega
    replace uq6:q6 < W5_.heap.size:=by omega
    clear hb hsz_
    refine hK.out _ _ ((blk_cell b1 0).trans rfl) (fun hHeld=>?_)
    clear hK K
    refine norm_ (a':=?_) ?_ ?_
    rotate_left
    ·show Act.put _ (some 15) _=_
     simp only [Act.put,q1,q2,q3,i64_w,i32_w]
     rfl
    refine pure_ (i:=4) (N:=some 11) (v:=?_) (a':=?_) #[Y,Y,Y,Y,Y,Z,Z,Z,Y,Y,Z,Z,Z] rfl rfl D3 hh (Or.inl ⟨D11,?_⟩) ?_ ?_
    rotate_left
    ·intro w'
     go_simp
     with_reducible rfl
    rotate_left
    ·simp only [Act.put,q1,q2,q3,i64_w,i32_w]
     rfl
    refine pure_ (i:=5) (N:=some 16) (v:=?_) (a':=?_) #[Y,Y,Y,Y,Y,Y,Z,Z,Y,Y,Z,Z,Z] rfl rfl D3 hh (Or.inl ⟨D11,?_⟩) ?_ ?_
    rotate_left
    ·intro w'
     go_simp
     with_reducible rfl
    rotate_left
    ·simp only [Act.put,q1,q2,q3,i64_w,i32_w]
     rfl
    refine pure_ (i:=6) (N:=some 17) (v:=?_) (a':=?_) #[Y,Y,Y,Y,Y,Y,Y,Z,Y,Y,Z,Z,Z] rfl rfl D3 hh (Or.inl ⟨D11,?_⟩) ?_ ?_
    rotate_left
    ·intro w'
     go_simp
     with_reducible rfl
    rotate_left
    ·simp only [Act.put,q1,q2,q3,i64_w,i32_w]
     rfl
    refine pure_ (i:=7) (N:=some 18) (v:=?_) (a':=?_) #[Y,Y,Y,Y,Y,Y,Y,Y,Y,Y,Z,Z,Z] rfl rfl D3 hh (Or.inl ⟨D11,?_⟩) ?_ ?_
    rotate_left
    ·intro w'
     go_simp
     with_reducible rfl
    rotate_left
    ·simp only [Act.put,q1,q2,q3,i64_w,i32_w]
     rfl
    refine norm_ ?_ (hcont (q5,q6,(A14,c14),(A5,n5,c5),(A6,n6,c6)) _ ⟨HB,b2,b5,b6,hne,lq5,lq6,lo,hi,hN,rq5,rq6,rp2,hlw,np25,np26⟩)
    first|(simp only [putAll,Act.put,q1,q2,q3];done)|rfl|(simp only [putAll,Act.put,q1,q2,q3];rfl)
   skip
   refine value_ (v:=.pointer (some ⟨W2_.heap.size,0,none⟩)) (w1:=W2_.alloc (.cells #[.slice none 0 0] 43 (0,0))) D11 rfl ?_ ?_
   ·first|(go_simp;done)|(go_simp;rfl)
   have hq_:=Below.refl W2_.heap.size W2_
   have hal_:=pa hq_ (.cells #[.slice none 0 0] 43 (0,0))
   have b6:=heap_alloc_new W2_ (.cells #[.slice none 0 0] 43 (0,0))
   have hsz_:(W2_.alloc (.cells #[.slice none 0 0] 43 (0,0))).heap.size=W2_.heap.size+1:=by simp
   replace b1:=qa b1 (.cells #[.slice none 0 0] 43 (0,0))
   replace b2:=qa b2 (.cells #[.slice none 0 0] 43 (0,0))
   replace b5:=qa b5 (.cells #[.slice none 0 0] 43 (0,0))
   replace HB:=pa HB (.cells #[.slice none 0 0] 43 (0,0))
   generalize W2_.alloc (.cells #[.slice none 0 0] 43 (0,0))=W3_ at *
   obtain ⟨q6,hq6⟩:∃ q6,q6=W2_.heap.size:=⟨_,rfl⟩
   rw [← hq6] at b6 ⊢
   have lq6:w.heap.size≤q6:=by omega
   have np26:p2 ≠ q6:=by omega
   have uq6:q6 < W3_.heap.size:=by omega
   have hne:q5 ≠ q6:=by omega
   replace uq5:q5 < W3_.heap.size:=by omega
   replace hsw:w.heap.size≤W3_.heap.size:=by omega
   replace up2:p2 < W3_.heap.size:=by omega
   clear hq_ hal_ hsz_ hq6
   refine hK.out _ _ ((blk_cell b1 0).trans rfl) (fun hHeld=>?_)
   clear hK K
   refine norm_ (a':=?_) ?_ ?_
   rotate_left
   ·show Act.put _ (some 6) _=_
    simp only [Act.put,q1,q2,q3,i64_w,i32_w]
    rfl
   refine one_ (i:=2) (N:=some 14) #[Y,Y,Y,Z,Z,Z,Z,Z,Y,Y,Z,Z,Z] rfl rfl D3 D4 (fun K hK=>?_)
   refine goes_ Try.func176 D3 rfl #[.int .i64 n] D11 rfl rfl D23 ?_
   refine (spec_l2Identity.calls kI (n:Int) (idM n) _ HI.out).mono ?_
   rintro e W4_ ⟨v14,rfl,ho,hb⟩
   refine ⟨_,rfl,?_⟩
   obtain ⟨A14,c14,e14⟩:=Kd.S_slice ho
   rw [idM_length] at e14
   subst e14
   have hI:=(Kd.S_reads' ho).2.2
   have hIc:=(Kd.S_reads' ho).2.1
   clear ho
   have hsz_:=hb.size
   replace b1:=qb b1 hb
   replace b2:=qb b2 hb
   replace b5:=qb b5 hb
   replace b6:=qb b6 hb
   replace HB:=pu HB hb
   replace hsw:w.heap.size≤W4_.heap.size:=by omega
   replace up2:p2 < W4_.heap.size:=by omega
   replace uq5:q5 < W4_.heap.size:=by omega
   replace uq6:q6 < W4_.heap.size:=by omega
   clear hb hsz_
   refine hK.out _ _ ((blk_cell b1 0).trans rfl) (fun hHeld=>?_)
   clear hK K
   refine norm_ (a':=?_) ?_ ?_
   rotate_left
   ·show Act.put _ (some 14) _=_
    simp only [Act.put,q1,q2,q3,i64_w,i32_w]
    rfl
   refine one_ (i:=3) (N:=some 15) #[Y,Y,Y,Y,Z,Z,Z,Z,Y,Y,Z,Z,Z] rfl rfl D3 D4 (fun K hK=>?_)
   refine goes_ Try.func175 D3 rfl #[.agg #[.slice A0 n c0], .agg #[.slice A14 n c14]] D11 rfl rfl D23 ?_
   have hc:=spec_l2Reduce.calls A0 c0 l0 A14 c14 (idM n) n n W4_ (Kd.C_below HR0.out HB) D44 hI D45 HOK.out (idM_ok n) D43 D42 D27 hn2 hn2
   rw [← HN.out,idM_length,← HZ.out,← HD.out] at hc
   refine hc.mono ?_
   clear hc
   rintro e W5_ ⟨A5,n5,c5,v1,rfl,hN0,hb⟩
   refine ⟨_,rfl,?_⟩
   obtain ⟨A6,c6,e6⟩:=Kd.N_slice hN0
   generalize hn6:D.length=n6 at e6
   subst e6
   obtain ⟨lo,hlo⟩:∃ z,z=W4_.heap.size:=⟨_,rfl⟩
   obtain ⟨hi,hhi⟩:∃ z,z=W5_.heap.size:=⟨_,rfl⟩
   have hN:=Kd.N_lower (Kd.N_mono (Kd.N_bound hN0) (ok':=fun b=>lo≤b∧b < hi) (fun b hk=>⟨D56,D55⟩)) hsw
   clear hN0
   have hlw:w.heap.size≤lo:=by omega
   have rp2:p2 < lo:=by omega
   have uhi:hi≤W5_.heap.size:=by omega
   have rq5:q5 < lo∨hi≤q5:=Or.inl D5
   have rq6:q6 < lo∨hi≤q6:=Or.inl D5
   clear hlo hhi
   have hsz_:=hb.size
   replace b1:=qb b1 hb
   replace b2:=qb b2 hb
   replace b5:=qb b5 hb
   replace b6:=qb b6 hb
   replace HB:=pu HB hb
   replace hsw:w.heap.size≤W5_.heap.size:=by omega
   replace up2:p2 < W5_.heap.size:=by omega
   replace uq5:q5 < W5_.heap.size:=by omega
   replace uq6:q6 < W5_.heap.size:=by omega
   clear hb hsz_
   refine hK.out _ _ ((blk_cell b1 0).trans rfl) (fun hHeld=>?_)
   clear hK K
   refine norm_ (a':=?_) ?_ ?_
   rotate_left
   ·show Act.put _ (some 15) _=_
    simp only [Act.put,q1,q2,q3,i64_w,i32_w]
    rfl
   refine pure_ (i:=4) (N:=some 11) (v:=?_) (a':=?_) #[Y,Y,Y,Y,Y,Z,Z,Z,Y,Y,Z,Z,Z] rfl rfl D3 hh (Or.inl ⟨D11,?_⟩) ?_ ?_
   rotate_left
   ·intro w'
    go_simp
    with_reducible rfl
   rotate_left
   ·simp only [Act.put,q1,q2,q3,i64_w,i32_w]
    rfl
   refine pure_ (i:=5) (N:=some 16) (v:=?_) (a':=?_) #[Y,Y,Y,Y,Y,Y,Z,Z,Y,Y,Z,Z,Z] rfl rfl D3 hh (Or.inl ⟨D11,?_⟩) ?_ ?_
   rotate_left
   ·intro w'
    go_simp
    with_reducible rfl
   rotate_left
   ·simp only [Act.put,q1,q2,q3,i64_w,i32_w]
    rfl
   refine pure_ (i:=6) (N:=some 17) (v:=?_) (a':=?_) #[Y,Y,Y,Y,Y,Y,Y,Z,Y,Y,Z,Z,Z] rfl rfl D3 hh (Or.inl ⟨D11,?_⟩) ?_ ?_
   rotate_left
   ·intro w'
    go_simp
    with_reducible rfl
   rotate_left
   ·simp only [Act.put,q1,q2,q3,i64_w,i32_w]
    rfl
   refine pure_ (i:=7) (N:=some 18) (v:=?_) (a':=?_) #[Y,Y,Y,Y,Y,Y,Y,Y,Y,Y,Z,Z,Z] rfl rfl D3 hh (Or.inl ⟨D11,?_⟩) ?_ ?_
   rotate_left
   ·intro w'
    go_simp
    with_reducible rfl
   rotate_left
   ·simp only [Act.put,q1,q2,q3,i64_w,i32_w]
    rfl
   refine norm_ ?_ (hcont (q5,q6,(A14,c14),(A5,n5,c5),(A6,n6,c6)) _ ⟨HB,b2,b5,b6,hne,lq5,lq6,lo,hi,hN,rq5,rq6,rp2,hlw,np25,np26⟩)
   first|(simp only [putAll,Act.put,q1,q2,q3];done)|rfl|(simp only [putAll,Act.put,q1,q2,q3];rfl)
  skip
  refine value_ (v:=.pointer (some ⟨W1.heap.size,0,none⟩)) (w1:=W1.alloc (.cells #[.slice none 0 0] 43 (0,0))) D11 rfl ?_ ?_
  ·first|(go_simp;done)|(go_simp;rfl)
  have hq_:=Below.refl W1.heap.size W1
  have hal_:=pa hq_ (.cells #[.slice none 0 0] 43 (0,0))
  have b6:=heap_alloc_new W1 (.cells #[.slice none 0 0] 43 (0,0))
  have hsz_:(W1.alloc (.cells #[.slice none 0 0] 43 (0,0))).heap.size=W1.heap.size+1:=by simp
  replace b1:=qa b1 (.cells #[.slice none 0 0] 43 (0,0))
  replace b2:=qa b2 (.cells #[.slice none 0 0] 43 (0,0))
  replace HB:=pa HB (.cells #[.slice none 0 0] 43 (0,0))
  generalize W1.alloc (.cells #[.slice none 0 0] 43 (0,0))=W2_ at *
  obtain ⟨q6,hq6⟩:∃ q6,q6=W1.heap.size:=⟨_,rfl⟩
  rw [← hq6] at b6 ⊢
  have lq6:w.heap.size≤q6:=by omega
  have np26:p2 ≠ q6:=by omega
  have uq6:q6 < W2_.heap.size:=by omega
  replace hsw:w.heap.size≤W2_.heap.size:=by omega
  replace up2:p2 < W2_.heap.size:=by omega
  clear hq_ hal_ hsz_ hq6
  refine hK.out _ _ ((blk_cell b1 0).trans rfl) (fun hHeld=>?_)
  clear hK K
  refine norm_ (a':=?_) ?_ ?_
  rotate_left
  ·show Act.put _ (some 6) _=_
   simp only [Act.put,q1,q2,q3,i64_w,i32_w]
   rfl
  refine two_ (i:=2) (j:=8) (Ni:=some 14) (Nj:=some 5) #[Y,Y,Y,Z,Z,Z,Z,Z,Z,Y,Z,Z,Z] #[Y,Y,Z,Z,Z,Z,Z,Z,Y,Y,Z,Z,Z] rfl rfl rfl rfl D3 D4 D4 (fun K hK=>?_) (fun K hK=>?_)
  ·skip
   refine goes_ Try.func176 D3 rfl #[.int .i64 n] D11 rfl rfl D23 ?_
   refine (spec_l2Identity.calls kI (n:Int) (idM n) _ HI.out).mono ?_
   rintro e W3_ ⟨v14,rfl,ho,hb⟩
   refine ⟨_,rfl,?_⟩
   obtain ⟨A14,c14,e14⟩:=Kd.S_slice ho
   rw [idM_length] at e14
   subst e14
   have hI:=(Kd.S_reads' ho).2.2
   have hIc:=(Kd.S_reads' ho).2.1
   clear ho
   have hsz_:=hb.size
   replace b1:=qb b1 hb
   replace b2:=qb b2 hb
   replace b6:=qb b6 hb
   replace HB:=pu HB hb
   replace hsw:w.heap.size≤W3_.heap.size:=by omega
   replace up2:p2 < W3_.heap.size:=by omega
   replace uq6:q6 < W3_.heap.size:=by omega
   clear hb hsz_
   refine hK.out _ _ ((blk_cell b1 0).trans rfl) (fun hHeld=>?_)
   clear hK K
   refine norm_ (a':=?_) ?_ ?_
   rotate_left
   ·show Act.put _ (some 14) _=_
    simp only [Act.put,q1,q2,q3,i64_w,i32_w]
    rfl
   refine two_ (i:=3) (j:=8) (Ni:=some 15) (Nj:=some 5) #[Y,Y,Y,Y,Z,Z,Z,Z,Z,Y,Z,Z,Z] #[Y,Y,Y,Z,Z,Z,Z,Z,Y,Y,Z,Z,Z] rfl rfl rfl rfl D3 D4 D4 (fun K hK=>?_) (fun K hK=>?_)
   ·skip
    refine goes_ Try.func175 D3 rfl #[.agg #[.slice A0 n c0], .agg #[.slice A14 n c14]] D11 rfl rfl D23 ?_
    have hc:=spec_l2Reduce.calls A0 c0 l0 A14 c14 (idM n) n n W3_ (Kd.C_below HR0.out HB) D44 hI D45 HOK.out (idM_ok n) D43 D42 D27 hn2 hn2
    rw [← HN.out,idM_length,← HZ.out,← HD.out] at hc
    refine hc.mono ?_
    clear hc
    rintro e W4_ ⟨A5,n5,c5,v1,rfl,hN0,hb⟩
    refine ⟨_,rfl,?_⟩
    obtain ⟨A6,c6,e6⟩:=Kd.N_slice hN0
    generalize hn6:D.length=n6 at e6
    subst e6
    obtain ⟨lo,hlo⟩:∃ z,z=W3_.heap.size:=⟨_,rfl⟩
    obtain ⟨hi,hhi⟩:∃ z,z=W4_.heap.size:=⟨_,rfl⟩
    have hN:=Kd.N_lower (Kd.N_mono (Kd.N_bound hN0) (ok':=fun b=>lo≤b∧b < hi) (fun b hk=>⟨D56,D55⟩)) hsw
    clear hN0
    have hlw:w.heap.size≤lo:=by omega
    have rp2:p2 < lo:=by omega
    have uhi:hi≤W4_.heap.size:=by omega
    have rq6:q6 < lo∨hi≤q6:=Or.inl D5
    clear hlo hhi
    have hsz_:=hb.size
    replace b1:=qb b1 hb
    replace b2:=qb b2 hb
    replace b6:=qb b6 hb
    replace HB:=pu HB hb
    replace hsw:w.heap.size≤W4_.heap.size:=by omega
    replace up2:p2 < W4_.heap.size:=by omega
    replace uq6:q6 < W4_.heap.size:=by omega
    clear hb hsz_
    refine hK.out _ _ ((blk_cell b1 0).trans rfl) (fun hHeld=>?_)
    clear hK K
    refine norm_ (a':=?_) ?_ ?_
    rotate_left
    ·show Act.put _ (some 15) _=_
     simp only [Act.put,q1,q2,q3,i64_w,i32_w]
     rfl
    refine pure_ (i:=4) (N:=some 11) (v:=?_) (a':=?_) #[Y,Y,Y,Y,Y,Z,Z,Z,Z,Y,Z,Z,Z] rfl rfl D3 hh (Or.inl ⟨D11,?_⟩) ?_ ?_
    rotate_left
    ·intro w'
     go_simp
     with_reducible rfl
    rotate_left
    ·simp only [Act.put,q1,q2,q3,i64_w,i32_w]
     rfl
    refine pure_ (i:=5) (N:=some 16) (v:=?_) (a':=?_) #[Y,Y,Y,Y,Y,Y,Z,Z,Z,Y,Z,Z,Z] rfl rfl D3 hh (Or.inl ⟨D11,?_⟩) ?_ ?_
    rotate_left
    ·intro w'
     go_simp
     with_reducible rfl
    rotate_left
    ·simp only [Act.put,q1,q2,q3,i64_w,i32_w]
     rfl
    refine pure_ (i:=6) (N:=some 17) (v:=?_) (a':=?_) #[Y,Y,Y,Y,Y,Y,Y,Z,Z,Y,Z,Z,Z] rfl rfl D3 hh (Or.inl ⟨D11,?_⟩) ?_ ?_
    rotate_left
    ·intro w'
     go_simp
     with_reducible rfl
    rotate_left
    ·simp only [Act.put,q1,q2,q3,i64_w,i32_w]
     rfl
    refine pure_ (i:=7) (N:=some 18) (v:=?_) (a':=?_) #[Y,Y,Y,Y,Y,Y,Y,Y,Z,Y,Z,Z,Z] rfl rfl D3 hh (Or.inl ⟨D11,?_⟩) ?_ ?_
    rotate_left
    ·intro w'
     go_simp
     with_reducible rfl
    rotate_left
    ·simp only [Act.put,q1,q2,q3,i64_w,i32_w]
     rfl
    refine one_ (i:=8) (N:=some 5) #[Y,Y,Y,Y,Y,Y,Y,Y,Y,Y,Z,Z,Z] rfl rfl D3 D4 (fun K hK=>?_)
    refine value_ (v:=.pointer (some ⟨W4_.heap.size,0,none⟩)) (w1:=W4_.alloc (.cells #[.slice none 0 0] 43 (0,0))) D11 rfl ?_ ?_
    ·first|(go_simp;done)|(go_simp;rfl)
    have hq_:=Below.refl W4_.heap.size W4_
    have hal_:=pa hq_ (.cells #[.slice none 0 0] 43 (0,0))
    have b5:=heap_alloc_new W4_ (.cells #[.slice none 0 0] 43 (0,0))
    have hsz_:(W4_.alloc (.cells #[.slice none 0 0] 43 (0,0))).heap.size=W4_.heap.size+1:=by simp
    replace b1:=qa b1 (.cells #[.slice none 0 0] 43 (0,0))
    replace b2:=qa b2 (.cells #[.slice none 0 0] 43 (0,0))
    replace b6:=qa b6 (.cells #[.slice none 0 0] 43 (0,0))
    replace HB:=pa HB (.cells #[.slice none 0 0] 43 (0,0))
    replace hN:=Kd.N_alloc hN (.cells #[.slice none 0 0] 43 (0,0))
    generalize W4_.alloc (.cells #[.slice none 0 0] 43 (0,0))=W5_ at *
    obtain ⟨q5,hq5⟩:∃ q5,q5=W4_.heap.size:=⟨_,rfl⟩
    rw [← hq5] at b5 ⊢
    have lq5:w.heap.size≤q5:=by omega
    have np25:p2 ≠ q5:=by omega
    have uq5:q5 < W5_.heap.size:=by omega
    have hne:q5 ≠ q6:=by omega
    replace uq6:q6 < W5_.heap.size:=by omega
    have rq5:q5 < lo∨hi≤q5:=Or.inr D5
    replace uhi:hi≤W5_.heap.size:=by omega
    replace hsw:w.heap.size≤W5_.heap.size:=by omega
    replace up2:p2 < W5_.heap.size:=by omega
    clear hq_ hal_ hsz_ hq5
    refine hK.out _ _ ((blk_cell b1 0).trans rfl) (fun hHeld=>?_)
    clear hK K
    refine norm_ (a':=?_) ?_ ?_
    rotate_left
    ·show Act.put _ (some 5) _=_
     simp only [Act.put,q1,q2,q3,i64_w,i32_w]
     rfl
    refine norm_ ?_ (hcont (q5,q6,(A14,c14),(A5,n5,c5),(A6,n6,c6)) _ ⟨HB,b2,b5,b6,hne,lq5,lq6,lo,hi,hN,rq5,rq6,rp2,hlw,np25,np26⟩)
    first|(simp only [putAll,Act.put,q1,q2,q3];done)|rfl|(simp only [putAll,Act.put,q1,q2,q3];rfl)
   skip
   refine value_ (v:=.pointer (some ⟨W3_.heap.size,0,none⟩)) (w1:=W3_.alloc (.cells #[.slice none 0 0] 43 (0,0))) D11 rfl ?_ ?_
   ·first|(go_simp;done)|(go_simp;rfl)
   have hq_:=Below.refl W3_.heap.size W3_
   have hal_:=pa hq_ (.cells #[.slice none 0 0] 43 (0,0))
   have b5:=heap_alloc_new W3_ (.cells #[.slice none 0 0] 43 (0,0))
   have hsz_:(W3_.alloc (.cells #[.slice none 0 0] 43 (0,0))).heap.size=W3_.heap.size+1:=by simp
   replace b1:=qa b1 (.cells #[.slice none 0 0] 43 (0,0))
   replace b2:=qa b2 (.cells #[.slice none 0 0] 43 (0,0))
   replace b6:=qa b6 (.cells #[.slice none 0 0] 43 (0,0))
   replace HB:=pa HB (.cells #[.slice none 0 0] 43 (0,0))
   replace hI:=Kd.C_alloc hI (.cells #[.slice none 0 0] 43 (0,0))
   generalize W3_.alloc (.cells #[.slice none 0 0] 43 (0,0))=W4_ at *
   obtain ⟨q5,hq5⟩:∃ q5,q5=W3_.heap.size:=⟨_,rfl⟩
   rw [← hq5] at b5 ⊢
   have lq5:w.heap.size≤q5:=by omega
   have np25:p2 ≠ q5:=by omega
   have uq5:q5 < W4_.heap.size:=by omega
   have hne:q5 ≠ q6:=by omega
   replace uq6:q6 < W4_.heap.size:=by omega
   replace hsw:w.heap.size≤W4_.heap.size:=by omega
   replace up2:p2 < W4_.heap.size:=by omega
   clear hq_ hal_ hsz_ hq5
   refine hK.out _ _ ((blk_cell b1 0).trans rfl) (fun hHeld=>?_)
   clear hK K
   refine norm_ (a':=?_) ?_ ?_
   rotate_left
   ·show Act.put _ (some 5) _=_
    simp only [Act.put,q1,q2,q3,i64_w,i32_w]
    rfl
   refine one_ (i:=3) (N:=some 15) #[Y,Y,Y,Y,Z,Z,Z,Z,Y,Y,Z,Z,Z] rfl rfl D3 D4 (fun K hK=>?_)
   refine goes_ Try.func175 D3 rfl #[.agg #[.slice A0 n c0], .agg #[.slice A14 n c14]] D11 rfl rfl D23 ?_
   have hc:=spec_l2Reduce.calls A0 c0 l0 A14 c14 (idM n) n n W4_ (Kd.C_below HR0.out HB) D44 hI D45 HOK.out (idM_ok n) D43 D42 D27 hn2 hn2
   rw [← HN.out,idM_length,← HZ.out,← HD.out] at hc
   refine hc.mono ?_
   clear hc
   rintro e W5_ ⟨A5,n5,c5,v1,rfl,hN0,hb⟩
   refine ⟨_,rfl,?_⟩
   obtain ⟨A6,c6,e6⟩:=Kd.N_slice hN0
   generalize hn6:D.length=n6 at e6
   subst e6
   obtain ⟨lo,hlo⟩:∃ z,z=W4_.heap.size:=⟨_,rfl⟩
   obtain ⟨hi,hhi⟩:∃ z,z=W5_.heap.size:=⟨_,rfl⟩
   have hN:=Kd.N_lower (Kd.N_mono (Kd.N_bound hN0) (ok':=fun b=>lo≤b∧b < hi) (fun b hk=>⟨D56,D55⟩)) hsw
   clear hN0
   have hlw:w.heap.size≤lo:=by omega
   have rp2:p2 < lo:=by omega
   have uhi:hi≤W5_.heap.size:=by omega
   have rq5:q5 < lo∨hi≤q5:=Or.inl D5
   have rq6:q6 < lo∨hi≤q6:=Or.inl D5
   clear hlo hhi
   have hsz_:=hb.size
   replace b1:=qb b1 hb
   replace b2:=qb b2 hb
   replace b5:=qb b5 hb
   replace b6:=qb b6 hb
   replace HB:=pu HB hb
   replace hsw:w.heap.size≤W5_.heap.size:=by omega
   replace up2:p2 < W5_.heap.size:=by omega
   replace uq5:q5 < W5_.heap.size:=by omega
   replace uq6:q6 < W5_.heap.size:=by omega
   clear hb hsz_
   refine hK.out _ _ ((blk_cell b1 0).trans rfl) (fun hHeld=>?_)
   clear hK K
   refine norm_ (a':=?_) ?_ ?_
   rotate_left
   ·show Act.put _ (some 15) _=_
    simp only [Act.put,q1,q2,q3,i64_w,i32_w]
    rfl
   refine pure_ (i:=4) (N:=some 11) (v:=?_) (a':=?_) #[Y,Y,Y,Y,Y,Z,Z,Z,Y,Y,Z,Z,Z] rfl rfl D3 hh (Or.inl ⟨D11,?_⟩) ?_ ?_
   rotate_left
   ·intro w'
    go_simp
    with_reducible rfl
   rotate_left
   ·simp only [Act.put,q1,q2,q3,i64_w,i32_w]
    rfl
   refine pure_ (i:=5) (N:=some 16) (v:=?_) (a':=?_) #[Y,Y,Y,Y,Y,Y,Z,Z,Y,Y,Z,Z,Z] rfl rfl D3 hh (Or.inl ⟨D11,?_⟩) ?_ ?_
   rotate_left
   ·intro w'
    go_simp
    with_reducible rfl
   rotate_left
   ·simp only [Act.put,q1,q2,q3,i64_w,i32_w]
    rfl
   refine pure_ (i:=6) (N:=some 17) (v:=?_) (a':=?_) #[Y,Y,Y,Y,Y,Y,Y,Z,Y,Y,Z,Z,Z] rfl rfl D3 hh (Or.inl ⟨D11,?_⟩) ?_ ?_
   rotate_left
   ·intro w'
    go_simp
    with_reducible rfl
   rotate_left
   ·simp only [Act.put,q1,q2,q3,i64_w,i32_w]
    rfl
   refine pure_ (i:=7) (N:=some 18) (v:=?_) (a':=?_) #[Y,Y,Y,Y,Y,Y,Y,Y,Y,Y,Z,Z,Z] rfl rfl D3 hh (Or.inl ⟨D11,?_⟩) ?_ ?_
   rotate_left
   ·intro w'
    go_simp
    with_reducible rfl
   rotate_left
   ·simp only [Act.put,q1,q2,q3,i64_w,i32_w]
    rfl
   refine norm_ ?_ (hcont (q5,q6,(A14,c14),(A5,n5,c5),(A6,n6,c6)) _ ⟨HB,b2,b5,b6,hne,lq5,lq6,lo,hi,hN,rq5,rq6,rp2,hlw,np25,np26⟩)
   first|(simp only [putAll,Act.put,q1,q2,q3];done)|rfl|(simp only [putAll,Act.put,q1,q2,q3];rfl)
  skip
  refine value_ (v:=.pointer (some ⟨W2_.heap.size,0,none⟩)) (w1:=W2_.alloc (.cells #[.slice none 0 0] 43 (0,0))) D11 rfl ?_ ?_
  ·first|(go_simp;done)|(go_simp;rfl)
  have hq_:=Below.refl W2_.heap.size W2_
  have hal_:=pa hq_ (.cells #[.slice none 0 0] 43 (0,0))
  have b5:=heap_alloc_new W2_ (.cells #[.slice none 0 0] 43 (0,0))
  have hsz_:(W2_.alloc (.cells #[.slice none 0 0] 43 (0,0))).heap.size=W2_.heap.size+1:=by simp
  replace b1:=qa b1 (.cells #[.slice none 0 0] 43 (0,0))
  replace b2:=qa b2 (.cells #[.slice none 0 0] 43 (0,0))
  replace b6:=qa b6 (.cells #[.slice none 0 0] 43 (0,0))
  replace HB:=pa HB (.cells #[.slice none 0 0] 43 (0,0))
  generalize W2_.alloc (.cells #[.slice none 0 0] 43 (0,0))=W3_ at *
  obtain ⟨q5,hq5⟩:∃ q5,q5=W2_.heap.size:=⟨_,rfl⟩
  rw [← hq5] at b5 ⊢
  have lq5:w.heap.size≤q5:=by omega
  have np25:p2 ≠ q5:=by omega
  have uq5:q5 < W3_.heap.size:=by omega
  have hne:q5 ≠ q6:=by omega
  replace uq6:q6 < W3_.heap.size:=by omega
  replace hsw:w.heap.size≤W3_.heap.size:=by omega
  replace up2:p2 < W3_.heap.size:=by omega
  clear hq_ hal_ hsz_ hq5
  refine hK.out _ _ ((blk_cell b1 0).trans rfl) (fun hHeld=>?_)
  clear hK K
  refine norm_ (a':=?_) ?_ ?_
  rotate_left
  ·show Act.put _ (some 5) _=_
   simp only [Act.put,q1,q2,q3,i64_w,i32_w]
   rfl
  refine one_ (i:=2) (N:=some 14) #[Y,Y,Y,Z,Z,Z,Z,Z,Y,Y,Z,Z,Z] rfl rfl D3 D4 (fun K hK=>?_)
  refine goes_ Try.func176 D3 rfl #[.int .i64 n] D11 rfl rfl D23 ?_
  refine (spec_l2Identity.calls kI (n:Int) (idM n) _ HI.out).mono ?_
  rintro e W4_ ⟨v14,rfl,ho,hb⟩
  refine ⟨_,rfl,?_⟩
  obtain ⟨A14,c14,e14⟩:=Kd.S_slice ho
  rw [idM_length] at e14
  subst e14
  have hI:=(Kd.S_reads' ho).2.2
  have hIc:=(Kd.S_reads' ho).2.1
  clear ho
  have hsz_:=hb.size
  replace b1:=qb b1 hb
  replace b2:=qb b2 hb
  replace b5:=qb b5 hb
  replace b6:=qb b6 hb
  replace HB:=pu HB hb
  replace hsw:w.heap.size≤W4_.heap.size:=by omega
  replace up2:p2 < W4_.heap.size:=by omega
  replace uq5:q5 < W4_.heap.size:=by omega
  replace uq6:q6 < W4_.heap.size:=by omega
  clear hb hsz_
  refine hK.out _ _ ((blk_cell b1 0).trans rfl) (fun hHeld=>?_)
  clear hK K
  refine norm_ (a':=?_) ?_ ?_
  rotate_left
  ·show Act.put _ (some 14) _=_
   simp only [Act.put,q1,q2,q3,i64_w,i32_w]
   rfl
  refine one_ (i:=3) (N:=some 15) #[Y,Y,Y,Y,Z,Z,Z,Z,Y,Y,Z,Z,Z] rfl rfl D3 D4 (fun K hK=>?_)
  refine goes_ Try.func175 D3 rfl #[.agg #[.slice A0 n c0], .agg #[.slice A14 n c14]] D11 rfl rfl D23 ?_
  have hc:=spec_l2Reduce.calls A0 c0 l0 A14 c14 (idM n) n n W4_ (Kd.C_below HR0.out HB) D44 hI D45 HOK.out (idM_ok n) D43 D42 D27 hn2 hn2
  rw [← HN.out,idM_length,← HZ.out,← HD.out] at hc
  refine hc.mono ?_
  clear hc
  rintro e W5_ ⟨A5,n5,c5,v1,rfl,hN0,hb⟩
  refine ⟨_,rfl,?_⟩
  obtain ⟨A6,c6,e6⟩:=Kd.N_slice hN0
  generalize hn6:D.length=n6 at e6
  subst e6
  obtain ⟨lo,hlo⟩:∃ z,z=W4_.heap.size:=⟨_,rfl⟩
  obtain ⟨hi,hhi⟩:∃ z,z=W5_.heap.size:=⟨_,rfl⟩
  have hN:=Kd.N_lower (Kd.N_mono (Kd.N_bound hN0) (ok':=fun b=>lo≤b∧b < hi) (fun b hk=>⟨D56,D55⟩)) hsw
  clear hN0
  have hlw:w.heap.size≤lo:=by omega
  have rp2:p2 < lo:=by omega
  have uhi:hi≤W5_.heap.size:=by omega
  have rq5:q5 < lo∨hi≤q5:=Or.inl D5
  have rq6:q6 < lo∨hi≤q6:=Or.inl D5
  clear hlo hhi
  have hsz_:=hb.size
  replace b1:=qb b1 hb
  replace b2:=qb b2 hb
  replace b5:=qb b5 hb
  replace b6:=qb b6 hb
  replace HB:=pu HB hb
  replace hsw:w.heap.size≤W5_.heap.size:=by omega
  replace up2:p2 < W5_.heap.size:=by omega
  replace uq5:q5 < W5_.heap.size:=by omega
  replace uq6:q6 < W5_.heap.size:=by omega
  clear hb hsz_
  refine hK.out _ _ ((blk_cell b1 0).trans rfl) (fun hHeld=>?_)
  clear hK K
  refine norm_ (a':=?_) ?_ ?_
  rotate_left
  ·show Act.put _ (some 15) _=_
   simp only [Act.put,q1,q2,q3,i64_w,i32_w]
   rfl
  refine pure_ (i:=4) (N:=some 11) (v:=?_) (a':=?_) #[Y,Y,Y,Y,Y,Z,Z,Z,Y,Y,Z,Z,Z] rfl rfl D3 hh (Or.inl ⟨D11,?_⟩) ?_ ?_
  rotate_left
  ·intro w'
   go_simp
   with_reducible rfl
  rotate_left
  ·simp only [Act.put,q1,q2,q3,i64_w,i32_w]
   rfl
  refine pure_ (i:=5) (N:=some 16) (v:=?_) (a':=?_) #[Y,Y,Y,Y,Y,Y,Z,Z,Y,Y,Z,Z,Z] rfl rfl D3 hh (Or.inl ⟨D11,?_⟩) ?_ ?_
  rotate_left
  ·intro w'
   go_simp
   with_reducible rfl
  rotate_left
  ·simp only [Act.put,q1,q2,q3,i64_w,i32_w]
   rfl
  refine pure_ (i:=6) (N:=some 17) (v:=?_) (a':=?_) #[Y,Y,Y,Y,Y,Y,Y,Z,Y,Y,Z,Z,Z] rfl rfl D3 hh (Or.inl ⟨D11,?_⟩) ?_ ?_
  rotate_left
  ·intro w'
   go_simp
   with_reducible rfl
  rotate_left
  ·simp only [Act.put,q1,q2,q3,i64_w,i32_w]
   rfl
  refine pure_ (i:=7) (N:=some 18) (v:=?_) (a':=?_) #[Y,Y,Y,Y,Y,Y,Y,Y,Y,Y,Z,Z,Z] rfl rfl D3 hh (Or.inl ⟨D11,?_⟩) ?_ ?_
  rotate_left
  ·intro w'
   go_simp
   with_reducible rfl
  rotate_left
  ·simp only [Act.put,q1,q2,q3,i64_w,i32_w]
   rfl
  refine norm_ ?_ (hcont (q5,q6,(A14,c14),(A5,n5,c5),(A6,n6,c6)) _ ⟨HB,b2,b5,b6,hne,lq5,lq6,lo,hi,hN,rq5,rq6,rp2,hlw,np25,np26⟩)
  first|(simp only [putAll,Act.put,q1,q2,q3];done)|rfl|(simp only [putAll,Act.put,q1,q2,q3];rfl)
 rintro ⟨q5,q6,⟨A14,c14⟩,⟨A5,n5,c5⟩,⟨A6,n6,c6⟩⟩ W ⟨HB,b2,b5,b6,hne,lq5,lq6,lo,hi,hN,rq5,rq6,rp2,hlw,np25,np26⟩
 refine norm_ (a':=?_) ?_ ?_
 rotate_left
 ·simp only [putAll,Act.put,q1,q2,q3]
  rfl
 simp only [] at b5 b6 hne lq5 lq6 hN rq5 rq6
 clear b1 hHeld up2 hsw
 have hk5:W.cell? ⟨q5,0,none⟩=some (.slice none 0 0):=(blk_cell b5 0).trans rfl
 have hf5:=blk_frozen b5 0
 refine last_ (i:=10) (N:=none) #[Y,Y,Y,Y,Y,Y,Y,Y,Y,Y,Y,Z,Z] rfl rfl D3 D4 (fun K hK=>?_)
 refine skip_ (w1:=?_) D11 rfl ?_ ?_
 rotate_left
 ·go_simp
  rfl
 refine hK.out _ _ ?_
 clear hK K
 replace hN:=Kd.N_far hN (p:=⟨q5,0,none⟩) (fun k hk=>by have:k ≠ q5:=D5;exact this) (.slice A5 n5 c5)
 replace HB:=pt (j:=0) (v:=.slice A5 n5 c5) HB lq5
 replace b2:=blk_far b2 (p:=⟨q5,0,none⟩) (show p2 ≠ q5 from np25) (.slice A5 n5 c5)
 replace b6:=blk_far b6 (p:=⟨q5,0,none⟩) (show q6 ≠ q5 from fun e=>hne e.symm) (.slice A5 n5 c5)
 clear b5 hk5 hf5
 generalize W.setCell ⟨q5,0,none⟩ (.slice A5 n5 c5)=W at hN HB b2 b6 ⊢
 have hk6:W.cell? ⟨q6,0,none⟩=some (.slice none 0 0):=(blk_cell b6 0).trans rfl
 have hf6:=blk_frozen b6 0
 refine last_ (i:=11) (N:=none) #[Y,Y,Y,Y,Y,Y,Y,Y,Y,Y,Y,Y,Z] rfl rfl D3 D4 (fun K hK=>?_)
 refine skip_ (w1:=?_) D11 rfl ?_ ?_
 rotate_left
 ·go_simp
  rfl
 refine hK.out _ _ ?_
 clear hK K
 replace hN:=Kd.N_far hN (p:=⟨q6,0,none⟩) (fun k hk=>by have:k ≠ q6:=D5;exact this) (.slice A6 n6 c6)
 replace HB:=pt (j:=0) (v:=.slice A6 n6 c6) HB lq6
 replace b2:=blk_far b2 (p:=⟨q6,0,none⟩) (show p2 ≠ q6 from np26) (.slice A6 n6 c6)
 have b6':=blk_put b6 0 (.slice A6 n6 c6) rfl
 clear b6 hk6 hf6
 generalize W.setCell ⟨q6,0,none⟩ (.slice A6 n6 c6)=W at hN HB b2 b6' ⊢
 refine pure_ (i:=12) (N:=some 7) (v:=?_) (a':=?_) #[Y,Y,Y,Y,Y,Y,Y,Y,Y,Y,Y,Y,Y] rfl rfl D3 hh (Or.inl ⟨D11,?_⟩) ?_ ?_
 rotate_left
 ·intro w'
  go_simp
  with_reducible rfl
 rotate_left
 ·simp only [Act.put,q1,q2,q3,i64_w,i32_w]
  rfl
 refine done_ D3 ?_
 have hk6:W.cell? ⟨q6,0,none⟩=some (.slice A6 n6 c6):=(blk_cell b6' 0).trans rfl
 have hzb:((z:Int) == (n:Int))=r2:=by rw [← HE2.out];exact Bool.eq_iff_iff.2 (by simp only [beq_iff_eq,decide_eq_true_eq];omega)
 have hk2:W.cell? ⟨p2,0,none⟩=some (.slice none 0 0):=(blk_cell b2 0).trans rfl
 have hf2:=blk_frozen b2 0
 have HNF:=am (Kd.N_far hN (p:=⟨p2,0,none⟩) (fun k hk=>by have:k ≠ p2:=D5;exact this) (.slice A6 n6 c6))
 have HBF:=am (pt (j:=0) (v:=.slice A6 n6 c6) HB lp2)
 have b2':=blk_put b2 0 (.slice A6 n6 c6) rfl
 clear b2 hN HB
 go_wp2_with fail
 (try simp only [Exit.inBlock,Exit.then])
 refine bodyPost_ret (results_ct rfl _ _ p2 43 #[.slice A6 n6 c6] (0,0) _ rfl b2' Try.underlying43 rfl D3) rfl ?_
 exact ⟨_,by first|rfl|(simp;done)|(trace_state;rfl),Kd.N_mono HNF.out (fun k hk=>by have:=hk.1;omega),HBF.out⟩

end
end
section
mutual
def spec_l2Part.l0:Nat→List Int→List Int→Int→Int→List (List Int)→List (List Int)→Option ((List (List Int)))
 | 0,_,_,_,_,_,_=>none
 | k+1,x2,x14,x15,x16,x206000,x208000=>if x16 < x15 then (if 0≤x16 then (if x16 < (x14.length:Int) then (spec_l2Part.l1 k x2 (rd x14 x16) ([]:List Int) x14 x15 x16 x2 (x2.length:Int) 0 x206000 x208000) else (none)) else (none)) else (some x208000)
def spec_l2Part.l1:Nat→List Int→Int→List Int→List Int→Int→Int→List Int→Int→Int→List (List Int)→List (List Int)→Option ((List (List Int)))
 | 0,_,_,_,_,_,_,_,_,_,_,_=>none
 | k+1,x2,x9,x10,x14,x15,x16,x20,x21,x22,x206000,x208000=>if x22 < x21 then (if 0≤x22 then (if x22 < (x20.length:Int) then (if 0≤x9 then (if x9 < (x206000.length:Int) then (if 0≤(rd x20 x22) then (if (rd x20 x22) < ((rd_L1 x206000 x9).length:Int) then (if x10.length < 140737488355328 then (spec_l2Part.l1 k x2 x9 (x10 ++ [rd (rd_L1 x206000 x9) (rd x20 x22)]) x14 x15 x16 x20 x21 (wrap64 (x22+1)) x206000 x208000) else (none)) else (none)) else (none)) else (none)) else (none)) else (none)) else (none)) else (if x208000.length < 5864062014805 then (spec_l2Part.l0 k x2 x14 x15 (wrap64 (x16+1)) x206000 (x208000 ++ [x10])) else (none))
end
def spec_l2Part.f (k:Nat) (l0_0:List (List Int)) (l1:List Int) (l2:List Int):Option ((List (List Int))):=spec_l2Part.l0 k l2 l1 (l1.length:Int) 0 l0_0 ([]:List (List Int))
theorem spec_l2Part.mono_l:∀ k,(∀ y0 y1 y2 y3 y4 y5,LeO (spec_l2Part.l0 k y0 y1 y2 y3 y4 y5) (spec_l2Part.l0 (k+1) y0 y1 y2 y3 y4 y5))∧(∀ y0 y1 y2 y3 y4 y5 y6 y7 y8 y9 y10,LeO (spec_l2Part.l1 k y0 y1 y2 y3 y4 y5 y6 y7 y8 y9 y10) (spec_l2Part.l1 (k+1) y0 y1 y2 y3 y4 y5 y6 y7 y8 y9 y10))
 | 0=>⟨fun _ _ _ _ _ _ r h=>by simp [spec_l2Part.l0] at h,fun _ _ _ _ _ _ _ _ _ _ _ r h=>by simp [spec_l2Part.l1] at h⟩
 | k+1=>by
  obtain ⟨ih0,ih1⟩:=spec_l2Part.mono_l k
  refine ⟨?_,?_⟩
  ·intro y0 y1 y2 y3 y4 y5
   unfold spec_l2Part.l0
   exact mm
  intro y0 y1 y2 y3 y4 y5 y6 y7 y8 y9 y10
  unfold spec_l2Part.l1
  exact mm
theorem spec_l2Part.mono:∀ a0 a1 a2 k,LeO (spec_l2Part.f k a0 a1 a2) (spec_l2Part.f (k+1) a0 a1 a2):=by
 intro a0 a1 a2 k
 obtain ⟨ih0,ih1⟩:=spec_l2Part.mono_l k
 unfold spec_l2Part.f
 exact mm
theorem spec_l2Part.calls (k:Nat) (A0_0:Option Addr) (c0_0:Nat) (l0_0:List (List Int)) (A1:Option Addr) (c1:Nat) (l1:List Int) (A2:Option Addr) (c2:Nat) (l2:List Int) (r:List (List Int)) (w:World) (hr0_0:Kd.C (Kd.slice 5 (Kd.int .u8)) w A0_0 l0_0.length l0_0) (hc0_0:l0_0.length≤c0_0) (hr1:Kd.C (Kd.int .i64) w A1 l1.length l1) (hc1:l1.length≤c1) (hr2:Kd.C (Kd.int .i64) w A2 l2.length l2) (hc2:l2.length≤c2) (h:spec_l2Part.f k l0_0 l1 l2=some r) :
  Calls Try.prog 92 #[.agg #[.slice A0_0 l0_0.length c0_0], .slice A1 l1.length c1, .slice A2 l2.length c2] w fun e w'=>∃ v0_:Value,e = .returned (.agg #[v0_])∧Kd.S (Kd.slice 5 (Kd.int .u8)) 57 w' w.heap.size (fun _=>True) v0_ r∧Below w.heap.size w w':=by
 have hu43:=Try.underlying43
 have HR0_0:=am hr0_0
 have HC0_0:=am hc0_0
 clear hr0_0 hc0_0
 have HR1:=am hr1
 have HC1:=am hc1
 clear hr1 hc1
 have HR2:=am hr2
 have HC2:=am hc2
 clear hr2 hc2
 have HB:=am (Below.refl w.heap.size w)
 have H:=h
 unfold spec_l2Part.f at H
 clear h
 have H':=am H
 clear H
 go_enter Try.func92,Try.ntmps92
 go_wp2_with (first|((with_reducible refine gD 3 ?_);refine gB (cs:=#[.slice A0_0 l0_0.length c0_0]) 43 ?_;intro gb205 hg w4 hbox hb;have BK205:=am (hbox);have GW205:=ye HB hg;replace HB:=yH HB hb;have GE205:=GW205;clear hb hbox hg)|((with_reducible refine gD 6 ?_);refine gB (cs:=#[.slice none 0 0]) 43 ?_;intro gb206 hg w5 hbox hb;have BK206:=am (hbox);have GW206:=ye HB hg;replace HB:=yH HB hb;have NB205_206:=yl BK205 hg;have NB206_205:=yg BK205 hg;replace BK205:=yb BK205 hb;have GE206:=GW206;clear hb hbox hg)|((with_reducible refine gD 7 ?_);refine gB (cs:=#[.slice none 0 0]) 43 ?_;intro gb207 hg w6 hbox hb;have BK207:=am (hbox);have GW207:=ye HB hg;replace HB:=yH HB hb;have NB205_207:=yl BK205 hg;have NB207_205:=yg BK205 hg;replace BK205:=yb BK205 hb;have NB206_207:=yl BK206 hg;have NB207_206:=yg BK206 hg;replace BK206:=yb BK206 hb;have GE207:=GW207;clear hb hbox hg;have hnb7:=NB207_205.out;have hnc7:=NB205_207.out;have hnb8:=NB207_206.out;have hnc8:=NB206_207.out;obtain ⟨hcz9_0,hfz9_0⟩:=yk1 BK207))
 go_loopg [16] k (fun kq v16 w'=>∃ (x16_1:Int) (x208000_1:List (List Int)) (u208000:Value),v16 = .int .i64 x16_1∧Aside0 (spec_l2Part.l0 kq l2 l1 (l1.length:Int) x16_1 l0_0 x208000_1=some r)∧Aside0 (kq≤k)∧Aside0 (Kd.S (Kd.slice 5 (Kd.int .u8)) 57 w' w.heap.size (fun _=>True) u208000 x208000_1)∧Aside0 (w'.heap[gb205]? = some (.cells #[(.slice A0_0 l0_0.length c0_0)] 43 (0,0)))∧Aside0 (w'.heap[gb206]? = some (.cells #[(.slice none 0 0)] 43 (0,0)))∧Aside0 (w'.heap[gb207]? = some (.cells #[u208000] 43 (0,0)))∧Aside0 (Below w.heap.size w w'))
 case atStart=>exact ⟨(0),(([]:List (List Int))),(.slice none 0 0),D2,H',⟨Nat.le_refl _⟩,⟨D47⟩,⟨yF BK205⟩,⟨yF BK206⟩,⟨by refine sB ?_;refine blk_put (cs:=#[.slice none 0 0]) ?_ 0 _ rfl;exact yB BK207⟩,⟨yW HB⟩⟩
 case round =>
  clear H'
  try clear c1
  try clear c2
  try clear p2
  try clear c7
  try clear c8
  try clear c9
  try clear hcz9_0
  try clear hfz9_0
  obtain ⟨x16_1,x208000_1,u208000,rfl,HA,HK1,HO_208000,BK205,BK206,BK207,HB⟩:=hrel
  cases gk with
  | zero=>exact absurd HA.out (by simp [spec_l2Part.l0])
  | succ k1 =>
   have H:=HA.out
   clear HA
   simp only [spec_l2Part.l0] at H
   by_cases c10:x16_1 < (l1.length:Int)
   ·rw [if_pos c10] at H
    have c10b0:=decide_eq_true c10
    clear c10
    obtain ⟨c11,H⟩:=yi H
    have c11b0:=decide_eq_true c11
    clear c11
    obtain ⟨c12,H⟩:=yi H
    have c12b0:=decide_eq_true c12
    clear c12
    have H':=am H
    clear H
    have p208:0≤(x16_1:Int):=od D0
    have q208:x16_1 < (l1.length:Int):=od D0
    obtain ⟨ad208,e208,hx208_0⟩:=Kd.at_int HR1.out x16_1 p208 q208
    cases e208
    replace hx208_0:=(HB.out.cell (World.block_lt_of_cell? w _ hx208_0)).trans hx208_0
    replace p208:=eq_true p208
    replace q208:=eq_true q208
    go_wp2
    go_loopg [10,22] k1 (fun kq v10 v22 w'=>∃ (x10_2:List Int) (x22_2:Int),v22 = .int .i64 x22_2∧Aside0 (spec_l2Part.l1 kq l2 (rd l1 x16_1) x10_2 l1 (l1.length:Int) x16_1 l2 (l2.length:Int) x22_2 l0_0 x208000_1=some r)∧Aside0 (kq≤k1)∧Aside0 (Kd.R (Kd.int .u8) 5 w' w.heap.size (fun _=>True) v10 x10_2)∧Aside0 (Kd.S (Kd.slice 5 (Kd.int .u8)) 57 w' w.heap.size (fun k_=>some k_ ≠ (v10:Value).ownBlock) u208000 x208000_1)∧Aside0 (w'.heap[gb205]? = some (.cells #[(.slice A0_0 l0_0.length c0_0)] 43 (0,0)))∧Aside0 (w'.heap[gb206]? = some (.cells #[(.slice none 0 0)] 43 (0,0)))∧Aside0 (w'.heap[gb207]? = some (.cells #[u208000] 43 (0,0)))∧Aside0 (Below w.heap.size w w'))
    case atStart=>exact ⟨(([]:List Int)),(0),D2,H',⟨Nat.le_refl _⟩,⟨D10⟩,⟨by refine sS ?_;exact Kd.S_mono HO_208000.out (fun _ hk=>D54)⟩,⟨yB BK205⟩,⟨yB BK206⟩,⟨yB BK207⟩,⟨yW HB⟩⟩
    case round =>
     clear H'
     try clear c1
     try clear c2
     try clear p2
     try clear q2
     try clear hx2
     try clear c7
     try clear c8
     try clear c9
     try clear c10
     try clear c10b0
     try clear c11
     try clear c11b0
     try clear c12
     try clear c12b0
     try clear hcz9_0
     try clear hfz9_0
     try clear hx208_0
     try clear p2
     try clear p208
     try clear q208
     obtain ⟨x10_2,x22_2,rfl,HA,HK2,HO_10,HO_208000,BK205,BK206,BK207,HB⟩:=hrel
     cases gk with
     | zero=>exact absurd HA.out (by simp [spec_l2Part.l1])
     | succ k2 =>
      have H:=HA.out
      clear HA
      simp only [spec_l2Part.l1] at H
      by_cases c13:x22_2 < (l2.length:Int)
      ·rw [if_pos c13] at H
       have c13b0:=decide_eq_true c13
       clear c13
       obtain ⟨c14,H⟩:=yi H
       have c14b0:=decide_eq_true c14
       clear c14
       obtain ⟨c15,H⟩:=yi H
       have c15b0:=decide_eq_true c15
       clear c15
       obtain ⟨c16,H⟩:=yi H
       have c16b0:=decide_eq_true c16
       clear c16
       obtain ⟨c17,H⟩:=yi H
       have c17b0:=decide_eq_true c17
       clear c17
       obtain ⟨c18,H⟩:=yi H
       have c18b0:=decide_eq_true c18
       clear c18
       obtain ⟨c19,H⟩:=yi H
       have c19b0:=decide_eq_true c19
       clear c19
       obtain ⟨c20,H⟩:=yi H
       have LMc20:=am c20
       clear c20
       generalize hy212:(x10_2 ++ [rd (rd_L1 l0_0 (rd l1 x16_1)) (rd l2 x22_2)]:List Int)=y212 at H
       have Ny212:=am hy212.symm
       clear hy212
       have H':=am H
       clear H
       have p209:0≤(x22_2:Int):=od D0
       have q209:x22_2 < (l2.length:Int):=od D0
       obtain ⟨ad209,e209,hx209_0⟩:=Kd.at_int HR2.out x22_2 p209 q209
       cases e209
       replace hx209_0:=(HB.out.cell (World.block_lt_of_cell? w _ hx209_0)).trans hx209_0
       replace p209:=eq_true p209
       replace q209:=eq_true q209
       have hnb21:=NB205_206.out
       have hnc21:=NB206_205.out
       have hnb22:=NB205_207.out
       have hnc22:=NB207_205.out
       obtain ⟨hcz23_0,hfz23_0⟩:=yk1 BK205
       have p210:0≤((rd l1 x16_1):Int):=od D0
       have q210:(rd l1 x16_1) < (l0_0.length:Int):=od D0
       obtain ⟨ad210,A210_0,c210_0,e210,hx210_0,hl210_0,hi210_0⟩:=at_L1 HR0_0.out (rd l1 x16_1) p210 q210
       cases e210
       replace hx210_0:=(HB.out.cell (World.block_lt_of_cell? w _ hx210_0)).trans hx210_0
       have HR210_0:=am hi210_0
       have HC210_0:=am hl210_0
       clear hi210_0 hl210_0
       replace p210:=eq_true p210
       replace q210:=eq_true q210
       have p211:0≤((rd l2 x22_2):Int):=od D0
       have q211:(rd l2 x22_2) < ((rd_L1 l0_0 (rd l1 x16_1)).length:Int):=od D0
       obtain ⟨ad211,e211,hx211_0⟩:=Kd.at_int HR210_0.out (rd l2 x22_2) p211 q211
       cases e211
       replace hx211_0:=(HB.out.cell (World.block_lt_of_cell? w _ hx211_0)).trans hx211_0
       replace p211:=eq_true p211
       replace q211:=eq_true q211
       go_wp2_with (first|((with_reducible refine gate_builtin (b:=.append) (xs:=#[.tmp 26, .tmp 35]) rfl ?_);at_builtin;refine Kd.R_append (Kd.int .u8) (w0:=w) w.heap.size rfl (.tmp 26) (.tmp 35) 57 5 (.int .u8 0) 1 rfl Try.underlying57 info5 rfl D4 D5 u10 x10_2 (rd (rd_L1 l0_0 (rd l1 x16_1)) (rd l2 x22_2)) [.int .u8 (rd (rd_L1 l0_0 (rd l1 x16_1)) (rd l2 x22_2))] (fun _=>True) (fun _=>False) rfl rfl D75 (fun _ hk=>hk.elim) D34 (by exact (yR HO_10)) D46 D26 (by have:=LMc20.out;omega) ?_;intro v213 w24 ho hb hg hat;rw [← Ny212.out] at ho;have n0_:=am (Kd.S_after (ok:=(fun _=>True)) (by refine sS ?_;exact Kd.S_mono HO_208000.out (fun _ hk=>⟨trivial,hk⟩)) hg hat);have n1_:=am (blk_grown (g:=gb205) (o:=.cells #[.slice (some ad210) l0_0.length c0_0] 43 (0,0)) (yB BK205) hg (Kd.R_ne HO_10.out BK205.out D4));have n2_:=am (blk_grown (g:=gb206) (o:=.cells #[.slice none 0 0] 43 (0,0)) (yB BK206) hg (Kd.R_ne HO_10.out BK206.out D4));have n3_:=am (blk_grown (g:=gb207) (o:=.cells #[u208000] 43 (0,0)) (yB BK207) hg (Kd.R_ne HO_10.out BK207.out D4));have n4_:=am (hb);have n5_:=am (ho);clear HO_208000 BK205 BK206 BK207 HB HO_10;have HO_208000:=n0_;have BK205:=n1_;have BK206:=n2_;have BK207:=n3_;have HB:=n4_;have HO214:=n5_;clear n0_ n1_ n2_ n3_ n4_ n5_ ho hb hg hat))
       go_roundg k2
       case measure=>have:=HK1.out;have:=HK2.out;omega
       case rel=>exact ⟨(y212),(wrap64 (x22_2+1)),D2,H',⟨D37⟩,⟨yR HO214⟩,⟨by refine sS ?_;exact Kd.S_mono HO_208000.out (fun _ hk=>hk.2)⟩,⟨yB BK205⟩,⟨yB BK206⟩,⟨yB BK207⟩,⟨yW HB⟩⟩
      rw [if_neg c13] at H
      have c13b0:=decide_eq_false c13
      clear c13
      obtain ⟨c25,H⟩:=yi H
      have LMc25:=am c25
      clear c25
      generalize hy215:(x208000_1 ++ [x10_2]:List (List Int))=y215 at H
      have Ny215:=am hy215.symm
      clear hy215
      have H':=am H
      clear H
      have hnb26:=NB207_205.out
      have hnc26:=NB205_207.out
      have hnb27:=NB207_206.out
      have hnc27:=NB206_207.out
      obtain ⟨hcz28_0,hfz28_0⟩:=yk1 BK207
      obtain ⟨Ao30,co30,eo30⟩:=Kd.R_slice HO_10.out
      subst eo30
      go_wp2_with (first|((with_reducible refine gate_builtin (b:=.append) (xs:=#[.tmp 39, .tmp 41]) rfl ?_);at_builtin;refine Kd.S_append (Kd.slice 5 (Kd.int .u8)) (w0:=w) w.heap.size rfl (.tmp 39) (.tmp 41) 37 57 (.slice none 0 0) 24 rfl Try.underlying37 info57 rfl D4 D5 u208000 x208000_1 x10_2 [.slice Ao30 x10_2.length co30] (fun _=>True) (fun k_=>some k_=(.slice Ao30 x10_2.length co30:Value).ownBlock) rfl rfl (by exact Kd.M_row (Kd.R_mono (Kd.R_tight rfl (Kd.R_mono (ok':=fun k_=>((fun _=>True)) k_∧some k_ ≠ (u208000:Value).ownBlock) (Kd.R_apart' (HO_10.out) (Kd.S_typed HO_208000.out) D4) (fun k_ hk=>⟨trivial,hk.2⟩))) (fun _ h_=>h_))) (fun k_ hk_=>((Kd.R_mono (ok':=fun k_=>((fun _=>True)) k_∧some k_ ≠ (u208000:Value).ownBlock) (Kd.R_apart' (HO_10.out) (Kd.S_typed HO_208000.out) D4) (fun k_ hk=>⟨trivial,hk.2⟩))).1 k_ hk_.symm) D34 (by exact (by refine sS ?_;exact Kd.S_mono HO_208000.out (fun k_ hk=>⟨trivial,fun e_=>hk e_⟩))) D46 D26 (by have:=LMc25.out;omega) ?_;intro v216 w29 ho hb hg hat;rw [← Ny215.out] at ho;have n0_:=am (blk_grown (g:=gb205) (o:=.cells #[.slice A0_0 l0_0.length c0_0] 43 (0,0)) (yB BK205) hg (Kd.S_ne HO_208000.out BK205.out D4));have n1_:=am (blk_grown (g:=gb206) (o:=.cells #[.slice none 0 0] 43 (0,0)) (yB BK206) hg (Kd.S_ne HO_208000.out BK206.out D4));have n2_:=am (blk_grown (g:=gb207) (o:=.cells #[u208000] 43 (0,0)) (yB BK207) hg (Kd.S_ne HO_208000.out BK207.out D4));have n3_:=am (hb);have n4_:=am (ho);clear BK205 BK206 BK207 HB HO_208000 HO_10;have BK205:=n0_;have BK206:=n1_;have BK207:=n2_;have HB:=n3_;have HO217:=n4_;clear n0_ n1_ n2_ n3_ n4_ ho hb hg hat;obtain ⟨Ao31,co31,eo31⟩:=Kd.S_slice HO217.out;subst eo31;obtain ⟨hcz32_0,hfz32_0⟩:=yk1 BK207))
      go_roundg k2
      case measure=>have:=HK1.out;have:=HK2.out;omega
      case rel=>exact ⟨(wrap64 (x16_1+1)),(y215),(.slice Ao31 y215.length co31),D2,H',⟨D37⟩,⟨by refine sS ?_;exact Kd.S_mono (Kd.S_far (p:=⟨gb207,0,none⟩) (Kd.S_types HO217.out BK207.out D4) (fun _ hk=>hk.2) (.slice Ao31 y215.length co31)) (fun _ hk=>trivial)⟩,⟨yF BK205⟩,⟨yF BK206⟩,⟨by refine sB ?_;refine blk_put (cs:=#[u208000]) ?_ 0 _ rfl;exact yB BK207⟩,⟨yW HB⟩⟩
   rw [if_neg c10] at H
   have c10b0:=decide_eq_false c10
   clear c10
   obtain rfl:=Option.some.inj H
   have hnb33:=NB207_205.out
   have hnc33:=NB205_207.out
   have hnb34:=NB207_206.out
   have hnc34:=NB206_207.out
   obtain ⟨hcz35_0,hfz35_0⟩:=yk1 BK207
   obtain ⟨Ao36,co36,eo36⟩:=Kd.S_slice HO_208000.out
   subst eo36
   have hnb37:=NB206_205.out
   have hnc37:=NB205_206.out
   obtain ⟨hcz38_0,hfz38_0⟩:=yk1 BK206
   go_wp2
   refine bodyPost_ret (results_cell_row rfl _ _ gb206 43 #[.slice Ao36 x208000_1.length co36] (0,0) _ rfl (by refine sB ?_;refine blk_put (cs:=#[.slice none 0 0]) ?_ 0 _ rfl;exact yB BK206) Try.underlying43 rfl D3) rfl ?_
   exact ⟨_,D1,by refine sS ?_;exact Kd.S_mono (Kd.S_far (p:=⟨gb206,0,none⟩) (Kd.S_types HO_208000.out BK206.out D4) (fun _ hk=>hk.2) (.slice Ao36 x208000_1.length co36)) (fun _ hk=>trivial),yW HB⟩

def spec_l3All.l0:Nat→Int→List Int→Int→Option (List Int)
 | 0,_,_,_=>none
 | k+1,x0,x3,x4=>if x4 < x0 then (if x3.length < 17592186044416 then (spec_l3All.l0 k x0 (x3 ++ [x4]) (wrap64 (x4+1))) else (none)) else (some x3)
def spec_l3All.f (k:Nat) (a0:Int):Option (List Int):=spec_l3All.l0 k a0 ([]:List Int) 0
theorem spec_l3All.mono_l:∀ k,(∀ y0 y1 y2,LeO (spec_l3All.l0 k y0 y1 y2) (spec_l3All.l0 (k+1) y0 y1 y2))
 | 0=>fun _ _ _ r h=>by simp [spec_l3All.l0] at h
 | k+1=>by
  have ih0:=spec_l3All.mono_l k
  intro y0 y1 y2
  unfold spec_l3All.l0
  exact mm
theorem spec_l3All.mono:∀ a0 k,LeO (spec_l3All.f k a0) (spec_l3All.f (k+1) a0):=by
 intro a0 k
 have ih0:=spec_l3All.mono_l k
 unfold spec_l3All.f
 exact mm
theorem spec_l3All.calls (k:Nat) (a0:Int) (r:List Int) (w:World) (h:spec_l3All.f k a0=some r) :
  Calls Try.prog 93 #[.int .i64 a0] w fun e w'=>∃ v0_:Value,e = .returned (v0_)∧Kd.R (Kd.int .i64) 3 w' w.heap.size (fun _=>True) v0_ r∧Below w.heap.size w w':=by
 have HB:=am (Below.refl w.heap.size w)
 have H:=h
 unfold spec_l3All.f at H
 clear h
 have H':=am H
 clear H
 go_enter Try.func93,Try.ntmps93
 go_wp2
 go_loopg [3,4] k (fun kq v3 v4 w'=>∃ (x3_1:List Int) (x4_1:Int),v4 = .int .i64 x4_1∧Aside0 (spec_l3All.l0 kq a0 x3_1 x4_1=some r)∧Aside0 (kq≤k)∧Aside0 (Kd.R (Kd.int .i64) 3 w' w.heap.size (fun _=>True) v3 x3_1)∧Aside0 (Below w.heap.size w w'))
 case atStart=>exact ⟨(([]:List Int)),(0),D2,H',⟨Nat.le_refl _⟩,⟨D10⟩,⟨yW HB⟩⟩
 case round =>
  clear H'
  obtain ⟨x3_1,x4_1,rfl,HA,HK1,HO_3,HB⟩:=hrel
  cases gk with
  | zero=>exact absurd HA.out (by simp [spec_l3All.l0])
  | succ k1 =>
   have H:=HA.out
   clear HA
   simp only [spec_l3All.l0] at H
   by_cases c2:x4_1 < a0
   ·rw [if_pos c2] at H
    have c2b0:=decide_eq_true c2
    clear c2
    obtain ⟨c3,H⟩:=yi H
    have LMc3:=am c3
    clear c3
    generalize hy218:(x3_1 ++ [x4_1]:List Int)=y218 at H
    have Ny218:=am hy218.symm
    clear hy218
    have H':=am H
    clear H
    go_wp2_with (first|((with_reducible refine gate_builtin (b:=.append) (xs:=#[.tmp 10, .tmp 12]) rfl ?_);at_builtin;refine Kd.R_append (Kd.int .i64) (w0:=w) w.heap.size rfl (.tmp 10) (.tmp 12) 25 3 (.int .i64 0) 8 rfl Try.underlying25 info3 rfl D4 D5 u3 x3_1 x4_1 [.int .i64 x4_1] (fun _=>True) (fun _=>False) rfl rfl D75 (fun _ hk=>hk.elim) D34 (by exact (yR HO_3)) D46 D26 (by have:=LMc3.out;omega) ?_;intro v219 w4 ho hb hg hat;rw [← Ny218.out] at ho;have n0_:=am (hb);have n1_:=am (ho);clear HB HO_3;have HB:=n0_;have HO220:=n1_;clear n0_ n1_ ho hb hg hat))
    go_roundg k1
    case measure=>have:=HK1.out;omega
    case rel=>exact ⟨(y218),(wrap64 (x4_1+1)),D2,H',⟨D17⟩,⟨yR HO220⟩,⟨yW HB⟩⟩
   rw [if_neg c2] at H
   have c2b0:=decide_eq_false c2
   clear c2
   obtain rfl:=Option.some.inj H
   go_wp2
   go_ret
   exact ⟨_,D1,yR HO_3,yW HB⟩

section
open Go.Proofs.Ytajikfnpcobnpaa.Gf Go.Proofs.Ytajikfnpcobnpaa.Kit Go.Proofs.Ytajikfnpcobnpaa.KitW Go.Proofs.Ytajikfnpcobnpaa.KitN
def spec_l2Rank.f (l0:List (List Int)):Option Int:=if decide (1≤l0.length) && sqM l0 then some ((rowI.red l0 (l0.getD 0 []).length).2:Nat) else none
theorem spec_l2Rank.calls (A0_0:Option Addr) (c0_0:Nat) (l0_0:List (List Int)) (r:Int) (w:World) (hr0_0:Kd.C (Kd.slice 5 (Kd.int .u8)) w A0_0 l0_0.length l0_0) (hc0_0:l0_0.length≤c0_0) (h:spec_l2Rank.f l0_0=some r) :
  Calls Try.prog 104 #[.agg #[.slice A0_0 l0_0.length c0_0]] w fun e w'=>e = .returned (.int .i64 r)∧Below w.heap.size w w':=by
 unfold spec_l2Rank.f at h
 by_cases hs:(decide (1≤l0_0.length) && sqM l0_0)=true
 case neg=>rw [if_neg hs] at h;cases h
 rw [if_pos hs] at h
 obtain rfl:=Option.some.inj h
 clear h
 rw [Bool.and_eq_true,decide_eq_true_eq,sqM_iff] at hs
 obtain ⟨h1,h2,h3,h4⟩:=hs
 obtain ⟨m,hm⟩:∃ m,m=(l0_0.getD 0 []).length:=⟨_,rfl⟩
 have he:(rowI.red l0_0 m).2=(redP l0_0 l0_0 m).2:=by
  rw [← hm] at h4
  have z:=RowK.red_map (shutP m m) (hom_fst m m) (zip_ok h4 h4) m (Nat.le_refl _)
  rw [zip_fst rfl] at z
  rw [z];rfl
 rw [← hm] at h3 h4 ⊢
 rw [he]
 obtain ⟨W,hW⟩:∃ W:World,W=w.alloc (.cells #[.slice A0_0 l0_0.length c0_0] 43 (0,0)):=⟨_,rfl⟩
 have hB:Below w.heap.size w W:=by rw [hW];exact pa (Below.refl _ _) _
 have hbox:W.cell? ⟨w.heap.size,0,none⟩=some (.slice A0_0 l0_0.length c0_0):=by rw [hW];exact (blk_cell (heap_alloc_new w _) 0).trans rfl
 have hc:=spec_l2Reduce.calls A0_0 c0_0 l0_0 A0_0 c0_0 l0_0 m m W (Kd.C_below hr0_0 hB) hc0_0 (Kd.C_below hr0_0 hB) hc0_0 h4 h4 h1 h2 rfl h3 h3
 have HC:=am hc
 have HB:=am hB
 obtain ⟨q,hq⟩:∃ q,q=(redP l0_0 l0_0 m).2:=⟨_,rfl⟩
 rw [← hq] at HC ⊢
 obtain ⟨n,hn⟩:∃ n,n=l0_0.length:=⟨_,rfl⟩
 rw [← hn] at HC hbox hW ⊢
 clear hc hB he hq h1 h2 h3 h4 hm hr0_0 hc0_0 hn
 have hu:=Try.underlying43
 go_enter Try.func104,Try.ntmps104
 go_wp2_with fail
 rw [← hW]
 refine HC.out.mono ?_
 clear HC hW
 rintro e w2 ⟨A5,n5,c5,v1,rfl,hN,hB2⟩
 obtain ⟨A6,c6,rfl⟩:=Kd.N_slice hN
 generalize ((redP l0_0 l0_0 m).1.map Prod.snd).length=n6
 have HB2:=am (pu HB.out hB2)
 clear hN hB2
 go_wp2_with fail
 go_ret
 refine ⟨rfl,?_⟩
 first|exact pa (pa HB2.out _) _|(trace_state;sorry)
end

def spec_l1In.f (a0:Int) (a1:Int) (a2:Int):Option (Bool):=if a0 ≥ a1 then (some (decide (a0≤a2))) else (some false)
theorem spec_l1In.calls (a0:Int) (a1:Int) (a2:Int) (r:Bool) (w:World) (h:spec_l1In.f a0 a1 a2=some r) :
  Calls Try.prog 121 #[.int .i64 a0, .int .i64 a1, .int .i64 a2] w fun e w'=>e = .returned (.bool r)∧Drawn0 w w':=by
 have H:=h
 unfold spec_l1In.f at H
 clear h
 by_cases c4:a0 ≥ a1
 ·rw [if_pos c4] at H
  have c4b0:decide (a1≤a0)=true:=decide_eq_true c4
  clear c4
  obtain rfl:=Option.some.inj H
  go_enter Try.func121,Try.ntmps121
  go_wp2
  go_ret
  exact ⟨D2,D6⟩
 rw [if_neg c4] at H
 have c4b0:decide (a1≤a0)=false:=decide_eq_false c4
 clear c4
 obtain rfl:=Option.some.inj H
 go_enter Try.func121,Try.ntmps121
 go_wp2
 go_ret
 exact ⟨D2,D6⟩

def spec_GoodLocal.f (a0_0:Int) (a0_1:Int) (a0_2:Int):Option (Bool):=(spec_l1In.f a0_0 1 4).bind fun t222=>(if t222=true then ((spec_l1In.f a0_1 1 4).bind fun t223=>(if t223=true then (if (wrap64 (a0_0*a0_1))≤8 then ((spec_l1In.f a0_2 1 4).bind fun t224=>(some t224)) else (some false)) else (some false))) else (some false))
theorem spec_GoodLocal.calls (a0_0:Int) (a0_1:Int) (a0_2:Int) (r:Bool) (w:World) (h:spec_GoodLocal.f a0_0 a0_1 a0_2=some r) :
  Calls Try.prog 108 #[.agg #[.int .i64 a0_0, .int .i64 a0_1, .int .i64 a0_2]] w fun e w'=>e = .returned (.bool r)∧Below w.heap.size w w':=by
 have hu51:=Try.underlying51
 have HB:=am (Below.refl w.heap.size w)
 have H:=h
 unfold spec_GoodLocal.f at H
 clear h
 obtain ⟨t222,A2,H⟩:=yo H
 by_cases c3:t222=true
 ·subst c3
  replace H:=yt H
  obtain ⟨t223,A4,H⟩:=yo H
  by_cases c5:t223=true
  ·subst c5
   replace H:=yt H
   by_cases c6:(wrap64 (a0_0*a0_1))≤8
   ·rw [if_pos c6] at H
    have c6b0:=decide_eq_true c6
    clear c6
    obtain ⟨t224,A7,H⟩:=yo H
    obtain rfl:=Option.some.inj H
    go_enter Try.func108,Try.ntmps108
    go_wp2_with (first|((with_reducible refine gD 1 ?_);refine gB (cs:=#[.int .i64 a0_0, .int .i64 a0_1, .int .i64 a0_2]) 51 ?_;intro gb221 hg w8 hbox hb;have BK221:=am (hbox);have GW221:=ye HB hg;replace HB:=yH HB hb;have GE221:=GW221;clear hb hbox hg;obtain ⟨hcz9_0,hcz9_1,hcz9_2,hfz9_0,hfz9_1,hfz9_2⟩:=yk3 BK221)|((with_reducible refine gC 121 ?_);refine gM (some 5) Try.func121 (args:=#[.int .i64 a0_0, .int .i64 1, .int .i64 4]) (spec_l1In.calls a0_0 1 4 true _ A2.out) ?_;rintro e w' ⟨rfl,⟨nd,rfl⟩⟩;refine ⟨_,rfl,?_⟩)|(go_at_call 121;(with_reducible refine (spec_l1In.calls a0_1 1 4 true _ A4.out).mono ?_);rintro e w' ⟨rfl,⟨nd,rfl⟩⟩)|(go_at_call 121;(with_reducible refine (spec_l1In.calls a0_2 1 4 t224 _ A7.out).mono ?_);rintro e w' ⟨rfl,⟨nd,rfl⟩⟩))
    go_ret
    exact ⟨D1,yW HB⟩
   rw [if_neg c6] at H
   have c6b0:=decide_eq_false c6
   clear c6
   obtain rfl:=Option.some.inj H
   go_enter Try.func108,Try.ntmps108
   go_wp2_with (first|((with_reducible refine gD 1 ?_);refine gB (cs:=#[.int .i64 a0_0, .int .i64 a0_1, .int .i64 a0_2]) 51 ?_;intro gb221 hg w10 hbox hb;have BK221:=am (hbox);have GW221:=ye HB hg;replace HB:=yH HB hb;have GE221:=GW221;clear hb hbox hg;obtain ⟨hcz11_0,hcz11_1,hcz11_2,hfz11_0,hfz11_1,hfz11_2⟩:=yk3 BK221)|((with_reducible refine gC 121 ?_);refine gM (some 5) Try.func121 (args:=#[.int .i64 a0_0, .int .i64 1, .int .i64 4]) (spec_l1In.calls a0_0 1 4 true _ A2.out) ?_;rintro e w' ⟨rfl,⟨nd,rfl⟩⟩;refine ⟨_,rfl,?_⟩)|(go_at_call 121;(with_reducible refine (spec_l1In.calls a0_1 1 4 true _ A4.out).mono ?_);rintro e w' ⟨rfl,⟨nd,rfl⟩⟩))
   go_ret
   exact ⟨D1,yW HB⟩
  replace c5:=Bool.eq_false_iff.mpr c5
  subst c5
  replace H:=yn H
  obtain rfl:=Option.some.inj H
  go_enter Try.func108,Try.ntmps108
  go_wp2_with (first|((with_reducible refine gD 1 ?_);refine gB (cs:=#[.int .i64 a0_0, .int .i64 a0_1, .int .i64 a0_2]) 51 ?_;intro gb221 hg w12 hbox hb;have BK221:=am (hbox);have GW221:=ye HB hg;replace HB:=yH HB hb;have GE221:=GW221;clear hb hbox hg;obtain ⟨hcz13_0,hcz13_1,hcz13_2,hfz13_0,hfz13_1,hfz13_2⟩:=yk3 BK221)|((with_reducible refine gC 121 ?_);refine gM (some 5) Try.func121 (args:=#[.int .i64 a0_0, .int .i64 1, .int .i64 4]) (spec_l1In.calls a0_0 1 4 true _ A2.out) ?_;rintro e w' ⟨rfl,⟨nd,rfl⟩⟩;refine ⟨_,rfl,?_⟩)|(go_at_call 121;(with_reducible refine (spec_l1In.calls a0_1 1 4 false _ A4.out).mono ?_);rintro e w' ⟨rfl,⟨nd,rfl⟩⟩))
  go_ret
  exact ⟨D1,yW HB⟩
 replace c3:=Bool.eq_false_iff.mpr c3
 subst c3
 replace H:=yn H
 obtain rfl:=Option.some.inj H
 go_enter Try.func108,Try.ntmps108
 go_wp2_with (first|((with_reducible refine gD 1 ?_);refine gB (cs:=#[.int .i64 a0_0, .int .i64 a0_1, .int .i64 a0_2]) 51 ?_;intro gb221 hg w14 hbox hb;have BK221:=am (hbox);have GW221:=ye HB hg;replace HB:=yH HB hb;have GE221:=GW221;clear hb hbox hg;obtain ⟨hcz15_0,hcz15_1,hcz15_2,hfz15_0,hfz15_1,hfz15_2⟩:=yk3 BK221)|((with_reducible refine gC 121 ?_);refine gM (some 5) Try.func121 (args:=#[.int .i64 a0_0, .int .i64 1, .int .i64 4]) (spec_l1In.calls a0_0 1 4 false _ A2.out) ?_;rintro e w' ⟨rfl,⟨nd,rfl⟩⟩;refine ⟨_,rfl,?_⟩))
 go_ret
 exact ⟨D1,yW HB⟩

def spec_l4Data.f (a0_0:Int) (a0_1:Int) (a0_2:Int):Option (Int):=some (wrap64 (a0_0*a0_1))
theorem spec_l4Data.calls (a0_0:Int) (a0_1:Int) (a0_2:Int) (r:Int) (w:World) (h:spec_l4Data.f a0_0 a0_1 a0_2=some r) :
  Calls Try.prog 111 #[.agg #[.int .i64 a0_0, .int .i64 a0_1, .int .i64 a0_2]] w fun e w'=>e = .returned (.int .i64 r)∧Below w.heap.size w w':=by
 have hu51:=Try.underlying51
 have HB:=am (Below.refl w.heap.size w)
 have H:=h
 unfold spec_l4Data.f at H
 clear h
 obtain rfl:=Option.some.inj H
 go_enter Try.func111,Try.ntmps111
 go_wp2_with (first|((with_reducible refine gD 1 ?_);refine gB (cs:=#[.int .i64 a0_0, .int .i64 a0_1, .int .i64 a0_2]) 51 ?_;intro gb225 hg w2 hbox hb;have BK225:=am (hbox);have GW225:=ye HB hg;replace HB:=yH HB hb;have GE225:=GW225;clear hb hbox hg;obtain ⟨hcz3_0,hcz3_1,hcz3_2,hfz3_0,hfz3_1,hfz3_2⟩:=yk3 BK225))
 go_ret
 exact ⟨D1,yW HB⟩

def spec_l4Many.f (a0_0:Int) (a0_1:Int) (a0_2:Int):Option (Int):=(spec_l4Data.f a0_0 a0_1 a0_2).bind fun t227=>(some (wrap64 ((wrap64 (t227+a0_0))+a0_2)))
def spec_l4Many.T1:Bool × List (List Nat × List Nat):=(true,[([],[]),([0],[0]),([],[]),([2],[2]),([1,3],[1,3]),([],[]),([5],[5]),([4,6],[4,6]),([7,1,0,1,2,3,4,5,6,7],[7])])
def spec_l4Many.B1:List Nat:=[0,1,0,4,15,0,32,127,255]
theorem spec_l4Many.tab1:rtab .any (opsOf Try.f109 1)=spec_l4Many.T1:=by kernel_rfl
theorem spec_l4Many.bits1:waitsOk spec_l4Many.T1.2 spec_l4Many.B1=true:=by kernel_rfl
theorem spec_l4Many.calls (a0_0:Int) (a0_1:Int) (a0_2:Int) (r:Int) (w:World) (h:spec_l4Many.f a0_0 a0_1 a0_2=some r) :
  Calls Try.prog 109 #[.agg #[.int .i64 a0_0, .int .i64 a0_1, .int .i64 a0_2]] w fun e w'=>e = .returned (.int .i64 r)∧Below w.heap.size w w':=by
 have hu51:=Try.underlying51
 have HB:=am (Below.refl w.heap.size w)
 have H:=h
 unfold spec_l4Many.f at H
 clear h
 obtain ⟨t227,A2,H⟩:=yo H
 obtain rfl:=Option.some.inj H
 go_enter Try.func109,Try.ntmps109
 try go_wp2_with (first|((with_reducible refine gD 1 ?_);refine gB (cs:=#[.int .i64 a0_0, .int .i64 a0_1, .int .i64 a0_2]) 51 ?_;intro gb226 hg w3 hbox hb;have BK226:=am (hbox);have GW226:=ye HB hg;replace HB:=yH HB hb;have GE226:=GW226;clear hb hbox hg))
 replace BK226:=am (qd BK226.out)
 replace HB:=am (pd HB.out)
 refine rS (n:=9) (S:=fun w'=>w'.cell? ⟨gb226,0,none⟩=some (.int .i64 a0_0)∧w'.cell? ⟨gb226,1,none⟩=some (.int .i64 a0_1)∧w'.cell? ⟨gb226,2,none⟩=some (.int .i64 a0_2)) (ds:=[]) [(2,5),(5,8),(0,3),(3,6),(6,9),(1,0),(4,7),(7,10),(8,2)] D3 rfl spec_l4Many.tab1 spec_l4Many.bits1 ⟨yk BK226 0,yk BK226 1,yk BK226 2⟩ (fun hHeld HT_ HW_=>?_)
 generalize w3.drew=w4 at BK226 HB hHeld ⊢
 refine rR ?_
 refine rO (N:=some 4) HT_ rfl rfl D3 D4 (fun K hK=>?_)
 refine goes_ Try.func111 D3 rfl #[.agg #[.int .i64 a0_0, .int .i64 a0_1, .int .i64 a0_2]] D11 rfl rfl D8 ?_
 with_reducible refine (spec_l4Data.calls a0_0 a0_1 a0_2 t227 _ A2.out).mono ?_
 rintro e w5 ⟨rfl,hb⟩
 refine ⟨_,rfl,?_⟩
 replace BK226:=yb BK226 hb
 replace HB:=yH HB hb
 (try clear hb)
 (try clear hb2)
 (try clear hk)
 (try clear hi)
 refine hK.out _ _ ⟨yk BK226 0,yk BK226 1,yk BK226 2⟩ (fun hHeld=>?_)
 clear hK K
 refine rN (a':=?_) ?_ ?_
 rotate_left
 ·show Act.put _ (some 4) _=_
  simp only [Act.put,q1,q2,q3,i64_w,i32_w]
  rfl
 refine rR ?_
 refine rD HT_ D3 ?_
 try go_wp2
 go_ret
 exact ⟨D1,yW HB⟩
end
mutual
def spec_l2Cauchy.l0:Nat→Int→Int→Int→List (List Int)→Option ((List (List Int)))
 | 0,_,_,_,_=>none
 | k+1,x1,x13,x14,x233000=>if x14 < x13 then (if 0≤x14 then (if x14 < (x233000.length:Int) then (spec_l2Cauchy.l1 k x1 x14 x13 x14 ((rd_L1 x233000 x14).length:Int) 0 x233000) else (none)) else (none)) else (some x233000)
def spec_l2Cauchy.l1:Nat→Int→Int→Int→Int→Int→Int→List (List Int)→Option ((List (List Int)))
 | 0,_,_,_,_,_,_,_=>none
 | k+1,x1,x6,x13,x14,x22,x23,x233000=>if x23 < x22 then (if 0≤x6 then (if x6 < (x233000.length:Int) then ((spec_l1Inverse.f k ((Go.bits .xor .i64 (wrap64 (x1+x6)) x23) % 256)).bind fun t235=>(if 0≤x23 then (if x23 < ((rd_L1 x233000 x6).length:Int) then (spec_l2Cauchy.l1 k x1 x6 x13 x14 x22 (wrap64 (x23+1)) (x233000.set (x6:Int).toNat ((rd_L1 x233000 x6).set (x23:Int).toNat t235))) else (none)) else (none))) else (none)) else (none)) else (spec_l2Cauchy.l0 k x1 x13 (wrap64 (x14+1)) x233000)
end
def spec_l2Cauchy.f (k:Nat) (a0:Int) (a1:Int):Option ((List (List Int))):=(spec_l2Blank.f k a0 a1).bind fun t229=>(spec_l2Cauchy.l0 k a1 (t229.length:Int) 0 t229)
theorem spec_l2Cauchy.mono_l:∀ k,(∀ y0 y1 y2 y3,LeO (spec_l2Cauchy.l0 k y0 y1 y2 y3) (spec_l2Cauchy.l0 (k+1) y0 y1 y2 y3))∧(∀ y0 y1 y2 y3 y4 y5 y6,LeO (spec_l2Cauchy.l1 k y0 y1 y2 y3 y4 y5 y6) (spec_l2Cauchy.l1 (k+1) y0 y1 y2 y3 y4 y5 y6))
 | 0=>⟨fun _ _ _ _ r h=>by simp [spec_l2Cauchy.l0] at h,fun _ _ _ _ _ _ _ r h=>by simp [spec_l2Cauchy.l1] at h⟩
 | k+1=>by
  obtain ⟨ih0,ih1⟩:=spec_l2Cauchy.mono_l k
  refine ⟨?_,?_⟩
  ·intro y0 y1 y2 y3
   unfold spec_l2Cauchy.l0
   exact mm
  intro y0 y1 y2 y3 y4 y5 y6
  unfold spec_l2Cauchy.l1
  exact mm
theorem spec_l2Cauchy.mono:∀ a0 a1 k,LeO (spec_l2Cauchy.f k a0 a1) (spec_l2Cauchy.f (k+1) a0 a1):=by
 intro a0 a1 k
 obtain ⟨ih0,ih1⟩:=spec_l2Cauchy.mono_l k
 unfold spec_l2Cauchy.f
 exact mm
def spec_l2Cauchy.T8:Bool × List (List Nat × List Nat):=(true,[([],[]),([0],[0]),([],[]),([1,2],[1,2]),([3],[3]),([],[]),([],[]),([],[]),([6,7],[6,7]),([],[]),([8,9],[8,9]),([10],[10]),([11],[11]),([4,5,0,1,2,3,4,5,6,7,8,9,10,11,12],[4,5]),([13,12,12,0,1,2,3,4,5,6,7,8,9,10,11,12],[12,13])])
def spec_l2Cauchy.B8:List Nat:=[0,1,0,7,15,0,0,0,192,0,960,1984,4032,8191,16383]
theorem spec_l2Cauchy.tab8:rtab .any (opsOf Try.f186 8)=spec_l2Cauchy.T8:=by kernel_rfl
theorem spec_l2Cauchy.bits8:waitsOk spec_l2Cauchy.T8.2 spec_l2Cauchy.B8=true:=by kernel_rfl
theorem spec_l2Cauchy.calls (k:Nat) (a0:Int) (a1:Int) (r:List (List Int)) (w:World) (h:spec_l2Cauchy.f k a0 a1=some r) :
  Calls Try.prog 186 #[.int .i64 a0, .int .i64 a1] w fun e w'=>∃ v0_:Value,e = .returned (.agg #[v0_])∧Kd.S (Kd.slice 5 (Kd.int .u8)) 57 w' w.heap.size (fun _=>True) v0_ r∧Below w.heap.size w w':=by
 have hu43:=Try.underlying43
 have HB:=am (Below.refl w.heap.size w)
 have H:=h
 unfold spec_l2Cauchy.f at H
 clear h
 obtain ⟨t229,A3,H⟩:=yo H
 have H':=am H
 clear H
 go_enter Try.func186,Try.ntmps186
 go_wp2_with (first|((with_reducible refine gD 4 ?_);refine gB (cs:=#[.slice none 0 0]) 43 ?_;intro gb228 hg w4 hbox hb;have BK228:=am (hbox);have GW228:=ye HB hg;replace HB:=yH HB hb;have GE228:=GW228;clear hb hbox hg)|((with_reducible refine gC 172 ?_);refine gM (some 10) Try.func172 (args:=#[.int .i64 a0, .int .i64 a1]) (spec_l2Blank.calls k a0 a1 t229 _ A3.out) ?_;rintro e w5 ⟨v230,rfl,ho0,hb⟩;refine ⟨_,rfl,?_⟩;have HO231:=am (Kd.S_lower ho0 (pz (yW HB)));replace BK228:=yb BK228 hb;replace HB:=yH HB hb;clear hb ho0)|((with_reducible refine gD 5 ?_);refine gB (cs:=#[.slice none 0 0]) 43 ?_;intro gb232 hg w6 hbox hb;replace HO231:=bS HO231 hb;have BK232:=am (hbox);have GW232:=ye HB hg;replace HB:=yH HB hb;have NB228_232:=yl BK228 hg;have NB232_228:=yg BK228 hg;replace BK228:=yb BK228 hb;have GE232:=GW232;clear hb hbox hg;obtain ⟨Ao7,co7,eo7⟩:=Kd.S_slice HO231.out;subst eo7;have hnb8:=NB232_228.out;have hnc8:=NB228_232.out;obtain ⟨hcz9_0,hfz9_0⟩:=yk1 BK232))
 go_loopg [14] k (fun kq v14 w'=>∃ (x14_1:Int) (x233000_1:List (List Int)) (u233000:Value),v14 = .int .i64 x14_1∧Aside0 (spec_l2Cauchy.l0 kq a1 (t229.length:Int) x14_1 x233000_1=some r)∧Aside0 (kq≤k)∧Aside0 (Kd.S (Kd.slice 5 (Kd.int .u8)) 57 w' w.heap.size (fun _=>True) u233000 x233000_1)∧Aside0 (w'.heap[gb228]? = some (.cells #[(.slice none 0 0)] 43 (0,0)))∧Aside0 (w'.heap[gb232]? = some (.cells #[u233000] 43 (0,0)))∧Aside0 (Below w.heap.size w w'))
 case atStart=>exact ⟨(0),(t229),(.slice Ao7 t229.length co7),D2,H',⟨Nat.le_refl _⟩,⟨by refine sS ?_;exact Kd.S_mono (Kd.S_far (p:=⟨gb232,0,none⟩) (Kd.S_types HO231.out BK232.out D4) (fun _ hk=>hk.2) (.slice Ao7 t229.length co7)) (fun _ hk=>trivial)⟩,⟨yF BK228⟩,⟨by refine sB ?_;refine blk_put (cs:=#[.slice none 0 0]) ?_ 0 _ rfl;exact yB BK232⟩,⟨yW HB⟩⟩
 case round =>
  clear H'
  try clear c1
  try clear p2
  try clear c8
  try clear hcz9_0
  try clear hfz9_0
  obtain ⟨x14_1,x233000_1,u233000,rfl,HA,HK1,HO_233000,BK228,BK232,HB⟩:=hrel
  cases gk with
  | zero=>exact absurd HA.out (by simp [spec_l2Cauchy.l0])
  | succ k1 =>
   have H:=HA.out
   clear HA
   simp only [spec_l2Cauchy.l0] at H
   by_cases c10:x14_1 < (t229.length:Int)
   ·rw [if_pos c10] at H
    have c10b0:=decide_eq_true c10
    clear c10
    obtain ⟨c11,H⟩:=yi H
    have c11b0:=decide_eq_true c11
    clear c11
    obtain ⟨c12,H⟩:=yi H
    have c12b0:=decide_eq_true c12
    clear c12
    have H':=am H
    clear H
    have hnb13:=NB232_228.out
    have hnc13:=NB228_232.out
    obtain ⟨hcz14_0,hfz14_0⟩:=yk1 BK232
    obtain ⟨Ao15,co15,eo15⟩:=Kd.S_slice HO_233000.out
    subst eo15
    have p233:0≤(x14_1:Int):=od D0
    have q233:x14_1 < (x233000_1.length:Int):=od D0
    obtain ⟨ad233,A233_0,c233_0,e233,hx233_0,hl233_0,hi233_0⟩:=at_L1 (Kd.S_reads' HO_233000.out).2.2 x14_1 p233 q233
    cases e233
    obtain ⟨ce233,hce233,hMe233,hcc233⟩:=Kd.S_get HO_233000.out [] x14_1 p233 (by first|exact q233|exact od D0|(have e_:=(Kd.S_reads' HO_233000.out).1;omega))
    obtain ⟨ve233_0,rfl,ge233_0⟩:=hMe233
    have hv233_0:=hcc233 0 _ rfl
    rw [Nat.add_zero,show ((Kd.slice 5 (Kd.int .u8))).sz=1 from rfl,Nat.mul_one] at hv233_0
    replace hv233_0:=Option.some.inj (hv233_0.symm.trans hx233_0)
    rw [hv233_0] at ge233_0
    have HL233_0:=am (show Kd.R (Kd.int .u8) 5 _ _ _ _ (rd_L1 x233000_1 x14_1) from ge233_0)
    clear hv233_0 ge233_0
    have HX233_0:=am hx233_0
    clear hcc233 hce233
    have HR233_0:=am hi233_0
    have HC233_0:=am hl233_0
    clear hi233_0 hl233_0
    replace p233:=eq_true p233
    replace q233:=eq_true q233
    go_wp2
    go_loopg [23] k1 (fun kq v23 w'=>∃ (x23_2:Int) (x233000_2:List (List Int)) (u233000:Value),v23 = .int .i64 x23_2∧Aside0 (spec_l2Cauchy.l1 kq a1 x14_1 (t229.length:Int) x14_1 ((rd_L1 x233000_1 x14_1).length:Int) x23_2 x233000_2=some r)∧Aside0 (kq≤k1)∧Aside0 (Kd.S (Kd.slice 5 (Kd.int .u8)) 57 w' w.heap.size (fun _=>True) u233000 x233000_2)∧Aside0 (w'.heap[gb228]? = some (.cells #[(.slice none 0 0)] 43 (0,0)))∧Aside0 (w'.heap[gb232]? = some (.cells #[u233000] 43 (0,0)))∧Aside0 (Below w.heap.size w w'))
    case atStart=>exact ⟨(0),(x233000_1),(.slice (some ad233) x233000_1.length co15),D2,H',⟨Nat.le_refl _⟩,⟨yS HO_233000⟩,⟨yB BK228⟩,⟨yB BK232⟩,⟨yW HB⟩⟩
    case round =>
     clear H'
     try clear c1
     try clear c2
     try clear p2
     try clear q2
     try clear hx2
     try clear c8
     try clear c10
     try clear c10b0
     try clear c11
     try clear c11b0
     try clear c12
     try clear c12b0
     try clear c13
     try clear hcz14_0
     try clear hcz9_0
     try clear hfz14_0
     try clear hfz9_0
     try clear hx233_0
     try clear p2
     try clear p233
     try clear q233
     obtain ⟨x23_2,x233000_2,u233000,rfl,HA,HK2,HO_233000,BK228,BK232,HB⟩:=hrel
     cases gk with
     | zero=>exact absurd HA.out (by simp [spec_l2Cauchy.l1])
     | succ k2 =>
      have H:=HA.out
      clear HA
      simp only [spec_l2Cauchy.l1] at H
      by_cases c16:x23_2 < ((rd_L1 x233000_1 x14_1).length:Int)
      ·rw [if_pos c16] at H
       have c16b0:=decide_eq_true c16
       clear c16
       obtain ⟨c17,H⟩:=yi H
       have c17b0:=decide_eq_true c17
       clear c17
       obtain ⟨c18,H⟩:=yi H
       have c18b0:=decide_eq_true c18
       clear c18
       obtain ⟨t235,A19,H⟩:=yo H
       obtain ⟨c20,H⟩:=yi H
       have c20b0:=decide_eq_true c20
       clear c20
       obtain ⟨c21,H⟩:=yi H
       have c21b0:=decide_eq_true c21
       clear c21
       generalize hy236:((rd_L1 x233000_2 x14_1).set (x23_2:Int).toNat t235:List Int)=y236 at H
       have Ny236:=am hy236.symm
       clear hy236
       generalize hy238:(x233000_2.set (x14_1:Int).toNat y236:List (List Int))=y238 at H
       have Ny238:=am hy238.symm
       clear hy238
       have H':=am H
       clear H
       try go_wp2
       replace HO_233000:=am (Kd.S_drew HO_233000.out)
       replace BK228:=am (qd BK228.out)
       replace BK232:=am (qd BK232.out)
       replace HB:=am (pd HB.out)
       obtain ⟨Ao24,co24,eo24⟩:=Kd.S_slice HO_233000.out
       (first|subst eo24|(injection eo24 with f1_ f2_ f3_;have f4_:=f1_.symm;have f5_:=f3_.symm;clear f1_ f2_ f3_;subst f4_;subst f5_))
       have p234:0≤(x14_1:Int):=od D0
       have q234:x14_1 < (x233000_2.length:Int):=od D0
       obtain ⟨ad234,A234_0,c234_0,e234,hx234_0,hl234_0,hi234_0⟩:=at_L1 (Kd.S_reads' HO_233000.out).2.2 x14_1 p234 q234
       cases e234
       obtain ⟨ce234,hce234,hMe234,hcc234⟩:=Kd.S_get HO_233000.out [] x14_1 p234 (by first|exact q234|exact od D0|(have e_:=(Kd.S_reads' HO_233000.out).1;omega))
       obtain ⟨ve234_0,rfl,ge234_0⟩:=hMe234
       have hv234_0:=hcc234 0 _ rfl
       rw [Nat.add_zero,show ((Kd.slice 5 (Kd.int .u8))).sz=1 from rfl,Nat.mul_one] at hv234_0
       replace hv234_0:=Option.some.inj (hv234_0.symm.trans hx234_0)
       rw [hv234_0] at ge234_0
       have HL234_0:=am (show Kd.R (Kd.int .u8) 5 _ _ _ _ (rd_L1 x233000_2 x14_1) from ge234_0)
       clear hv234_0 ge234_0
       have HX234_0:=am hx234_0
       clear hcc234 hce234
       have HR234_0:=am hi234_0
       have HC234_0:=am hl234_0
       clear hi234_0 hl234_0
       replace p234:=eq_true p234
       replace q234:=eq_true q234
       refine rS (n:=15) (S:=fun w'=>w'.cell? ⟨gb232,0,none⟩=some (.slice (some ad234) x233000_2.length co24)∧w'.cell? (ad234.add (x14_1).toNat)=some (.slice A234_0 (rd_L1 x233000_2 x14_1).length c234_0)) (ds:=[14]) [(0,26),(2,28),(5,31),(6,32),(7,33),(8,34),(9,35),(10,36),(11,37),(1,27),(3,29),(4,30),(12,0),(13,39),(14,0)] D3 rfl spec_l2Cauchy.tab8 spec_l2Cauchy.bits8 ⟨yk BK232 0,hx234_0⟩ (fun hHeld HT_ HW_=>?_)
       generalize wr.drew=w23 at HO_233000 BK228 BK232 HB HL234_0 HR234_0 HX234_0 hx234_0 hHeld ⊢
       refine rR ?_
       refine rO (N:=some 38) HT_ rfl rfl D3 D4 (fun K hK=>?_)
       refine goes_ Try.func203 D3 rfl #[.int .u8 ((Go.bits .xor .i64 (wrap64 (a1+x14_1)) x23_2) % 256)] D11 rfl rfl D8 ?_
       with_reducible refine (spec_l1Inverse.calls k2 ((Go.bits .xor .i64 (wrap64 (a1+x14_1)) x23_2) % 256) t235 _ A19.out).mono ?_
       rintro e w' ⟨rfl,⟨nd,rfl⟩⟩
       refine ⟨_,rfl,?_⟩
       have p22:0≤(x23_2:Int):=od D0
       have q22:(x23_2:Int) < (((rd_L1 x233000_2 x14_1).length:Int):Int):=od D0
       obtain ⟨go22,co22,eo22,gb22,gl22,cl22,HG22⟩:=Kd.R_form HL234_0.out D5
       (first|cases eo22|(injection eo22 with ea_ en_ ec_;(first|subst ea_|(injection ea_ with ea_;subst ea_));subst ec_;clear en_))
       have GB22:=am gb22
       have GG22:=am HG22
       clear gb22 gl22 HG22
       obtain ⟨hx22_0,hf22_0⟩:=Kd.R_celln 0 HL234_0.out (x23_2:Int) p22 q22
       replace p22:=eq_true p22
       replace q22:=eq_true q22
       have hq25:(x14_1:Int) < (x233000_2.length:Int):=(by have h_:(x14_1:Int) < ((x233000_2.length:Int):Int):=od D0;first|exact h_|(have e_:=(Kd.S_reads' HO_233000.out).1;omega)|simpa only [List.length_set,List.length_set] using h_)
       obtain ⟨oki25,ce25,hcl25,hM25,hcc25,hok25,hbk25⟩:=Kd.S_borrow HO_233000.out [] (x14_1:Int) (od D0) hq25
       obtain ⟨ve25_0,rfl,ge25_0⟩:=hM25
       have hv25:=hcc25 0 _ rfl
       rw [Nat.add_zero,show ((Kd.slice 5 (Kd.int .u8))).sz=1 from rfl,Nat.mul_one] at hv25
       replace hv25:=Option.some.inj (hv25.symm.trans HX234_0.out)
       subst hv25
       clear hcc25 hcl25
       replace ge25_0:=(show Kd.R (Kd.int .u8) 5 _ _ _ _ (rd_L1 x233000_2 x14_1) from ge25_0)
       have HP25:=Kd.R_putg ge25_0 (x23_2:Int) t235
       rw [← Ny236.out] at HP25
       have HS25:=hbk25 HP25.2 (fun k_ e_=>by injection e_ with e_;subst e_;exact ge25_0.1 _ rfl) (x':=y236) (Kd.M_row HP25.1)
       rw [← Ny238.out] at HS25
       have HQ25:=am HS25
       clear HP25 HS25 hbk25 hok25
       refine hK.out _ _ ⟨yk BK232 0,hHeld.2⟩ (fun hHeld=>?_)
       clear hK K
       refine rN (a':=?_) ?_ ?_
       rotate_left
       ·show Act.put _ (some 38) _=_
        simp only [Act.put,q1,q2,q3,i64_w,i32_w]
        rfl
       refine rR ?_
       refine rL (N:=none) HT_ rfl rfl D3 D4 (fun K hK=>?_)
       refine skip_ (w1:=?_) D11 rfl ?_ ?_
       rotate_left
       ·go_simp
        rfl
       refine hK.out _ _ ?_
       clear hK K
       refine rD HT_ D3 ?_
       try go_wp2
       go_roundg k2
       case measure=>have:=HK1.out;have:=HK2.out;omega
       case rel=>exact ⟨(wrap64 (x23_2+1)),(y238),(.slice (some ad234) x233000_2.length co24),D2,H',⟨D37⟩,⟨yS HQ25⟩,⟨by refine sB ?_;refine blk_far ?_ (by have h_:=Kd.R_ne HL234_0.out BK228.out D4;intro e_;exact h_ (by rw [e_];rfl)) _;exact yB BK228⟩,⟨by refine sB ?_;refine blk_far ?_ (by have h_:=Kd.R_ne HL234_0.out BK232.out D4;intro e_;exact h_ (by rw [e_];rfl)) _;exact yB BK232⟩,⟨by repeat (first|(with_reducible first|exact HB.out|apply pa|apply pb|apply pd|refine pt ?_ GB22.out|refine pt ?_ GE228.out|refine pt ?_ GE232.out)|exact HB.out)⟩⟩
      rw [if_neg c16] at H
      have c16b0:=decide_eq_false c16
      clear c16
      have H':=am H
      clear H
      go_wp2
      go_roundg k2
      case measure=>have:=HK1.out;have:=HK2.out;omega
      case rel=>exact ⟨(wrap64 (x14_1+1)),(x233000_2),(u233000),D2,H',⟨D37⟩,⟨yS HO_233000⟩,⟨yB BK228⟩,⟨yB BK232⟩,⟨yW HB⟩⟩
   rw [if_neg c10] at H
   have c10b0:=decide_eq_false c10
   clear c10
   obtain rfl:=Option.some.inj H
   have hnb27:=NB232_228.out
   have hnc27:=NB228_232.out
   obtain ⟨hcz28_0,hfz28_0⟩:=yk1 BK232
   obtain ⟨Ao29,co29,eo29⟩:=Kd.S_slice HO_233000.out
   subst eo29
   obtain ⟨hcz30_0,hfz30_0⟩:=yk1 BK228
   go_wp2
   refine bodyPost_ret (results_cell_row rfl _ _ gb228 43 #[.slice Ao29 x233000_1.length co29] (0,0) _ rfl (by refine sB ?_;refine blk_put (cs:=#[.slice none 0 0]) ?_ 0 _ rfl;exact yB BK228) Try.underlying43 rfl D3) rfl ?_
   exact ⟨_,D1,by refine sS ?_;exact Kd.S_mono (Kd.S_far (p:=⟨gb228,0,none⟩) (Kd.S_types HO_233000.out BK228.out D4) (fun _ hk=>hk.2) (.slice Ao29 x233000_1.length co29)) (fun _ hk=>trivial),yW HB⟩
mutual
def spec_l4Matrix.l0:Nat→Int→Int→Int→Int→Int→List (List Int)→Option ((List (List Int)))
 | 0,_,_,_,_,_,_=>none
 | k+1,x3,x5,x240000,x240001,x240002,x246000=>if x5 < x240000 then (if 0≤x3 then (if (x3:Int).toNat≤281474976710656 then (spec_l4Matrix.l1 k x3 x5 (List.replicate (x3:Int).toNat 0) 0 x240000 x240001 x240002 x246000) else (none)) else (none)) else ((spec_l2Cauchy.f k x240002 x3).bind fun t246=>(if x246000.length+t246.length < 5864062014805 then (some (x246000 ++ t246)) else (none)))
def spec_l4Matrix.l1:Nat→Int→Int→List Int→Int→Int→Int→Int→List (List Int)→Option ((List (List Int)))
 | 0,_,_,_,_,_,_,_,_=>none
 | k+1,x3,x5,x6,x7,x240000,x240001,x240002,x246000=>if x7 < x240001 then (if 0≤(wrap64 ((wrap64 (x5*x240001))+x7)) then (if (wrap64 ((wrap64 (x5*x240001))+x7)) < (x6.length:Int) then (spec_l4Matrix.l1 k x3 x5 (x6.set ((wrap64 ((wrap64 (x5*x240001))+x7)):Int).toNat 1) (wrap64 (x7+1)) x240000 x240001 x240002 x246000) else (none)) else (none)) else (if x246000.length < 5864062014805 then (spec_l4Matrix.l0 k x3 (wrap64 (x5+1)) x240000 x240001 x240002 (x246000 ++ [x6])) else (none))
end
def spec_l4Matrix.f (k:Nat) (a0_0:Int) (a0_1:Int) (a0_2:Int):Option ((List (List Int))):=(spec_l4Data.f a0_0 a0_1 a0_2).bind fun t241=>((spec_l2Identity.f k t241).bind fun t242=>(spec_l4Matrix.l0 k t241 0 a0_0 a0_1 a0_2 t242))
theorem spec_l4Matrix.mono_l:∀ k,(∀ y0 y1 y2 y3 y4 y5,LeO (spec_l4Matrix.l0 k y0 y1 y2 y3 y4 y5) (spec_l4Matrix.l0 (k+1) y0 y1 y2 y3 y4 y5))∧(∀ y0 y1 y2 y3 y4 y5 y6 y7,LeO (spec_l4Matrix.l1 k y0 y1 y2 y3 y4 y5 y6 y7) (spec_l4Matrix.l1 (k+1) y0 y1 y2 y3 y4 y5 y6 y7))
 | 0=>⟨fun _ _ _ _ _ _ r h=>by simp [spec_l4Matrix.l0] at h,fun _ _ _ _ _ _ _ _ r h=>by simp [spec_l4Matrix.l1] at h⟩
 | k+1=>by
  obtain ⟨ih0,ih1⟩:=spec_l4Matrix.mono_l k
  refine ⟨?_,?_⟩
  ·intro y0 y1 y2 y3 y4 y5
   unfold spec_l4Matrix.l0
   exact mm
  intro y0 y1 y2 y3 y4 y5 y6 y7
  unfold spec_l4Matrix.l1
  exact mm
theorem spec_l4Matrix.mono:∀ a0 a1 a2 k,LeO (spec_l4Matrix.f k a0 a1 a2) (spec_l4Matrix.f (k+1) a0 a1 a2):=by
 intro a0 a1 a2 k
 obtain ⟨ih0,ih1⟩:=spec_l4Matrix.mono_l k
 unfold spec_l4Matrix.f
 exact mm
def spec_l4Matrix.T12:Bool × List (List Nat × List Nat):=(true,[([],[]),([0],[0]),([],[]),([2],[2]),([],[]),([3,4],[3,4]),([5],[5]),([1,6,5],[1,6]),([0,1,2,3,4,5,6,7],[]),([8,7,7,0,1,2,3,4,5,6,7],[7,8])])
def spec_l4Matrix.B12:List Nat:=[0,1,0,4,0,28,60,127,255,511]
theorem spec_l4Matrix.tab12:rtab .any (opsOf Try.f110 12)=spec_l4Matrix.T12:=by kernel_rfl
theorem spec_l4Matrix.bits12:waitsOk spec_l4Matrix.T12.2 spec_l4Matrix.B12=true:=by kernel_rfl
theorem spec_l4Matrix.calls (k:Nat) (a0_0:Int) (a0_1:Int) (a0_2:Int) (r:List (List Int)) (w:World) (h:spec_l4Matrix.f k a0_0 a0_1 a0_2=some r) :
  Calls Try.prog 110 #[.agg #[.int .i64 a0_0, .int .i64 a0_1, .int .i64 a0_2]] w fun e w'=>∃ v0_:Value,e = .returned (.agg #[v0_])∧Kd.N (Kd.slice 5 (Kd.int .u8)) 57 w' w.heap.size (fun k_=>(w.heap.size≤k_)) v0_ r∧Below w.heap.size w w':=by
 have hu51:=Try.underlying51
 have hu43:=Try.underlying43
 have HB:=am (Below.refl w.heap.size w)
 have hfd:∀ (A:Option Addr) (n c:Nat) (w':World),(Instr.field 43 (.agg #[.slice A n c]) 0).run Try.prog w' = .ok (.slice A n c) w':=fun A n c w'=>by kernel_rfl
 have H:=h
 unfold spec_l4Matrix.f at H
 clear h
 obtain ⟨t241,A2,H⟩:=yo H
 obtain ⟨t242,A3,H⟩:=yo H
 have H':=am H
 clear H
 go_enter Try.func110,Try.ntmps110
 go_wp2_with (first|((with_reducible refine gD 1 ?_);refine gB (cs:=#[.int .i64 a0_0, .int .i64 a0_1, .int .i64 a0_2]) 51 ?_;intro gb239 hg w4 hbox hb;have BK239:=am (hbox);have GW239:=ye HB hg;replace HB:=yH HB hb;have GE239:=GW239;clear hb hbox hg)|((with_reducible refine gD 2 ?_);refine gB (cs:=#[.slice none 0 0]) 43 ?_;intro gb240 hg w5 hbox hb;have BK240:=am (hbox);have GW240:=ye HB hg;replace HB:=yH HB hb;have NB239_240:=yl BK239 hg;have NB240_239:=yg BK239 hg;replace BK239:=yb BK239 hb;have GE240:=GW240;clear hb hbox hg;have hnb6:=NB239_240.out;have hnc6:=NB240_239.out;obtain ⟨hcz7_0,hcz7_1,hcz7_2,hfz7_0,hfz7_1,hfz7_2⟩:=yk3 BK239)|((with_reducible refine gC 111 ?_);refine gM (some 9) Try.func111 (args:=#[.agg #[.int .i64 a0_0, .int .i64 a0_1, .int .i64 a0_2]]) (spec_l4Data.calls a0_0 a0_1 a0_2 t241 _ A2.out) ?_;rintro e w8 ⟨rfl,hb⟩;refine ⟨_,rfl,?_⟩;replace BK239:=yb BK239 hb;replace BK240:=yb BK240 hb;replace HB:=yH HB hb;clear hb)|((with_reducible refine gC 176 ?_);refine gM (some 11) Try.func176 (args:=#[.int .i64 t241]) (spec_l2Identity.calls k t241 t242 _ A3.out) ?_;rintro e w9 ⟨v243,rfl,ho0,hb⟩;refine ⟨_,rfl,?_⟩;have HO244:=am (Kd.N_lower (Kd.N_mono (ok':=fun k_=>(w.heap.size≤k_)∧k_ ≠ gb239∧k_ ≠ gb240) (Kd.S_N (Kd.S_bound ho0)) (fun k_ hk_=>⟨(Nat.le_trans (pz (yW HB)) hk_.2.1),(yz BK239 k_ hk_.2.1),(yz BK240 k_ hk_.2.1)⟩)) (pz (yW HB)));replace BK239:=yb BK239 hb;replace BK240:=yb BK240 hb;replace HB:=yH HB hb;clear hb ho0)|((with_reducible refine gD 4 ?_);refine gB (cs:=#[.slice none 0 0]) 43 ?_;intro gb245 hg w10 hbox hb;replace HO244:=oN HO244 hg hb;have BK245:=am (hbox);have GW245:=ye HB hg;replace HB:=yH HB hb;have NB239_245:=yl BK239 hg;have NB245_239:=yg BK239 hg;replace BK239:=yb BK239 hb;have NB240_245:=yl BK240 hg;have NB245_240:=yg BK240 hg;replace BK240:=yb BK240 hb;have GE245:=GW245;clear hb hbox hg;obtain ⟨Ao11,co11,eo11⟩:=Kd.N_slice HO244.out;subst eo11;have hnb12:=NB245_239.out;have hnc12:=NB239_245.out;have hnb13:=NB245_240.out;have hnc13:=NB240_245.out;obtain ⟨hcz14_0,hfz14_0⟩:=yk1 BK245))
 go_loopg [5] k (fun kq v5 w'=>∃ (x5_1:Int) (x246000_1:List (List Int)) (u246000:Value),v5 = .int .i64 x5_1∧Aside0 (spec_l4Matrix.l0 kq t241 x5_1 a0_0 a0_1 a0_2 x246000_1=some r)∧Aside0 (kq≤k)∧Aside0 (Kd.N (Kd.slice 5 (Kd.int .u8)) 57 w' w.heap.size (fun k_=>(w.heap.size≤k_)∧k_ ≠ gb239∧k_ ≠ gb240∧k_ ≠ gb245) u246000 x246000_1)∧Aside0 (w'.heap[gb239]? = some (.cells #[.int .i64 a0_0, .int .i64 a0_1, .int .i64 a0_2] 51 (0,0)))∧Aside0 (w'.heap[gb240]? = some (.cells #[(.slice none 0 0)] 43 (0,0)))∧Aside0 (w'.heap[gb245]? = some (.cells #[u246000] 43 (0,0)))∧Aside0 (Below w.heap.size w w'))
 case atStart=>exact ⟨(0),(t242),(.slice Ao11 t242.length co11),D2,H',⟨Nat.le_refl _⟩,⟨by refine sN ?_;exact Kd.N_mono (Kd.N_far (p:=⟨gb245,0,none⟩) (Kd.N_mono HO244.out (fun k_ hk=>(⟨hk,hk.2⟩:_∧k_ ≠ gb245))) (fun _ hk=>hk.2) (.slice Ao11 t242.length co11)) (fun _ hk=>⟨hk.1.1.1,⟨hk.1.1.2.1,⟨hk.1.1.2.2,hk.1.2⟩⟩⟩)⟩,⟨yF BK239⟩,⟨yF BK240⟩,⟨by refine sB ?_;refine blk_put (cs:=#[.slice none 0 0]) ?_ 0 _ rfl;exact yB BK245⟩,⟨yW HB⟩⟩
 case round =>
  clear H'
  try clear c1
  try clear p2
  try clear c6
  try clear c11
  try clear c12
  try clear c13
  try clear hcz14_0
  try clear hcz7_0
  try clear hcz7_1
  try clear hcz7_2
  try clear hfz14_0
  try clear hfz7_0
  try clear hfz7_1
  try clear hfz7_2
  obtain ⟨x5_1,x246000_1,u246000,rfl,HA,HK1,HO_246000,BK239,BK240,BK245,HB⟩:=hrel
  cases gk with
  | zero=>exact absurd HA.out (by simp [spec_l4Matrix.l0])
  | succ k1 =>
   have H:=HA.out
   clear HA
   simp only [spec_l4Matrix.l0] at H
   by_cases c15:x5_1 < a0_0
   ·rw [if_pos c15] at H
    have c15b0:=decide_eq_true c15
    clear c15
    obtain ⟨c16,H⟩:=yi H
    have c16b0:=eq_true c16
    have c16b1:decide (0≤t241)=true:=decide_eq_true c16
    clear c16
    obtain ⟨c17,H⟩:=yi H
    have c17b0:=eq_true c17
    have c17b1:decide ((t241:Int).toNat≤281474976710656)=true:=decide_eq_true c17
    clear c17
    generalize hy252:(List.replicate (t241:Int).toNat 0:List Int)=y252 at H
    have Ny252:=am hy252.symm
    clear hy252
    have H':=am H
    clear H
    have hnb18:=NB239_240.out
    have hnc18:=NB240_239.out
    have hnb19:=NB239_245.out
    have hnc19:=NB245_239.out
    obtain ⟨hcz20_0,hcz20_1,hcz20_2,hfz20_0,hfz20_1,hfz20_2⟩:=yk3 BK239
    go_wp2_with (first|((with_reducible refine gD 19 ?_);refine Kd.R_make (Kd.int .u8) _ 5 rfl (N:=19) rfl 57 _ _ rfl t241 rfl rfl Try.underlying57 (.int .u8 0) 1 info5 rfl D4 D5 0 (ok:=fun _=>True) (okp:=fun _=>True) rfl (fun _ hk=>hk) trivial (od D0) (Nat.le_trans (Nat.mul_le_mul_right _ (od D0:t241.toNat≤281474976710656)) D5) (Below.refl _ _) (Nat.le_refl _) ?_;intro v253 w21 ho22 hb hg_ hnew_;clear hg_ hnew_;(first|rw [← Ny252.out] at ho22|(simp only [Int.reduceToNat] at ho22;rw [← Ny252.out] at ho22));replace HO_246000:=eN HO_246000 (Kd.R_base ho22) hb;have HO254:=am (Kd.R_lower (Kd.R_newM (M:=fun k_=>(w.heap.size≤k_)) ho22 (pz (yW HB)) (fun k_ h_=>h_)) (pz (yW HB)));replace BK239:=yb BK239 hb;replace BK240:=yb BK240 hb;replace BK245:=yb BK245 hb;replace HB:=yH HB hb;clear hb ho22))
    go_loopg [7] k1 (fun kq v7 w'=>∃ (x6_2:List Int) (x7_2:Int),v7 = .int .i64 x7_2∧Aside0 (spec_l4Matrix.l1 kq t241 x5_1 x6_2 x7_2 a0_0 a0_1 a0_2 x246000_1=some r)∧Aside0 (kq≤k1)∧Aside0 (Kd.R (Kd.int .u8) 5 w' w.heap.size (fun k_=>(w.heap.size≤k_)) v253 x6_2)∧Aside0 (Kd.N (Kd.slice 5 (Kd.int .u8)) 57 w' w.heap.size (fun k_=>(w.heap.size≤k_)∧some k_ ≠ (v253:Value).ownBlock∧k_ ≠ gb239∧k_ ≠ gb240∧k_ ≠ gb245) u246000 x246000_1)∧Aside0 (w'.heap[gb239]? = some (.cells #[.int .i64 a0_0, .int .i64 a0_1, .int .i64 a0_2] 51 (0,0)))∧Aside0 (w'.heap[gb240]? = some (.cells #[(.slice none 0 0)] 43 (0,0)))∧Aside0 (w'.heap[gb245]? = some (.cells #[u246000] 43 (0,0)))∧Aside0 (Below w.heap.size w w'))
    case atStart=>exact ⟨(y252),(0),D2,H',⟨Nat.le_refl _⟩,⟨by refine sR ?_;exact Kd.R_mono HO254.out (fun _ hk=>hk.1)⟩,⟨D71⟩,⟨yB BK239⟩,⟨yB BK240⟩,⟨yB BK245⟩,⟨yW HB⟩⟩
    case round =>
     clear H'
     try clear c1
     try clear p2
     try clear c6
     try clear c11
     try clear c12
     try clear c13
     try clear c15
     try clear c15b0
     try clear c16
     try clear c16b0
     try clear c16b1
     try clear c17
     try clear c17b0
     try clear c17b1
     try clear c18
     try clear c19
     try clear hcz14_0
     try clear hcz20_0
     try clear hcz20_1
     try clear hcz20_2
     try clear hcz7_0
     try clear hcz7_1
     try clear hcz7_2
     try clear hfz14_0
     try clear hfz20_0
     try clear hfz20_1
     try clear hfz20_2
     try clear hfz7_0
     try clear hfz7_1
     try clear hfz7_2
     try clear p2
     obtain ⟨x6_2,x7_2,rfl,HA,HK2,HO_6,HO_246000,BK239,BK240,BK245,HB⟩:=hrel
     cases gk with
     | zero=>exact absurd HA.out (by simp [spec_l4Matrix.l1])
     | succ k2 =>
      have H:=HA.out
      clear HA
      simp only [spec_l4Matrix.l1] at H
      by_cases c23:x7_2 < a0_1
      ·rw [if_pos c23] at H
       have c23b0:=decide_eq_true c23
       clear c23
       generalize hji24:(wrap64 ((wrap64 (x5_1*a0_1))+x7_2))=ji24 at H
       have hji24w:(IntKind.i64.wrap ((wrap64 (x5_1*a0_1))+x7_2))=ji24:=(i64_w _).trans hji24
       obtain ⟨c25,H⟩:=yi H
       have c25b0:=decide_eq_true c25
       clear c25
       obtain ⟨c26,H⟩:=yi H
       have c26b0:=decide_eq_true c26
       clear c26
       generalize hy255:(x6_2.set ((ji24):Int).toNat 1:List Int)=y255 at H
       have Ny255:=am hy255.symm
       clear hy255
       have H':=am H
       clear H
       have hnb28:=NB239_240.out
       have hnc28:=NB240_239.out
       have hnb29:=NB239_245.out
       have hnc29:=NB245_239.out
       obtain ⟨hcz30_0,hcz30_1,hcz30_2,hfz30_0,hfz30_1,hfz30_2⟩:=yk3 BK239
       have p27:0≤((ji24):Int):=od D0
       have q27:((ji24):Int) < ((x6_2.length:Int):Int):=od D0
       obtain ⟨go27,co27,eo27,gb27,gl27,cl27,HG27⟩:=Kd.R_form HO_6.out D5
       (first|cases eo27|(injection eo27 with ea_ en_ ec_;(first|subst ea_|(injection ea_ with ea_;subst ea_));subst ec_;clear en_))
       have GB27:=am gb27
       have GG27:=am HG27
       clear gb27 gl27 HG27
       obtain ⟨hx27_0,hf27_0⟩:=Kd.R_celln 0 HO_6.out ((ji24):Int) p27 q27
       replace p27:=eq_true p27
       replace q27:=eq_true q27
       have HP31:=Kd.R_putg HO_6.out ((ji24):Int) 1
       go_wp2_with (first|((with_reducible refine gate_store (t:=5) (p:=33) rfl ?_);refine store_event (t:=5) (p:=33) (v:=?vo_w32) (w1:=(wr.setCell ⟨go27,((ji24):Int).toNat,none⟩ (.int .u8 1))) ?hg ?ho ?hn ?hr ?_;(case ho=>rfl);(case hg=>rfl);(case hn=>rfl);(case hr=>first|(go_simp;done)|(go_simp;rfl));intro w32 hw;have hg:wr.grownBy w32 (some go27):=(by rw [hw];exact HP31.2);have hp_:Kd.R (Kd.int .u8) 5 w32 w.heap.size (fun k_=>(w.heap.size≤k_)) (.slice (some ⟨go27,0,none⟩) x6_2.length co27) y255:=(by rw [hw,Ny255.out];exact HP31.1);clear HP31;replace HO_246000:=am (Kd.N_afterv (v:=(.slice (some ⟨go27,0,none⟩) x6_2.length co27)) (v1:=(.slice (some ⟨go27,0,none⟩) x6_2.length co27)) (ok:=(fun k_=>(w.heap.size≤k_)∧k_ ≠ gb239∧k_ ≠ gb240∧k_ ≠ gb245)) (by refine sN ?_;exact Kd.N_mono HO_246000.out (fun _ hk=>⟨⟨hk.1,⟨hk.2.2.1,⟨hk.2.2.2.1,hk.2.2.2.2⟩⟩⟩,hk.2.1⟩)) hg (.inl rfl));replace BK239:=am (blk_grown (g:=gb239) (o:=.cells #[.int .i64 a0_0, .int .i64 a0_1, .int .i64 a0_2] 51 (0,0)) (yB BK239) hg (Kd.R_ne HO_6.out BK239.out D4));replace BK240:=am (blk_grown (g:=gb240) (o:=.cells #[.slice none 0 0] 43 (0,0)) (yB BK240) hg (Kd.R_ne HO_6.out BK240.out D4));replace BK245:=am (blk_grown (g:=gb245) (o:=.cells #[u246000] 43 (0,0)) (yB BK245) hg (Kd.R_ne HO_6.out BK245.out D4));replace HO_6:=am (hp_);replace HB:=am ((by rw [hw];exact pt (HB.out) GB27.out:Below w.heap.size w w32));clear hg hw hp_))
       go_roundg k2
       case measure=>have:=HK1.out;have:=HK2.out;omega
       case rel=>exact ⟨(y255),(wrap64 (x7_2+1)),D2,H',⟨D37⟩,⟨yR HO_6⟩,⟨D71⟩,⟨yB BK239⟩,⟨yB BK240⟩,⟨yB BK245⟩,⟨yW HB⟩⟩
      rw [if_neg c23] at H
      have c23b0:=decide_eq_false c23
      clear c23
      obtain ⟨c33,H⟩:=yi H
      have LMc33:=am c33
      clear c33
      generalize hy256:(x246000_1 ++ [x6_2]:List (List Int))=y256 at H
      have Ny256:=am hy256.symm
      clear hy256
      have H':=am H
      clear H
      have hnb34:=NB239_240.out
      have hnc34:=NB240_239.out
      have hnb35:=NB239_245.out
      have hnc35:=NB245_239.out
      obtain ⟨hcz36_0,hcz36_1,hcz36_2,hfz36_0,hfz36_1,hfz36_2⟩:=yk3 BK239
      have hnb37:=NB245_240.out
      have hnc37:=NB240_245.out
      obtain ⟨hcz38_0,hfz38_0⟩:=yk1 BK245
      obtain ⟨Ao40,co40,eo40⟩:=Kd.R_slice HO_6.out
      subst eo40
      go_wp2_with (first|((with_reducible refine gate_builtin (b:=.append) (xs:=#[.tmp 35, .tmp 37]) rfl ?_);at_builtin;refine Kd.N_append (Kd.slice 5 (Kd.int .u8)) (w0:=w) w.heap.size rfl (.tmp 35) (.tmp 37) 37 57 (.slice none 0 0) 24 rfl Try.underlying37 info57 rfl D4 D5 u246000 x246000_1 x6_2 [.slice Ao40 x6_2.length co40] (fun k_=>(w.heap.size≤k_)∧k_ ≠ gb239∧k_ ≠ gb240∧k_ ≠ gb245) (fun k_=>((fun k_=>(w.heap.size≤k_)∧k_ ≠ gb239∧k_ ≠ gb240∧k_ ≠ gb245)) k_∧some k_ ≠ (u246000:Value).ownBlock) rfl rfl (by exact (Kd.FK_slice_mk (Kd.R_reads' (Kd.R_mono (ok':=(fun k_=>((fun k_=>(w.heap.size≤k_)∧k_ ≠ gb239∧k_ ≠ gb240∧k_ ≠ gb245)) k_∧some k_ ≠ (u246000:Value).ownBlock)) (Kd.R_types (Kd.R_types (Kd.R_types (Kd.R_apart' (HO_6.out) (Kd.N_typed HO_246000.out) D4) BK239.out D4) BK240.out D4) BK245.out D4) (fun k_ hk=>⟨⟨hk.1.1.1.1,⟨hk.1.1.2,⟨hk.1.2,hk.2⟩⟩⟩,hk.1.1.1.2⟩))).2.1 (Kd.R_F (Kd.R_mono (ok':=(fun k_=>((fun k_=>(w.heap.size≤k_)∧k_ ≠ gb239∧k_ ≠ gb240∧k_ ≠ gb245)) k_∧some k_ ≠ (u246000:Value).ownBlock)) (Kd.R_types (Kd.R_types (Kd.R_types (Kd.R_apart' (HO_6.out) (Kd.N_typed HO_246000.out) D4) BK239.out D4) BK240.out D4) BK245.out D4) (fun k_ hk=>⟨⟨hk.1.1.1.1,⟨hk.1.1.2,⟨hk.1.2,hk.2⟩⟩⟩,hk.1.1.1.2⟩))))) (fun _ hk=>hk) (by exact (fun k_ hk=>⟨(Nat.le_trans (pz (yW HB)) hk),yz BK239 k_ hk,yz BK240 k_ hk,yz BK245 k_ hk⟩)) (by exact (by refine sN ?_;exact Kd.N_mono HO_246000.out (fun _ hk=>⟨hk.1,⟨hk.2.2.1,⟨hk.2.2.2.1,hk.2.2.2.2⟩⟩⟩))) D46 D26 (by have:=LMc33.out;omega) ?_;intro v257 w39 ho hb hg hat;rw [← Ny256.out] at ho;have n0_:=am (blk_grown (g:=gb239) (o:=.cells #[.int .i64 a0_0, .int .i64 a0_1, .int .i64 a0_2] 51 (0,0)) (yB BK239) hg (Kd.N_ne HO_246000.out BK239.out D4));have n1_:=am (blk_grown (g:=gb240) (o:=.cells #[.slice none 0 0] 43 (0,0)) (yB BK240) hg (Kd.N_ne HO_246000.out BK240.out D4));have n2_:=am (blk_grown (g:=gb245) (o:=.cells #[u246000] 43 (0,0)) (yB BK245) hg (Kd.N_ne HO_246000.out BK245.out D4));have n3_:=am (hb);have n4_:=am (ho);clear BK239 BK240 BK245 HB HO_246000 HO_6;have BK239:=n0_;have BK240:=n1_;have BK245:=n2_;have HB:=n3_;have HO258:=n4_;clear n0_ n1_ n2_ n3_ n4_ ho hb hg hat;obtain ⟨Ao41,co41,eo41⟩:=Kd.N_slice HO258.out;subst eo41;obtain ⟨hcz42_0,hfz42_0⟩:=yk1 BK245))
      go_roundg k2
      case measure=>have:=HK1.out;have:=HK2.out;omega
      case rel=>exact ⟨(wrap64 (x5_1+1)),(y256),(.slice Ao41 y256.length co41),D2,H',⟨D37⟩,⟨by refine sN ?_;exact Kd.N_mono (Kd.N_far (p:=⟨gb245,0,none⟩) (Kd.N_mono HO258.out (fun k_ hk=>(⟨hk,hk.2.2.2⟩:_∧k_ ≠ gb245))) (fun _ hk=>hk.2) (.slice Ao41 y256.length co41)) (fun _ hk=>⟨hk.1.1,⟨hk.1.2.1,⟨hk.1.2.2.1,hk.1.2.2.2⟩⟩⟩)⟩,⟨yF BK239⟩,⟨yF BK240⟩,⟨by refine sB ?_;refine blk_put (cs:=#[u246000]) ?_ 0 _ rfl;exact yB BK245⟩,⟨yW HB⟩⟩
   rw [if_neg c15] at H
   have c15b0:=decide_eq_false c15
   clear c15
   obtain ⟨t246,A43,H⟩:=yo H
   by_cases c44:x246000_1.length+t246.length < 5864062014805
   ·rw [if_pos c44] at H
    have LMc44:=am c44
    clear c44
    generalize hy249:(x246000_1 ++ t246:List (List Int))=y249 at H
    have Ny249:=am hy249.symm
    clear hy249
    obtain rfl:=Option.some.inj H
    have hnb45:=NB239_240.out
    have hnc45:=NB240_239.out
    have hnb46:=NB239_245.out
    have hnc46:=NB245_239.out
    obtain ⟨hcz47_0,hcz47_1,hcz47_2,hfz47_0,hfz47_1,hfz47_2⟩:=yk3 BK239
    try go_wp2
    replace HO_246000:=am (Kd.N_drew HO_246000.out)
    replace BK239:=am (qd BK239.out)
    replace BK240:=am (qd BK240.out)
    replace BK245:=am (qd BK245.out)
    replace HB:=am (pd HB.out)
    refine rS (n:=10) (S:=fun w'=>w'.cell? ⟨gb245,0,none⟩=some (u246000)∧w'.cell? ⟨gb239,0,none⟩=some (.int .i64 a0_0)∧w'.cell? ⟨gb239,1,none⟩=some (.int .i64 a0_1)∧w'.cell? ⟨gb239,2,none⟩=some (.int .i64 a0_2)) (ds:=[9]) [(0,40),(2,42),(4,44),(1,41),(3,43),(5,0),(6,46),(7,0),(8,48),(9,0)] D3 rfl spec_l4Matrix.tab12 spec_l4Matrix.bits12 ⟨yk BK245 0,yk BK239 0,yk BK239 1,yk BK239 2⟩ (fun hHeld HT_ HW_=>?_)
    generalize wr.drew=w48 at HO_246000 BK239 BK240 BK245 HB hHeld ⊢
    refine rR ?_
    refine rO (N:=some 45) HT_ rfl rfl D3 D4 (fun K hK=>?_)
    refine goes_ Try.func186 D3 rfl #[.int .i64 a0_2, .int .i64 t241] D11 rfl rfl D8 ?_
    with_reducible refine (spec_l2Cauchy.calls k1 a0_2 t241 t246 _ A43.out).mono ?_
    rintro e w49 ⟨v247,rfl,ho0,hb⟩
    refine ⟨_,rfl,?_⟩
    have HO248:=am (Kd.N_lower (Kd.N_mono (ok':=fun k_=>(w.heap.size≤k_)∧some k_ ≠ (u246000:Value).ownBlock∧k_ ≠ gb239∧k_ ≠ gb240∧k_ ≠ gb245) (Kd.S_N (Kd.S_bound ho0)) (fun k_ hk_=>⟨(Nat.le_trans (pz (yW HB)) hk_.2.1),(Kd.fresh' (Kd.N_lt (yN HO_246000)) k_ hk_.2.1),(yz BK239 k_ hk_.2.1),(yz BK240 k_ hk_.2.1),(yz BK245 k_ hk_.2.1)⟩)) (pz (yW HB)))
    replace HO_246000:=eN HO_246000 D7 hb
    replace BK239:=yb BK239 hb
    replace BK240:=yb BK240 hb
    replace BK245:=yb BK245 hb
    replace HB:=yH HB hb
    (try clear hb)
    (try clear hb2)
    (try clear hk)
    (try clear hi)
    (try clear ho0)
    obtain ⟨Ao51,co51,eo51⟩:=Kd.N_slice HO248.out
    (first|subst eo51|(injection eo51 with f1_ f2_ f3_;have f4_:=f1_.symm;have f5_:=f3_.symm;clear f1_ f2_ f3_;subst f4_;subst f5_))
    refine hK.out _ _ ⟨yk BK245 0,yk BK239 0,yk BK239 1,yk BK239 2⟩ (fun hHeld=>?_)
    clear hK K
    refine rN (a':=?_) ?_ ?_
    rotate_left
    ·show Act.put _ (some 45) _=_
     simp only [Act.put,q1,q2,q3,i64_w,i32_w]
     rfl
    refine rR ?_
    refine rO (N:=some 47) HT_ rfl rfl D3 D4 (fun K hK=>?_)
    refine Kd.N_append_rows_step (Kd.slice 5 (Kd.int .u8)) (w0:=w) w.heap.size D11 (.tmp 41) (.tmp 46) 37 57 (.slice none 0 0) 24 rfl Try.underlying37 info57 rfl D4 D5 u246000 x246000_1 t246 _ _ _ (fun k_=>(w.heap.size≤k_)∧k_ ≠ gb239∧k_ ≠ gb240∧k_ ≠ gb245) (fun k_=>((fun k_=>(w.heap.size≤k_)∧k_ ≠ gb239∧k_ ≠ gb240∧k_ ≠ gb245)) k_∧some k_ ≠ (u246000:Value).ownBlock) rfl rfl ?aO ?aR (fun _ hk=>hk) ?aF ?aB ?aS ?aL ?_
    (case aR=>exact (by skip;exact Kd.N_F (Kd.N_mono (ok':=(fun k_=>((fun k_=>(w.heap.size≤k_)∧k_ ≠ gb239∧k_ ≠ gb240∧k_ ≠ gb245)) k_∧some k_ ≠ (u246000:Value).ownBlock)) (HO248.out) (fun k_ hk=>⟨⟨hk.1,⟨hk.2.2.1,⟨hk.2.2.2.1,hk.2.2.2.2⟩⟩⟩,hk.2.1⟩))))
    (case aB=>exact (yW HB))
    (case aF=>exact (fun k_ hk=>⟨(Nat.le_trans (pz (yW HB)) hk),yz BK239 k_ hk,yz BK240 k_ hk,yz BK245 k_ hk⟩))
    (case aO=>exact (by refine sN ?_;exact Kd.N_mono HO_246000.out (fun _ hk=>⟨hk.1.1,⟨hk.1.2.1,⟨hk.1.2.2.1,hk.1.2.2.2⟩⟩⟩)))
    (case aS=>exact (pz (yW HB)))
    (case aL=>have:=LMc44.out;omega)
    intro v250 w50 ho hb hg hat
    rw [← Ny249.out] at ho
    have n0_:=am (blk_grown (g:=gb239) (o:=.cells #[.int .i64 a0_0, .int .i64 a0_1, .int .i64 a0_2] 51 (0,0)) (yB BK239) hg (Kd.N_ne HO_246000.out BK239.out D4))
    have n1_:=am (blk_grown (g:=gb240) (o:=.cells #[.slice none 0 0] 43 (0,0)) (yB BK240) hg (Kd.N_ne HO_246000.out BK240.out D4))
    have n2_:=am (blk_grown (g:=gb245) (o:=.cells #[u246000] 43 (0,0)) (yB BK245) hg (Kd.N_ne HO_246000.out BK245.out D4))
    have n3_:=am (Kd.N_afterv (ok:=(fun k_=>(w.heap.size≤k_)∧k_ ≠ gb239∧k_ ≠ gb240∧k_ ≠ gb245)) (by refine sN ?_;exact Kd.N_mono HO248.out (fun _ hk=>⟨⟨hk.1,⟨hk.2.2.1,⟨hk.2.2.2.1,hk.2.2.2.2⟩⟩⟩,hk.2.1⟩)) hg hat)
    have n4_:=am (hb)
    have n5_:=am (ho)
    clear BK239
    clear BK240
    clear BK245
    clear HO248
    clear HB
    clear HO_246000
    have BK239:=n0_
    have BK240:=n1_
    have BK245:=n2_
    have HO248:=n3_
    have HB:=n4_
    have HO251:=n5_
    clear n0_ n1_ n2_ n3_ n4_ n5_
    clear ho hb hg hat
    obtain ⟨Ao52,co52,eo52⟩:=Kd.N_slice HO251.out
    (first|subst eo52|(injection eo52 with f1_ f2_ f3_;have f4_:=f1_.symm;have f5_:=f3_.symm;clear f1_ f2_ f3_;subst f4_;subst f5_))
    refine hK.out _ _ ⟨yk BK245 0,yk BK239 0,yk BK239 1,yk BK239 2⟩ (fun hHeld=>?_)
    clear hK K
    refine rN (a':=?_) ?_ ?_
    rotate_left
    ·show Act.put _ (some 47) _=_
     simp only [Act.put,q1,q2,q3,i64_w,i32_w]
     rfl
    refine rR ?_
    refine rL (N:=none) HT_ rfl rfl D3 D4 (fun K hK=>?_)
    have hs53:w50.cell? ⟨gb245,0,none⟩=some (u246000):=(blk_cell BK245.out 0).trans rfl
    have hfs53:=blk_frozen BK245.out 0
    have hns53_0:=NB239_245.out
    have hns53_1:=NB240_245.out
    have hms53_0:=NB245_239.out
    have hms53_1:=NB245_240.out
    refine skip_ (w1:=?_) D11 rfl ?_ ?_
    rotate_left
    ·go_simp
     rfl
    refine hK.out _ _ ?_
    clear hK K
    refine rD HT_ D3 ?_
    have hnb54:=NB245_240.out
    have hnc54:=NB240_245.out
    obtain ⟨hcz55_0,hfz55_0⟩:=yk1 BK245
    obtain ⟨hcz56_0,hfz56_0⟩:=yk1 BK240
    try go_wp2
    refine bodyPost_ret (results_cell_row rfl _ _ gb240 43 #[.slice Ao52 y249.length co52] (0,0) _ rfl (by refine sB ?_;refine blk_put (cs:=#[.slice none 0 0]) ?_ 0 _ rfl;exact yF BK240) Try.underlying43 rfl D3) rfl ?_
    exact ⟨_,D1,by refine sN ?_;exact Kd.N_mono (Kd.N_far (p:=⟨gb240,0,none⟩) (Kd.N_far (p:=⟨gb245,0,none⟩) (Kd.N_mono (Kd.N_mono HO251.out (fun k_ hk=>(⟨hk,hk.2.2.2⟩:_∧k_ ≠ gb245))) (fun k_ hk=>(⟨hk,hk.1.2.2.1⟩:_∧k_ ≠ gb240))) (fun _ hk=>hk.1.2) (.slice Ao52 y249.length co52)) (fun _ hk=>hk.2) (.slice Ao52 y249.length co52)) (fun _ hk=>hk.1.1.1),yW HB⟩
   rw [if_neg c44] at H
   exact absurd H D36
end Go.Proofs.Ytajikfnpcobnpaa.PFnExactDecodeLocal
-- SQUEEZED
