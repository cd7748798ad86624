-- Laid by a program of this session.
import Derived.Test.YtajikfnpcobnpaaVMendStripeB
import Derived.Test.YtajikfnpcobnpaaPFnExactMendStripex0
import Derived.Test.YtajikfnpcobnpaaPFnExactMendStripex19
namespace Go.Proofs.Ytajikfnpcobnpaa.PFnExactMendStripe
open Go.RowKit Go.Proofs.YtajikfnpcobnpaaW.PrintWords Go.Proofs.YtajikfnpcobnpaaW.PrintLast Go.Proofs.YtajikfnpcobnpaaW.PrintMore Go.Proofs.Ytajikfnpcobnpaa.KitS
attribute [local go_sem] max2_int min2_int max_two min_two max_three min_three max_four min_four   -- for this text's walks alone
set_option linter.unusedVariables false
set_option maxHeartbeats 8000000
set_option maxRecDepth 100000
set_option linter.unusedSimpArgs false

def laws_heldStringS.l0:Nat→List ByteArray→Int→Int→Option (Int)
 | 0,_,_,_=>none
 | k+1,x0,x1,x5=>if x5 < (x0.length:Int) then (if 0≤x5 then ((laws_markText.f k x1).bind fun t380=>(if (rdOf ByteArray.empty x0 x5).toList=t380.toList then (laws_heldStringS.l0 k x0 (wrap64 (x1+1)) (wrap64 (x5+1))) else (some (-1)))) else (none)) else (some x1)
def laws_heldStringS.f (k:Nat) (l0:List ByteArray) (a1:Int):Option (Int):=laws_heldStringS.l0 k l0 a1 0
theorem laws_heldStringS.mono_l:∀ k,(∀ y0 y1 y2,LeO (laws_heldStringS.l0 k y0 y1 y2) (laws_heldStringS.l0 (k+1) y0 y1 y2))
 | 0=>fun _ _ _ r h=>by simp [laws_heldStringS.l0] at h
 | k+1=>by
  have ih0:=laws_heldStringS.mono_l k
  intro y0 y1 y2
  unfold laws_heldStringS.l0
  exact mm
theorem laws_heldStringS.mono:∀ a0 a1 k,LeO (laws_heldStringS.f k a0 a1) (laws_heldStringS.f (k+1) a0 a1):=by
 intro a0 a1 k
 have ih0:=laws_heldStringS.mono_l k
 unfold laws_heldStringS.f
 exact mm
theorem laws_heldStringS.calls (k:Nat) (A0:Option Addr) (c0:Nat) (l0:List ByteArray) (a1:Int) (r:Int) (w:World) (hr0:Kd.C Kd.string w A0 l0.length l0) (hc0:l0.length≤c0) (h:laws_heldStringS.f k l0 a1=some r) :
  Calls Try.prog 66 #[.slice A0 l0.length c0, .int .i64 a1] w fun e w'=>e = .returned (.int .i64 r)∧Below w.heap.size w w':=by
 have HR0:=am hr0
 have HC0:=am hc0
 clear hr0 hc0
 have HB:=am (Below.refl w.heap.size w)
 have H:=h
 unfold laws_heldStringS.f at H
 clear h
 have H':=am H
 clear H
 go_enter Try.func66,Try.ntmps66
 go_wp2
 go_loopg [1,5] k (fun kq v1 v5 w'=>∃ (x1_1:Int) (x5_1:Int),v1 = .int .i64 x1_1∧v5 = .int .i64 x5_1∧Aside0 (laws_heldStringS.l0 kq l0 x1_1 x5_1=some r)∧Aside0 (kq≤k)∧Aside0 (Below w.heap.size w w'))
 case atStart=>exact ⟨(a1),(0),D1,D1,H',⟨Nat.le_refl _⟩,⟨yW HB⟩⟩
 case round =>
  clear H'
  try clear p2
  obtain ⟨x1_1,x5_1,rfl,rfl,HA,HK1,HB⟩:=hrel
  cases gk with
  | zero=>exact absurd HA.out (by simp [laws_heldStringS.l0])
  | succ k1 =>
   have H:=HA.out
   clear HA
   simp only [laws_heldStringS.l0] at H
   by_cases c3:x5_1 < (l0.length:Int)
   ·rw [if_pos c3] at H
    have c3b0:=decide_eq_true c3
    clear c3
    obtain ⟨c4,H⟩:=yi H
    have c4b0:=decide_eq_true c4
    clear c4
    obtain ⟨t380,A5,H⟩:=yo H
    by_cases c6:(rdOf ByteArray.empty l0 x5_1).toList=t380.toList
    ·rw [if_pos c6] at H
     have c6b0:((rdOf ByteArray.empty l0 x5_1).toList == t380.toList)=true:=beq_iff_eq.mpr c6
     have c6b1:((rdOf ByteArray.empty l0 x5_1).toList != t380.toList)=false:=bne_eq_false_iff_eq.mpr c6
     clear c6
     have H':=am H
     clear H
     try go_wp2
     replace HB:=am (pd HB.out)
     have p379:0≤(x5_1:Int):=od D0
     have q379:x5_1 < (l0.length:Int):=od D0
     obtain ⟨ad379,e379,hx379_0⟩:=Kd.at_string HR0.out x5_1 p379 q379
     have hw379_0:=hx379_0
     cases e379
     replace hx379_0:=(HB.out.cell (World.block_lt_of_cell? w _ hx379_0)).trans hx379_0
     replace p379:=eq_true p379
     replace q379:=eq_true q379
     refine start_ (n:=7) (S:=fun w'=>w'.cell? (ad379.add (x5_1).toNat)=some (.string (rdOf ByteArray.empty l0 x5_1))) (ds:=[]) #[Z,Z,Z,Z,Z,Z,Z] D2 rfl rfl (((HB.out.cell (World.block_lt_of_cell? w _ hw379_0)).trans hw379_0)) (fun hHeld=>?_)
     generalize wr.drew=w7 at HB hx379_0 hHeld ⊢
     refine pure_ (i:=0) (N:=some 12) (v:=?_) (a':=?_) #[Y,Z,Z,Z,Z,Z,Z] rfl rfl D2 hh (Or.inl ⟨D10,?_⟩) ?_ ?_
     rotate_left
     ·intro w'
      go_simp
      with_reducible rfl
     rotate_left
     ·simp only [Act.put,q1,q2,q3,i64_w,i32_w]
      rfl
     refine pure_ (i:=1) (N:=some 13) (v:=?_) (a':=?_) #[Y,Y,Z,Z,Z,Z,Z] rfl rfl D2 hh (Or.inl ⟨D10,?_⟩) ?_ ?_
     rotate_left
     ·intro w'
      go_simp
      with_reducible rfl
     rotate_left
     ·simp only [Act.put,q1,q2,q3,i64_w,i32_w]
      rfl
     refine pure_ (i:=2) (N:=some 14) (v:=?_) (a':=?_) #[Y,Y,Y,Z,Z,Z,Z] rfl rfl D2 hh (Or.inl ⟨D10,?_⟩) ?_ ?_
     rotate_left
     ·intro w'
      go_simp
      with_reducible rfl
     rotate_left
     ·simp only [Act.put,q1,q2,q3,i64_w,i32_w]
      rfl
     refine pure_ (i:=4) (N:=some 16) (v:=?_) (a':=?_) #[Y,Y,Y,Z,Y,Z,Z] rfl rfl D2 hh (Or.inl ⟨D10,?_⟩) ?_ ?_
     rotate_left
     ·intro w'
      go_simp
      with_reducible rfl
     rotate_left
     ·simp only [Act.put,q1,q2,q3,i64_w,i32_w]
      rfl
     refine take_ (i:=3) (N:=some 15) (v:=?_) (a':=?_) #[Y,Y,Y,Y,Y,Z,Z] rfl rfl D2 hh (Or.inl ⟨D10,?_⟩) hHeld ?_ ?_
     rotate_left
     ·intro w' s0
      go_simp
      with_reducible rfl
     rotate_left
     ·simp only [Act.put,q1,q2,q3,i64_w,i32_w]
      rfl
     refine one_ (i:=5) (N:=some 17) #[Y,Y,Y,Y,Y,Y,Z] rfl rfl D2 D6 (fun K hK=>?_)
     refine goes_ Try.func147 D2 rfl #[.int .i64 x1_1] D10 rfl rfl D4 ?_
     with_reducible refine (laws_markText.calls k1 x1_1 t380 _ A5.out).mono ?_
     rintro e w8 ⟨rfl,hb⟩
     refine ⟨_,rfl,?_⟩
     replace HB:=yH HB hb
     (try clear hb)
     (try clear hb2)
     (try clear hk)
     (try clear hi)
     refine hK.out _ _ (((HB.out.cell (World.block_lt_of_cell? w _ hw379_0)).trans hw379_0)) (fun hHeld=>?_)
     clear hK K
     refine norm_ (a':=?_) ?_ ?_
     rotate_left
     ·show Act.put _ (some 17) _=_
      simp only [Act.put,q1,q2,q3,i64_w,i32_w]
      rfl
     refine pure_ (i:=6) (N:=some 18) (v:=?_) (a':=?_) #[Y,Y,Y,Y,Y,Y,Y] rfl rfl D2 hh (Or.inl ⟨D10,?_⟩) ?_ ?_
     rotate_left
     ·intro w'
      go_simp
      with_reducible rfl
     rotate_left
     ·simp only [Act.put,q1,q2,q3,i64_w,i32_w]
      rfl
     refine done_ D2 ?_
     try go_wp2
     go_roundg k1
     case measure=>have:=HK1.out;omega
     case rel=>exact ⟨(wrap64 (x1_1+1)),(wrap64 (x5_1+1)),D1,D1,H',⟨D17⟩,⟨yW HB⟩⟩
    rw [if_neg c6] at H
    have c6b0:((rdOf ByteArray.empty l0 x5_1).toList == t380.toList)=false:=beq_eq_false_iff_ne.mpr c6
    have c6b1:((rdOf ByteArray.empty l0 x5_1).toList != t380.toList)=true:=bne_iff_ne.mpr c6
    obtain rfl:=Option.some.inj H
    try go_wp2
    replace HB:=am (pd HB.out)
    have p379:0≤(x5_1:Int):=od D0
    have q379:x5_1 < (l0.length:Int):=od D0
    obtain ⟨ad379,e379,hx379_0⟩:=Kd.at_string HR0.out x5_1 p379 q379
    have hw379_0:=hx379_0
    cases e379
    replace hx379_0:=(HB.out.cell (World.block_lt_of_cell? w _ hx379_0)).trans hx379_0
    replace p379:=eq_true p379
    replace q379:=eq_true q379
    refine start_ (n:=7) (S:=fun w'=>w'.cell? (ad379.add (x5_1).toNat)=some (.string (rdOf ByteArray.empty l0 x5_1))) (ds:=[]) #[Z,Z,Z,Z,Z,Z,Z] D2 rfl rfl (((HB.out.cell (World.block_lt_of_cell? w _ hw379_0)).trans hw379_0)) (fun hHeld=>?_)
    generalize wr.drew=w9 at HB hx379_0 hHeld ⊢
    refine pure_ (i:=0) (N:=some 12) (v:=?_) (a':=?_) #[Y,Z,Z,Z,Z,Z,Z] rfl rfl D2 hh (Or.inl ⟨D10,?_⟩) ?_ ?_
    rotate_left
    ·intro w'
     go_simp
     with_reducible rfl
    rotate_left
    ·simp only [Act.put,q1,q2,q3,i64_w,i32_w]
     rfl
    refine pure_ (i:=1) (N:=some 13) (v:=?_) (a':=?_) #[Y,Y,Z,Z,Z,Z,Z] rfl rfl D2 hh (Or.inl ⟨D10,?_⟩) ?_ ?_
    rotate_left
    ·intro w'
     go_simp
     with_reducible rfl
    rotate_left
    ·simp only [Act.put,q1,q2,q3,i64_w,i32_w]
     rfl
    refine pure_ (i:=2) (N:=some 14) (v:=?_) (a':=?_) #[Y,Y,Y,Z,Z,Z,Z] rfl rfl D2 hh (Or.inl ⟨D10,?_⟩) ?_ ?_
    rotate_left
    ·intro w'
     go_simp
     with_reducible rfl
    rotate_left
    ·simp only [Act.put,q1,q2,q3,i64_w,i32_w]
     rfl
    refine pure_ (i:=4) (N:=some 16) (v:=?_) (a':=?_) #[Y,Y,Y,Z,Y,Z,Z] rfl rfl D2 hh (Or.inl ⟨D10,?_⟩) ?_ ?_
    rotate_left
    ·intro w'
     go_simp
     with_reducible rfl
    rotate_left
    ·simp only [Act.put,q1,q2,q3,i64_w,i32_w]
     rfl
    refine take_ (i:=3) (N:=some 15) (v:=?_) (a':=?_) #[Y,Y,Y,Y,Y,Z,Z] rfl rfl D2 hh (Or.inl ⟨D10,?_⟩) hHeld ?_ ?_
    rotate_left
    ·intro w' s0
     go_simp
     with_reducible rfl
    rotate_left
    ·simp only [Act.put,q1,q2,q3,i64_w,i32_w]
     rfl
    refine one_ (i:=5) (N:=some 17) #[Y,Y,Y,Y,Y,Y,Z] rfl rfl D2 D6 (fun K hK=>?_)
    refine goes_ Try.func147 D2 rfl #[.int .i64 x1_1] D10 rfl rfl D4 ?_
    with_reducible refine (laws_markText.calls k1 x1_1 t380 _ A5.out).mono ?_
    rintro e w10 ⟨rfl,hb⟩
    refine ⟨_,rfl,?_⟩
    replace HB:=yH HB hb
    (try clear hb)
    (try clear hb2)
    (try clear hk)
    (try clear hi)
    refine hK.out _ _ (((HB.out.cell (World.block_lt_of_cell? w _ hw379_0)).trans hw379_0)) (fun hHeld=>?_)
    clear hK K
    refine norm_ (a':=?_) ?_ ?_
    rotate_left
    ·show Act.put _ (some 17) _=_
     simp only [Act.put,q1,q2,q3,i64_w,i32_w]
     rfl
    refine pure_ (i:=6) (N:=some 18) (v:=?_) (a':=?_) #[Y,Y,Y,Y,Y,Y,Y] rfl rfl D2 hh (Or.inl ⟨D10,?_⟩) ?_ ?_
    rotate_left
    ·intro w'
     go_simp
     with_reducible rfl
    rotate_left
    ·simp only [Act.put,q1,q2,q3,i64_w,i32_w]
     rfl
    refine done_ D2 ?_
    try go_wp2
    go_ret
    exact ⟨D3,yW HB⟩
   rw [if_neg c3] at H
   have c3b0:=decide_eq_false c3
   clear c3
   obtain rfl:=Option.some.inj H
   go_wp2
   go_ret
   exact ⟨D3,yW HB⟩

def laws_heldStripe.f (k:Nat) (l0_0:List ByteArray) (l0_1:List ByteArray) (a1:Int):Option (Int):=(laws_heldStringS.f k l0_0 a1).bind fun t382=>(if t382 < 0 then (some (-1)) else ((laws_heldStringS.f k l0_1 t382).bind fun t383=>(if t383 < 0 then (some (-1)) else (some t383))))
theorem laws_heldStripe.mono:∀ a0 a1 a2 k,LeO (laws_heldStripe.f k a0 a1 a2) (laws_heldStripe.f (k+1) a0 a1 a2):=by
 intro a0 a1 a2 k
 unfold laws_heldStripe.f
 exact mm
theorem laws_heldStripe.calls (k:Nat) (A0_0:Option Addr) (c0_0:Nat) (l0_0:List ByteArray) (A0_1:Option Addr) (c0_1:Nat) (l0_1:List ByteArray) (a1:Int) (r:Int) (w:World) (hr0_0:Kd.C Kd.string w A0_0 l0_0.length l0_0) (hc0_0:l0_0.length≤c0_0) (hr0_1:Kd.C Kd.string w A0_1 l0_1.length l0_1) (hc0_1:l0_1.length≤c0_1) (h:laws_heldStripe.f k l0_0 l0_1 a1=some r) :
  Calls Try.prog 24 #[.agg #[.slice A0_0 l0_0.length c0_0, .slice A0_1 l0_1.length c0_1], .int .i64 a1] w fun e w'=>e = .returned (.int .i64 r)∧Below w.heap.size w w':=by
 have hu27:=Try.underlying27
 have HR0_0:=am hr0_0
 have HC0_0:=am hc0_0
 clear hr0_0 hc0_0
 have HR0_1:=am hr0_1
 have HC0_1:=am hc0_1
 clear hr0_1 hc0_1
 have HB:=am (Below.refl w.heap.size w)
 have H:=h
 unfold laws_heldStripe.f at H
 clear h
 obtain ⟨t382,A3,H⟩:=yo H
 by_cases c4:t382 < 0
 ·rw [if_pos c4] at H
  have c4b0:=decide_eq_true c4
  clear c4
  obtain rfl:=Option.some.inj H
  go_enter Try.func24,Try.ntmps24
  go_wp2_with (first|(refine gD 2 ?_;refine gB (cs:=#[.slice A0_0 l0_0.length c0_0, .slice A0_1 l0_1.length c0_1]) 27 ?_;intro gb381 hg w5 hbox hb;have BK381:=am (hbox);have GW381:=ye HB hg;replace HB:=yH HB hb;have GE381:=GW381;clear hb hbox hg;obtain ⟨hcz6_0,hcz6_1,hfz6_0,hfz6_1⟩:=yk2 BK381)|(refine gC 66 ?_;refine gM (some 8) Try.func66 (args:=#[.slice A0_0 l0_0.length c0_0, .int .i64 a1]) (laws_heldStringS.calls k _ _ l0_0 a1 t382 _ (yc (Kd.C_below HR0_0.out HB.out)) HC0_0.out A3.out) ?_;rintro e w7 ⟨rfl,hb⟩;refine ⟨_,rfl,?_⟩;replace BK381:=yb BK381 hb;replace HB:=yH HB hb;clear hb))
  go_ret
  exact ⟨D3,yW HB⟩
 rw [if_neg c4] at H
 have c4b0:=decide_eq_false c4
 clear c4
 obtain ⟨t383,A8,H⟩:=yo H
 by_cases c9:t383 < 0
 ·rw [if_pos c9] at H
  have c9b0:=decide_eq_true c9
  clear c9
  obtain rfl:=Option.some.inj H
  go_enter Try.func24,Try.ntmps24
  go_wp2_with (first|(refine gD 2 ?_;refine gB (cs:=#[.slice A0_0 l0_0.length c0_0, .slice A0_1 l0_1.length c0_1]) 27 ?_;intro gb381 hg w10 hbox hb;have BK381:=am (hbox);have GW381:=ye HB hg;replace HB:=yH HB hb;have GE381:=GW381;clear hb hbox hg;obtain ⟨hcz11_0,hcz11_1,hfz11_0,hfz11_1⟩:=yk2 BK381)|(refine gC 66 ?_;refine gM (some 8) Try.func66 (args:=#[.slice A0_0 l0_0.length c0_0, .int .i64 a1]) (laws_heldStringS.calls k _ _ l0_0 a1 t382 _ (yc (Kd.C_below HR0_0.out HB.out)) HC0_0.out A3.out) ?_;rintro e w12 ⟨rfl,hb⟩;refine ⟨_,rfl,?_⟩;replace BK381:=yb BK381 hb;replace HB:=yH HB hb;clear hb;obtain ⟨hcz13_0,hcz13_1,hfz13_0,hfz13_1⟩:=yk2 BK381)|(refine gC 66 ?_;refine gM (some 14) Try.func66 (args:=#[.slice A0_1 l0_1.length c0_1, .int .i64 t382]) (laws_heldStringS.calls k _ _ l0_1 t382 t383 _ (yc (Kd.C_below HR0_1.out HB.out)) HC0_1.out A8.out) ?_;rintro e w14 ⟨rfl,hb⟩;refine ⟨_,rfl,?_⟩;replace BK381:=yb BK381 hb;replace HB:=yH HB hb;clear hb))
  go_ret
  exact ⟨D3,yW HB⟩
 rw [if_neg c9] at H
 have c9b0:=decide_eq_false c9
 clear c9
 obtain rfl:=Option.some.inj H
 go_enter Try.func24,Try.ntmps24
 go_wp2_with (first|(refine gD 2 ?_;refine gB (cs:=#[.slice A0_0 l0_0.length c0_0, .slice A0_1 l0_1.length c0_1]) 27 ?_;intro gb381 hg w15 hbox hb;have BK381:=am (hbox);have GW381:=ye HB hg;replace HB:=yH HB hb;have GE381:=GW381;clear hb hbox hg;obtain ⟨hcz16_0,hcz16_1,hfz16_0,hfz16_1⟩:=yk2 BK381)|(refine gC 66 ?_;refine gM (some 8) Try.func66 (args:=#[.slice A0_0 l0_0.length c0_0, .int .i64 a1]) (laws_heldStringS.calls k _ _ l0_0 a1 t382 _ (yc (Kd.C_below HR0_0.out HB.out)) HC0_0.out A3.out) ?_;rintro e w17 ⟨rfl,hb⟩;refine ⟨_,rfl,?_⟩;replace BK381:=yb BK381 hb;replace HB:=yH HB hb;clear hb;obtain ⟨hcz18_0,hcz18_1,hfz18_0,hfz18_1⟩:=yk2 BK381)|(refine gC 66 ?_;refine gM (some 14) Try.func66 (args:=#[.slice A0_1 l0_1.length c0_1, .int .i64 t382]) (laws_heldStringS.calls k _ _ l0_1 t382 t383 _ (yc (Kd.C_below HR0_1.out HB.out)) HC0_1.out A8.out) ?_;rintro e w19 ⟨rfl,hb⟩;refine ⟨_,rfl,?_⟩;replace BK381:=yb BK381 hb;replace HB:=yH HB hb;clear hb))
 go_ret
 exact ⟨D3,yW HB⟩

end Go.Proofs.Ytajikfnpcobnpaa.PFnExactMendStripe
-- SHRUNK
-- HALVED
-- SQUEEZED
-- SQUEEZED2
-- SQUEEZED3
-- SQUEEZED4
-- SQUEEZED5
-- SQUEEZED6
