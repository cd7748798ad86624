import Derived.Test.YtajikfnpcobnpaaVFnMatricesB
import Derived.Test.YtajikfnpcobnpaaPFnMatricesx0
import Derived.Test.YtajikfnpcobnpaaPFnMatricesx1
namespace Go.Proofs.Ytajikfnpcobnpaa.PFnMatrices
open Go.RowKit Go.Proofs.YtajikfnpcobnpaaW.PrintWords Go.Proofs.YtajikfnpcobnpaaW.PrintLast Go.Proofs.YtajikfnpcobnpaaW.PrintMore Go.Proofs.Ytajikfnpcobnpaa.KitS
attribute [local go_sem] max2_int min2_int max_two min_two max_three min_three max_four min_four
set_option linter.unusedVariables false
set_option maxHeartbeats 8000000
set_option maxRecDepth 100000
set_option linter.unusedSimpArgs false
section
theorem cl_info:(Try.prog.info? 57).map (fun i=>(i.zero,i.size,i.bytes))=some (some (.slice none 0 0),1,24):=by kernel_rfl
theorem rows_Clone (A0:Option Addr) (c0:Nat) (l0:List (List Int)) (w:World) (hr0:Kd.C (Kd.slice 5 (Kd.int .u8)) w A0 l0.length l0) (hc0:l0.length≤c0) (hne:0 < l0.length) (hl:l0.length < 5864062014805) :
  Calls Try.prog 158 #[.slice A0 l0.length c0] w fun e w'=>∃ v0_:Value,e = .returned (v0_)∧Kd.N (Kd.slice 5 (Kd.int .u8)) 57 w' w.heap.size (fun _=>True) v0_ l0∧Below w.heap.size w w':=by
 have HF:=am (Kd.C_F (Kd.heap_slice 5 (Kd.heap_int .u8)) hr0)
 have HB:=am (Below.refl w.heap.size w)
 have keq:=fun (W:World) (a:Option Addr) (n c:Nat)=>Lib.run_eql_slice_nil (P:=Try.prog) W 37 57 a n c 0 0 Try.underlying37
 obtain ⟨ad0,rfl,_⟩:=hr0.2.2 hne
 clear hr0
 go_enter Try.func158,Try.ntmps158
 go_wp2_with (first|((with_reducible refine gD 5 ?_);refine Kd.N_lit (Kd.slice 5 (Kd.int .u8)) _ 57 D35 (N':=5) D35 (xs:=([]:List (List Int))) (inner:=[]) (ok:=fun _=>True) (okp:=fun _=>True) D45 D72 (fun _ hk=>hk) trivial (Below.refl _ _) (Nat.le_refl _) D52 ?_;intro v182 w3 ho4 hb hg_ hnew_;clear hg_ hnew_;have HO:=am ho4;have HF3:=am (Kd.F_below HF.out hb);clear HB;have HB:=am hb;clear hb ho4)|((with_reducible refine gate_builtin (b:=.append) (xs:=#[.tmp 5, .tmp 6]) rfl ?_);at_builtin;refine Kd.N_append_rows (Kd.slice 5 (Kd.int .u8)) (w0:=w) w.heap.size rfl (.tmp 5) (.tmp 6) 37 57 (.slice none 0 0) 24 rfl Try.underlying37 cl_info rfl D24 D23 v182 ([]:List (List Int)) l0 _ _ _ (fun _=>True) (fun k=>k < w.heap.size) rfl rfl HO.out HF3.out (fun k hk=>⟨trivial,fun e=>by have:=Kd.N_base HO.out k e.symm;omega⟩) (fun _ _=>trivial) HB.out HB.out.size (by simp;omega) ?_;intro v185 w5 ho hb hg hat;rw [List.nil_append] at ho;clear HB HO;have HB:=am hb;have HO:=am ho;clear ho hb hg hat))
 go_ret
 exact ⟨_,rfl,HO.out,HB.out⟩
section
open Go.Proofs.Ytajikfnpcobnpaa.Gf Go.Proofs.Ytajikfnpcobnpaa.Kit Go.Proofs.Ytajikfnpcobnpaa.KitW Go.Proofs.Ytajikfnpcobnpaa.KitN
def impl_rankOf.f (l0:List (List Int)):Option Int:=if l0.length=0 then some 0 else if sqM l0=true then some ((rowI.red l0 (l0.getD 0 []).length).2:Nat) else none
theorem impl_rankOf.calls (A0:Option Addr) (c0:Nat) (l0:List (List Int)) (r:Int) (w:World) (hr0:Kd.C (Kd.slice 5 (Kd.int .u8)) w A0 l0.length l0) (hc0:l0.length≤c0) (h:impl_rankOf.f l0=some r) :
  Calls Try.prog 106 #[.slice A0 l0.length c0] w fun e w'=>e = .returned (.int .i64 r)∧Below w.heap.size w w':=by
 unfold impl_rankOf.f at h
 by_cases h0:l0.length=0
 case pos =>
  rw [if_pos h0] at h
  obtain rfl:=Option.some.inj h
  rw [h0]
  clear hr0 h h0
  go_enter Try.func106,Try.ntmps106
  go_wp2
  go_ret
  exact ⟨rfl,Below.refl _ _⟩
 rw [if_neg h0] at h
 by_cases hs:sqM l0=true
 case neg=>rw [if_neg hs] at h;cases h
 rw [if_pos hs] at h
 obtain rfl:=Option.some.inj h
 clear h
 obtain ⟨hs1,hs2,hs3⟩:=sqM_iff.1 hs
 clear hs
 obtain ⟨ad,A1,c1,rfl,hcell,_,_⟩:=C_row hr0 0 D23
 rw [Addr.add_zero'] at hcell
 obtain ⟨m,hm⟩:∃ m,m=(l0.getD 0 []).length:=⟨_,rfl⟩
 rw [← hm] at hcell hs2 hs3 ⊢
 obtain ⟨n,hn⟩:∃ n,n=l0.length:=⟨_,rfl⟩
 have hcl:=rows_Clone (some ad) c0 l0 w.drew (Kd.C_drew hr0) hc0 D23 D23
 rw [← hn] at hcl h0 hs1 hc0 ⊢
 have HC:=am hcl
 have HS:=am hs3
 have HN:=am hn
 clear hcl hs3 hn hm hr0
 have h0z:((n:Int) == 0)=false:=by simpa using (show ¬ (n:Int)=0 by omega)
 have h0p:(0:Nat) < n:=by omega
 go_enter Try.func106,Try.ntmps106
 go_wp2_with fail
 refine rS0 (n:=8) (S:=fun w'=>w'.cell? ad=some (.slice A1 m c1)) (ds:=[]) [(0,6),(2,8),(3,9),(4,10),(5,11),(1,0),(6,0),(7,2)] D3 rfl hcell (fun hHeld HT_ HW_=>?_)
 refine rR ?_
 refine rO (N:=some 7) HT_ rfl rfl D3 D24 (fun K hK=>?_)
 refine goes_ Try.func158 D3 rfl #[Value.slice (some ad) n c0] D35 rfl rfl D36 ?_
 refine HC.out.mono ?_
 rintro e w1 ⟨v1,rfl,ho,hb⟩
 refine ⟨_,rfl,?_⟩
 have HO:=am ho
 have HB:=am (pu (pd (Below.refl w.heap.size w)) hb)
 have hB1:=hb
 replace hHeld:=pw_cell_below hb hHeld
 clear hb ho
 obtain ⟨g,cap,eg,_⟩:=Kd.N_form HO.out D141
 rw [← HN.out] at eg
 subst eg
 refine hK.out _ _ hHeld (fun hHeld=>?_)
 clear hK K
 refine rN (nA 7) ?_
 refine rO (N:=some 12) HT_ rfl rfl D3 D24 (fun K hK=>?_)
 refine goes_ Try.func184 D3 rfl #[Value.slice (some ⟨g,0,none⟩) n cap,Value.int .i64 m] D35 rfl rfl D36 ?_
 refine (impl_eliminate.calls l0 m m HS.out (Nat.le_refl _) D23 D141 g cap n HN.out.symm w.drew w1 hB1 HO.out).mono ?_
 rintro e w2 ⟨rfl,_,hb⟩
 refine ⟨_,rfl,?_⟩
 clear HB
 have HB:=am (below_then (pd (Below.refl w.heap.size w)) (Nat.le_refl _) hb)
 clear hb
 refine hK.out _ _ (pw_cell_below HB.out hcell) (fun hHeld=>?_)
 clear hK K
 refine rN (nA 12) ?_
 refine rR ?_
 refine rD HT_ D3 ?_
 go_wp2_with fail
 go_ret
 exact ⟨rfl,HB.out⟩
end

def impl_RankOf.f (l0_0:List (List Int)):Option (Int × Bool):=(impl_GoodMatrix.f l0_0).bind fun t166=>(if t166=true then ((impl_rankOf.f l0_0).bind fun t167=>(some (t167,true))) else (some (0,false)))
theorem impl_RankOf.calls (A0_0:Option Addr) (c0_0:Nat) (l0_0:List (List Int)) (r1:Int) (r2:Bool) (w:World) (hr0_0:Kd.C (Kd.slice 5 (Kd.int .u8)) w A0_0 l0_0.length l0_0) (hc0_0:l0_0.length≤c0_0) (h:impl_RankOf.f l0_0=some (r1,r2)) :
  Calls Try.prog 28 #[.agg #[.slice A0_0 l0_0.length c0_0]] w fun e w'=>e = .returned (.tuple #[.int .i64 r1, .bool r2])∧Below w.heap.size w w':=by
 have hu43:=Try.underlying43
 have HR0_0:=am hr0_0
 have HC0_0:=am hc0_0
 clear hr0_0 hc0_0
 have HB:=am (Below.refl w.heap.size w)
 have H:=h
 unfold impl_RankOf.f at H
 clear h
 obtain ⟨t166,A2,H⟩:=yo H
 by_cases c3:t166=true
 ·subst c3
  replace H:=yt H
  obtain ⟨t167,A4,H⟩:=yo H
  simp only [Option.some.injEq,Prod.mk.injEq] at H
  obtain ⟨rfl,rfl⟩:=H
  go_enter Try.func28,Try.ntmps28
  go_wp2_with (first|((with_reducible refine gD 1 ?_);refine gB (cs:=#[.slice A0_0 l0_0.length c0_0]) 43 ?_;intro gb165 hg w5 hbox hb;have BK165:=am (hbox);have GW165:=ye HB hg;replace HB:=yH HB hb;have GE165:=GW165;clear hb hbox hg;obtain ⟨hcz6_0,hfz6_0⟩:=yk1 BK165)|((with_reducible refine gC 77 ?_);refine gM (some 5) Try.func77 (args:=#[.agg #[.slice A0_0 l0_0.length c0_0]]) (impl_GoodMatrix.calls _ _ l0_0 true _ (yc (Kd.C_below HR0_0.out HB.out)) HC0_0.out A2.out) ?_;rintro e w7 ⟨rfl,hb⟩;refine ⟨_,rfl,?_⟩;replace BK165:=yb BK165 hb;replace HB:=yH HB hb;clear hb;obtain ⟨hcz8_0,hfz8_0⟩:=yk1 BK165)|((with_reducible refine gC 106 ?_);refine gM (some 9) Try.func106 (args:=#[.slice A0_0 l0_0.length c0_0]) (impl_rankOf.calls _ _ l0_0 t167 _ (yc (Kd.C_below HR0_0.out HB.out)) HC0_0.out A4.out) ?_;rintro e w9 ⟨rfl,hb⟩;refine ⟨_,rfl,?_⟩;replace BK165:=yb BK165 hb;replace HB:=yH HB hb;clear hb))
  go_ret2
  exact ⟨D0,yW HB⟩
 replace c3:=Bool.eq_false_iff.mpr c3
 subst c3
 replace H:=yn H
 simp only [Option.some.injEq,Prod.mk.injEq] at H
 obtain ⟨rfl,rfl⟩:=H
 go_enter Try.func28,Try.ntmps28
 go_wp2_with (first|((with_reducible refine gD 1 ?_);refine gB (cs:=#[.slice A0_0 l0_0.length c0_0]) 43 ?_;intro gb165 hg w10 hbox hb;have BK165:=am (hbox);have GW165:=ye HB hg;replace HB:=yH HB hb;have GE165:=GW165;clear hb hbox hg;obtain ⟨hcz11_0,hfz11_0⟩:=yk1 BK165)|((with_reducible refine gC 77 ?_);refine gM (some 5) Try.func77 (args:=#[.agg #[.slice A0_0 l0_0.length c0_0]]) (impl_GoodMatrix.calls _ _ l0_0 false _ (yc (Kd.C_below HR0_0.out HB.out)) HC0_0.out A2.out) ?_;rintro e w12 ⟨rfl,hb⟩;refine ⟨_,rfl,?_⟩;replace BK165:=yb BK165 hb;replace HB:=yH HB hb;clear hb))
 go_ret2
 exact ⟨D0,yW HB⟩

def spec_l2Blank.l0:Nat→Int→Int→Int→List (List Int)→Option ((List (List Int)))
 | 0,_,_,_,_=>none
 | k+1,x0,x1,x6,x170000=>if x6 < x0 then (if 0≤x1 then (if (x1:Int).toNat≤281474976710656 then (if x170000.length < 5864062014805 then (spec_l2Blank.l0 k x0 x1 (wrap64 (x6+1)) (x170000 ++ [(List.replicate (x1:Int).toNat 0)])) else (none)) else (none)) else (none)) else (some x170000)
def spec_l2Blank.f (k:Nat) (a0:Int) (a1:Int):Option ((List (List Int))):=spec_l2Blank.l0 k a0 a1 0 ([]:List (List Int))
theorem spec_l2Blank.mono_l:∀ k,(∀ y0 y1 y2 y3,LeO (spec_l2Blank.l0 k y0 y1 y2 y3) (spec_l2Blank.l0 (k+1) y0 y1 y2 y3))
 | 0=>fun _ _ _ _ r h=>by simp [spec_l2Blank.l0] at h
 | k+1=>by
  have ih0:=spec_l2Blank.mono_l k
  intro y0 y1 y2 y3
  unfold spec_l2Blank.l0
  exact mm
theorem spec_l2Blank.mono:∀ a0 a1 k,LeO (spec_l2Blank.f k a0 a1) (spec_l2Blank.f (k+1) a0 a1):=by
 intro a0 a1 k
 have ih0:=spec_l2Blank.mono_l k
 unfold spec_l2Blank.f
 exact mm
def spec_l2Blank.T5:Bool × List (List Nat × List Nat):=(true,[([],[]),([0],[0]),([],[]),([2,2],[2]),([3],[3]),([1,4],[1,4]),([0,1,2,3,4,5],[]),([6,5,5,0,1,2,3,4,5],[5,6])])
def spec_l2Blank.B5:List Nat:=[0,1,0,4,12,31,63,127]
theorem spec_l2Blank.tab5:rtab .any (opsOf Try.f172 5)=spec_l2Blank.T5:=by kernel_rfl
theorem spec_l2Blank.bits5:waitsOk spec_l2Blank.T5.2 spec_l2Blank.B5=true:=by kernel_rfl
theorem spec_l2Blank.calls (k:Nat) (a0:Int) (a1:Int) (r:List (List Int)) (w:World) (h:spec_l2Blank.f k a0 a1=some r) :
  Calls Try.prog 172 #[.int .i64 a0, .int .i64 a1] w fun e w'=>∃ v0_:Value,e = .returned (.agg #[v0_])∧Kd.S (Kd.slice 5 (Kd.int .u8)) 57 w' w.heap.size (fun _=>True) v0_ r∧Below w.heap.size w w':=by
 have hu43:=Try.underlying43
 have HB:=am (Below.refl w.heap.size w)
 have H:=h
 unfold spec_l2Blank.f at H
 clear h
 have H':=am H
 clear H
 go_enter Try.func172,Try.ntmps172
 go_wp2_with (first|((with_reducible refine gD 4 ?_);refine gB (cs:=#[.slice none 0 0]) 43 ?_;intro gb168 hg w3 hbox hb;have BK168:=am (hbox);have GW168:=ye HB hg;replace HB:=yH HB hb;have GE168:=GW168;clear hb hbox hg)|((with_reducible refine gD 5 ?_);refine gB (cs:=#[.slice none 0 0]) 43 ?_;intro gb169 hg w4 hbox hb;have BK169:=am (hbox);have GW169:=ye HB hg;replace HB:=yH HB hb;have NB168_169:=yl BK168 hg;have NB169_168:=yg BK168 hg;replace BK168:=yb BK168 hb;have GE169:=GW169;clear hb hbox hg;have hnb5:=NB169_168.out;have hnc5:=NB168_169.out;obtain ⟨hcz6_0,hfz6_0⟩:=yk1 BK169))
 go_loopg [6] k (fun kq v6 w'=>∃ (x6_1:Int) (x170000_1:List (List Int)) (u170000:Value),v6 = .int .i64 x6_1∧Aside0 (spec_l2Blank.l0 kq a0 a1 x6_1 x170000_1=some r)∧Aside0 (kq≤k)∧Aside0 (Kd.S (Kd.slice 5 (Kd.int .u8)) 57 w' w.heap.size (fun _=>True) u170000 x170000_1)∧Aside0 (w'.heap[gb168]? = some (.cells #[(.slice none 0 0)] 43 (0,0)))∧Aside0 (w'.heap[gb169]? = some (.cells #[u170000] 43 (0,0)))∧Aside0 (Below w.heap.size w w'))
 case atStart=>exact ⟨(0),(([]:List (List Int))),(.slice none 0 0),D2,H',⟨Nat.le_refl _⟩,⟨D25⟩,⟨yF BK168⟩,⟨by refine sB ?_;refine blk_put (cs:=#[.slice none 0 0]) ?_ 0 _ rfl;exact yB BK169⟩,⟨yW HB⟩⟩
 case round =>
  clear H'
  try clear c1
  try clear p2
  try clear c5
  try clear hcz6_0
  try clear hfz6_0
  obtain ⟨x6_1,x170000_1,u170000,rfl,HA,HK1,HO_170000,BK168,BK169,HB⟩:=hrel
  cases gk with
  | zero=>exact absurd HA.out (by simp [spec_l2Blank.l0])
  | succ k1 =>
   have H:=HA.out
   clear HA
   simp only [spec_l2Blank.l0] at H
   by_cases c7:x6_1 < a0
   ·rw [if_pos c7] at H
    have c7b0:=decide_eq_true c7
    clear c7
    obtain ⟨c8,H⟩:=yi H
    have c8b0:=eq_true c8
    have c8b1:decide (0≤a1)=true:=decide_eq_true c8
    clear c8
    obtain ⟨c9,H⟩:=yi H
    have c9b0:=eq_true c9
    have c9b1:decide ((a1:Int).toNat≤281474976710656)=true:=decide_eq_true c9
    clear c9
    generalize hy170:(List.replicate (a1:Int).toNat 0:List Int)=y170 at H
    have Ny170:=am hy170.symm
    clear hy170
    obtain ⟨c10,H⟩:=yi H
    have LMc10:=am c10
    clear c10
    generalize hy173:(x170000_1 ++ [y170]:List (List Int))=y173 at H
    have Ny173:=am hy173.symm
    clear hy173
    have H':=am H
    clear H
    try go_wp2
    replace HO_170000:=am (Kd.S_drew HO_170000.out)
    replace BK168:=am (qd BK168.out)
    replace BK169:=am (qd BK169.out)
    replace HB:=am (pd HB.out)
    refine rS (n:=8) (S:=fun w'=>w'.cell? ⟨gb169,0,none⟩=some (u170000)) (ds:=[7]) [(0,13),(2,15),(1,14),(3,0),(4,0),(5,0),(6,19),(7,0)] D3 rfl spec_l2Blank.tab5 spec_l2Blank.bits5 (yk BK169 0) (fun hHeld HT_ HW_=>?_)
    generalize wr.drew=w11 at HO_170000 BK168 BK169 HB hHeld ⊢
    refine rR ?_
    refine rO (N:=some 16) HT_ rfl rfl D3 D24 (fun K hK=>?_)
    refine Kd.R_make_step (Kd.int .u8) _ 5 D35 (N:=16) rfl 57 _ _ rfl a1 rfl rfl Try.underlying57 (.int .u8 0) 1 info5 rfl D24 D23 0 (ok:=fun _=>True) (okp:=fun _=>True) rfl (fun _ hk=>hk) trivial (od D1) (Nat.le_trans (Nat.mul_le_mul_right _ (od D1:a1.toNat≤281474976710656)) D23) (Below.refl _ _) (Nat.le_refl _) ?_
    intro v171 w12 ho13 hb hg_ hnew_
    clear hg_ hnew_
    (first|rw [← Ny170.out] at ho13|(simp only [Int.reduceToNat] at ho13;rw [← Ny170.out] at ho13))
    replace HO_170000:=eS HO_170000 (Kd.R_base ho13) hb
    have HO172:=am (Kd.R_lower ho13 (pz (yW HB)))
    replace BK168:=yb BK168 hb
    replace BK169:=yb BK169 hb
    replace HB:=yH HB hb
    clear hb ho13
    obtain ⟨Ao15,co15,eo15⟩:=Kd.R_slice HO172.out
    (first|subst eo15|(injection eo15 with f1_ f2_ f3_;have f4_:=f1_.symm;have f5_:=f3_.symm;clear f1_ f2_ f3_;subst f4_;subst f5_))
    refine hK.out _ _ (yk BK169 0) (fun hHeld=>?_)
    clear hK K
    refine rN (nA 16) ?_
    refine rO (N:=some 17) HT_ rfl rfl D3 D24 (fun K hK=>?_)
    refine value_ (w1:=?_) (v:=?_) D35 rfl ?_ ?_
    rotate_left 2
    ·go_simp
     constructor
     ·rfl
     rfl
    refine hK.out _ _ ((blk_cell (qa BK169.out _) 0).trans rfl) (fun hHeld=>?_)
    clear hK K
    refine rN (nA 17) ?_
    refine rO (N:=some 18) HT_ rfl rfl D3 D24 (fun K hK=>?_)
    refine Kd.S_append_step (Kd.slice 5 (Kd.int .u8)) (w0:=w) w.heap.size D35 (.tmp 14) (.tmp 17) 37 57 (.slice none 0 0) 24 rfl Try.underlying37 info57 rfl D24 D23 u170000 x170000_1 y170 [.slice Ao15 y170.length co15] (fun _=>True) (fun k_=>some k_=(.slice Ao15 y170.length co15:Value).ownBlock) rfl rfl ?aP (fun k_ hk_=>((Kd.R_mono (ok':=fun k_=>((fun _=>True)) k_∧some k_ ≠ (u170000:Value).ownBlock) (Kd.R_apart' (HO172.out) (Kd.S_typed HO_170000.out) D24) (fun k_ hk=>⟨trivial,hk.2⟩))).1 k_ hk_.symm) ?aF ?aO ?aB ?aS ?aL ?_
    (case aP=>exact Kd.M_row (Kd.R_mono (Kd.R_tight rfl (Kd.R_mono (ok':=fun k_=>((fun _=>True)) k_∧some k_ ≠ (u170000:Value).ownBlock) (Kd.R_apart' (HO172.out) (Kd.S_typed HO_170000.out) D24) (fun k_ hk=>⟨trivial,hk.2⟩))) (fun _ h_=>h_)))
    (case aB=>exact (yW HB))
    (case aF=>exact (fun _ _=>trivial))
    (case aO=>exact (by refine sS ?_;exact Kd.S_mono HO_170000.out (fun k_ hk=>⟨trivial,fun e_=>hk.2 e_⟩)))
    (case aS=>exact (pz (yW HB)))
    (case aL=>have:=LMc10.out;omega)
    intro v174 w14 ho hb hg hat
    rw [← Ny173.out] at ho
    have n0_:=am (blk_grown (g:=gb168) (o:=.cells #[.slice none 0 0] 43 (0,0)) (yB BK168) hg (Kd.S_ne HO_170000.out BK168.out D24))
    have n1_:=am (blk_grown (g:=gb169) (o:=.cells #[u170000] 43 (0,0)) (yB BK169) hg (Kd.S_ne HO_170000.out BK169.out D24))
    have n2_:=am (hb)
    have n3_:=am (ho)
    clear BK168
    clear BK169
    clear HB
    clear HO_170000
    clear HO172
    have BK168:=n0_
    have BK169:=n1_
    have HB:=n2_
    have HO175:=n3_
    clear n0_ n1_ n2_ n3_
    clear ho hb hg hat
    obtain ⟨Ao16,co16,eo16⟩:=Kd.S_slice HO175.out
    (first|subst eo16|(injection eo16 with f1_ f2_ f3_;have f4_:=f1_.symm;have f5_:=f3_.symm;clear f1_ f2_ f3_;subst f4_;subst f5_))
    refine hK.out _ _ (yk BK169 0) (fun hHeld=>?_)
    clear hK K
    refine rN (nA 18) ?_
    refine rR ?_
    refine rL (N:=none) HT_ rfl rfl D3 D24 (fun K hK=>?_)
    have hs17:w14.cell? ⟨gb169,0,none⟩=some (u170000):=(blk_cell BK169.out 0).trans rfl
    have hfs17:=blk_frozen BK169.out 0
    have hns17_0:=NB168_169.out
    have hms17_0:=NB169_168.out
    refine skip_ (w1:=?_) D35 rfl ?_ ?_
    rotate_left
    ·go_simp
     rfl
    refine hK.out _ _ ?_
    clear hK K
    refine rD HT_ D3 ?_
    try go_wp2
    go_roundg k1
    case measure=>have:=HK1.out;omega
    case rel=>exact ⟨(wrap64 (x6_1+1)),(y173),(.slice Ao16 y173.length co16),D2,H',⟨D50⟩,⟨by refine sS ?_;exact Kd.S_mono (Kd.S_far (p:=⟨gb169,0,none⟩) (Kd.S_types HO175.out BK169.out D24) (fun _ hk=>hk.2) (.slice Ao16 y173.length co16)) (fun _ hk=>trivial)⟩,⟨yF BK168⟩,⟨by refine sB ?_;refine blk_put (cs:=#[u170000]) ?_ 0 _ rfl;exact yB BK169⟩,⟨yW HB⟩⟩
   rw [if_neg c7] at H
   have c7b0:=decide_eq_false c7
   clear c7
   obtain rfl:=Option.some.inj H
   have hnb18:=NB169_168.out
   have hnc18:=NB168_169.out
   obtain ⟨hcz19_0,hfz19_0⟩:=yk1 BK169
   obtain ⟨Ao20,co20,eo20⟩:=Kd.S_slice HO_170000.out
   subst eo20
   obtain ⟨hcz21_0,hfz21_0⟩:=yk1 BK168
   go_wp2
   refine bodyPost_ret (results_cell_row rfl _ _ gb168 43 #[.slice Ao20 x170000_1.length co20] (0,0) _ rfl (by refine sB ?_;refine blk_put (cs:=#[.slice none 0 0]) ?_ 0 _ rfl;exact yB BK168) Try.underlying43 rfl D3) rfl ?_
   exact ⟨_,D0,by refine sS ?_;exact Kd.S_mono (Kd.S_far (p:=⟨gb168,0,none⟩) (Kd.S_types HO_170000.out BK168.out D24) (fun _ hk=>hk.2) (.slice Ao20 x170000_1.length co20)) (fun _ hk=>trivial),yW HB⟩

def spec_l2Identity.l0:Nat→Int→Int→List (List Int)→Option ((List (List Int)))
 | 0,_,_,_=>none
 | k+1,x10,x11,x181000=>if x11 < x10 then (if 0≤x11 then (if x11 < (x181000.length:Int) then (if x11 < ((rd_L1 x181000 x11).length:Int) then (spec_l2Identity.l0 k x10 (wrap64 (x11+1)) (x181000.set (x11:Int).toNat ((rd_L1 x181000 x11).set (x11:Int).toNat 1))) else (none)) else (none)) else (none)) else (some x181000)
def spec_l2Identity.f (k:Nat) (a0:Int):Option ((List (List Int))):=(spec_l2Blank.f k a0 a0).bind fun t177=>(spec_l2Identity.l0 k (t177.length:Int) 0 t177)
theorem spec_l2Identity.mono_l:∀ k,(∀ y0 y1 y2,LeO (spec_l2Identity.l0 k y0 y1 y2) (spec_l2Identity.l0 (k+1) y0 y1 y2))
 | 0=>fun _ _ _ r h=>by simp [spec_l2Identity.l0] at h
 | k+1=>by
  have ih0:=spec_l2Identity.mono_l k
  intro y0 y1 y2
  unfold spec_l2Identity.l0
  exact mm
theorem spec_l2Identity.mono:∀ a0 k,LeO (spec_l2Identity.f k a0) (spec_l2Identity.f (k+1) a0):=by
 intro a0 k
 have ih0:=spec_l2Identity.mono_l k
 unfold spec_l2Identity.f
 exact mm
theorem spec_l2Identity.calls (k:Nat) (a0:Int) (r:List (List Int)) (w:World) (h:spec_l2Identity.f k a0=some r) :
  Calls Try.prog 176 #[.int .i64 a0] w fun e w'=>∃ v0_:Value,e = .returned (.agg #[v0_])∧Kd.S (Kd.slice 5 (Kd.int .u8)) 57 w' w.heap.size (fun _=>True) v0_ r∧Below w.heap.size w w':=by
 have hu43:=Try.underlying43
 have HB:=am (Below.refl w.heap.size w)
 have H:=h
 unfold spec_l2Identity.f at H
 clear h
 obtain ⟨t177,A2,H⟩:=yo H
 have H':=am H
 clear H
 go_enter Try.func176,Try.ntmps176
 go_wp2_with (first|((with_reducible refine gD 2 ?_);refine gB (cs:=#[.slice none 0 0]) 43 ?_;intro gb176 hg w3 hbox hb;have BK176:=am (hbox);have GW176:=ye HB hg;replace HB:=yH HB hb;have GE176:=GW176;clear hb hbox hg)|((with_reducible refine gC 172 ?_);refine gM (some 7) Try.func172 (args:=#[.int .i64 a0, .int .i64 a0]) (spec_l2Blank.calls k a0 a0 t177 _ A2.out) ?_;rintro e w4 ⟨v178,rfl,ho0,hb⟩;refine ⟨_,rfl,?_⟩;have HO179:=am (Kd.S_lower ho0 (pz (yW HB)));replace BK176:=yb BK176 hb;replace HB:=yH HB hb;clear hb ho0)|((with_reducible refine gD 3 ?_);refine gB (cs:=#[.slice none 0 0]) 43 ?_;intro gb180 hg w5 hbox hb;replace HO179:=bS HO179 hb;have BK180:=am (hbox);have GW180:=ye HB hg;replace HB:=yH HB hb;have NB176_180:=yl BK176 hg;have NB180_176:=yg BK176 hg;replace BK176:=yb BK176 hb;have GE180:=GW180;clear hb hbox hg;obtain ⟨Ao6,co6,eo6⟩:=Kd.S_slice HO179.out;subst eo6;have hnb7:=NB180_176.out;have hnc7:=NB176_180.out;obtain ⟨hcz8_0,hfz8_0⟩:=yk1 BK180))
 go_loopg [11] k (fun kq v11 w'=>∃ (x11_1:Int) (x181000_1:List (List Int)) (u181000:Value),v11 = .int .i64 x11_1∧Aside0 (spec_l2Identity.l0 kq (t177.length:Int) x11_1 x181000_1=some r)∧Aside0 (kq≤k)∧Aside0 (Kd.S (Kd.slice 5 (Kd.int .u8)) 57 w' w.heap.size (fun _=>True) u181000 x181000_1)∧Aside0 (w'.heap[gb176]? = some (.cells #[(.slice none 0 0)] 43 (0,0)))∧Aside0 (w'.heap[gb180]? = some (.cells #[u181000] 43 (0,0)))∧Aside0 (Below w.heap.size w w'))
 case atStart=>exact ⟨(0),(t177),(.slice Ao6 t177.length co6),D2,H',⟨Nat.le_refl _⟩,⟨by refine sS ?_;exact Kd.S_mono (Kd.S_far (p:=⟨gb180,0,none⟩) (Kd.S_types HO179.out BK180.out D24) (fun _ hk=>hk.2) (.slice Ao6 t177.length co6)) (fun _ hk=>trivial)⟩,⟨yF BK176⟩,⟨by refine sB ?_;refine blk_put (cs:=#[.slice none 0 0]) ?_ 0 _ rfl;exact yB BK180⟩,⟨yW HB⟩⟩
 case round =>
  clear H'
  try clear c1
  try clear p2
  try clear c7
  try clear hcz8_0
  try clear hfz8_0
  obtain ⟨x11_1,x181000_1,u181000,rfl,HA,HK1,HO_181000,BK176,BK180,HB⟩:=hrel
  cases gk with
  | zero=>exact absurd HA.out (by simp [spec_l2Identity.l0])
  | succ k1 =>
   have H:=HA.out
   clear HA
   simp only [spec_l2Identity.l0] at H
   by_cases c9:x11_1 < (t177.length:Int)
   ·rw [if_pos c9] at H
    have c9b0:=decide_eq_true c9
    clear c9
    obtain ⟨c10,H⟩:=yi H
    have c10b0:=decide_eq_true c10
    clear c10
    obtain ⟨c11,H⟩:=yi H
    have c11b0:=decide_eq_true c11
    clear c11
    obtain ⟨c12,H⟩:=yi H
    have c12b0:=decide_eq_true c12
    clear c12
    generalize hy182:((rd_L1 x181000_1 x11_1).set (x11_1:Int).toNat 1:List Int)=y182 at H
    have Ny182:=am hy182.symm
    clear hy182
    generalize hy184:(x181000_1.set (x11_1:Int).toNat y182:List (List Int))=y184 at H
    have Ny184:=am hy184.symm
    clear hy184
    have H':=am H
    clear H
    have hnb14:=NB180_176.out
    have hnc14:=NB176_180.out
    obtain ⟨hcz15_0,hfz15_0⟩:=yk1 BK180
    obtain ⟨Ao16,co16,eo16⟩:=Kd.S_slice HO_181000.out
    subst eo16
    have p181:0≤(x11_1:Int):=od D1
    have q181:x11_1 < (x181000_1.length:Int):=od D1
    obtain ⟨ad181,A181_0,c181_0,e181,hx181_0,hl181_0,hi181_0⟩:=at_L1 (Kd.S_reads' HO_181000.out).2.2 x11_1 p181 q181
    cases e181
    obtain ⟨ce181,hce181,hMe181,hcc181⟩:=Kd.S_get HO_181000.out [] x11_1 p181 (by first|exact q181|exact od D1|(have e_:=(Kd.S_reads' HO_181000.out).1;omega))
    obtain ⟨ve181_0,rfl,ge181_0⟩:=hMe181
    have hv181_0:=hcc181 0 _ rfl
    rw [Nat.add_zero,show ((Kd.slice 5 (Kd.int .u8))).sz=1 from rfl,Nat.mul_one] at hv181_0
    replace hv181_0:=Option.some.inj (hv181_0.symm.trans hx181_0)
    rw [hv181_0] at ge181_0
    have HL181_0:=am (show Kd.R (Kd.int .u8) 5 _ _ _ _ (rd_L1 x181000_1 x11_1) from ge181_0)
    clear hv181_0 ge181_0
    have HX181_0:=am hx181_0
    clear hcc181 hce181
    have HR181_0:=am hi181_0
    have HC181_0:=am hl181_0
    clear hi181_0 hl181_0
    replace p181:=eq_true p181
    replace q181:=eq_true q181
    have p13:0≤(x11_1:Int):=od D1
    have q13:(x11_1:Int) < (((rd_L1 x181000_1 x11_1).length:Int):Int):=od D1
    obtain ⟨go13,co13,eo13,gb13,gl13,cl13,HG13⟩:=Kd.R_form HL181_0.out D23
    (first|cases eo13|(injection eo13 with ea_ en_ ec_;(first|subst ea_|(injection ea_ with ea_;subst ea_));subst ec_;clear en_))
    have GB13:=am gb13
    have GG13:=am HG13
    clear gb13 gl13 HG13
    obtain ⟨hx13_0,hf13_0⟩:=Kd.R_celln 0 HL181_0.out (x11_1:Int) p13 q13
    replace p13:=eq_true p13
    replace q13:=eq_true q13
    have hq17:(x11_1:Int) < (x181000_1.length:Int):=(by have h_:(x11_1:Int) < ((x181000_1.length:Int):Int):=od D1;first|exact h_|(have e_:=(Kd.S_reads' HO_181000.out).1;omega)|simpa only [List.length_set,List.length_set] using h_)
    obtain ⟨oki17,ce17,hcl17,hM17,hcc17,hok17,hbk17⟩:=Kd.S_borrow HO_181000.out [] (x11_1:Int) (od D1) hq17
    obtain ⟨ve17_0,rfl,ge17_0⟩:=hM17
    have hv17:=hcc17 0 _ rfl
    rw [Nat.add_zero,show ((Kd.slice 5 (Kd.int .u8))).sz=1 from rfl,Nat.mul_one] at hv17
    replace hv17:=Option.some.inj (hv17.symm.trans HX181_0.out)
    subst hv17
    clear hcc17 hcl17
    replace ge17_0:=(show Kd.R (Kd.int .u8) 5 _ _ _ _ (rd_L1 x181000_1 x11_1) from ge17_0)
    have HP17:=Kd.R_putg ge17_0 (x11_1:Int) 1
    go_wp2_with (first|((with_reducible refine gate_store (t:=5) (p:=20) rfl ?_);refine store_event (t:=5) (p:=20) (v:=?vo_w18) (w1:=(wr.setCell ⟨go13,(x11_1:Int).toNat,none⟩ (.int .u8 1))) ?hg ?ho ?hn ?hr ?_;(case ho=>rfl);(case hg=>rfl);(case hn=>rfl);(case hr=>first|(go_simp;done)|(go_simp;rfl));intro w18 hw;have hg:wr.grownBy w18 (some go13):=(by rw [hw];exact HP17.2);have hz_:Kd.R (Kd.int .u8) 5 w18 w.heap.size oki17 (.slice (some ⟨go13,0,none⟩) (rd_L1 x181000_1 x11_1).length c181_0) y182:=(by rw [hw,Ny182.out];exact HP17.1);have hp_:Kd.S (Kd.slice 5 (Kd.int .u8)) 57 w18 w.heap.size (fun _=>True) (.slice (some ad181) x181000_1.length co16) y184:=(by rw [Ny184.out];exact hbk17 hg (fun k_ e_=>by injection e_ with e_;subst e_;exact ge17_0.1 _ rfl) (Kd.M_row hz_));have hm_:=Kd.R_mono hz_ hok17;clear HP17 hbk17;have n0_:=am (hp_);have n1_:=am (blk_grown (g:=gb176) (o:=.cells #[.slice none 0 0] 43 (0,0)) (yB BK176) hg (Kd.R_ne HL181_0.out BK176.out D24));have n2_:=am (blk_grown (g:=gb180) (o:=.cells #[.slice (some ad181) x181000_1.length co16] 43 (0,0)) (yB BK180) hg (Kd.R_ne HL181_0.out BK180.out D24));have n3_:=am ((by rw [hw];exact pt (HB.out) GB13.out:Below w.heap.size w w18));have n4_:=am (hm_);have n5_:=am ((Kd.R_reads' hm_).2.1);clear HO_181000 BK176 BK180 HB HL181_0;have HO_181000:=n0_;have BK176:=n1_;have BK180:=n2_;have HB:=n3_;have HL185:=n4_;have HC183:=n5_;clear n0_ n1_ n2_ n3_ n4_ n5_ hg hw hp_ hz_ hm_ hok17))
    go_roundg k1
    case measure=>have:=HK1.out;omega
    case rel=>exact ⟨(wrap64 (x11_1+1)),(y184),(.slice (some ad181) x181000_1.length co16),D2,H',⟨D50⟩,⟨yS HO_181000⟩,⟨yB BK176⟩,⟨yB BK180⟩,⟨yW HB⟩⟩
   rw [if_neg c9] at H
   have c9b0:=decide_eq_false c9
   clear c9
   obtain rfl:=Option.some.inj H
   have hnb19:=NB180_176.out
   have hnc19:=NB176_180.out
   obtain ⟨hcz20_0,hfz20_0⟩:=yk1 BK180
   obtain ⟨Ao21,co21,eo21⟩:=Kd.S_slice HO_181000.out
   subst eo21
   obtain ⟨hcz22_0,hfz22_0⟩:=yk1 BK176
   go_wp2
   refine bodyPost_ret (results_cell_row rfl _ _ gb176 43 #[.slice Ao21 x181000_1.length co21] (0,0) _ rfl (by refine sB ?_;refine blk_put (cs:=#[.slice none 0 0]) ?_ 0 _ rfl;exact yB BK176) Try.underlying43 rfl D3) rfl ?_
   exact ⟨_,D0,by refine sS ?_;exact Kd.S_mono (Kd.S_far (p:=⟨gb176,0,none⟩) (Kd.S_types HO_181000.out BK176.out D24) (fun _ hk=>hk.2) (.slice Ao21 x181000_1.length co21)) (fun _ hk=>trivial),yW HB⟩
end
section
section
open Go.Proofs.Ytajikfnpcobnpaa.Gf Go.Proofs.Ytajikfnpcobnpaa.Kit Go.Proofs.Ytajikfnpcobnpaa.KitW Go.Proofs.Ytajikfnpcobnpaa.KitN
namespace SpecInv
theorem rdSS (l:List (List Int)) (i:Nat) (h:i < l.length):rd_L1 l (i:Int)=l[i]:=by unfold rd_L1;simp [List.getD,h]
theorem spec_l2Blank.ev_l0 (n m:Nat) (hn:n≤1048576) (hm:m≤1048576):∀ (d i:Nat),i+d=n→Ev (fun k=>spec_l2Blank.l0 k (n:Int) (m:Int) (i:Int) (blankM i m)) (blankM n m)
 | 0,i,hi=>by
  obtain rfl:i=n:=by omega
  refine Ev.step (fun k=>spec_l2Blank.l0.eq_2 _ _ _ _ k) ?_
  exact ev_neg D23 (ev_now rfl)
 | d+1,i,hi=>by
  have ih:=spec_l2Blank.ev_l0 n m hn hm d (i+1) D23
  refine Ev.step (fun k=>spec_l2Blank.l0.eq_2 _ _ _ _ k) ?_
  refine ev_pos D23 (ev_pos D23 (ev_pos D23 (ev_pos (by simp [blankM];omega) ?_)))
  rw [inc D23,Int.toNat_natCast]
  have e:blankM i m ++ [List.replicate m 0]=blankM (i+1) m:=by
   unfold blankM;rw [List.replicate_succ']
  rw [e]
  exact ih
theorem spec_l2Blank.ev (n m:Nat) (hn:n≤1048576) (hm:m≤1048576):Ev (fun k=>spec_l2Blank.f k (n:Int) (m:Int)) (blankM n m):=by
 unfold spec_l2Blank.f
 exact spec_l2Blank.ev_l0 n m hn hm n 0 D23
def idPart (n i:Nat):List (List Int):=(List.range n).map fun j=>if j < i then (List.replicate n 0).set j 1 else List.replicate n 0
theorem idPart_length (n i:Nat):(idPart n i).length=n:=by simp [idPart]
theorem idPart_zero (n:Nat):idPart n 0=blankM n n:=by
 apply List.ext_getElem
 ·simp [idPart,blankM]
 intro j h1 h2;simp [idPart,blankM]
theorem idPart_all (n:Nat):idPart n n=idM n:=by
 apply List.ext_getElem
 ·simp [idPart,idM]
 intro j h1 h2
 have:j < n:=by simpa [idPart] using h1
 simp [idPart,idM,this]
theorem idPart_succ (n i:Nat) (hi:i < n):(idPart n i).set i ((List.replicate n 0).set i 1)=idPart n (i+1):=by
 apply List.ext_getElem
 ·simp [idPart]
 intro j h1 h2
 rw [List.getElem_set]
 by_cases e:i=j
 ·subst e
  simp [idPart]
 rw [if_neg e]
 simp only [idPart,List.getElem_map,List.getElem_range]
 by_cases h:j < i
 ·rw [if_pos h,if_pos D23]
 rw [if_neg h,if_neg D23]
theorem spec_l2Identity.ev_l0 (n:Nat) (hn:n≤1048576):∀ (d i:Nat),i+d=n→Ev (fun k=>spec_l2Identity.l0 k (n:Int) (i:Int) (idPart n i)) (idM n)
 | 0,i,hi=>by
  obtain rfl:i=n:=by omega
  refine Ev.step (fun k=>spec_l2Identity.l0.eq_2 _ _ _ k) ?_
  exact ev_neg D23 (ev_now (idPart_all i))
 | d+1,i,hi=>by
  have hl:=idPart_length n i
  have hg:rd_L1 (idPart n i) (i:Int)=List.replicate n 0:=by
   rw [rdSS _ i D23]
   simp [idPart]
  have ih:=spec_l2Identity.ev_l0 n hn d (i+1) D23
  refine Ev.step (fun k=>spec_l2Identity.l0.eq_2 _ _ _ k) ?_
  rw [hg]
  refine ev_pos D23 (ev_pos D23 (ev_pos D23 (ev_pos (by simp;omega) ?_)))
  rw [inc D23,Int.toNat_natCast,idPart_succ n i D23]
  exact ih
theorem spec_l2Identity.ev (n:Nat) (hn:n≤1048576):Ev (fun k=>spec_l2Identity.f k (n:Int)) (idM n):=by
 unfold spec_l2Identity.f
 refine ev_bind (spec_l2Blank.ev n n hn hn) ?_
 have e:((blankM n n).length:Int)=(n:Int):=by simp [blankM]
 rw [e,← idPart_zero]
 exact spec_l2Identity.ev_l0 n hn n 0 D23
end SpecInv
def spec_l2Inverse.f (l0:List (List Int)):Option (List (List Int) × Bool):=if sqN l0=true then some ((redP l0 (idM l0.length) l0.length).1.map Prod.snd,decide ((redP l0 (idM l0.length) l0.length).2=l0.length)) else none
set_option maxHeartbeats 16000000 in
theorem spec_l2Inverse.calls (A0:Option Addr) (c0:Nat) (l0:List (List Int)) (r1:List (List Int)) (r2:Bool) (w:World) (hr0:Kd.C (Kd.slice 5 (Kd.int .u8)) w A0 l0.length l0) (hc0:l0.length≤c0) (h:spec_l2Inverse.f l0=some (r1,r2)) :
  Calls Try.prog 91 #[.agg #[.slice A0 l0.length c0]] w fun e w'=>∃ v0_:Value,e = .returned (.tuple #[.agg #[v0_], .bool r2])∧Kd.N (Kd.slice 5 (Kd.int .u8)) 57 w' w.heap.size (fun k_=>(w.heap.size≤k_)) v0_ r1∧Below w.heap.size w w':=by
 unfold spec_l2Inverse.f at h
 by_cases hs:sqN l0=true
 case neg=>rw [if_neg hs] at h;cases h
 rw [if_pos hs] at h
 have hrr:=Option.some.inj h
 clear h
 obtain ⟨h1,h2,h3⟩:=sqN_iff.1 hs
 clear hs
 obtain ⟨n,hn⟩:∃ n,n=l0.length:=⟨_,rfl⟩
 rw [← hn] at hrr h3
 obtain ⟨D,hD⟩:∃ D,D=(redP l0 (idM n) n).1.map Prod.snd:=⟨_,rfl⟩
 obtain ⟨z,hz⟩:∃ z,z=(redP l0 (idM n) n).2:=⟨_,rfl⟩
 rw [← hD,← hz] at hrr
 injection hrr with e1 e2
 subst e1
 obtain ⟨kI,hI⟩:=(SpecInv.spec_l2Identity.ev n D23).rounds
 have HI:=am hI
 have HN:=am hn
 have HD:=am hD
 have HZ:=am hz
 have HE2:=am e2
 have HR0:=am hr0
 have HOK:=am h3
 have hn1:1≤n:=by omega
 have hn2:n≤1000:=by omega
 rw [← hn] at hc0 ⊢
 clear hI hn hD hz e2 hr0 h1 h2 h3
 have hu:=Try.underlying43
 obtain ⟨W0,hW⟩:∃ W:World,W=(w.alloc (.cells #[.slice A0 n c0] 43 (0,0))).alloc (.cells #[.slice none 0 0] 43 (0,0)):=⟨_,rfl⟩
 have HB:Below w.heap.size w W0:=by rw [hW];exact pa (pa (Below.refl _ _) _) _
 have b1:W0.heap[w.heap.size]? = some (.cells #[.slice A0 n c0] 43 (0,0)):=by rw [hW];exact qa (heap_alloc_new w _) _
 have b2:W0.heap[w.heap.size+1]? = some (.cells #[.slice none 0 0] 43 (0,0)):=by rw [hW];have y:=heap_alloc_new (w.alloc (.cells #[.slice A0 n c0] 43 (0,0))) (.cells #[.slice none 0 0] 43 (0,0));simpa using y
 have hbox:W0.cell? ⟨w.heap.size,0,none⟩=some (.slice A0 n c0):=(blk_cell b1 0).trans rfl
 have hp2:=blk_lt b2
 go_enter Try.func91,Try.ntmps91
 go_wp2_with fail
 rw [← hW]
 clear hW
 have HBOX:=hbox
 have h12:w.heap.size ≠ w.heap.size+1:=by omega
 refine start_ (n:=13) (S:=fun w'=>w'.cell? ⟨w.heap.size,0,none⟩=some (.slice A0 n c0)) (ds:=[10,11]) #[Z,Z,Z,Z,Z,Z,Z,Z,Z,Z,Z,Z,Z] D3 rfl rfl hbox (fun hHeld=>?_)
 replace HB:=pd HB
 replace b1:=qd b1
 replace b2:=qd b2
 have up2:w.heap.size+1 < W0.drew.heap.size:=blk_lt b2
 have hsw:w.heap.size≤W0.drew.heap.size:=HB.size
 have lp2:w.heap.size≤w.heap.size+1:=by omega
 clear hbox HBOX hp2 h12
 generalize W0.drew=W1 at HB b1 b2 hHeld up2 hsw ⊢
 refine take_ (i:=0) (N:=some 12) (v:=?_) (a':=?_) #[Y,Z,Z,Z,Z,Z,Z,Z,Z,Z,Z,Z,Z] rfl rfl D3 hh (Or.inl ⟨D35,?_⟩) hHeld ?_ ?_
 rotate_left
 ·intro w' s0
  go_simp
  with_reducible rfl
 rotate_left
 ·simp only [Act.put,q1,q2,q3,i64_w,i32_w]
  rfl
 refine pure_ (i:=1) (N:=some 13) (v:=?_) (a':=?_) #[Y,Y,Z,Z,Z,Z,Z,Z,Z,Z,Z,Z,Z] rfl rfl D3 hh (Or.inl ⟨D35,?_⟩) ?_ ?_
 rotate_left
 ·intro w'
  go_simp
  with_reducible rfl
 rotate_left
 ·simp only [Act.put,q1,q2,q3,i64_w,i32_w]
  rfl
 obtain ⟨p2,hp2⟩:∃ p2,p2=w.heap.size+1:=⟨_,rfl⟩
 rw [← hp2] at b2 up2 lp2
 have hpp:w.heap.size+1=p2:=hp2.symm
 clear hp2
 rw [hpp]
 refine join_ (σ:=Nat × Nat × (Option Addr × Nat) × (Option Addr × Nat × Nat) × (Option Addr × Nat × Nat)) 3 #[Y,Y,Y,Y,Y,Y,Y,Y,Y,Y,Z,Z,Z] (fun s=>[(14, .agg #[.slice s.2.2.1.1 n s.2.2.1.2]),(15, .tuple #[.agg #[.slice s.2.2.2.1.1 s.2.2.2.1.2.1 s.2.2.2.1.2.2], .agg #[.slice s.2.2.2.2.1 s.2.2.2.2.2.1 s.2.2.2.2.2.2], .int .i64 (z:Nat)]),(5, .pointer (some ⟨s.1,0,none⟩)),(6, .pointer (some ⟨s.2.1,0,none⟩)),(11, .tuple #[.agg #[.slice s.2.2.2.1.1 s.2.2.2.1.2.1 s.2.2.2.1.2.2], .agg #[.slice s.2.2.2.2.1 s.2.2.2.2.2.1 s.2.2.2.2.2.2], .int .i64 (z:Nat)]),(16, .agg #[.slice s.2.2.2.1.1 s.2.2.2.1.2.1 s.2.2.2.1.2.2]),(17, .agg #[.slice s.2.2.2.2.1 s.2.2.2.2.2.1 s.2.2.2.2.2.2]),(18, .int .i64 (z:Nat))])
  (fun s W=>Below w.heap.size w W∧W.heap[p2]? = some (.cells #[.slice none 0 0] 43 (0,0))∧W.heap[s.1]? = some (.cells #[.slice none 0 0] 43 (0,0))∧W.heap[s.2.1]? = some (.cells #[.slice none 0 0] 43 (0,0))∧s.1 ≠ s.2.1∧w.heap.size≤s.1∧w.heap.size≤s.2.1∧∃ lo hi,Kd.N (Kd.slice 5 (Kd.int .u8)) 57 W w.heap.size (fun b=>lo≤b∧b < hi) (.slice s.2.2.2.2.1 s.2.2.2.2.2.1 s.2.2.2.2.2.2) D∧(s.1 < lo∨hi≤s.1)∧(s.2.1 < lo∨hi≤s.2.1)∧p2 < lo∧w.heap.size≤lo∧p2 ≠ s.1∧p2 ≠ s.2.1) ?_ ?_
 rotate_left
 ·intro hcont
  refine three_ (i:=2) (j:=8) (k:=9) (Ni:=some 14) (Nj:=some 5) (Nk:=some 6) #[Y,Y,Y,Z,Z,Z,Z,Z,Z,Z,Z,Z,Z] #[Y,Y,Z,Z,Z,Z,Z,Z,Y,Z,Z,Z,Z] #[Y,Y,Z,Z,Z,Z,Z,Z,Z,Y,Z,Z,Z] rfl rfl rfl rfl rfl rfl D3 D24 D24 D24 (fun K hK=>?_) (fun K hK=>?_) (fun K hK=>?_)
  ·skip
   refine goes_ Try.func176 D3 rfl #[.int .i64 n] D35 rfl rfl D47 ?_
   refine (spec_l2Identity.calls kI (n:Int) (idM n) _ HI.out).mono ?_
   rintro e W2_ ⟨v14,rfl,ho,hb⟩
   refine ⟨_,rfl,?_⟩
   obtain ⟨A14,c14,e14⟩:=Kd.S_slice ho
   rw [idM_length] at e14
   subst e14
   have hI:=(Kd.S_reads' ho).2.2
   have hIc:=(Kd.S_reads' ho).2.1
   clear ho
   have hsz_:=hb.size
   replace b1:=qb b1 hb
   replace b2:=qb b2 hb
   replace HB:=pu HB hb
   replace hsw:w.heap.size≤W2_.heap.size:=by omega
   replace up2:p2 < W2_.heap.size:=by omega
   clear hb hsz_
   refine hK.out _ _ ((blk_cell b1 0).trans rfl) (fun hHeld=>?_)
   clear hK K
   refine norm_ (nA 14) ?_
   refine three_ (i:=3) (j:=8) (k:=9) (Ni:=some 15) (Nj:=some 5) (Nk:=some 6) #[Y,Y,Y,Y,Z,Z,Z,Z,Z,Z,Z,Z,Z] #[Y,Y,Y,Z,Z,Z,Z,Z,Y,Z,Z,Z,Z] #[Y,Y,Y,Z,Z,Z,Z,Z,Z,Y,Z,Z,Z] rfl rfl rfl rfl rfl rfl D3 D24 D24 D24 (fun K hK=>?_) (fun K hK=>?_) (fun K hK=>?_)
   ·skip
    refine goes_ Try.func175 D3 rfl #[.agg #[.slice A0 n c0], .agg #[.slice A14 n c14]] D35 rfl rfl D47 ?_
    have hc:=spec_l2Reduce.calls A0 c0 l0 A14 c14 (idM n) n n W2_ (Kd.C_below HR0.out HB) D79 hI D80 HOK.out (idM_ok n) D78 D77 D68 hn2 hn2
    rw [← HN.out,idM_length,← HZ.out,← HD.out] at hc
    refine hc.mono ?_
    clear hc
    rintro e W3_ ⟨A5,n5,c5,v1,rfl,hN0,hb⟩
    refine ⟨_,rfl,?_⟩
    obtain ⟨A6,c6,e6⟩:=Kd.N_slice hN0
    generalize hn6:D.length=n6 at e6
    subst e6
    obtain ⟨lo,hlo⟩:∃ z,z=W2_.heap.size:=⟨_,rfl⟩
    obtain ⟨hi,hhi⟩:∃ z,z=W3_.heap.size:=⟨_,rfl⟩
    have hN:=Kd.N_lower (Kd.N_mono (Kd.N_bound hN0) (ok':=fun b=>lo≤b∧b < hi) (fun b hk=>⟨D139,D138⟩)) hsw
    clear hN0
    have hlw:w.heap.size≤lo:=by omega
    have rp2:p2 < lo:=by omega
    have uhi:hi≤W3_.heap.size:=by omega
    clear hlo hhi
    have hsz_:=hb.size
    replace b1:=qb b1 hb
    replace b2:=qb b2 hb
    replace HB:=pu HB hb
    replace hsw:w.heap.size≤W3_.heap.size:=by omega
    replace up2:p2 < W3_.heap.size:=by omega
    clear hb hsz_
    refine hK.out _ _ ((blk_cell b1 0).trans rfl) (fun hHeld=>?_)
    clear hK K
    refine norm_ (nA 15) ?_
    refine pure_ (i:=4) (N:=some 11) (v:=?_) (a':=?_) #[Y,Y,Y,Y,Y,Z,Z,Z,Z,Z,Z,Z,Z] rfl rfl D3 hh (Or.inl ⟨D35,?_⟩) ?_ ?_
    rotate_left
    ·intro w'
     go_simp
     with_reducible rfl
    rotate_left
    ·simp only [Act.put,q1,q2,q3,i64_w,i32_w]
     rfl
    refine pure_ (i:=5) (N:=some 16) (v:=?_) (a':=?_) #[Y,Y,Y,Y,Y,Y,Z,Z,Z,Z,Z,Z,Z] rfl rfl D3 hh (Or.inl ⟨D35,?_⟩) ?_ ?_
    rotate_left
    ·intro w'
     go_simp
     with_reducible rfl
    rotate_left
    ·simp only [Act.put,q1,q2,q3,i64_w,i32_w]
     rfl
    refine pure_ (i:=6) (N:=some 17) (v:=?_) (a':=?_) #[Y,Y,Y,Y,Y,Y,Y,Z,Z,Z,Z,Z,Z] rfl rfl D3 hh (Or.inl ⟨D35,?_⟩) ?_ ?_
    rotate_left
    ·intro w'
     go_simp
     with_reducible rfl
    rotate_left
    ·simp only [Act.put,q1,q2,q3,i64_w,i32_w]
     rfl
    refine pure_ (i:=7) (N:=some 18) (v:=?_) (a':=?_) #[Y,Y,Y,Y,Y,Y,Y,Y,Z,Z,Z,Z,Z] rfl rfl D3 hh (Or.inl ⟨D35,?_⟩) ?_ ?_
    rotate_left
    ·intro w'
     go_simp
     with_reducible rfl
    rotate_left
    ·simp only [Act.put,q1,q2,q3,i64_w,i32_w]
     rfl
    refine two_ (i:=8) (j:=9) (Ni:=some 5) (Nj:=some 6) #[Y,Y,Y,Y,Y,Y,Y,Y,Y,Z,Z,Z,Z] #[Y,Y,Y,Y,Y,Y,Y,Y,Z,Y,Z,Z,Z] rfl rfl rfl rfl D3 D24 D24 (fun K hK=>?_) (fun K hK=>?_)
    ·skip
     refine value_ (v:=.pointer (some ⟨W3_.heap.size,0,none⟩)) (w1:=W3_.alloc (.cells #[.slice none 0 0] 43 (0,0))) D35 rfl ?_ ?_
     ·first|(go_simp;done)|(go_simp;rfl)
     have hq_:=Below.refl W3_.heap.size W3_
     have hal_:=pa hq_ (.cells #[.slice none 0 0] 43 (0,0))
     have b5:=heap_alloc_new W3_ (.cells #[.slice none 0 0] 43 (0,0))
     have hsz_:(W3_.alloc (.cells #[.slice none 0 0] 43 (0,0))).heap.size=W3_.heap.size+1:=by simp
     replace b1:=qa b1 (.cells #[.slice none 0 0] 43 (0,0))
     replace b2:=qa b2 (.cells #[.slice none 0 0] 43 (0,0))
     replace HB:=pa HB (.cells #[.slice none 0 0] 43 (0,0))
     replace hN:=Kd.N_alloc hN (.cells #[.slice none 0 0] 43 (0,0))
     generalize W3_.alloc (.cells #[.slice none 0 0] 43 (0,0))=W4_ at *
     obtain ⟨q5,hq5⟩:∃ q5,q5=W3_.heap.size:=⟨_,rfl⟩
     rw [← hq5] at b5 ⊢
     have lq5:w.heap.size≤q5:=by omega
     have np25:p2 ≠ q5:=by omega
     have uq5:q5 < W4_.heap.size:=by omega
     have rq5:q5 < lo∨hi≤q5:=Or.inr D23
     replace uhi:hi≤W4_.heap.size:=by omega
     replace hsw:w.heap.size≤W4_.heap.size:=by omega
     replace up2:p2 < W4_.heap.size:=by omega
     clear hq_ hal_ hsz_ hq5
     refine hK.out _ _ ((blk_cell b1 0).trans rfl) (fun hHeld=>?_)
     clear hK K
     refine norm_ (nA 5) ?_
     refine one_ (i:=9) (N:=some 6) #[Y,Y,Y,Y,Y,Y,Y,Y,Y,Y,Z,Z,Z] rfl rfl D3 D24 (fun K hK=>?_)
     refine value_ (v:=.pointer (some ⟨W4_.heap.size,0,none⟩)) (w1:=W4_.alloc (.cells #[.slice none 0 0] 43 (0,0))) D35 rfl ?_ ?_
     ·first|(go_simp;done)|(go_simp;rfl)
     have hq_:=Below.refl W4_.heap.size W4_
     have hal_:=pa hq_ (.cells #[.slice none 0 0] 43 (0,0))
     have b6:=heap_alloc_new W4_ (.cells #[.slice none 0 0] 43 (0,0))
     have hsz_:(W4_.alloc (.cells #[.slice none 0 0] 43 (0,0))).heap.size=W4_.heap.size+1:=by simp
     replace b1:=qa b1 (.cells #[.slice none 0 0] 43 (0,0))
     replace b2:=qa b2 (.cells #[.slice none 0 0] 43 (0,0))
     replace b5:=qa b5 (.cells #[.slice none 0 0] 43 (0,0))
     replace HB:=pa HB (.cells #[.slice none 0 0] 43 (0,0))
     replace hN:=Kd.N_alloc hN (.cells #[.slice none 0 0] 43 (0,0))
     generalize W4_.alloc (.cells #[.slice none 0 0] 43 (0,0))=W5_ at *
     obtain ⟨q6,hq6⟩:∃ q6,q6=W4_.heap.size:=⟨_,rfl⟩
     rw [← hq6] at b6 ⊢
     have lq6:w.heap.size≤q6:=by omega
     have np26:p2 ≠ q6:=by omega
     have uq6:q6 < W5_.heap.size:=by omega
     have hne:q5 ≠ q6:=by omega
     replace uq5:q5 < W5_.heap.size:=by omega
     have rq6:q6 < lo∨hi≤q6:=Or.inr D23
     replace uhi:hi≤W5_.heap.size:=by omega
     replace hsw:w.heap.size≤W5_.heap.size:=by omega
     replace up2:p2 < W5_.heap.size:=by omega
     clear hq_ hal_ hsz_ hq6
     refine hK.out _ _ ((blk_cell b1 0).trans rfl) (fun hHeld=>?_)
     clear hK K
     refine norm_ (nA 6) ?_
     refine norm_ ?_ (hcont (q5,q6,(A14,c14),(A5,n5,c5),(A6,n6,c6)) _ ⟨HB,b2,b5,b6,hne,lq5,lq6,lo,hi,hN,rq5,rq6,rp2,hlw,np25,np26⟩)
     first|(simp only [putAll,Act.put,q1,q2,q3];done)|rfl|(simp only [putAll,Act.put,q1,q2,q3];rfl)
    skip
    refine value_ (v:=.pointer (some ⟨W3_.heap.size,0,none⟩)) (w1:=W3_.alloc (.cells #[.slice none 0 0] 43 (0,0))) D35 rfl ?_ ?_
    ·first|(go_simp;done)|(go_simp;rfl)
    have hq_:=Below.refl W3_.heap.size W3_
    have hal_:=pa hq_ (.cells #[.slice none 0 0] 43 (0,0))
    have b6:=heap_alloc_new W3_ (.cells #[.slice none 0 0] 43 (0,0))
    have hsz_:(W3_.alloc (.cells #[.slice none 0 0] 43 (0,0))).heap.size=W3_.heap.size+1:=by simp
    replace b1:=qa b1 (.cells #[.slice none 0 0] 43 (0,0))
    replace b2:=qa b2 (.cells #[.slice none 0 0] 43 (0,0))
    replace HB:=pa HB (.cells #[.slice none 0 0] 43 (0,0))
    replace hN:=Kd.N_alloc hN (.cells #[.slice none 0 0] 43 (0,0))
    generalize W3_.alloc (.cells #[.slice none 0 0] 43 (0,0))=W4_ at *
    obtain ⟨q6,hq6⟩:∃ q6,q6=W3_.heap.size:=⟨_,rfl⟩
    rw [← hq6] at b6 ⊢
    have lq6:w.heap.size≤q6:=by omega
    have np26:p2 ≠ q6:=by omega
    have uq6:q6 < W4_.heap.size:=by omega
    have rq6:q6 < lo∨hi≤q6:=Or.inr D23
    replace uhi:hi≤W4_.heap.size:=by omega
    replace hsw:w.heap.size≤W4_.heap.size:=by omega
    replace up2:p2 < W4_.heap.size:=by omega
    clear hq_ hal_ hsz_ hq6
    refine hK.out _ _ ((blk_cell b1 0).trans rfl) (fun hHeld=>?_)
    clear hK K
    refine norm_ (nA 6) ?_
    refine one_ (i:=8) (N:=some 5) #[Y,Y,Y,Y,Y,Y,Y,Y,Y,Y,Z,Z,Z] rfl rfl D3 D24 (fun K hK=>?_)
    refine value_ (v:=.pointer (some ⟨W4_.heap.size,0,none⟩)) (w1:=W4_.alloc (.cells #[.slice none 0 0] 43 (0,0))) D35 rfl ?_ ?_
    ·first|(go_simp;done)|(go_simp;rfl)
    have hq_:=Below.refl W4_.heap.size W4_
    have hal_:=pa hq_ (.cells #[.slice none 0 0] 43 (0,0))
    have b5:=heap_alloc_new W4_ (.cells #[.slice none 0 0] 43 (0,0))
    have hsz_:(W4_.alloc (.cells #[.slice none 0 0] 43 (0,0))).heap.size=W4_.heap.size+1:=by simp
    replace b1:=qa b1 (.cells #[.slice none 0 0] 43 (0,0))
    replace b2:=qa b2 (.cells #[.slice none 0 0] 43 (0,0))
    replace b6:=qa b6 (.cells #[.slice none 0 0] 43 (0,0))
    replace HB:=pa HB (.cells #[.slice none 0 0] 43 (0,0))
    replace hN:=Kd.N_alloc hN (.cells #[.slice none 0 0] 43 (0,0))
    generalize W4_.alloc (.cells #[.slice none 0 0] 43 (0,0))=W5_ at *
    obtain ⟨q5,hq5⟩:∃ q5,q5=W4_.heap.size:=⟨_,rfl⟩
    rw [← hq5] at b5 ⊢
    have lq5:w.heap.size≤q5:=by omega
    have np25:p2 ≠ q5:=by omega
    have uq5:q5 < W5_.heap.size:=by omega
    have hne:q5 ≠ q6:=by omega
    replace uq6:q6 < W5_.heap.size:=by omega
    have rq5:q5 < lo∨hi≤q5:=Or.inr D23
    replace uhi:hi≤W5_.heap.size:=by omega
    replace hsw:w.heap.size≤W5_.heap.size:=by omega
    replace up2:p2 < W5_.heap.size:=by omega
    clear hq_ hal_ hsz_ hq5
    refine hK.out _ _ ((blk_cell b1 0).trans rfl) (fun hHeld=>?_)
    clear hK K
    refine norm_ (nA 5) ?_
    refine norm_ ?_ (hcont (q5,q6,(A14,c14),(A5,n5,c5),(A6,n6,c6)) _ ⟨HB,b2,b5,b6,hne,lq5,lq6,lo,hi,hN,rq5,rq6,rp2,hlw,np25,np26⟩)
    first|(simp only [putAll,Act.put,q1,q2,q3];done)|rfl|(simp only [putAll,Act.put,q1,q2,q3];rfl)
   ·skip
    refine value_ (v:=.pointer (some ⟨W2_.heap.size,0,none⟩)) (w1:=W2_.alloc (.cells #[.slice none 0 0] 43 (0,0))) D35 rfl ?_ ?_
    ·first|(go_simp;done)|(go_simp;rfl)
    have hq_:=Below.refl W2_.heap.size W2_
    have hal_:=pa hq_ (.cells #[.slice none 0 0] 43 (0,0))
    have b5:=heap_alloc_new W2_ (.cells #[.slice none 0 0] 43 (0,0))
    have hsz_:(W2_.alloc (.cells #[.slice none 0 0] 43 (0,0))).heap.size=W2_.heap.size+1:=by simp
    replace b1:=qa b1 (.cells #[.slice none 0 0] 43 (0,0))
    replace b2:=qa b2 (.cells #[.slice none 0 0] 43 (0,0))
    replace HB:=pa HB (.cells #[.slice none 0 0] 43 (0,0))
    replace hI:=Kd.C_alloc hI (.cells #[.slice none 0 0] 43 (0,0))
    generalize W2_.alloc (.cells #[.slice none 0 0] 43 (0,0))=W3_ at *
    obtain ⟨q5,hq5⟩:∃ q5,q5=W2_.heap.size:=⟨_,rfl⟩
    rw [← hq5] at b5 ⊢
    have lq5:w.heap.size≤q5:=by omega
    have np25:p2 ≠ q5:=by omega
    have uq5:q5 < W3_.heap.size:=by omega
    replace hsw:w.heap.size≤W3_.heap.size:=by omega
    replace up2:p2 < W3_.heap.size:=by omega
    clear hq_ hal_ hsz_ hq5
    refine hK.out _ _ ((blk_cell b1 0).trans rfl) (fun hHeld=>?_)
    clear hK K
    refine norm_ (nA 5) ?_
    refine two_ (i:=3) (j:=9) (Ni:=some 15) (Nj:=some 6) #[Y,Y,Y,Y,Z,Z,Z,Z,Y,Z,Z,Z,Z] #[Y,Y,Y,Z,Z,Z,Z,Z,Y,Y,Z,Z,Z] rfl rfl rfl rfl D3 D24 D24 (fun K hK=>?_) (fun K hK=>?_)
    ·skip
     refine goes_ Try.func175 D3 rfl #[.agg #[.slice A0 n c0], .agg #[.slice A14 n c14]] D35 rfl rfl D47 ?_
     have hc:=spec_l2Reduce.calls A0 c0 l0 A14 c14 (idM n) n n W3_ (Kd.C_below HR0.out HB) D79 hI D80 HOK.out (idM_ok n) D78 D77 D68 hn2 hn2
     rw [← HN.out,idM_length,← HZ.out,← HD.out] at hc
     refine hc.mono ?_
     clear hc
     rintro e W4_ ⟨A5,n5,c5,v1,rfl,hN0,hb⟩
     refine ⟨_,rfl,?_⟩
     obtain ⟨A6,c6,e6⟩:=Kd.N_slice hN0
     generalize hn6:D.length=n6 at e6
     subst e6
     obtain ⟨lo,hlo⟩:∃ z,z=W3_.heap.size:=⟨_,rfl⟩
     obtain ⟨hi,hhi⟩:∃ z,z=W4_.heap.size:=⟨_,rfl⟩
     have hN:=Kd.N_lower (Kd.N_mono (Kd.N_bound hN0) (ok':=fun b=>lo≤b∧b < hi) (fun b hk=>⟨D139,D138⟩)) hsw
     clear hN0
     have hlw:w.heap.size≤lo:=by omega
     have rp2:p2 < lo:=by omega
     have uhi:hi≤W4_.heap.size:=by omega
     have rq5:q5 < lo∨hi≤q5:=Or.inl D23
     clear hlo hhi
     have hsz_:=hb.size
     replace b1:=qb b1 hb
     replace b2:=qb b2 hb
     replace b5:=qb b5 hb
     replace HB:=pu HB hb
     replace hsw:w.heap.size≤W4_.heap.size:=by omega
     replace up2:p2 < W4_.heap.size:=by omega
     replace uq5:q5 < W4_.heap.size:=by omega
     clear hb hsz_
     refine hK.out _ _ ((blk_cell b1 0).trans rfl) (fun hHeld=>?_)
     clear hK K
     refine norm_ (nA 15) ?_
     refine pure_ (i:=4) (N:=some 11) (v:=?_) (a':=?_) #[Y,Y,Y,Y,Y,Z,Z,Z,Y,Z,Z,Z,Z] rfl rfl D3 hh (Or.inl ⟨D35,?_⟩) ?_ ?_
     rotate_left
     ·intro w'
      go_simp
      with_reducible rfl
     rotate_left
     ·simp only [Act.put,q1,q2,q3,i64_w,i32_w]
      rfl
     refine pure_ (i:=5) (N:=some 16) (v:=?_) (a':=?_) #[Y,Y,Y,Y,Y,Y,Z,Z,Y,Z,Z,Z,Z] rfl rfl D3 hh (Or.inl ⟨D35,?_⟩) ?_ ?_
     rotate_left
     ·intro w'
      go_simp
      with_reducible rfl
     rotate_left
     ·simp only [Act.put,q1,q2,q3,i64_w,i32_w]
      rfl
     refine pure_ (i:=6) (N:=some 17) (v:=?_) (a':=?_) #[Y,Y,Y,Y,Y,Y,Y,Z,Y,Z,Z,Z,Z] rfl rfl D3 hh (Or.inl ⟨D35,?_⟩) ?_ ?_
     rotate_left
     ·intro w'
      go_simp
      with_reducible rfl
     rotate_left
     ·simp only [Act.put,q1,q2,q3,i64_w,i32_w]
      rfl
     refine pure_ (i:=7) (N:=some 18) (v:=?_) (a':=?_) #[Y,Y,Y,Y,Y,Y,Y,Y,Y,Z,Z,Z,Z] rfl rfl D3 hh (Or.inl ⟨D35,?_⟩) ?_ ?_
     rotate_left
     ·intro w'
      go_simp
      with_reducible rfl
     rotate_left
     ·simp only [Act.put,q1,q2,q3,i64_w,i32_w]
      rfl
     refine one_ (i:=9) (N:=some 6) #[Y,Y,Y,Y,Y,Y,Y,Y,Y,Y,Z,Z,Z] rfl rfl D3 D24 (fun K hK=>?_)
     refine value_ (v:=.pointer (some ⟨W4_.heap.size,0,none⟩)) (w1:=W4_.alloc (.cells #[.slice none 0 0] 43 (0,0))) D35 rfl ?_ ?_
     ·first|(go_simp;done)|(go_simp;rfl)
     have hq_:=Below.refl W4_.heap.size W4_
     have hal_:=pa hq_ (.cells #[.slice none 0 0] 43 (0,0))
     have b6:=heap_alloc_new W4_ (.cells #[.slice none 0 0] 43 (0,0))
     have hsz_:(W4_.alloc (.cells #[.slice none 0 0] 43 (0,0))).heap.size=W4_.heap.size+1:=by simp
     replace b1:=qa b1 (.cells #[.slice none 0 0] 43 (0,0))
     replace b2:=qa b2 (.cells #[.slice none 0 0] 43 (0,0))
     replace b5:=qa b5 (.cells #[.slice none 0 0] 43 (0,0))
     replace HB:=pa HB (.cells #[.slice none 0 0] 43 (0,0))
     replace hN:=Kd.N_alloc hN (.cells #[.slice none 0 0] 43 (0,0))
     generalize W4_.alloc (.cells #[.slice none 0 0] 43 (0,0))=W5_ at *
     obtain ⟨q6,hq6⟩:∃ q6,q6=W4_.heap.size:=⟨_,rfl⟩
     rw [← hq6] at b6 ⊢
     have lq6:w.heap.size≤q6:=by omega
     have np26:p2 ≠ q6:=by omega
     have uq6:q6 < W5_.heap.size:=by omega
     have hne:q5 ≠ q6:=by omega
     replace uq5:q5 < W5_.heap.size:=by omega
     have rq6:q6 < lo∨hi≤q6:=Or.inr D23
     replace uhi:hi≤W5_.heap.size:=by omega
     replace hsw:w.heap.size≤W5_.heap.size:=by omega
     replace up2:p2 < W5_.heap.size:=by omega
     clear hq_ hal_ hsz_ hq6
     refine hK.out _ _ ((blk_cell b1 0).trans rfl) (fun hHeld=>?_)
     clear hK K
     refine norm_ (nA 6) ?_
     refine norm_ ?_ (hcont (q5,q6,(A14,c14),(A5,n5,c5),(A6,n6,c6)) _ ⟨HB,b2,b5,b6,hne,lq5,lq6,lo,hi,hN,rq5,rq6,rp2,hlw,np25,np26⟩)
     first|(simp only [putAll,Act.put,q1,q2,q3];done)|rfl|(simp only [putAll,Act.put,q1,q2,q3];rfl)
    skip
    refine value_ (v:=.pointer (some ⟨W3_.heap.size,0,none⟩)) (w1:=W3_.alloc (.cells #[.slice none 0 0] 43 (0,0))) D35 rfl ?_ ?_
    ·first|(go_simp;done)|(go_simp;rfl)
    have hq_:=Below.refl W3_.heap.size W3_
    have hal_:=pa hq_ (.cells #[.slice none 0 0] 43 (0,0))
    have b6:=heap_alloc_new W3_ (.cells #[.slice none 0 0] 43 (0,0))
    have hsz_:(W3_.alloc (.cells #[.slice none 0 0] 43 (0,0))).heap.size=W3_.heap.size+1:=by simp
    replace b1:=qa b1 (.cells #[.slice none 0 0] 43 (0,0))
    replace b2:=qa b2 (.cells #[.slice none 0 0] 43 (0,0))
    replace b5:=qa b5 (.cells #[.slice none 0 0] 43 (0,0))
    replace HB:=pa HB (.cells #[.slice none 0 0] 43 (0,0))
    replace hI:=Kd.C_alloc hI (.cells #[.slice none 0 0] 43 (0,0))
    generalize W3_.alloc (.cells #[.slice none 0 0] 43 (0,0))=W4_ at *
    obtain ⟨q6,hq6⟩:∃ q6,q6=W3_.heap.size:=⟨_,rfl⟩
    rw [← hq6] at b6 ⊢
    have lq6:w.heap.size≤q6:=by omega
    have np26:p2 ≠ q6:=by omega
    have uq6:q6 < W4_.heap.size:=by omega
    have hne:q5 ≠ q6:=by omega
    replace uq5:q5 < W4_.heap.size:=by omega
    replace hsw:w.heap.size≤W4_.heap.size:=by omega
    replace up2:p2 < W4_.heap.size:=by omega
    clear hq_ hal_ hsz_ hq6
    refine hK.out _ _ ((blk_cell b1 0).trans rfl) (fun hHeld=>?_)
    clear hK K
    refine norm_ (nA 6) ?_
    refine one_ (i:=3) (N:=some 15) #[Y,Y,Y,Y,Z,Z,Z,Z,Y,Y,Z,Z,Z] rfl rfl D3 D24 (fun K hK=>?_)
    refine goes_ Try.func175 D3 rfl #[.agg #[.slice A0 n c0], .agg #[.slice A14 n c14]] D35 rfl rfl D47 ?_
    have hc:=spec_l2Reduce.calls A0 c0 l0 A14 c14 (idM n) n n W4_ (Kd.C_below HR0.out HB) D79 hI D80 HOK.out (idM_ok n) D78 D77 D68 hn2 hn2
    rw [← HN.out,idM_length,← HZ.out,← HD.out] at hc
    refine hc.mono ?_
    clear hc
    rintro e W5_ ⟨A5,n5,c5,v1,rfl,hN0,hb⟩
    refine ⟨_,rfl,?_⟩
    obtain ⟨A6,c6,e6⟩:=Kd.N_slice hN0
    generalize hn6:D.length=n6 at e6
    subst e6
    obtain ⟨lo,hlo⟩:∃ z,z=W4_.heap.size:=⟨_,rfl⟩
    obtain ⟨hi,hhi⟩:∃ z,z=W5_.heap.size:=⟨_,rfl⟩
    have hN:=Kd.N_lower (Kd.N_mono (Kd.N_bound hN0) (ok':=fun b=>lo≤b∧b < hi) (fun b hk=>⟨D139,D138⟩)) hsw
    clear hN0
    have hlw:w.heap.size≤lo:=by omega
    have rp2:p2 < lo:=by omega
    have uhi:hi≤W5_.heap.size:=by omega
    have rq5:q5 < lo∨hi≤q5:=Or.inl D23
    have rq6:q6 < lo∨hi≤q6:=Or.inl D23
    clear hlo hhi
    have hsz_:=hb.size
    replace b1:=qb b1 hb
    replace b2:=qb b2 hb
    replace b5:=qb b5 hb
    replace b6:=qb b6 hb
    replace HB:=pu HB hb
    replace hsw:w.heap.size≤W5_.heap.size:=by omega
    replace up2:p2 < W5_.heap.size:=by omega
    replace uq5:q5 < W5_.heap.size:=by omega
    replace uq6:q6 < W5_.heap.size:=by omega
    clear hb hsz_
    refine hK.out _ _ ((blk_cell b1 0).trans rfl) (fun hHeld=>?_)
    clear hK K
    refine norm_ (nA 15) ?_
    refine pure_ (i:=4) (N:=some 11) (v:=?_) (a':=?_) #[Y,Y,Y,Y,Y,Z,Z,Z,Y,Y,Z,Z,Z] rfl rfl D3 hh (Or.inl ⟨D35,?_⟩) ?_ ?_
    rotate_left
    ·intro w'
     go_simp
     with_reducible rfl
    rotate_left
    ·simp only [Act.put,q1,q2,q3,i64_w,i32_w]
     rfl
    refine pure_ (i:=5) (N:=some 16) (v:=?_) (a':=?_) #[Y,Y,Y,Y,Y,Y,Z,Z,Y,Y,Z,Z,Z] rfl rfl D3 hh (Or.inl ⟨D35,?_⟩) ?_ ?_
    rotate_left
    ·intro w'
     go_simp
     with_reducible rfl
    rotate_left
    ·simp only [Act.put,q1,q2,q3,i64_w,i32_w]
     rfl
    refine pure_ (i:=6) (N:=some 17) (v:=?_) (a':=?_) #[Y,Y,Y,Y,Y,Y,Y,Z,Y,Y,Z,Z,Z] rfl rfl D3 hh (Or.inl ⟨D35,?_⟩) ?_ ?_
    rotate_left
    ·intro w'
     go_simp
     with_reducible rfl
    rotate_left
    ·simp only [Act.put,q1,q2,q3,i64_w,i32_w]
     rfl
    refine pure_ (i:=7) (N:=some 18) (v:=?_) (a':=?_) #[Y,Y,Y,Y,Y,Y,Y,Y,Y,Y,Z,Z,Z] rfl rfl D3 hh (Or.inl ⟨D35,?_⟩) ?_ ?_
    rotate_left
    ·intro w'
     go_simp
     with_reducible rfl
    rotate_left
    ·simp only [Act.put,q1,q2,q3,i64_w,i32_w]
     rfl
    refine norm_ ?_ (hcont (q5,q6,(A14,c14),(A5,n5,c5),(A6,n6,c6)) _ ⟨HB,b2,b5,b6,hne,lq5,lq6,lo,hi,hN,rq5,rq6,rp2,hlw,np25,np26⟩)
    first|(simp only [putAll,Act.put,q1,q2,q3];done)|rfl|(simp only [putAll,Act.put,q1,q2,q3];rfl)
   skip
   refine value_ (v:=.pointer (some ⟨W2_.heap.size,0,none⟩)) (w1:=W2_.alloc (.cells #[.slice none 0 0] 43 (0,0))) D35 rfl ?_ ?_
   ·first|(go_simp;done)|(go_simp;rfl)
   have hq_:=Below.refl W2_.heap.size W2_
   have hal_:=pa hq_ (.cells #[.slice none 0 0] 43 (0,0))
   have b6:=heap_alloc_new W2_ (.cells #[.slice none 0 0] 43 (0,0))
   have hsz_:(W2_.alloc (.cells #[.slice none 0 0] 43 (0,0))).heap.size=W2_.heap.size+1:=by simp
   replace b1:=qa b1 (.cells #[.slice none 0 0] 43 (0,0))
   replace b2:=qa b2 (.cells #[.slice none 0 0] 43 (0,0))
   replace HB:=pa HB (.cells #[.slice none 0 0] 43 (0,0))
   replace hI:=Kd.C_alloc hI (.cells #[.slice none 0 0] 43 (0,0))
   generalize W2_.alloc (.cells #[.slice none 0 0] 43 (0,0))=W3_ at *
   obtain ⟨q6,hq6⟩:∃ q6,q6=W2_.heap.size:=⟨_,rfl⟩
   rw [← hq6] at b6 ⊢
   have lq6:w.heap.size≤q6:=by omega
   have np26:p2 ≠ q6:=by omega
   have uq6:q6 < W3_.heap.size:=by omega
   replace hsw:w.heap.size≤W3_.heap.size:=by omega
   replace up2:p2 < W3_.heap.size:=by omega
   clear hq_ hal_ hsz_ hq6
   refine hK.out _ _ ((blk_cell b1 0).trans rfl) (fun hHeld=>?_)
   clear hK K
   refine norm_ (nA 6) ?_
   refine two_ (i:=3) (j:=8) (Ni:=some 15) (Nj:=some 5) #[Y,Y,Y,Y,Z,Z,Z,Z,Z,Y,Z,Z,Z] #[Y,Y,Y,Z,Z,Z,Z,Z,Y,Y,Z,Z,Z] rfl rfl rfl rfl D3 D24 D24 (fun K hK=>?_) (fun K hK=>?_)
   ·skip
    refine goes_ Try.func175 D3 rfl #[.agg #[.slice A0 n c0], .agg #[.slice A14 n c14]] D35 rfl rfl D47 ?_
    have hc:=spec_l2Reduce.calls A0 c0 l0 A14 c14 (idM n) n n W3_ (Kd.C_below HR0.out HB) D79 hI D80 HOK.out (idM_ok n) D78 D77 D68 hn2 hn2
    rw [← HN.out,idM_length,← HZ.out,← HD.out] at hc
    refine hc.mono ?_
    clear hc
    rintro e W4_ ⟨A5,n5,c5,v1,rfl,hN0,hb⟩
    refine ⟨_,rfl,?_⟩
    obtain ⟨A6,c6,e6⟩:=Kd.N_slice hN0
    generalize hn6:D.length=n6 at e6
    subst e6
    obtain ⟨lo,hlo⟩:∃ z,z=W3_.heap.size:=⟨_,rfl⟩
    obtain ⟨hi,hhi⟩:∃ z,z=W4_.heap.size:=⟨_,rfl⟩
    have hN:=Kd.N_lower (Kd.N_mono (Kd.N_bound hN0) (ok':=fun b=>lo≤b∧b < hi) (fun b hk=>⟨D139,D138⟩)) hsw
    clear hN0
    have hlw:w.heap.size≤lo:=by omega
    have rp2:p2 < lo:=by omega
    have uhi:hi≤W4_.heap.size:=by omega
    have rq6:q6 < lo∨hi≤q6:=Or.inl D23
    clear hlo hhi
    have hsz_:=hb.size
    replace b1:=qb b1 hb
    replace b2:=qb b2 hb
    replace b6:=qb b6 hb
    replace HB:=pu HB hb
    replace hsw:w.heap.size≤W4_.heap.size:=by omega
    replace up2:p2 < W4_.heap.size:=by omega
    replace uq6:q6 < W4_.heap.size:=by omega
    clear hb hsz_
    refine hK.out _ _ ((blk_cell b1 0).trans rfl) (fun hHeld=>?_)
    clear hK K
    refine norm_ (nA 15) ?_
    refine pure_ (i:=4) (N:=some 11) (v:=?_) (a':=?_) #[Y,Y,Y,Y,Y,Z,Z,Z,Z,Y,Z,Z,Z] rfl rfl D3 hh (Or.inl ⟨D35,?_⟩) ?_ ?_
    rotate_left
    ·intro w'
     go_simp
     with_reducible rfl
    rotate_left
    ·simp only [Act.put,q1,q2,q3,i64_w,i32_w]
     rfl
    refine pure_ (i:=5) (N:=some 16) (v:=?_) (a':=?_) #[Y,Y,Y,Y,Y,Y,Z,Z,Z,Y,Z,Z,Z] rfl rfl D3 hh (Or.inl ⟨D35,?_⟩) ?_ ?_
    rotate_left
    ·intro w'
     go_simp
     with_reducible rfl
    rotate_left
    ·simp only [Act.put,q1,q2,q3,i64_w,i32_w]
     rfl
    refine pure_ (i:=6) (N:=some 17) (v:=?_) (a':=?_) #[Y,Y,Y,Y,Y,Y,Y,Z,Z,Y,Z,Z,Z] rfl rfl D3 hh (Or.inl ⟨D35,?_⟩) ?_ ?_
    rotate_left
    ·intro w'
     go_simp
     with_reducible rfl
    rotate_left
    ·simp only [Act.put,q1,q2,q3,i64_w,i32_w]
     rfl
    refine pure_ (i:=7) (N:=some 18) (v:=?_) (a':=?_) #[Y,Y,Y,Y,Y,Y,Y,Y,Z,Y,Z,Z,Z] rfl rfl D3 hh (Or.inl ⟨D35,?_⟩) ?_ ?_
    rotate_left
    ·intro w'
     go_simp
     with_reducible rfl
    rotate_left
    ·simp only [Act.put,q1,q2,q3,i64_w,i32_w]
     rfl
    refine one_ (i:=8) (N:=some 5) #[Y,Y,Y,Y,Y,Y,Y,Y,Y,Y,Z,Z,Z] rfl rfl D3 D24 (fun K hK=>?_)
    refine value_ (v:=.pointer (some ⟨W4_.heap.size,0,none⟩)) (w1:=W4_.alloc (.cells #[.slice none 0 0] 43 (0,0))) D35 rfl ?_ ?_
    ·first|(go_simp;done)|(go_simp;rfl)
    have hq_:=Below.refl W4_.heap.size W4_
    have hal_:=pa hq_ (.cells #[.slice none 0 0] 43 (0,0))
    have b5:=heap_alloc_new W4_ (.cells #[.slice none 0 0] 43 (0,0))
    have hsz_:(W4_.alloc (.cells #[.slice none 0 0] 43 (0,0))).heap.size=W4_.heap.size+1:=by simp
    replace b1:=qa b1 (.cells #[.slice none 0 0] 43 (0,0))
    replace b2:=qa b2 (.cells #[.slice none 0 0] 43 (0,0))
    replace b6:=qa b6 (.cells #[.slice none 0 0] 43 (0,0))
    replace HB:=pa HB (.cells #[.slice none 0 0] 43 (0,0))
    replace hN:=Kd.N_alloc hN (.cells #[.slice none 0 0] 43 (0,0))
    generalize W4_.alloc (.cells #[.slice none 0 0] 43 (0,0))=W5_ at *
    obtain ⟨q5,hq5⟩:∃ q5,q5=W4_.heap.size:=⟨_,rfl⟩
    rw [← hq5] at b5 ⊢
    have lq5:w.heap.size≤q5:=by omega
    have np25:p2 ≠ q5:=by omega
    have uq5:q5 < W5_.heap.size:=by omega
    have hne:q5 ≠ q6:=by omega
    replace uq6:q6 < W5_.heap.size:=by omega
    have rq5:q5 < lo∨hi≤q5:=Or.inr D23
    replace uhi:hi≤W5_.heap.size:=by omega
    replace hsw:w.heap.size≤W5_.heap.size:=by omega
    replace up2:p2 < W5_.heap.size:=by omega
    clear hq_ hal_ hsz_ hq5
    refine hK.out _ _ ((blk_cell b1 0).trans rfl) (fun hHeld=>?_)
    clear hK K
    refine norm_ (nA 5) ?_
    refine norm_ ?_ (hcont (q5,q6,(A14,c14),(A5,n5,c5),(A6,n6,c6)) _ ⟨HB,b2,b5,b6,hne,lq5,lq6,lo,hi,hN,rq5,rq6,rp2,hlw,np25,np26⟩)
    first|(simp only [putAll,Act.put,q1,q2,q3];done)|rfl|(simp only [putAll,Act.put,q1,q2,q3];rfl)
   skip
   refine value_ (v:=.pointer (some ⟨W3_.heap.size,0,none⟩)) (w1:=W3_.alloc (.cells #[.slice none 0 0] 43 (0,0))) D35 rfl ?_ ?_
   ·first|(go_simp;done)|(go_simp;rfl)
   have hq_:=Below.refl W3_.heap.size W3_
   have hal_:=pa hq_ (.cells #[.slice none 0 0] 43 (0,0))
   have b5:=heap_alloc_new W3_ (.cells #[.slice none 0 0] 43 (0,0))
   have hsz_:(W3_.alloc (.cells #[.slice none 0 0] 43 (0,0))).heap.size=W3_.heap.size+1:=by simp
   replace b1:=qa b1 (.cells #[.slice none 0 0] 43 (0,0))
   replace b2:=qa b2 (.cells #[.slice none 0 0] 43 (0,0))
   replace b6:=qa b6 (.cells #[.slice none 0 0] 43 (0,0))
   replace HB:=pa HB (.cells #[.slice none 0 0] 43 (0,0))
   replace hI:=Kd.C_alloc hI (.cells #[.slice none 0 0] 43 (0,0))
   generalize W3_.alloc (.cells #[.slice none 0 0] 43 (0,0))=W4_ at *
   obtain ⟨q5,hq5⟩:∃ q5,q5=W3_.heap.size:=⟨_,rfl⟩
   rw [← hq5] at b5 ⊢
   have lq5:w.heap.size≤q5:=by omega
   have np25:p2 ≠ q5:=by omega
   have uq5:q5 < W4_.heap.size:=by omega
   have hne:q5 ≠ q6:=by omega
   replace uq6:q6 < W4_.heap.size:=by omega
   replace hsw:w.heap.size≤W4_.heap.size:=by omega
   replace up2:p2 < W4_.heap.size:=by omega
   clear hq_ hal_ hsz_ hq5
   refine hK.out _ _ ((blk_cell b1 0).trans rfl) (fun hHeld=>?_)
   clear hK K
   refine norm_ (nA 5) ?_
   refine one_ (i:=3) (N:=some 15) #[Y,Y,Y,Y,Z,Z,Z,Z,Y,Y,Z,Z,Z] rfl rfl D3 D24 (fun K hK=>?_)
   refine goes_ Try.func175 D3 rfl #[.agg #[.slice A0 n c0], .agg #[.slice A14 n c14]] D35 rfl rfl D47 ?_
   have hc:=spec_l2Reduce.calls A0 c0 l0 A14 c14 (idM n) n n W4_ (Kd.C_below HR0.out HB) D79 hI D80 HOK.out (idM_ok n) D78 D77 D68 hn2 hn2
   rw [← HN.out,idM_length,← HZ.out,← HD.out] at hc
   refine hc.mono ?_
   clear hc
   rintro e W5_ ⟨A5,n5,c5,v1,rfl,hN0,hb⟩
   refine ⟨_,rfl,?_⟩
   obtain ⟨A6,c6,e6⟩:=Kd.N_slice hN0
   generalize hn6:D.length=n6 at e6
   subst e6
   obtain ⟨lo,hlo⟩:∃ z,z=W4_.heap.size:=⟨_,rfl⟩
   obtain ⟨hi,hhi⟩:∃ z,z=W5_.heap.size:=⟨_,rfl⟩
   have hN:=Kd.N_lower (Kd.N_mono (Kd.N_bound hN0) (ok':=fun b=>lo≤b∧b < hi) (fun b hk=>⟨D139,D138⟩)) hsw
   clear hN0
   have hlw:w.heap.size≤lo:=by omega
   have rp2:p2 < lo:=by omega
   have uhi:hi≤W5_.heap.size:=by omega
   have rq5:q5 < lo∨hi≤q5:=Or.inl D23
   have rq6:q6 < lo∨hi≤q6:=Or.inl D23
   clear hlo hhi
   have hsz_:=hb.size
   replace b1:=qb b1 hb
   replace b2:=qb b2 hb
   replace b5:=qb b5 hb
   replace b6:=qb b6 hb
   replace HB:=pu HB hb
   replace hsw:w.heap.size≤W5_.heap.size:=by omega
   replace up2:p2 < W5_.heap.size:=by omega
   replace uq5:q5 < W5_.heap.size:=by omega
   replace uq6:q6 < W5_.heap.size:=by omega
   clear hb hsz_
   refine hK.out _ _ ((blk_cell b1 0).trans rfl) (fun hHeld=>?_)
   clear hK K
   refine norm_ (nA 15) ?_
   refine pure_ (i:=4) (N:=some 11) (v:=?_) (a':=?_) #[Y,Y,Y,Y,Y,Z,Z,Z,Y,Y,Z,Z,Z] rfl rfl D3 hh (Or.inl ⟨D35,?_⟩) ?_ ?_
   rotate_left
   ·intro w'
    go_simp
    with_reducible rfl
   rotate_left
   ·simp only [Act.put,q1,q2,q3,i64_w,i32_w]
    rfl
   refine pure_ (i:=5) (N:=some 16) (v:=?_) (a':=?_) #[Y,Y,Y,Y,Y,Y,Z,Z,Y,Y,Z,Z,Z] rfl rfl D3 hh (Or.inl ⟨D35,?_⟩) ?_ ?_
   rotate_left
   ·intro w'
    go_simp
    with_reducible rfl
   rotate_left
   ·simp only [Act.put,q1,q2,q3,i64_w,i32_w]
    rfl
   refine pure_ (i:=6) (N:=some 17) (v:=?_) (a':=?_) #[Y,Y,Y,Y,Y,Y,Y,Z,Y,Y,Z,Z,Z] rfl rfl D3 hh (Or.inl ⟨D35,?_⟩) ?_ ?_
   rotate_left
   ·intro w'
    go_simp
    with_reducible rfl
   rotate_left
   ·simp only [Act.put,q1,q2,q3,i64_w,i32_w]
    rfl
   refine pure_ (i:=7) (N:=some 18) (v:=?_) (a':=?_) #[Y,Y,Y,Y,Y,Y,Y,Y,Y,Y,Z,Z,Z] rfl rfl D3 hh (Or.inl ⟨D35,?_⟩) ?_ ?_
   rotate_left
   ·intro w'
    go_simp
    with_reducible rfl
   rotate_left
   ·simp only [Act.put,q1,q2,q3,i64_w,i32_w]
    rfl
   refine norm_ ?_ (hcont (q5,q6,(A14,c14),(A5,n5,c5),(A6,n6,c6)) _ ⟨HB,b2,b5,b6,hne,lq5,lq6,lo,hi,hN,rq5,rq6,rp2,hlw,np25,np26⟩)
   first|(simp only [putAll,Act.put,q1,q2,q3];done)|rfl|(simp only [putAll,Act.put,q1,q2,q3];rfl)
  ·skip
   refine value_ (v:=.pointer (some ⟨W1.heap.size,0,none⟩)) (w1:=W1.alloc (.cells #[.slice none 0 0] 43 (0,0))) D35 rfl ?_ ?_
   ·first|(go_simp;done)|(go_simp;rfl)
   have hq_:=Below.refl W1.heap.size W1
   have hal_:=pa hq_ (.cells #[.slice none 0 0] 43 (0,0))
   have b5:=heap_alloc_new W1 (.cells #[.slice none 0 0] 43 (0,0))
   have hsz_:(W1.alloc (.cells #[.slice none 0 0] 43 (0,0))).heap.size=W1.heap.size+1:=by simp
   replace b1:=qa b1 (.cells #[.slice none 0 0] 43 (0,0))
   replace b2:=qa b2 (.cells #[.slice none 0 0] 43 (0,0))
   replace HB:=pa HB (.cells #[.slice none 0 0] 43 (0,0))
   generalize W1.alloc (.cells #[.slice none 0 0] 43 (0,0))=W2_ at *
   obtain ⟨q5,hq5⟩:∃ q5,q5=W1.heap.size:=⟨_,rfl⟩
   rw [← hq5] at b5 ⊢
   have lq5:w.heap.size≤q5:=by omega
   have np25:p2 ≠ q5:=by omega
   have uq5:q5 < W2_.heap.size:=by omega
   replace hsw:w.heap.size≤W2_.heap.size:=by omega
   replace up2:p2 < W2_.heap.size:=by omega
   clear hq_ hal_ hsz_ hq5
   refine hK.out _ _ ((blk_cell b1 0).trans rfl) (fun hHeld=>?_)
   clear hK K
   refine norm_ (nA 5) ?_
   refine two_ (i:=2) (j:=9) (Ni:=some 14) (Nj:=some 6) #[Y,Y,Y,Z,Z,Z,Z,Z,Y,Z,Z,Z,Z] #[Y,Y,Z,Z,Z,Z,Z,Z,Y,Y,Z,Z,Z] rfl rfl rfl rfl D3 D24 D24 (fun K hK=>?_) (fun K hK=>?_)
   ·skip
    refine goes_ Try.func176 D3 rfl #[.int .i64 n] D35 rfl rfl D47 ?_
    refine (spec_l2Identity.calls kI (n:Int) (idM n) _ HI.out).mono ?_
    rintro e W3_ ⟨v14,rfl,ho,hb⟩
    refine ⟨_,rfl,?_⟩
    obtain ⟨A14,c14,e14⟩:=Kd.S_slice ho
    rw [idM_length] at e14
    subst e14
    have hI:=(Kd.S_reads' ho).2.2
    have hIc:=(Kd.S_reads' ho).2.1
    clear ho
    have hsz_:=hb.size
    replace b1:=qb b1 hb
    replace b2:=qb b2 hb
    replace b5:=qb b5 hb
    replace HB:=pu HB hb
    replace hsw:w.heap.size≤W3_.heap.size:=by omega
    replace up2:p2 < W3_.heap.size:=by omega
    replace uq5:q5 < W3_.heap.size:=by omega
    clear hb hsz_
    refine hK.out _ _ ((blk_cell b1 0).trans rfl) (fun hHeld=>?_)
    clear hK K
    refine norm_ (nA 14) ?_
    refine two_ (i:=3) (j:=9) (Ni:=some 15) (Nj:=some 6) #[Y,Y,Y,Y,Z,Z,Z,Z,Y,Z,Z,Z,Z] #[Y,Y,Y,Z,Z,Z,Z,Z,Y,Y,Z,Z,Z] rfl rfl rfl rfl D3 D24 D24 (fun K hK=>?_) (fun K hK=>?_)
    ·skip
     refine goes_ Try.func175 D3 rfl #[.agg #[.slice A0 n c0], .agg #[.slice A14 n c14]] D35 rfl rfl D47 ?_
     have hc:=spec_l2Reduce.calls A0 c0 l0 A14 c14 (idM n) n n W3_ (Kd.C_below HR0.out HB) D79 hI D80 HOK.out (idM_ok n) D78 D77 D68 hn2 hn2
     rw [← HN.out,idM_length,← HZ.out,← HD.out] at hc
     refine hc.mono ?_
     clear hc
     rintro e W4_ ⟨A5,n5,c5,v1,rfl,hN0,hb⟩
     refine ⟨_,rfl,?_⟩
     obtain ⟨A6,c6,e6⟩:=Kd.N_slice hN0
     generalize hn6:D.length=n6 at e6
     subst e6
     obtain ⟨lo,hlo⟩:∃ z,z=W3_.heap.size:=⟨_,rfl⟩
     obtain ⟨hi,hhi⟩:∃ z,z=W4_.heap.size:=⟨_,rfl⟩
     have hN:=Kd.N_lower (Kd.N_mono (Kd.N_bound hN0) (ok':=fun b=>lo≤b∧b < hi) (fun b hk=>⟨D139,D138⟩)) hsw
     clear hN0
     have hlw:w.heap.size≤lo:=by omega
     have rp2:p2 < lo:=by omega
     have uhi:hi≤W4_.heap.size:=by omega
     have rq5:q5 < lo∨hi≤q5:=Or.inl D23
     clear hlo hhi
     have hsz_:=hb.size
     replace b1:=qb b1 hb
     replace b2:=qb b2 hb
     replace b5:=qb b5 hb
     replace HB:=pu HB hb
     replace hsw:w.heap.size≤W4_.heap.size:=by omega
     replace up2:p2 < W4_.heap.size:=by omega
     replace uq5:q5 < W4_.heap.size:=by omega
     clear hb hsz_
     refine hK.out _ _ ((blk_cell b1 0).trans rfl) (fun hHeld=>?_)
     clear hK K
     refine norm_ (nA 15) ?_
     refine pure_ (i:=4) (N:=some 11) (v:=?_) (a':=?_) #[Y,Y,Y,Y,Y,Z,Z,Z,Y,Z,Z,Z,Z] rfl rfl D3 hh (Or.inl ⟨D35,?_⟩) ?_ ?_
     rotate_left
     ·intro w'
      go_simp
      with_reducible rfl
     rotate_left
     ·simp only [Act.put,q1,q2,q3,i64_w,i32_w]
      rfl
     refine pure_ (i:=5) (N:=some 16) (v:=?_) (a':=?_) #[Y,Y,Y,Y,Y,Y,Z,Z,Y,Z,Z,Z,Z] rfl rfl D3 hh (Or.inl ⟨D35,?_⟩) ?_ ?_
     rotate_left
     ·intro w'
      go_simp
      with_reducible rfl
     rotate_left
     ·simp only [Act.put,q1,q2,q3,i64_w,i32_w]
      rfl
     refine pure_ (i:=6) (N:=some 17) (v:=?_) (a':=?_) #[Y,Y,Y,Y,Y,Y,Y,Z,Y,Z,Z,Z,Z] rfl rfl D3 hh (Or.inl ⟨D35,?_⟩) ?_ ?_
     rotate_left
     ·intro w'
      go_simp
      with_reducible rfl
     rotate_left
     ·simp only [Act.put,q1,q2,q3,i64_w,i32_w]
      rfl
     refine pure_ (i:=7) (N:=some 18) (v:=?_) (a':=?_) #[Y,Y,Y,Y,Y,Y,Y,Y,Y,Z,Z,Z,Z] rfl rfl D3 hh (Or.inl ⟨D35,?_⟩) ?_ ?_
     rotate_left
     ·intro w'
      go_simp
      with_reducible rfl
     rotate_left
     ·simp only [Act.put,q1,q2,q3,i64_w,i32_w]
      rfl
     refine one_ (i:=9) (N:=some 6) #[Y,Y,Y,Y,Y,Y,Y,Y,Y,Y,Z,Z,Z] rfl rfl D3 D24 (fun K hK=>?_)
     refine value_ (v:=.pointer (some ⟨W4_.heap.size,0,none⟩)) (w1:=W4_.alloc (.cells #[.slice none 0 0] 43 (0,0))) D35 rfl ?_ ?_
     ·first|(go_simp;done)|(go_simp;rfl)
     have hq_:=Below.refl W4_.heap.size W4_
     have hal_:=pa hq_ (.cells #[.slice none 0 0] 43 (0,0))
     have b6:=heap_alloc_new W4_ (.cells #[.slice none 0 0] 43 (0,0))
     have hsz_:(W4_.alloc (.cells #[.slice none 0 0] 43 (0,0))).heap.size=W4_.heap.size+1:=by simp
     replace b1:=qa b1 (.cells #[.slice none 0 0] 43 (0,0))
     replace b2:=qa b2 (.cells #[.slice none 0 0] 43 (0,0))
     replace b5:=qa b5 (.cells #[.slice none 0 0] 43 (0,0))
     replace HB:=pa HB (.cells #[.slice none 0 0] 43 (0,0))
     replace hN:=Kd.N_alloc hN (.cells #[.slice none 0 0] 43 (0,0))
     generalize W4_.alloc (.cells #[.slice none 0 0] 43 (0,0))=W5_ at *
     obtain ⟨q6,hq6⟩:∃ q6,q6=W4_.heap.size:=⟨_,rfl⟩
     rw [← hq6] at b6 ⊢
     have lq6:w.heap.size≤q6:=by omega
     have np26:p2 ≠ q6:=by omega
     have uq6:q6 < W5_.heap.size:=by omega
     have hne:q5 ≠ q6:=by omega
     replace uq5:q5 < W5_.heap.size:=by omega
     have rq6:q6 < lo∨hi≤q6:=Or.inr D23
     replace uhi:hi≤W5_.heap.size:=by omega
     replace hsw:w.heap.size≤W5_.heap.size:=by omega
     replace up2:p2 < W5_.heap.size:=by omega
     clear hq_ hal_ hsz_ hq6
     refine hK.out _ _ ((blk_cell b1 0).trans rfl) (fun hHeld=>?_)
     clear hK K
     refine norm_ (nA 6) ?_
     refine norm_ ?_ (hcont (q5,q6,(A14,c14),(A5,n5,c5),(A6,n6,c6)) _ ⟨HB,b2,b5,b6,hne,lq5,lq6,lo,hi,hN,rq5,rq6,rp2,hlw,np25,np26⟩)
     first|(simp only [putAll,Act.put,q1,q2,q3];done)|rfl|(simp only [putAll,Act.put,q1,q2,q3];rfl)
    skip
    refine value_ (v:=.pointer (some ⟨W3_.heap.size,0,none⟩)) (w1:=W3_.alloc (.cells #[.slice none 0 0] 43 (0,0))) D35 rfl ?_ ?_
    ·first|(go_simp;done)|(go_simp;rfl)
    have hq_:=Below.refl W3_.heap.size W3_
    have hal_:=pa hq_ (.cells #[.slice none 0 0] 43 (0,0))
    have b6:=heap_alloc_new W3_ (.cells #[.slice none 0 0] 43 (0,0))
    have hsz_:(W3_.alloc (.cells #[.slice none 0 0] 43 (0,0))).heap.size=W3_.heap.size+1:=by simp
    replace b1:=qa b1 (.cells #[.slice none 0 0] 43 (0,0))
    replace b2:=qa b2 (.cells #[.slice none 0 0] 43 (0,0))
    replace b5:=qa b5 (.cells #[.slice none 0 0] 43 (0,0))
    replace HB:=pa HB (.cells #[.slice none 0 0] 43 (0,0))
    replace hI:=Kd.C_alloc hI (.cells #[.slice none 0 0] 43 (0,0))
    generalize W3_.alloc (.cells #[.slice none 0 0] 43 (0,0))=W4_ at *
    obtain ⟨q6,hq6⟩:∃ q6,q6=W3_.heap.size:=⟨_,rfl⟩
    rw [← hq6] at b6 ⊢
    have lq6:w.heap.size≤q6:=by omega
    have np26:p2 ≠ q6:=by omega
    have uq6:q6 < W4_.heap.size:=by omega
    have hne:q5 ≠ q6:=by omega
    replace uq5:q5 < W4_.heap.size:=by omega
    replace hsw:w.heap.size≤W4_.heap.size:=by omega
    replace up2:p2 < W4_.heap.size:=by omega
    clear hq_ hal_ hsz_ hq6
    refine hK.out _ _ ((blk_cell b1 0).trans rfl) (fun hHeld=>?_)
    clear hK K
    refine norm_ (nA 6) ?_
    refine one_ (i:=3) (N:=some 15) #[Y,Y,Y,Y,Z,Z,Z,Z,Y,Y,Z,Z,Z] rfl rfl D3 D24 (fun K hK=>?_)
    refine goes_ Try.func175 D3 rfl #[.agg #[.slice A0 n c0], .agg #[.slice A14 n c14]] D35 rfl rfl D47 ?_
    have hc:=spec_l2Reduce.calls A0 c0 l0 A14 c14 (idM n) n n W4_ (Kd.C_below HR0.out HB) D79 hI D80 HOK.out (idM_ok n) D78 D77 D68 hn2 hn2
    rw [← HN.out,idM_length,← HZ.out,← HD.out] at hc
    refine hc.mono ?_
    clear hc
    rintro e W5_ ⟨A5,n5,c5,v1,rfl,hN0,hb⟩
    refine ⟨_,rfl,?_⟩
    obtain ⟨A6,c6,e6⟩:=Kd.N_slice hN0
    generalize hn6:D.length=n6 at e6
    subst e6
    obtain ⟨lo,hlo⟩:∃ z,z=W4_.heap.size:=⟨_,rfl⟩
    obtain ⟨hi,hhi⟩:∃ z,z=W5_.heap.size:=⟨_,rfl⟩
    have hN:=Kd.N_lower (Kd.N_mono (Kd.N_bound hN0) (ok':=fun b=>lo≤b∧b < hi) (fun b hk=>⟨D139,D138⟩)) hsw
    clear hN0
    have hlw:w.heap.size≤lo:=by omega
    have rp2:p2 < lo:=by omega
    have uhi:hi≤W5_.heap.size:=by omega
    have rq5:q5 < lo∨hi≤q5:=Or.inl D23
    have rq6:q6 < lo∨hi≤q6:=Or.inl D23
    clear hlo hhi
    have hsz_:=hb.size
    replace b1:=qb b1 hb
    replace b2:=qb b2 hb
    replace b5:=qb b5 hb
    replace b6:=qb b6 hb
    replace HB:=pu HB hb
    replace hsw:w.heap.size≤W5_.heap.size:=by omega
    replace up2:p2 < W5_.heap.size:=by omega
    replace uq5:q5 < W5_.heap.size:=by omega
    replace uq6:q6 < W5_.heap.size:=by omega
    clear hb hsz_
    refine hK.out _ _ ((blk_cell b1 0).trans rfl) (fun hHeld=>?_)
    clear hK K
    refine norm_ (nA 15) ?_
    refine pure_ (i:=4) (N:=some 11) (v:=?_) (a':=?_) #[Y,Y,Y,Y,Y,Z,Z,Z,Y,Y,Z,Z,Z] rfl rfl D3 hh (Or.inl ⟨D35,?_⟩) ?_ ?_
    rotate_left
    ·intro w'
     go_simp
     with_reducible rfl
    rotate_left
    ·simp only [Act.put,q1,q2,q3,i64_w,i32_w]
     rfl
    refine pure_ (i:=5) (N:=some 16) (v:=?_) (a':=?_) #[Y,Y,Y,Y,Y,Y,Z,Z,Y,Y,Z,Z,Z] rfl rfl D3 hh (Or.inl ⟨D35,?_⟩) ?_ ?_
    rotate_left
    ·intro w'
     go_simp
     with_reducible rfl
    rotate_left
    ·simp only [Act.put,q1,q2,q3,i64_w,i32_w]
     rfl
    refine pure_ (i:=6) (N:=some 17) (v:=?_) (a':=?_) #[Y,Y,Y,Y,Y,Y,Y,Z,Y,Y,Z,Z,Z] rfl rfl D3 hh (Or.inl ⟨D35,?_⟩) ?_ ?_
    rotate_left
    ·intro w'
     go_simp
     with_reducible rfl
    rotate_left
    ·simp only [Act.put,q1,q2,q3,i64_w,i32_w]
     rfl
    refine pure_ (i:=7) (N:=some 18) (v:=?_) (a':=?_) #[Y,Y,Y,Y,Y,Y,Y,Y,Y,Y,Z,Z,Z] rfl rfl D3 hh (Or.inl ⟨D35,?_⟩) ?_ ?_
    rotate_left
    ·intro w'
     go_simp
     with_reducible rfl
    rotate_left
    ·simp only [Act.put,q1,q2,q3,i64_w,i32_w]
     rfl
    refine norm_ ?_ (hcont (q5,q6,(A14,c14),(A5,n5,c5),(A6,n6,c6)) _ ⟨HB,b2,b5,b6,hne,lq5,lq6,lo,hi,hN,rq5,rq6,rp2,hlw,np25,np26⟩)
    first|(simp only [putAll,Act.put,q1,q2,q3];done)|rfl|(simp only [putAll,Act.put,q1,q2,q3];rfl)
   skip
   refine value_ (v:=.pointer (some ⟨W2_.heap.size,0,none⟩)) (w1:=W2_.alloc (.cells #[.slice none 0 0] 43 (0,0))) D35 rfl ?_ ?_
   ·first|(go_simp;done)|(go_simp;rfl)
   have hq_:=Below.refl W2_.heap.size W2_
   have hal_:=pa hq_ (.cells #[.slice none 0 0] 43 (0,0))
   have b6:=heap_alloc_new W2_ (.cells #[.slice none 0 0] 43 (0,0))
   have hsz_:(W2_.alloc (.cells #[.slice none 0 0] 43 (0,0))).heap.size=W2_.heap.size+1:=by simp
   replace b1:=qa b1 (.cells #[.slice none 0 0] 43 (0,0))
   replace b2:=qa b2 (.cells #[.slice none 0 0] 43 (0,0))
   replace b5:=qa b5 (.cells #[.slice none 0 0] 43 (0,0))
   replace HB:=pa HB (.cells #[.slice none 0 0] 43 (0,0))
   generalize W2_.alloc (.cells #[.slice none 0 0] 43 (0,0))=W3_ at *
   obtain ⟨q6,hq6⟩:∃ q6,q6=W2_.heap.size:=⟨_,rfl⟩
   rw [← hq6] at b6 ⊢
   have lq6:w.heap.size≤q6:=by omega
   have np26:p2 ≠ q6:=by omega
   have uq6:q6 < W3_.heap.size:=by omega
   have hne:q5 ≠ q6:=by omega
   replace uq5:q5 < W3_.heap.size:=by omega
   replace hsw:w.heap.size≤W3_.heap.size:=by omega
   replace up2:p2 < W3_.heap.size:=by omega
   clear hq_ hal_ hsz_ hq6
   refine hK.out _ _ ((blk_cell b1 0).trans rfl) (fun hHeld=>?_)
   clear hK K
   refine norm_ (nA 6) ?_
   refine one_ (i:=2) (N:=some 14) #[Y,Y,Y,Z,Z,Z,Z,Z,Y,Y,Z,Z,Z] rfl rfl D3 D24 (fun K hK=>?_)
   refine goes_ Try.func176 D3 rfl #[.int .i64 n] D35 rfl rfl D47 ?_
   refine (spec_l2Identity.calls kI (n:Int) (idM n) _ HI.out).mono ?_
   rintro e W4_ ⟨v14,rfl,ho,hb⟩
   refine ⟨_,rfl,?_⟩
   obtain ⟨A14,c14,e14⟩:=Kd.S_slice ho
   rw [idM_length] at e14
   subst e14
   have hI:=(Kd.S_reads' ho).2.2
   have hIc:=(Kd.S_reads' ho).2.1
   clear ho
   have hsz_:=hb.size
   replace b1:=qb b1 hb
   replace b2:=qb b2 hb
   replace b5:=qb b5 hb
   replace b6:=qb b6 hb
   replace HB:=pu HB hb
   replace hsw:w.heap.size≤W4_.heap.size:=by omega
   replace up2:p2 < W4_.heap.size:=by omega
   replace uq5:q5 < W4_.heap.size:=by omega
   replace uq6:q6 < W4_.heap.size:=by omega
   clear hb hsz_
   refine hK.out _ _ ((blk_cell b1 0).trans rfl) (fun hHeld=>?_)
   clear hK K
   refine norm_ (nA 14) ?_
   refine one_ (i:=3) (N:=some 15) #[Y,Y,Y,Y,Z,Z,Z,Z,Y,Y,Z,Z,Z] rfl rfl D3 D24 (fun K hK=>?_)
   refine goes_ Try.func175 D3 rfl #[.agg #[.slice A0 n c0], .agg #[.slice A14 n c14]] D35 rfl rfl D47 ?_
   have hc:=spec_l2Reduce.calls A0 c0 l0 A14 c14 (idM n) n n W4_ (Kd.C_below HR0.out HB) D79 hI D80 HOK.out (idM_ok n) D78 D77 D68 hn2 hn2
   rw [← HN.out,idM_length,← HZ.out,← HD.out] at hc
   refine hc.mono ?_
   clear hc
   rintro e W5_ ⟨A5,n5,c5,v1,rfl,hN0,hb⟩
   refine ⟨_,rfl,?_⟩
   obtain ⟨A6,c6,e6⟩:=Kd.N_slice hN0
   generalize hn6:D.length=n6 at e6
   subst e6
   obtain ⟨lo,hlo⟩:∃ z,z=W4_.heap.size:=⟨_,rfl⟩
   obtain ⟨hi,hhi⟩:∃ z,z=W5_.heap.size:=⟨_,rfl⟩
   have hN:=Kd.N_lower (Kd.N_mono (Kd.N_bound hN0) (ok':=fun b=>lo≤b∧b < hi) (fun b hk=>⟨D139,D138⟩)) hsw
   clear hN0
   have hlw:w.heap.size≤lo:=by omega
   have rp2:p2 < lo:=by omega
   have uhi:hi≤W5_.heap.size:=by omega
   have rq5:q5 < lo∨hi≤q5:=Or.inl D23
   have rq6:q6 < lo∨hi≤q6:=Or.inl D23
   clear hlo hhi
   have hsz_:=hb.size
   replace b1:=qb b1 hb
   replace b2:=qb b2 hb
   replace b5:=qb b5 hb
   replace b6:=qb b6 hb
   replace HB:=pu HB hb
   replace hsw:w.heap.size≤W5_.heap.size:=by omega
   replace up2:p2 < W5_.heap.size:=by omega
   replace uq5:q5 < W5_.heap.size:=by omega
   replace uq6:q6 < W5_.heap.size:=by omega
   clear hb hsz_
   refine hK.out _ _ ((blk_cell b1 0).trans rfl) (fun hHeld=>?_)
   clear hK K
   refine norm_ (nA 15) ?_
   refine pure_ (i:=4) (N:=some 11) (v:=?_) (a':=?_) #[Y,Y,Y,Y,Y,Z,Z,Z,Y,Y,Z,Z,Z] rfl rfl D3 hh (Or.inl ⟨D35,?_⟩) ?_ ?_
   rotate_left
   ·intro w'
    go_simp
    with_reducible rfl
   rotate_left
   ·simp only [Act.put,q1,q2,q3,i64_w,i32_w]
    rfl
   refine pure_ (i:=5) (N:=some 16) (v:=?_) (a':=?_) #[Y,Y,Y,Y,Y,Y,Z,Z,Y,Y,Z,Z,Z] rfl rfl D3 hh (Or.inl ⟨D35,?_⟩) ?_ ?_
   rotate_left
   ·intro w'
    go_simp
    with_reducible rfl
   rotate_left
   ·simp only [Act.put,q1,q2,q3,i64_w,i32_w]
    rfl
   refine pure_ (i:=6) (N:=some 17) (v:=?_) (a':=?_) #[Y,Y,Y,Y,Y,Y,Y,Z,Y,Y,Z,Z,Z] rfl rfl D3 hh (Or.inl ⟨D35,?_⟩) ?_ ?_
   rotate_left
   ·intro w'
    go_simp
    with_reducible rfl
   rotate_left
   ·simp only [Act.put,q1,q2,q3,i64_w,i32_w]
    rfl
   refine pure_ (i:=7) (N:=some 18) (v:=?_) (a':=?_) #[Y,Y,Y,Y,Y,Y,Y,Y,Y,Y,Z,Z,Z] rfl rfl D3 hh (Or.inl ⟨D35,?_⟩) ?_ ?_
   rotate_left
   ·intro w'
    go_simp
    with_reducible rfl
   rotate_left
   ·simp only [Act.put,q1,q2,q3,i64_w,i32_w]
    rfl
   refine norm_ ?_ (hcont (q5,q6,(A14,c14),(A5,n5,c5),(A6,n6,c6)) _ ⟨HB,b2,b5,b6,hne,lq5,lq6,lo,hi,hN,rq5,rq6,rp2,hlw,np25,np26⟩)
   first|(simp only [putAll,Act.put,q1,q2,q3];done)|rfl|(simp only [putAll,Act.put,q1,q2,q3];rfl)
  skip
  refine value_ (v:=.pointer (some ⟨W1.heap.size,0,none⟩)) (w1:=W1.alloc (.cells #[.slice none 0 0] 43 (0,0))) D35 rfl ?_ ?_
  ·first|(go_simp;done)|(go_simp;rfl)
  have hq_:=Below.refl W1.heap.size W1
  have hal_:=pa hq_ (.cells #[.slice none 0 0] 43 (0,0))
  have b6:=heap_alloc_new W1 (.cells #[.slice none 0 0] 43 (0,0))
  have hsz_:(W1.alloc (.cells #[.slice none 0 0] 43 (0,0))).heap.size=W1.heap.size+1:=by simp
  replace b1:=qa b1 (.cells #[.slice none 0 0] 43 (0,0))
  replace b2:=qa b2 (.cells #[.slice none 0 0] 43 (0,0))
  replace HB:=pa HB (.cells #[.slice none 0 0] 43 (0,0))
  generalize W1.alloc (.cells #[.slice none 0 0] 43 (0,0))=W2_ at *
  obtain ⟨q6,hq6⟩:∃ q6,q6=W1.heap.size:=⟨_,rfl⟩
  rw [← hq6] at b6 ⊢
  have lq6:w.heap.size≤q6:=by omega
  have np26:p2 ≠ q6:=by omega
  have uq6:q6 < W2_.heap.size:=by omega
  replace hsw:w.heap.size≤W2_.heap.size:=by omega
  replace up2:p2 < W2_.heap.size:=by omega
  clear hq_ hal_ hsz_ hq6
  refine hK.out _ _ ((blk_cell b1 0).trans rfl) (fun hHeld=>?_)
  clear hK K
  refine norm_ (nA 6) ?_
  refine two_ (i:=2) (j:=8) (Ni:=some 14) (Nj:=some 5) #[Y,Y,Y,Z,Z,Z,Z,Z,Z,Y,Z,Z,Z] #[Y,Y,Z,Z,Z,Z,Z,Z,Y,Y,Z,Z,Z] rfl rfl rfl rfl D3 D24 D24 (fun K hK=>?_) (fun K hK=>?_)
  ·skip
   refine goes_ Try.func176 D3 rfl #[.int .i64 n] D35 rfl rfl D47 ?_
   refine (spec_l2Identity.calls kI (n:Int) (idM n) _ HI.out).mono ?_
   rintro e W3_ ⟨v14,rfl,ho,hb⟩
   refine ⟨_,rfl,?_⟩
   obtain ⟨A14,c14,e14⟩:=Kd.S_slice ho
   rw [idM_length] at e14
   subst e14
   have hI:=(Kd.S_reads' ho).2.2
   have hIc:=(Kd.S_reads' ho).2.1
   clear ho
   have hsz_:=hb.size
   replace b1:=qb b1 hb
   replace b2:=qb b2 hb
   replace b6:=qb b6 hb
   replace HB:=pu HB hb
   replace hsw:w.heap.size≤W3_.heap.size:=by omega
   replace up2:p2 < W3_.heap.size:=by omega
   replace uq6:q6 < W3_.heap.size:=by omega
   clear hb hsz_
   refine hK.out _ _ ((blk_cell b1 0).trans rfl) (fun hHeld=>?_)
   clear hK K
   refine norm_ (nA 14) ?_
   refine two_ (i:=3) (j:=8) (Ni:=some 15) (Nj:=some 5) #[Y,Y,Y,Y,Z,Z,Z,Z,Z,Y,Z,Z,Z] #[Y,Y,Y,Z,Z,Z,Z,Z,Y,Y,Z,Z,Z] rfl rfl rfl rfl D3 D24 D24 (fun K hK=>?_) (fun K hK=>?_)
   ·skip
    refine goes_ Try.func175 D3 rfl #[.agg #[.slice A0 n c0], .agg #[.slice A14 n c14]] D35 rfl rfl D47 ?_
    have hc:=spec_l2Reduce.calls A0 c0 l0 A14 c14 (idM n) n n W3_ (Kd.C_below HR0.out HB) D79 hI D80 HOK.out (idM_ok n) D78 D77 D68 hn2 hn2
    rw [← HN.out,idM_length,← HZ.out,← HD.out] at hc
    refine hc.mono ?_
    clear hc
    rintro e W4_ ⟨A5,n5,c5,v1,rfl,hN0,hb⟩
    refine ⟨_,rfl,?_⟩
    obtain ⟨A6,c6,e6⟩:=Kd.N_slice hN0
    generalize hn6:D.length=n6 at e6
    subst e6
    obtain ⟨lo,hlo⟩:∃ z,z=W3_.heap.size:=⟨_,rfl⟩
    obtain ⟨hi,hhi⟩:∃ z,z=W4_.heap.size:=⟨_,rfl⟩
    have hN:=Kd.N_lower (Kd.N_mono (Kd.N_bound hN0) (ok':=fun b=>lo≤b∧b < hi) (fun b hk=>⟨D139,D138⟩)) hsw
    clear hN0
    have hlw:w.heap.size≤lo:=by omega
    have rp2:p2 < lo:=by omega
    have uhi:hi≤W4_.heap.size:=by omega
    have rq6:q6 < lo∨hi≤q6:=Or.inl D23
    clear hlo hhi
    have hsz_:=hb.size
    replace b1:=qb b1 hb
    replace b2:=qb b2 hb
    replace b6:=qb b6 hb
    replace HB:=pu HB hb
    replace hsw:w.heap.size≤W4_.heap.size:=by omega
    replace up2:p2 < W4_.heap.size:=by omega
    replace uq6:q6 < W4_.heap.size:=by omega
    clear hb hsz_
    refine hK.out _ _ ((blk_cell b1 0).trans rfl) (fun hHeld=>?_)
    clear hK K
    refine norm_ (nA 15) ?_
    refine pure_ (i:=4) (N:=some 11) (v:=?_) (a':=?_) #[Y,Y,Y,Y,Y,Z,Z,Z,Z,Y,Z,Z,Z] rfl rfl D3 hh (Or.inl ⟨D35,?_⟩) ?_ ?_
    rotate_left
    ·intro w'
     go_simp
     with_reducible rfl
    rotate_left
    ·simp only [Act.put,q1,q2,q3,i64_w,i32_w]
     rfl
    refine pure_ (i:=5) (N:=some 16) (v:=?_) (a':=?_) #[Y,Y,Y,Y,Y,Y,Z,Z,Z,Y,Z,Z,Z] rfl rfl D3 hh (Or.inl ⟨D35,?_⟩) ?_ ?_
    rotate_left
    ·intro w'
     go_simp
     with_reducible rfl
    rotate_left
    ·simp only [Act.put,q1,q2,q3,i64_w,i32_w]
     rfl
    refine pure_ (i:=6) (N:=some 17) (v:=?_) (a':=?_) #[Y,Y,Y,Y,Y,Y,Y,Z,Z,Y,Z,Z,Z] rfl rfl D3 hh (Or.inl ⟨D35,?_⟩) ?_ ?_
    rotate_left
    ·intro w'
     go_simp
     with_reducible rfl
    rotate_left
    ·simp only [Act.put,q1,q2,q3,i64_w,i32_w]
     rfl
    refine pure_ (i:=7) (N:=some 18) (v:=?_) (a':=?_) #[Y,Y,Y,Y,Y,Y,Y,Y,Z,Y,Z,Z,Z] rfl rfl D3 hh (Or.inl ⟨D35,?_⟩) ?_ ?_
    rotate_left
    ·intro w'
     go_simp
     with_reducible rfl
    rotate_left
    ·simp only [Act.put,q1,q2,q3,i64_w,i32_w]
     rfl
    refine one_ (i:=8) (N:=some 5) #[Y,Y,Y,Y,Y,Y,Y,Y,Y,Y,Z,Z,Z] rfl rfl D3 D24 (fun K hK=>?_)
    refine value_ (v:=.pointer (some ⟨W4_.heap.size,0,none⟩)) (w1:=W4_.alloc (.cells #[.slice none 0 0] 43 (0,0))) D35 rfl ?_ ?_
    ·first|(go_simp;done)|(go_simp;rfl)
    have hq_:=Below.refl W4_.heap.size W4_
    have hal_:=pa hq_ (.cells #[.slice none 0 0] 43 (0,0))
    have b5:=heap_alloc_new W4_ (.cells #[.slice none 0 0] 43 (0,0))
    have hsz_:(W4_.alloc (.cells #[.slice none 0 0] 43 (0,0))).heap.size=W4_.heap.size+1:=by simp
    replace b1:=qa b1 (.cells #[.slice none 0 0] 43 (0,0))
    replace b2:=qa b2 (.cells #[.slice none 0 0] 43 (0,0))
    replace b6:=qa b6 (.cells #[.slice none 0 0] 43 (0,0))
    replace HB:=pa HB (.cells #[.slice none 0 0] 43 (0,0))
    replace hN:=Kd.N_alloc hN (.cells #[.slice none 0 0] 43 (0,0))
    generalize W4_.alloc (.cells #[.slice none 0 0] 43 (0,0))=W5_ at *
    obtain ⟨q5,hq5⟩:∃ q5,q5=W4_.heap.size:=⟨_,rfl⟩
    rw [← hq5] at b5 ⊢
    have lq5:w.heap.size≤q5:=by omega
    have np25:p2 ≠ q5:=by omega
    have uq5:q5 < W5_.heap.size:=by omega
    have hne:q5 ≠ q6:=by omega
    replace uq6:q6 < W5_.heap.size:=by omega
    have rq5:q5 < lo∨hi≤q5:=Or.inr D23
    replace uhi:hi≤W5_.heap.size:=by omega
    replace hsw:w.heap.size≤W5_.heap.size:=by omega
    replace up2:p2 < W5_.heap.size:=by omega
    clear hq_ hal_ hsz_ hq5
    refine hK.out _ _ ((blk_cell b1 0).trans rfl) (fun hHeld=>?_)
    clear hK K
    refine norm_ (nA 5) ?_
    refine norm_ ?_ (hcont (q5,q6,(A14,c14),(A5,n5,c5),(A6,n6,c6)) _ ⟨HB,b2,b5,b6,hne,lq5,lq6,lo,hi,hN,rq5,rq6,rp2,hlw,np25,np26⟩)
    first|(simp only [putAll,Act.put,q1,q2,q3];done)|rfl|(simp only [putAll,Act.put,q1,q2,q3];rfl)
   skip
   refine value_ (v:=.pointer (some ⟨W3_.heap.size,0,none⟩)) (w1:=W3_.alloc (.cells #[.slice none 0 0] 43 (0,0))) D35 rfl ?_ ?_
   ·first|(go_simp;done)|(go_simp;rfl)
   have hq_:=Below.refl W3_.heap.size W3_
   have hal_:=pa hq_ (.cells #[.slice none 0 0] 43 (0,0))
   have b5:=heap_alloc_new W3_ (.cells #[.slice none 0 0] 43 (0,0))
   have hsz_:(W3_.alloc (.cells #[.slice none 0 0] 43 (0,0))).heap.size=W3_.heap.size+1:=by simp
   replace b1:=qa b1 (.cells #[.slice none 0 0] 43 (0,0))
   replace b2:=qa b2 (.cells #[.slice none 0 0] 43 (0,0))
   replace b6:=qa b6 (.cells #[.slice none 0 0] 43 (0,0))
   replace HB:=pa HB (.cells #[.slice none 0 0] 43 (0,0))
   replace hI:=Kd.C_alloc hI (.cells #[.slice none 0 0] 43 (0,0))
   generalize W3_.alloc (.cells #[.slice none 0 0] 43 (0,0))=W4_ at *
   obtain ⟨q5,hq5⟩:∃ q5,q5=W3_.heap.size:=⟨_,rfl⟩
   rw [← hq5] at b5 ⊢
   have lq5:w.heap.size≤q5:=by omega
   have np25:p2 ≠ q5:=by omega
   have uq5:q5 < W4_.heap.size:=by omega
   have hne:q5 ≠ q6:=by omega
   replace uq6:q6 < W4_.heap.size:=by omega
   replace hsw:w.heap.size≤W4_.heap.size:=by omega
   replace up2:p2 < W4_.heap.size:=by omega
   clear hq_ hal_ hsz_ hq5
   refine hK.out _ _ ((blk_cell b1 0).trans rfl) (fun hHeld=>?_)
   clear hK K
   refine norm_ (nA 5) ?_
   refine one_ (i:=3) (N:=some 15) #[Y,Y,Y,Y,Z,Z,Z,Z,Y,Y,Z,Z,Z] rfl rfl D3 D24 (fun K hK=>?_)
   refine goes_ Try.func175 D3 rfl #[.agg #[.slice A0 n c0], .agg #[.slice A14 n c14]] D35 rfl rfl D47 ?_
   have hc:=spec_l2Reduce.calls A0 c0 l0 A14 c14 (idM n) n n W4_ (Kd.C_below HR0.out HB) D79 hI D80 HOK.out (idM_ok n) D78 D77 D68 hn2 hn2
   rw [← HN.out,idM_length,← HZ.out,← HD.out] at hc
   refine hc.mono ?_
   clear hc
   rintro e W5_ ⟨A5,n5,c5,v1,rfl,hN0,hb⟩
   refine ⟨_,rfl,?_⟩
   obtain ⟨A6,c6,e6⟩:=Kd.N_slice hN0
   generalize hn6:D.length=n6 at e6
   subst e6
   obtain ⟨lo,hlo⟩:∃ z,z=W4_.heap.size:=⟨_,rfl⟩
   obtain ⟨hi,hhi⟩:∃ z,z=W5_.heap.size:=⟨_,rfl⟩
   have hN:=Kd.N_lower (Kd.N_mono (Kd.N_bound hN0) (ok':=fun b=>lo≤b∧b < hi) (fun b hk=>⟨D139,D138⟩)) hsw
   clear hN0
   have hlw:w.heap.size≤lo:=by omega
   have rp2:p2 < lo:=by omega
   have uhi:hi≤W5_.heap.size:=by omega
   have rq5:q5 < lo∨hi≤q5:=Or.inl D23
   have rq6:q6 < lo∨hi≤q6:=Or.inl D23
   clear hlo hhi
   have hsz_:=hb.size
   replace b1:=qb b1 hb
   replace b2:=qb b2 hb
   replace b5:=qb b5 hb
   replace b6:=qb b6 hb
   replace HB:=pu HB hb
   replace hsw:w.heap.size≤W5_.heap.size:=by omega
   replace up2:p2 < W5_.heap.size:=by omega
   replace uq5:q5 < W5_.heap.size:=by omega
   replace uq6:q6 < W5_.heap.size:=by omega
   clear hb hsz_
   refine hK.out _ _ ((blk_cell b1 0).trans rfl) (fun hHeld=>?_)
   clear hK K
   refine norm_ (nA 15) ?_
   refine pure_ (i:=4) (N:=some 11) (v:=?_) (a':=?_) #[Y,Y,Y,Y,Y,Z,Z,Z,Y,Y,Z,Z,Z] rfl rfl D3 hh (Or.inl ⟨D35,?_⟩) ?_ ?_
   rotate_left
   ·intro w'
    go_simp
    with_reducible rfl
   rotate_left
   ·simp only [Act.put,q1,q2,q3,i64_w,i32_w]
    rfl
   refine pure_ (i:=5) (N:=some 16) (v:=?_) (a':=?_) #[Y,Y,Y,Y,Y,Y,Z,Z,Y,Y,Z,Z,Z] rfl rfl D3 hh (Or.inl ⟨D35,?_⟩) ?_ ?_
   rotate_left
   ·intro w'
    go_simp
    with_reducible rfl
   rotate_left
   ·simp only [Act.put,q1,q2,q3,i64_w,i32_w]
    rfl
   refine pure_ (i:=6) (N:=some 17) (v:=?_) (a':=?_) #[Y,Y,Y,Y,Y,Y,Y,Z,Y,Y,Z,Z,Z] rfl rfl D3 hh (Or.inl ⟨D35,?_⟩) ?_ ?_
   rotate_left
   ·intro w'
    go_simp
    with_reducible rfl
   rotate_left
   ·simp only [Act.put,q1,q2,q3,i64_w,i32_w]
    rfl
   refine pure_ (i:=7) (N:=some 18) (v:=?_) (a':=?_) #[Y,Y,Y,Y,Y,Y,Y,Y,Y,Y,Z,Z,Z] rfl rfl D3 hh (Or.inl ⟨D35,?_⟩) ?_ ?_
   rotate_left
   ·intro w'
    go_simp
    with_reducible rfl
   rotate_left
   ·simp only [Act.put,q1,q2,q3,i64_w,i32_w]
    rfl
   refine norm_ ?_ (hcont (q5,q6,(A14,c14),(A5,n5,c5),(A6,n6,c6)) _ ⟨HB,b2,b5,b6,hne,lq5,lq6,lo,hi,hN,rq5,rq6,rp2,hlw,np25,np26⟩)
   first|(simp only [putAll,Act.put,q1,q2,q3];done)|rfl|(simp only [putAll,Act.put,q1,q2,q3];rfl)
  skip
  refine value_ (v:=.pointer (some ⟨W2_.heap.size,0,none⟩)) (w1:=W2_.alloc (.cells #[.slice none 0 0] 43 (0,0))) D35 rfl ?_ ?_
  ·first|(go_simp;done)|(go_simp;rfl)
  have hq_:=Below.refl W2_.heap.size W2_
  have hal_:=pa hq_ (.cells #[.slice none 0 0] 43 (0,0))
  have b5:=heap_alloc_new W2_ (.cells #[.slice none 0 0] 43 (0,0))
  have hsz_:(W2_.alloc (.cells #[.slice none 0 0] 43 (0,0))).heap.size=W2_.heap.size+1:=by simp
  replace b1:=qa b1 (.cells #[.slice none 0 0] 43 (0,0))
  replace b2:=qa b2 (.cells #[.slice none 0 0] 43 (0,0))
  replace b6:=qa b6 (.cells #[.slice none 0 0] 43 (0,0))
  replace HB:=pa HB (.cells #[.slice none 0 0] 43 (0,0))
  generalize W2_.alloc (.cells #[.slice none 0 0] 43 (0,0))=W3_ at *
  obtain ⟨q5,hq5⟩:∃ q5,q5=W2_.heap.size:=⟨_,rfl⟩
  rw [← hq5] at b5 ⊢
  have lq5:w.heap.size≤q5:=by omega
  have np25:p2 ≠ q5:=by omega
  have uq5:q5 < W3_.heap.size:=by omega
  have hne:q5 ≠ q6:=by omega
  replace uq6:q6 < W3_.heap.size:=by omega
  replace hsw:w.heap.size≤W3_.heap.size:=by omega
  replace up2:p2 < W3_.heap.size:=by omega
  clear hq_ hal_ hsz_ hq5
  refine hK.out _ _ ((blk_cell b1 0).trans rfl) (fun hHeld=>?_)
  clear hK K
  refine norm_ (nA 5) ?_
  refine one_ (i:=2) (N:=some 14) #[Y,Y,Y,Z,Z,Z,Z,Z,Y,Y,Z,Z,Z] rfl rfl D3 D24 (fun K hK=>?_)
  refine goes_ Try.func176 D3 rfl #[.int .i64 n] D35 rfl rfl D47 ?_
  refine (spec_l2Identity.calls kI (n:Int) (idM n) _ HI.out).mono ?_
  rintro e W4_ ⟨v14,rfl,ho,hb⟩
  refine ⟨_,rfl,?_⟩
  obtain ⟨A14,c14,e14⟩:=Kd.S_slice ho
  rw [idM_length] at e14
  subst e14
  have hI:=(Kd.S_reads' ho).2.2
  have hIc:=(Kd.S_reads' ho).2.1
  clear ho
  have hsz_:=hb.size
  replace b1:=qb b1 hb
  replace b2:=qb b2 hb
  replace b5:=qb b5 hb
  replace b6:=qb b6 hb
  replace HB:=pu HB hb
  replace hsw:w.heap.size≤W4_.heap.size:=by omega
  replace up2:p2 < W4_.heap.size:=by omega
  replace uq5:q5 < W4_.heap.size:=by omega
  replace uq6:q6 < W4_.heap.size:=by omega
  clear hb hsz_
  refine hK.out _ _ ((blk_cell b1 0).trans rfl) (fun hHeld=>?_)
  clear hK K
  refine norm_ (nA 14) ?_
  refine one_ (i:=3) (N:=some 15) #[Y,Y,Y,Y,Z,Z,Z,Z,Y,Y,Z,Z,Z] rfl rfl D3 D24 (fun K hK=>?_)
  refine goes_ Try.func175 D3 rfl #[.agg #[.slice A0 n c0], .agg #[.slice A14 n c14]] D35 rfl rfl D47 ?_
  have hc:=spec_l2Reduce.calls A0 c0 l0 A14 c14 (idM n) n n W4_ (Kd.C_below HR0.out HB) D79 hI D80 HOK.out (idM_ok n) D78 D77 D68 hn2 hn2
  rw [← HN.out,idM_length,← HZ.out,← HD.out] at hc
  refine hc.mono ?_
  clear hc
  rintro e W5_ ⟨A5,n5,c5,v1,rfl,hN0,hb⟩
  refine ⟨_,rfl,?_⟩
  obtain ⟨A6,c6,e6⟩:=Kd.N_slice hN0
  generalize hn6:D.length=n6 at e6
  subst e6
  obtain ⟨lo,hlo⟩:∃ z,z=W4_.heap.size:=⟨_,rfl⟩
  obtain ⟨hi,hhi⟩:∃ z,z=W5_.heap.size:=⟨_,rfl⟩
  have hN:=Kd.N_lower (Kd.N_mono (Kd.N_bound hN0) (ok':=fun b=>lo≤b∧b < hi) (fun b hk=>⟨D139,D138⟩)) hsw
  clear hN0
  have hlw:w.heap.size≤lo:=by omega
  have rp2:p2 < lo:=by omega
  have uhi:hi≤W5_.heap.size:=by omega
  have rq5:q5 < lo∨hi≤q5:=Or.inl D23
  have rq6:q6 < lo∨hi≤q6:=Or.inl D23
  clear hlo hhi
  have hsz_:=hb.size
  replace b1:=qb b1 hb
  replace b2:=qb b2 hb
  replace b5:=qb b5 hb
  replace b6:=qb b6 hb
  replace HB:=pu HB hb
  replace hsw:w.heap.size≤W5_.heap.size:=by omega
  replace up2:p2 < W5_.heap.size:=by omega
  replace uq5:q5 < W5_.heap.size:=by omega
  replace uq6:q6 < W5_.heap.size:=by omega
  clear hb hsz_
  refine hK.out _ _ ((blk_cell b1 0).trans rfl) (fun hHeld=>?_)
  clear hK K
  refine norm_ (nA 15) ?_
  refine pure_ (i:=4) (N:=some 11) (v:=?_) (a':=?_) #[Y,Y,Y,Y,Y,Z,Z,Z,Y,Y,Z,Z,Z] rfl rfl D3 hh (Or.inl ⟨D35,?_⟩) ?_ ?_
  rotate_left
  ·intro w'
   go_simp
   with_reducible rfl
  rotate_left
  ·simp only [Act.put,q1,q2,q3,i64_w,i32_w]
   rfl
  refine pure_ (i:=5) (N:=some 16) (v:=?_) (a':=?_) #[Y,Y,Y,Y,Y,Y,Z,Z,Y,Y,Z,Z,Z] rfl rfl D3 hh (Or.inl ⟨D35,?_⟩) ?_ ?_
  rotate_left
  ·intro w'
   go_simp
   with_reducible rfl
  rotate_left
  ·simp only [Act.put,q1,q2,q3,i64_w,i32_w]
   rfl
  refine pure_ (i:=6) (N:=some 17) (v:=?_) (a':=?_) #[Y,Y,Y,Y,Y,Y,Y,Z,Y,Y,Z,Z,Z] rfl rfl D3 hh (Or.inl ⟨D35,?_⟩) ?_ ?_
  rotate_left
  ·intro w'
   go_simp
   with_reducible rfl
  rotate_left
  ·simp only [Act.put,q1,q2,q3,i64_w,i32_w]
   rfl
  refine pure_ (i:=7) (N:=some 18) (v:=?_) (a':=?_) #[Y,Y,Y,Y,Y,Y,Y,Y,Y,Y,Z,Z,Z] rfl rfl D3 hh (Or.inl ⟨D35,?_⟩) ?_ ?_
  rotate_left
  ·intro w'
   go_simp
   with_reducible rfl
  rotate_left
  ·simp only [Act.put,q1,q2,q3,i64_w,i32_w]
   rfl
  refine norm_ ?_ (hcont (q5,q6,(A14,c14),(A5,n5,c5),(A6,n6,c6)) _ ⟨HB,b2,b5,b6,hne,lq5,lq6,lo,hi,hN,rq5,rq6,rp2,hlw,np25,np26⟩)
  first|(simp only [putAll,Act.put,q1,q2,q3];done)|rfl|(simp only [putAll,Act.put,q1,q2,q3];rfl)
 rintro ⟨q5,q6,⟨A14,c14⟩,⟨A5,n5,c5⟩,⟨A6,n6,c6⟩⟩ W ⟨HB,b2,b5,b6,hne,lq5,lq6,lo,hi,hN,rq5,rq6,rp2,hlw,np25,np26⟩
 refine norm_ (a':=?_) ?_ ?_
 rotate_left
 ·simp only [putAll,Act.put,q1,q2,q3]
  rfl
 simp only [] at b5 b6 hne lq5 lq6 hN rq5 rq6
 clear b1 hHeld up2 hsw
 have hk5:W.cell? ⟨q5,0,none⟩=some (.slice none 0 0):=(blk_cell b5 0).trans rfl
 have hf5:=blk_frozen b5 0
 refine last_ (i:=10) (N:=none) #[Y,Y,Y,Y,Y,Y,Y,Y,Y,Y,Y,Z,Z] rfl rfl D3 D24 (fun K hK=>?_)
 refine skip_ (w1:=?_) D35 rfl ?_ ?_
 rotate_left
 ·go_simp
  rfl
 refine hK.out _ _ ?_
 clear hK K
 replace hN:=Kd.N_far hN (p:=⟨q5,0,none⟩) (fun k hk=>by have:k ≠ q5:=D23;exact this) (.slice A5 n5 c5)
 replace HB:=pt (j:=0) (v:=.slice A5 n5 c5) HB lq5
 replace b2:=blk_far b2 (p:=⟨q5,0,none⟩) (show p2 ≠ q5 from np25) (.slice A5 n5 c5)
 replace b6:=blk_far b6 (p:=⟨q5,0,none⟩) (show q6 ≠ q5 from fun e=>hne e.symm) (.slice A5 n5 c5)
 clear b5 hk5 hf5
 generalize W.setCell ⟨q5,0,none⟩ (.slice A5 n5 c5)=W at hN HB b2 b6 ⊢
 have hk6:W.cell? ⟨q6,0,none⟩=some (.slice none 0 0):=(blk_cell b6 0).trans rfl
 have hf6:=blk_frozen b6 0
 refine last_ (i:=11) (N:=none) #[Y,Y,Y,Y,Y,Y,Y,Y,Y,Y,Y,Y,Z] rfl rfl D3 D24 (fun K hK=>?_)
 refine skip_ (w1:=?_) D35 rfl ?_ ?_
 rotate_left
 ·go_simp
  rfl
 refine hK.out _ _ ?_
 clear hK K
 replace hN:=Kd.N_far hN (p:=⟨q6,0,none⟩) (fun k hk=>by have:k ≠ q6:=D23;exact this) (.slice A6 n6 c6)
 replace HB:=pt (j:=0) (v:=.slice A6 n6 c6) HB lq6
 replace b2:=blk_far b2 (p:=⟨q6,0,none⟩) (show p2 ≠ q6 from np26) (.slice A6 n6 c6)
 have b6':=blk_put b6 0 (.slice A6 n6 c6) rfl
 clear b6 hk6 hf6
 generalize W.setCell ⟨q6,0,none⟩ (.slice A6 n6 c6)=W at hN HB b2 b6' ⊢
 refine pure_ (i:=12) (N:=some 7) (v:=?_) (a':=?_) #[Y,Y,Y,Y,Y,Y,Y,Y,Y,Y,Y,Y,Y] rfl rfl D3 hh (Or.inl ⟨D35,?_⟩) ?_ ?_
 rotate_left
 ·intro w'
  go_simp
  with_reducible rfl
 rotate_left
 ·simp only [Act.put,q1,q2,q3,i64_w,i32_w]
  rfl
 refine done_ D3 ?_
 have hk6:W.cell? ⟨q6,0,none⟩=some (.slice A6 n6 c6):=(blk_cell b6' 0).trans rfl
 have hzb:((z:Int) == (n:Int))=r2:=by rw [← HE2.out];exact Bool.eq_iff_iff.2 (by simp only [beq_iff_eq,decide_eq_true_eq];omega)
 have hk2:W.cell? ⟨p2,0,none⟩=some (.slice none 0 0):=(blk_cell b2 0).trans rfl
 have hf2:=blk_frozen b2 0
 have HNF:=am (Kd.N_far hN (p:=⟨p2,0,none⟩) (fun k hk=>by have:k ≠ p2:=D23;exact this) (.slice A6 n6 c6))
 have HBF:=am (pt (j:=0) (v:=.slice A6 n6 c6) HB lp2)
 have b2':=blk_put b2 0 (.slice A6 n6 c6) rfl
 clear b2 hN HB
 go_wp2_with fail
 (try simp only [Exit.inBlock,Exit.then])
 refine bodyPost_ret (results_ct rfl _ _ p2 43 #[.slice A6 n6 c6] (0,0) _ rfl b2' Try.underlying43 rfl D3) rfl ?_
 exact ⟨_,by first|rfl|(simp;done)|(trace_state;rfl),Kd.N_mono HNF.out (fun k hk=>by have:=hk.1;omega),HBF.out⟩

end
end
section
def spec_InverseOf.j0:Nat→Bool→List (List Int)→Option ((List (List Int)) × Bool)
 | 0,_,_=>none
 | k+1,x19,x187000=>if x19=true then (some (([]:List (List Int)),false)) else ((spec_l2Inverse.f x187000).bind fun bt190=>(if bt190.2=true then (some (bt190.1,true)) else (some (([]:List (List Int)),false))))
def spec_InverseOf.f (k:Nat) (l0_0:List (List Int)):Option ((List (List Int)) × Bool):=(spec_GoodMatrix.f k l0_0).bind fun t188=>(if t188=true then (if 0 < (l0_0.length:Int) then (spec_InverseOf.j0 k ((l0_0.length:Int) != ((rd_L1 l0_0 0).length:Int)) l0_0) else (none)) else (spec_InverseOf.j0 k true l0_0))
theorem spec_InverseOf.mono_l:∀ k,(∀ y0 y1,LeO (spec_InverseOf.j0 k y0 y1) (spec_InverseOf.j0 (k+1) y0 y1))
 | 0=>fun _ _ r h=>by simp [spec_InverseOf.j0] at h
 | k+1=>by
  have ih0:=spec_InverseOf.mono_l k
  intro y0 y1
  unfold spec_InverseOf.j0
  exact mm
theorem spec_InverseOf.mono:∀ a0 k,LeO (spec_InverseOf.f k a0) (spec_InverseOf.f (k+1) a0):=by
 intro a0 k
 have ih0:=spec_InverseOf.mono_l k
 unfold spec_InverseOf.f
 exact mm
def spec_InverseOf.T1:Bool × List (List Nat × List Nat):=(true,[([],[]),([0],[0]),([1],[1]),([2,1],[2]),([3],[3]),([4,3],[3,4]),([5,3],[3,5]),([3],[3]),([7,3],[3,7]),([8,3],[3,8]),([9,3],[3,9]),([10,3],[3,10]),([6,11,3],[3,6,11]),([3,12],[3,12])])
def spec_InverseOf.B1:List Nat:=[0,1,3,7,15,31,63,15,143,399,911,1935,4095,8191]
theorem spec_InverseOf.tab1:rtab .any (opsOf Try.f33 1)=spec_InverseOf.T1:=by kernel_rfl
theorem spec_InverseOf.bits1:waitsOk spec_InverseOf.T1.2 spec_InverseOf.B1=true:=by kernel_rfl
theorem spec_InverseOf.calls (k:Nat) (A0_0:Option Addr) (c0_0:Nat) (l0_0:List (List Int)) (r1:List (List Int)) (r2:Bool) (w:World) (hr0_0:Kd.C (Kd.slice 5 (Kd.int .u8)) w A0_0 l0_0.length l0_0) (hc0_0:l0_0.length≤c0_0) (h:spec_InverseOf.f k l0_0=some (r1,r2)) :
  Calls Try.prog 33 #[.agg #[.slice A0_0 l0_0.length c0_0]] w fun e w'=>∃ v0_:Value,e = .returned (.tuple #[.agg #[v0_], .bool r2])∧Kd.N (Kd.slice 5 (Kd.int .u8)) 57 w' w.heap.size (fun k_=>(w.heap.size≤k_)) v0_ r1∧Below w.heap.size w w':=by
 have hu43:=Try.underlying43
 have HR0_0:=am hr0_0
 have HC0_0:=am hc0_0
 clear hr0_0 hc0_0
 have HB:=am (Below.refl w.heap.size w)
 have H:=h
 unfold spec_InverseOf.f at H
 clear h
 have HC2:=am H
 clear H
 go_enter Try.func33,Try.ntmps33
 go_upto_region 1 with (first|((with_reducible refine gD 1 ?_);(try (refine gate_guard D35 ?_;dsimp only));refine gB (cs:=#[.slice A0_0 l0_0.length c0_0]) 43 ?_;intro gb186 hg w3 hbox hb;have BK186:=am (hbox);have GW186:=ye HB hg;replace HB:=yH HB hb;have GE186:=GW186;clear hb hbox hg)|((with_reducible refine gD 2 ?_);(try (refine gate_guard D35 ?_;dsimp only));refine gB (cs:=#[.slice none 0 0]) 43 ?_;intro gb187 hg w4 hbox hb;have BK187:=am (hbox);have GW187:=ye HB hg;replace HB:=yH HB hb;have NB186_187:=yl BK186 hg;have NB187_186:=yg BK186 hg;replace BK186:=yb BK186 hb;have GE187:=GW187;clear hb hbox hg))
 (try simp only [Act.put,q1,q2,q3])
 go_cut [19] (fun v19 wc=>∃ (kq:Nat) (x19_1:Bool),v19 = .bool x19_1∧Aside0 (spec_InverseOf.j0 kq x19_1 l0_0=some (r1,r2))∧Aside0 (kq≤k)∧Aside0 (wc.heap[gb186]? = some (.cells #[(.slice A0_0 l0_0.length c0_0)] 43 (0,0)))∧Aside0 (wc.heap[gb187]? = some (.cells #[(.slice none 0 0)] 43 (0,0)))∧Aside0 (Below w.heap.size w wc))
 case first =>
  have H:=HC2.out
  clear HC2
  obtain ⟨t188,A5,H⟩:=yo H
  by_cases c6:t188=true
  ·subst c6
   replace H:=yt H
   obtain ⟨c7,H⟩:=yi H
   have c7b0:=decide_eq_true c7
   have c7b1:decide (0 < l0_0.length)=true:=decide_eq_true D23
   clear c7
   (first|rw [c7b0]|(simp only [i64_w,i32_w];rw [c7b0])|skip)
   have H':=am H
   clear H
   try go_wp2
   replace BK186:=am (qd BK186.out)
   replace BK187:=am (qd BK187.out)
   replace HB:=am (pd HB.out)
   have p189:0≤(0:Int):=D23
   have q189:0 < (l0_0.length:Int):=od D1
   obtain ⟨ad189,A189_0,c189_0,e189,hx189_0,hl189_0,hi189_0⟩:=at_L1 HR0_0.out 0 p189 q189
   have hw189_0:=hx189_0
   (try rw [show ((0:Int)).toNat=0 from rfl] at hw189_0)
   (try rw [show 0*1=0 from rfl] at hw189_0)
   (try rw [Addr.add_zero'] at hw189_0)
   cases e189
   have qi189:(0 < l0_0.length)=True:=eq_true D23
   (try rw [show ((0:Int)).toNat=0 from rfl] at hx189_0)
   (try rw [Addr.add_zero'] at hx189_0)
   replace hx189_0:=(HB.out.cell (World.block_lt_of_cell? w _ hx189_0)).trans hx189_0
   have HR189_0:=am hi189_0
   have HC189_0:=am hl189_0
   clear hi189_0 hl189_0
   replace p189:=eq_true p189
   replace q189:=eq_true q189
   refine rS (n:=14) (S:=fun w'=>w'.cell? ⟨gb186,0,none⟩=some (.slice (some ad189) l0_0.length c0_0)∧w'.cell? ad189=some (.slice A189_0 (rd_L1 l0_0 0).length c189_0)) (ds:=[]) [(0,6),(1,0),(2,8),(3,9),(4,10),(7,13),(5,11),(6,12),(8,14),(9,15),(10,16),(11,17),(12,18),(13,19)] D3 rfl spec_InverseOf.tab1 spec_InverseOf.bits1 ⟨yk BK186 0,((HB.out.cell (World.block_lt_of_cell? w _ hw189_0)).trans hw189_0)⟩ (fun hHeld HT_ HW_=>?_)
   generalize w4.drew=w8 at BK186 BK187 HB HR189_0 hx189_0 hHeld ⊢
   refine rR ?_
   refine rO (N:=some 7) HT_ rfl rfl D3 D24 (fun K hK=>?_)
   refine goes_ Try.func103 D3 rfl #[.agg #[.slice (some ad189) l0_0.length c0_0]] D35 rfl rfl D27 ?_
   with_reducible refine (spec_GoodMatrix.calls k _ _ l0_0 true _ (yc (Kd.C_below HR0_0.out HB.out)) HC0_0.out A5.out).mono ?_
   rintro e w9 ⟨rfl,hb⟩
   refine ⟨_,rfl,?_⟩
   replace BK186:=yb BK186 hb
   replace BK187:=yb BK187 hb
   replace HB:=yH HB hb
   (try clear hb)
   (try clear hb2)
   (try clear hk)
   (try clear hi)
   refine hK.out _ _ ⟨yk BK186 0,((HB.out.cell (World.block_lt_of_cell? w _ hw189_0)).trans hw189_0)⟩ (fun hHeld=>?_)
   clear hK K
   refine rN (nA 7) ?_
   refine rR ?_
   refine rD HT_ D3 ?_
   try go_wp2
   go_meet
   case rel=>exact ⟨_,(((l0_0.length:Int) != ((rd_L1 l0_0 0).length:Int))),D2,H',⟨D82⟩,⟨yB BK186⟩,⟨yB BK187⟩,⟨yW HB⟩⟩
  replace c6:=Bool.eq_false_iff.mpr c6
  subst c6
  replace H:=yn H
  have H':=am H
  clear H
  try go_wp2
  replace BK186:=am (qd BK186.out)
  replace BK187:=am (qd BK187.out)
  replace HB:=am (pd HB.out)
  refine rS (n:=14) (S:=fun w'=>w'.cell? ⟨gb186,0,none⟩=some (.slice A0_0 l0_0.length c0_0)) (ds:=[]) [(0,6),(1,0),(2,8),(3,9),(4,10),(5,11),(6,12),(7,13),(8,14),(9,15),(10,16),(11,17),(12,18),(13,19)] D3 rfl spec_InverseOf.tab1 spec_InverseOf.bits1 (yk BK186 0) (fun hHeld HT_ HW_=>?_)
  generalize w4.drew=w10 at BK186 BK187 HB hHeld ⊢
  refine rR ?_
  refine rO (N:=some 7) HT_ rfl rfl D3 D24 (fun K hK=>?_)
  refine goes_ Try.func103 D3 rfl #[.agg #[.slice A0_0 l0_0.length c0_0]] D35 rfl rfl D27 ?_
  with_reducible refine (spec_GoodMatrix.calls k _ _ l0_0 false _ (yc (Kd.C_below HR0_0.out HB.out)) HC0_0.out A5.out).mono ?_
  rintro e w11 ⟨rfl,hb⟩
  refine ⟨_,rfl,?_⟩
  replace BK186:=yb BK186 hb
  replace BK187:=yb BK187 hb
  replace HB:=yH HB hb
  (try clear hb)
  (try clear hb2)
  (try clear hk)
  (try clear hi)
  refine hK.out _ _ (yk BK186 0) (fun hHeld=>?_)
  clear hK K
  refine rN (nA 7) ?_
  refine rR ?_
  refine rD HT_ D3 ?_
  try go_wp2
  go_meet
  case rel=>exact ⟨_,(true),D2,H',⟨D82⟩,⟨yB BK186⟩,⟨yB BK187⟩,⟨yW HB⟩⟩
 case rest =>
  clear HC2
  try clear c1
  try clear p1
  try clear q1
  try clear hx1
  try clear qi1
  try clear p2
  try clear c3
  try clear c6
  try clear c7
  try clear c7b0
  try clear c7b1
  try clear c10
  try clear hx189_0
  try clear p189
  try clear q189
  obtain ⟨kq,x19_1,rfl,HA,HJ1,BK186,BK187,HB⟩:=hcut
  cases kq with
  | zero=>exact absurd HA.out (by simp [spec_InverseOf.j0])
  | succ kj1 =>
   have H:=HA.out
   clear HA
   simp only [spec_InverseOf.j0] at H
   by_cases c12:x19_1=true
   ·subst c12
    replace H:=yt H
    simp only [Option.some.injEq,Prod.mk.injEq] at H
    obtain ⟨rfl,rfl⟩:=H
    have hnb13:=NB187_186.out
    have hnc13:=NB186_187.out
    obtain ⟨hcz14_0,hfz14_0⟩:=yk1 BK187
    go_wp2
    refine bodyPost_ret (results_ct rfl _ _ gb187 43 #[.slice none 0 0] (0,0) _ rfl (by refine sB ?_;refine blk_put (cs:=#[.slice none 0 0]) ?_ 0 _ rfl;exact yB BK187) Try.underlying43 rfl D3) rfl ?_
    exact ⟨_,D0,D25,yW HB⟩
   replace c12:=Bool.eq_false_iff.mpr c12
   subst c12
   replace H:=yn H
   obtain ⟨⟨t190,t193⟩,A15,H⟩:=yo H
   try dsimp only at H
   by_cases c16:t193=true
   ·subst c16
    replace H:=yt H
    simp only [Option.some.injEq,Prod.mk.injEq] at H
    obtain ⟨rfl,rfl⟩:=H
    have hnb17:=NB186_187.out
    have hnc17:=NB187_186.out
    obtain ⟨hcz18_0,hfz18_0⟩:=yk1 BK186
    go_wp2_with (first|((with_reducible refine gC 91 ?_);refine gM (some 23) Try.func91 (args:=#[.agg #[.slice A0_0 l0_0.length c0_0]]) (spec_l2Inverse.calls _ _ l0_0 t190 true _ (yc (Kd.C_below HR0_0.out HB.out)) HC0_0.out A15.out) ?_;rintro e w19 ⟨v191,rfl,ho0,hb⟩;refine ⟨_,rfl,?_⟩;have HO192:=am (Kd.N_lower (Kd.N_mono (ok':=fun k_=>(w.heap.size≤k_)∧k_ ≠ gb186∧k_ ≠ gb187) ho0 (fun k_ hk_=>⟨(Nat.le_trans (pz (yW HB)) hk_),(yz BK186 k_ hk_),(yz BK187 k_ hk_)⟩)) (pz (yW HB)));replace BK186:=yb BK186 hb;replace BK187:=yb BK187 hb;replace HB:=yH HB hb;clear hb ho0)|((with_reducible refine gD 4 ?_);(try (refine gate_guard D35 ?_;dsimp only));refine gB (cs:=#[.slice none 0 0]) 43 ?_;intro gb194 hg w20 hbox hb;replace HO192:=oN HO192 hg hb;have BK194:=am (hbox);have GW194:=ye HB hg;replace HB:=yH HB hb;have NB186_194:=yl BK186 hg;have NB194_186:=yg BK186 hg;replace BK186:=yb BK186 hb;have NB187_194:=yl BK187 hg;have NB194_187:=yg BK187 hg;replace BK187:=yb BK187 hb;have GE194:=GW194;clear hb hbox hg;obtain ⟨Ao21,co21,eo21⟩:=Kd.N_slice HO192.out;subst eo21;have hnb22:=NB194_186.out;have hnc22:=NB186_194.out;have hnb23:=NB194_187.out;have hnc23:=NB187_194.out;obtain ⟨hcz24_0,hfz24_0⟩:=yk1 BK194;obtain ⟨hcz25_0,hfz25_0⟩:=yk1 BK187))
    refine bodyPost_ret (results_ct rfl _ _ gb187 43 #[.slice Ao21 t190.length co21] (0,0) _ rfl (by refine sB ?_;refine blk_put (cs:=#[.slice none 0 0]) ?_ 0 _ rfl;exact yF BK187) Try.underlying43 rfl D3) rfl ?_
    exact ⟨_,D0,by refine sN ?_;exact Kd.N_mono (Kd.N_far (p:=⟨gb187,0,none⟩) (Kd.N_far (p:=⟨gb194,0,none⟩) (Kd.N_mono (Kd.N_mono HO192.out (fun k_ hk=>(⟨hk,hk.2⟩:_∧k_ ≠ gb194))) (fun k_ hk=>(⟨hk,hk.1.1.2.2⟩:_∧k_ ≠ gb187))) (fun _ hk=>hk.1.2) (.slice Ao21 t190.length co21)) (fun _ hk=>hk.2) (.slice Ao21 t190.length co21)) (fun _ hk=>hk.1.1.1.1),yW HB⟩
   replace c16:=Bool.eq_false_iff.mpr c16
   subst c16
   replace H:=yn H
   simp only [Option.some.injEq,Prod.mk.injEq] at H
   obtain ⟨rfl,rfl⟩:=H
   have hnb26:=NB186_187.out
   have hnc26:=NB187_186.out
   obtain ⟨hcz27_0,hfz27_0⟩:=yk1 BK186
   go_wp2_with (first|((with_reducible refine gC 91 ?_);refine gM (some 23) Try.func91 (args:=#[.agg #[.slice A0_0 l0_0.length c0_0]]) (spec_l2Inverse.calls _ _ l0_0 t190 false _ (yc (Kd.C_below HR0_0.out HB.out)) HC0_0.out A15.out) ?_;rintro e w28 ⟨v191,rfl,ho0,hb⟩;refine ⟨_,rfl,?_⟩;have HO192:=am (Kd.N_lower (Kd.N_mono (ok':=fun k_=>(w.heap.size≤k_)∧k_ ≠ gb186∧k_ ≠ gb187) ho0 (fun k_ hk_=>⟨(Nat.le_trans (pz (yW HB)) hk_),(yz BK186 k_ hk_),(yz BK187 k_ hk_)⟩)) (pz (yW HB)));replace BK186:=yb BK186 hb;replace BK187:=yb BK187 hb;replace HB:=yH HB hb;clear hb ho0)|((with_reducible refine gD 4 ?_);(try (refine gate_guard D35 ?_;dsimp only));refine gB (cs:=#[.slice none 0 0]) 43 ?_;intro gb194 hg w29 hbox hb;replace HO192:=oN HO192 hg hb;have BK194:=am (hbox);have GW194:=ye HB hg;replace HB:=yH HB hb;have NB186_194:=yl BK186 hg;have NB194_186:=yg BK186 hg;replace BK186:=yb BK186 hb;have NB187_194:=yl BK187 hg;have NB194_187:=yg BK187 hg;replace BK187:=yb BK187 hb;have GE194:=GW194;clear hb hbox hg;obtain ⟨Ao30,co30,eo30⟩:=Kd.N_slice HO192.out;subst eo30;have hnb31:=NB194_186.out;have hnc31:=NB186_194.out;have hnb32:=NB194_187.out;have hnc32:=NB187_194.out;obtain ⟨hcz33_0,hfz33_0⟩:=yk1 BK194;obtain ⟨hcz34_0,hfz34_0⟩:=yk1 BK187))
   refine bodyPost_ret (results_ct rfl _ _ gb187 43 #[.slice none 0 0] (0,0) _ rfl (by refine sB ?_;refine blk_put (cs:=#[.slice none 0 0]) ?_ 0 _ rfl;exact yF BK187) Try.underlying43 rfl D3) rfl ?_
   exact ⟨_,D0,D25,yW HB⟩

def slices_Clone_byte_byte.f (l0:List Int):Option (List Int):=(some (([]:List Int):List Int)).bind fun y181=>(if y181.length+l0.length < 140737488355328 then (some (y181 ++ l0)) else (none))
theorem slices_Clone_byte_byte.calls (A0:Option Addr) (c0:Nat) (l0:List Int) (r:List Int) (w:World) (hr0:Kd.C (Kd.int .u8) w A0 l0.length l0) (hc0:l0.length≤c0) (h:slices_Clone_byte_byte.f l0=some r) :
  Calls Try.prog 183 #[.slice A0 l0.length c0] w fun e w'=>∃ v0_:Value,e = .returned (v0_)∧Kd.R (Kd.int .u8) 5 w' w.heap.size (fun _=>True) v0_ r∧Below w.heap.size w w':=by
 have HR0:=am hr0
 have HC0:=am hc0
 clear hr0 hc0
 have HB:=am (Below.refl w.heap.size w)
 have H:=h
 unfold slices_Clone_byte_byte.f at H
 clear h
 obtain ⟨y181,hy181,H⟩:=ys H
 have Ny181:=am hy181
 clear hy181
 by_cases c2:y181.length+l0.length < 140737488355328
 ·rw [if_pos c2] at H
  have LMc2:=am c2
  clear c2
  generalize hy184:(y181 ++ l0:List Int)=y184 at H
  have Ny184:=am hy184.symm
  clear hy184
  obtain rfl:=Option.some.inj H
  have keq:=fun (W:World) (a:Option Addr) (n c:Nat)=>Lib.run_eql_slice_nil (P:=Try.prog) W 57 5 a n c 0 0 Try.underlying57
  cases A0 with
  | none =>
   have e0:l0=[]:=by
    have hc:=HR0.out
    by_cases hp:0 < l0.length
    ·obtain ⟨ad,h1,_⟩:=hc.2.2 hp
     cases h1
    exact List.eq_nil_of_length_eq_zero D23
   have ey:y184=[]:=by rw [Ny184.out,Ny181.out,e0];rfl
   subst ey
   go_enter Try.func183,Try.ntmps183
   go_wp2
   go_ret
   exact ⟨_,rfl,Kd.R_nil _ _ _ _ _,HB.out⟩
  | some ad0 =>
  go_enter Try.func183,Try.ntmps183
  go_wp2_with (first|((with_reducible refine gD 5 ?_);refine Kd.R_lit (Kd.int .u8) _ 5 D35 (N:=5) D35 (xs:=([]:List Int)) (inner:=[]) (ok:=fun _=>True) (okp:=fun _=>True) D45 D72 (fun _ hk=>hk) trivial (Below.refl _ _) (Nat.le_refl _) D52 ?_;intro v182 w3 ho4 hb hg_ hnew_;clear hg_ hnew_;(first|rw [← Ny181.out] at ho4|(simp only [Int.reduceToNat] at ho4;rw [← Ny181.out] at ho4));have HO183:=am (Kd.R_lower ho4 (pz (yW HB)));replace HB:=yH HB hb;clear hb ho4)|((with_reducible refine gate_builtin (b:=.append) (xs:=#[.tmp 5, .tmp 6]) rfl ?_);at_builtin;refine Kd.R_append_rows (Kd.int .u8) (w0:=w) w.heap.size rfl (.tmp 5) (.tmp 6) 57 5 (.int .u8 0) 1 rfl Try.underlying57 info5 rfl D24 D23 v182 y181 l0 _ _ _ (fun _=>True) (fun _=>False) rfl rfl (by exact (yR HO183)) (by repeat (first|exact (Kd.C_below HR0.out HB.out)|(with_reducible refine Kd.C_alloc ?_ _)|(with_reducible refine Kd.C_drewN ?_ _)|(with_reducible refine Kd.C_drew ?_))) (fun _ _ h=>h) (fun _ h=>h.elim) D75 D135 D87 (by have:=LMc2.out;omega) ?_;intro v185 w5 ho hb hg hat;rw [← Ny184.out] at ho;have n0_:=am (hb);have n1_:=am (ho);clear HB HO183;have HB:=n0_;have HO186:=n1_;clear n0_ n1_ ho hb hg hat))
  go_ret
  exact ⟨_,D0,yR HO186,yW HB⟩
 rw [if_neg c2] at H
 exact absurd H D52

section
open Go.Proofs.Ytajikfnpcobnpaa.Gf Go.Proofs.Ytajikfnpcobnpaa.Kit Go.Proofs.Ytajikfnpcobnpaa.KitW Go.Proofs.Ytajikfnpcobnpaa.KitN
namespace ImplInv
theorem impl_identity.ev_l0 (n:Nat) (hn:n≤1048576):∀ (d i:Nat) (o:List (List Int)),i+d=n→o=(idM n).take i→Ev (fun k=>impl_identity.l0 k (n:Int) o (n:Int) (i:Int)) (idM n)
 | 0,i,o,hi,ho=>by
  refine Ev.step (fun k=>impl_identity.l0.eq_2 _ _ _ _ k) ?_
  refine ev_neg D23 (ev_now ?_)
  rw [ho,List.take_of_length_le (by simp [idM];omega)]
 | d+1,i,o,hi,ho=>by
  have hl:o.length=i:=by rw [ho,List.length_take];simp [idM];omega
  refine Ev.step (fun k=>impl_identity.l0.eq_2 _ _ _ _ k) ?_
  simp only [Option.bind_some,Int.toNat_natCast,List.length_replicate]
  refine ev_pos D23 (ev_pos D23 (ev_pos D23 (ev_pos D23 (ev_pos D23 (ev_pos D23 ?_)))))
  rw [inc D23]
  refine impl_identity.ev_l0 n hn d (i+1) _ D23 ?_
  rw [List.take_succ_eq_append_getElem (by simp [idM];omega),← ho]
  simp [idM]
theorem impl_identity.ev (n:Nat) (hn:n≤1048576):Ev (fun k=>impl_identity.f k (n:Int)) (idM n):=by
 unfold impl_identity.f
 exact impl_identity.ev_l0 n hn n 0 [] D23 rfl
end ImplInv
theorem iv_info8:(Try.prog.info? 5).map (fun i=>(i.zero,i.size,i.bytes))=some (some (.int .u8 0),1,1):=by kernel_rfl
theorem iv_info:(Try.prog.info? 57).map (fun i=>(i.zero,i.size,i.bytes))=some (some (.slice none 0 0),1,24):=by kernel_rfl
def impl_inverseOf.f (l0:List (List Int)):Option (List (List Int) × Bool):=if sqN l0=true then some (invM l0) else none
/-- The first loop: rows with the identity's beside them. -/
structure IV (w:World) (l0:List (List Int)) (ad15:Addr) (i:Nat) (v5:Value) (wr:World):Prop where
 N:Kd.N (Kd.slice 5 (Kd.int .u8)) 57 wr w.heap.size (fun _=>True) v5 ((catM l0).take i)
 F:Kd.F (Kd.slice 5 (Kd.int .u8)) wr (fun k=>True∧some k ≠ v5.ownBlock) (some ad15) l0.length (idM l0.length)
 B:Below w.heap.size w wr
theorem IV.below {w wr w1:World} {l0:List (List Int)} {ad15:Addr} {i:Nat} {v5:Value} (h:IV w l0 ad15 i v5 wr) (hb:Below wr.heap.size wr w1):IV w l0 ad15 i v5 w1:=⟨Kd.N_below h.N hb,Kd.F_below h.F hb,pu h.B hb⟩
theorem IV.row {w wr:World} {l0:List (List Int)} {ad15:Addr} {i:Nat} {v5:Value} (h:IV w l0 ad15 i v5 wr) (j:Nat) (hj:j < l0.length) :
  ∃ A c,wr.cell? (ad15.add j)=some (.slice A ((idM l0.length).getD j []).length c)∧((idM l0.length).getD j []).length≤c∧Kd.F (Kd.int .u8) wr (fun k=>True∧some k ≠ v5.ownBlock) A ((idM l0.length).getD j []).length ((idM l0.length).getD j []):=by
 obtain ⟨ad,c,e,_,hK,hcc,_⟩:=Kd.F_get h.F ([]:List Int) (j:Int) D23 D23
 injection e with e
 subst e
 rw [Int.toNat_natCast] at hK hcc
 obtain ⟨A,c1,rfl,hle,hF⟩:=Kd.FK_slice_open hK
 have h0:=hcc 0 _ rfl
 have hsz:(Kd.slice 5 (Kd.int .u8)).sz=1:=rfl
 rw [hsz,Nat.mul_one,Nat.add_zero] at h0
 exact ⟨A,c1,h0,hle,hF⟩
/-- The second loop: what stands beside is copied out. -/
structure IW (w:World) (D:List (List Int)) (n g cap len:Nat) (i:Nat) (v8:Value) (wr:World):Prop where
 N:Kd.N (Kd.slice 5 (Kd.int .u8)) 57 wr w.heap.size (fun k=>True∧some k ≠ v8.ownBlock) (.slice (some ⟨g,0,none⟩) len cap) D
 S:Kd.S (Kd.slice 5 (Kd.int .u8)) 57 wr w.heap.size (fun _=>True) v8 ((D.map (List.drop n)).take i)
 B:Below w.heap.size w wr
theorem impl_inverseOf.calls (A0:Option Addr) (c0:Nat) (l0:List (List Int)) (r1:List (List Int)) (r2:Bool) (w:World) (hr0:Kd.C (Kd.slice 5 (Kd.int .u8)) w A0 l0.length l0) (hc0:l0.length≤c0) (h:impl_inverseOf.f l0=some (r1,r2)) :
  Calls Try.prog 101 #[.slice A0 l0.length c0] w fun e w'=>∃ v0_:Value,e = .returned (.tuple #[v0_, .bool r2])∧Kd.S (Kd.slice 5 (Kd.int .u8)) 57 w' w.heap.size (fun _=>True) v0_ r1∧Below w.heap.size w w':=by
 unfold impl_inverseOf.f at h
 by_cases hs:sqN l0=true
 case neg=>rw [if_neg hs] at h;cases h
 rw [if_pos hs] at h
 have hrr:invM l0=(r1,r2):=Option.some.inj h
 clear h
 obtain ⟨h1,h2,h3⟩:=sqN_iff.1 hs
 clear hs
 obtain ⟨ad0,rfl,_⟩:=hr0.2.2 D23
 obtain ⟨n,hn⟩:∃ n,n=l0.length:=⟨_,rfl⟩
 obtain ⟨kI,hI⟩:=(ImplInv.impl_identity.ev l0.length D23).rounds
 have HI:=am hI
 have HN:=am hn
 have HR0:=am hr0
 have HO3:=am h3
 have HRR:=am hrr
 rw [← hn] at h1 h2 hc0 ⊢
 clear hI hn hr0 h3 hrr
 have HB:=am (Below.refl w.heap.size w)
 go_enter Try.func101,Try.ntmps101
 go_wp2_with (first|((with_reducible refine gD 13 ?_);refine Kd.N_lit (Kd.slice 5 (Kd.int .u8)) _ 57 D35 (N':=13) D35 (xs:=([]:List (List Int))) (inner:=[]) (ok:=fun _=>True) (okp:=fun _=>True) D45 D72 (fun _ hk=>hk) trivial (Below.refl _ _) (Nat.le_refl _) D52 ?_;intro v13 w3 ho4 hb hg_ hnew_;clear hg_ hnew_;have HO:=am ho4;clear HB;have HB:=am hb;clear hb ho4)|fail)
 have hI:impl_identity.f kI (n:Int)=some (idM l0.length):=by rw [HN.out];exact HI.out
 refine (impl_identity.calls kI (n:Int) (idM l0.length) _ hI).mono ?_
 clear hI
 rintro e w4 ⟨v15,rfl,ho,hb⟩
 obtain ⟨g15,c15,e15,_⟩:=Kd.S_form ho (by rw [idM_length];have:=HN.out;omega)
 rw [idM_length] at e15
 have hN4:=Kd.N_below HO.out hb
 have hlt:=Kd.N_lt HO.out
 have HX:=am (show IV w l0 ⟨g15,0,none⟩ 0 v13 w4 from ⟨by simpa using hN4,by
  have hS:=Kd.S_F (n:=l0.length) (by rw [e15] at ho;exact Kd.S_mono (Kd.S_bound ho) (ok':=fun k=>True∧some k ≠ v13.ownBlock) (fun k hk=>⟨trivial,fun e=>by have:=hlt k e.symm;have:=hk.2.1;omega⟩))
  exact hS,pu HB.out hb⟩)
 rw [← HN.out] at e15
 subst e15
 clear HO HB hb ho hN4 hlt
 go_wp2_with fail
 go_loopg [5,17] (n+1) (fun fu v5 v17 wr=>∃ i:Nat,i≤n∧n - i < fu∧v17 = .int .i64 i∧Aside0 (IV w l0 ⟨g15,0,none⟩ i v5 wr))
 case atStart=>exact ⟨0,Nat.zero_le _,D23,rfl,HX⟩
 case round =>
  clear HX
  obtain ⟨i,hi,hfu,rfl,HX⟩:=hrel
  by_cases hin:i < n
  case neg =>
   have e:i=n:=by omega
   subst e
   have hrz:¬ (i:Int) < (i:Int):=by omega
   have hdr:decide ((i:Int) < (i:Int))=false:=decide_eq_false hrz
   obtain ⟨g,cap,eg,_⟩:=Kd.N_form HX.out.N (by rw [List.length_take,catM_length];have:=HN.out;omega)
   rw [List.length_take,catM_length,← HN.out,Nat.min_self] at eg
   subst eg
   have hN:=HX.out.N
   rw [List.take_of_length_le (by rw [catM_length];have:=HN.out;omega)] at hN
   have HN1:=am hN
   have HB:=am HX.out.B
   clear hN HX
   obtain ⟨D,hD⟩:∃ D,D=(rowI.red (catM l0) l0.length).1:=⟨_,rfl⟩
   obtain ⟨z,hz⟩:∃ z,z=(redP l0 (idM l0.length) l0.length).2:=⟨_,rfl⟩
   have HD:=am hD
   have HZ:=am hz
   have HE:=am (impl_eliminate.calls (catM l0) (l0.length+l0.length) l0.length (catM_ok HO3.out) D23 D141 (by rw [catM_length];have:=HN.out;omega) g cap i (by rw [catM_length];exact HN.out.symm) w wr HB.out HN1.out)
   rw [← HN.out,HN.out,← hD,show (rowI.red (catM l0) l0.length).2=z by rw [hz,catM_red HO3.out],← HN.out] at HE
   clear hD hz HN1 HB
   go_wp2_with fail
   refine HE.out.mono ?_
   clear HE
   rintro e w5 ⟨rfl,hN,hB⟩
   have HN1:=am hN
   have HB:=am hB
   have HDA:=am (show ∀ r ∈ D,okI (i+i) r by rw [HD.out];have z:=RowK.red_all (shutI (l0.length+l0.length)) (catM_ok HO3.out) l0.length;rw [← HN.out] at z ⊢;exact z)
   have HDL:=am (show D.length=i by rw [HD.out,RowK.red_length,catM_length];exact HN.out.symm)
   clear hN hB
   by_cases hzi:z < i
   case pos =>
    have hzz:(z:Int) < (i:Int):=by omega
    have hdz:decide ((z:Int) < (i:Int))=true:=decide_eq_true hzz
    go_wp2_with fail
    go_ret2
    have e:=HRR.out
    unfold invM at e
    rw [← HZ.out,← HN.out,if_pos hzi] at e
    injection e with e1 e2
    subst e1 e2
    exact ⟨_,rfl,Kd.S_nil _ _ _ _ _,HB.out⟩
   have hzz:¬ (z:Int) < (i:Int):=by omega
   have hdz:decide ((z:Int) < (i:Int))=false:=decide_eq_false hzz
   have HRE:=am (show D.map (List.drop i)=r1∧r2=true by
    have e:=HRR.out
    unfold invM at e
    rw [← HZ.out,if_neg D141,← catM_out HO3.out,← HD.out,← HN.out] at e
    injection e with e1 e2
    exact ⟨e1,e2.symm⟩)
   obtain ⟨_,rfl⟩:=HRE.out
   go_wp2_with (first|((with_reducible refine gD 38 ?_);refine Kd.S_lit (Kd.slice 5 (Kd.int .u8)) _ 57 D35 (N:=38) D35 (xs:=([]:List (List Int))) (inner:=[]) (ok:=fun _=>True) (okp:=fun _=>True) D45 D72 (fun _ hk=>hk) trivial (Below.refl _ _) (Nat.le_refl _) D52 ?_;intro v38 w6 ho6 hb6 hg6 hnew6;clear hg6 hnew6;have HX:=am (show IW w D i g cap i 0 v38 w6 from ⟨Kd.N_elder' HN1.out (Kd.S_base ho6) hb6,by rw [List.take_zero];exact Kd.S_lower ho6 HB.out.size,pu HB.out hb6⟩);clear HN1 HB ho6 hb6)|fail)
   go_loopg [8,41] (i+1) (fun fu v8 v41 wr=>∃ j:Nat,j≤i∧i - j < fu∧v41 = .int .i64 j∧Aside0 (IW w D i g cap i j v8 wr))
   case atStart=>exact ⟨0,Nat.zero_le _,D23,rfl,HX⟩
   case round =>
    clear HX
    obtain ⟨j,hj,hfu2,rfl,HX⟩:=hrel
    by_cases hji:j < i
    case neg =>
     have e:j=i:=by omega
     subst e
     have hrz:¬ (j:Int) < (j:Int):=by omega
     have hdr:decide ((j:Int) < (j:Int))=false:=decide_eq_false hrz
     go_wp2_with fail
     go_ret2
     have hS:=HX.out.S
     rw [List.take_of_length_le (by rw [List.length_map,HDL.out];omega),HRE.out.1] at hS
     exact ⟨_,rfl,hS,HX.out.B⟩
    have hrz:(j:Int) < (i:Int):=by omega
    have hdr:decide ((j:Int) < (i:Int))=true:=decide_eq_true hrz
    obtain ⟨A44,c44,hcell44,hle44,hF44,_⟩:=N_row HX.out.N j hji
    obtain ⟨dj,hdj⟩:∃ x,x=D.getD j []:=⟨_,rfl⟩
    rw [← hdj] at hcell44 hle44 hF44
    have hok:okI (i+i) dj:=by rw [hdj];exact RowK.at_all (O:=rowI) HDA.out (by rw [HDL.out];exact hji)
    have hdl:=hok.2
    obtain ⟨ad44,rfl,_⟩:=F_byte hF44 0 D23
    have hCd:=Kd.F_now (Kd.F_cut (m:=i) hF44 D23 hle44)
    rw [hdl] at hcell44 hle44
    have hcn:(c44=i)=False:=eq_false D23
    have hci:i≤c44:=by omega
    rw [if_neg D23,show (some ad44).map (fun x=>x.add (i*(Kd.int .u8).sz))=some (ad44.add i) from by show some (ad44.add (i*1))=_;rw [Nat.mul_one]] at hCd
    have hdd:(dj.drop i).length=i:=by rw [List.length_drop];omega
    have hcl:=slices_Clone_byte_byte.calls _ (c44 - i) (dj.drop i) (dj.drop i) wr hCd D23 (by unfold slices_Clone_byte_byte.f;simp;omega)
    rw [hdd] at hcl
    have HDJ:=am hdj
    have HCL:=am hcl
    clear hcl hCd hF44 hok hdj
    go_wp2_with fail
    refine HCL.out.mono ?_
    clear HCL
    rintro e w6 ⟨v49,rfl,ho,hb⟩
    obtain ⟨A49,c49,e49⟩:=Kd.R_slice ho
    rw [hdd] at e49
    subst e49
    have HO:=am (Kd.R_lower (Kd.R_mono (Kd.R_bound ho) (ok':=fun k=>wr.heap.size≤k) (fun k hk=>hk.2.1)) HX.out.B.size)
    have HLT:=am (Kd.S_lt HX.out.S)
    have HS:=am (Kd.S_mono (Kd.S_below (Kd.S_bound HX.out.S) hb) (ok':=fun k=>True∧¬ wr.heap.size≤k) (fun k hk=>⟨trivial,by have:=hk.2.2.1;omega⟩))
    have HN1:=am (Kd.N_below HX.out.N hb)
    have HB:=am (pu HX.out.B hb)
    clear HX ho hb
    go_wp2_with (first|((with_reducible refine gate_builtin (b:=.append) (xs:=#[.tmp 45, .tmp 50]) rfl ?_);at_builtin;refine Kd.S_append (Kd.slice 5 (Kd.int .u8)) (w0:=w) w.heap.size rfl (.tmp 45) (.tmp 50) 37 57 (.slice none 0 0) 24 rfl Try.underlying37 iv_info rfl D24 D23 u8 ((D.map (List.drop i)).take j) (dj.drop i) [.slice A49 i c49] (fun _=>True) (fun k=>wr.heap.size≤k) rfl rfl (Kd.M_row HO.out) (fun k hk=>⟨trivial,fun e=>by have:=HLT.out k e.symm;omega⟩) (fun _ _=>trivial) HS.out HB.out HB.out.size (by rw [List.length_take];omega) ?_;intro v51 w7 ho7 hb7 hg7 hat7;have HX:=am (show IW w D i g cap i (j+1) v51 w7 from ⟨Kd.N_after HN1.out hg7 hat7,by rw [List.take_succ_eq_append_getElem (by rw [List.length_map,HDL.out];exact hji),List.getElem_map,show D[j]'(by rw [HDL.out];exact hji)=dj from by rw [HDJ.out,List.getD_eq_getElem?_getD,List.getElem?_eq_getElem (by rw [HDL.out];exact hji)];rfl];exact ho7,hb7⟩);clear HO HLT HS HN1 HB ho7 hb7 hg7 hat7)|fail)
    go_roundg (i - j)
    case measure=>omega
    case rel=>exact ⟨j+1,D23,D23,by go_num,HX⟩
  have hrz:(i:Int) < (n:Int):=by omega
  have hdr:decide ((i:Int) < (n:Int))=true:=decide_eq_true hrz
  obtain ⟨A21,c21,hcell21,hle21,hF21⟩:=HX.out.row i D141
  obtain ⟨ad,A26,c26,e26,hcell26,hle26,hC26⟩:=C_row (Kd.C_below HR0.out HX.out.B) i D141
  injection e26 with e26
  subst e26
  obtain ⟨li,hli⟩:∃ x,x=l0.getD i []:=⟨_,rfl⟩
  obtain ⟨di,hdi⟩:∃ x,x=(idM l0.length).getD i []:=⟨_,rfl⟩
  rw [← hdi] at hcell21 hle21 hF21
  rw [add_plain] at hcell21
  rw [← hli] at hcell26 hle26 hC26
  have HLI:=am hli
  have HDI:=am hdi
  clear hli hdi
  have hil:i < n:=hin
  have hl1:li.length=n:=by rw [HLI.out,HN.out];exact (RowK.at_all (O:=rowI) HO3.out (i:=i) D141).2
  have hd1:di.length=n:=by rw [HDI.out,HN.out];exact (RowK.at_all (O:=rowI) (idM_ok l0.length) (i:=i) (by rw [idM_length];have:=HN.out;omega)).2
  have hcl:=slices_Clone_byte_byte.calls A26 c26 li li wr hC26 hle26 (by unfold slices_Clone_byte_byte.f;simp;omega)
  rw [hl1] at hcell26 hcl
  rw [hd1] at hcell21
  go_wp2_with fail
  refine hcl.mono ?_
  clear hcl
  rintro e w5 ⟨v27,rfl,ho,hb⟩
  have HX5:=HX.out.below hb
  have hF5:=am (Kd.F_below hF21 hb)
  have HO:=am ho
  have HB5:=am hb
  clear ho hb hF21 hcell21 hcell26 hC26 HX5
  go_wp2_with (first|((with_reducible refine gate_builtin (b:=.append) (xs:=#[.tmp 27, .tmp 28]) rfl ?_);at_builtin;refine Kd.R_append_rows (Kd.int .u8) (w0:=wr) wr.heap.size rfl (.tmp 27) (.tmp 28) 57 5 (.int .u8 0) 1 rfl Try.underlying57 iv_info8 rfl D24 D23 v27 li di A21 n c21 (fun _=>True) (fun _=>False) rfl rfl HO.out (by have z:=Kd.F_now hF5.out;rwa [hd1] at z) (fun _ _ h=>h) (fun _ h=>h.elim) (fun _ _=>trivial) HB5.out HB5.out.size (by rw [hl1];omega) ?_;intro v29 w6 ho6 hb6 hg6 hat6;obtain ⟨A29,c29,e29⟩:=Kd.R_slice ho6;rw [List.length_append,hl1,hd1] at e29;subst e29;have HX6:=am (HX.out.below hb6);have HO6:=am ho6;clear HO HB5 hF5 ho6 hb6 hg6 hat6)|((with_reducible refine gate_builtin (b:=.append) (xs:=#[.tmp 22, .tmp 30]) rfl ?_);at_builtin;refine Kd.N_append (Kd.slice 5 (Kd.int .u8)) (w0:=w) w.heap.size rfl (.tmp 22) (.tmp 30) 37 57 (.slice none 0 0) 24 rfl Try.underlying37 iv_info rfl D24 D23 u5 ((catM l0).take i) (li ++ di) [.slice A29 (n+n) c29] (fun _=>True) (fun k=>wr.heap.size≤k) rfl rfl (FK_of_R (Kd.R_mono (Kd.R_bound HO6.out) (ok':=fun k=>wr.heap.size≤k) (fun k hk=>hk.2.1))) (fun k hk=>⟨trivial,fun e=>by have:=Kd.N_lt HX.out.N k e.symm;omega⟩) (fun _ _=>trivial) HX6.out.N HX6.out.B HX6.out.B.size (by rw [List.length_take];omega) ?_;intro v31 w7 ho7 hb7 hg7 hat7;rw [HLI.out,HDI.out,← catM_succ D141] at ho7;have HX7:=am (IV.mk ho7 (Kd.F_after HX6.out.F hg7 hat7) hb7);clear HX HX6 HO6 ho7 hb7 hg7 hat7))
  go_roundg (n - i)
  case measure=>omega
  case rel=>exact ⟨i+1,D23,D23,by go_num,HX7⟩
end
end
end Go.Proofs.Ytajikfnpcobnpaa.PFnMatrices
-- SQUEEZED
