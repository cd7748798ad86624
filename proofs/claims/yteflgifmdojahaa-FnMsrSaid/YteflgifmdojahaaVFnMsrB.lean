import Derived.Test.YteflgifmdojahaaVFnMsrA
import Derived.Laws.StructEq
namespace Go.Proofs.Yteflgifmdojahaa.KitN
open Go.RowKit Go.Proofs.YteflgifmdojahaaW.PrintWords Go.Proofs.YteflgifmdojahaaW.PrintLast Go.Proofs.Yteflgifmdojahaa.Gf Go.Proofs.Yteflgifmdojahaa.Kit
set_option linter.unusedVariables false
set_option linter.unusedSimpArgs false
section
variable {tu ts base g n cap : Nat} {ok ok' : Nat→Prop} {W W1 : World} {R : List (List Int)} {v : Value}
theorem N_row (h : Kd.N (Kd.slice tu (Kd.int .u8)) ts W base ok (.slice (some ⟨g,0,none⟩) n cap) R) (i : Nat) (hi : i < n) :
    ∃ A c,W.cell? ⟨g,i,none⟩=some (.slice A (R.getD i []).length c)∧(R.getD i []).length≤c∧Kd.F (Kd.int .u8) W (fun k=>ok k∧k ≠ g) A (R.getD i []).length (R.getD i [])∧W.frozen? ⟨g,i,none⟩=false:=by
  obtain ⟨c,hcl,hK,hcc,hfr⟩:=Kd.N_elem h ([] : List Int) (i : Int) (by omega) (by omega)
  rw [Int.toNat_natCast] at hK hcc hfr
  obtain ⟨A,c1,rfl,hle,hF⟩:=Kd.FK_slice_open hK
  have hsz : (Kd.slice tu (Kd.int .u8)).sz=1:=rfl
  have h0:=hcc 0 _ rfl
  have hf:=hfr 0
  rw [hsz,Nat.mul_one,Nat.add_zero] at h0 hf
  exact ⟨A,c1,h0,hle,hF,hf⟩
theorem N_put (h : Kd.N (Kd.slice tu (Kd.int .u8)) ts W base ok (.slice (some ⟨g,0,none⟩) n cap) R) (i : Nat) (hi : i < n) {A : Option Addr} {c : Nat} {x : List Int} {okp : Nat→Prop}
    (hc : x.length≤c) (hF : Kd.F (Kd.int .u8) W okp A x.length x) (hokp : ∀ k,okp k→ok k∧k ≠ g) :
    Kd.N (Kd.slice tu (Kd.int .u8)) ts (W.setCell ⟨g,i,none⟩ (.slice A x.length c)) base ok (.slice (some ⟨g,0,none⟩) n cap) (R.set i x)∧W.grownBy (W.setCell ⟨g,i,none⟩ (.slice A x.length c)) (some g):=by
  obtain ⟨c0,hcl,hK,hcc,hfr⟩:=Kd.N_elem h ([] : List Int) (i : Int) (by omega) (by omega)
  have hsz : (Kd.slice tu (Kd.int .u8)).sz=1:=rfl
  have:=Kd.N_seg h (i : Int) (by omega) (by omega) (c:=c0) (seg:=[.slice A x.length c]) (j:=0) (x':=x) (okp:=okp) hcl hcc (by rw [hsz];simp) (by
    rw [List.take_zero,List.nil_append,List.drop_eq_nil_of_le (by rw [hcl,hsz];simp),List.append_nil]
    exact Kd.FK_slice_mk hc hF) hokp
  rw [Int.toNat_natCast,hsz,Nat.mul_one,Nat.add_zero] at this
  exact this
theorem N_len (h : Kd.N (Kd.slice tu (Kd.int .u8)) ts W base ok (.slice (some ⟨g,0,none⟩) n cap) R) : n=R.length∧n≤cap:=⟨(Kd.N_reads' h).1,(Kd.N_reads' h).2.1⟩
theorem F_byte {A : Option Addr} {l : List Int} {okf : Nat→Prop} (h : Kd.F (Kd.int .u8) W okf A l.length l) (i : Nat) (hi : i < l.length) : ∃ ad,A=some ad∧W.cell? (ad.add i)=some (.int .u8 (l.getD i 0)):=by
  obtain ⟨ad,rfl,hc⟩:=Kd.at_int (Kd.F_now h) (i : Int) (by omega) (by omega)
  refine ⟨ad,rfl,?_⟩
  rw [Int.toNat_natCast] at hc
  rw [hc,rd_nat]
end
end Go.Proofs.Yteflgifmdojahaa.KitN
namespace Go.Proofs.Yteflgifmdojahaa.KitN
open Go.RowKit Go.Proofs.YteflgifmdojahaaW.PrintWords Go.Proofs.YteflgifmdojahaaW.PrintLast Go.Proofs.Yteflgifmdojahaa.Gf Go.Proofs.Yteflgifmdojahaa.Kit
set_option linter.unusedVariables false
set_option linter.unusedSimpArgs false
def sqM (R : List (List Int)) : Bool:=decide (R.length≤1000) && (decide ((R.getD 0 []).length≤1000) && R.all fun r=>decide (r.length=(R.getD 0 []).length) && r.all fun x=>decide (0≤x∧x < 256))
theorem sqM_iff {R : List (List Int)} : sqM R=true↔R.length≤1000∧(R.getD 0 []).length≤1000∧∀ r ∈ R,okI (R.getD 0 []).length r:=by
  unfold sqM okI Bytes Byte
  simp only [Bool.and_eq_true,decide_eq_true_eq,List.all_eq_true]
  constructor
  · rintro ⟨h1,h2,h3⟩
    exact ⟨h1,h2,fun r hr=>⟨(h3 r hr).2,(h3 r hr).1⟩⟩
  · rintro ⟨h1,h2,h3⟩
    exact ⟨h1,h2,fun r hr=>⟨(h3 r hr).2,(h3 r hr).1⟩⟩
theorem C_row {tu : Nat} {w : World} {A : Option Addr} {n : Nat} {xs : List (List Int)} (h : Kd.C (Kd.slice tu (Kd.int .u8)) w A n xs) (i : Nat) (h1 : i < n) :
    ∃ ad A0 c0,A=some ad∧w.cell? (ad.add i)=some (.slice A0 (xs.getD i []).length c0)∧(xs.getD i []).length≤c0∧Kd.C (Kd.int .u8) w A0 (xs.getD i []).length (xs.getD i []):=by
  obtain ⟨ad,c,e,_,hK,hc0⟩:=Kd.C_get h ([] : List Int) (i : Int) (by omega) (by omega)
  have hc : ∀ j u,c[j]? = some u→w.cell? (ad.add ((i : Int).toNat*1+j))=some u:=hc0
  rw [Int.toNat_natCast] at hK
  obtain ⟨A0,c0,rfl,l0,g0⟩:=hK
  exact ⟨ad,A0,c0,e,by have hq:=hc 0 _ rfl;rwa [Nat.mul_one,Nat.add_zero,Int.toNat_natCast] at hq,l0,g0⟩
end Go.Proofs.Yteflgifmdojahaa.KitN
namespace Go.Proofs.Yteflgifmdojahaa.KitN
open Go.RowKit Go.Proofs.YteflgifmdojahaaW.PrintWords Go.Proofs.YteflgifmdojahaaW.PrintLast Go.Proofs.Yteflgifmdojahaa.Gf Go.Proofs.Yteflgifmdojahaa.Kit
set_option linter.unusedVariables false
set_option linter.unusedSimpArgs false
theorem idM_length (n : Nat) : (idM n).length=n:=by simp [idM]
theorem idM_getD {n i : Nat} (h : i < n) : (idM n).getD i []=(List.replicate n 0).set i 1:=by simp [idM,List.getD,h]
theorem idM_ok (n : Nat) : ∀ r ∈ idM n,okI n r:=by
  intro r hr
  simp only [idM,List.mem_map] at hr
  obtain ⟨i,_,rfl⟩:=hr
  refine ⟨fun x hx=>?_,by simp⟩
  rcases List.mem_or_eq_of_mem_set hx with h | h
  · rw [(List.mem_replicate.1 h).2];exact .zero
  · rw [h];exact .one
def catM (l : List (List Int)) : List (List Int):=List.zipWith (· ++ ·) l (idM l.length)
theorem catM_length (l : List (List Int)) : (catM l).length=l.length:=by simp [catM,idM_length]
theorem catM_succ {l : List (List Int)} {i : Nat} (h : i < l.length) : (catM l).take (i+1)=(catM l).take i ++ [l.getD i [] ++ (idM l.length).getD i []]:=by
  rw [List.take_succ_eq_append_getElem (by rw [catM_length];exact h)]
  congr 2
  have h2 : i < (idM l.length).length:=by rw [idM_length];exact h
  simp only [catM,List.getElem_zipWith]
  rw [List.getD_eq_getElem?_getD,List.getD_eq_getElem?_getD,List.getElem?_eq_getElem h,List.getElem?_eq_getElem h2];rfl
theorem catM_zip (l : List (List Int)) : catM l=(l.zip (idM l.length)).map fun r=>r.1 ++ r.2:=by
  unfold catM
  rw [List.zip,List.map_zipWith]
theorem zip_ok {l m : List (List Int)} {a b : Nat} (h : ∀ r ∈ l,okI a r) (k : ∀ r ∈ m,okI b r) : ∀ r ∈ l.zip m,okP a b r:=by
  intro r hr
  obtain ⟨x,y⟩:=r
  have:=List.of_mem_zip hr
  exact ⟨h x this.1,k y this.2⟩
def redP (l m : List (List Int)) (n : Nat) : List (List Int × List Int) × Nat:=rowP.red (l.zip m) n
def invM (l : List (List Int)) : List (List Int) × Bool:=if (redP l (idM l.length) l.length).2 < l.length then ([],false) else ((redP l (idM l.length) l.length).1.map Prod.snd,true)
def sqN (l : List (List Int)) : Bool:=sqM l && (decide (1≤l.length) && decide ((l.getD 0 []).length=l.length))
theorem sqN_iff {l : List (List Int)} : sqN l=true↔1≤l.length∧l.length≤1000∧∀ r ∈ l,okI l.length r:=by
  unfold sqN
  rw [Bool.and_eq_true,Bool.and_eq_true,decide_eq_true_eq,decide_eq_true_eq,sqM_iff]
  constructor
  · rintro ⟨⟨h1,h2,h3⟩,h4,h5⟩
    rw [h5] at h3
    exact ⟨h4,h1,h3⟩
  · rintro ⟨h1,h2,h3⟩
    have h4 : (l.getD 0 []).length=l.length:=(RowK.at_all (O:=rowI) h3 (i:=0) (by omega)).2
    refine ⟨⟨h2,by omega,?_⟩,h1,h4⟩
    rw [h4];exact h3
theorem catM_ok {l : List (List Int)} (h : ∀ r ∈ l,okI l.length r) : ∀ r ∈ catM l,okI (l.length+l.length) r:=by
  rw [catM_zip]
  intro r hr
  obtain ⟨p,hp,rfl⟩:=List.mem_map.1 hr
  have:=zip_ok h (idM_ok l.length) p hp
  exact ⟨this.1.1.append this.2.1,by rw [List.length_append,this.1.2,this.2.2]⟩
theorem catM_red {l : List (List Int)} (h : ∀ r ∈ l,okI l.length r) : rowI.red (catM l) l.length=((redP l (idM l.length) l.length).1.map fun r=>r.1 ++ r.2,(redP l (idM l.length) l.length).2):=by
  rw [catM_zip]
  exact RowK.red_map (shutP l.length l.length) (hom_cat l.length l.length) (zip_ok h (idM_ok l.length)) l.length (Nat.le_refl _)
theorem redP_ok {l m : List (List Int)} {a b n : Nat} (h : ∀ r ∈ l,okI a r) (k : ∀ r ∈ m,okI b r) : ∀ r ∈ (redP l m n).1,okP a b r:=RowK.red_all (shutP a b) (zip_ok h k) n
theorem redP_length (l m : List (List Int)) (n : Nat) (h : l.length=m.length) : (redP l m n).1.length=l.length:=by
  unfold redP
  rw [RowK.red_length,List.length_zip,h,Nat.min_self]
theorem catM_out {l : List (List Int)} (h : ∀ r ∈ l,okI l.length r) : (rowI.red (catM l) l.length).1.map (List.drop l.length)=(redP l (idM l.length) l.length).1.map Prod.snd:=by
  rw [catM_red h,List.map_map]
  apply List.map_congr_left
  intro r hr
  have:=redP_ok (n:=l.length) h (idM_ok l.length) r hr
  show List.drop l.length (r.1 ++ r.2)=r.2
  rw [List.drop_append,List.drop_eq_nil_of_le (by rw [this.1.2];exact Nat.le_refl _),this.1.2,Nat.sub_self]
  simp
theorem red_rank_le (l m : List (List Int)) (n : Nat) : (redP l m n).2≤n:=(RowK.red_rank (O:=rowP) (l.zip m) n).1
theorem FK_of_R {tu e base n c : Nat} {W : World} {ok : Nat→Prop} {A : Option Addr} {x : List Int} (h : Kd.R (Kd.int .u8) e W base ok (.slice A n c) x) : Kd.FK (Kd.slice tu (Kd.int .u8)) W ok x [.slice A n c]:=by
  have e:=(Kd.R_reads' h).1
  subst e
  exact Kd.FK_slice_mk (Kd.R_reads' h).2.1 (Kd.R_F h)
end Go.Proofs.Yteflgifmdojahaa.KitN
namespace Go.Proofs.Yteflgifmdojahaa.KitN
open Go.RowKit Go.Proofs.YteflgifmdojahaaW.PrintWords Go.Proofs.YteflgifmdojahaaW.PrintLast Go.Proofs.Yteflgifmdojahaa.Gf Go.Proofs.Yteflgifmdojahaa.Kit
set_option linter.unusedVariables false
set_option linter.unusedSimpArgs false
section
variable {L L1 : List (List Int × List Int)} {k a len p : Nat}
theorem fst_at (L : List (List Int × List Int)) (i : Nat) : (L.map Prod.fst).getD i []=(L.getD i rowP.nul).1:=by
  rw [List.getD_eq_getElem?_getD,List.getD_eq_getElem?_getD,List.getElem?_map]
  cases L[i]? <;> rfl
theorem snd_at (L : List (List Int × List Int)) (i : Nat) : (L.map Prod.snd).getD i []=(L.getD i rowP.nul).2:=by
  rw [List.getD_eq_getElem?_getD,List.getD_eq_getElem?_getD,List.getElem?_map]
  cases L[i]? <;> rfl
theorem get_at (L : List (List Int × List Int)) (i k : Nat) : rowP.get (L.getD i rowP.nul) k=((L.map Prod.fst).getD i []).getD k 0:=by rw [fst_at];rfl
theorem rp_none (hq : (L1,a)=rowP.red L k) (hl : L.length=len) (ha : a < len) (hl1 : L1.length=len) (h : ∀ i,a≤i→i < len→((L1.map Prod.fst).getD i []).getD k 0=0) : rowP.red L (k+1)=(L1,a):=by
  show (if (rowP.red L k).2 < L.length then rowP.stp k (rowP.red L k) else rowP.red L k)=_
  rw [← hq,hl,if_pos ha]
  unfold RowK.stp
  have e : rowP.piv L1 k a=none:=RowK.piv_none (fun j h1 h2=>by rw [get_at];exact h j h1 (by omega))
  show (match rowP.piv L1 k a with | none=>(L1,a) | some i=>(rowP.clr k a (rowP.lift L1 k a i) L1.length,a+1))=_
  rw [e]
theorem rp_some (hq : (L1,a)=rowP.red L k) (hl : L.length=len) (ha : a < len) (hl1 : L1.length=len) (h1 : a≤p) (h2 : p < len) (hp : ((L1.map Prod.fst).getD p []).getD k 0 ≠ 0) (h : ∀ i,a≤i→i < p→((L1.map Prod.fst).getD i []).getD k 0=0) :
    rowP.red L (k+1)=(rowP.clr k a (rowP.lift L1 k a p) len,a+1):=by
  show (if (rowP.red L k).2 < L.length then rowP.stp k (rowP.red L k) else rowP.red L k)=_
  rw [← hq,hl,if_pos ha]
  unfold RowK.stp
  have e : rowP.piv L1 k a=some p:=RowK.piv_some h1 (by omega) (by rw [get_at];exact hp) (fun j g1 g2=>by rw [get_at];exact h j g1 g2)
  show (match rowP.piv L1 k a with | none=>(L1,a) | some i=>(rowP.clr k a (rowP.lift L1 k a i) L1.length,a+1))=_
  rw [e,← hl1]
theorem rp_lift_fst (L1 : List (List Int × List Int)) (k a p : Nat) : (rowP.lift L1 k a p).map Prod.fst=((L1.map Prod.fst).set p ((L1.map Prod.fst).getD a [])).set a (scale (inv (((L1.map Prod.fst).getD p []).getD k 0)) ((L1.map Prod.fst).getD p [])):=by
  unfold RowK.lift
  rw [List.map_set,List.map_set,fst_at,fst_at]
  rfl
theorem rp_lift_snd (L1 : List (List Int × List Int)) (k a p : Nat) : (rowP.lift L1 k a p).map Prod.snd=((L1.map Prod.snd).set p ((L1.map Prod.snd).getD a [])).set a (scale (inv (((L1.map Prod.fst).getD p []).getD k 0)) ((L1.map Prod.snd).getD p [])):=by
  unfold RowK.lift
  rw [List.map_set,List.map_set,snd_at,snd_at,fst_at]
  rfl
theorem rp_clr_skip {r : Nat} (h : r=a∨(((rowP.clr k a L r).map Prod.fst).getD r []).getD k 0=0) : rowP.clr k a L (r+1)=rowP.clr k a L r:=by
  show (if r ≠ a∧rowP.get ((rowP.clr k a L r).getD r rowP.nul) k ≠ 0 then _ else rowP.clr k a L r)=_
  rw [if_neg]
  rw [get_at]
  intro z
  rcases h with e | e
  · exact z.1 e
  · exact z.2 e
theorem rp_clr_do {r : Nat} {y : Int} (h : r ≠ a) (hy : (((rowP.clr k a L r).map Prod.fst).getD r []).getD k 0=y) (h2 : y ≠ 0) :
    (rowP.clr k a L (r+1)).map Prod.fst=((rowP.clr k a L r).map Prod.fst).set r (addV (((rowP.clr k a L r).map Prod.fst).getD r []) (scale y (((rowP.clr k a L r).map Prod.fst).getD a []))) ∧
    (rowP.clr k a L (r+1)).map Prod.snd=((rowP.clr k a L r).map Prod.snd).set r (addV (((rowP.clr k a L r).map Prod.snd).getD r []) (scale y (((rowP.clr k a L r).map Prod.snd).getD a []))):=by
  have e : rowP.clr k a L (r+1)=(rowP.clr k a L r).set r (rowP.ad ((rowP.clr k a L r).getD r rowP.nul) (rowP.sc y ((rowP.clr k a L r).getD a rowP.nul))):=by
    show (if r ≠ a∧rowP.get ((rowP.clr k a L r).getD r rowP.nul) k ≠ 0 then (rowP.clr k a L r).set r (rowP.ad ((rowP.clr k a L r).getD r rowP.nul) (rowP.sc (rowP.get ((rowP.clr k a L r).getD r rowP.nul) k) ((rowP.clr k a L r).getD a rowP.nul))) else rowP.clr k a L r)=_
    rw [get_at,hy,if_pos ⟨h,h2⟩]
  rw [e,List.map_set,List.map_set,fst_at,fst_at,snd_at,snd_at]
  exact ⟨rfl,rfl⟩
theorem fst_all {m1 m2 : Nat} (h : ∀ r ∈ L,okP m1 m2 r) : ∀ r ∈ L.map Prod.fst,okI m1 r:=by
  intro r hr
  obtain ⟨x,hx,rfl⟩:=List.mem_map.1 hr
  exact (h x hx).1
theorem snd_all {m1 m2 : Nat} (h : ∀ r ∈ L,okP m1 m2 r) : ∀ r ∈ L.map Prod.snd,okI m2 r:=by
  intro r hr
  obtain ⟨x,hx,rfl⟩:=List.mem_map.1 hr
  exact (h x hx).2
theorem zip_fst {l m : List (List Int)} (h : l.length=m.length) : (l.zip m).map Prod.fst=l:=List.map_fst_zip (by omega)
theorem zip_snd {l m : List (List Int)} (h : l.length=m.length) : (l.zip m).map Prod.snd=m:=List.map_snd_zip (by omega)
end
end Go.Proofs.Yteflgifmdojahaa.KitN
namespace Go.Proofs.Yteflgifmdojahaa.KitN
open Go.RowKit Go.Proofs.YteflgifmdojahaaW.PrintWords Go.Proofs.YteflgifmdojahaaW.PrintLast
theorem results_cct {P : Program} {fn : Func} {p p' u : Tmp} {ty ty' : TypeId} (h : fn.results = #[.cell p ty, .cell p' ty', .tmp u]) (tmps : Array Value) (w : World) (g g' : Nat) (t t' : TypeId) (cs cs' : Array Value) (fr fr' : Nat × Nat) (d d' : TypeDesc)
    (hp : tmps.getD p undef = .pointer (some ⟨g,0,none⟩)) (hg : w.heap[g]? = some (.cells cs t fr))
    (hu : P.underlying ty=some d) (hd : (match d with | .struct _ | .array _ _=>true | _=>false)=true) (hi : (P.info? ty).map (·.size)=some cs.size)
    (hp' : tmps.getD p' undef = .pointer (some ⟨g',0,none⟩)) (hg' : w.heap[g']? = some (.cells cs' t' fr'))
    (hu' : P.underlying ty'=some d') (hd' : (match d' with | .struct _ | .array _ _=>true | _=>false)=true) (hi' : (P.info? ty').map (·.size)=some cs'.size) :
    (results fn tmps).run P w = .ok (.tuple #[.agg cs, .agg cs',tmps.getD u undef]) w:=by
  have h1 : tmps[p]?.getD undef = .pointer (some ⟨g,0,none⟩):=by simpa using hp
  have h2 : tmps[p']?.getD undef = .pointer (some ⟨g',0,none⟩):=by simpa using hp'
  simp [results,h,h1,h2,asAddr,run_loadVar_row w g t ty cs fr d hg hu hd hi,run_loadVar_row w g' t' ty' cs' fr' d' hg' hu' hd' hi']
end Go.Proofs.Yteflgifmdojahaa.KitN
namespace Go.Proofs.Yteflgifmdojahaa.KitN
open Go.RowKit Go.Proofs.YteflgifmdojahaaW.PrintWords Go.Proofs.YteflgifmdojahaaW.PrintLast Go.Proofs.Yteflgifmdojahaa.Gf Go.Proofs.Yteflgifmdojahaa.Kit
set_option linter.unusedVariables false
theorem el_set_all {m : Nat} {R : List (List Int)} (h : ∀ r ∈ R,okI m r) {x : List Int} (hx : okI m x) (i : Nat) : ∀ r ∈ R.set i x,okI m r:=RowK.set_all (P:=okI m) h hx i
theorem el_scale {m : Nat} {x : List Int} {a : Int} (ha : Byte a) (h : okI m x) : okI m (scale a x):=(shutI m).sc a x ha h
theorem el_add {m : Nat} {x y : List Int} (h : okI m x) (k : okI m y) : okI m (addV x y):=(shutI m).ad x y h k
section
variable {wr : World} {m : Nat}
theorem F_m {A : Option Addr} {l : List Int} {okf : Nat→Prop} (h : Kd.F (Kd.int .u8) wr okf A m l) (hl : l.length=m) (i : Nat) (hi : i < m) : ∃ ad,A=some ad∧wr.cell? (ad.add i)=some (.int .u8 (l.getD i 0)):=by
  subst hl
  exact F_byte h i hi
theorem F_C {A : Option Addr} {l : List Int} {okf : Nat→Prop} (h : Kd.F (Kd.int .u8) wr okf A m l) (hl : l.length=m) : Kd.C (Kd.int .u8) wr A l.length l:=by
  subst hl
  exact Kd.F_now h
end
end Go.Proofs.Yteflgifmdojahaa.KitN
-- PRINTED BY print.sh 35421559b90ae4d0a3588c463048766b98c2df88dd9212a6774a882060cdf62d: not written by this session
namespace Go.Proofs.YteflgifmdojahaaW.PrintLast
open Go.Proofs.YteflgifmdojahaaW.PrintWords (Aside0)
def needsOf (md : Region.Mode) (o : Oper) : List Nat:=(o.after.toList.filter (fun e=>Region.binds md e)).map (fun e=>e.on)
def clashOf (md : Region.Mode) (ops : Array Oper) (i : Nat) (oi : Oper) : List Nat:=(List.range ops.size).filter fun j=>!(j == i) && match ops[j]? with
  | some oj=>!(oj.after.any (fun e=>Region.binds md e && e.on == i) || oi.apart ops oj)
  | none=>false
def rtab (md : Region.Mode) (ops : Array Oper) : Bool × List (List Nat × List Nat):=(Region.noSelect ops,(List.range ops.size).map fun i=>match ops[i]? with
  | some o=>(needsOf md o,clashOf md ops i o)
  | none=>([],[]))
def readyAt (T : List (List Nat × List Nat)) (l : List Bool) (i : Nat) : Bool:=!l.getD i true && match T[i]? with
  | some r=>r.1.all (fun j=>l.getD j false)
  | none=>false
def readyT (T : List (List Nat × List Nat)) (l : List Bool) : List Nat:=(List.range T.length).filter (readyAt T l)
def freeT (T : List (List Nat × List Nat)) (l : List Bool) (i : Nat) : Bool:=match T[i]? with
  | some r=>r.2.all (fun j=>l.getD j true)
  | none=>false
def closedT (T : List (List Nat × List Nat)) (l : List Bool) : Bool:=(List.range T.length).all fun j=>!l.getD j false || match T[j]? with
  | some r=>r.1.all (fun k=>l.getD k false)
  | none=>true
def reachT (T : List (List Nat × List Nat)) (i : Nat) : Nat→Nat→Bool
  | 0,_=>false
  | fuel+1,d=>match T[d]? with
    | some r=>r.1.any fun j=>j == i || reachT T i fuel j
    | none=>false
def lastT (T : List (List Nat × List Nat)) (l : List Bool) (ds : List Nat) (i : Nat) : Bool:=ds.all fun d=>l.getD d true || reachT T i T.length d
section
variable {md : Region.Mode} {ops : Array Oper} {T : Bool × List (List Nat × List Nat)} {l l' li lj lk : Array Bool} {ds : List Nat} {i j k : Nat}
theorem gd (l : Array Bool) (j : Nat) (b : Bool) : l.getD j b=l.toList.getD j b:=by simp [Array.getD_eq_getD_getElem?,List.getD_eq_getElem?_getD]
theorem needs_all (o : Oper) (p : Nat→Bool) : o.after.all (fun e=>!Region.binds md e || p e.on)=(needsOf md o).all p:=by
  unfold needsOf
  rw [← Array.all_toList]
  induction o.after.toList with
  | nil=>rfl
  | cons e r ih =>
    rw [List.all_cons,ih,List.filter_cons]
    cases h : Region.binds md e <;> simp
theorem needs_any (o : Oper) (p : Nat→Bool) : o.after.any (fun e=>Region.binds md e && p e.on)=(needsOf md o).any p:=by
  unfold needsOf
  rw [← Array.any_toList]
  induction o.after.toList with
  | nil=>rfl
  | cons e r ih =>
    rw [List.any_cons,ih,List.filter_cons]
    cases h : Region.binds md e <;> simp
theorem rtab_length : (rtab md ops).2.length=ops.size:=by simp [rtab]
theorem rtab_some {o : Oper} (h : ops[i]? = some o) : (rtab md ops).2[i]? = some (needsOf md o,clashOf md ops i o):=by
  have hi:=(Array.getElem?_eq_some_iff.1 h).1
  unfold rtab
  rw [List.getElem?_map,List.getElem?_range hi,Option.map_some,h]
theorem rtab_none (h : ops[i]? = none) : (rtab md ops).2[i]? = none:=by
  have hi : ops.size≤i:=Array.getElem?_eq_none_iff.1 h
  exact List.getElem?_eq_none (by rw [rtab_length];exact hi)
theorem readyAt_eq : readyAt (rtab md ops).2 l.toList i=(!l.getD i true && ((ops[i]?).map (·.after.all fun e=>!Region.binds md e || l.getD e.on false)).getD false):=by
  unfold readyAt
  rw [gd]
  cases h : ops[i]? with
  | none=>rw [rtab_none h];rfl
  | some o =>
    rw [rtab_some h]
    simp only [Option.map_some,Option.getD_some]
    rw [← needs_all]
    simp only [gd]
theorem ready_eq : Region.ready md ops l=readyT (rtab md ops).2 l.toList:=by
  unfold Region.ready readyT
  rw [rtab_length]
  refine List.filter_congr (fun i _=>?_)
  rw [readyAt_eq]
theorem free_eq : Region.free md ops l i=freeT (rtab md ops).2 l.toList i:=by
  unfold Region.free freeT
  cases h : ops[i]? with
  | none=>rw [rtab_none h]
  | some oi =>
    rw [rtab_some h]
    simp only [clashOf]
    rw [List.all_filter]
    congr 1
    funext j
    rw [gd]
    cases hj : ops[j]? with
    | none=>cases (j == i) <;> cases (l.toList.getD j true) <;> simp
    | some oj =>
      cases (j == i) <;> cases (l.toList.getD j true) <;> cases (oj.after.any (fun e=>Region.binds md e && e.on == i) || oi.apart ops oj) <;> simp_all
theorem closed_eq : Region.closedB md ops l=closedT (rtab md ops).2 l.toList:=by
  unfold Region.closedB closedT
  rw [rtab_length]
  congr 1
  funext j
  rw [gd]
  cases h : ops[j]? with
  | none=>rw [rtab_none h]
  | some o =>
    rw [rtab_some h]
    simp only
    rw [← needs_all]
    simp only [gd]
theorem reach_eq : ∀ (fuel d : Nat),Region.reachB md ops i fuel d=reachT (rtab md ops).2 i fuel d
  | 0,_=>rfl
  | fuel+1,d=>by
    unfold Region.reachB reachT
    cases h : ops[d]? with
    | none=>rw [rtab_none h]
    | some o =>
      rw [rtab_some h]
      simp only
      rw [← needs_any]
      congr 1
      funext e
      rw [reach_eq fuel]
theorem last_eq : Region.lastB md ops l ds i=lastT (rtab md ops).2 l.toList ds i:=by
  unfold Region.lastB lastT
  rw [rtab_length]
  congr 1
  funext d
  rw [gd,reach_eq]
theorem readyAt_mem (h : readyAt T.2 l.toList i=true) (hT : rtab md ops=T) : (Region.ready md ops l).contains i=true:=by
  subst hT
  rw [ready_eq]
  unfold readyT
  rw [List.contains_iff_mem,List.mem_filter,List.mem_range]
  refine ⟨?_,h⟩
  unfold readyAt at h
  rw [Bool.and_eq_true] at h
  cases hq : (rtab md ops).2[i]? with
  | none=>rw [hq] at h;simp at h
  | some r=>exact (List.getElem?_eq_some_iff.1 hq).1
theorem set_of (h : (l.toList.set i true == l'.toList)=true) : (l.setIfInBounds i true == l')=true:=by
  rw [beq_iff_eq] at h ⊢
  apply Array.ext'
  rw [Array.toList_setIfInBounds]
  exact h
def anyT (T : Bool × List (List Nat × List Nat)) (l l' : List Bool) (i : Nat) : Bool:=T.1 && freeT T.2 l i && readyAt T.2 l i && (l.set i true == l')
theorem any_of (hT : rtab md ops=T) (h : anyT T l.toList l'.toList i=true) : anyB md ops l l' i=true:=by
  simp only [anyT,Bool.and_eq_true] at h
  obtain ⟨⟨⟨h1,h2⟩,h3⟩,h4⟩:=h
  have h5:=readyAt_mem h3 hT
  have h6:=set_of h4
  subst hT
  simp only [anyB,Bool.and_eq_true]
  exact ⟨⟨⟨h1,by rw [free_eq];exact h2⟩,h5⟩,h6⟩
def takeT (T : Bool × List (List Nat × List Nat)) (ds : List Nat) (l l' : List Bool) (i : Nat) : Bool:=T.1 && freeT T.2 l i && readyAt T.2 l i && closedT T.2 l && lastT T.2 l ds i && (l.set i true == l')
theorem take_of (hT : rtab md ops=T) (h : takeT T ds l.toList l'.toList i=true) : takeB md ops ds l l' i=true:=by
  simp only [takeT,Bool.and_eq_true] at h
  obtain ⟨⟨⟨⟨⟨h1,h2⟩,h3⟩,h4⟩,h5⟩,h6⟩:=h
  have h7:=readyAt_mem h3 hT
  have h8:=set_of h6
  subst hT
  simp only [takeB,Bool.and_eq_true]
  exact ⟨⟨⟨⟨⟨h1,by rw [free_eq];exact h2⟩,h7⟩,by rw [closed_eq];exact h4⟩,by rw [last_eq];exact h5⟩,h8⟩
theorem one_of (hT : rtab md ops=T) (h : (readyT T.2 l.toList == [i] && l.toList.set i true == l'.toList)=true) : readyB md ops l l' i=true:=by
  simp only [Bool.and_eq_true] at h
  obtain ⟨h1,h2⟩:=h
  subst hT
  simp only [readyB,Bool.and_eq_true]
  exact ⟨by rw [ready_eq];exact h1,set_of h2⟩
theorem two_of (hT : rtab md ops=T) (h : (readyT T.2 l.toList == [i,j] && l.toList.set i true == li.toList && l.toList.set j true == lj.toList)=true) : (Region.ready md ops l == [i,j] && l.setIfInBounds i true == li && l.setIfInBounds j true == lj)=true:=by
  simp only [Bool.and_eq_true] at h ⊢
  obtain ⟨⟨h1,h2⟩,h3⟩:=h
  subst hT
  exact ⟨⟨by rw [ready_eq];exact h1,set_of h2⟩,set_of h3⟩
theorem done_of (hT : rtab md ops=T) (h : (readyT T.2 l.toList == [])=true) : (Region.ready md ops l == [])=true:=by
  subst hT
  rw [ready_eq]
  exact h
def upM (B : List Nat) (d : Nat) : List Nat→Nat
  | []=>0
  | n :: r=>(2 ^ n ||| (if n < d then B.getD n 0 else 0)) ||| upM B d r
def waitsOk (T : List (List Nat × List Nat)) (B : List Nat) : Bool:=(List.range T.length).all fun d=>match T[d]? with
  | some r=>(B.getD d 0 ||| upM B d r.1) == upM B d r.1
  | none=>false
theorem upM_bit {B : List Nat} {d i : Nat} : ∀ {ns : List Nat},(upM B d ns).testBit i=true→∃ n ∈ ns,n=i∨(n < d∧(B.getD n 0).testBit i=true)
  | [],h=>by simp [upM] at h
  | n :: r,h=>by
    unfold upM at h
    rw [Nat.testBit_or,Nat.testBit_or,Bool.or_eq_true,Bool.or_eq_true] at h
    rcases h with (h | h) | h
    · rw [Nat.testBit_two_pow] at h
      exact ⟨n,List.mem_cons_self, .inl (by simpa using h)⟩
    · by_cases hn : n < d
      · rw [if_pos hn] at h
        exact ⟨n,List.mem_cons_self, .inr ⟨hn,h⟩⟩
      · rw [if_neg hn] at h
        simp at h
    · obtain ⟨m,hm,h2⟩:=upM_bit h
      exact ⟨m,List.mem_cons_of_mem _ hm,h2⟩
theorem reach_bit {T : List (List Nat × List Nat)} {B : List Nat} (hB : waitsOk T B=true) : ∀ (fuel d : Nat),d < fuel→d < T.length→(B.getD d 0).testBit i=true→reachT T i fuel d=true
  | 0,d,h,_,_=>by omega
  | fuel+1,d,h,hd,hb=>by
    have h1:=List.all_eq_true.1 hB d (List.mem_range.2 hd)
    cases hr : T[d]? with
    | none=>rw [hr] at h1;simp at h1
    | some r =>
      rw [hr] at h1
      simp only [beq_iff_eq] at h1
      have h2 : (upM B d r.1).testBit i=true:=by rw [← h1,Nat.testBit_or,hb,Bool.true_or]
      obtain ⟨n,hn,h3⟩:=upM_bit h2
      unfold reachT
      rw [hr]
      simp only
      rw [List.any_eq_true]
      refine ⟨n,hn,?_⟩
      rcases h3 with rfl | ⟨h4,h5⟩
      · simp
      · rw [reach_bit hB fuel n (by omega) (by omega) h5,Bool.or_true]
def lastW (T : List (List Nat × List Nat)) (B : List Nat) (l : List Bool) (ds : List Nat) (i : Nat) : Bool:=ds.all fun d=>l.getD d true || (decide (d < T.length) && (B.getD d 0).testBit i)
def takeW (T : Bool × List (List Nat × List Nat)) (B : List Nat) (ds : List Nat) (l l' : List Bool) (i : Nat) : Bool:=T.1 && freeT T.2 l i && readyAt T.2 l i && closedT T.2 l && lastW T.2 B l ds i && (l.set i true == l')
theorem take_ofW {B : List Nat} (hT : rtab md ops=T) (hB : waitsOk T.2 B=true) (h : takeW T B ds l.toList l'.toList i=true) : takeB md ops ds l l' i=true:=by
  refine take_of hT ?_
  simp only [takeW,takeT,Bool.and_eq_true] at h ⊢
  obtain ⟨⟨⟨⟨⟨h1,h2⟩,h3⟩,h4⟩,h5⟩,h6⟩:=h
  refine ⟨⟨⟨⟨⟨h1,h2⟩,h3⟩,h4⟩,?_⟩,h6⟩
  unfold lastW at h5
  unfold lastT
  rw [List.all_eq_true] at h5 ⊢
  intro d hd
  have h7:=h5 d hd
  rw [Bool.or_eq_true,Bool.and_eq_true,decide_eq_true_eq] at h7
  rcases h7 with h7 | ⟨h8,h9⟩
  · rw [h7,Bool.true_or]
  · rw [reach_bit hB _ d h8 h8 h9,Bool.or_true]
theorem with_tabW {P : Program} {Q : Exit→Act→World→Prop} {S : World→Prop} {n : Nat} {a : Act} {w : World} {B : List Nat} (hT : rtab md ops=T) (hB : waitsOk T.2 B=true) (h : Aside0 (rtab md ops=T)→Aside0 (waitsOk T.2 B=true)→wpAnyLast P md ops Q S ds n l a w) : wpAnyLast P md ops Q S ds n l a w:=h ⟨hT⟩ ⟨hB⟩
end
def opsIn : Code→Nat→Option (Array Oper)
  | .region id ops _,k=>if id == k then some ops else none
  | .seq a b,k=>match opsIn a k with
    | some o=>some o
    | none=>opsIn b k
  | .cond _ a b,k=>match opsIn a k with
    | some o=>some o
    | none=>opsIn b k
  | .block _ c,k=>opsIn c k
  | .loop c,k=>opsIn c k
  | .scope c,k=>opsIn c k
  | .rangeFunc _ _ a b,k=>match opsIn a k with
    | some o=>some o
    | none=>opsIn b k
  | _,_=>none
def opsOf (f : Func) (k : Nat) : Array Oper:=((f.body.bind fun c=>opsIn c k)).getD #[]
end Go.Proofs.YteflgifmdojahaaW.PrintLast
namespace Go.Proofs.Yteflgifmdojahaa.KitR
open Go.RowKit Go.Proofs.YteflgifmdojahaaW.PrintWords Go.Proofs.YteflgifmdojahaaW.PrintLast
set_option linter.unusedVariables false
set_option linter.unusedSimpArgs false
section
variable {P : Program} {md : Region.Mode} {ops : Array Oper} {Q : Exit→Act→World→Prop} {S : World→Prop} {ds : List Nat} {T : Bool × List (List Nat × List Nat)} {B : List Nat}
def lst (n : Nat) : List Nat→Array Bool
  | []=>Array.replicate n false
  | i :: s=>(lst n s).setIfInBounds i true
def lsl (n : Nat) : List Nat→List Bool
  | []=>List.replicate n false
  | i :: s=>(lsl n s).set i true
theorem lst_l (n : Nat) : ∀ s,(lst n s).toList=lsl n s
  | []=>by simp [lst,lsl]
  | i :: s=>by simp [lst,lsl,lst_l n s]
def Todo (r : List (Nat × Nat)) (p : Prop) : Prop:=p
theorem rS {id n : Nat} {a : Act} {w : World} (r : List (Nat × Nat)) (hn : ops.size=n) (hm : P.follows .mixedOrders=true) (hT : rtab .any ops=T) (hB : waitsOk T.2 B=true) (hS : S w.drew)
    (h : S w.drew→Aside0 (rtab .any ops=T)→Aside0 (waitsOk T.2 B=true)→Todo r (wpAnyLast P .any ops Q S ds n (lst n []) a w.drew)) : (Code.region id ops true).wp P Q a w :=
  start_ (Array.replicate n false) hm hn rfl hS fun h1=>h h1 ⟨hT⟩ ⟨hB⟩
theorem rP {i u : Nat} {oi : Oper} {v : Value} {fuel n : Nat} {s : List Nat} {r : List (Nat × Nat)} {a : Act} {w : World} (hT : Aside0 (rtab md ops=T)) (hi : ops[i]? = some oi) (hN : oi.dst=some u) (hc : anyT T (lsl n s) ((lsl n s).set i true) i=true)
    (hQ : ∀ c a w,Q (.panic c) (a.put oi.dst v) w→Q (.panic c) a w) (hy : Yields P ops oi v a) {a' : Act} (ha : a.put (some u) v=a') (h : Todo r (wpAnyLast P md ops Q S ds fuel (lst n (i :: s)) a' w)) :
    Todo ((i,u) :: r) (wpAnyLast P md ops Q S ds (fuel+1) (lst n s) a w) :=
  pure_ (lst n (i :: s)) hi hN (any_of hT.out (by rw [lst_l,lst_l];exact hc)) hQ hy ha h
theorem rT {i u : Nat} {oi : Oper} {v : Value} {fuel n : Nat} {s : List Nat} {r : List (Nat × Nat)} {a : Act} {w : World} (hT : Aside0 (rtab md ops=T)) (hB : Aside0 (waitsOk T.2 B=true)) (hS : S w) (hi : ops[i]? = some oi) (hN : oi.dst=some u) (hc : takeW T B ds (lsl n s) ((lsl n s).set i true) i=true)
    (hQ : ∀ c a w,Q (.panic c) (a.put oi.dst v) w→Q (.panic c) a w) (hy : YieldsIf P ops S oi v a) {a' : Act} (ha : a.put (some u) v=a') (h : Todo r (wpAnyLast P md ops Q S ds fuel (lst n (i :: s)) a' w)) :
    Todo ((i,u) :: r) (wpAnyLast P md ops Q S ds (fuel+1) (lst n s) a w) :=
  take_ (lst n (i :: s)) hi hN (take_ofW hT.out hB.out (by rw [lst_l,lst_l];exact hc)) hQ hy hS ha h
theorem rO {i u : Nat} {N : Option Tmp} {oi : Oper} {fuel n : Nat} {s : List Nat} {r : List (Nat × Nat)} {a : Act} {w : World} (hT : Aside0 (rtab md ops=T)) (hi : ops[i]? = some oi) (hN : oi.dst=N) (hc : (readyT T.2 (lsl n s) == [i])=true) (hd : i ∉ ds)
    (h : ∀ K : Act→World→Prop,Shut (∀ a' w',S w'→(S w'→Todo r (wpAnyLast P md ops Q S ds fuel (lst n (i :: s)) a' w'))→K a' w')→if Region.wanted oi (yielded ops a.tmps)=true then Oper.wp P oi a w K Q else K (a.put N undef) w) :
    Todo ((i,u) :: r) (wpAnyLast P md ops Q S ds (fuel+1) (lst n s) a w) :=
  one_ (lst n (i :: s)) hi hN (one_of hT.out (by rw [lst_l,lst_l,hc];show (true && ((lsl n s).set i true == (lsl n s).set i true))=true;simp)) hd h
theorem rL {i u : Nat} {N : Option Tmp} {oi : Oper} {fuel n : Nat} {s : List Nat} {r : List (Nat × Nat)} {a : Act} {w : World} (hT : Aside0 (rtab md ops=T)) (hi : ops[i]? = some oi) (hN : oi.dst=N) (hc : (readyT T.2 (lsl n s) == [i])=true) (hd : i ∈ ds)
    (h : ∀ K : Act→World→Prop,Shut (∀ a' w',Todo r (wpAnyLast P md ops Q S ds fuel (lst n (i :: s)) a' w')→K a' w')→if Region.wanted oi (yielded ops a.tmps)=true then Oper.wp P oi a w K Q else K (a.put N undef) w) :
    Todo ((i,u) :: r) (wpAnyLast P md ops Q S ds (fuel+1) (lst n s) a w) :=
  last_ (lst n (i :: s)) hi hN (one_of hT.out (by rw [lst_l,lst_l,hc];show (true && ((lsl n s).set i true == (lsl n s).set i true))=true;simp)) hd h
theorem rD {s : List Nat} {a : Act} {w : World} {k n : Nat} (hT : Aside0 (rtab md ops=T)) (hc : (readyT T.2 (lsl n s) == [])=true) (h : Q .normal a w) : Todo [] (wpAnyLast P md ops Q S ds k (lst n s) a w) :=
  done_ (done_of hT.out (by rw [lst_l];exact hc)) h
theorem rN {r : List (Nat × Nat)} {fuel : Nat} {l : Array Bool} {a a' : Act} {w : World} (ha : a=a') (h : Todo r (wpAnyLast P md ops Q S ds fuel l a' w)) : Todo r (wpAnyLast P md ops Q S ds fuel l a w):=norm_ ha h
theorem waits0 (T : List (List Nat × List Nat)) : waitsOk T []=true:=by
  unfold waitsOk
  rw [List.all_eq_true]
  intro d hd
  have hl : d < T.length:=by simpa using hd
  rw [List.getElem?_eq_getElem hl]
  simp
theorem rS0 {id n : Nat} {a : Act} {w : World} (r : List (Nat × Nat)) (hn : ops.size=n) (hm : P.follows .mixedOrders=true) (hS : S w.drew)
    (h : S w.drew→Aside0 (rtab .any ops=rtab .any ops)→Aside0 (waitsOk (rtab .any ops).2 []=true)→Todo r (wpAnyLast P .any ops Q S ds n (lst n []) a w.drew)) : (Code.region id ops true).wp P Q a w :=
  rS r hn hm rfl (waits0 _) hS h
end
theorem rR {p q : Prop} (hq : q) (h : q→p:=by
  intro hq_
  repeat first
    | (refine Go.Proofs.Yteflgifmdojahaa.KitR.rP HT_ rfl rfl (by kernel_rfl) (fun _ _ _ h=>h) (Or.inl ⟨by rfl,by intro w';go_simp;with_reducible rfl⟩) (by simp only [Act.put,List.setIfInBounds_toArray,List.set_cons_zero,List.set_cons_succ,i64_w,i32_w];rfl) ?_)
    | (refine Go.Proofs.Yteflgifmdojahaa.KitR.rP (v:=undef) HT_ rfl rfl (by kernel_rfl) (fun _ _ _ h=>h) (Or.inr ⟨by rfl,rfl⟩) (by simp only [Act.put,List.setIfInBounds_toArray,List.set_cons_zero,List.set_cons_succ,i64_w,i32_w];rfl) ?_)
    | (refine Go.Proofs.Yteflgifmdojahaa.KitR.rT HT_ HW_ hHeld rfl rfl (by kernel_rfl) (fun _ _ _ h=>h) (Or.inl ⟨by rfl,by intro w' hs;(repeat (have s_:=hs.1;replace hs:=hs.2));go_simp;with_reducible rfl⟩) (by simp only [Act.put,List.setIfInBounds_toArray,List.set_cons_zero,List.set_cons_succ,i64_w,i32_w];rfl) ?_)
  exact hq_) : p:=h hq
end Go.Proofs.Yteflgifmdojahaa.KitR
namespace Go.Proofs.Yteflgifmdojahaa.KitS
open Go.RowKit Go.Proofs.YteflgifmdojahaaW.PrintWords Go.Proofs.YteflgifmdojahaaW.PrintLast Go.Proofs.YteflgifmdojahaaW.PrintMore
set_option linter.unusedVariables false
section
variable {w w0 W W0 w1 w2 : World} {g g' : Nat} {o : Obj} {p q : Prop}
theorem yB (h : Aside0 q) (e : q→p:=by intro h_;(with_reducible repeat (first | refine blk_drewN ?_ _ | refine blk_drew ?_ | refine blk_alloc ?_ _));exact h_) : p:=e h.out
theorem sB (hq : q) (h : q→p:=by intro h_;(with_reducible repeat (first | refine blk_drewN ?_ _ | refine blk_drew ?_ | refine blk_alloc ?_ _));exact h_) : p:=h hq
theorem yb (h : Aside0 (w0.heap[g]? = some o)) (hb : Below W.heap.size W w1) (e : w0.heap[g]? = some o→W.heap[g]? = some o:=by intro h_;(with_reducible repeat (first | refine blk_drewN ?_ _ | refine blk_drew ?_ | refine blk_alloc ?_ _));exact h_) : Aside0 (w1.heap[g]? = some o):=⟨blk_below (e h.out) hb⟩
theorem yl (h : Aside0 (w0.heap[g]? = some o)) (hg : g'=W.heap.size) (e : w0.heap[g]? = some o→W.heap[g]? = some o:=by intro h_;(with_reducible repeat (first | refine blk_drewN ?_ _ | refine blk_drew ?_ | refine blk_alloc ?_ _));exact h_) : Aside0 (g ≠ g'):=⟨by rw [hg];exact Nat.ne_of_lt (blk_lt (e h.out))⟩
theorem yg (h : Aside0 (w0.heap[g]? = some o)) (hg : g'=W.heap.size) (e : w0.heap[g]? = some o→W.heap[g]? = some o:=by intro h_;(with_reducible repeat (first | refine blk_drewN ?_ _ | refine blk_drew ?_ | refine blk_alloc ?_ _));exact h_) : Aside0 (g' ≠ g):=⟨by rw [hg];exact Nat.ne_of_gt (blk_lt (e h.out))⟩
theorem yF (h : Aside0 q) (e : q→p:=by intro h_;(repeat (first | (with_reducible first | refine blk_drewN ?_ _ | refine blk_drew ?_ | refine blk_alloc ?_ _) | refine blk_far ?_ (Aside0.out (by assumption)) _));exact h_) : p:=e h.out
theorem yk {l : List Value} {t : TypeId} (h : Aside0 (W.heap[g]? = some (.cells l.toArray t (0,0)))) (i : Nat) {v : Value} (e : l[i]? = some v:=by rfl) : W.cell? ⟨g,i,none⟩=some v:=(blk_cell h.out i).trans (by simpa using e)
theorem yz (h : Aside0 (w0.heap[g]? = some o)) (k : Nat) (hk : W.heap.size≤k) (e : w0.heap[g]? = some o→W.heap[g]? = some o:=by intro h_;(with_reducible repeat (first | refine blk_drewN ?_ _ | refine blk_drew ?_ | refine blk_alloc ?_ _));exact h_) : k ≠ g:=Kd.freshB (e h.out) k hk
theorem yW (h : Aside0 q) (e : q→p:=by intro h_;repeat (first | (with_reducible first | exact h_ | apply below_alloc | apply pw_below_drewN | apply below_drew1 | refine below_set ?_ (Aside0.out (by assumption))) | exact h_)) : p:=e h.out
theorem yH (h : Aside0 (Below w.heap.size w W0)) (k : Below W.heap.size W w2) (e : Below w.heap.size w W0→Below w.heap.size w W:=by intro h_;repeat (first | (with_reducible first | exact h_ | apply below_alloc | apply pw_below_drewN | apply below_drew1 | refine below_set ?_ (Aside0.out (by assumption))) | exact h_)) : Aside0 (Below w.heap.size w w2):=⟨below_step (e h.out) k⟩
theorem ye (h : Aside0 (Below w.heap.size w W0)) (hg : g=W.heap.size) (e : Below w.heap.size w W0→Below w.heap.size w W:=by intro h_;repeat (first | (with_reducible first | exact h_ | apply below_alloc | apply pw_below_drewN | apply below_drew1 | refine below_set ?_ (Aside0.out (by assumption))) | exact h_)) : Aside0 (w.heap.size≤g):=⟨by rw [hg];exact below_size (e h.out)⟩
theorem yR (h : Aside0 q) (e : q→p:=by intro h_;(with_reducible repeat (first | apply Kd.R_alloc | apply Kd.R_drewN | apply Kd.R_drew));exact h_) : p:=e h.out
theorem yS (h : Aside0 q) (e : q→p:=by intro h_;(with_reducible repeat (first | apply Kd.S_alloc | apply Kd.S_drewN | apply Kd.S_drew));exact h_) : p:=e h.out
theorem yN (h : Aside0 q) (e : q→p:=by intro h_;(with_reducible repeat (first | apply Kd.N_alloc | apply Kd.N_drewN | apply Kd.N_drew));exact h_) : p:=e h.out
theorem yV (h : Aside0 q) (e : q→p:=by intro h_;(with_reducible repeat (first | apply Kd.V_alloc | apply Kd.V_drewN | apply Kd.V_drew));exact h_) : p:=e h.out
theorem sR (hq : q) (h : q→p:=by intro h_;(with_reducible repeat (first | apply Kd.R_alloc | apply Kd.R_drewN | apply Kd.R_drew));exact h_) : p:=h hq
theorem sS (hq : q) (h : q→p:=by intro h_;(with_reducible repeat (first | apply Kd.S_alloc | apply Kd.S_drewN | apply Kd.S_drew));exact h_) : p:=h hq
theorem sN (hq : q) (h : q→p:=by intro h_;(with_reducible repeat (first | apply Kd.N_alloc | apply Kd.N_drewN | apply Kd.N_drew));exact h_) : p:=h hq
theorem sV (hq : q) (h : q→p:=by intro h_;(with_reducible repeat (first | apply Kd.V_alloc | apply Kd.V_drewN | apply Kd.V_drew));exact h_) : p:=h hq
theorem yc (h : q) (e : q→p:=by intro h_;repeat (first | exact h_ | (with_reducible refine Kd.C_alloc ?_ _) | (with_reducible refine Kd.C_drewN ?_ _) | (with_reducible refine Kd.C_drew ?_))) : p:=e h
section
variable {α : Type} {d : Kd α} {e base : Nat} {ok : Nat→Prop} {u v : Value} {xs : List α}
theorem bR (h : Aside0 (d.R e w0 base ok v xs)) (hb : Below W.heap.size W w1) (l : d.R e w0 base ok v xs→d.R e W base ok v xs:=by intro h_;(with_reducible repeat (first | apply Kd.R_alloc | apply Kd.R_drewN | apply Kd.R_drew));exact h_) : Aside0 (d.R e w1 base ok v xs):=⟨Kd.R_below (l h.out) hb⟩
theorem eR (h : Aside0 (d.R e w0 base ok v xs)) (hbase : ∀ k,u.ownBlock=some k→W.heap.size≤k) (hb : Below W.heap.size W w1) (l : d.R e w0 base ok v xs→d.R e W base ok v xs:=by intro h_;(with_reducible repeat (first | apply Kd.R_alloc | apply Kd.R_drewN | apply Kd.R_drew));exact h_) : Aside0 (d.R e w1 base (fun k=>ok k∧some k ≠ u.ownBlock) v xs):=⟨Kd.R_elder' (l h.out) hbase hb⟩
theorem bS (h : Aside0 (Kd.S d e w0 base ok v xs)) (hb : Below W.heap.size W w1) (l : Kd.S d e w0 base ok v xs→Kd.S d e W base ok v xs:=by intro h_;(with_reducible repeat (first | apply Kd.S_alloc | apply Kd.S_drewN | apply Kd.S_drew));exact h_) : Aside0 (Kd.S d e w1 base ok v xs):=⟨Kd.S_below (l h.out) hb⟩
theorem eS (h : Aside0 (Kd.S d e w0 base ok v xs)) (hbase : ∀ k,u.ownBlock=some k→W.heap.size≤k) (hb : Below W.heap.size W w1) (l : Kd.S d e w0 base ok v xs→Kd.S d e W base ok v xs:=by intro h_;(with_reducible repeat (first | apply Kd.S_alloc | apply Kd.S_drewN | apply Kd.S_drew));exact h_) : Aside0 (Kd.S d e w1 base (fun k=>ok k∧some k ≠ u.ownBlock) v xs):=⟨Kd.S_elder' (l h.out) hbase hb⟩
theorem bN (h : Aside0 (Kd.N d e w0 base ok v xs)) (hb : Below W.heap.size W w1) (l : Kd.N d e w0 base ok v xs→Kd.N d e W base ok v xs:=by intro h_;(with_reducible repeat (first | apply Kd.N_alloc | apply Kd.N_drewN | apply Kd.N_drew));exact h_) : Aside0 (Kd.N d e w1 base ok v xs):=⟨Kd.N_below (l h.out) hb⟩
theorem eN (h : Aside0 (Kd.N d e w0 base ok v xs)) (hbase : ∀ k,u.ownBlock=some k→W.heap.size≤k) (hb : Below W.heap.size W w1) (l : Kd.N d e w0 base ok v xs→Kd.N d e W base ok v xs:=by intro h_;(with_reducible repeat (first | apply Kd.N_alloc | apply Kd.N_drewN | apply Kd.N_drew));exact h_) : Aside0 (Kd.N d e w1 base (fun k=>ok k∧some k ≠ u.ownBlock) v xs):=⟨Kd.N_elder' (l h.out) hbase hb⟩
theorem oN (h : Aside0 (Kd.N d e w0 base ok v xs)) (hg : g=W.heap.size) (hb : Below W.heap.size W w1) (l : Kd.N d e w0 base ok v xs→Kd.N d e W base ok v xs:=by intro h_;(with_reducible repeat (first | apply Kd.N_alloc | apply Kd.N_drewN | apply Kd.N_drew));exact h_) : Aside0 (Kd.N d e w1 base (fun k=>ok k∧k ≠ g) v xs):=⟨Kd.N_below (Kd.N_elderB (l h.out) g (Nat.le_of_eq hg.symm)) hb⟩
end
theorem yk1 {a : Value} {t : TypeId} (h : Aside0 (W.heap[g]? = some (.cells #[a] t (0,0)))) : W.cell? ⟨g,0,none⟩=some a∧W.frozen? ⟨g,0,none⟩=false:=⟨yk h 0,blk_frozen h.out 0⟩
theorem yk2 {a b : Value} {t : TypeId} (h : Aside0 (W.heap[g]? = some (.cells #[a,b] t (0,0)))) : W.cell? ⟨g,0,none⟩=some a∧W.cell? ⟨g,1,none⟩=some b∧W.frozen? ⟨g,0,none⟩=false∧W.frozen? ⟨g,1,none⟩=false:=⟨yk h 0,yk h 1,blk_frozen h.out 0,blk_frozen h.out 1⟩
section
variable {P : Program} {ops : Array Oper} {o : Oper} {rest : List Oper} {a : Act} {Q : Exit→Act→World→Prop}
theorem gD (N : Tmp) (h : wpList P ops Q (o :: rest) a W) (_hN : o.dst=some N:=by with_reducible rfl) : wpList P ops Q (o :: rest) a W:=h
theorem gC (f : FuncId) (h : wpList P ops Q (o :: rest) a W) {as : Array Operand} {ts : Array TypeId} (_ho : o.op = .call { callee:=.value (.func f),args:=as,argTypes:=ts }:=by with_reducible rfl) : wpList P ops Q (o :: rest) a W:=h
theorem gB {cs : Array Value} (t : TypeId) (h : ∀ g,g=W.heap.size→∀ w1,w1.heap[g]? = some (.cells cs t (0,0))→Below W.heap.size W w1→wpList P ops Q rest (a.put o.dst (.pointer (some ⟨g,0,none⟩))) w1) (hgd : o.guard=none:=by rfl)
    (hrun : (execOp a.eval o).run P W = .ok (.value (.pointer (some ⟨W.heap.size,0,none⟩))) (W.alloc (.cells cs t (0,0))):=by first | (go_simp;done) | (go_simp;rfl)) : wpList P ops Q (o :: rest) a W :=
  Kd.event_run hgd hrun (h _ rfl _ (blk_new W _) (below_alloc (Below.refl _ _) _))
theorem gM (N : Option Tmp) {f : FuncId} {fn : Func} {as : Array Operand} {ts : Array TypeId} {args : Array Value} {R : Ending→World→Prop} (hf : P.funcs[f]? = some fn) (hc : Calls P f args W R) (h : ∀ e w',R e w'→∃ v,e = .returned v∧wpList P ops Q rest (a.put N v) w')
    (hd : o.dst = N := by rfl) (hg : o.guard = none := by rfl) (hname : (fn.name == "runtime.NumGoroutine") = false := by kernel_rfl) (hb : fn.body.isSome = true := by rfl) (hop : o.op = .call { callee := .value (.func f), args := as, argTypes := ts } := by rfl)
    (hargs : as.map a.eval=args:=by (try simp only [List.map_toArray,List.map_cons,List.map_nil]);first | done | rfl | (go_simp;done) | (simp only [List.length_drop,List.length_take];rfl)) : wpList P ops Q (o :: rest) a W :=
  goesL_ N hd hg hf hname hb args hop hargs (hc.mono h)
end
section
variable {α β : Type} {a b r : α}
theorem ys {x : β} {f : β→Option α} (h : (some x).bind f=some r) : ∃ y,y=x∧f y=some r:=⟨x,rfl,h⟩
theorem yo {x : Option β} {f : β→Option α} (h : x.bind f=some r) : ∃ y,Aside0 (x=some y)∧f y=some r:=by
  obtain ⟨y,hy,hf⟩:=Option.bind_eq_some_iff.mp h
  exact ⟨y,⟨hy⟩,hf⟩
theorem yi {c : Prop} [Decidable c] {x : Option α} (h : (if c then x else none)=some r) : c∧x=some r:=by
  by_cases hc : c
  · exact ⟨hc,by rw [if_pos hc] at h;exact h⟩
  · rw [if_neg hc] at h;exact absurd h (by simp)
theorem yt (h : (if true=true then a else b)=r) : a=r:=by rw [if_pos rfl] at h;exact h
theorem yn (h : (if false=true then a else b)=r) : b=r:=by rw [if_neg (by decide)] at h;exact h
end
end
end Go.Proofs.Yteflgifmdojahaa.KitS
namespace Go.Proofs.Yteflgifmdojahaa.KitX
open Go.RowKit Go.Proofs.YteflgifmdojahaaW.PrintWords Go.Proofs.YteflgifmdojahaaW.PrintLast
set_option linter.unusedVariables false
set_option linter.unusedSimpArgs false
section
variable {α : Type} {P : Program} {ops : Array Oper} {rest : List Oper} {o : Oper} {a : Act} {Q : Exit→Act→World→Prop} {Kc : Act→World→Prop}
end
end Go.Proofs.Yteflgifmdojahaa.KitX
-- PRINTED BY print.sh 35421559b90ae4d0a3588c463048766b98c2df88dd9212a6774a882060cdf62d: not written by this session
namespace Go.Proofs.YteflgifmdojahaaW.PrintWords
open Go.RowKit
namespace Kd
section
variable {α : Type} {d : Kd α} {W : World} {g n : Nat} {S ok : Nat→Prop} {A : Option Addr} {ad : Addr} {xs : List α}
end
end Kd
end Go.Proofs.YteflgifmdojahaaW.PrintWords
-- PRINTED BY print.sh 35421559b90ae4d0a3588c463048766b98c2df88dd9212a6774a882060cdf62d: not written by this session
namespace Go.Proofs.YteflgifmdojahaaW.PrintWords
open Go.RowKit
section
variable {w w' u : World} {m B g : Nat} {o : Obj} {row : Option Nat} {S : Nat→Prop} {a : Addr} {v : Value}
theorem below_at (hq : w.drewN m=w') (h : Below B u w) : Below B u w':=by subst hq;exact pw_below_drewN h m
theorem blk_at (hq : w.drewN m=w') (h : w.heap[g]? = some o) : w'.heap[g]? = some o:=by subst hq;exact h
end
namespace Kd
section
variable {α : Type} {d : Kd α} {e base n m : Nat} {ok : Nat→Prop} {w w' : World} {v : Value} {A : Option Addr} {xs : List α}
theorem R_at (hq : w.drewN m=w') (h : d.R e w base ok v xs) : d.R e w' base ok v xs:=by subst hq;exact R_drewN h m
theorem S_at (hq : w.drewN m=w') (h : Kd.S d e w base ok v xs) : Kd.S d e w' base ok v xs:=by subst hq;exact S_drewN h m
end
end Kd
end Go.Proofs.YteflgifmdojahaaW.PrintWords
-- PRINTED BY print.sh 35421559b90ae4d0a3588c463048766b98c2df88dd9212a6774a882060cdf62d: not written by this session
namespace Go.Proofs.YteflgifmdojahaaW.PrintWords
open Go.RowKit
section
variable {P : Program} {d : Nat} {xs ys : Array Value} {f : Field} {fs : List Field} {a b : Value} {r s : Bool} {w : World}
end
end Go.Proofs.YteflgifmdojahaaW.PrintWords
-- PRINTED BY print.sh 35421559b90ae4d0a3588c463048766b98c2df88dd9212a6774a882060cdf62d: not written by this session
namespace Go.Proofs.YteflgifmdojahaaW.PrintLast
section
variable {P : Program} {ops : Array Oper} {Q : Exit→Act→World→Prop} {md : Region.Mode} {S : World→Prop} {ds : List Nat} {T : Bool × List (List Nat × List Nat)}
end
end Go.Proofs.YteflgifmdojahaaW.PrintLast
-- PRINTED BY print.sh 35421559b90ae4d0a3588c463048766b98c2df88dd9212a6774a882060cdf62d: not written by this session
namespace Go.Proofs.YteflgifmdojahaaW.PrintWords
open Go.RowKit
section
variable {P : Program} {ops : Array Oper} {rest : List Oper} {o : Oper} {a : Act} {Q : Exit→Act→World→Prop} {W : World}
theorem gate_guard (hw : Region.wanted o (yielded ops a.tmps)=true) (h : wpList P ops Q ({ o with guard:=none } :: rest) a W) : wpList P ops Q (o :: rest) a W:=by
  have h1 : Region.wanted { o with guard:=none } (yielded ops a.tmps)=true:=rfl
  unfold wpList at h ⊢
  rw [if_pos h1] at h
  rw [if_pos hw]
  exact h
end
end Go.Proofs.YteflgifmdojahaaW.PrintWords
-- PRINTED BY print.sh 35421559b90ae4d0a3588c463048766b98c2df88dd9212a6774a882060cdf62d: not written by this session
namespace Go.Proofs.YteflgifmdojahaaW.PrintLast
def up (b : Nat→Bool) (i : Nat) : Nat→Bool:=fun j=>if j=i then true else b j
section
variable {P : Program} {ops : Array Oper} {Q : Exit→Act→World→Prop} {md : Region.Mode} {T : Bool × List (List Nat × List Nat)} {B : List Nat} {O : List Nat} {b : Nat→Bool} {i j n : Nat}
end
end Go.Proofs.YteflgifmdojahaaW.PrintLast
-- PRINTED BY print.sh 35421559b90ae4d0a3588c463048766b98c2df88dd9212a6774a882060cdf62d: not written by this session
namespace Go.Proofs.YteflgifmdojahaaW.PrintWords
open Go.RowKit
end Go.Proofs.YteflgifmdojahaaW.PrintWords
namespace Go.Proofs.YteflgifmdojahaaW.PrintLast
section
variable {ops : Array Oper} {a : Act} {o og : Oper} {g : Nat} {t : Tmp} {u : Bool}
end
end Go.Proofs.YteflgifmdojahaaW.PrintLast
-- PRINTED BY print.sh 35421559b90ae4d0a3588c463048766b98c2df88dd9212a6774a882060cdf62d: not written by this session
namespace Go.Proofs.YteflgifmdojahaaW.PrintWords
theorem Reps.one {α : Type} {R : α→List Value→Prop} {ps : List α} {cs : List Value} {p : α} {v : Value} (hp : R p [v]) (h : Reps R 1 ps cs) : Reps R 1 (p :: ps) (v :: cs):=by
  refine ⟨by simp [h.1],fun j q hq=>?_⟩
  cases j with
  | zero =>
    simp only [List.getElem?_cons_zero,Option.some.injEq] at hq
    subst hq
    simpa using hp
  | succ j =>
    simp only [List.getElem?_cons_succ] at hq
    have h1:=h.2 j q hq
    simpa [Nat.mul_one] using h1
theorem Reps.front {α : Type} {R : α→List Value→Prop} {size : Nat} {ps : List α} {cs c all : List Value} {p : α} (hp : R p c) (hc : c.length=size) (h : Reps R size ps cs) (ha : c ++ cs=all) : Reps R size (p :: ps) all:=by
  subst ha
  refine ⟨by rw [List.length_append,hc,h.1,List.length_cons,Nat.succ_mul,Nat.add_comm],fun j q hq=>?_⟩
  cases j with
  | zero =>
    simp only [List.getElem?_cons_zero,Option.some.injEq] at hq
    subst hq
    rw [Nat.zero_mul,List.drop_zero,List.take_append_of_le_length (by omega),List.take_of_length_le (by omega)]
    exact hp
  | succ j =>
    simp only [List.getElem?_cons_succ] at hq
    have h1:=h.2 j q hq
    rw [Nat.succ_mul,List.drop_append,List.drop_of_length_le (by rw [hc];exact Nat.le_add_left _ _),List.nil_append,hc,Nat.add_sub_cancel]
    exact h1
theorem Reps.c2 {α : Type} {R : α→List Value→Prop} {ps : List α} {cs : List Value} {p : α} {va vb : Value} (hp : R p [va,vb]) (h : Reps R 2 ps cs) : Reps R 2 (p :: ps) (va :: vb :: cs):=Reps.front hp rfl h rfl
theorem Reps.c3 {α : Type} {R : α→List Value→Prop} {ps : List α} {cs : List Value} {p : α} {va vb vc : Value} (hp : R p [va,vb,vc]) (h : Reps R 3 ps cs) : Reps R 3 (p :: ps) (va :: vb :: vc :: cs):=Reps.front hp rfl h rfl
theorem Reps.c4 {α : Type} {R : α→List Value→Prop} {ps : List α} {cs : List Value} {p : α} {va vb vc vd : Value} (hp : R p [va,vb,vc,vd]) (h : Reps R 4 ps cs) : Reps R 4 (p :: ps) (va :: vb :: vc :: vd :: cs):=Reps.front hp rfl h rfl
theorem Reps.c5 {α : Type} {R : α→List Value→Prop} {ps : List α} {cs : List Value} {p : α} {va vb vc vd ve : Value} (hp : R p [va,vb,vc,vd,ve]) (h : Reps R 5 ps cs) : Reps R 5 (p :: ps) (va :: vb :: vc :: vd :: ve :: cs):=Reps.front hp rfl h rfl
theorem Reps.c6 {α : Type} {R : α→List Value→Prop} {ps : List α} {cs : List Value} {p : α} {va vb vc vd ve vf : Value} (hp : R p [va,vb,vc,vd,ve,vf]) (h : Reps R 6 ps cs) : Reps R 6 (p :: ps) (va :: vb :: vc :: vd :: ve :: vf :: cs):=Reps.front hp rfl h rfl
theorem Reps.c7 {α : Type} {R : α→List Value→Prop} {ps : List α} {cs : List Value} {p : α} {va vb vc vd ve vf vg : Value} (hp : R p [va,vb,vc,vd,ve,vf,vg]) (h : Reps R 7 ps cs) : Reps R 7 (p :: ps) (va :: vb :: vc :: vd :: ve :: vf :: vg :: cs):=Reps.front hp rfl h rfl
theorem Reps.c8 {α : Type} {R : α→List Value→Prop} {ps : List α} {cs : List Value} {p : α} {va vb vc vd ve vf vg vh : Value} (hp : R p [va,vb,vc,vd,ve,vf,vg,vh]) (h : Reps R 8 ps cs) : Reps R 8 (p :: ps) (va :: vb :: vc :: vd :: ve :: vf :: vg :: vh :: cs):=Reps.front hp rfl h rfl
theorem Reps.c9 {α : Type} {R : α→List Value→Prop} {ps : List α} {cs : List Value} {p : α} {va vb vc vd ve vf vg vh vi : Value} (hp : R p [va,vb,vc,vd,ve,vf,vg,vh,vi]) (h : Reps R 9 ps cs) : Reps R 9 (p :: ps) (va :: vb :: vc :: vd :: ve :: vf :: vg :: vh :: vi :: cs):=Reps.front hp rfl h rfl
theorem Reps.c10 {α : Type} {R : α→List Value→Prop} {ps : List α} {cs : List Value} {p : α} {va vb vc vd ve vf vg vh vi vj : Value} (hp : R p [va,vb,vc,vd,ve,vf,vg,vh,vi,vj]) (h : Reps R 10 ps cs) : Reps R 10 (p :: ps) (va :: vb :: vc :: vd :: ve :: vf :: vg :: vh :: vi :: vj :: cs):=Reps.front hp rfl h rfl
end Go.Proofs.YteflgifmdojahaaW.PrintWords
-- SQUEEZED
