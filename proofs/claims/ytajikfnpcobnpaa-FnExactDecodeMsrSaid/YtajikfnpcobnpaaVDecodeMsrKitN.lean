/- Words for contracts by hand: rows of bytes that are the call's own and may share what they lead to (form N): one row read, one row written; no program stands here. -/
import Derived.Test.YtajikfnpcobnpaaVDecodeMsrWMore
import Derived.Test.YtajikfnpcobnpaaVDecodeMsrElim
import Derived.Test.YtajikfnpcobnpaaVDecodeMsrKitW
namespace Go.Proofs.Ytajikfnpcobnpaa.KitN
open Go.RowKit Go.Proofs.YtajikfnpcobnpaaW.PrintWords Go.Proofs.YtajikfnpcobnpaaW.PrintLast Go.Proofs.Ytajikfnpcobnpaa.Gf Go.Proofs.Ytajikfnpcobnpaa.Kit
set_option linter.unusedVariables false
set_option linter.unusedSimpArgs false
section
variable {tu ts base g n cap : Nat} {ok ok' : Nat→Prop} {W W1 : World} {R : List (List Int)} {v : Value}
/-- Row i: its cell, and what it leads to. -/
theorem N_row (h : Kd.N (Kd.slice tu (Kd.int .u8)) ts W base ok (.slice (some ⟨g,0,none⟩) n cap) R) (i : Nat) (hi : i < n) :
    ∃ A c,W.cell? ⟨g,i,none⟩=some (.slice A (R.getD i []).length c)∧(R.getD i []).length≤c∧Kd.F (Kd.int .u8) W (fun k=>ok k∧k ≠ g) A (R.getD i []).length (R.getD i [])∧W.frozen? ⟨g,i,none⟩=false:=by
  obtain ⟨c,hcl,hK,hcc,hfr⟩:=Kd.N_elem h ([] : List Int) (i : Int) (by omega) (by omega)
  rw [Int.toNat_natCast] at hK hcc hfr
  obtain ⟨A,c1,rfl,hle,hF⟩:=Kd.FK_slice_open hK
  have hsz : (Kd.slice tu (Kd.int .u8)).sz=1:=rfl
  have h0:=hcc 0 _ rfl
  have hf:=hfr 0
  rw [hsz,Nat.mul_one,Nat.add_zero] at h0 hf
  exact ⟨A,c1,h0,hle,hF,hf⟩
/-- Row i is written. -/
theorem N_put (h : Kd.N (Kd.slice tu (Kd.int .u8)) ts W base ok (.slice (some ⟨g,0,none⟩) n cap) R) (i : Nat) (hi : i < n) {A : Option Addr} {c : Nat} {x : List Int} {okp : Nat→Prop}
    (hc : x.length≤c) (hF : Kd.F (Kd.int .u8) W okp A x.length x) (hokp : ∀ k,okp k→ok k∧k ≠ g) :
    Kd.N (Kd.slice tu (Kd.int .u8)) ts (W.setCell ⟨g,i,none⟩ (.slice A x.length c)) base ok (.slice (some ⟨g,0,none⟩) n cap) (R.set i x)∧W.grownBy (W.setCell ⟨g,i,none⟩ (.slice A x.length c)) (some g):=by
  obtain ⟨c0,hcl,hK,hcc,hfr⟩:=Kd.N_elem h ([] : List Int) (i : Int) (by omega) (by omega)
  have hsz : (Kd.slice tu (Kd.int .u8)).sz=1:=rfl
  have:=Kd.N_seg h (i : Int) (by omega) (by omega) (c:=c0) (seg:=[.slice A x.length c]) (j:=0) (x':=x) (okp:=okp) hcl hcc (by rw [hsz];simp) (by
    rw [List.take_zero,List.nil_append,List.drop_eq_nil_of_le (by rw [hcl,hsz];simp),List.append_nil]
    exact Kd.FK_slice_mk hc hF) hokp
  rw [Int.toNat_natCast,hsz,Nat.mul_one,Nat.add_zero] at this
  exact this
theorem N_len (h : Kd.N (Kd.slice tu (Kd.int .u8)) ts W base ok (.slice (some ⟨g,0,none⟩) n cap) R) : n=R.length∧n≤cap:=⟨(Kd.N_reads' h).1,(Kd.N_reads' h).2.1⟩
/-- A byte of a row that is read. -/
theorem F_byte {A : Option Addr} {l : List Int} {okf : Nat→Prop} (h : Kd.F (Kd.int .u8) W okf A l.length l) (i : Nat) (hi : i < l.length) : ∃ ad,A=some ad∧W.cell? (ad.add i)=some (.int .u8 (l.getD i 0)):=by
  obtain ⟨ad,rfl,hc⟩:=Kd.at_int (Kd.F_now h) (i : Int) (by omega) (by omega)
  refine ⟨ad,rfl,?_⟩
  rw [Int.toNat_natCast] at hc
  rw [hc,rd_nat]
end
end Go.Proofs.Ytajikfnpcobnpaa.KitN
namespace Go.Proofs.Ytajikfnpcobnpaa.KitN
open Go.RowKit Go.Proofs.YtajikfnpcobnpaaW.PrintWords Go.Proofs.YtajikfnpcobnpaaW.PrintLast Go.Proofs.Ytajikfnpcobnpaa.Gf Go.Proofs.Ytajikfnpcobnpaa.Kit
set_option linter.unusedVariables false
set_option linter.unusedSimpArgs false
/-- Rows of bytes, all of one length, not too many. -/
def sqM (R : List (List Int)) : Bool:=decide (R.length≤1000) && (decide ((R.getD 0 []).length≤1000) && R.all fun r=>decide (r.length=(R.getD 0 []).length) && r.all fun x=>decide (0≤x∧x < 256))
theorem sqM_iff {R : List (List Int)} : sqM R=true↔R.length≤1000∧(R.getD 0 []).length≤1000∧∀ r ∈ R,okI (R.getD 0 []).length r:=by
  unfold sqM okI Bytes Byte
  simp only [Bool.and_eq_true,decide_eq_true_eq,List.all_eq_true]
  constructor
  · rintro ⟨h1,h2,h3⟩
    exact ⟨h1,h2,fun r hr=>⟨(h3 r hr).2,(h3 r hr).1⟩⟩
  · rintro ⟨h1,h2,h3⟩
    exact ⟨h1,h2,fun r hr=>⟨(h3 r hr).2,(h3 r hr).1⟩⟩
/-- One row of rows that are read. -/
theorem C_row {tu : Nat} {w : World} {A : Option Addr} {n : Nat} {xs : List (List Int)} (h : Kd.C (Kd.slice tu (Kd.int .u8)) w A n xs) (i : Nat) (h1 : i < n) :
    ∃ ad A0 c0,A=some ad∧w.cell? (ad.add i)=some (.slice A0 (xs.getD i []).length c0)∧(xs.getD i []).length≤c0∧Kd.C (Kd.int .u8) w A0 (xs.getD i []).length (xs.getD i []):=by
  obtain ⟨ad,c,e,_,hK,hc0⟩:=Kd.C_get h ([] : List Int) (i : Int) (by omega) (by omega)
  have hc : ∀ j u,c[j]? = some u→w.cell? (ad.add ((i : Int).toNat*1+j))=some u:=hc0
  rw [Int.toNat_natCast] at hK
  obtain ⟨A0,c0,rfl,l0,g0⟩:=hK
  exact ⟨ad,A0,c0,e,by have hq:=hc 0 _ rfl;rwa [Nat.mul_one,Nat.add_zero,Int.toNat_natCast] at hq,l0,g0⟩
end Go.Proofs.Ytajikfnpcobnpaa.KitN
namespace Go.Proofs.Ytajikfnpcobnpaa.KitN
open Go.RowKit Go.Proofs.YtajikfnpcobnpaaW.PrintWords Go.Proofs.YtajikfnpcobnpaaW.PrintLast Go.Proofs.Ytajikfnpcobnpaa.Gf Go.Proofs.Ytajikfnpcobnpaa.Kit
set_option linter.unusedVariables false
set_option linter.unusedSimpArgs false
/-! ### A matrix with the identity beside it -/
theorem idM_length (n : Nat) : (idM n).length=n:=by simp [idM]
theorem idM_ok (n : Nat) : ∀ r ∈ idM n,okI n r:=by
  intro r hr
  simp only [idM,List.mem_map] at hr
  obtain ⟨i,_,rfl⟩:=hr
  refine ⟨fun x hx=>?_,by simp⟩
  rcases List.mem_or_eq_of_mem_set hx with h | h
  · rw [(List.mem_replicate.1 h).2];exact .zero
  · rw [h];exact .one
def catM (l : List (List Int)) : List (List Int):=List.zipWith (· ++ ·) l (idM l.length)
theorem catM_length (l : List (List Int)) : (catM l).length=l.length:=by simp [catM,idM_length]
theorem catM_succ {l : List (List Int)} {i : Nat} (h : i < l.length) : (catM l).take (i+1)=(catM l).take i ++ [l.getD i [] ++ (idM l.length).getD i []]:=by
  rw [List.take_succ_eq_append_getElem (by rw [catM_length];exact h)]
  congr 2
  have h2 : i < (idM l.length).length:=by rw [idM_length];exact h
  simp only [catM,List.getElem_zipWith]
  rw [List.getD_eq_getElem?_getD,List.getD_eq_getElem?_getD,List.getElem?_eq_getElem h,List.getElem?_eq_getElem h2];rfl
theorem catM_zip (l : List (List Int)) : catM l=(l.zip (idM l.length)).map fun r=>r.1 ++ r.2:=by
  unfold catM
  rw [List.zip,List.map_zipWith]
theorem zip_ok {l m : List (List Int)} {a b : Nat} (h : ∀ r ∈ l,okI a r) (k : ∀ r ∈ m,okI b r) : ∀ r ∈ l.zip m,okP a b r:=by
  intro r hr
  obtain ⟨x,y⟩:=r
  have:=List.of_mem_zip hr
  exact ⟨h x this.1,k y this.2⟩
/-- Behind the steps: what stands beside, and how many steps there were. -/
def redP (l m : List (List Int)) (n : Nat) : List (List Int × List Int) × Nat:=rowP.red (l.zip m) n
def invM (l : List (List Int)) : List (List Int) × Bool:=if (redP l (idM l.length) l.length).2 < l.length then ([],false) else ((redP l (idM l.length) l.length).1.map Prod.snd,true)
/-- A matrix that has an inverse at best. -/
def sqN (l : List (List Int)) : Bool:=sqM l && (decide (1≤l.length) && decide ((l.getD 0 []).length=l.length))
theorem sqN_iff {l : List (List Int)} : sqN l=true↔1≤l.length∧l.length≤1000∧∀ r ∈ l,okI l.length r:=by
  unfold sqN
  rw [Bool.and_eq_true,Bool.and_eq_true,decide_eq_true_eq,decide_eq_true_eq,sqM_iff]
  constructor
  · rintro ⟨⟨h1,h2,h3⟩,h4,h5⟩
    rw [h5] at h3
    exact ⟨h4,h1,h3⟩
  · rintro ⟨h1,h2,h3⟩
    have h4 : (l.getD 0 []).length=l.length:=(RowK.at_all (O:=rowI) h3 (i:=0) (by omega)).2
    refine ⟨⟨h2,by omega,?_⟩,h1,h4⟩
    rw [h4];exact h3
theorem catM_ok {l : List (List Int)} (h : ∀ r ∈ l,okI l.length r) : ∀ r ∈ catM l,okI (l.length+l.length) r:=by
  rw [catM_zip]
  intro r hr
  obtain ⟨p,hp,rfl⟩:=List.mem_map.1 hr
  have:=zip_ok h (idM_ok l.length) p hp
  exact ⟨this.1.1.append this.2.1,by rw [List.length_append,this.1.2,this.2.2]⟩
theorem catM_red {l : List (List Int)} (h : ∀ r ∈ l,okI l.length r) : rowI.red (catM l) l.length=((redP l (idM l.length) l.length).1.map fun r=>r.1 ++ r.2,(redP l (idM l.length) l.length).2):=by
  rw [catM_zip]
  exact RowK.red_map (shutP l.length l.length) (hom_cat l.length l.length) (zip_ok h (idM_ok l.length)) l.length (Nat.le_refl _)
theorem redP_ok {l m : List (List Int)} {a b n : Nat} (h : ∀ r ∈ l,okI a r) (k : ∀ r ∈ m,okI b r) : ∀ r ∈ (redP l m n).1,okP a b r:=RowK.red_all (shutP a b) (zip_ok h k) n
theorem redP_length (l m : List (List Int)) (n : Nat) (h : l.length=m.length) : (redP l m n).1.length=l.length:=by
  unfold redP
  rw [RowK.red_length,List.length_zip,h,Nat.min_self]
theorem catM_out {l : List (List Int)} (h : ∀ r ∈ l,okI l.length r) : (rowI.red (catM l) l.length).1.map (List.drop l.length)=(redP l (idM l.length) l.length).1.map Prod.snd:=by
  rw [catM_red h,List.map_map]
  apply List.map_congr_left
  intro r hr
  have:=redP_ok (n:=l.length) h (idM_ok l.length) r hr
  show List.drop l.length (r.1 ++ r.2)=r.2
  rw [List.drop_append,List.drop_eq_nil_of_le (by rw [this.1.2];exact Nat.le_refl _),this.1.2,Nat.sub_self]
  simp
theorem red_rank_le (l m : List (List Int)) (n : Nat) : (redP l m n).2≤n:=(RowK.red_rank (O:=rowP) (l.zip m) n).1
theorem FK_of_R {tu e base n c : Nat} {W : World} {ok : Nat→Prop} {A : Option Addr} {x : List Int} (h : Kd.R (Kd.int .u8) e W base ok (.slice A n c) x) : Kd.FK (Kd.slice tu (Kd.int .u8)) W ok x [.slice A n c]:=by
  have e:=(Kd.R_reads' h).1
  subst e
  exact Kd.FK_slice_mk (Kd.R_reads' h).2.1 (Kd.R_F h)
end Go.Proofs.Ytajikfnpcobnpaa.KitN
namespace Go.Proofs.Ytajikfnpcobnpaa.KitN
open Go.RowKit Go.Proofs.YtajikfnpcobnpaaW.PrintWords Go.Proofs.YtajikfnpcobnpaaW.PrintLast Go.Proofs.Ytajikfnpcobnpaa.Gf Go.Proofs.Ytajikfnpcobnpaa.Kit
set_option linter.unusedVariables false
set_option linter.unusedSimpArgs false
/-! ### Steps over two rows side by side, told of each side alone -/
section
variable {L L1 : List (List Int × List Int)} {k a len p : Nat}
theorem fst_at (L : List (List Int × List Int)) (i : Nat) : (L.map Prod.fst).getD i []=(L.getD i rowP.nul).1:=by
  rw [List.getD_eq_getElem?_getD,List.getD_eq_getElem?_getD,List.getElem?_map]
  cases L[i]? <;> rfl
theorem snd_at (L : List (List Int × List Int)) (i : Nat) : (L.map Prod.snd).getD i []=(L.getD i rowP.nul).2:=by
  rw [List.getD_eq_getElem?_getD,List.getD_eq_getElem?_getD,List.getElem?_map]
  cases L[i]? <;> rfl
theorem get_at (L : List (List Int × List Int)) (i k : Nat) : rowP.get (L.getD i rowP.nul) k=((L.map Prod.fst).getD i []).getD k 0:=by rw [fst_at];rfl
theorem rp_none (hq : (L1,a)=rowP.red L k) (hl : L.length=len) (ha : a < len) (hl1 : L1.length=len) (h : ∀ i,a≤i→i < len→((L1.map Prod.fst).getD i []).getD k 0=0) : rowP.red L (k+1)=(L1,a):=by
  show (if (rowP.red L k).2 < L.length then rowP.stp k (rowP.red L k) else rowP.red L k)=_
  rw [← hq,hl,if_pos ha]
  unfold RowK.stp
  have e : rowP.piv L1 k a=none:=RowK.piv_none (fun j h1 h2=>by rw [get_at];exact h j h1 (by omega))
  show (match rowP.piv L1 k a with | none=>(L1,a) | some i=>(rowP.clr k a (rowP.lift L1 k a i) L1.length,a+1))=_
  rw [e]
theorem rp_some (hq : (L1,a)=rowP.red L k) (hl : L.length=len) (ha : a < len) (hl1 : L1.length=len) (h1 : a≤p) (h2 : p < len) (hp : ((L1.map Prod.fst).getD p []).getD k 0 ≠ 0) (h : ∀ i,a≤i→i < p→((L1.map Prod.fst).getD i []).getD k 0=0) :
    rowP.red L (k+1)=(rowP.clr k a (rowP.lift L1 k a p) len,a+1):=by
  show (if (rowP.red L k).2 < L.length then rowP.stp k (rowP.red L k) else rowP.red L k)=_
  rw [← hq,hl,if_pos ha]
  unfold RowK.stp
  have e : rowP.piv L1 k a=some p:=RowK.piv_some h1 (by omega) (by rw [get_at];exact hp) (fun j g1 g2=>by rw [get_at];exact h j g1 g2)
  show (match rowP.piv L1 k a with | none=>(L1,a) | some i=>(rowP.clr k a (rowP.lift L1 k a i) L1.length,a+1))=_
  rw [e,← hl1]
theorem rp_lift_fst (L1 : List (List Int × List Int)) (k a p : Nat) : (rowP.lift L1 k a p).map Prod.fst=((L1.map Prod.fst).set p ((L1.map Prod.fst).getD a [])).set a (scale (inv (((L1.map Prod.fst).getD p []).getD k 0)) ((L1.map Prod.fst).getD p [])):=by
  unfold RowK.lift
  rw [List.map_set,List.map_set,fst_at,fst_at]
  rfl
theorem rp_lift_snd (L1 : List (List Int × List Int)) (k a p : Nat) : (rowP.lift L1 k a p).map Prod.snd=((L1.map Prod.snd).set p ((L1.map Prod.snd).getD a [])).set a (scale (inv (((L1.map Prod.fst).getD p []).getD k 0)) ((L1.map Prod.snd).getD p [])):=by
  unfold RowK.lift
  rw [List.map_set,List.map_set,snd_at,snd_at,fst_at]
  rfl
theorem rp_clr_skip {r : Nat} (h : r=a∨(((rowP.clr k a L r).map Prod.fst).getD r []).getD k 0=0) : rowP.clr k a L (r+1)=rowP.clr k a L r:=by
  show (if r ≠ a∧rowP.get ((rowP.clr k a L r).getD r rowP.nul) k ≠ 0 then _ else rowP.clr k a L r)=_
  rw [if_neg]
  rw [get_at]
  intro z
  rcases h with e | e
  · exact z.1 e
  · exact z.2 e
theorem rp_clr_do {r : Nat} {y : Int} (h : r ≠ a) (hy : (((rowP.clr k a L r).map Prod.fst).getD r []).getD k 0=y) (h2 : y ≠ 0) :
    (rowP.clr k a L (r+1)).map Prod.fst=((rowP.clr k a L r).map Prod.fst).set r (addV (((rowP.clr k a L r).map Prod.fst).getD r []) (scale y (((rowP.clr k a L r).map Prod.fst).getD a []))) ∧
    (rowP.clr k a L (r+1)).map Prod.snd=((rowP.clr k a L r).map Prod.snd).set r (addV (((rowP.clr k a L r).map Prod.snd).getD r []) (scale y (((rowP.clr k a L r).map Prod.snd).getD a []))):=by
  have e : rowP.clr k a L (r+1)=(rowP.clr k a L r).set r (rowP.ad ((rowP.clr k a L r).getD r rowP.nul) (rowP.sc y ((rowP.clr k a L r).getD a rowP.nul))):=by
    show (if r ≠ a∧rowP.get ((rowP.clr k a L r).getD r rowP.nul) k ≠ 0 then (rowP.clr k a L r).set r (rowP.ad ((rowP.clr k a L r).getD r rowP.nul) (rowP.sc (rowP.get ((rowP.clr k a L r).getD r rowP.nul) k) ((rowP.clr k a L r).getD a rowP.nul))) else rowP.clr k a L r)=_
    rw [get_at,hy,if_pos ⟨h,h2⟩]
  rw [e,List.map_set,List.map_set,fst_at,fst_at,snd_at,snd_at]
  exact ⟨rfl,rfl⟩
theorem snd_all {m1 m2 : Nat} (h : ∀ r ∈ L,okP m1 m2 r) : ∀ r ∈ L.map Prod.snd,okI m2 r:=by
  intro r hr
  obtain ⟨x,hx,rfl⟩:=List.mem_map.1 hr
  exact (h x hx).2
theorem zip_fst {l m : List (List Int)} (h : l.length=m.length) : (l.zip m).map Prod.fst=l:=List.map_fst_zip (by omega)
theorem zip_snd {l m : List (List Int)} (h : l.length=m.length) : (l.zip m).map Prod.snd=m:=List.map_snd_zip (by omega)
end
end Go.Proofs.Ytajikfnpcobnpaa.KitN
namespace Go.Proofs.Ytajikfnpcobnpaa.KitN
open Go.RowKit Go.Proofs.YtajikfnpcobnpaaW.PrintWords Go.Proofs.YtajikfnpcobnpaaW.PrintLast
theorem results_cct {P : Program} {fn : Func} {p p' u : Tmp} {ty ty' : TypeId} (h : fn.results = #[.cell p ty, .cell p' ty', .tmp u]) (tmps : Array Value) (w : World) (g g' : Nat) (t t' : TypeId) (cs cs' : Array Value) (fr fr' : Nat × Nat) (d d' : TypeDesc)
    (hp : tmps.getD p undef = .pointer (some ⟨g,0,none⟩)) (hg : w.heap[g]? = some (.cells cs t fr))
    (hu : P.underlying ty=some d) (hd : (match d with | .struct _ | .array _ _=>true | _=>false)=true) (hi : (P.info? ty).map (·.size)=some cs.size)
    (hp' : tmps.getD p' undef = .pointer (some ⟨g',0,none⟩)) (hg' : w.heap[g']? = some (.cells cs' t' fr'))
    (hu' : P.underlying ty'=some d') (hd' : (match d' with | .struct _ | .array _ _=>true | _=>false)=true) (hi' : (P.info? ty').map (·.size)=some cs'.size) :
    (results fn tmps).run P w = .ok (.tuple #[.agg cs, .agg cs',tmps.getD u undef]) w:=by
  have h1 : tmps[p]?.getD undef = .pointer (some ⟨g,0,none⟩):=by simpa using hp
  have h2 : tmps[p']?.getD undef = .pointer (some ⟨g',0,none⟩):=by simpa using hp'
  simp [results,h,h1,h2,asAddr,run_loadVar_row w g t ty cs fr d hg hu hd hi,run_loadVar_row w g' t' ty' cs' fr' d' hg' hu' hd' hi']
end Go.Proofs.Ytajikfnpcobnpaa.KitN
namespace Go.Proofs.Ytajikfnpcobnpaa.KitN
open Go.RowKit Go.Proofs.YtajikfnpcobnpaaW.PrintWords Go.Proofs.YtajikfnpcobnpaaW.PrintLast Go.Proofs.Ytajikfnpcobnpaa.Gf Go.Proofs.Ytajikfnpcobnpaa.Kit
set_option linter.unusedVariables false
theorem el_set_all {m : Nat} {R : List (List Int)} (h : ∀ r ∈ R,okI m r) {x : List Int} (hx : okI m x) (i : Nat) : ∀ r ∈ R.set i x,okI m r:=RowK.set_all (P:=okI m) h hx i
theorem el_scale {m : Nat} {x : List Int} {a : Int} (ha : Byte a) (h : okI m x) : okI m (scale a x):=(shutI m).sc a x ha h
theorem el_add {m : Nat} {x y : List Int} (h : okI m x) (k : okI m y) : okI m (addV x y):=(shutI m).ad x y h k
section
variable {wr : World} {m : Nat}
theorem F_m {A : Option Addr} {l : List Int} {okf : Nat→Prop} (h : Kd.F (Kd.int .u8) wr okf A m l) (hl : l.length=m) (i : Nat) (hi : i < m) : ∃ ad,A=some ad∧wr.cell? (ad.add i)=some (.int .u8 (l.getD i 0)):=by
  subst hl
  exact F_byte h i hi
theorem F_C {A : Option Addr} {l : List Int} {okf : Nat→Prop} (h : Kd.F (Kd.int .u8) wr okf A m l) (hl : l.length=m) : Kd.C (Kd.int .u8) wr A l.length l:=by
  subst hl
  exact Kd.F_now h
end
end Go.Proofs.Ytajikfnpcobnpaa.KitN
-- SQUEEZED
