-- Laid by a program of this session.
import Derived.Test.YtajikfnpcobnpaaPFnExactCheckShardsx0
import Derived.Test.YtajikfnpcobnpaaPFnExactCheckShardsx10
import Derived.Test.YtajikfnpcobnpaaPFnExactCheckShardsx11
import Derived.Test.YtajikfnpcobnpaaPFnExactCheckShardsx12
import Derived.Test.YtajikfnpcobnpaaPFnExactCheckShardsx13
namespace Go.Proofs.Ytajikfnpcobnpaa.PFnExactCheckShards
open Go.RowKit Go.Proofs.YtajikfnpcobnpaaW.PrintWords Go.Proofs.YtajikfnpcobnpaaW.PrintLast Go.Proofs.YtajikfnpcobnpaaW.PrintMore
attribute [local go_sem] max2_int min2_int max_two min_two max_three min_three max_four min_four   -- for this text's walks alone
set_option linter.unusedVariables false
set_option maxHeartbeats 8000000
set_option maxRecDepth 100000
set_option linter.unusedSimpArgs false

section
open Go.Proofs.Ytajikfnpcobnpaa.Gf Go.Proofs.Ytajikfnpcobnpaa.Kit Go.Proofs.Ytajikfnpcobnpaa.KitW Go.Proofs.Ytajikfnpcobnpaa.KitN
namespace ImplInv
theorem impl_identity.ev_l0 (n:Nat) (hn:n≤1048576):∀ (d i:Nat) (o:List (List Int)),i+d=n→o=(idM n).take i→Ev (fun k=>impl_identity.l0 k (n:Int) o (n:Int) (i:Int)) (idM n)
 | 0,i,o,hi,ho=>by
  refine Ev.step (fun k=>impl_identity.l0.eq_2 _ _ _ _ k) ?_
  refine ev_neg d6 (ev_now ?_)
  rw [ho,List.take_of_length_le (by simp [idM];omega)]
 | d+1,i,o,hi,ho=>by
  have hl:o.length=i:=by rw [ho,List.length_take];simp [idM];omega
  refine Ev.step (fun k=>impl_identity.l0.eq_2 _ _ _ _ k) ?_
  simp only [Option.bind_some,Int.toNat_natCast,List.length_replicate]
  refine ev_pos d6 (ev_pos d6 (ev_pos d6 (ev_pos d6 (ev_pos d6 (ev_pos d6 ?_)))))
  rw [inc d6]
  refine impl_identity.ev_l0 n hn d (i+1) _ d6 ?_
  rw [List.take_succ_eq_append_getElem (by simp [idM];omega),← ho]
  simp [idM]
theorem impl_identity.ev (n:Nat) (hn:n≤1048576):Ev (fun k=>impl_identity.f k (n:Int)) (idM n):=by
 unfold impl_identity.f
 exact impl_identity.ev_l0 n hn n 0 [] d6 rfl
end ImplInv
theorem iv_info8:(Try.prog.info? 5).map (fun i=>(i.zero,i.size,i.bytes))=some (some (.int .u8 0),1,1):=by kernel_rfl
theorem iv_info:(Try.prog.info? 57).map (fun i=>(i.zero,i.size,i.bytes))=some (some (.slice none 0 0),1,24):=by kernel_rfl
def impl_inverseOf.f (l0:List (List Int)):Option (List (List Int) × Bool):=if sqN l0=true then some (invM l0) else none
/-- The first loop: rows with the identity's beside them. -/
structure IV (w:World) (l0:List (List Int)) (ad15:Addr) (i:Nat) (v5:Value) (wr:World):Prop where
 N:Kd.N (Kd.slice 5 (Kd.int .u8)) 57 wr w.heap.size (fun _=>True) v5 ((catM l0).take i)
 F:Kd.F (Kd.slice 5 (Kd.int .u8)) wr (fun k=>True∧some k ≠ v5.ownBlock) (some ad15) l0.length (idM l0.length)
 B:Below w.heap.size w wr
theorem IV.below {w wr w1:World} {l0:List (List Int)} {ad15:Addr} {i:Nat} {v5:Value} (h:IV w l0 ad15 i v5 wr) (hb:Below wr.heap.size wr w1):IV w l0 ad15 i v5 w1:=⟨Kd.N_below h.N hb,Kd.F_below h.F hb,pu h.B hb⟩
theorem IV.row {w wr:World} {l0:List (List Int)} {ad15:Addr} {i:Nat} {v5:Value} (h:IV w l0 ad15 i v5 wr) (j:Nat) (hj:j < l0.length) :
  ∃ A c,wr.cell? (ad15.add j)=some (.slice A ((idM l0.length).getD j []).length c)∧((idM l0.length).getD j []).length≤c∧Kd.F (Kd.int .u8) wr (fun k=>True∧some k ≠ v5.ownBlock) A ((idM l0.length).getD j []).length ((idM l0.length).getD j []):=by
 obtain ⟨ad,c,e,_,hK,hcc,_⟩:=Kd.F_get h.F ([]:List Int) (j:Int) d6 d6
 injection e with e
 subst e
 rw [Int.toNat_natCast] at hK hcc
 obtain ⟨A,c1,rfl,hle,hF⟩:=Kd.FK_slice_open hK
 have h0:=hcc 0 _ rfl
 have hsz:(Kd.slice 5 (Kd.int .u8)).sz=1:=rfl
 rw [hsz,Nat.mul_one,Nat.add_zero] at h0
 exact ⟨A,c1,h0,hle,hF⟩
/-- The second loop: what stands beside is copied out. -/
structure IW (w:World) (D:List (List Int)) (n g cap len:Nat) (i:Nat) (v8:Value) (wr:World):Prop where
 N:Kd.N (Kd.slice 5 (Kd.int .u8)) 57 wr w.heap.size (fun k=>True∧some k ≠ v8.ownBlock) (.slice (some ⟨g,0,none⟩) len cap) D
 S:Kd.S (Kd.slice 5 (Kd.int .u8)) 57 wr w.heap.size (fun _=>True) v8 ((D.map (List.drop n)).take i)
 B:Below w.heap.size w wr
theorem impl_inverseOf.calls (A0:Option Addr) (c0:Nat) (l0:List (List Int)) (r1:List (List Int)) (r2:Bool) (w:World) (hr0:Kd.C (Kd.slice 5 (Kd.int .u8)) w A0 l0.length l0) (hc0:l0.length≤c0) (h:impl_inverseOf.f l0=some (r1,r2)) :
  Calls Try.prog 101 #[.slice A0 l0.length c0] w fun e w'=>∃ v0_:Value,e = .returned (.tuple #[v0_, .bool r2])∧Kd.S (Kd.slice 5 (Kd.int .u8)) 57 w' w.heap.size (fun _=>True) v0_ r1∧Below w.heap.size w w':=by
 unfold impl_inverseOf.f at h
 by_cases hs:sqN l0=true
 case neg=>rw [if_neg hs] at h;cases h
 rw [if_pos hs] at h
 have hrr:invM l0=(r1,r2):=Option.some.inj h
 clear h
 obtain ⟨h1,h2,h3⟩:=sqN_iff.1 hs
 clear hs
 obtain ⟨ad0,rfl,_⟩:=hr0.2.2 d6
 obtain ⟨n,hn⟩:∃ n,n=l0.length:=⟨_,rfl⟩
 obtain ⟨kI,hI⟩:=(ImplInv.impl_identity.ev l0.length d6).rounds
 have HI:=am hI
 have HN:=am hn
 have HR0:=am hr0
 have HO3:=am h3
 have HRR:=am hrr
 rw [← hn] at h1 h2 hc0 ⊢
 clear hI hn hr0 h3 hrr
 have HB:=am (Below.refl w.heap.size w)
 go_enter Try.func101,Try.ntmps101
 go_wp2_with (first|((with_reducible refine gate_dst (N:=13) rfl ?_);refine Kd.N_lit (Kd.slice 5 (Kd.int .u8)) _ 57 ?hg (N':=13) ?hd (xs:=([]:List (List Int))) (inner:=[]) (ok:=fun _=>True) (okp:=fun _=>True) ?hr ?hp (fun _ hk=>hk) trivial (Below.refl _ _) (Nat.le_refl _) d20 ?_;(case hd=>rfl);(case hg=>rfl);(case hr=>first|(go_simp;done)|(go_simp;rfl));(case hp=>exact (Reps.none _ _));intro v13 w3 ho4 hb hg_ hnew_;clear hg_ hnew_;have HO:=am ho4;clear HB;have HB:=am hb;clear hb ho4)|fail)
 have hI:impl_identity.f kI (n:Int)=some (idM l0.length):=by rw [HN.out];exact HI.out
 refine (impl_identity.calls kI (n:Int) (idM l0.length) _ hI).mono ?_
 clear hI
 rintro e w4 ⟨v15,rfl,ho,hb⟩
 obtain ⟨g15,c15,e15,_⟩:=Kd.S_form ho (by rw [idM_length];have:=HN.out;omega)
 rw [idM_length] at e15
 have hN4:=Kd.N_below HO.out hb
 have hlt:=Kd.N_lt HO.out
 have HX:=am (show IV w l0 ⟨g15,0,none⟩ 0 v13 w4 from ⟨by simpa using hN4,by
  have hS:=Kd.S_F (n:=l0.length) (by rw [e15] at ho;exact Kd.S_mono (Kd.S_bound ho) (ok':=fun k=>True∧some k ≠ v13.ownBlock) (fun k hk=>⟨trivial,fun e=>by have:=hlt k e.symm;have:=hk.2.1;omega⟩))
  exact hS,pu HB.out hb⟩)
 rw [← HN.out] at e15
 subst e15
 clear HO HB hb ho hN4 hlt
 go_wp2_with fail
 go_loopg [5,17] (n+1) (fun fu v5 v17 wr=>∃ i:Nat,i≤n∧n - i < fu∧v17 = .int .i64 i∧Aside0 (IV w l0 ⟨g15,0,none⟩ i v5 wr))
 case atStart=>exact ⟨0,Nat.zero_le _,d6,rfl,HX⟩
 case round =>
  clear HX
  obtain ⟨i,hi,hfu,rfl,HX⟩:=hrel
  by_cases hin:i < n
  case neg =>
   have e:i=n:=by omega
   subst e
   have hrz:¬ (i:Int) < (i:Int):=by omega
   have hdr:decide ((i:Int) < (i:Int))=false:=decide_eq_false hrz
   obtain ⟨g,cap,eg,_⟩:=Kd.N_form HX.out.N (by rw [List.length_take,catM_length];have:=HN.out;omega)
   rw [List.length_take,catM_length,← HN.out,Nat.min_self] at eg
   subst eg
   have hN:=HX.out.N
   rw [List.take_of_length_le (by rw [catM_length];have:=HN.out;omega)] at hN
   have HN1:=am hN
   have HB:=am HX.out.B
   clear hN HX
   obtain ⟨D,hD⟩:∃ D,D=(rowI.red (catM l0) l0.length).1:=⟨_,rfl⟩
   obtain ⟨z,hz⟩:∃ z,z=(redP l0 (idM l0.length) l0.length).2:=⟨_,rfl⟩
   have HD:=am hD
   have HZ:=am hz
   have HE:=am (impl_eliminate.calls (catM l0) (l0.length+l0.length) l0.length (catM_ok HO3.out) d6 (by have:=HN.out;omega) (by rw [catM_length];have:=HN.out;omega) g cap i (by rw [catM_length];exact HN.out.symm) w wr HB.out HN1.out)
   rw [← HN.out,HN.out,← hD,show (rowI.red (catM l0) l0.length).2=z by rw [hz,catM_red HO3.out],← HN.out] at HE
   clear hD hz HN1 HB
   go_wp2_with fail
   refine HE.out.mono ?_
   clear HE
   rintro e w5 ⟨rfl,hN,hB⟩
   have HN1:=am hN
   have HB:=am hB
   have HDA:=am (show ∀ r ∈ D,okI (i+i) r by rw [HD.out];have z:=RowK.red_all (shutI (l0.length+l0.length)) (catM_ok HO3.out) l0.length;rw [← HN.out] at z ⊢;exact z)
   have HDL:=am (show D.length=i by rw [HD.out,RowK.red_length,catM_length];exact HN.out.symm)
   clear hN hB
   by_cases hzi:z < i
   case pos =>
    have hzz:(z:Int) < (i:Int):=by omega
    have hdz:decide ((z:Int) < (i:Int))=true:=decide_eq_true hzz
    go_wp2_with fail
    go_ret2
    have e:=HRR.out
    unfold invM at e
    rw [← HZ.out,← HN.out,if_pos hzi] at e
    injection e with e1 e2
    subst e1 e2
    exact ⟨_,rfl,Kd.S_nil _ _ _ _ _,HB.out⟩
   have hzz:¬ (z:Int) < (i:Int):=by omega
   have hdz:decide ((z:Int) < (i:Int))=false:=decide_eq_false hzz
   have HRE:=am (show D.map (List.drop i)=r1∧r2=true by
    have e:=HRR.out
    unfold invM at e
    rw [← HZ.out,if_neg (by have:=HN.out;omega),← catM_out HO3.out,← HD.out,← HN.out] at e
    injection e with e1 e2
    exact ⟨e1,e2.symm⟩)
   obtain ⟨_,rfl⟩:=HRE.out
   go_wp2_with (first|((with_reducible refine gate_dst (N:=38) rfl ?_);refine Kd.S_lit (Kd.slice 5 (Kd.int .u8)) _ 57 ?hg (N:=38) ?hd (xs:=([]:List (List Int))) (inner:=[]) (ok:=fun _=>True) (okp:=fun _=>True) ?hr ?hp (fun _ hk=>hk) trivial (Below.refl _ _) (Nat.le_refl _) d20 ?_;(case hd=>rfl);(case hg=>rfl);(case hr=>first|(go_simp;done)|(go_simp;rfl));(case hp=>exact (Reps.none _ _));intro v38 w6 ho6 hb6 hg6 hnew6;clear hg6 hnew6;have HX:=am (show IW w D i g cap i 0 v38 w6 from ⟨Kd.N_elder' HN1.out (Kd.S_base ho6) hb6,by rw [List.take_zero];exact Kd.S_lower ho6 HB.out.size,pu HB.out hb6⟩);clear HN1 HB ho6 hb6)|fail)
   go_loopg [8,41] (i+1) (fun fu v8 v41 wr=>∃ j:Nat,j≤i∧i - j < fu∧v41 = .int .i64 j∧Aside0 (IW w D i g cap i j v8 wr))
   case atStart=>exact ⟨0,Nat.zero_le _,d6,rfl,HX⟩
   case round =>
    clear HX
    obtain ⟨j,hj,hfu2,rfl,HX⟩:=hrel
    by_cases hji:j < i
    case neg =>
     have e:j=i:=by omega
     subst e
     have hrz:¬ (j:Int) < (j:Int):=by omega
     have hdr:decide ((j:Int) < (j:Int))=false:=decide_eq_false hrz
     go_wp2_with fail
     go_ret2
     have hS:=HX.out.S
     rw [List.take_of_length_le (by rw [List.length_map,HDL.out];omega),HRE.out.1] at hS
     exact ⟨_,rfl,hS,HX.out.B⟩
    have hrz:(j:Int) < (i:Int):=by omega
    have hdr:decide ((j:Int) < (i:Int))=true:=decide_eq_true hrz
    obtain ⟨A44,c44,hcell44,hle44,hF44,_⟩:=N_row HX.out.N j hji
    obtain ⟨dj,hdj⟩:∃ x,x=D.getD j []:=⟨_,rfl⟩
    rw [← hdj] at hcell44 hle44 hF44
    have hok:okI (i+i) dj:=by rw [hdj];exact RowK.at_all (O:=rowI) HDA.out (by rw [HDL.out];exact hji)
    have hdl:=hok.2
    obtain ⟨ad44,rfl,_⟩:=F_byte hF44 0 d6
    have hCd:=Kd.F_now (Kd.F_cut (m:=i) hF44 d6 hle44)
    rw [hdl] at hcell44 hle44
    have hcn:(c44=i)=False:=eq_false d6
    have hci:i≤c44:=by omega
    rw [if_neg d6,show (some ad44).map (fun x=>x.add (i*(Kd.int .u8).sz))=some (ad44.add i) from by show some (ad44.add (i*1))=_;rw [Nat.mul_one]] at hCd
    have hdd:(dj.drop i).length=i:=by rw [List.length_drop];omega
    have hcl:=slices_Clone_byte_byte.calls _ (c44 - i) (dj.drop i) (dj.drop i) wr hCd d6 (by unfold slices_Clone_byte_byte.f;simp;omega)
    rw [hdd] at hcl
    have HDJ:=am hdj
    have HCL:=am hcl
    clear hcl hCd hF44 hok hdj
    go_wp2_with fail
    refine HCL.out.mono ?_
    clear HCL
    rintro e w6 ⟨v49,rfl,ho,hb⟩
    obtain ⟨A49,c49,e49⟩:=Kd.R_slice ho
    rw [hdd] at e49
    subst e49
    have HO:=am (Kd.R_lower (Kd.R_mono (Kd.R_bound ho) (ok':=fun k=>wr.heap.size≤k) (fun k hk=>hk.2.1)) HX.out.B.size)
    have HLT:=am (Kd.S_lt HX.out.S)
    have HS:=am (Kd.S_mono (Kd.S_below (Kd.S_bound HX.out.S) hb) (ok':=fun k=>True∧¬ wr.heap.size≤k) (fun k hk=>⟨trivial,by have:=hk.2.2.1;omega⟩))
    have HN1:=am (Kd.N_below HX.out.N hb)
    have HB:=am (pu HX.out.B hb)
    clear HX ho hb
    go_wp2_with (first|((with_reducible refine gate_builtin (b:=.append) (xs:=#[.tmp 45, .tmp 50]) rfl ?_);at_builtin;refine Kd.S_append (Kd.slice 5 (Kd.int .u8)) (w0:=w) w.heap.size rfl (.tmp 45) (.tmp 50) 37 57 (.slice none 0 0) 24 rfl Try.underlying37 iv_info rfl d11 d6 u8 ((D.map (List.drop i)).take j) (dj.drop i) [.slice A49 i c49] (fun _=>True) (fun k=>wr.heap.size≤k) rfl rfl (Kd.M_row HO.out) (fun k hk=>⟨trivial,fun e=>by have:=HLT.out k e.symm;omega⟩) (fun _ _=>trivial) HS.out HB.out HB.out.size (by rw [List.length_take];omega) ?_;intro v51 w7 ho7 hb7 hg7 hat7;have HX:=am (show IW w D i g cap i (j+1) v51 w7 from ⟨Kd.N_after HN1.out hg7 hat7,by rw [List.take_succ_eq_append_getElem (by rw [List.length_map,HDL.out];exact hji),List.getElem_map,show D[j]'(by rw [HDL.out];exact hji)=dj from by rw [HDJ.out,List.getD_eq_getElem?_getD,List.getElem?_eq_getElem (by rw [HDL.out];exact hji)];rfl];exact ho7,hb7⟩);clear HO HLT HS HN1 HB ho7 hb7 hg7 hat7)|fail)
    go_roundg (i - j)
    case measure=>omega
    case rel=>exact ⟨j+1,d6,d6,by go_num,HX⟩
  have hrz:(i:Int) < (n:Int):=by omega
  have hdr:decide ((i:Int) < (n:Int))=true:=decide_eq_true hrz
  obtain ⟨A21,c21,hcell21,hle21,hF21⟩:=HX.out.row i (by have:=HN.out;omega)
  obtain ⟨ad,A26,c26,e26,hcell26,hle26,hC26⟩:=C_row (Kd.C_below HR0.out HX.out.B) i (by have:=HN.out;omega)
  injection e26 with e26
  subst e26
  obtain ⟨li,hli⟩:∃ x,x=l0.getD i []:=⟨_,rfl⟩
  obtain ⟨di,hdi⟩:∃ x,x=(idM l0.length).getD i []:=⟨_,rfl⟩
  rw [← hdi] at hcell21 hle21 hF21
  rw [add_plain] at hcell21
  rw [← hli] at hcell26 hle26 hC26
  have HLI:=am hli
  have HDI:=am hdi
  clear hli hdi
  have hil:i < n:=hin
  have hl1:li.length=n:=by rw [HLI.out,HN.out];exact (RowK.at_all (O:=rowI) HO3.out (i:=i) (by have:=HN.out;omega)).2
  have hd1:di.length=n:=by rw [HDI.out,HN.out];exact (RowK.at_all (O:=rowI) (idM_ok l0.length) (i:=i) (by rw [idM_length];have:=HN.out;omega)).2
  have hcl:=slices_Clone_byte_byte.calls A26 c26 li li wr hC26 hle26 (by unfold slices_Clone_byte_byte.f;simp;omega)
  rw [hl1] at hcell26 hcl
  rw [hd1] at hcell21
  go_wp2_with fail
  refine hcl.mono ?_
  clear hcl
  rintro e w5 ⟨v27,rfl,ho,hb⟩
  have HX5:=HX.out.below hb
  have hF5:=am (Kd.F_below hF21 hb)
  have HO:=am ho
  have HB5:=am hb
  clear ho hb hF21 hcell21 hcell26 hC26 HX5
  go_wp2_with (first|((with_reducible refine gate_builtin (b:=.append) (xs:=#[.tmp 27, .tmp 28]) rfl ?_);at_builtin;refine Kd.R_append_rows (Kd.int .u8) (w0:=wr) wr.heap.size rfl (.tmp 27) (.tmp 28) 57 5 (.int .u8 0) 1 rfl Try.underlying57 iv_info8 rfl d11 d6 v27 li di A21 n c21 (fun _=>True) (fun _=>False) rfl rfl HO.out (by have z:=Kd.F_now hF5.out;rwa [hd1] at z) (fun _ _ h=>h) (fun _ h=>h.elim) (fun _ _=>trivial) HB5.out HB5.out.size (by rw [hl1];omega) ?_;intro v29 w6 ho6 hb6 hg6 hat6;obtain ⟨A29,c29,e29⟩:=Kd.R_slice ho6;rw [List.length_append,hl1,hd1] at e29;subst e29;have HX6:=am (HX.out.below hb6);have HO6:=am ho6;clear HO HB5 hF5 ho6 hb6 hg6 hat6)|((with_reducible refine gate_builtin (b:=.append) (xs:=#[.tmp 22, .tmp 30]) rfl ?_);at_builtin;refine Kd.N_append (Kd.slice 5 (Kd.int .u8)) (w0:=w) w.heap.size rfl (.tmp 22) (.tmp 30) 37 57 (.slice none 0 0) 24 rfl Try.underlying37 iv_info rfl d11 d6 u5 ((catM l0).take i) (li ++ di) [.slice A29 (n+n) c29] (fun _=>True) (fun k=>wr.heap.size≤k) rfl rfl (FK_of_R (Kd.R_mono (Kd.R_bound HO6.out) (ok':=fun k=>wr.heap.size≤k) (fun k hk=>hk.2.1))) (fun k hk=>⟨trivial,fun e=>by have:=Kd.N_lt HX.out.N k e.symm;omega⟩) (fun _ _=>trivial) HX6.out.N HX6.out.B HX6.out.B.size (by rw [List.length_take];omega) ?_;intro v31 w7 ho7 hb7 hg7 hat7;rw [HLI.out,HDI.out,← catM_succ (by have:=HN.out;omega)] at ho7;have HX7:=am (IV.mk ho7 (Kd.F_after HX6.out.F hg7 hat7) hb7);clear HX HX6 HO6 ho7 hb7 hg7 hat7))
  go_roundg (n - i)
  case measure=>omega
  case rel=>exact ⟨i+1,d6,d6,by go_num,HX7⟩
end

def impl_decoded.l0:Nat→List (List Int)→List (List Int)→List ByteArray→List (S84)→Int→Int→Option (List ByteArray × Bool)
 | 0,_,_,_,_,_,_=>none
 | k+1,x0,x6,x7,x14,x15,x16=>if x16 < x15 then (if 0≤x16 then (if x16 < (x14.length:Int) then (if 0≤((rd_T84 x14 x16).f0) then (if ((rd_T84 x14 x16).f0) < (x0.length:Int) then (if x6.length < 5864062014805 then (if x7.length < 8796093022208 then (impl_decoded.l0 k x0 (x6 ++ [rd_L5 x0 ((rd_T84 x14 x16).f0)]) (x7 ++ [(rd_T84 x14 x16).f1]) x14 x15 (wrap64 (x16+1))) else (none)) else (none)) else (none)) else (none)) else (none)) else (none)) else ((impl_inverseOf.f x6).bind fun bt351=>(if bt351.2=true then ((impl_combined.f k bt351.1 x7).bind fun t355=>(some (t355,true))) else (some (([]:List ByteArray),false))))
def impl_decoded.f (k:Nat) (l0:List (List Int)) (l1:List (S84)):Option (List ByteArray × Bool):=impl_decoded.l0 k l0 (([]:List (List Int))) (([]:List ByteArray)) l1 (l1.length:Int) 0
theorem impl_decoded.mono_l:∀ k,(∀ y0 y1 y2 y3 y4 y5,LeO (impl_decoded.l0 k y0 y1 y2 y3 y4 y5) (impl_decoded.l0 (k+1) y0 y1 y2 y3 y4 y5))
 | 0=>fun _ _ _ _ _ _ r h=>by simp [impl_decoded.l0] at h
 | k+1=>by
  have ih0:=impl_decoded.mono_l k
  intro y0 y1 y2 y3 y4 y5
  unfold impl_decoded.l0
  repeat' first
  | (with_reducible exact ih0 _ _ _ _ _ _)
  | (with_reducible exact impl_combined.mono _ _ _)
  |(with_reducible exact LeO.refl _)|(with_reducible exact LeO.none _)|(with_reducible refine LeO.ite ?_ ?_)|(with_reducible refine LeO.bind ?_ (fun _=>?_))|exact ih0 _ _ _ _ _ _|exact impl_combined.mono _ _ _|exact LeO.none _|refine LeO.ite ?_ ?_|refine LeO.bind ?_ (fun _=>?_)
theorem impl_decoded.mono:∀ a0 a1 k,LeO (impl_decoded.f k a0 a1) (impl_decoded.f (k+1) a0 a1):=by
 intro a0 a1 k
 have ih0:=impl_decoded.mono_l k
 unfold impl_decoded.f
 repeat' first
   | (with_reducible exact ih0 _ _ _ _ _ _)
   | (with_reducible exact impl_combined.mono _ _ _)
   |(with_reducible exact LeO.refl _)|(with_reducible exact LeO.none _)|(with_reducible refine LeO.ite ?_ ?_)|(with_reducible refine LeO.bind ?_ (fun _=>?_))|exact ih0 _ _ _ _ _ _|exact impl_combined.mono _ _ _|exact LeO.none _|refine LeO.ite ?_ ?_|refine LeO.bind ?_ (fun _=>?_)
theorem impl_decoded.calls (k:Nat) (P0_:Nat→Prop) (A0:Option Addr) (c0:Nat) (l0:List (List Int)) (A1:Option Addr) (c1:Nat) (l1:List (S84)) (r1:List ByteArray) (r2:Bool) (w:World) (hs0:Kd.V (Kd.slice 5 (Kd.int .u8)) 57 w w.heap.size (fun k_=>P0_ k_) (.slice A0 l0.length c0) l0) (hr1:Kd.C k84 w A1 l1.length l1) (hc1:l1.length≤c1) (h:impl_decoded.f k l0 l1=some (r1,r2)) :
  Calls Try.prog 146 #[.slice A0 l0.length c0, .slice A1 l1.length c1] w fun e w'=>∃ v0_:Value,e = .returned (.tuple #[v0_, .bool r2])∧Kd.R Kd.string 9 w' w.heap.size (fun k_=>(w.heap.size≤k_)) v0_ r1∧Below w.heap.size w w':=by
 have hu84:=Try.underlying84
 have HO0:=am (show Kd.V (Kd.slice 5 (Kd.int .u8)) 57 w w.heap.size (fun k_=>(P0_ k_∨w.heap.size≤k_)) (.slice A0 l0.length c0) l0 from Kd.V_mono hs0 (fun k_ hk=>.inl hk))
 have HR1:=am hr1
 have HC1:=am hc1
 clear hr1 hc1
 have HB:=am (Below.refl w.heap.size w)
 have H:(impl_decoded.l0 k l0 (([]:List (List Int))) (([]:List ByteArray)) l1 (l1.length:Int) 0)=some (r1,r2):=h
 clear h
 obtain ⟨y336,hy336⟩:∃ y_:List (List Int),y_=(([]:List (List Int))):=⟨_,rfl⟩
 replace H:(impl_decoded.l0 k l0 y336 (([]:List ByteArray)) l1 (l1.length:Int) 0)=some (r1,r2):=by first|(rw [hy336];with_reducible exact H)|(have H2_:=(Option.bind_some _ _).symm.trans H;rw [hy336];with_reducible exact H2_)|(have H2_:=(Option.bind_some _ _).symm.trans H;with_reducible exact H2_)|with_reducible exact H|(rw [hy336];exact H)|exact H
 have Ny336:=am hy336
 clear hy336
 obtain ⟨y339,hy339⟩:∃ y_:List ByteArray,y_=(([]:List ByteArray)):=⟨_,rfl⟩
 replace H:(impl_decoded.l0 k l0 y336 y339 l1 (l1.length:Int) 0)=some (r1,r2):=by first|(rw [hy339];with_reducible exact H)|(have H2_:=(Option.bind_some _ _).symm.trans H;rw [hy339];with_reducible exact H2_)|(have H2_:=(Option.bind_some _ _).symm.trans H;with_reducible exact H2_)|with_reducible exact H|(rw [hy339];exact H)|exact H
 have Ny339:=am hy339
 clear hy339
 have H':=am H
 clear H
 go_enter Try.func146,Try.ntmps146
 go_wp2_with (first|((with_reducible refine gate_dst (N:=12) rfl ?_);refine Kd.N_lit (Kd.slice 5 (Kd.int .u8)) _ 57 ?hg (N':=12) ?hd (xs:=([]:List (List Int))) (inner:=[]) (ok:=(fun k_=>(P0_ k_∨w.heap.size≤k_))) (okp:=(fun k_=>(P0_ k_∨w.heap.size≤k_))) ?hr ?hp (fun _ hk=>hk) ((show ∀ k_,w.heap.size≤k_→(fun k_=>(P0_ k_∨w.heap.size≤k_)) k_ from fun k_ hk=>(.inr (Nat.le_trans (pz d0) hk))) _ (Nat.le_refl _)) (Below.refl _ _) (Nat.le_refl _) d20 ?_;(case hd=>rfl);(case hg=>rfl);(case hr=>first|(go_simp;done)|(go_simp;rfl));(case hp=>exact (Reps.none _ _));intro v337 w3 ho4 hb hg_ hnew_;clear hg_ hnew_;(first|rw [← Ny336.out] at ho4|(simp only [Int.reduceToNat] at ho4;rw [← Ny336.out] at ho4));have n0_:=am (Kd.V_elder' (by (with_reducible repeat (first|apply Kd.V_alloc|apply Kd.V_drewN|apply Kd.V_drew));exact HO0.out) (Kd.N_base ho4) hb);have n1_:=am (Kd.N_lower ho4 (pz d0));have n2_:=am (pu d0 hb);clear HO0;clear HB;have HO0:=n0_;have HO338:=n1_;have HB:=n2_;clear n0_ n1_ n2_;clear hb ho4)|((with_reducible refine gate_dst (N:=13) rfl ?_);refine Kd.R_lit Kd.string _ 9 ?hg (N:=13) ?hd (xs:=([]:List ByteArray)) (inner:=[]) (ok:=fun _=>True) (okp:=fun _=>True) ?hr ?hp (fun _ hk=>hk) trivial (Below.refl _ _) (Nat.le_refl _) d20 ?_;(case hd=>rfl);(case hg=>rfl);(case hr=>first|(go_simp;done)|(go_simp;rfl));(case hp=>exact (Reps.none _ _));intro v340 w5 ho6 hb hg_ hnew_;clear hg_ hnew_;(first|rw [← Ny339.out] at ho6|(simp only [Int.reduceToNat] at ho6;rw [← Ny339.out] at ho6));have n0_:=am (Kd.V_elder' (by (with_reducible repeat (first|apply Kd.V_alloc|apply Kd.V_drewN|apply Kd.V_drew));exact HO0.out) (Kd.R_base ho6) hb);have n1_:=am (Kd.N_elder' (by (with_reducible repeat (first|apply Kd.N_alloc|apply Kd.N_drewN|apply Kd.N_drew));exact HO338.out) (Kd.R_base ho6) hb);have n2_:=am (Kd.R_lower (Kd.R_newM (M:=fun k_=>(w.heap.size≤k_)) ho6 (pz d0) (fun k_ h_=>h_)) (pz d0));have n3_:=am (pu d0 hb);clear HO0;clear HO338;clear HB;have HO0:=n0_;have HO338:=n1_;have HO341:=n2_;have HB:=n3_;clear n0_ n1_ n2_ n3_;clear hb ho6))
 go_loopg [6,7,16] k (fun kq v6 v7 v16 w'=>∃ (x6_1:List (List Int)) (x7_1:List ByteArray) (x16_1:Int),v16 = .int .i64 x16_1∧Aside0 (impl_decoded.l0 kq l0 x6_1 x7_1 l1 (l1.length:Int) x16_1=some (r1,r2))∧Aside0 (kq≤k)∧Aside0 (Kd.V (Kd.slice 5 (Kd.int .u8)) 57 w' w.heap.size (fun k_=>(P0_ k_∨w.heap.size≤k_)∧some k_ ≠ (v6:Value).ownBlock∧some k_ ≠ (v7:Value).ownBlock) (.slice A0 l0.length c0) l0)∧Aside0 (Kd.N (Kd.slice 5 (Kd.int .u8)) 57 w' w.heap.size (fun k_=>(P0_ k_∨w.heap.size≤k_)∧some k_ ≠ (v7:Value).ownBlock) v6 x6_1)∧Aside0 (Kd.R Kd.string 9 w' w.heap.size (fun k_=>(w.heap.size≤k_)) v7 x7_1)∧Aside0 (Below w.heap.size w w'))
 case atStart=>exact ⟨(y336),(y339),(0),d2,H',⟨Nat.le_refl _⟩,⟨by (with_reducible repeat (first|apply Kd.V_alloc|apply Kd.V_drewN|apply Kd.V_drew));exact Kd.V_mono HO0.out (fun _ hk=>⟨hk.1.1,⟨hk.1.2,hk.2⟩⟩)⟩,⟨by (with_reducible repeat (first|apply Kd.N_alloc|apply Kd.N_drewN|apply Kd.N_drew));exact HO338.out⟩,⟨by (with_reducible repeat (first|apply Kd.R_alloc|apply Kd.R_drewN|apply Kd.R_drew));exact Kd.R_mono HO341.out (fun _ hk=>hk.1)⟩,⟨d0⟩⟩
 case round =>
  clear H'
  try clear c1
  try clear p2
  obtain ⟨x6_1,x7_1,x16_1,rfl,HA,HK1,HO_0,HO_6,HO_7,HB⟩:=hrel
  cases gk with
  | zero=>exact absurd HA.out (by simp [impl_decoded.l0])
  | succ k1 =>
   have H:=HA.out
   clear HA
   simp only [impl_decoded.l0] at H
   by_cases c7:x16_1 < (l1.length:Int)
   ·rw [if_pos c7] at H
    have c7b0:decide (x16_1 < (l1.length:Int))=true:=decide_eq_true c7
    clear c7
    by_cases c8:0≤x16_1
    ·rw [if_pos c8] at H
     have c8b0:decide (0≤x16_1)=true:=decide_eq_true c8
     clear c8
     by_cases c9:x16_1 < (l1.length:Int)
     ·rw [if_pos c9] at H
      have c9b0:decide (x16_1 < (l1.length:Int))=true:=decide_eq_true c9
      clear c9
      by_cases c10:0≤((rd_T84 l1 x16_1).f0)
      ·rw [if_pos c10] at H
       have c10b0:decide (0≤((rd_T84 l1 x16_1).f0))=true:=decide_eq_true c10
       clear c10
       by_cases c11:((rd_T84 l1 x16_1).f0) < (l0.length:Int)
       ·rw [if_pos c11] at H
        have c11b0:decide (((rd_T84 l1 x16_1).f0) < (l0.length:Int))=true:=decide_eq_true c11
        clear c11
        by_cases c12:x6_1.length < 5864062014805
        ·rw [if_pos c12] at H
         have LMc12:=am c12
         clear c12
         obtain ⟨y345,hy345⟩:∃ y_:List (List Int),y_=(x6_1 ++ [rd_L5 l0 ((rd_T84 l1 x16_1).f0)]):=⟨_,rfl⟩
         replace H:(if x7_1.length < 8796093022208 then (impl_decoded.l0 k1 l0 y345 (x7_1 ++ [(rd_T84 l1 x16_1).f1]) l1 (l1.length:Int) (wrap64 (x16_1+1))) else (none))=some (r1,r2):=by first|(rw [hy345];with_reducible exact H)|(have H2_:=(Option.bind_some _ _).symm.trans H;rw [hy345];with_reducible exact H2_)|(have H2_:=(Option.bind_some _ _).symm.trans H;with_reducible exact H2_)|with_reducible exact H|(rw [hy345];exact H)|exact H
         have Ny345:=am hy345
         clear hy345
         by_cases c13:x7_1.length < 8796093022208
         ·rw [if_pos c13] at H
          have LMc13:=am c13
          clear c13
          obtain ⟨y348,hy348⟩:∃ y_:List ByteArray,y_=(x7_1 ++ [(rd_T84 l1 x16_1).f1]):=⟨_,rfl⟩
          replace H:(impl_decoded.l0 k1 l0 y345 y348 l1 (l1.length:Int) (wrap64 (x16_1+1)))=some (r1,r2):=by first|(rw [hy348];with_reducible exact H)|(have H2_:=(Option.bind_some _ _).symm.trans H;rw [hy348];with_reducible exact H2_)|(have H2_:=(Option.bind_some _ _).symm.trans H;with_reducible exact H2_)|with_reducible exact H|(rw [hy348];exact H)|exact H
          have Ny348:=am hy348
          clear hy348
          have H':=am H
          clear H
          have p342:0≤(x16_1:Int):=od d1
          have q342:x16_1 < (l1.length:Int):=od d1
          obtain ⟨ad342,e342,hx342_0,hx342_1⟩:=at_T84 HR1.out x16_1 p342 q342
          cases e342
          replace hx342_0:=(HB.out.cell (World.block_lt_of_cell? w _ hx342_0)).trans hx342_0
          replace hx342_1:=(HB.out.cell (World.block_lt_of_cell? w _ hx342_1)).trans hx342_1
          replace p342:=eq_true p342
          replace q342:=eq_true q342
          go_wp2_with (first|((with_reducible refine gate_dst (N:=9) rfl ?_);refine box_event ?hg (N:=9) ?hd (cs:=#[.int .i64 0, .string (⟨#[]⟩:ByteArray)]) (t:=84) ?hr ?_;(case hd=>rfl);(case hg=>rfl);(case hr=>first|(go_simp;done)|(go_simp;rfl));intro gb343 hg w14 hbox hb;have n0_:=am (Kd.V_below (Kd.V_elderB d33 gb343 (Nat.le_of_eq hg.symm)) hb);have n1_:=am (Kd.N_below (Kd.N_elderB d21 gb343 (Nat.le_of_eq hg.symm)) hb);have n2_:=am (Kd.R_below d18 hb);have n3_:=am (pu d0 hb);have n4_:=am (hbox);have n5_:=am ((by rw [hg];exact (pz d0):w.heap.size≤gb343));have n6_:=n5_;clear HO_0;clear HO_6;clear HO_7;clear HB;have HO_0:=n0_;have HO_6:=n1_;have HO_7:=n2_;have HB:=n3_;have BK343:=n4_;have GW343:=n5_;have GE343:=n6_;clear n0_ n1_ n2_ n3_ n4_ n5_ n6_;clear hb hbox hg;have hcz15_0:w14.cell? ⟨gb343,0,none⟩=some (.int .i64 0):=(blk_cell BK343.out 0).trans rfl;have hcz15_1:w14.cell? ⟨gb343,1,none⟩=some (.string (⟨#[]⟩:ByteArray)):=(blk_cell BK343.out 1).trans rfl;have hfz15_0:=blk_frozen BK343.out 0;have hfz15_1:=blk_frozen BK343.out 1)|((with_reducible refine gate_store (t:=84) (p:=9) rfl ?_);refine store_event (t:=84) (p:=9) (v:=?vo_w16) (w1:=((w14.setCell ⟨gb343,0,none⟩ (.int .i64 ((rd_T84 l1 x16_1).f0))).setCell ⟨gb343,1,none⟩ (.string ((rd_T84 l1 x16_1).f1)))) ?hg ?ho ?hn ?hr ?_;(case ho=>rfl);(case hg=>rfl);(case hn=>rfl);(case hr=>first|(go_simp;done)|(go_simp;rfl));intro w16 hw;have n0_:Aside0 (Kd.V (Kd.slice 5 (Kd.int .u8)) 57 w16 w.heap.size (fun k_=>(P0_ k_∨w.heap.size≤k_)∧some k_ ≠ (u6:Value).ownBlock∧some k_ ≠ (u7:Value).ownBlock∧k_ ≠ gb343) (.slice A0 l0.length c0) l0):=⟨(by rw [hw];exact (by (with_reducible repeat (first|apply Kd.V_alloc|apply Kd.V_drewN|apply Kd.V_drew));exact Kd.V_mono (Kd.V_far (p:=⟨gb343,1,none⟩) (Kd.V_far (p:=⟨gb343,0,none⟩) (Kd.V_mono HO_0.out (fun k_ hk=>(⟨hk,hk.2⟩:_∧k_ ≠ gb343))) (fun _ hk=>hk.2) (.int .i64 ((rd_T84 l1 x16_1).f0))) (fun _ hk=>hk.2) (.string ((rd_T84 l1 x16_1).f1))) (fun _ hk=>⟨hk.1.1.1,⟨hk.1.1.2.1,⟨hk.1.1.2.2,hk.1.2⟩⟩⟩)))⟩;have n1_:Aside0 (Kd.N (Kd.slice 5 (Kd.int .u8)) 57 w16 w.heap.size (fun k_=>(P0_ k_∨w.heap.size≤k_)∧some k_ ≠ (u7:Value).ownBlock∧k_ ≠ gb343) u6 x6_1):=⟨(by rw [hw];exact (by (with_reducible repeat (first|apply Kd.N_alloc|apply Kd.N_drewN|apply Kd.N_drew));exact Kd.N_mono (Kd.N_far (p:=⟨gb343,1,none⟩) (Kd.N_far (p:=⟨gb343,0,none⟩) (Kd.N_mono HO_6.out (fun k_ hk=>(⟨hk,hk.2⟩:_∧k_ ≠ gb343))) (fun _ hk=>hk.2) (.int .i64 ((rd_T84 l1 x16_1).f0))) (fun _ hk=>hk.2) (.string ((rd_T84 l1 x16_1).f1))) (fun _ hk=>⟨hk.1.1.1,⟨hk.1.1.2,hk.1.2⟩⟩)))⟩;have n2_:Aside0 (Kd.R Kd.string 9 w16 w.heap.size (fun k_=>(w.heap.size≤k_)) u7 x7_1):=⟨(by rw [hw];exact (by (with_reducible repeat (first|apply Kd.R_alloc|apply Kd.R_drewN|apply Kd.R_drew));exact Kd.R_mono (Kd.R_far (p:=⟨gb343,1,none⟩) (Kd.R_far (p:=⟨gb343,0,none⟩) (Kd.R_types HO_7.out BK343.out d11) (fun _ hk=>hk.2) (.int .i64 ((rd_T84 l1 x16_1).f0))) (fun _ hk=>hk.2) (.string ((rd_T84 l1 x16_1).f1))) (fun _ hk=>hk.1)))⟩;have n3_:Aside0 (w16.heap[gb343]? = some (.cells #[.int .i64 ((rd_T84 l1 x16_1).f0), .string ((rd_T84 l1 x16_1).f1)] 84 (0,0))):=⟨(by rw [hw];exact (by (with_reducible repeat (first|refine qn ?_ _|refine qd ?_|refine qa ?_ _));refine blk_put (cs:=#[.int .i64 ((rd_T84 l1 x16_1).f0), .string (⟨#[]⟩:ByteArray)]) ?_ 1 _ rfl;(with_reducible repeat (first|refine qn ?_ _|refine qd ?_|refine qa ?_ _));refine blk_put (cs:=#[.int .i64 0, .string (⟨#[]⟩:ByteArray)]) ?_ 0 _ rfl;(with_reducible repeat (first|refine qn ?_ _|refine qd ?_|refine qa ?_ _));exact BK343.out))⟩;have n4_:Aside0 (Below w.heap.size w w16):=⟨(by rw [hw];exact (by repeat (first|(with_reducible first|exact HB.out|apply pa|apply pb|apply pd|refine pt ?_ GE343.out)|exact HB.out)))⟩;clear hw;clear HO_0;clear HO_6;clear HO_7;clear BK343;clear HB;have HO_0:=n0_;have HO_6:=n1_;have HO_7:=n2_;have BK343:=n3_;have HB:=n4_;clear n0_ n1_ n2_ n3_ n4_;have hcz17_0:w16.cell? ⟨gb343,0,none⟩=some (.int .i64 ((rd_T84 l1 x16_1).f0)):=(blk_cell BK343.out 0).trans rfl;have hcz17_1:w16.cell? ⟨gb343,1,none⟩=some (.string ((rd_T84 l1 x16_1).f1)):=(blk_cell BK343.out 1).trans rfl;have hfz17_0:=blk_frozen BK343.out 0;have hfz17_1:=blk_frozen BK343.out 1;have p344:0≤(((rd_T84 l1 x16_1).f0):Int):=od d1;have q344:((rd_T84 l1 x16_1).f0) < (l0.length:Int):=od d1;obtain ⟨ad344,A344_0,c344_0,e344,hx344_0,hl344_0,hi344_0⟩:=at_L5 (Kd.V_reads' HO_0.out).2.2 ((rd_T84 l1 x16_1).f0) p344 q344;cases e344;obtain ⟨ce344,hce344,hMe344,hcc344⟩:=Kd.V_get HO_0.out [] ((rd_T84 l1 x16_1).f0) p344 (by first|exact q344|exact od d1|(have e_:=(Kd.V_reads' HO_0.out).1;omega));obtain ⟨ua344_0,uc344_0,rfl,ul344_0,ge344_0⟩:=Kd.FK_slice_open hMe344;have hv344_0:=hcc344 0 _ rfl;rw [Nat.add_zero,show ((Kd.slice 5 (Kd.int .u8))).sz=1 from rfl,Nat.mul_one] at hv344_0;replace hv344_0:=Option.some.inj (hv344_0.symm.trans hx344_0);injection hv344_0 with hva_ hvn_ hvc_;rw [hva_] at ge344_0;rw [hvc_] at ul344_0;have HL344_0:=am (show Kd.V (Kd.int .u8) 5 _ w.heap.size _ _ (rd_L5 l0 ((rd_T84 l1 x16_1).f0)) from Kd.V_mk ul344_0 ge344_0);clear hva_ hvn_ hvc_ ge344_0 ul344_0;clear hcc344 hce344;have HR344_0:=am hi344_0;have HC344_0:=am hl344_0;clear hi344_0 hl344_0;replace p344:=eq_true p344;replace q344:=eq_true q344)|((with_reducible refine gate_builtin (b:=.append) (xs:=#[.tmp 20, .tmp 26]) rfl ?_);at_builtin;refine Kd.N_append (Kd.slice 5 (Kd.int .u8)) (w0:=w) w.heap.size rfl (.tmp 20) (.tmp 26) 37 57 (.slice none 0 0) 24 rfl Try.underlying37 info57 rfl d11 d6 u6 x6_1 (rd_L5 l0 ((rd_T84 l1 x16_1).f0)) [.slice A344_0 (rd_L5 l0 ((rd_T84 l1 x16_1).f0)).length c344_0] (fun k_=>(P0_ k_∨w.heap.size≤k_)∧some k_ ≠ (u7:Value).ownBlock∧k_ ≠ gb343) (fun k_=>((fun k_=>(P0_ k_∨w.heap.size≤k_)∧some k_ ≠ (u7:Value).ownBlock∧k_ ≠ gb343)) k_∧some k_ ≠ (u6:Value).ownBlock) rfl rfl ?aP (fun _ hk=>hk) ?aF ?aO ?aB ?aS ?aL ?_;(case aP=>exact (Kd.FK_slice_mk (Kd.V_reads' (Kd.V_mono (ok':=(fun k_=>((fun k_=>(P0_ k_∨w.heap.size≤k_)∧some k_ ≠ (u7:Value).ownBlock∧k_ ≠ gb343)) k_∧some k_ ≠ (u6:Value).ownBlock)) (HL344_0.out) (fun k_ hk=>⟨⟨hk.1,⟨hk.2.2.1,hk.2.2.2⟩⟩,hk.2.1⟩))).2.1 (Kd.V_F (Kd.V_mono (ok':=(fun k_=>((fun k_=>(P0_ k_∨w.heap.size≤k_)∧some k_ ≠ (u7:Value).ownBlock∧k_ ≠ gb343)) k_∧some k_ ≠ (u6:Value).ownBlock)) (HL344_0.out) (fun k_ hk=>⟨⟨hk.1,⟨hk.2.2.1,hk.2.2.2⟩⟩,hk.2.1⟩)))));(case aB=>exact (by repeat (first|(with_reducible first|exact HB.out|apply pa|apply pb|apply pd|refine pt ?_ GE343.out)|exact HB.out)));(case aF=>exact (fun k_ hk=>⟨(.inr (Nat.le_trans (pz (by repeat (first|(with_reducible first|exact HB.out|apply pa|apply pb|apply pd|refine pt ?_ GE343.out)|exact HB.out))) hk)),Kd.fresh' (Kd.R_lt d18) k_ hk,Kd.freshB (g:=gb343) (o:=.cells #[.int .i64 ((rd_T84 l1 x16_1).f0), .string ((rd_T84 l1 x16_1).f1)] 84 (0,0)) (by (with_reducible repeat (first|refine qn ?_ _|refine qd ?_|refine qa ?_ _));exact BK343.out) k_ hk⟩));(case aO=>exact d21);(case aS=>exact (pz (by repeat (first|(with_reducible first|exact HB.out|apply pa|apply pb|apply pd|refine pt ?_ GE343.out)|exact HB.out))));(case aL=>have:=LMc12.out;omega);intro v346 w18 ho hb hg hat;rw [← Ny345.out] at ho;have n0_:=am (Kd.V_afterv (ok:=(fun k_=>(P0_ k_∨w.heap.size≤k_)∧some k_ ≠ (u7:Value).ownBlock∧k_ ≠ gb343)) (by (with_reducible repeat (first|apply Kd.V_alloc|apply Kd.V_drewN|apply Kd.V_drew));exact Kd.V_mono HO_0.out (fun _ hk=>⟨⟨hk.1,⟨hk.2.2.1,hk.2.2.2⟩⟩,hk.2.1⟩)) hg hat);have n1_:=am (Kd.R_over' d18 (Kd.N_typed d21) d11 hg);have n2_:=am (blk_grown (g:=gb343) (o:=.cells #[.int .i64 ((rd_T84 l1 x16_1).f0), .string ((rd_T84 l1 x16_1).f1)] 84 (0,0)) (by (with_reducible repeat (first|refine qn ?_ _|refine qd ?_|refine qa ?_ _));exact BK343.out) hg (Kd.N_ne HO_6.out BK343.out d11));have n3_:=am (Kd.V_afterv (ok:=(fun k_=>(P0_ k_∨w.heap.size≤k_)∧some k_ ≠ (u7:Value).ownBlock∧k_ ≠ gb343)) (by (with_reducible repeat (first|apply Kd.V_alloc|apply Kd.V_drewN|apply Kd.V_drew));exact Kd.V_mono HL344_0.out (fun _ hk=>⟨⟨hk.1,⟨hk.2.2.1,hk.2.2.2⟩⟩,hk.2.1⟩)) hg hat);have n4_:=am (hb);have n5_:=am (ho);clear HO_0;clear HO_7;clear BK343;clear HL344_0;clear HB;clear HO_6;have HO_0:=n0_;have HO_7:=n1_;have BK343:=n2_;have HL344_0:=n3_;have HB:=n4_;have HO347:=n5_;clear n0_ n1_ n2_ n3_ n4_ n5_;clear ho hb hg hat;have hcz19_0:w18.cell? ⟨gb343,0,none⟩=some (.int .i64 ((rd_T84 l1 x16_1).f0)):=(blk_cell BK343.out 0).trans rfl;have hcz19_1:w18.cell? ⟨gb343,1,none⟩=some (.string ((rd_T84 l1 x16_1).f1)):=(blk_cell BK343.out 1).trans rfl;have hfz19_0:=blk_frozen BK343.out 0;have hfz19_1:=blk_frozen BK343.out 1)|((with_reducible refine gate_builtin (b:=.append) (xs:=#[.tmp 28, .tmp 31]) rfl ?_);at_builtin;refine Kd.R_append Kd.string (w0:=w) w.heap.size rfl (.tmp 28) (.tmp 31) 22 9 (.string ⟨#[]⟩) 16 rfl Try.underlying22 info9 rfl d11 d6 u7 x7_1 ((rd_T84 l1 x16_1).f1) [.string ((rd_T84 l1 x16_1).f1)] (fun k_=>(w.heap.size≤k_)) (fun _=>False) rfl rfl ?aP (fun _ hk=>hk.elim) ?aF ?aO ?aB ?aS ?aL ?_;(case aP=>exact rfl);(case aB=>exact (by repeat (first|(with_reducible first|exact HB.out|apply pa|apply pb|apply pd|refine pt ?_ GE343.out)|exact HB.out)));(case aF=>exact (fun k_ hk=>(Nat.le_trans (pz (by repeat (first|(with_reducible first|exact HB.out|apply pa|apply pb|apply pd|refine pt ?_ GE343.out)|exact HB.out))) hk)));(case aO=>exact d18);(case aS=>exact (pz (by repeat (first|(with_reducible first|exact HB.out|apply pa|apply pb|apply pd|refine pt ?_ GE343.out)|exact HB.out))));(case aL=>have:=LMc13.out;omega);intro v349 w20 ho hb hg hat;rw [← Ny348.out] at ho;have n0_:=am (Kd.V_afterv (ok:=(fun k_=>(P0_ k_∨w.heap.size≤k_)∧some k_ ≠ (v346:Value).ownBlock∧k_ ≠ gb343)) (by (with_reducible repeat (first|apply Kd.V_alloc|apply Kd.V_drewN|apply Kd.V_drew));exact Kd.V_mono HO_0.out (fun _ hk=>⟨⟨hk.1.1,⟨hk.2,hk.1.2.2⟩⟩,hk.1.2.1⟩)) hg hat);have n1_:=am (blk_grown (g:=gb343) (o:=.cells #[.int .i64 ((rd_T84 l1 x16_1).f0), .string ((rd_T84 l1 x16_1).f1)] 84 (0,0)) (by (with_reducible repeat (first|refine qn ?_ _|refine qd ?_|refine qa ?_ _));exact BK343.out) hg (Kd.R_ne HO_7.out BK343.out d11));have n2_:=am (Kd.V_afterv (ok:=(fun k_=>(P0_ k_∨w.heap.size≤k_)∧some k_ ≠ (v346:Value).ownBlock∧k_ ≠ gb343)) (by (with_reducible repeat (first|apply Kd.V_alloc|apply Kd.V_drewN|apply Kd.V_drew));exact Kd.V_mono HL344_0.out (fun _ hk=>⟨⟨hk.1.1,⟨hk.2,hk.1.2.2⟩⟩,hk.1.2.1⟩)) hg hat);have n3_:=am (Kd.N_afterv (ok:=(fun k_=>(P0_ k_∨w.heap.size≤k_)∧k_ ≠ gb343)) (by (with_reducible repeat (first|apply Kd.N_alloc|apply Kd.N_drewN|apply Kd.N_drew));exact Kd.N_mono HO347.out (fun _ hk=>⟨⟨hk.1,hk.2.2⟩,hk.2.1⟩)) hg hat);have n4_:=am (hb);have n5_:=am (ho);clear HO_0;clear BK343;clear HL344_0;clear HO347;clear HB;clear HO_7;have HO_0:=n0_;have BK343:=n1_;have HL344_0:=n2_;have HO347:=n3_;have HB:=n4_;have HO350:=n5_;clear n0_ n1_ n2_ n3_ n4_ n5_;clear ho hb hg hat))
          go_roundg k1
          case measure=>have:=HK1.out;omega
          case rel=>exact ⟨(y345),(y348),(wrap64 (x16_1+1)),d2,H',⟨d26⟩,⟨by (with_reducible repeat (first|apply Kd.V_alloc|apply Kd.V_drewN|apply Kd.V_drew));exact Kd.V_mono HO_0.out (fun _ hk=>⟨hk.1.1,⟨hk.1.2.1,hk.2⟩⟩)⟩,⟨by (with_reducible repeat (first|apply Kd.N_alloc|apply Kd.N_drewN|apply Kd.N_drew));exact Kd.N_mono HO347.out (fun _ hk=>⟨hk.1.1,hk.2⟩)⟩,⟨by (with_reducible repeat (first|apply Kd.R_alloc|apply Kd.R_drewN|apply Kd.R_drew));exact HO350.out⟩,⟨by repeat (first|(with_reducible first|exact HB.out|apply pa|apply pb|apply pd|refine pt ?_ GE343.out)|exact HB.out)⟩⟩
         rw [if_neg c13] at H
         exact absurd H d20
        rw [if_neg c12] at H
        exact absurd H d20
       rw [if_neg c11] at H
       exact absurd H d20
      rw [if_neg c10] at H
      exact absurd H d20
     rw [if_neg c9] at H
     exact absurd H d20
    rw [if_neg c8] at H
    exact absurd H d20
   rw [if_neg c7] at H
   have c7b0:decide (x16_1 < (l1.length:Int))=false:=decide_eq_false c7
   clear c7
   replace H:=Option.bind_eq_some_iff.mp H
   obtain ⟨⟨t351,t352⟩,A210,H⟩:=H
   replace H:(if t352=true then ((impl_combined.f k1 t351 x7_1).bind fun t355=>(some (t355,true))) else (some (([]:List ByteArray),false)))=some (r1,r2):=H
   have A21:=am A210
   clear A210
   by_cases c22:t352=true
   ·subst c22
    have H1:((impl_combined.f k1 t351 x7_1).bind fun t355=>(some (t355,true)))=some (r1,r2):=by rw [if_pos rfl] at H;exact H
    clear H
    have H:=H1
    clear H1
    replace H:=Option.bind_eq_some_iff.mp H
    obtain ⟨t355,A230,H⟩:=H
    replace H:(some (t355,true))=some (r1,r2):=H
    have A23:=am A230
    clear A230
    simp only [Option.some.injEq,Prod.mk.injEq] at H
    obtain ⟨rfl,rfl⟩:=H
    obtain ⟨Ao24,co24,eo24⟩:=Kd.N_slice HO_6.out
    subst eo24
    go_wp2_with (first|((with_reducible refine gate_callee (f:=101) rfl ?_);refine goesL_ (some 36) rfl rfl Try.func101 d3 rfl #[.slice Ao24 x6_1.length co24] rfl d4 ?_;(with_reducible refine (impl_inverseOf.calls _ _ x6_1 t351 true _ ?side1 ?side2 A21.out).mono ?_);(case side1=>repeat (first|exact (Kd.N_reads' HO_6.out).2.2|(with_reducible refine Kd.C_alloc ?_ _)|(with_reducible refine Kd.C_drewN ?_ _)|(with_reducible refine Kd.C_drew ?_)));(case side2=>exact (Kd.N_reads' HO_6.out).2.1);rintro e w25 ⟨v353,rfl,ho0,hb⟩;refine ⟨_,rfl,?_⟩;have n0_:=am (Kd.V_elder' d33 d22 hb);have n1_:=am (Kd.N_elder' d21 d22 hb);have n2_:=am (Kd.R_below d18 hb);have n3_:=am (Kd.N_lower (Kd.N_mono (ok':=fun k_=>(P0_ k_∨w.heap.size≤k_)∧some k_ ≠ (.slice Ao24 x6_1.length co24:Value).ownBlock∧some k_ ≠ (u7:Value).ownBlock) (Kd.S_N (Kd.S_bound ho0)) (fun k_ hk_=>⟨(.inr (Nat.le_trans (pz d0) hk_.2.1)),(Kd.fresh' (Kd.N_lt d21) k_ hk_.2.1),(Kd.fresh' (Kd.R_lt d18) k_ hk_.2.1)⟩)) (pz d0));have n4_:=am (pu d0 hb);clear HO_0;clear HO_6;clear HO_7;clear HB;have HO_0:=n0_;have HO_6:=n1_;have HO_7:=n2_;have HO354:=n3_;have HB:=n4_;clear n0_ n1_ n2_ n3_ n4_;(try clear hb);(try clear hb2);(try clear hk);(try clear hi);(try clear ho0);obtain ⟨Ao26,co26,eo26⟩:=Kd.N_slice HO354.out;subst eo26;obtain ⟨Ao27,co27,eo27⟩:=Kd.R_slice HO_7.out;subst eo27)|((with_reducible refine gate_callee (f:=100) rfl ?_);refine goesL_ (some 43) rfl rfl Try.func100 d3 rfl #[.slice Ao26 t351.length co26, .slice Ao27 x7_1.length co27] rfl d4 ?_;(with_reducible refine (impl_combined.calls k1 _ _ t351 _ _ x7_1 t355 _ ?side1 ?side2 ?side3 ?side4 A23.out).mono ?_);(case side1=>repeat (first|exact (Kd.N_reads' HO354.out).2.2|(with_reducible refine Kd.C_alloc ?_ _)|(with_reducible refine Kd.C_drewN ?_ _)|(with_reducible refine Kd.C_drew ?_)));(case side2=>exact (Kd.N_reads' HO354.out).2.1);(case side3=>repeat (first|exact (Kd.R_reads' HO_7.out).2.2|(with_reducible refine Kd.C_alloc ?_ _)|(with_reducible refine Kd.C_drewN ?_ _)|(with_reducible refine Kd.C_drew ?_)));(case side4=>exact (Kd.R_reads' HO_7.out).2.1);rintro e w28 ⟨v356,rfl,ho0,hb⟩;refine ⟨_,rfl,?_⟩;have n0_:=am (Kd.V_elder' d33 (Kd.R_base ho0) hb);have n1_:=am (Kd.N_elder' d21 (Kd.R_base ho0) hb);have n2_:=am (Kd.R_elder' d18 (Kd.R_base ho0) hb);have n3_:=am (Kd.N_elder' (by (with_reducible repeat (first|apply Kd.N_alloc|apply Kd.N_drewN|apply Kd.N_drew));exact HO354.out) (Kd.R_base ho0) hb);have n4_:=am (Kd.R_lower (Kd.R_new' (Kd.R_newM (M:=fun k_=>(w.heap.size≤k_)) ho0 (pz d0) (fun k_ h_=>h_)) (Kd.R_lt d18)) (pz d0));have n5_:=am (pu d0 hb);clear HO_0;clear HO_6;clear HO_7;clear HO354;clear HB;have HO_0:=n0_;have HO_6:=n1_;have HO_7:=n2_;have HO354:=n3_;have HO357:=n4_;have HB:=n5_;clear n0_ n1_ n2_ n3_ n4_ n5_;(try clear hb);(try clear hb2);(try clear hk);(try clear hi);(try clear ho0)))
    go_ret2
    exact ⟨_,d5,by (with_reducible repeat (first|apply Kd.R_alloc|apply Kd.R_drewN|apply Kd.R_drew));exact Kd.R_mono HO357.out (fun _ hk=>hk.1.1),d0⟩
   replace c22:=Bool.eq_false_iff.mpr c22
   subst c22
   have H1:(some (([]:List ByteArray),false))=some (r1,r2):=by rw [if_neg (show ¬ (false=true) by decide)] at H;exact H
   clear H
   have H:=H1
   clear H1
   simp only [Option.some.injEq,Prod.mk.injEq] at H
   obtain ⟨rfl,rfl⟩:=H
   obtain ⟨Ao29,co29,eo29⟩:=Kd.N_slice HO_6.out
   subst eo29
   go_wp2_with (first|((with_reducible refine gate_callee (f:=101) rfl ?_);refine goesL_ (some 36) rfl rfl Try.func101 d3 rfl #[.slice Ao29 x6_1.length co29] rfl d4 ?_;(with_reducible refine (impl_inverseOf.calls _ _ x6_1 t351 false _ ?side1 ?side2 A21.out).mono ?_);(case side1=>repeat (first|exact (Kd.N_reads' HO_6.out).2.2|(with_reducible refine Kd.C_alloc ?_ _)|(with_reducible refine Kd.C_drewN ?_ _)|(with_reducible refine Kd.C_drew ?_)));(case side2=>exact (Kd.N_reads' HO_6.out).2.1);rintro e w30 ⟨v353,rfl,ho0,hb⟩;refine ⟨_,rfl,?_⟩;have n0_:=am (Kd.V_elder' d33 d22 hb);have n1_:=am (Kd.N_elder' d21 d22 hb);have n2_:=am (Kd.R_below d18 hb);have n3_:=am (Kd.N_lower (Kd.N_mono (ok':=fun k_=>(P0_ k_∨w.heap.size≤k_)∧some k_ ≠ (.slice Ao29 x6_1.length co29:Value).ownBlock∧some k_ ≠ (u7:Value).ownBlock) (Kd.S_N (Kd.S_bound ho0)) (fun k_ hk_=>⟨(.inr (Nat.le_trans (pz d0) hk_.2.1)),(Kd.fresh' (Kd.N_lt d21) k_ hk_.2.1),(Kd.fresh' (Kd.R_lt d18) k_ hk_.2.1)⟩)) (pz d0));have n4_:=am (pu d0 hb);clear HO_0;clear HO_6;clear HO_7;clear HB;have HO_0:=n0_;have HO_6:=n1_;have HO_7:=n2_;have HO354:=n3_;have HB:=n4_;clear n0_ n1_ n2_ n3_ n4_;(try clear hb);(try clear hb2);(try clear hk);(try clear hi);(try clear ho0)))
   go_ret2
   exact ⟨_,d5,d12,d0⟩

def impl_DecodeShards.j0:Nat→List (S84)→Int→Int→Bool→Option (List ByteArray × Bool)
 | 0,_,_,_,_=>none
 | k+1,x0,x1,x2,x25=>if x25=true then (some (([]:List ByteArray),false)) else ((impl_codeRows.f k x1 x2).bind fun t360=>(if 0≤x1 then (if x1≤(x0.length:Int) then ((impl_decoded.f k t360 (x0.take (x1:Int).toNat)).bind fun bt367=>(some (bt367.1,bt367.2))) else (none)) else (none)))
def impl_DecodeShards.f (k:Nat) (l0:List (S84)) (a1:Int) (a2:Int):Option (List ByteArray × Bool):=(impl_GoodShape.f a1 a2).bind fun t358=>(if t358=true then ((impl_areShards.f k l0 (wrap64 (a1+a2))).bind fun t359=>(if t359=true then (impl_DecodeShards.j0 k l0 a1 a2 (decide ((l0.length:Int) < a1))) else (impl_DecodeShards.j0 k l0 a1 a2 true))) else (impl_DecodeShards.j0 k l0 a1 a2 true))
theorem impl_DecodeShards.mono_l:∀ k,(∀ y0 y1 y2 y3,LeO (impl_DecodeShards.j0 k y0 y1 y2 y3) (impl_DecodeShards.j0 (k+1) y0 y1 y2 y3))
 | 0=>fun _ _ _ _ r h=>by simp [impl_DecodeShards.j0] at h
 | k+1=>by
  have ih0:=impl_DecodeShards.mono_l k
  intro y0 y1 y2 y3
  unfold impl_DecodeShards.j0
  repeat' first
  | (with_reducible exact ih0 _ _ _ _)
  | (with_reducible exact impl_areShards.mono _ _ _)
  | (with_reducible exact impl_codeRows.mono _ _ _)
  | (with_reducible exact impl_decoded.mono _ _ _)
  |(with_reducible exact LeO.refl _)|(with_reducible exact LeO.none _)|(with_reducible refine LeO.ite ?_ ?_)|(with_reducible refine LeO.bind ?_ (fun _=>?_))|exact ih0 _ _ _ _|exact impl_areShards.mono _ _ _|exact impl_codeRows.mono _ _ _|exact impl_decoded.mono _ _ _|exact LeO.none _|refine LeO.ite ?_ ?_|refine LeO.bind ?_ (fun _=>?_)
theorem impl_DecodeShards.mono:∀ a0 a1 a2 k,LeO (impl_DecodeShards.f k a0 a1 a2) (impl_DecodeShards.f (k+1) a0 a1 a2):=by
 intro a0 a1 a2 k
 have ih0:=impl_DecodeShards.mono_l k
 unfold impl_DecodeShards.f
 repeat' first
   | (with_reducible exact ih0 _ _ _ _)
   | (with_reducible exact impl_areShards.mono _ _ _)
   | (with_reducible exact impl_codeRows.mono _ _ _)
   | (with_reducible exact impl_decoded.mono _ _ _)
   |(with_reducible exact LeO.refl _)|(with_reducible exact LeO.none _)|(with_reducible refine LeO.ite ?_ ?_)|(with_reducible refine LeO.bind ?_ (fun _=>?_))|exact ih0 _ _ _ _|exact impl_areShards.mono _ _ _|exact impl_codeRows.mono _ _ _|exact impl_decoded.mono _ _ _|exact LeO.none _|refine LeO.ite ?_ ?_|refine LeO.bind ?_ (fun _=>?_)
def impl_DecodeShards.T3:Bool × List (List Nat × List Nat):=(true,[([],[]),([],[]),([0,1],[0,1]),([],[]),([],[]),([3,4],[3,4]),([2,5,2],[2,5]),([6],[6]),([6],[6]),([7,6,0,1,2,3,4,5,6,7,8],[7]),([8,9,0,1,2,3,4,5,6,7,8,9],[8])])
def impl_DecodeShards.B3:List Nat:=[0,0,3,0,0,24,63,127,127,511,1023]
theorem impl_DecodeShards.tab3:rtab .any (opsOf Try.f62 3)=impl_DecodeShards.T3:=by kernel_rfl
theorem impl_DecodeShards.bits3:waitsOk impl_DecodeShards.T3.2 impl_DecodeShards.B3=true:=by kernel_rfl
theorem impl_DecodeShards.calls (k:Nat) (A0:Option Addr) (c0:Nat) (l0:List (S84)) (a1:Int) (a2:Int) (r1:List ByteArray) (r2:Bool) (w:World) (hr0:Kd.C k84 w A0 l0.length l0) (hc0:l0.length≤c0) (h:impl_DecodeShards.f k l0 a1 a2=some (r1,r2)) :
  Calls Try.prog 62 #[.slice A0 l0.length c0, .int .i64 a1, .int .i64 a2] w fun e w'=>∃ v0_:Value,e = .returned (.tuple #[v0_, .bool r2])∧Kd.R Kd.string 9 w' w.heap.size (fun _=>True) v0_ r1∧Below w.heap.size w w':=by
 have HR0:=am hr0
 have HC0:=am hc0
 clear hr0 hc0
 have HB:=am (Below.refl w.heap.size w)
 have H:((impl_GoodShape.f a1 a2).bind fun t358=>(if t358=true then ((impl_areShards.f k l0 (wrap64 (a1+a2))).bind fun t359=>(if t359=true then (impl_DecodeShards.j0 k l0 a1 a2 (decide ((l0.length:Int) < a1))) else (impl_DecodeShards.j0 k l0 a1 a2 true))) else (impl_DecodeShards.j0 k l0 a1 a2 true)))=some (r1,r2):=h
 clear h
 have HC4:=am H
 clear H
 go_enter Try.func62,Try.ntmps62
 go_upto_region 1 with (fail)
 go_cut [25] (fun v25 wc=>∃ (kq:Nat) (x25_3:Bool),v25 = .bool x25_3∧Aside0 (impl_DecodeShards.j0 kq l0 a1 a2 x25_3=some (r1,r2))∧Aside0 (kq≤k)∧Aside0 (Below w.heap.size w wc))
 case first =>
  have H:=HC4.out
  clear HC4
  replace H:=Option.bind_eq_some_iff.mp H
  obtain ⟨t358,A50,H⟩:=H
  replace H:(if t358=true then ((impl_areShards.f k l0 (wrap64 (a1+a2))).bind fun t359=>(if t359=true then (impl_DecodeShards.j0 k l0 a1 a2 (decide ((l0.length:Int) < a1))) else (impl_DecodeShards.j0 k l0 a1 a2 true))) else (impl_DecodeShards.j0 k l0 a1 a2 true))=some (r1,r2):=H
  have A5:=am A50
  clear A50
  by_cases c6:t358=true
  ·subst c6
   have H1:((impl_areShards.f k l0 (wrap64 (a1+a2))).bind fun t359=>(if t359=true then (impl_DecodeShards.j0 k l0 a1 a2 (decide ((l0.length:Int) < a1))) else (impl_DecodeShards.j0 k l0 a1 a2 true)))=some (r1,r2):=by rw [if_pos rfl] at H;exact H
   clear H
   have H:=H1
   clear H1
   replace H:=Option.bind_eq_some_iff.mp H
   obtain ⟨t359,A70,H⟩:=H
   replace H:(if t359=true then (impl_DecodeShards.j0 k l0 a1 a2 (decide ((l0.length:Int) < a1))) else (impl_DecodeShards.j0 k l0 a1 a2 true))=some (r1,r2):=H
   have A7:=am A70
   clear A70
   by_cases c8:t359=true
   ·subst c8
    have H1:(impl_DecodeShards.j0 k l0 a1 a2 (decide ((l0.length:Int) < a1)))=some (r1,r2):=by rw [if_pos rfl] at H;exact H
    clear H
    have H:=H1
    clear H1
    have H':=am H
    clear H
    go_wp2_with (first|((with_reducible refine gate_callee (f:=144) rfl ?_);refine goesL_ (some 10) rfl rfl Try.func144 d3 rfl #[.int .i64 a1, .int .i64 a2] rfl d4 ?_;(with_reducible refine (impl_GoodShape.calls a1 a2 true _ A5.out).mono ?_);rintro e w' ⟨rfl,⟨nd,rfl⟩⟩;refine ⟨_,rfl,?_⟩)|(go_at_call 145;(with_reducible refine (impl_areShards.calls k _ _ l0 (wrap64 (a1+a2)) true _ ?side1 ?side2 A7.out).mono ?_);(case side1=>repeat (first|exact (Kd.C_below HR0.out d0)|(with_reducible refine Kd.C_alloc ?_ _)|(with_reducible refine Kd.C_drewN ?_ _)|(with_reducible refine Kd.C_drew ?_)));(case side2=>exact HC0.out);rintro e w9 ⟨rfl,hb⟩;have n0_:=am (pu d0 hb);clear HB;have HB:=n0_;clear n0_;(try clear hb);(try clear hb2);(try clear hk);(try clear hi)))
    go_meet
    case rel=>exact ⟨_,(decide ((l0.length:Int) < a1)),d2,H',⟨d49⟩,⟨d0⟩⟩
   replace c8:=Bool.eq_false_iff.mpr c8
   subst c8
   have H1:(impl_DecodeShards.j0 k l0 a1 a2 true)=some (r1,r2):=by rw [if_neg (show ¬ (false=true) by decide)] at H;exact H
   clear H
   have H:=H1
   clear H1
   have H':=am H
   clear H
   go_wp2_with (first|((with_reducible refine gate_callee (f:=144) rfl ?_);refine goesL_ (some 10) rfl rfl Try.func144 d3 rfl #[.int .i64 a1, .int .i64 a2] rfl d4 ?_;(with_reducible refine (impl_GoodShape.calls a1 a2 true _ A5.out).mono ?_);rintro e w' ⟨rfl,⟨nd,rfl⟩⟩;refine ⟨_,rfl,?_⟩)|(go_at_call 145;(with_reducible refine (impl_areShards.calls k _ _ l0 (wrap64 (a1+a2)) false _ ?side1 ?side2 A7.out).mono ?_);(case side1=>repeat (first|exact (Kd.C_below HR0.out d0)|(with_reducible refine Kd.C_alloc ?_ _)|(with_reducible refine Kd.C_drewN ?_ _)|(with_reducible refine Kd.C_drew ?_)));(case side2=>exact HC0.out);rintro e w10 ⟨rfl,hb⟩;have n0_:=am (pu d0 hb);clear HB;have HB:=n0_;clear n0_;(try clear hb);(try clear hb2);(try clear hk);(try clear hi)))
   go_meet
   case rel=>exact ⟨_,(true),d2,H',⟨d49⟩,⟨d0⟩⟩
  replace c6:=Bool.eq_false_iff.mpr c6
  subst c6
  have H1:(impl_DecodeShards.j0 k l0 a1 a2 true)=some (r1,r2):=by rw [if_neg (show ¬ (false=true) by decide)] at H;exact H
  clear H
  have H:=H1
  clear H1
  have H':=am H
  clear H
  go_wp2_with (first|((with_reducible refine gate_callee (f:=144) rfl ?_);refine goesL_ (some 10) rfl rfl Try.func144 d3 rfl #[.int .i64 a1, .int .i64 a2] rfl d4 ?_;(with_reducible refine (impl_GoodShape.calls a1 a2 false _ A5.out).mono ?_);rintro e w' ⟨rfl,⟨nd,rfl⟩⟩;refine ⟨_,rfl,?_⟩))
  go_meet
  case rel=>exact ⟨_,(true),d2,H',⟨d49⟩,⟨d0⟩⟩
 case rest =>
  clear HC4
  try clear c1
  try clear p2
  try clear c6
  try clear p6
  try clear c8
  obtain ⟨kq,x25_3,rfl,HA,HJ3,HB⟩:=hcut
  cases kq with
  | zero=>exact absurd HA.out (by simp [impl_DecodeShards.j0])
  | succ kj3 =>
   have H:=HA.out
   clear HA
   simp only [impl_DecodeShards.j0] at H
   by_cases c11:x25_3=true
   ·subst c11
    have H1:(some (([]:List ByteArray),false))=some (r1,r2):=by rw [if_pos rfl] at H;exact H
    clear H
    have H:=H1
    clear H1
    simp only [Option.some.injEq,Prod.mk.injEq] at H
    obtain ⟨rfl,rfl⟩:=H
    go_wp2
    go_ret2
    exact ⟨_,d5,d12,d0⟩
   replace c11:=Bool.eq_false_iff.mpr c11
   subst c11
   have H1:((impl_codeRows.f kj3 a1 a2).bind fun t360=>(if 0≤a1 then (if a1≤(l0.length:Int) then ((impl_decoded.f kj3 t360 (l0.take (a1:Int).toNat)).bind fun bt367=>(some (bt367.1,bt367.2))) else (none)) else (none)))=some (r1,r2):=by rw [if_neg (show ¬ (false=true) by decide)] at H;exact H
   clear H
   have H:=H1
   clear H1
   replace H:=Option.bind_eq_some_iff.mp H
   obtain ⟨t360,A120,H⟩:=H
   replace H:(if 0≤a1 then (if a1≤(l0.length:Int) then ((impl_decoded.f kj3 t360 (l0.take (a1:Int).toNat)).bind fun bt367=>(some (bt367.1,bt367.2))) else (none)) else (none))=some (r1,r2):=H
   have A12:=am A120
   clear A120
   by_cases c13:0≤a1
   ·rw [if_pos c13] at H
    have c13b0:=eq_true c13
    have c13b1:decide (0≤a1)=true:=decide_eq_true c13
    clear c13
    by_cases c14:a1≤(l0.length:Int)
    ·rw [if_pos c14] at H
     have c14b0:=eq_true c14
     have c14b1:decide (a1≤(l0.length:Int))=true:=decide_eq_true c14
     clear c14
     obtain ⟨y363,hy363⟩:∃ y_:List (S84),y_=(l0.take (a1:Int).toNat):=⟨_,rfl⟩
     replace H:((impl_decoded.f kj3 t360 y363).bind fun bt367=>(some (bt367.1,bt367.2)))=some (r1,r2):=by first|(rw [hy363];with_reducible exact H)|(have H2_:=(Option.bind_some _ _).symm.trans H;rw [hy363];with_reducible exact H2_)|(have H2_:=(Option.bind_some _ _).symm.trans H;with_reducible exact H2_)|with_reducible exact H|(rw [hy363];exact H)|exact H
     have Ny363:=am hy363
     clear hy363
     replace H:=Option.bind_eq_some_iff.mp H
     obtain ⟨⟨t367,t370⟩,A150,H⟩:=H
     replace H:(some (t367,t370))=some (r1,r2):=H
     have A15:=am A150
     clear A150
     simp only [Option.some.injEq,Prod.mk.injEq] at H
     obtain ⟨rfl,rfl⟩:=H
     try go_wp2
     have n0_:=am (pd HB.out)
     clear HB
     have HB:=n0_
     clear n0_
     have q17:(a1:Int)≤((l0.length:Int):Int):=od d1
     obtain ⟨i017,hi017,_,hsz17,_⟩:=info_parts info84
     have hroom17:l0.length≤c0:=HC0.out
     have hC17:Kd.C k84 _ A0 l0.length l0:=HR0.out
     have hcut17:=cut_to (P:=Try.prog) 87 84 .i64 Try.underlying87 hi017 A0 l0.length c0 a1 (od d1) q17 hroom17
     have hr17:=Kd.C_take (m:=(a1:Int).toNat) hC17 d6
     have hy17:y363.length=(a1:Int).toNat:=(by rw [Ny363.out,List.length_take];omega)
     rw [← Ny363.out] at hr17
     rw [← hy17] at hcut17
     have HR366:=am hr17
     have HC366:=am (show y363.length≤c0 from by omega)
     clear hr17 hC17 hroom17 hi017 hsz17
     have KY17:=am hy17
     clear hy17
     replace q17:=eq_true q17
     refine rS (n:=11) (S:=fun w'=>True) (ds:=[]) [(0,26),(1,27),(3,29),(4,30),(5,31),(2,0),(6,0),(7,33),(8,34),(9,6),(10,7)] d3 rfl impl_DecodeShards.tab3 impl_DecodeShards.bits3 trivial (fun hHeld HT_ HW_=>?_)
     generalize wc.drew=w16 at HB HR366 hHeld ⊢
     refine rR ?_
     refine rO (N:=some 28) HT_ rfl rfl d3 d11 (fun K hK=>?_)
     refine goes_ Try.func138 d3 rfl #[.int .i64 a1, .int .i64 a2] d16 rfl rfl d4 ?_
     with_reducible refine (impl_codeRows.calls kj3 a1 a2 t360 _ A12.out).mono ?_
     rintro e w18 ⟨v361,rfl,ho0,hb⟩
     refine ⟨_,rfl,?_⟩
     have n0_:=am (Kd.S_lower ho0 (pz d0))
     have n1_:=am (pu d0 hb)
     clear HB
     have HO362:=n0_
     have HB:=n1_
     clear n0_ n1_
     (try clear hb)
     (try clear hb2)
     (try clear hk)
     (try clear hi)
     (try clear ho0)
     obtain ⟨Ao19,co19,eo19⟩:=Kd.S_slice HO362.out
     (first|subst eo19|(injection eo19 with f1_ f2_ f3_;have f4_:=f1_.symm;have f5_:=f3_.symm;clear f1_ f2_ f3_;subst f4_;subst f5_))
     refine hK.out _ _ trivial (fun hHeld=>?_)
     clear hK K
     refine rN (a':=?_) ?_ ?_
     rotate_left
     ·show Act.put _ (some 28) _=_
      simp only [Act.put,q1,q2,q3,i64_w,i32_w]
      rfl
     refine rO (N:=some 32) HT_ rfl rfl d3 d11 (fun K hK=>?_)
     refine goes_ Try.func146 d3 rfl #[.slice Ao19 t360.length co19, .slice A0 y363.length c0] d16 rfl rfl d4 ?_
     with_reducible refine (impl_decoded.calls kj3 (fun k_=>True) _ _ t360 _ _ y363 t367 t370 _ ?side1 ?side2 ?side3 A15.out).mono ?_
     (case side1=>exact Kd.S_V (HO362.out))
     (case side2=>repeat (first|exact (Kd.C_below HR366.out HB.out)|(with_reducible refine Kd.C_alloc ?_ _)|(with_reducible refine Kd.C_drewN ?_ _)|(with_reducible refine Kd.C_drew ?_)))
     (case side3=>exact HC366.out)
     rintro e w20 ⟨v368,rfl,ho0,hb⟩
     refine ⟨_,rfl,?_⟩
     have n0_:=am (Kd.S_below (by (with_reducible repeat (first|apply Kd.S_alloc|apply Kd.S_drewN|apply Kd.S_drew));exact HO362.out) hb)
     have n1_:=am (Kd.R_lower (Kd.R_mono (ok':=fun k_=>True) ho0 (fun _ hk_=>trivial)) (pz d0))
     have n2_:=am (pu d0 hb)
     clear HO362
     clear HB
     have HO362:=n0_
     have HO369:=n1_
     have HB:=n2_
     clear n0_ n1_ n2_
     (try clear hb)
     (try clear hb2)
     (try clear hk)
     (try clear hi)
     (try clear ho0)
     refine hK.out _ _ trivial (fun hHeld=>?_)
     clear hK K
     refine rN (a':=?_) ?_ ?_
     rotate_left
     ·show Act.put _ (some 32) _=_
      simp only [Act.put,q1,q2,q3,i64_w,i32_w]
      rfl
     refine rR ?_
     refine rD HT_ d3 ?_
     try go_wp2
     go_ret2
     exact ⟨_,d5,by (with_reducible repeat (first|apply Kd.R_alloc|apply Kd.R_drewN|apply Kd.R_drew));exact HO369.out,d0⟩
    rw [if_neg c14] at H
    exact absurd H d20
   rw [if_neg c13] at H
   exact absurd H d20

-- NOT PRINTED: function 193 (impl_Shard_193)

-- NOT PRINTED: function 139 (impl_Shard_139)

end Go.Proofs.Ytajikfnpcobnpaa.PFnExactCheckShards
-- HALVED
-- SQUEEZED
-- SQUEEZED2
-- SQUEEZED3
-- SQUEEZED4
-- SQUEEZED5
-- SQUEEZED6
