-- Laid by a program of this session.
import Derived.Test.YtajikfnpcobnpaaPFnExactDecodeMsrx0
import Derived.Test.YtajikfnpcobnpaaPFnExactDecodeMsrx1
import Derived.Test.YtajikfnpcobnpaaPFnExactDecodeMsrx12
import Derived.Test.YtajikfnpcobnpaaPFnExactDecodeMsrx13
namespace Go.Proofs.Ytajikfnpcobnpaa.PFnExactDecodeMsr
open Go.RowKit Go.Proofs.YtajikfnpcobnpaaW.PrintWords Go.Proofs.YtajikfnpcobnpaaW.PrintLast Go.Proofs.YtajikfnpcobnpaaW.PrintMore
attribute [local go_sem] max2_int min2_int max_two min_two max_three min_three max_four min_four   -- for this text's walks alone
set_option linter.unusedVariables false
set_option maxHeartbeats 8000000
set_option maxRecDepth 100000
set_option linter.unusedSimpArgs false

section
open Go.Proofs.Ytajikfnpcobnpaa.Gf Go.Proofs.Ytajikfnpcobnpaa.Kit Go.Proofs.Ytajikfnpcobnpaa.KitW Go.Proofs.Ytajikfnpcobnpaa.KitN
namespace ImplInv
theorem impl_identity.ev_l0 (n:Nat) (hn:n≤1048576):∀ (d i:Nat) (o:List (List Int)),i+d=n→o=(idM n).take i→Ev (fun k=>impl_identity.l0 k (n:Int) o (n:Int) (i:Int)) (idM n)
 | 0,i,o,hi,ho=>by
  refine Ev.step (fun k=>impl_identity.l0.eq_2 _ _ _ _ k) ?_
  refine ev_neg d10 (ev_now ?_)
  rw [ho,List.take_of_length_le (by simp [idM];omega)]
 | d+1,i,o,hi,ho=>by
  have hl:o.length=i:=by rw [ho,List.length_take];simp [idM];omega
  refine Ev.step (fun k=>impl_identity.l0.eq_2 _ _ _ _ k) ?_
  simp only [Option.bind_some,Int.toNat_natCast,List.length_replicate]
  refine ev_pos d10 (ev_pos d10 (ev_pos d10 (ev_pos d10 (ev_pos d10 (ev_pos d10 ?_)))))
  rw [inc d10]
  refine impl_identity.ev_l0 n hn d (i+1) _ d10 ?_
  rw [List.take_succ_eq_append_getElem (by simp [idM];omega),← ho]
  simp [idM]
theorem impl_identity.ev (n:Nat) (hn:n≤1048576):Ev (fun k=>impl_identity.f k (n:Int)) (idM n):=by
 unfold impl_identity.f
 exact impl_identity.ev_l0 n hn n 0 [] d10 rfl
end ImplInv
theorem iv_info8:(Try.prog.info? 5).map (fun i=>(i.zero,i.size,i.bytes))=some (some (.int .u8 0),1,1):=by kernel_rfl
theorem iv_info:(Try.prog.info? 57).map (fun i=>(i.zero,i.size,i.bytes))=some (some (.slice none 0 0),1,24):=by kernel_rfl
def impl_inverseOf.f (l0:List (List Int)):Option (List (List Int) × Bool):=if sqN l0=true then some (invM l0) else none
/-- The first loop: rows with the identity's beside them. -/
structure IV (w:World) (l0:List (List Int)) (ad15:Addr) (i:Nat) (v5:Value) (wr:World):Prop where
 N:Kd.N (Kd.slice 5 (Kd.int .u8)) 57 wr w.heap.size (fun _=>True) v5 ((catM l0).take i)
 F:Kd.F (Kd.slice 5 (Kd.int .u8)) wr (fun k=>True∧some k ≠ v5.ownBlock) (some ad15) l0.length (idM l0.length)
 B:Below w.heap.size w wr
theorem IV.below {w wr w1:World} {l0:List (List Int)} {ad15:Addr} {i:Nat} {v5:Value} (h:IV w l0 ad15 i v5 wr) (hb:Below wr.heap.size wr w1):IV w l0 ad15 i v5 w1:=⟨Kd.N_below h.N hb,Kd.F_below h.F hb,pu h.B hb⟩
theorem IV.row {w wr:World} {l0:List (List Int)} {ad15:Addr} {i:Nat} {v5:Value} (h:IV w l0 ad15 i v5 wr) (j:Nat) (hj:j < l0.length) :
  ∃ A c,wr.cell? (ad15.add j)=some (.slice A ((idM l0.length).getD j []).length c)∧((idM l0.length).getD j []).length≤c∧Kd.F (Kd.int .u8) wr (fun k=>True∧some k ≠ v5.ownBlock) A ((idM l0.length).getD j []).length ((idM l0.length).getD j []):=by
 obtain ⟨ad,c,e,_,hK,hcc,_⟩:=Kd.F_get h.F ([]:List Int) (j:Int) d10 d10
 injection e with e
 subst e
 rw [Int.toNat_natCast] at hK hcc
 obtain ⟨A,c1,rfl,hle,hF⟩:=Kd.FK_slice_open hK
 have h0:=hcc 0 _ rfl
 have hsz:(Kd.slice 5 (Kd.int .u8)).sz=1:=rfl
 rw [hsz,Nat.mul_one,Nat.add_zero] at h0
 exact ⟨A,c1,h0,hle,hF⟩
/-- The second loop: what stands beside is copied out. -/
structure IW (w:World) (D:List (List Int)) (n g cap len:Nat) (i:Nat) (v8:Value) (wr:World):Prop where
 N:Kd.N (Kd.slice 5 (Kd.int .u8)) 57 wr w.heap.size (fun k=>True∧some k ≠ v8.ownBlock) (.slice (some ⟨g,0,none⟩) len cap) D
 S:Kd.S (Kd.slice 5 (Kd.int .u8)) 57 wr w.heap.size (fun _=>True) v8 ((D.map (List.drop n)).take i)
 B:Below w.heap.size w wr
theorem impl_inverseOf.calls (A0:Option Addr) (c0:Nat) (l0:List (List Int)) (r1:List (List Int)) (r2:Bool) (w:World) (hr0:Kd.C (Kd.slice 5 (Kd.int .u8)) w A0 l0.length l0) (hc0:l0.length≤c0) (h:impl_inverseOf.f l0=some (r1,r2)) :
  Calls Try.prog 101 #[.slice A0 l0.length c0] w fun e w'=>∃ v0_:Value,e = .returned (.tuple #[v0_, .bool r2])∧Kd.S (Kd.slice 5 (Kd.int .u8)) 57 w' w.heap.size (fun _=>True) v0_ r1∧Below w.heap.size w w':=by
 unfold impl_inverseOf.f at h
 by_cases hs:sqN l0=true
 case neg=>rw [if_neg hs] at h;cases h
 rw [if_pos hs] at h
 have hrr:invM l0=(r1,r2):=Option.some.inj h
 clear h
 obtain ⟨h1,h2,h3⟩:=sqN_iff.1 hs
 clear hs
 obtain ⟨ad0,rfl,_⟩:=hr0.2.2 d10
 obtain ⟨n,hn⟩:∃ n,n=l0.length:=⟨_,rfl⟩
 obtain ⟨kI,hI⟩:=(ImplInv.impl_identity.ev l0.length d10).rounds
 have HI:=am hI
 have HN:=am hn
 have HR0:=am hr0
 have HO3:=am h3
 have HRR:=am hrr
 rw [← hn] at h1 h2 hc0 ⊢
 clear hI hn hr0 h3 hrr
 have HB:=am (Below.refl w.heap.size w)
 go_enter Try.func101,Try.ntmps101
 go_wp2_with (first|((with_reducible refine gate_dst (N:=13) rfl ?_);refine Kd.N_lit (Kd.slice 5 (Kd.int .u8)) _ 57 ?hg (N':=13) ?hd (xs:=([]:List (List Int))) (inner:=[]) (ok:=fun _=>True) (okp:=fun _=>True) ?hr ?hp (fun _ hk=>hk) trivial (Below.refl _ _) (Nat.le_refl _) d20 ?_;(case hd=>rfl);(case hg=>rfl);(case hr=>first|(go_simp;done)|(go_simp;rfl));(case hp=>exact (Reps.none _ _));intro v13 w3 ho4 hb hg_ hnew_;clear hg_ hnew_;have HO:=am ho4;clear HB;have HB:=am hb;clear hb ho4)|fail)
 have hI:impl_identity.f kI (n:Int)=some (idM l0.length):=by rw [HN.out];exact HI.out
 refine (impl_identity.calls kI (n:Int) (idM l0.length) _ hI).mono ?_
 clear hI
 rintro e w4 ⟨v15,rfl,ho,hb⟩
 obtain ⟨g15,c15,e15,_⟩:=Kd.S_form ho (by rw [idM_length];have:=HN.out;omega)
 rw [idM_length] at e15
 have hN4:=Kd.N_below HO.out hb
 have hlt:=Kd.N_lt HO.out
 have HX:=am (show IV w l0 ⟨g15,0,none⟩ 0 v13 w4 from ⟨by simpa using hN4,by
  have hS:=Kd.S_F (n:=l0.length) (by rw [e15] at ho;exact Kd.S_mono (Kd.S_bound ho) (ok':=fun k=>True∧some k ≠ v13.ownBlock) (fun k hk=>⟨trivial,fun e=>by have:=hlt k e.symm;have:=hk.2.1;omega⟩))
  exact hS,pu HB.out hb⟩)
 rw [← HN.out] at e15
 subst e15
 clear HO HB hb ho hN4 hlt
 go_wp2_with fail
 go_loopg [5,17] (n+1) (fun fu v5 v17 wr=>∃ i:Nat,i≤n∧n - i < fu∧v17 = .int .i64 i∧Aside0 (IV w l0 ⟨g15,0,none⟩ i v5 wr))
 case atStart=>exact ⟨0,Nat.zero_le _,d10,rfl,HX⟩
 case round =>
  clear HX
  obtain ⟨i,hi,hfu,rfl,HX⟩:=hrel
  by_cases hin:i < n
  case neg =>
   have e:i=n:=by omega
   subst e
   have hrz:¬ (i:Int) < (i:Int):=by omega
   have hdr:decide ((i:Int) < (i:Int))=false:=decide_eq_false hrz
   obtain ⟨g,cap,eg,_⟩:=Kd.N_form HX.out.N (by rw [List.length_take,catM_length];have:=HN.out;omega)
   rw [List.length_take,catM_length,← HN.out,Nat.min_self] at eg
   subst eg
   have hN:=HX.out.N
   rw [List.take_of_length_le (by rw [catM_length];have:=HN.out;omega)] at hN
   have HN1:=am hN
   have HB:=am HX.out.B
   clear hN HX
   obtain ⟨D,hD⟩:∃ D,D=(rowI.red (catM l0) l0.length).1:=⟨_,rfl⟩
   obtain ⟨z,hz⟩:∃ z,z=(redP l0 (idM l0.length) l0.length).2:=⟨_,rfl⟩
   have HD:=am hD
   have HZ:=am hz
   have HE:=am (impl_eliminate.calls (catM l0) (l0.length+l0.length) l0.length (catM_ok HO3.out) d10 (by have:=HN.out;omega) (by rw [catM_length];have:=HN.out;omega) g cap i (by rw [catM_length];exact HN.out.symm) w wr HB.out HN1.out)
   rw [← HN.out,HN.out,← hD,show (rowI.red (catM l0) l0.length).2=z by rw [hz,catM_red HO3.out],← HN.out] at HE
   clear hD hz HN1 HB
   go_wp2_with fail
   refine HE.out.mono ?_
   clear HE
   rintro e w5 ⟨rfl,hN,hB⟩
   have HN1:=am hN
   have HB:=am hB
   have HDA:=am (show ∀ r ∈ D,okI (i+i) r by rw [HD.out];have z:=RowK.red_all (shutI (l0.length+l0.length)) (catM_ok HO3.out) l0.length;rw [← HN.out] at z ⊢;exact z)
   have HDL:=am (show D.length=i by rw [HD.out,RowK.red_length,catM_length];exact HN.out.symm)
   clear hN hB
   by_cases hzi:z < i
   case pos =>
    have hzz:(z:Int) < (i:Int):=by omega
    have hdz:decide ((z:Int) < (i:Int))=true:=decide_eq_true hzz
    go_wp2_with fail
    go_ret2
    have e:=HRR.out
    unfold invM at e
    rw [← HZ.out,← HN.out,if_pos hzi] at e
    injection e with e1 e2
    subst e1 e2
    exact ⟨_,rfl,Kd.S_nil _ _ _ _ _,HB.out⟩
   have hzz:¬ (z:Int) < (i:Int):=by omega
   have hdz:decide ((z:Int) < (i:Int))=false:=decide_eq_false hzz
   have HRE:=am (show D.map (List.drop i)=r1∧r2=true by
    have e:=HRR.out
    unfold invM at e
    rw [← HZ.out,if_neg (by have:=HN.out;omega),← catM_out HO3.out,← HD.out,← HN.out] at e
    injection e with e1 e2
    exact ⟨e1,e2.symm⟩)
   obtain ⟨_,rfl⟩:=HRE.out
   go_wp2_with (first|((with_reducible refine gate_dst (N:=38) rfl ?_);refine Kd.S_lit (Kd.slice 5 (Kd.int .u8)) _ 57 ?hg (N:=38) ?hd (xs:=([]:List (List Int))) (inner:=[]) (ok:=fun _=>True) (okp:=fun _=>True) ?hr ?hp (fun _ hk=>hk) trivial (Below.refl _ _) (Nat.le_refl _) d20 ?_;(case hd=>rfl);(case hg=>rfl);(case hr=>first|(go_simp;done)|(go_simp;rfl));(case hp=>exact (Reps.none _ _));intro v38 w6 ho6 hb6 hg6 hnew6;clear hg6 hnew6;have HX:=am (show IW w D i g cap i 0 v38 w6 from ⟨Kd.N_elder' HN1.out (Kd.S_base ho6) hb6,by rw [List.take_zero];exact Kd.S_lower ho6 HB.out.size,pu HB.out hb6⟩);clear HN1 HB ho6 hb6)|fail)
   go_loopg [8,41] (i+1) (fun fu v8 v41 wr=>∃ j:Nat,j≤i∧i - j < fu∧v41 = .int .i64 j∧Aside0 (IW w D i g cap i j v8 wr))
   case atStart=>exact ⟨0,Nat.zero_le _,d10,rfl,HX⟩
   case round =>
    clear HX
    obtain ⟨j,hj,hfu2,rfl,HX⟩:=hrel
    by_cases hji:j < i
    case neg =>
     have e:j=i:=by omega
     subst e
     have hrz:¬ (j:Int) < (j:Int):=by omega
     have hdr:decide ((j:Int) < (j:Int))=false:=decide_eq_false hrz
     go_wp2_with fail
     go_ret2
     have hS:=HX.out.S
     rw [List.take_of_length_le (by rw [List.length_map,HDL.out];omega),HRE.out.1] at hS
     exact ⟨_,rfl,hS,HX.out.B⟩
    have hrz:(j:Int) < (i:Int):=by omega
    have hdr:decide ((j:Int) < (i:Int))=true:=decide_eq_true hrz
    obtain ⟨A44,c44,hcell44,hle44,hF44,_⟩:=N_row HX.out.N j hji
    obtain ⟨dj,hdj⟩:∃ x,x=D.getD j []:=⟨_,rfl⟩
    rw [← hdj] at hcell44 hle44 hF44
    have hok:okI (i+i) dj:=by rw [hdj];exact RowK.at_all (O:=rowI) HDA.out (by rw [HDL.out];exact hji)
    have hdl:=hok.2
    obtain ⟨ad44,rfl,_⟩:=F_byte hF44 0 d10
    have hCd:=Kd.F_now (Kd.F_cut (m:=i) hF44 d10 hle44)
    rw [hdl] at hcell44 hle44
    have hcn:(c44=i)=False:=eq_false d10
    have hci:i≤c44:=by omega
    rw [if_neg d10,show (some ad44).map (fun x=>x.add (i*(Kd.int .u8).sz))=some (ad44.add i) from by show some (ad44.add (i*1))=_;rw [Nat.mul_one]] at hCd
    have hdd:(dj.drop i).length=i:=by rw [List.length_drop];omega
    have hcl:=slices_Clone_byte_byte.calls _ (c44 - i) (dj.drop i) (dj.drop i) wr hCd d10 (by unfold slices_Clone_byte_byte.f;simp;omega)
    rw [hdd] at hcl
    have HDJ:=am hdj
    have HCL:=am hcl
    clear hcl hCd hF44 hok hdj
    go_wp2_with fail
    refine HCL.out.mono ?_
    clear HCL
    rintro e w6 ⟨v49,rfl,ho,hb⟩
    obtain ⟨A49,c49,e49⟩:=Kd.R_slice ho
    rw [hdd] at e49
    subst e49
    have HO:=am (Kd.R_lower (Kd.R_mono (Kd.R_bound ho) (ok':=fun k=>wr.heap.size≤k) (fun k hk=>hk.2.1)) HX.out.B.size)
    have HLT:=am (Kd.S_lt HX.out.S)
    have HS:=am (Kd.S_mono (Kd.S_below (Kd.S_bound HX.out.S) hb) (ok':=fun k=>True∧¬ wr.heap.size≤k) (fun k hk=>⟨trivial,by have:=hk.2.2.1;omega⟩))
    have HN1:=am (Kd.N_below HX.out.N hb)
    have HB:=am (pu HX.out.B hb)
    clear HX ho hb
    go_wp2_with (first|((with_reducible refine gate_builtin (b:=.append) (xs:=#[.tmp 45, .tmp 50]) rfl ?_);at_builtin;refine Kd.S_append (Kd.slice 5 (Kd.int .u8)) (w0:=w) w.heap.size rfl (.tmp 45) (.tmp 50) 37 57 (.slice none 0 0) 24 rfl Try.underlying37 iv_info rfl d11 d10 u8 ((D.map (List.drop i)).take j) (dj.drop i) [.slice A49 i c49] (fun _=>True) (fun k=>wr.heap.size≤k) rfl rfl (Kd.M_row HO.out) (fun k hk=>⟨trivial,fun e=>by have:=HLT.out k e.symm;omega⟩) (fun _ _=>trivial) HS.out HB.out HB.out.size (by rw [List.length_take];omega) ?_;intro v51 w7 ho7 hb7 hg7 hat7;have HX:=am (show IW w D i g cap i (j+1) v51 w7 from ⟨Kd.N_after HN1.out hg7 hat7,by rw [List.take_succ_eq_append_getElem (by rw [List.length_map,HDL.out];exact hji),List.getElem_map,show D[j]'(by rw [HDL.out];exact hji)=dj from by rw [HDJ.out,List.getD_eq_getElem?_getD,List.getElem?_eq_getElem (by rw [HDL.out];exact hji)];rfl];exact ho7,hb7⟩);clear HO HLT HS HN1 HB ho7 hb7 hg7 hat7)|fail)
    go_roundg (i - j)
    case measure=>omega
    case rel=>exact ⟨j+1,d10,d10,by go_num,HX⟩
  have hrz:(i:Int) < (n:Int):=by omega
  have hdr:decide ((i:Int) < (n:Int))=true:=decide_eq_true hrz
  obtain ⟨A21,c21,hcell21,hle21,hF21⟩:=HX.out.row i (by have:=HN.out;omega)
  obtain ⟨ad,A26,c26,e26,hcell26,hle26,hC26⟩:=C_row (Kd.C_below HR0.out HX.out.B) i (by have:=HN.out;omega)
  injection e26 with e26
  subst e26
  obtain ⟨li,hli⟩:∃ x,x=l0.getD i []:=⟨_,rfl⟩
  obtain ⟨di,hdi⟩:∃ x,x=(idM l0.length).getD i []:=⟨_,rfl⟩
  rw [← hdi] at hcell21 hle21 hF21
  rw [add_plain] at hcell21
  rw [← hli] at hcell26 hle26 hC26
  have HLI:=am hli
  have HDI:=am hdi
  clear hli hdi
  have hil:i < n:=hin
  have hl1:li.length=n:=by rw [HLI.out,HN.out];exact (RowK.at_all (O:=rowI) HO3.out (i:=i) (by have:=HN.out;omega)).2
  have hd1:di.length=n:=by rw [HDI.out,HN.out];exact (RowK.at_all (O:=rowI) (idM_ok l0.length) (i:=i) (by rw [idM_length];have:=HN.out;omega)).2
  have hcl:=slices_Clone_byte_byte.calls A26 c26 li li wr hC26 hle26 (by unfold slices_Clone_byte_byte.f;simp;omega)
  rw [hl1] at hcell26 hcl
  rw [hd1] at hcell21
  go_wp2_with fail
  refine hcl.mono ?_
  clear hcl
  rintro e w5 ⟨v27,rfl,ho,hb⟩
  have HX5:=HX.out.below hb
  have hF5:=am (Kd.F_below hF21 hb)
  have HO:=am ho
  have HB5:=am hb
  clear ho hb hF21 hcell21 hcell26 hC26 HX5
  go_wp2_with (first|((with_reducible refine gate_builtin (b:=.append) (xs:=#[.tmp 27, .tmp 28]) rfl ?_);at_builtin;refine Kd.R_append_rows (Kd.int .u8) (w0:=wr) wr.heap.size rfl (.tmp 27) (.tmp 28) 57 5 (.int .u8 0) 1 rfl Try.underlying57 iv_info8 rfl d11 d10 v27 li di A21 n c21 (fun _=>True) (fun _=>False) rfl rfl HO.out (by have z:=Kd.F_now hF5.out;rwa [hd1] at z) (fun _ _ h=>h) (fun _ h=>h.elim) (fun _ _=>trivial) HB5.out HB5.out.size (by rw [hl1];omega) ?_;intro v29 w6 ho6 hb6 hg6 hat6;obtain ⟨A29,c29,e29⟩:=Kd.R_slice ho6;rw [List.length_append,hl1,hd1] at e29;subst e29;have HX6:=am (HX.out.below hb6);have HO6:=am ho6;clear HO HB5 hF5 ho6 hb6 hg6 hat6)|((with_reducible refine gate_builtin (b:=.append) (xs:=#[.tmp 22, .tmp 30]) rfl ?_);at_builtin;refine Kd.N_append (Kd.slice 5 (Kd.int .u8)) (w0:=w) w.heap.size rfl (.tmp 22) (.tmp 30) 37 57 (.slice none 0 0) 24 rfl Try.underlying37 iv_info rfl d11 d10 u5 ((catM l0).take i) (li ++ di) [.slice A29 (n+n) c29] (fun _=>True) (fun k=>wr.heap.size≤k) rfl rfl (FK_of_R (Kd.R_mono (Kd.R_bound HO6.out) (ok':=fun k=>wr.heap.size≤k) (fun k hk=>hk.2.1))) (fun k hk=>⟨trivial,fun e=>by have:=Kd.N_lt HX.out.N k e.symm;omega⟩) (fun _ _=>trivial) HX6.out.N HX6.out.B HX6.out.B.size (by rw [List.length_take];omega) ?_;intro v31 w7 ho7 hb7 hg7 hat7;rw [HLI.out,HDI.out,← catM_succ (by have:=HN.out;omega)] at ho7;have HX7:=am (IV.mk ho7 (Kd.F_after HX6.out.F hg7 hat7) hb7);clear HX HX6 HO6 ho7 hb7 hg7 hat7))
  go_roundg (n - i)
  case measure=>omega
  case rel=>exact ⟨i+1,d10,d10,by go_num,HX7⟩
end

def impl_dot.l0:Nat→List Int→Int→List Int→Int→Int→Option (Int)
 | 0,_,_,_,_,_=>none
 | k+1,x1,x5,x8,x9,x10=>if x10 < x9 then (if 0≤x10 then (if x10 < (x8.length:Int) then (if x10 < (x1.length:Int) then ((impl_Times.f k (rd x8 x10) (rd x1 x10)).bind fun t330=>(impl_dot.l0 k x1 (Go.bits .xor .u8 x5 t330) x8 x9 (wrap64 (x10+1)))) else (none)) else (none)) else (none)) else (some x5)
def impl_dot.f (k:Nat) (l0:List Int) (l1:List Int):Option (Int):=impl_dot.l0 k l1 0 l0 (l0.length:Int) 0
theorem impl_dot.mono_l:∀ k,(∀ y0 y1 y2 y3 y4,LeO (impl_dot.l0 k y0 y1 y2 y3 y4) (impl_dot.l0 (k+1) y0 y1 y2 y3 y4))
 | 0=>fun _ _ _ _ _ r h=>by simp [impl_dot.l0] at h
 | k+1=>by
  have ih0:=impl_dot.mono_l k
  intro y0 y1 y2 y3 y4
  unfold impl_dot.l0
  repeat' first
  | (with_reducible exact ih0 _ _ _ _ _)
  | (with_reducible exact impl_Times.mono _ _ _)
  |(with_reducible exact LeO.refl _)|(with_reducible exact LeO.none _)|(with_reducible refine LeO.ite ?_ ?_)|(with_reducible refine LeO.bind ?_ (fun _=>?_))|exact ih0 _ _ _ _ _|exact impl_Times.mono _ _ _|exact LeO.none _|refine LeO.ite ?_ ?_|refine LeO.bind ?_ (fun _=>?_)
theorem impl_dot.mono:∀ a0 a1 k,LeO (impl_dot.f k a0 a1) (impl_dot.f (k+1) a0 a1):=by
 intro a0 a1 k
 have ih0:=impl_dot.mono_l k
 unfold impl_dot.f
 repeat' first
   | (with_reducible exact ih0 _ _ _ _ _)
   | (with_reducible exact impl_Times.mono _ _ _)
   |(with_reducible exact LeO.refl _)|(with_reducible exact LeO.none _)|(with_reducible refine LeO.ite ?_ ?_)|(with_reducible refine LeO.bind ?_ (fun _=>?_))|exact ih0 _ _ _ _ _|exact impl_Times.mono _ _ _|exact LeO.none _|refine LeO.ite ?_ ?_|refine LeO.bind ?_ (fun _=>?_)
theorem impl_dot.calls (k:Nat) (A0:Option Addr) (c0:Nat) (l0:List Int) (A1:Option Addr) (c1:Nat) (l1:List Int) (r:Int) (w:World) (hr0:Kd.C (Kd.int .u8) w A0 l0.length l0) (hc0:l0.length≤c0) (hr1:Kd.C (Kd.int .u8) w A1 l1.length l1) (hc1:l1.length≤c1) (h:impl_dot.f k l0 l1=some r) :
  Calls Try.prog 169 #[.slice A0 l0.length c0, .slice A1 l1.length c1] w fun e w'=>e = .returned (.int .u8 r)∧Drawn0 w w':=by
 have HR0:=am hr0
 have HC0:=am hc0
 clear hr0 hc0
 have HR1:=am hr1
 have HC1:=am hc1
 clear hr1 hc1
 have H:(impl_dot.l0 k l1 0 l0 (l0.length:Int) 0)=some r:=h
 clear h
 have H':=am H
 clear H
 go_enter Try.func169,Try.ntmps169
 go_wp2
 go_loopg [5,10] k (fun kq v5 v10 w'=>∃ (x5_1:Int) (x10_1:Int),v5 = .int .u8 x5_1∧v10 = .int .i64 x10_1∧Aside0 (impl_dot.l0 kq l1 x5_1 l0 (l0.length:Int) x10_1=some r)∧Aside0 (kq≤k)∧Drawn0 w w')
 case atStart=>exact ⟨(0),(0),d2,d2,H',⟨Nat.le_refl _⟩,d12⟩
 case round =>
  clear H'
  try clear c1
  try clear p2
  obtain ⟨x5_1,x10_1,rfl,rfl,HA,HK1,⟨m1,rfl⟩⟩:=hrel
  cases gk with
  | zero=>exact absurd HA.out (by simp [impl_dot.l0])
  | succ k1 =>
   have H:=HA.out
   clear HA
   simp only [impl_dot.l0] at H
   by_cases c3:x10_1 < (l0.length:Int)
   ·rw [if_pos c3] at H
    have c3b0:decide (x10_1 < (l0.length:Int))=true:=decide_eq_true c3
    clear c3
    by_cases c4:0≤x10_1
    ·rw [if_pos c4] at H
     have c4b0:decide (0≤x10_1)=true:=decide_eq_true c4
     clear c4
     by_cases c5:x10_1 < (l0.length:Int)
     ·rw [if_pos c5] at H
      have c5b0:decide (x10_1 < (l0.length:Int))=true:=decide_eq_true c5
      clear c5
      by_cases c6:x10_1 < (l1.length:Int)
      ·rw [if_pos c6] at H
       have c6b0:decide (x10_1 < (l1.length:Int))=true:=decide_eq_true c6
       clear c6
       replace H:=Option.bind_eq_some_iff.mp H
       obtain ⟨t330,A70,H⟩:=H
       replace H:(impl_dot.l0 k1 l1 (Go.bits .xor .u8 x5_1 t330) l0 (l0.length:Int) (wrap64 (x10_1+1)))=some r:=H
       have A7:=am A70
       clear A70
       have H':=am H
       clear H
       have p328:0≤(x10_1:Int):=od d1
       have q328:x10_1 < (l0.length:Int):=od d1
       obtain ⟨ad328,e328,hx328_0⟩:=Kd.at_int HR0.out x10_1 p328 q328
       cases e328
       replace p328:=eq_true p328
       replace q328:=eq_true q328
       have p329:0≤(x10_1:Int):=od d1
       have q329:x10_1 < (l1.length:Int):=od d1
       obtain ⟨ad329,e329,hx329_0⟩:=Kd.at_int HR1.out x10_1 p329 q329
       cases e329
       replace p329:=eq_true p329
       replace q329:=eq_true q329
       go_wp2_with (first|((with_reducible refine gate_callee (f:=192) rfl ?_);refine goesL_ (some 21) rfl rfl Try.func192 d3 rfl #[.int .u8 (rd l0 x10_1), .int .u8 (rd l1 x10_1)] rfl d5 ?_;(with_reducible refine (impl_Times.calls k1 (rd l0 x10_1) (rd l1 x10_1) t330 _ A7.out).mono ?_);rintro e w' ⟨rfl,⟨nd,rfl⟩⟩;refine ⟨_,rfl,?_⟩))
       go_roundg k1
       case measure=>have:=HK1.out;omega
       case rel=>exact ⟨(Go.bits .xor .u8 x5_1 t330),(wrap64 (x10_1+1)),d2,d2,H',⟨d30⟩,d12⟩
      rw [if_neg c6] at H
      exact absurd H d20
     rw [if_neg c5] at H
     exact absurd H d20
    rw [if_neg c4] at H
    exact absurd H d20
   rw [if_neg c3] at H
   have c3b0:decide (x10_1 < (l0.length:Int))=false:=decide_eq_false c3
   clear c3
   obtain rfl:=Option.some.inj H
   go_wp2
   go_ret
   exact ⟨d2,d12⟩

def impl_solve.l0:Nat→List Int→List Int→List (List Int)→Int→Int→Option (List Int × Bool)
 | 0,_,_,_,_,_=>none
 | k+1,x1,x8,x19,x20,x21=>if x21 < x20 then (if 0≤x21 then (if x21 < (x19.length:Int) then ((impl_dot.f k (rd_L2 x19 x21) x1).bind fun t339=>(if x8.length < 140737488355328 then (impl_solve.l0 k x1 (x8 ++ [t339]) x19 x20 (wrap64 (x21+1))) else (none))) else (none)) else (none)) else (some (x8,true))
def impl_solve.f (k:Nat) (l0:List (List Int)) (l1:List Int):Option (List Int × Bool):=(impl_inverseOf.f l0).bind fun bt331=>(if bt331.2=true then (impl_solve.l0 k l1 (([]:List Int)) bt331.1 (bt331.1.length:Int) 0) else (some (([]:List Int),false)))
theorem impl_solve.mono_l:∀ k,(∀ y0 y1 y2 y3 y4,LeO (impl_solve.l0 k y0 y1 y2 y3 y4) (impl_solve.l0 (k+1) y0 y1 y2 y3 y4))
 | 0=>fun _ _ _ _ _ r h=>by simp [impl_solve.l0] at h
 | k+1=>by
  have ih0:=impl_solve.mono_l k
  intro y0 y1 y2 y3 y4
  unfold impl_solve.l0
  repeat' first
  | (with_reducible exact ih0 _ _ _ _ _)
  | (with_reducible exact impl_dot.mono _ _ _)
  |(with_reducible exact LeO.refl _)|(with_reducible exact LeO.none _)|(with_reducible refine LeO.ite ?_ ?_)|(with_reducible refine LeO.bind ?_ (fun _=>?_))|exact ih0 _ _ _ _ _|exact impl_dot.mono _ _ _|exact LeO.none _|refine LeO.ite ?_ ?_|refine LeO.bind ?_ (fun _=>?_)
theorem impl_solve.mono:∀ a0 a1 k,LeO (impl_solve.f k a0 a1) (impl_solve.f (k+1) a0 a1):=by
 intro a0 a1 k
 have ih0:=impl_solve.mono_l k
 unfold impl_solve.f
 repeat' first
   | (with_reducible exact ih0 _ _ _ _ _)
   | (with_reducible exact impl_dot.mono _ _ _)
   |(with_reducible exact LeO.refl _)|(with_reducible exact LeO.none _)|(with_reducible refine LeO.ite ?_ ?_)|(with_reducible refine LeO.bind ?_ (fun _=>?_))|exact ih0 _ _ _ _ _|exact impl_dot.mono _ _ _|exact LeO.none _|refine LeO.ite ?_ ?_|refine LeO.bind ?_ (fun _=>?_)
theorem impl_solve.calls (k:Nat) (A0:Option Addr) (c0:Nat) (l0:List (List Int)) (A1:Option Addr) (c1:Nat) (l1:List Int) (r1:List Int) (r2:Bool) (w:World) (hr0:Kd.C (Kd.slice 5 (Kd.int .u8)) w A0 l0.length l0) (hc0:l0.length≤c0) (hr1:Kd.C (Kd.int .u8) w A1 l1.length l1) (hc1:l1.length≤c1) (h:impl_solve.f k l0 l1=some (r1,r2)) :
  Calls Try.prog 119 #[.slice A0 l0.length c0, .slice A1 l1.length c1] w fun e w'=>∃ v0_:Value,e = .returned (.tuple #[v0_, .bool r2])∧Kd.R (Kd.int .u8) 5 w' w.heap.size (fun _=>True) v0_ r1∧Below w.heap.size w w':=by
 have HR0:=am hr0
 have HC0:=am hc0
 clear hr0 hc0
 have HR1:=am hr1
 have HC1:=am hc1
 clear hr1 hc1
 have HB:=am (Below.refl w.heap.size w)
 have H:((impl_inverseOf.f l0).bind fun bt331=>(if bt331.2=true then (impl_solve.l0 k l1 (([]:List Int)) bt331.1 (bt331.1.length:Int) 0) else (some (([]:List Int),false))))=some (r1,r2):=h
 clear h
 replace H:=Option.bind_eq_some_iff.mp H
 obtain ⟨⟨t331,t332⟩,A30,H⟩:=H
 replace H:(if t332=true then (impl_solve.l0 k l1 (([]:List Int)) t331 (t331.length:Int) 0) else (some (([]:List Int),false)))=some (r1,r2):=H
 have A3:=am A30
 clear A30
 by_cases c4:t332=true
 ·subst c4
  have H1:(impl_solve.l0 k l1 (([]:List Int)) t331 (t331.length:Int) 0)=some (r1,r2):=by rw [if_pos rfl] at H;exact H
  clear H
  have H:=H1
  clear H1
  obtain ⟨y335,hy335⟩:∃ y_:List Int,y_=(([]:List Int)):=⟨_,rfl⟩
  replace H:(impl_solve.l0 k l1 y335 t331 (t331.length:Int) 0)=some (r1,r2):=by first|(rw [hy335];with_reducible exact H)|(have H2_:=(Option.bind_some _ _).symm.trans H;rw [hy335];with_reducible exact H2_)|(have H2_:=(Option.bind_some _ _).symm.trans H;with_reducible exact H2_)|with_reducible exact H|(rw [hy335];exact H)|exact H
  have Ny335:=am hy335
  clear hy335
  have H':=am H
  clear H
  go_enter Try.func119,Try.ntmps119
  go_wp2_with (first|((with_reducible refine gate_callee (f:=101) rfl ?_);refine goesL_ (some 13) rfl rfl Try.func101 d3 rfl #[.slice A0 l0.length c0] rfl d5 ?_;(with_reducible refine (impl_inverseOf.calls _ _ l0 t331 true _ ?side1 ?side2 A3.out).mono ?_);(case side1=>repeat (first|exact HR0.out|(with_reducible refine Kd.C_alloc ?_ _)|(with_reducible refine Kd.C_drewN ?_ _)|(with_reducible refine Kd.C_drew ?_)));(case side2=>exact HC0.out);rintro e w5 ⟨v333,rfl,ho0,hb⟩;refine ⟨_,rfl,?_⟩;have n0_:=am (Kd.S_lower ho0 (pz d0));have n1_:=am (pu d0 hb);clear HB;have HO334:=n0_;have HB:=n1_;clear n0_ n1_;(try clear hb);(try clear hb2);(try clear hk);(try clear hi);(try clear ho0))|((with_reducible refine gate_dst (N:=18) rfl ?_);refine Kd.R_lit (Kd.int .u8) _ 5 ?hg (N:=18) ?hd (xs:=([]:List Int)) (inner:=[]) (ok:=fun _=>True) (okp:=fun _=>True) ?hr ?hp (fun _ hk=>hk) trivial (Below.refl _ _) (Nat.le_refl _) d20 ?_;(case hd=>rfl);(case hg=>rfl);(case hr=>first|(go_simp;done)|(go_simp;rfl));(case hp=>exact (Reps.none _ _));intro v336 w6 ho7 hb hg_ hnew_;clear hg_ hnew_;(first|rw [← Ny335.out] at ho7|(simp only [Int.reduceToNat] at ho7;rw [← Ny335.out] at ho7));have n0_:=am (Kd.S_elder' (by (with_reducible repeat (first|apply Kd.S_alloc|apply Kd.S_drewN|apply Kd.S_drew));exact HO334.out) (Kd.R_base ho7) hb);have n1_:=am (Kd.R_lower ho7 (pz d0));have n2_:=am (pu d0 hb);clear HO334;clear HB;have HO334:=n0_;have HO337:=n1_;have HB:=n2_;clear n0_ n1_ n2_;clear hb ho7;obtain ⟨Ao8,co8,eo8⟩:=Kd.S_slice HO334.out;subst eo8))
  go_loopg [8,21] k (fun kq v8 v21 w'=>∃ (x8_1:List Int) (x21_1:Int),v21 = .int .i64 x21_1∧Aside0 (impl_solve.l0 kq l1 x8_1 t331 (t331.length:Int) x21_1=some (r1,r2))∧Aside0 (kq≤k)∧Aside0 (Kd.R (Kd.int .u8) 5 w' w.heap.size (fun _=>True) v8 x8_1)∧Aside0 (Kd.S (Kd.slice 5 (Kd.int .u8)) 57 w' w.heap.size (fun k_=>some k_ ≠ (v8:Value).ownBlock) (.slice Ao8 t331.length co8) t331)∧Aside0 (Below w.heap.size w w'))
  case atStart=>exact ⟨(y335),(0),d2,H',⟨Nat.le_refl _⟩,⟨by (with_reducible repeat (first|apply Kd.R_alloc|apply Kd.R_drewN|apply Kd.R_drew));exact HO337.out⟩,⟨by (with_reducible repeat (first|apply Kd.S_alloc|apply Kd.S_drewN|apply Kd.S_drew));exact Kd.S_mono HO334.out (fun _ hk=>hk.2)⟩,⟨d0⟩⟩
  case round =>
   clear H'
   try clear c1
   try clear p2
   try clear c4
   obtain ⟨x8_1,x21_1,rfl,HA,HK1,HO_8,HO_19,HB⟩:=hrel
   cases gk with
   | zero=>exact absurd HA.out (by simp [impl_solve.l0])
   | succ k1 =>
    have H:=HA.out
    clear HA
    simp only [impl_solve.l0] at H
    by_cases c9:x21_1 < (t331.length:Int)
    ·rw [if_pos c9] at H
     have c9b0:decide (x21_1 < (t331.length:Int))=true:=decide_eq_true c9
     clear c9
     by_cases c10:0≤x21_1
     ·rw [if_pos c10] at H
      have c10b0:decide (0≤x21_1)=true:=decide_eq_true c10
      clear c10
      by_cases c11:x21_1 < (t331.length:Int)
      ·rw [if_pos c11] at H
       have c11b0:decide (x21_1 < (t331.length:Int))=true:=decide_eq_true c11
       clear c11
       replace H:=Option.bind_eq_some_iff.mp H
       obtain ⟨t339,A120,H⟩:=H
       replace H:(if x8_1.length < 140737488355328 then (impl_solve.l0 k1 l1 (x8_1 ++ [t339]) t331 (t331.length:Int) (wrap64 (x21_1+1))) else (none))=some (r1,r2):=H
       have A12:=am A120
       clear A120
       by_cases c13:x8_1.length < 140737488355328
       ·rw [if_pos c13] at H
        have LMc13:=am c13
        clear c13
        obtain ⟨y340,hy340⟩:∃ y_:List Int,y_=(x8_1 ++ [t339]):=⟨_,rfl⟩
        replace H:(impl_solve.l0 k1 l1 y340 t331 (t331.length:Int) (wrap64 (x21_1+1)))=some (r1,r2):=by first|(rw [hy340];with_reducible exact H)|(have H2_:=(Option.bind_some _ _).symm.trans H;rw [hy340];with_reducible exact H2_)|(have H2_:=(Option.bind_some _ _).symm.trans H;with_reducible exact H2_)|with_reducible exact H|(rw [hy340];exact H)|exact H
        have Ny340:=am hy340
        clear hy340
        have H':=am H
        clear H
        have p338:0≤(x21_1:Int):=od d1
        have q338:x21_1 < (t331.length:Int):=od d1
        obtain ⟨ad338,A338_0,c338_0,e338,hx338_0,hl338_0,hi338_0⟩:=at_L2 (Kd.S_reads' HO_19.out).2.2 x21_1 p338 q338
        cases e338
        obtain ⟨ce338,hce338,hMe338,hcc338⟩:=Kd.S_get HO_19.out [] x21_1 p338 (by first|exact q338|exact od d1|(have e_:=(Kd.S_reads' HO_19.out).1;omega))
        obtain ⟨ve338_0,rfl,ge338_0⟩:=hMe338
        have hv338_0:=hcc338 0 _ rfl
        rw [Nat.add_zero,show ((Kd.slice 5 (Kd.int .u8))).sz=1 from rfl,Nat.mul_one] at hv338_0
        replace hv338_0:=Option.some.inj (hv338_0.symm.trans hx338_0)
        rw [hv338_0] at ge338_0
        have HL338_0:=am (show Kd.R (Kd.int .u8) 5 _ _ _ _ (rd_L2 t331 x21_1) from ge338_0)
        clear hv338_0 ge338_0
        clear hcc338 hce338
        have HR338_0:=am hi338_0
        have HC338_0:=am hl338_0
        clear hi338_0 hl338_0
        replace p338:=eq_true p338
        replace q338:=eq_true q338
        go_wp2_with (first|((with_reducible refine gate_callee (f:=169) rfl ?_);refine goesL_ (some 28) rfl rfl Try.func169 d3 rfl #[.slice A338_0 (rd_L2 t331 x21_1).length c338_0, .slice A1 l1.length c1] rfl d5 ?_;(with_reducible refine (impl_dot.calls k1 _ _ (rd_L2 t331 x21_1) _ _ l1 t339 _ ?side1 ?side2 ?side3 ?side4 A12.out).mono ?_);(case side1=>repeat (first|exact (by repeat (first|(with_reducible exact HR338_0.out)|(with_reducible refine Kd.C_alloc ?_ _)|(with_reducible refine Kd.C_drewN ?_ _)|(with_reducible refine Kd.C_drew ?_)|exact HR338_0.out))|(with_reducible refine Kd.C_alloc ?_ _)|(with_reducible refine Kd.C_drewN ?_ _)|(with_reducible refine Kd.C_drew ?_)));(case side2=>exact HC338_0.out);(case side3=>repeat (first|exact (Kd.C_below HR1.out HB.out)|(with_reducible refine Kd.C_alloc ?_ _)|(with_reducible refine Kd.C_drewN ?_ _)|(with_reducible refine Kd.C_drew ?_)));(case side4=>exact HC1.out);rintro e w' ⟨rfl,⟨nd,rfl⟩⟩;refine ⟨_,rfl,?_⟩)|((with_reducible refine gate_builtin (b:=.append) (xs:=#[.tmp 25, .tmp 29]) rfl ?_);at_builtin;refine Kd.R_append (Kd.int .u8) (w0:=w) w.heap.size rfl (.tmp 25) (.tmp 29) 57 5 (.int .u8 0) 1 rfl Try.underlying57 info5 rfl d11 d10 u8 x8_1 t339 [.int .u8 t339] (fun _=>True) (fun _=>False) rfl rfl ?aP (fun _ hk=>hk.elim) ?aF ?aO ?aB ?aS ?aL ?_;(case aP=>exact rfl);(case aB=>exact d0);(case aF=>exact (fun _ _=>trivial));(case aO=>exact (by (with_reducible repeat (first|apply Kd.R_alloc|apply Kd.R_drewN|apply Kd.R_drew));exact HO_8.out));(case aS=>exact (pz d0));(case aL=>have:=LMc13.out;omega);intro v341 w14 ho hb hg hat;rw [← Ny340.out] at ho;have n0_:=am (Kd.S_after (ok:=(fun _=>True)) (by (with_reducible repeat (first|apply Kd.S_alloc|apply Kd.S_drewN|apply Kd.S_drew));exact Kd.S_mono HO_19.out (fun _ hk=>⟨trivial,hk⟩)) hg hat);have n1_:=am (Kd.R_after (ok:=(fun k_=>some k_ ≠ (.slice (some ad338) t331.length co8:Value).ownBlock)) (by (with_reducible repeat (first|apply Kd.R_alloc|apply Kd.R_drewN|apply Kd.R_drew));exact Kd.R_mono HL338_0.out (fun _ hk=>⟨hk.2,hk.1⟩)) hg hat);have n2_:=am (hb);have n3_:=am (ho);clear HO_19;clear HL338_0;clear HB;clear HO_8;have HO_19:=n0_;have HL338_0:=n1_;have HB:=n2_;have HO342:=n3_;clear n0_ n1_ n2_ n3_;clear ho hb hg hat))
        go_roundg k1
        case measure=>have:=HK1.out;omega
        case rel=>exact ⟨(y340),(wrap64 (x21_1+1)),d2,H',⟨d30⟩,⟨by (with_reducible repeat (first|apply Kd.R_alloc|apply Kd.R_drewN|apply Kd.R_drew));exact HO342.out⟩,⟨by (with_reducible repeat (first|apply Kd.S_alloc|apply Kd.S_drewN|apply Kd.S_drew));exact Kd.S_mono HO_19.out (fun _ hk=>hk.2)⟩,⟨d0⟩⟩
       rw [if_neg c13] at H
       exact absurd H d20
      rw [if_neg c11] at H
      exact absurd H d20
     rw [if_neg c10] at H
     exact absurd H d20
    rw [if_neg c9] at H
    have c9b0:decide (x21_1 < (t331.length:Int))=false:=decide_eq_false c9
    clear c9
    simp only [Option.some.injEq,Prod.mk.injEq] at H
    obtain ⟨rfl,rfl⟩:=H
    go_wp2
    go_ret2
    exact ⟨_,d4,by (with_reducible repeat (first|apply Kd.R_alloc|apply Kd.R_drewN|apply Kd.R_drew));exact HO_8.out,d0⟩
 replace c4:=Bool.eq_false_iff.mpr c4
 subst c4
 have H1:(some (([]:List Int),false))=some (r1,r2):=by rw [if_neg (show ¬ (false=true) by decide)] at H;exact H
 clear H
 have H:=H1
 clear H1
 simp only [Option.some.injEq,Prod.mk.injEq] at H
 obtain ⟨rfl,rfl⟩:=H
 go_enter Try.func119,Try.ntmps119
 go_wp2_with (first|((with_reducible refine gate_callee (f:=101) rfl ?_);refine goesL_ (some 13) rfl rfl Try.func101 d3 rfl #[.slice A0 l0.length c0] rfl d5 ?_;(with_reducible refine (impl_inverseOf.calls _ _ l0 t331 false _ ?side1 ?side2 A3.out).mono ?_);(case side1=>repeat (first|exact HR0.out|(with_reducible refine Kd.C_alloc ?_ _)|(with_reducible refine Kd.C_drewN ?_ _)|(with_reducible refine Kd.C_drew ?_)));(case side2=>exact HC0.out);rintro e w15 ⟨v333,rfl,ho0,hb⟩;refine ⟨_,rfl,?_⟩;have n0_:=am (Kd.S_lower ho0 (pz d0));have n1_:=am (pu d0 hb);clear HB;have HO334:=n0_;have HB:=n1_;clear n0_ n1_;(try clear hb);(try clear hb2);(try clear hk);(try clear hi);(try clear ho0)))
 go_ret2
 exact ⟨_,d4,d16,d0⟩

def impl_Msr_alpha.f (a0_0:Int) (a0_1:Int):Option (Int):=some (wrap64 (a0_1 - 1))
theorem impl_Msr_alpha.calls (a0_0:Int) (a0_1:Int) (r:Int) (w:World) (h:impl_Msr_alpha.f a0_0 a0_1=some r) :
  Calls Try.prog 128 #[.agg #[.int .i64 a0_0, .int .i64 a0_1]] w fun e w'=>e = .returned (.int .i64 r)∧Below w.heap.size w w':=by
 have hu72:=Try.underlying72
 have HB:=am (Below.refl w.heap.size w)
 have H:(some (wrap64 (a0_1 - 1)))=some r:=h
 clear h
 obtain rfl:=Option.some.inj H
 go_enter Try.func128,Try.ntmps128
 go_wp2_with (first|((with_reducible refine gate_dst (N:=1) rfl ?_);refine box_event ?hg (N:=1) ?hd (cs:=#[.int .i64 a0_0, .int .i64 a0_1]) (t:=72) ?hr ?_;(case hd=>rfl);(case hg=>rfl);(case hr=>first|(go_simp;done)|(go_simp;rfl));intro gb343 hg w2 hbox hb;have n0_:=am (pu d0 hb);have n1_:=am (hbox);have n2_:=am ((by rw [hg];exact (pz d0):w.heap.size≤gb343));have n3_:=n2_;clear HB;have HB:=n0_;have BK343:=n1_;have GW343:=n2_;have GE343:=n3_;clear n0_ n1_ n2_ n3_;clear hb hbox hg;have hcz3_0:w2.cell? ⟨gb343,0,none⟩=some (.int .i64 a0_0):=(blk_cell BK343.out 0).trans rfl;have hcz3_1:w2.cell? ⟨gb343,1,none⟩=some (.int .i64 a0_1):=(blk_cell BK343.out 1).trans rfl;have hfz3_0:=blk_frozen BK343.out 0;have hfz3_1:=blk_frozen BK343.out 1))
 go_ret
 exact ⟨d4,by repeat (first|(with_reducible first|exact HB.out|apply pa|apply pb|apply pd|refine pt ?_ GE343.out)|exact HB.out)⟩

def impl_Msr_powers.l0:Nat→Int→List Int→Int→Int→Int→Int→Option (List Int × Int)
 | 0,_,_,_,_,_,_=>none
 | k+1,x6,x7,x14,x15,x345000,x345001=>if x15 < x14 then ((impl_power.f k x6 x15).bind fun t350=>(if x7.length < 140737488355328 then (impl_Msr_powers.l0 k x6 (x7 ++ [t350]) x14 (wrap64 (x15+1)) x345000 x345001) else (none))) else ((impl_Msr_alpha.f x345000 x345001).bind fun t354=>((impl_power.f k x6 t354).bind fun t355=>(some (x7,t355))))
def impl_Msr_powers.f (k:Nat) (a0_0:Int) (a0_1:Int) (a1:Int):Option (List Int × Int):=(impl_power.f k 3 (wrap64 (a1+1))).bind fun t345=>((impl_Msr_alpha.f a0_0 a0_1).bind fun t349=>(impl_Msr_powers.l0 k t345 (([]:List Int)) t349 0 a0_0 a0_1))
theorem impl_Msr_powers.mono_l:∀ k,(∀ y0 y1 y2 y3 y4 y5,LeO (impl_Msr_powers.l0 k y0 y1 y2 y3 y4 y5) (impl_Msr_powers.l0 (k+1) y0 y1 y2 y3 y4 y5))
 | 0=>fun _ _ _ _ _ _ r h=>by simp [impl_Msr_powers.l0] at h
 | k+1=>by
  have ih0:=impl_Msr_powers.mono_l k
  intro y0 y1 y2 y3 y4 y5
  unfold impl_Msr_powers.l0
  repeat' first
  | (with_reducible exact ih0 _ _ _ _ _ _)
  | (with_reducible exact impl_power.mono _ _ _)
  |(with_reducible exact LeO.refl _)|(with_reducible exact LeO.none _)|(with_reducible refine LeO.ite ?_ ?_)|(with_reducible refine LeO.bind ?_ (fun _=>?_))|exact ih0 _ _ _ _ _ _|exact impl_power.mono _ _ _|exact LeO.none _|refine LeO.ite ?_ ?_|refine LeO.bind ?_ (fun _=>?_)
theorem impl_Msr_powers.mono:∀ a0 a1 a2 k,LeO (impl_Msr_powers.f k a0 a1 a2) (impl_Msr_powers.f (k+1) a0 a1 a2):=by
 intro a0 a1 a2 k
 have ih0:=impl_Msr_powers.mono_l k
 unfold impl_Msr_powers.f
 repeat' first
   | (with_reducible exact ih0 _ _ _ _ _ _)
   | (with_reducible exact impl_power.mono _ _ _)
   |(with_reducible exact LeO.refl _)|(with_reducible exact LeO.none _)|(with_reducible refine LeO.ite ?_ ?_)|(with_reducible refine LeO.bind ?_ (fun _=>?_))|exact ih0 _ _ _ _ _ _|exact impl_power.mono _ _ _|exact LeO.none _|refine LeO.ite ?_ ?_|refine LeO.bind ?_ (fun _=>?_)
theorem impl_Msr_powers.calls (k:Nat) (a0_0:Int) (a0_1:Int) (a1:Int) (r1:List Int) (r2:Int) (w:World) (h:impl_Msr_powers.f k a0_0 a0_1 a1=some (r1,r2)) :
  Calls Try.prog 130 #[.agg #[.int .i64 a0_0, .int .i64 a0_1], .int .i64 a1] w fun e w'=>∃ v0_:Value,e = .returned (.tuple #[v0_, .int .u8 r2])∧Kd.R (Kd.int .u8) 5 w' w.heap.size (fun _=>True) v0_ r1∧Below w.heap.size w w':=by
 have hu72:=Try.underlying72
 have HB:=am (Below.refl w.heap.size w)
 have H:((impl_power.f k 3 (wrap64 (a1+1))).bind fun t345=>((impl_Msr_alpha.f a0_0 a0_1).bind fun t349=>(impl_Msr_powers.l0 k t345 (([]:List Int)) t349 0 a0_0 a0_1)))=some (r1,r2):=h
 clear h
 replace H:=Option.bind_eq_some_iff.mp H
 obtain ⟨t345,A30,H⟩:=H
 replace H:((impl_Msr_alpha.f a0_0 a0_1).bind fun t349=>(impl_Msr_powers.l0 k t345 (([]:List Int)) t349 0 a0_0 a0_1))=some (r1,r2):=H
 have A3:=am A30
 clear A30
 obtain ⟨y346,hy346⟩:∃ y_:List Int,y_=(([]:List Int)):=⟨_,rfl⟩
 replace H:((impl_Msr_alpha.f a0_0 a0_1).bind fun t349=>(impl_Msr_powers.l0 k t345 y346 t349 0 a0_0 a0_1))=some (r1,r2):=by first|(rw [hy346];with_reducible exact H)|(have H2_:=(Option.bind_some _ _).symm.trans H;rw [hy346];with_reducible exact H2_)|(have H2_:=(Option.bind_some _ _).symm.trans H;with_reducible exact H2_)|with_reducible exact H|(rw [hy346];exact H)|exact H
 have Ny346:=am hy346
 clear hy346
 replace H:=Option.bind_eq_some_iff.mp H
 obtain ⟨t349,A40,H⟩:=H
 replace H:(impl_Msr_powers.l0 k t345 y346 t349 0 a0_0 a0_1)=some (r1,r2):=H
 have A4:=am A40
 clear A40
 have H':=am H
 clear H
 go_enter Try.func130,Try.ntmps130
 go_wp2_with (first|((with_reducible refine gate_dst (N:=2) rfl ?_);refine box_event ?hg (N:=2) ?hd (cs:=#[.int .i64 a0_0, .int .i64 a0_1]) (t:=72) ?hr ?_;(case hd=>rfl);(case hg=>rfl);(case hr=>first|(go_simp;done)|(go_simp;rfl));intro gb344 hg w5 hbox hb;have n0_:=am (pu d0 hb);have n1_:=am (hbox);have n2_:=am ((by rw [hg];exact (pz d0):w.heap.size≤gb344));have n3_:=n2_;clear HB;have HB:=n0_;have BK344:=n1_;have GW344:=n2_;have GE344:=n3_;clear n0_ n1_ n2_ n3_;clear hb hbox hg)|((with_reducible refine gate_callee (f:=180) rfl ?_);refine goesL_ (some 11) rfl rfl Try.func180 d3 rfl #[.int .u8 3, .int .i64 (wrap64 (a1+1))] rfl d5 ?_;(with_reducible refine (impl_power.calls k 3 (wrap64 (a1+1)) t345 _ A3.out).mono ?_);rintro e w' ⟨rfl,⟨nd,rfl⟩⟩;refine ⟨_,rfl,?_⟩)|((with_reducible refine gate_dst (N:=12) rfl ?_);refine Kd.R_lit (Kd.int .u8) _ 5 ?hg (N:=12) ?hd (xs:=([]:List Int)) (inner:=[]) (ok:=fun _=>True) (okp:=fun _=>True) ?hr ?hp (fun _ hk=>hk) trivial (Below.refl _ _) (Nat.le_refl _) d20 ?_;(case hd=>rfl);(case hg=>rfl);(case hr=>first|(go_simp;done)|(go_simp;rfl));(case hp=>exact (Reps.none _ _));intro v347 w6 ho7 hb hg_ hnew_;clear hg_ hnew_;(first|rw [← Ny346.out] at ho7|(simp only [Int.reduceToNat] at ho7;rw [← Ny346.out] at ho7));have n0_:=am (Kd.R_lower ho7 (pz (by repeat (first|(with_reducible first|exact HB.out|apply pa|apply pb|apply pd|refine pt ?_ GE344.out)|exact HB.out))));have n1_:=am (qb (g:=gb344) (o:=.cells #[.int .i64 a0_0, .int .i64 a0_1] 72 (0,0)) (by (with_reducible repeat (first|refine qn ?_ _|refine qd ?_|refine qa ?_ _));exact BK344.out) hb);have n2_:=am (pu (by repeat (first|(with_reducible first|exact HB.out|apply pa|apply pb|apply pd|refine pt ?_ GE344.out)|exact HB.out)) hb);clear BK344;clear HB;have HO348:=n0_;have BK344:=n1_;have HB:=n2_;clear n0_ n1_ n2_;clear hb ho7;have hcz8_0:w6.cell? ⟨gb344,0,none⟩=some (.int .i64 a0_0):=(blk_cell BK344.out 0).trans rfl;have hcz8_1:w6.cell? ⟨gb344,1,none⟩=some (.int .i64 a0_1):=(blk_cell BK344.out 1).trans rfl;have hfz8_0:=blk_frozen BK344.out 0;have hfz8_1:=blk_frozen BK344.out 1)|((with_reducible refine gate_callee (f:=128) rfl ?_);refine goesL_ (some 14) rfl rfl Try.func128 d3 rfl #[.agg #[.int .i64 a0_0, .int .i64 a0_1]] rfl d5 ?_;(with_reducible refine (impl_Msr_alpha.calls a0_0 a0_1 t349 _ A4.out).mono ?_);rintro e w9 ⟨rfl,hb⟩;refine ⟨_,rfl,?_⟩;have n0_:=am (Kd.R_below (by (with_reducible repeat (first|apply Kd.R_alloc|apply Kd.R_drewN|apply Kd.R_drew));exact HO348.out) hb);have n1_:=am (qb (g:=gb344) (o:=.cells #[.int .i64 a0_0, .int .i64 a0_1] 72 (0,0)) (by (with_reducible repeat (first|refine qn ?_ _|refine qd ?_|refine qa ?_ _));exact BK344.out) hb);have n2_:=am (pu (by repeat (first|(with_reducible first|exact HB.out|apply pa|apply pb|apply pd|refine pt ?_ GE344.out)|exact HB.out)) hb);clear HO348;clear BK344;clear HB;have HO348:=n0_;have BK344:=n1_;have HB:=n2_;clear n0_ n1_ n2_;(try clear hb);(try clear hb2);(try clear hk);(try clear hi)))
 go_loopg [7,15] k (fun kq v7 v15 w'=>∃ (x7_1:List Int) (x15_1:Int),v15 = .int .i64 x15_1∧Aside0 (impl_Msr_powers.l0 kq t345 x7_1 t349 x15_1 a0_0 a0_1=some (r1,r2))∧Aside0 (kq≤k)∧Aside0 (Kd.R (Kd.int .u8) 5 w' w.heap.size (fun _=>True) v7 x7_1)∧Aside0 (w'.heap[gb344]? = some (.cells #[.int .i64 a0_0, .int .i64 a0_1] 72 (0,0)))∧Aside0 (Below w.heap.size w w'))
 case atStart=>exact ⟨(y346),(0),d2,H',⟨Nat.le_refl _⟩,⟨by (with_reducible repeat (first|apply Kd.R_alloc|apply Kd.R_drewN|apply Kd.R_drew));exact HO348.out⟩,⟨by (with_reducible repeat (first|refine qn ?_ _|refine qd ?_|refine qa ?_ _));exact BK344.out⟩,⟨by repeat (first|(with_reducible first|exact HB.out|apply pa|apply pb|apply pd|refine pt ?_ GE344.out)|exact HB.out)⟩⟩
 case round =>
  clear H'
  try clear c1
  try clear p2
  try clear p6
  try clear hcz8_0
  try clear hcz8_1
  try clear hfz8_0
  try clear hfz8_1
  obtain ⟨x7_1,x15_1,rfl,HA,HK1,HO_7,BK344,HB⟩:=hrel
  cases gk with
  | zero=>exact absurd HA.out (by simp [impl_Msr_powers.l0])
  | succ k1 =>
   have H:=HA.out
   clear HA
   simp only [impl_Msr_powers.l0] at H
   by_cases c10:x15_1 < t349
   ·rw [if_pos c10] at H
    have c10b0:decide (x15_1 < t349)=true:=decide_eq_true c10
    clear c10
    replace H:=Option.bind_eq_some_iff.mp H
    obtain ⟨t350,A110,H⟩:=H
    replace H:(if x7_1.length < 140737488355328 then (impl_Msr_powers.l0 k1 t345 (x7_1 ++ [t350]) t349 (wrap64 (x15_1+1)) a0_0 a0_1) else (none))=some (r1,r2):=H
    have A11:=am A110
    clear A110
    by_cases c12:x7_1.length < 140737488355328
    ·rw [if_pos c12] at H
     have LMc12:=am c12
     clear c12
     obtain ⟨y351,hy351⟩:∃ y_:List Int,y_=(x7_1 ++ [t350]):=⟨_,rfl⟩
     replace H:(impl_Msr_powers.l0 k1 t345 y351 t349 (wrap64 (x15_1+1)) a0_0 a0_1)=some (r1,r2):=by first|(rw [hy351];with_reducible exact H)|(have H2_:=(Option.bind_some _ _).symm.trans H;rw [hy351];with_reducible exact H2_)|(have H2_:=(Option.bind_some _ _).symm.trans H;with_reducible exact H2_)|with_reducible exact H|(rw [hy351];exact H)|exact H
     have Ny351:=am hy351
     clear hy351
     have H':=am H
     clear H
     go_wp2_with (first|((with_reducible refine gate_callee (f:=180) rfl ?_);refine goesL_ (some 21) rfl rfl Try.func180 d3 rfl #[.int .u8 t345, .int .i64 x15_1] rfl d5 ?_;(with_reducible refine (impl_power.calls k1 t345 x15_1 t350 _ A11.out).mono ?_);rintro e w' ⟨rfl,⟨nd,rfl⟩⟩;refine ⟨_,rfl,?_⟩)|((with_reducible refine gate_builtin (b:=.append) (xs:=#[.tmp 18, .tmp 22]) rfl ?_);at_builtin;refine Kd.R_append (Kd.int .u8) (w0:=w) w.heap.size rfl (.tmp 18) (.tmp 22) 57 5 (.int .u8 0) 1 rfl Try.underlying57 info5 rfl d11 d10 u7 x7_1 t350 [.int .u8 t350] (fun _=>True) (fun _=>False) rfl rfl ?aP (fun _ hk=>hk.elim) ?aF ?aO ?aB ?aS ?aL ?_;(case aP=>exact rfl);(case aB=>exact (by repeat (first|(with_reducible first|exact HB.out|apply pa|apply pb|apply pd|refine pt ?_ GE344.out)|exact HB.out)));(case aF=>exact (fun _ _=>trivial));(case aO=>exact d13);(case aS=>exact (pz (by repeat (first|(with_reducible first|exact HB.out|apply pa|apply pb|apply pd|refine pt ?_ GE344.out)|exact HB.out))));(case aL=>have:=LMc12.out;omega);intro v352 w13 ho hb hg hat;rw [← Ny351.out] at ho;have n0_:=am (blk_grown (g:=gb344) (o:=.cells #[.int .i64 a0_0, .int .i64 a0_1] 72 (0,0)) (by (with_reducible repeat (first|refine qn ?_ _|refine qd ?_|refine qa ?_ _));exact BK344.out) hg (Kd.R_ne HO_7.out BK344.out d11));have n1_:=am (hb);have n2_:=am (ho);clear BK344;clear HB;clear HO_7;have BK344:=n0_;have HB:=n1_;have HO353:=n2_;clear n0_ n1_ n2_;clear ho hb hg hat))
     go_roundg k1
     case measure=>have:=HK1.out;omega
     case rel=>exact ⟨(y351),(wrap64 (x15_1+1)),d2,H',⟨d30⟩,⟨by (with_reducible repeat (first|apply Kd.R_alloc|apply Kd.R_drewN|apply Kd.R_drew));exact HO353.out⟩,⟨by (with_reducible repeat (first|refine qn ?_ _|refine qd ?_|refine qa ?_ _));exact BK344.out⟩,⟨by repeat (first|(with_reducible first|exact HB.out|apply pa|apply pb|apply pd|refine pt ?_ GE344.out)|exact HB.out)⟩⟩
    rw [if_neg c12] at H
    exact absurd H d20
   rw [if_neg c10] at H
   have c10b0:decide (x15_1 < t349)=false:=decide_eq_false c10
   clear c10
   replace H:=Option.bind_eq_some_iff.mp H
   obtain ⟨t354,A140,H⟩:=H
   replace H:((impl_power.f k1 t345 t354).bind fun t355=>(some (x7_1,t355)))=some (r1,r2):=H
   have A14:=am A140
   clear A140
   replace H:=Option.bind_eq_some_iff.mp H
   obtain ⟨t355,A150,H⟩:=H
   replace H:(some (x7_1,t355))=some (r1,r2):=H
   have A15:=am A150
   clear A150
   simp only [Option.some.injEq,Prod.mk.injEq] at H
   obtain ⟨rfl,rfl⟩:=H
   have hcz16_0:wr.cell? ⟨gb344,0,none⟩=some (.int .i64 a0_0):=(blk_cell BK344.out 0).trans rfl
   have hcz16_1:wr.cell? ⟨gb344,1,none⟩=some (.int .i64 a0_1):=(blk_cell BK344.out 1).trans rfl
   have hfz16_0:=blk_frozen BK344.out 0
   have hfz16_1:=blk_frozen BK344.out 1
   go_wp2_with (first|((with_reducible refine gate_callee (f:=128) rfl ?_);refine goesL_ (some 28) rfl rfl Try.func128 d3 rfl #[.agg #[.int .i64 a0_0, .int .i64 a0_1]] rfl d5 ?_;(with_reducible refine (impl_Msr_alpha.calls a0_0 a0_1 t354 _ A14.out).mono ?_);rintro e w17 ⟨rfl,hb⟩;refine ⟨_,rfl,?_⟩;have n0_:=am (Kd.R_below d13 hb);have n1_:=am (qb (g:=gb344) (o:=.cells #[.int .i64 a0_0, .int .i64 a0_1] 72 (0,0)) (by (with_reducible repeat (first|refine qn ?_ _|refine qd ?_|refine qa ?_ _));exact BK344.out) hb);have n2_:=am (pu (by repeat (first|(with_reducible first|exact HB.out|apply pa|apply pb|apply pd|refine pt ?_ GE344.out)|exact HB.out)) hb);clear HO_7;clear BK344;clear HB;have HO_7:=n0_;have BK344:=n1_;have HB:=n2_;clear n0_ n1_ n2_;(try clear hb);(try clear hb2);(try clear hk);(try clear hi))|((with_reducible refine gate_callee (f:=180) rfl ?_);refine goesL_ (some 29) rfl rfl Try.func180 d3 rfl #[.int .u8 t345, .int .i64 t354] rfl d5 ?_;(with_reducible refine (impl_power.calls k1 t345 t354 t355 _ A15.out).mono ?_);rintro e w' ⟨rfl,⟨nd,rfl⟩⟩;refine ⟨_,rfl,?_⟩))
   go_ret2
   exact ⟨_,d4,d13,by repeat (first|(with_reducible first|exact HB.out|apply pa|apply pb|apply pd|refine pt ?_ GE344.out)|exact HB.out)⟩

def impl_Msr_row.f (k:Nat) (a0_0:Int) (a0_1:Int) (a1:Int):Option (List Int):=(impl_Msr_powers.f k a0_0 a0_1 a1).bind fun bt357=>((impl_scaled.f k bt357.2 bt357.1).bind fun t361=>(if bt357.1.length+t361.length < 140737488355328 then (some (bt357.1 ++ t361)) else (none)))
theorem impl_Msr_row.mono:∀ a0 a1 a2 k,LeO (impl_Msr_row.f k a0 a1 a2) (impl_Msr_row.f (k+1) a0 a1 a2):=by
 intro a0 a1 a2 k
 unfold impl_Msr_row.f
 repeat' first
   | (with_reducible exact impl_Msr_powers.mono _ _ _ _)
   | (with_reducible exact impl_scaled.mono _ _ _)
   |(with_reducible exact LeO.refl _)|(with_reducible exact LeO.none _)|(with_reducible refine LeO.ite ?_ ?_)|(with_reducible refine LeO.bind ?_ (fun _=>?_))|exact impl_Msr_powers.mono _ _ _ _|exact impl_scaled.mono _ _ _|exact LeO.none _|refine LeO.ite ?_ ?_|refine LeO.bind ?_ (fun _=>?_)
theorem impl_Msr_row.calls (k:Nat) (a0_0:Int) (a0_1:Int) (a1:Int) (r:List Int) (w:World) (h:impl_Msr_row.f k a0_0 a0_1 a1=some r) :
  Calls Try.prog 129 #[.agg #[.int .i64 a0_0, .int .i64 a0_1], .int .i64 a1] w fun e w'=>∃ v0_:Value,e = .returned (v0_)∧Kd.R (Kd.int .u8) 5 w' w.heap.size (fun _=>True) v0_ r∧Below w.heap.size w w':=by
 have hu72:=Try.underlying72
 have HB:=am (Below.refl w.heap.size w)
 have H:((impl_Msr_powers.f k a0_0 a0_1 a1).bind fun bt357=>((impl_scaled.f k bt357.2 bt357.1).bind fun t361=>(if bt357.1.length+t361.length < 140737488355328 then (some (bt357.1 ++ t361)) else (none))))=some r:=h
 clear h
 replace H:=Option.bind_eq_some_iff.mp H
 obtain ⟨⟨t357,t360⟩,A30,H⟩:=H
 replace H:((impl_scaled.f k t360 t357).bind fun t361=>(if t357.length+t361.length < 140737488355328 then (some (t357 ++ t361)) else (none)))=some r:=H
 have A3:=am A30
 clear A30
 replace H:=Option.bind_eq_some_iff.mp H
 obtain ⟨t361,A40,H⟩:=H
 replace H:(if t357.length+t361.length < 140737488355328 then (some (t357 ++ t361)) else (none))=some r:=H
 have A4:=am A40
 clear A40
 by_cases c5:t357.length+t361.length < 140737488355328
 ·rw [if_pos c5] at H
  have LMc5:=am c5
  clear c5
  obtain ⟨y364,hy364⟩:∃ y_:List Int,y_=(t357 ++ t361):=⟨_,rfl⟩
  replace H:(some y364)=some r:=by first|(rw [hy364];with_reducible exact H)|(have H2_:=(Option.bind_some _ _).symm.trans H;rw [hy364];with_reducible exact H2_)|(have H2_:=(Option.bind_some _ _).symm.trans H;with_reducible exact H2_)|with_reducible exact H|(rw [hy364];exact H)|exact H
  have Ny364:=am hy364
  clear hy364
  obtain rfl:=Option.some.inj H
  go_enter Try.func129,Try.ntmps129
  go_wp2_with (first|((with_reducible refine gate_dst (N:=2) rfl ?_);refine box_event ?hg (N:=2) ?hd (cs:=#[.int .i64 a0_0, .int .i64 a0_1]) (t:=72) ?hr ?_;(case hd=>rfl);(case hg=>rfl);(case hr=>first|(go_simp;done)|(go_simp;rfl));intro gb356 hg w6 hbox hb;have n0_:=am (pu d0 hb);have n1_:=am (hbox);have n2_:=am ((by rw [hg];exact (pz d0):w.heap.size≤gb356));have n3_:=n2_;clear HB;have HB:=n0_;have BK356:=n1_;have GW356:=n2_;have GE356:=n3_;clear n0_ n1_ n2_ n3_;clear hb hbox hg;have hcz7_0:w6.cell? ⟨gb356,0,none⟩=some (.int .i64 a0_0):=(blk_cell BK356.out 0).trans rfl;have hcz7_1:w6.cell? ⟨gb356,1,none⟩=some (.int .i64 a0_1):=(blk_cell BK356.out 1).trans rfl;have hfz7_0:=blk_frozen BK356.out 0;have hfz7_1:=blk_frozen BK356.out 1)|((with_reducible refine gate_callee (f:=130) rfl ?_);refine goesL_ (some 10) rfl rfl Try.func130 d3 rfl #[.agg #[.int .i64 a0_0, .int .i64 a0_1], .int .i64 a1] rfl d5 ?_;(with_reducible refine (impl_Msr_powers.calls k a0_0 a0_1 a1 t357 t360 _ A3.out).mono ?_);rintro e w8 ⟨v358,rfl,ho0,hb⟩;refine ⟨_,rfl,?_⟩;have n0_:=am (Kd.R_lower ho0 (pz (by repeat (first|(with_reducible first|exact HB.out|apply pa|apply pb|apply pd|refine pt ?_ GE356.out)|exact HB.out))));have n1_:=am (qb (g:=gb356) (o:=.cells #[.int .i64 a0_0, .int .i64 a0_1] 72 (0,0)) (by (with_reducible repeat (first|refine qn ?_ _|refine qd ?_|refine qa ?_ _));exact BK356.out) hb);have n2_:=am (pu (by repeat (first|(with_reducible first|exact HB.out|apply pa|apply pb|apply pd|refine pt ?_ GE356.out)|exact HB.out)) hb);clear BK356;clear HB;have HO359:=n0_;have BK356:=n1_;have HB:=n2_;clear n0_ n1_ n2_;(try clear hb);(try clear hb2);(try clear hk);(try clear hi);(try clear ho0);obtain ⟨Ao9,co9,eo9⟩:=Kd.R_slice HO359.out;subst eo9)|((with_reducible refine gate_callee (f:=132) rfl ?_);refine goesL_ (some 16) rfl rfl Try.func132 d3 rfl #[.int .u8 t360, .slice Ao9 t357.length co9] rfl d5 ?_;(with_reducible refine (impl_scaled.calls k t360 _ _ t357 t361 _ ?side1 ?side2 A4.out).mono ?_);(case side1=>repeat (first|exact (Kd.R_reads' HO359.out).2.2|(with_reducible refine Kd.C_alloc ?_ _)|(with_reducible refine Kd.C_drewN ?_ _)|(with_reducible refine Kd.C_drew ?_)));(case side2=>exact (Kd.R_reads' HO359.out).2.1);rintro e w10 ⟨v362,rfl,ho0,hb⟩;refine ⟨_,rfl,?_⟩;have n0_:=am (Kd.R_elder' (by (with_reducible repeat (first|apply Kd.R_alloc|apply Kd.R_drewN|apply Kd.R_drew));exact HO359.out) (Kd.R_base ho0) hb);have n1_:=am (Kd.R_lower (Kd.R_new' ho0 (Kd.R_lt (by (with_reducible repeat (first|apply Kd.R_alloc|apply Kd.R_drewN|apply Kd.R_drew));exact HO359.out))) (pz (by repeat (first|(with_reducible first|exact HB.out|apply pa|apply pb|apply pd|refine pt ?_ GE356.out)|exact HB.out))));have n2_:=am (qb (g:=gb356) (o:=.cells #[.int .i64 a0_0, .int .i64 a0_1] 72 (0,0)) (by (with_reducible repeat (first|refine qn ?_ _|refine qd ?_|refine qa ?_ _));exact BK356.out) hb);have n3_:=am (pu (by repeat (first|(with_reducible first|exact HB.out|apply pa|apply pb|apply pd|refine pt ?_ GE356.out)|exact HB.out)) hb);clear HO359;clear BK356;clear HB;have HO359:=n0_;have HO363:=n1_;have BK356:=n2_;have HB:=n3_;clear n0_ n1_ n2_ n3_;(try clear hb);(try clear hb2);(try clear hk);(try clear hi);(try clear ho0);obtain ⟨Ao12,co12,eo12⟩:=Kd.R_slice HO363.out;subst eo12)|((with_reducible refine gate_builtin (b:=.append) (xs:=#[.tmp 13, .tmp 16]) rfl ?_);at_builtin;refine Kd.R_append_rows (Kd.int .u8) (w0:=w) w.heap.size rfl (.tmp 13) (.tmp 16) 57 5 (.int .u8 0) 1 rfl Try.underlying57 info5 rfl d11 d10 (.slice Ao9 t357.length co9) t357 t361 _ _ _ (fun k_=>some k_ ≠ (.slice Ao12 t361.length co12:Value).ownBlock) (fun _=>False) rfl rfl ?aO ?aR (fun _ _ h=>h) (fun _ h=>h.elim) ?aF ?aB ?aS ?aL ?_;(case aR=>repeat (first|exact (Kd.R_reads' HO363.out).2.2|(with_reducible refine Kd.C_alloc ?_ _)|(with_reducible refine Kd.C_drewN ?_ _)|(with_reducible refine Kd.C_drew ?_)));(case aB=>exact (by repeat (first|(with_reducible first|exact HB.out|apply pa|apply pb|apply pd|refine pt ?_ GE356.out)|exact HB.out)));(case aF=>exact (fun k_ hk=>Kd.fresh' (Kd.R_lt (by (with_reducible repeat (first|apply Kd.R_alloc|apply Kd.R_drewN|apply Kd.R_drew));exact HO363.out)) k_ hk));(case aO=>exact (by (with_reducible repeat (first|apply Kd.R_alloc|apply Kd.R_drewN|apply Kd.R_drew));exact Kd.R_mono HO359.out (fun _ hk=>hk.2)));(case aS=>exact (pz (by repeat (first|(with_reducible first|exact HB.out|apply pa|apply pb|apply pd|refine pt ?_ GE356.out)|exact HB.out))));(case aL=>have:=LMc5.out;omega);intro v365 w11 ho hb hg hat;rw [← Ny364.out] at ho;have n0_:=am (blk_grown (g:=gb356) (o:=.cells #[.int .i64 a0_0, .int .i64 a0_1] 72 (0,0)) (by (with_reducible repeat (first|refine qn ?_ _|refine qd ?_|refine qa ?_ _));exact BK356.out) hg (Kd.R_ne HO359.out BK356.out d11));have n1_:=am (Kd.R_after (ok:=(fun _=>True)) (by (with_reducible repeat (first|apply Kd.R_alloc|apply Kd.R_drewN|apply Kd.R_drew));exact HO363.out) hg hat);have n2_:=am (hb);have n3_:=am (ho);clear BK356;clear HO363;clear HB;clear HO359;have BK356:=n0_;have HO363:=n1_;have HB:=n2_;have HO366:=n3_;clear n0_ n1_ n2_ n3_;clear ho hb hg hat))
  go_ret
  exact ⟨_,d4,by (with_reducible repeat (first|apply Kd.R_alloc|apply Kd.R_drewN|apply Kd.R_drew));exact Kd.R_mono HO366.out (fun _ hk=>trivial),by repeat (first|(with_reducible first|exact HB.out|apply pa|apply pb|apply pd|refine pt ?_ GE356.out)|exact HB.out)⟩
 rw [if_neg c5] at H
 exact absurd H d20

def impl_within.f (a0:Int) (a1:Int) (a2:Int):Option (Bool):=if a0 ≥ a1 then (some (decide (a0≤a2))) else (some false)
theorem impl_within.calls (a0:Int) (a1:Int) (a2:Int) (r:Bool) (w:World) (h:impl_within.f a0 a1 a2=some r) :
  Calls Try.prog 137 #[.int .i64 a0, .int .i64 a1, .int .i64 a2] w fun e w'=>e = .returned (.bool r)∧Drawn0 w w':=by
 have H:(if a0 ≥ a1 then (some (decide (a0≤a2))) else (some false))=some r:=h
 clear h
 by_cases c4:a0 ≥ a1
 ·rw [if_pos c4] at H
  have c4b0:decide (a1≤a0)=true:=decide_eq_true c4
  clear c4
  obtain rfl:=Option.some.inj H
  go_enter Try.func137,Try.ntmps137
  go_wp2
  go_ret
  exact ⟨d2,d12⟩
 rw [if_neg c4] at H
 have c4b0:decide (a1≤a0)=false:=decide_eq_false c4
 clear c4
 obtain rfl:=Option.some.inj H
 go_enter Try.func137,Try.ntmps137
 go_wp2
 go_ret
 exact ⟨d2,d12⟩

def impl_GoodMsr.f (a0_0:Int) (a0_1:Int):Option (Bool):=(impl_within.f a0_1 2 4).bind fun t368=>(if t368=true then ((impl_within.f a0_0 (wrap64 ((wrap64 (2*a0_1)) - 1)) 14).bind fun t369=>(some t369)) else (some false))
theorem impl_GoodMsr.calls (a0_0:Int) (a0_1:Int) (r:Bool) (w:World) (h:impl_GoodMsr.f a0_0 a0_1=some r) :
  Calls Try.prog 152 #[.agg #[.int .i64 a0_0, .int .i64 a0_1]] w fun e w'=>e = .returned (.bool r)∧Below w.heap.size w w':=by
 have hu72:=Try.underlying72
 have HB:=am (Below.refl w.heap.size w)
 have H:((impl_within.f a0_1 2 4).bind fun t368=>(if t368=true then ((impl_within.f a0_0 (wrap64 ((wrap64 (2*a0_1)) - 1)) 14).bind fun t369=>(some t369)) else (some false)))=some r:=h
 clear h
 replace H:=Option.bind_eq_some_iff.mp H
 obtain ⟨t368,A20,H⟩:=H
 replace H:(if t368=true then ((impl_within.f a0_0 (wrap64 ((wrap64 (2*a0_1)) - 1)) 14).bind fun t369=>(some t369)) else (some false))=some r:=H
 have A2:=am A20
 clear A20
 by_cases c3:t368=true
 ·subst c3
  have H1:((impl_within.f a0_0 (wrap64 ((wrap64 (2*a0_1)) - 1)) 14).bind fun t369=>(some t369))=some r:=by rw [if_pos rfl] at H;exact H
  clear H
  have H:=H1
  clear H1
  replace H:=Option.bind_eq_some_iff.mp H
  obtain ⟨t369,A40,H⟩:=H
  replace H:(some t369)=some r:=H
  have A4:=am A40
  clear A40
  obtain rfl:=Option.some.inj H
  go_enter Try.func152,Try.ntmps152
  go_wp2_with (first|((with_reducible refine gate_dst (N:=1) rfl ?_);refine box_event ?hg (N:=1) ?hd (cs:=#[.int .i64 a0_0, .int .i64 a0_1]) (t:=72) ?hr ?_;(case hd=>rfl);(case hg=>rfl);(case hr=>first|(go_simp;done)|(go_simp;rfl));intro gb367 hg w5 hbox hb;have n0_:=am (pu d0 hb);have n1_:=am (hbox);have n2_:=am ((by rw [hg];exact (pz d0):w.heap.size≤gb367));have n3_:=n2_;clear HB;have HB:=n0_;have BK367:=n1_;have GW367:=n2_;have GE367:=n3_;clear n0_ n1_ n2_ n3_;clear hb hbox hg;have hcz6_0:w5.cell? ⟨gb367,0,none⟩=some (.int .i64 a0_0):=(blk_cell BK367.out 0).trans rfl;have hcz6_1:w5.cell? ⟨gb367,1,none⟩=some (.int .i64 a0_1):=(blk_cell BK367.out 1).trans rfl;have hfz6_0:=blk_frozen BK367.out 0;have hfz6_1:=blk_frozen BK367.out 1)|((with_reducible refine gate_callee (f:=137) rfl ?_);refine goesL_ (some 5) rfl rfl Try.func137 d3 rfl #[.int .i64 a0_1, .int .i64 2, .int .i64 4] rfl d5 ?_;(with_reducible refine (impl_within.calls a0_1 2 4 true _ A2.out).mono ?_);rintro e w' ⟨rfl,⟨nd,rfl⟩⟩;refine ⟨_,rfl,?_⟩)|(go_at_call 137;(with_reducible refine (impl_within.calls a0_0 (wrap64 ((wrap64 (2*a0_1)) - 1)) 14 t369 _ A4.out).mono ?_);rintro e w' ⟨rfl,⟨nd,rfl⟩⟩))
  go_ret
  exact ⟨d4,by repeat (first|(with_reducible first|exact HB.out|apply pa|apply pb|apply pd|refine pt ?_ GE367.out)|exact HB.out)⟩
 replace c3:=Bool.eq_false_iff.mpr c3
 subst c3
 have H1:(some false)=some r:=by rw [if_neg (show ¬ (false=true) by decide)] at H;exact H
 clear H
 have H:=H1
 clear H1
 obtain rfl:=Option.some.inj H
 go_enter Try.func152,Try.ntmps152
 go_wp2_with (first|((with_reducible refine gate_dst (N:=1) rfl ?_);refine box_event ?hg (N:=1) ?hd (cs:=#[.int .i64 a0_0, .int .i64 a0_1]) (t:=72) ?hr ?_;(case hd=>rfl);(case hg=>rfl);(case hr=>first|(go_simp;done)|(go_simp;rfl));intro gb367 hg w7 hbox hb;have n0_:=am (pu d0 hb);have n1_:=am (hbox);have n2_:=am ((by rw [hg];exact (pz d0):w.heap.size≤gb367));have n3_:=n2_;clear HB;have HB:=n0_;have BK367:=n1_;have GW367:=n2_;have GE367:=n3_;clear n0_ n1_ n2_ n3_;clear hb hbox hg;have hcz8_0:w7.cell? ⟨gb367,0,none⟩=some (.int .i64 a0_0):=(blk_cell BK367.out 0).trans rfl;have hcz8_1:w7.cell? ⟨gb367,1,none⟩=some (.int .i64 a0_1):=(blk_cell BK367.out 1).trans rfl;have hfz8_0:=blk_frozen BK367.out 0;have hfz8_1:=blk_frozen BK367.out 1)|((with_reducible refine gate_callee (f:=137) rfl ?_);refine goesL_ (some 5) rfl rfl Try.func137 d3 rfl #[.int .i64 a0_1, .int .i64 2, .int .i64 4] rfl d5 ?_;(with_reducible refine (impl_within.calls a0_1 2 4 false _ A2.out).mono ?_);rintro e w' ⟨rfl,⟨nd,rfl⟩⟩;refine ⟨_,rfl,?_⟩))
 go_ret
 exact ⟨d4,by repeat (first|(with_reducible first|exact HB.out|apply pa|apply pb|apply pd|refine pt ?_ GE367.out)|exact HB.out)⟩

-- NOT PRINTED: function 196 (impl_Piece_196)

-- NOT PRINTED: function 153 (impl_Piece_153)

end Go.Proofs.Ytajikfnpcobnpaa.PFnExactDecodeMsr
-- HALVED
-- SQUEEZED
-- SQUEEZED2
-- SQUEEZED3
-- SQUEEZED4
-- SQUEEZED5
-- SQUEEZED6
