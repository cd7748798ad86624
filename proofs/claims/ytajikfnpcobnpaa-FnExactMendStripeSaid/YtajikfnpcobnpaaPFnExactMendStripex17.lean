-- Laid by a program of this session.
import Derived.Test.YtajikfnpcobnpaaVMendStripeB
import Derived.Test.YtajikfnpcobnpaaPFnExactMendStripex0
import Derived.Test.YtajikfnpcobnpaaPFnExactMendStripex15
import Derived.Test.YtajikfnpcobnpaaPFnExactMendStripex16
namespace Go.Proofs.Ytajikfnpcobnpaa.PFnExactMendStripe
open Go.RowKit Go.Proofs.YtajikfnpcobnpaaW.PrintWords Go.Proofs.YtajikfnpcobnpaaW.PrintLast Go.Proofs.YtajikfnpcobnpaaW.PrintMore Go.Proofs.Ytajikfnpcobnpaa.KitS
attribute [local go_sem] max2_int min2_int max_two min_two max_three min_three max_four min_four   -- for this text's walks alone
set_option linter.unusedVariables false
set_option maxHeartbeats 8000000
set_option maxRecDepth 100000
set_option linter.unusedSimpArgs false

section
open Go.Proofs.Ytajikfnpcobnpaa.Gf Go.Proofs.Ytajikfnpcobnpaa.Kit Go.Proofs.Ytajikfnpcobnpaa.KitW Go.Proofs.Ytajikfnpcobnpaa.KitN
namespace ImplInv
theorem impl_identity.ev_l0 (n:Nat) (hn:n≤1048576):∀ (d i:Nat) (o:List (List Int)),i+d=n→o=(idM n).take i→Ev (fun k=>impl_identity.l0 k (n:Int) o (n:Int) (i:Int)) (idM n)
 | 0,i,o,hi,ho=>by
  refine Ev.step (fun k=>impl_identity.l0.eq_2 _ _ _ _ k) ?_
  refine ev_neg D8 (ev_now ?_)
  rw [ho,List.take_of_length_le (by simp [idM];omega)]
 | d+1,i,o,hi,ho=>by
  have hl:o.length=i:=by rw [ho,List.length_take];simp [idM];omega
  refine Ev.step (fun k=>impl_identity.l0.eq_2 _ _ _ _ k) ?_
  simp only [Option.bind_some,Int.toNat_natCast,List.length_replicate]
  refine ev_pos D8 (ev_pos D8 (ev_pos D8 (ev_pos D8 (ev_pos D8 (ev_pos D8 ?_)))))
  rw [inc D8]
  refine impl_identity.ev_l0 n hn d (i+1) _ D8 ?_
  rw [List.take_succ_eq_append_getElem (by simp [idM];omega),← ho]
  simp [idM]
theorem impl_identity.ev (n:Nat) (hn:n≤1048576):Ev (fun k=>impl_identity.f k (n:Int)) (idM n):=by
 unfold impl_identity.f
 exact impl_identity.ev_l0 n hn n 0 [] D8 rfl
end ImplInv
theorem iv_info8:(Try.prog.info? 5).map (fun i=>(i.zero,i.size,i.bytes))=some (some (.int .u8 0),1,1):=by kernel_rfl
theorem iv_info:(Try.prog.info? 57).map (fun i=>(i.zero,i.size,i.bytes))=some (some (.slice none 0 0),1,24):=by kernel_rfl
def impl_inverseOf.f (l0:List (List Int)):Option (List (List Int) × Bool):=if sqN l0=true then some (invM l0) else none
/-- The first loop: rows with the identity's beside them. -/
structure IV (w:World) (l0:List (List Int)) (ad15:Addr) (i:Nat) (v5:Value) (wr:World):Prop where
 N:Kd.N (Kd.slice 5 (Kd.int .u8)) 57 wr w.heap.size (fun _=>True) v5 ((catM l0).take i)
 F:Kd.F (Kd.slice 5 (Kd.int .u8)) wr (fun k=>True∧some k ≠ v5.ownBlock) (some ad15) l0.length (idM l0.length)
 B:Below w.heap.size w wr
theorem IV.below {w wr w1:World} {l0:List (List Int)} {ad15:Addr} {i:Nat} {v5:Value} (h:IV w l0 ad15 i v5 wr) (hb:Below wr.heap.size wr w1):IV w l0 ad15 i v5 w1:=⟨Kd.N_below h.N hb,Kd.F_below h.F hb,pu h.B hb⟩
theorem IV.row {w wr:World} {l0:List (List Int)} {ad15:Addr} {i:Nat} {v5:Value} (h:IV w l0 ad15 i v5 wr) (j:Nat) (hj:j < l0.length) :
  ∃ A c,wr.cell? (ad15.add j)=some (.slice A ((idM l0.length).getD j []).length c)∧((idM l0.length).getD j []).length≤c∧Kd.F (Kd.int .u8) wr (fun k=>True∧some k ≠ v5.ownBlock) A ((idM l0.length).getD j []).length ((idM l0.length).getD j []):=by
 obtain ⟨ad,c,e,_,hK,hcc,_⟩:=Kd.F_get h.F ([]:List Int) (j:Int) D8 D8
 injection e with e
 subst e
 rw [Int.toNat_natCast] at hK hcc
 obtain ⟨A,c1,rfl,hle,hF⟩:=Kd.FK_slice_open hK
 have h0:=hcc 0 _ rfl
 have hsz:(Kd.slice 5 (Kd.int .u8)).sz=1:=rfl
 rw [hsz,Nat.mul_one,Nat.add_zero] at h0
 exact ⟨A,c1,h0,hle,hF⟩
/-- The second loop: what stands beside is copied out. -/
structure IW (w:World) (D:List (List Int)) (n g cap len:Nat) (i:Nat) (v8:Value) (wr:World):Prop where
 N:Kd.N (Kd.slice 5 (Kd.int .u8)) 57 wr w.heap.size (fun k=>True∧some k ≠ v8.ownBlock) (.slice (some ⟨g,0,none⟩) len cap) D
 S:Kd.S (Kd.slice 5 (Kd.int .u8)) 57 wr w.heap.size (fun _=>True) v8 ((D.map (List.drop n)).take i)
 B:Below w.heap.size w wr
theorem impl_inverseOf.calls (A0:Option Addr) (c0:Nat) (l0:List (List Int)) (r1:List (List Int)) (r2:Bool) (w:World) (hr0:Kd.C (Kd.slice 5 (Kd.int .u8)) w A0 l0.length l0) (hc0:l0.length≤c0) (h:impl_inverseOf.f l0=some (r1,r2)) :
  Calls Try.prog 101 #[.slice A0 l0.length c0] w fun e w'=>∃ v0_:Value,e = .returned (.tuple #[v0_, .bool r2])∧Kd.S (Kd.slice 5 (Kd.int .u8)) 57 w' w.heap.size (fun _=>True) v0_ r1∧Below w.heap.size w w':=by
 unfold impl_inverseOf.f at h
 by_cases hs:sqN l0=true
 case neg=>rw [if_neg hs] at h;cases h
 rw [if_pos hs] at h
 have hrr:invM l0=(r1,r2):=Option.some.inj h
 clear h
 obtain ⟨h1,h2,h3⟩:=sqN_iff.1 hs
 clear hs
 obtain ⟨ad0,rfl,_⟩:=hr0.2.2 D8
 obtain ⟨n,hn⟩:∃ n,n=l0.length:=⟨_,rfl⟩
 obtain ⟨kI,hI⟩:=(ImplInv.impl_identity.ev l0.length D8).rounds
 have HI:=am hI
 have HN:=am hn
 have HR0:=am hr0
 have HO3:=am h3
 have HRR:=am hrr
 rw [← hn] at h1 h2 hc0 ⊢
 clear hI hn hr0 h3 hrr
 have HB:=am (Below.refl w.heap.size w)
 go_enter Try.func101,Try.ntmps101
 go_wp2_with (first|(refine gD 13 ?_;refine Kd.N_lit (Kd.slice 5 (Kd.int .u8)) _ 57 D10 (N':=13) D10 (xs:=([]:List (List Int))) (inner:=[]) (ok:=fun _=>True) (okp:=fun _=>True) D19 D29 (fun _ hk=>hk) trivial (Below.refl _ _) (Nat.le_refl _) D38 ?_;intro v13 w3 ho4 hb hg_ hnew_;clear hg_ hnew_;have HO:=am ho4;clear HB;have HB:=am hb;clear hb ho4)|fail)
 have hI:impl_identity.f kI (n:Int)=some (idM l0.length):=by rw [HN.out];exact HI.out
 refine (impl_identity.calls kI (n:Int) (idM l0.length) _ hI).mono ?_
 clear hI
 rintro e w4 ⟨v15,rfl,ho,hb⟩
 obtain ⟨g15,c15,e15,_⟩:=Kd.S_form ho (by rw [idM_length];have:=HN.out;omega)
 rw [idM_length] at e15
 have hN4:=Kd.N_below HO.out hb
 have hlt:=Kd.N_lt HO.out
 have HX:=am (show IV w l0 ⟨g15,0,none⟩ 0 v13 w4 from ⟨by simpa using hN4,by
  have hS:=Kd.S_F (n:=l0.length) (by rw [e15] at ho;exact Kd.S_mono (Kd.S_bound ho) (ok':=fun k=>True∧some k ≠ v13.ownBlock) (fun k hk=>⟨trivial,fun e=>by have:=hlt k e.symm;have:=hk.2.1;omega⟩))
  exact hS,pu HB.out hb⟩)
 rw [← HN.out] at e15
 subst e15
 clear HO HB hb ho hN4 hlt
 go_wp2_with fail
 go_loopg [5,17] (n+1) (fun fu v5 v17 wr=>∃ i:Nat,i≤n∧n - i < fu∧v17 = .int .i64 i∧Aside0 (IV w l0 ⟨g15,0,none⟩ i v5 wr))
 case atStart=>exact ⟨0,Nat.zero_le _,D8,rfl,HX⟩
 case round =>
  clear HX
  obtain ⟨i,hi,hfu,rfl,HX⟩:=hrel
  by_cases hin:i < n
  case neg =>
   have e:i=n:=by omega
   subst e
   have hrz:¬ (i:Int) < (i:Int):=by omega
   have hdr:decide ((i:Int) < (i:Int))=false:=decide_eq_false hrz
   obtain ⟨g,cap,eg,_⟩:=Kd.N_form HX.out.N (by rw [List.length_take,catM_length];have:=HN.out;omega)
   rw [List.length_take,catM_length,← HN.out,Nat.min_self] at eg
   subst eg
   have hN:=HX.out.N
   rw [List.take_of_length_le (by rw [catM_length];have:=HN.out;omega)] at hN
   have HN1:=am hN
   have HB:=am HX.out.B
   clear hN HX
   obtain ⟨D,hD⟩:∃ D,D=(rowI.red (catM l0) l0.length).1:=⟨_,rfl⟩
   obtain ⟨z,hz⟩:∃ z,z=(redP l0 (idM l0.length) l0.length).2:=⟨_,rfl⟩
   have HD:=am hD
   have HZ:=am hz
   have HE:=am (impl_eliminate.calls (catM l0) (l0.length+l0.length) l0.length (catM_ok HO3.out) D8 (by have:=HN.out;omega) (by rw [catM_length];have:=HN.out;omega) g cap i (by rw [catM_length];exact HN.out.symm) w wr HB.out HN1.out)
   rw [← HN.out,HN.out,← hD,show (rowI.red (catM l0) l0.length).2=z by rw [hz,catM_red HO3.out],← HN.out] at HE
   clear hD hz HN1 HB
   go_wp2_with fail
   refine HE.out.mono ?_
   clear HE
   rintro e w5 ⟨rfl,hN,hB⟩
   have HN1:=am hN
   have HB:=am hB
   have HDA:=am (show ∀ r ∈ D,okI (i+i) r by rw [HD.out];have z:=RowK.red_all (shutI (l0.length+l0.length)) (catM_ok HO3.out) l0.length;rw [← HN.out] at z ⊢;exact z)
   have HDL:=am (show D.length=i by rw [HD.out,RowK.red_length,catM_length];exact HN.out.symm)
   clear hN hB
   by_cases hzi:z < i
   case pos =>
    have hzz:(z:Int) < (i:Int):=by omega
    have hdz:decide ((z:Int) < (i:Int))=true:=decide_eq_true hzz
    go_wp2_with fail
    go_ret2
    have e:=HRR.out
    unfold invM at e
    rw [← HZ.out,← HN.out,if_pos hzi] at e
    injection e with e1 e2
    subst e1 e2
    exact ⟨_,rfl,Kd.S_nil _ _ _ _ _,HB.out⟩
   have hzz:¬ (z:Int) < (i:Int):=by omega
   have hdz:decide ((z:Int) < (i:Int))=false:=decide_eq_false hzz
   have HRE:=am (show D.map (List.drop i)=r1∧r2=true by
    have e:=HRR.out
    unfold invM at e
    rw [← HZ.out,if_neg (by have:=HN.out;omega),← catM_out HO3.out,← HD.out,← HN.out] at e
    injection e with e1 e2
    exact ⟨e1,e2.symm⟩)
   obtain ⟨_,rfl⟩:=HRE.out
   go_wp2_with (first|(refine gD 38 ?_;refine Kd.S_lit (Kd.slice 5 (Kd.int .u8)) _ 57 D10 (N:=38) D10 (xs:=([]:List (List Int))) (inner:=[]) (ok:=fun _=>True) (okp:=fun _=>True) D19 D29 (fun _ hk=>hk) trivial (Below.refl _ _) (Nat.le_refl _) D38 ?_;intro v38 w6 ho6 hb6 hg6 hnew6;clear hg6 hnew6;have HX:=am (show IW w D i g cap i 0 v38 w6 from ⟨Kd.N_elder' HN1.out (Kd.S_base ho6) hb6,by rw [List.take_zero];exact Kd.S_lower ho6 HB.out.size,pu HB.out hb6⟩);clear HN1 HB ho6 hb6)|fail)
   go_loopg [8,41] (i+1) (fun fu v8 v41 wr=>∃ j:Nat,j≤i∧i - j < fu∧v41 = .int .i64 j∧Aside0 (IW w D i g cap i j v8 wr))
   case atStart=>exact ⟨0,Nat.zero_le _,D8,rfl,HX⟩
   case round =>
    clear HX
    obtain ⟨j,hj,hfu2,rfl,HX⟩:=hrel
    by_cases hji:j < i
    case neg =>
     have e:j=i:=by omega
     subst e
     have hrz:¬ (j:Int) < (j:Int):=by omega
     have hdr:decide ((j:Int) < (j:Int))=false:=decide_eq_false hrz
     go_wp2_with fail
     go_ret2
     have hS:=HX.out.S
     rw [List.take_of_length_le (by rw [List.length_map,HDL.out];omega),HRE.out.1] at hS
     exact ⟨_,rfl,hS,HX.out.B⟩
    have hrz:(j:Int) < (i:Int):=by omega
    have hdr:decide ((j:Int) < (i:Int))=true:=decide_eq_true hrz
    obtain ⟨A44,c44,hcell44,hle44,hF44,_⟩:=N_row HX.out.N j hji
    obtain ⟨dj,hdj⟩:∃ x,x=D.getD j []:=⟨_,rfl⟩
    rw [← hdj] at hcell44 hle44 hF44
    have hok:okI (i+i) dj:=by rw [hdj];exact RowK.at_all (O:=rowI) HDA.out (by rw [HDL.out];exact hji)
    have hdl:=hok.2
    obtain ⟨ad44,rfl,_⟩:=F_byte hF44 0 D8
    have hCd:=Kd.F_now (Kd.F_cut (m:=i) hF44 D8 hle44)
    rw [hdl] at hcell44 hle44
    have hcn:(c44=i)=False:=eq_false D8
    have hci:i≤c44:=by omega
    rw [if_neg D8,show (some ad44).map (fun x=>x.add (i*(Kd.int .u8).sz))=some (ad44.add i) from by show some (ad44.add (i*1))=_;rw [Nat.mul_one]] at hCd
    have hdd:(dj.drop i).length=i:=by rw [List.length_drop];omega
    have hcl:=slices_Clone_byte_byte.calls _ (c44 - i) (dj.drop i) (dj.drop i) wr hCd D8 (by unfold slices_Clone_byte_byte.f;simp;omega)
    rw [hdd] at hcl
    have HDJ:=am hdj
    have HCL:=am hcl
    clear hcl hCd hF44 hok hdj
    go_wp2_with fail
    refine HCL.out.mono ?_
    clear HCL
    rintro e w6 ⟨v49,rfl,ho,hb⟩
    obtain ⟨A49,c49,e49⟩:=Kd.R_slice ho
    rw [hdd] at e49
    subst e49
    have HO:=am (Kd.R_lower (Kd.R_mono (Kd.R_bound ho) (ok':=fun k=>wr.heap.size≤k) (fun k hk=>hk.2.1)) HX.out.B.size)
    have HLT:=am (Kd.S_lt HX.out.S)
    have HS:=am (Kd.S_mono (Kd.S_below (Kd.S_bound HX.out.S) hb) (ok':=fun k=>True∧¬ wr.heap.size≤k) (fun k hk=>⟨trivial,by have:=hk.2.2.1;omega⟩))
    have HN1:=am (Kd.N_below HX.out.N hb)
    have HB:=am (pu HX.out.B hb)
    clear HX ho hb
    go_wp2_with (first|((with_reducible refine gate_builtin (b:=.append) (xs:=#[.tmp 45, .tmp 50]) rfl ?_);at_builtin;refine Kd.S_append (Kd.slice 5 (Kd.int .u8)) (w0:=w) w.heap.size rfl (.tmp 45) (.tmp 50) 37 57 (.slice none 0 0) 24 rfl Try.underlying37 iv_info rfl D6 D8 u8 ((D.map (List.drop i)).take j) (dj.drop i) [.slice A49 i c49] (fun _=>True) (fun k=>wr.heap.size≤k) rfl rfl (Kd.M_row HO.out) (fun k hk=>⟨trivial,fun e=>by have:=HLT.out k e.symm;omega⟩) (fun _ _=>trivial) HS.out HB.out HB.out.size (by rw [List.length_take];omega) ?_;intro v51 w7 ho7 hb7 hg7 hat7;have HX:=am (show IW w D i g cap i (j+1) v51 w7 from ⟨Kd.N_after HN1.out hg7 hat7,by rw [List.take_succ_eq_append_getElem (by rw [List.length_map,HDL.out];exact hji),List.getElem_map,show D[j]'(by rw [HDL.out];exact hji)=dj from by rw [HDJ.out,List.getD_eq_getElem?_getD,List.getElem?_eq_getElem (by rw [HDL.out];exact hji)];rfl];exact ho7,hb7⟩);clear HO HLT HS HN1 HB ho7 hb7 hg7 hat7)|fail)
    go_roundg (i - j)
    case measure=>omega
    case rel=>exact ⟨j+1,D8,D8,by go_num,HX⟩
  have hrz:(i:Int) < (n:Int):=by omega
  have hdr:decide ((i:Int) < (n:Int))=true:=decide_eq_true hrz
  obtain ⟨A21,c21,hcell21,hle21,hF21⟩:=HX.out.row i (by have:=HN.out;omega)
  obtain ⟨ad,A26,c26,e26,hcell26,hle26,hC26⟩:=C_row (Kd.C_below HR0.out HX.out.B) i (by have:=HN.out;omega)
  injection e26 with e26
  subst e26
  obtain ⟨li,hli⟩:∃ x,x=l0.getD i []:=⟨_,rfl⟩
  obtain ⟨di,hdi⟩:∃ x,x=(idM l0.length).getD i []:=⟨_,rfl⟩
  rw [← hdi] at hcell21 hle21 hF21
  rw [add_plain] at hcell21
  rw [← hli] at hcell26 hle26 hC26
  have HLI:=am hli
  have HDI:=am hdi
  clear hli hdi
  have hil:i < n:=hin
  have hl1:li.length=n:=by rw [HLI.out,HN.out];exact (RowK.at_all (O:=rowI) HO3.out (i:=i) (by have:=HN.out;omega)).2
  have hd1:di.length=n:=by rw [HDI.out,HN.out];exact (RowK.at_all (O:=rowI) (idM_ok l0.length) (i:=i) (by rw [idM_length];have:=HN.out;omega)).2
  have hcl:=slices_Clone_byte_byte.calls A26 c26 li li wr hC26 hle26 (by unfold slices_Clone_byte_byte.f;simp;omega)
  rw [hl1] at hcell26 hcl
  rw [hd1] at hcell21
  go_wp2_with fail
  refine hcl.mono ?_
  clear hcl
  rintro e w5 ⟨v27,rfl,ho,hb⟩
  have HX5:=HX.out.below hb
  have hF5:=am (Kd.F_below hF21 hb)
  have HO:=am ho
  have HB5:=am hb
  clear ho hb hF21 hcell21 hcell26 hC26 HX5
  go_wp2_with (first|((with_reducible refine gate_builtin (b:=.append) (xs:=#[.tmp 27, .tmp 28]) rfl ?_);at_builtin;refine Kd.R_append_rows (Kd.int .u8) (w0:=wr) wr.heap.size rfl (.tmp 27) (.tmp 28) 57 5 (.int .u8 0) 1 rfl Try.underlying57 iv_info8 rfl D6 D8 v27 li di A21 n c21 (fun _=>True) (fun _=>False) rfl rfl HO.out (by have z:=Kd.F_now hF5.out;rwa [hd1] at z) (fun _ _ h=>h) (fun _ h=>h.elim) (fun _ _=>trivial) HB5.out HB5.out.size (by rw [hl1];omega) ?_;intro v29 w6 ho6 hb6 hg6 hat6;obtain ⟨A29,c29,e29⟩:=Kd.R_slice ho6;rw [List.length_append,hl1,hd1] at e29;subst e29;have HX6:=am (HX.out.below hb6);have HO6:=am ho6;clear HO HB5 hF5 ho6 hb6 hg6 hat6)|((with_reducible refine gate_builtin (b:=.append) (xs:=#[.tmp 22, .tmp 30]) rfl ?_);at_builtin;refine Kd.N_append (Kd.slice 5 (Kd.int .u8)) (w0:=w) w.heap.size rfl (.tmp 22) (.tmp 30) 37 57 (.slice none 0 0) 24 rfl Try.underlying37 iv_info rfl D6 D8 u5 ((catM l0).take i) (li ++ di) [.slice A29 (n+n) c29] (fun _=>True) (fun k=>wr.heap.size≤k) rfl rfl (FK_of_R (Kd.R_mono (Kd.R_bound HO6.out) (ok':=fun k=>wr.heap.size≤k) (fun k hk=>hk.2.1))) (fun k hk=>⟨trivial,fun e=>by have:=Kd.N_lt HX.out.N k e.symm;omega⟩) (fun _ _=>trivial) HX6.out.N HX6.out.B HX6.out.B.size (by rw [List.length_take];omega) ?_;intro v31 w7 ho7 hb7 hg7 hat7;rw [HLI.out,HDI.out,← catM_succ (by have:=HN.out;omega)] at ho7;have HX7:=am (IV.mk ho7 (Kd.F_after HX6.out.F hg7 hat7) hb7);clear HX HX6 HO6 ho7 hb7 hg7 hat7))
  go_roundg (n - i)
  case measure=>omega
  case rel=>exact ⟨i+1,D8,D8,by go_num,HX7⟩
end

end Go.Proofs.Ytajikfnpcobnpaa.PFnExactMendStripe
-- SHRUNK
-- HALVED
-- SQUEEZED
-- SQUEEZED2
-- SQUEEZED3
-- SQUEEZED4
-- SQUEEZED5
-- SQUEEZED6
