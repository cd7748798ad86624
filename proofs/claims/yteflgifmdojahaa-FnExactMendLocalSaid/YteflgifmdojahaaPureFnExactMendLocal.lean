/- The given program's MendLocal returns what the reference's MendLocal returns, for all codes, shards and numbers, and leaves the shards as they were; there is no condition. -/
import Derived.Test.YteflgifmdojahaaPFnExactMendLocalx
import Derived.Test.YteflgifmdojahaaVMendLocalKit
import Derived.Test.YteflgifmdojahaaVMendLocalTxt
namespace Go.Proofs.Yteflgifmdojahaa.Pure
open Go.RowKit Go.Proofs.Yteflgifmdojahaa.PFnExactMendLocal Go.Proofs.YteflgifmdojahaaW.PrintWords Go.Proofs.YteflgifmdojahaaW.PrintLast Go.Proofs.Yteflgifmdojahaa.Gf Go.Proofs.Yteflgifmdojahaa.Kit Go.Proofs.Yteflgifmdojahaa.KitW
open Go.Proofs.Yteflgifmdojahaa.KitN hiding idM_length
set_option linter.unusedVariables false
set_option linter.unusedSimpArgs false

theorem laws_szShard.ev (n : Int) (s : ByteArray) (hs : s.size≤maxLen) (a : Int) (ha : 0≤a) (ha2 : a≤1048576) : laws_szShard.f n s a=some (if (s.size : Int)≤a then a - (s.size : Int) else -1):=by
 unfold laws_szShard.f
 unfold maxLen at hs
 have e : wrap64 (a - (s.size : Int))=a - (s.size : Int):=by unfold wrap64;omega
 rw [e]
 by_cases h : (s.size : Int)≤a
 ·rw [if_neg (by omega),if_pos h]
 ·rw [if_pos (by omega),if_neg h]

def totSh : List (S102)→Nat
 | []=>0
 | x :: l=>x.f1.size+totSh l
theorem mem_totSh {l : List (S102)} {x : S102} (h : x ∈ l) : x.f1.size≤totSh l:=by
 induction l with
 | nil=>simp at h
 | cons y l ih =>
  rcases List.mem_cons.1 h with rfl | h
  ·simp [totSh]
  ·have:=ih h;simp only [totSh];omega
theorem laws_szShardS.ev_l0 (l : List (S102)) (hl : l.length < 4611686018427387904) (hs : ∀ x ∈ l,x.f1.size≤maxLen) : ∀ (n i : Nat) (a : Int),i+n=l.length→0≤a→a≤1048576 →
  Ev (fun k=>laws_szShardS.l0 k l a (i : Int)) (if (totSh (l.drop i) : Int)≤a then a - (totSh (l.drop i) : Int) else -1)
 | 0,i,a,hi,ha,_=>by
  refine Ev.step (fun k=>laws_szShardS.l0.eq_2 _ _ _ k) ?_
  refine ev_neg (by omega) (ev_now ?_)
  rw [List.drop_eq_nil_of_le (by omega)]
  show a=if ((0 : Nat) : Int)≤a then a - ((0 : Nat) : Int) else -1
  rw [if_pos (by omega)];omega
 | n+1,i,a,hi,ha,hb=>by
  have hd:=List.drop_eq_getElem_cons (show i < l.length by omega)
  have ht : totSh (l.drop i)=(l[i]'(by omega)).f1.size+totSh (l.drop (i+1)):=by rw [hd];rfl
  have e : rd_T102 l (i : Int)=l[i]'(by omega):=by unfold rd_T102;simp [List.getD,show i < l.length by omega]
  refine Ev.step (fun k=>laws_szShardS.l0.eq_2 _ _ _ k) ?_
  refine ev_pos (by omega) (ev_pos (by omega) ?_)
  rw [e,laws_szShard.ev _ _ (hs _ (List.getElem_mem _)) a ha hb]
  simp only [Option.bind_some]
  rw [ht]
  by_cases h : ((l[i]'(by omega)).f1.size : Int)≤a
  ·rw [if_pos h]
   refine ev_neg (by omega) ?_
   rw [inc (by omega)]
   refine ev_eq (laws_szShardS.ev_l0 l hl hs n (i+1) _ (by omega) (by omega) (by omega)) ?_
   by_cases h2 : (totSh (l.drop (i+1)) : Int)≤a - ((l[i]'(by omega)).f1.size : Int)
   ·rw [if_pos h2,if_pos (by omega)];omega
   ·rw [if_neg h2,if_neg (by omega)]
  ·rw [if_neg h]
   refine ev_pos (by decide) (ev_now ?_)
   rw [if_neg (by omega)]
theorem laws_szShardS.ev (l : List (S102)) (hl : l.length≤maxLen) (hs : ∀ x ∈ l,x.f1.size≤maxLen) : Ev (fun k=>laws_szShardS.f k l 1048576) (if (l.length : Int)+(totSh l : Int)≤1048576 then 1048576 - (l.length : Int) - (totSh l : Int) else -1):=by
 unfold laws_szShardS.f
 have hl2:=hl
 unfold maxLen at hl2
 have e : wrap64 (1048576 - (l.length : Int))=1048576 - (l.length : Int):=by unfold wrap64;omega
 rw [e]
 by_cases h : (l.length : Int)≤1048576
 ·refine ev_neg (by omega) ?_
  refine ev_eq (laws_szShardS.ev_l0 l (by omega) hs l.length 0 _ (by omega) (by omega) (by omega)) ?_
  rw [List.drop_zero]
  by_cases h2 : (totSh l : Int)≤1048576 - (l.length : Int)
  ·rw [if_pos h2,if_pos (by omega)]
  ·rw [if_neg h2,if_neg (by omega)]
 ·refine ev_pos (by omega) (ev_now ?_)
  rw [if_neg (by omega)]

theorem spec_l4Data.ev {g e m : Int} (h : GoodLocal g e m) : spec_l4Data.f g e m=some (g*e):=by
 unfold spec_l4Data.f
 rw [(small_mul h.1).1]

theorem spec_l4Many.ev {g e m : Int} (h : GoodLocal g e m) : spec_l4Many.f g e m=some (g*e+g+m):=by
 have hm:=small_mul h.1
 unfold spec_l4Many.f
 simp only [spec_l4Data.ev h,Option.bind_some]
 have e1 : wrap64 (wrap64 (g*e+g)+m)=g*e+g+m:=by unfold wrap64;omega
 rw [e1]

theorem spec_l1In.ev (a b c : Int) : spec_l1In.f a b c=some (decide (b≤a∧a≤c)):=by
 unfold spec_l1In.f
 by_cases h : a ≥ b
 ·rw [if_pos h];simp [h]
 ·rw [if_neg h];simp;omega

theorem spec_GoodLocal.ev (g e m : Int) : spec_GoodLocal.f g e m=some (decide (GoodLocal g e m)):=by
 unfold spec_GoodLocal.f
 simp only [spec_l1In.ev,Option.bind_some,decide_eq_true_eq]
 by_cases h1 : 1≤g∧g≤4
 ·by_cases h2 : 1≤e∧e≤4
  ·have em:=(small_mul ⟨h1,h2⟩).1
   rw [em]
   by_cases h3 : g*e≤8 <;> simp [h1,h2,h3]
  ·simp [h1,h2]
 ·simp [h1]

theorem spec_l4Group.ev {g e m : Int} (h : GoodLocal g e m) (no : Int) : spec_l4Group.f g e m no=some (groupOf g e no):=by
 have hm:=small_mul h.1
 obtain ⟨⟨⟨hg1,hg2⟩,he1,he2⟩,h8,_⟩:=h
 unfold spec_l4Group.f groupOf
 have e1 : wrap64 (g*e - 1)=g*e - 1:=by unfold wrap64;omega
 have e2 : wrap64 (wrap64 (g*e+g) - 1)=g*e+g - 1:=by unfold wrap64;omega
 simp only [spec_l4Data.f,hm.1,spec_l1In.ev,Option.bind_some,decide_eq_true_eq,e1,e2]
 by_cases c1 : 0≤no∧no≤g*e - 1
 ·rw [if_pos c1,if_pos c1,if_neg (by omega),Int.tdiv_eq_ediv_of_nonneg c1.1]
  have q1 : 0≤no / e:=Int.ediv_nonneg c1.1 (by omega)
  have q2 : no / e≤no:=Int.ediv_le_self _ c1.1
  rw [wrap_id q1 (by omega)]
 ·rw [if_neg c1,if_neg c1]
  by_cases c2 : g*e≤no∧no≤g*e+g - 1
  ·rw [if_pos c2,if_pos c2,wrap_id (by omega) (by omega)]
  ·rw [if_neg c2,if_neg c2]

def helps (g e no : Int) : Nat→List Int
 | 0=>[]
 | n+1=>helps g e no n ++ (if (n : Int) ≠ no∧groupOf g e n=groupOf g e no then [(n : Int)] else [])
theorem helps_length (g e no : Int) : ∀ n,(helps g e no n).length≤n
 | 0=>by simp [helps]
 | n+1=>by
  have:=helps_length g e no n
  unfold helps
  rw [List.length_append]
  split <;> simp <;> omega
theorem spec_HelpersOf.ev_l0 {g e m : Int} (h : GoodLocal g e m) (no : Int) (N : Nat) (hN : (N : Int)=g*e+g+m) : ∀ (n i : Nat),i+n=N →
  Ev (fun k=>spec_HelpersOf.l0 k no (helps g e no i) (i : Int) g e m) (helps g e no N,true)
 | 0,i,hi=>by
  refine Ev.step (fun k=>spec_HelpersOf.l0.eq_2 _ _ _ _ _ _ k) ?_
  simp only [spec_l4Many.ev h,Option.bind_some]
  obtain rfl : i=N:=by omega
  exact ev_neg (by omega) (ev_now rfl)
 | n+1,i,hi=>by
  have hm:=small_mul h.1
  have hs : N≤64:=by omega
  refine Ev.step (fun k=>spec_HelpersOf.l0.eq_2 _ _ _ _ _ _ k) ?_
  simp only [spec_l4Many.ev h,spec_l4Group.ev h,Option.bind_some]
  have hl:=helps_length g e no i
  have ih:=spec_HelpersOf.ev_l0 h no N hN n (i+1) (by omega)
  refine ev_pos (by omega) ?_
  rw [inc (by omega)]
  by_cases c1 : (i : Int)=no
  ·refine ev_pos c1 ?_
   have : helps g e no (i+1)=helps g e no i:=by
    rw [helps,if_neg (fun z=>z.1 c1),List.append_nil]
   rw [this] at ih
   exact ih
  ·refine ev_neg c1 ?_
   by_cases c2 : groupOf g e i=groupOf g e no
   ·refine ev_pos c2 (ev_pos (by omega) ?_)
    have : helps g e no (i+1)=helps g e no i ++ [(i : Int)]:=by
     rw [helps,if_pos ⟨c1,c2⟩]
    rw [this] at ih
    exact ih
   ·refine ev_neg c2 ?_
    have : helps g e no (i+1)=helps g e no i:=by
     rw [helps,if_neg (fun z=>c2 z.2),List.append_nil]
    rw [this] at ih
    exact ih
def spec_HelpersOf.val (g e m no : Int) : List Int × Bool:=if GoodLocal g e m∧0≤no∧no≤g*e+g - 1 then (helps g e no (g*e+g+m).toNat,true) else ([],false)
theorem spec_HelpersOf.ev (g e m no : Int) : Ev (fun k=>spec_HelpersOf.f k g e m no) (spec_HelpersOf.val g e m no):=by
 unfold spec_HelpersOf.f spec_HelpersOf.val
 simp only [spec_GoodLocal.ev,Option.bind_some,decide_eq_true_eq]
 by_cases h : GoodLocal g e m
 ·have hn:=groupOf_neg h no
  have hm:=small_mul h.1
  simp only [if_pos h,spec_l4Group.ev h,Option.bind_some]
  refine Ev.step (fun k=>spec_HelpersOf.j0.eq_2 _ _ _ _ _ k) ?_
  by_cases c : groupOf g e no < 0
  ·refine ev_eq ?_ (if_neg (fun z=>(hn.1 c) z.2)).symm
   exact ev_pos (by simpa using c) (ev_now rfl)
  ·refine ev_eq ?_ (if_pos ⟨h,Decidable.of_not_not (fun z=>c (hn.2 z))⟩).symm
   refine ev_neg (by simpa using c) ?_
   exact spec_HelpersOf.ev_l0 h no (g*e+g+m).toNat (by omega) _ 0 (Nat.zero_add _)
 ·simp only [if_neg h]
  refine ev_eq ?_ (if_neg (fun z=>h z.1)).symm
  refine Ev.step (fun k=>spec_HelpersOf.j0.eq_2 _ _ _ _ _ k) ?_
  exact ev_pos rfl (ev_now rfl)

def numsOf (l : List (S48)) : List Int:=l.map (·.f0)
def txtsOf (l : List (S48)) : List ByteArray:=l.map (·.f1)
theorem numsOf_length (l : List (S48)) : (numsOf l).length=l.length:=by simp [numsOf]
theorem txtsOf_length (l : List (S48)) : (txtsOf l).length=l.length:=by simp [txtsOf]
theorem rdSd {l : List (S48)} {i : Nat} (h : i < l.length) : rd_T48 l (i : Int)=l[i]:=by unfold rd_T48;simp [List.getD,h]
theorem nums_rd {l : List (S48)} {i : Nat} (h : i < l.length) : rd (numsOf l) (i : Int)=(l[i]).f0:=by rw [rd_get (by rw [numsOf_length];exact h)];simp [numsOf]
theorem txts_at {l : List (S48)} {i : Nat} (h : i < l.length) : txt (txtsOf l) i=(l[i]).f1:=by rw [txt_get (by rw [txtsOf_length];exact h)];simp [txtsOf]
def sdOk (l : List (S48)) (n : Nat) : Bool:=rising (numsOf l) n && textsOk (txtsOf l)
theorem textsOk_no {l : List ByteArray} {i : Nat} (h : i < l.length) (hb : ¬ ((txt l i).size=(txt l 0).size∧(txt l i).size≤40)) : textsOk l=false:=by
 unfold textsOk
 have : ((List.range l.length).any fun i=>decide (40 < (l.getD i ByteArray.empty).size) || (l.getD i ByteArray.empty).size != (l.getD 0 ByteArray.empty).size)=true:=by
  refine List.any_eq_true.2 ⟨i,by simpa using h,?_⟩
  rw [Bool.or_eq_true,decide_eq_true_eq,bne_iff_ne]
  by_cases e : (txt l i).size=(txt l 0).size
  ·left
   have : ¬ (txt l i).size≤40:=fun z=>hb ⟨e,z⟩
   exact Nat.lt_of_not_le this
  ·exact .inr e
 rw [this];rfl
theorem textsOk_yes {l : List ByteArray} (h : ∀ i,i < l.length→(txt l i).size=(txt l 0).size∧(txt l i).size≤40) : textsOk l=true:=by
 unfold textsOk
 have : ((List.range l.length).any fun i=>decide (40 < (l.getD i ByteArray.empty).size) || (l.getD i ByteArray.empty).size != (l.getD 0 ByteArray.empty).size)=false:=by
  rw [List.any_eq_false]
  intro x hx
  have:=h x (by simpa using hx)
  rw [Bool.or_eq_true,decide_eq_true_eq,bne_iff_ne]
  intro z
  rcases z with z | z
  ·exact absurd z (Nat.not_lt.2 this.2)
  ·exact z this.1
 rw [this];rfl
theorem spec_l3Shards.ev_l0 (l : List (S48)) (n : Nat) (hn : n≤16) (hl : l.length≤1048576) (hw : ∀ x ∈ l,(Lit.int .i64 x.f0).wf=true) : ∀ (d i : Nat),i+d=l.length→(∀ j,j < i→riseAt (numsOf l) n j=true)→(∀ j,j < i→(txt (txtsOf l) j).size=(txt (txtsOf l) 0).size∧(txt (txtsOf l) j).size≤40) →
  Ev (fun k=>spec_l3Shards.l0 k l (n : Int) l (l.length : Int) (i : Int)) (sdOk l n)
 | 0,i,hi,ha,hb=>by
  refine Ev.step (fun k=>spec_l3Shards.l0.eq_2 _ _ _ _ _ k) ?_
  refine ev_neg (by omega) (ev_now ?_)
  unfold sdOk
  rw [rising_yes (fun j hj=>ha j (by rw [numsOf_length] at hj;omega)),textsOk_yes (fun j hj=>hb j (by rw [txtsOf_length] at hj;omega))];rfl
 | d+1,i,hi,ha,hb=>by
  have hil : i < l.length:=by omega
  have ih:=spec_l3Shards.ev_l0 l n hn hl hw d (i+1) (by omega)
  have hx:=nums_rd hil
  have ht:=txts_at hil
  have ht0:=txts_at (l:=l) (i:=0) (by omega)
  refine Ev.step (fun k=>spec_l3Shards.l0.eq_2 _ _ _ _ _ k) ?_
  refine ev_pos (by omega) (ev_pos (by omega) (ev_pos (by omega) ?_))
  rw [show wrap64 ((n : Int) - 1)=(n : Int) - 1 by unfold wrap64;omega]
  simp only [spec_l1In.ev,Option.bind_some,decide_eq_true_eq]
  rw [rdSd hil]
  have h0e : rd_T48 l 0=l[0]'(by omega):=rdSd (i:=0) (by omega)
  rw [h0e,← hx,← ht,← ht0]
  have hno : ∀ z,riseAt (numsOf l) n i=false→sdOk l n=z→z=false:=fun z h e=>by
   rw [← e];unfold sdOk
   rw [rising_no (i:=i) (by rw [numsOf_length];exact hil) h];rfl
  have hto : ¬ ((txt (txtsOf l) i).size=(txt (txtsOf l) 0).size∧(txt (txtsOf l) i).size≤40)→false=sdOk l n:=fun h=>by
   unfold sdOk
   rw [textsOk_no (i:=i) (by rw [txtsOf_length];exact hil) h,Bool.and_false]
  have hstep : riseAt (numsOf l) n i=true→Ev (fun k=>if 0 < (l.length : Int) then (if ((txt (txtsOf l) i).size : Int)=((txt (txtsOf l) 0).size : Int) then (if ((txt (txtsOf l) i).size : Int) > 40 then (some false) else (spec_l3Shards.l0 k l (n : Int) l (l.length : Int) (wrap64 ((i : Int)+1)))) else (some false)) else (none)) (sdOk l n):=by
   intro hr
   refine ev_pos (by omega) ?_
   by_cases c1 : (txt (txtsOf l) i).size=(txt (txtsOf l) 0).size
   ·refine ev_pos (by omega) ?_
    by_cases c2 : (txt (txtsOf l) i).size≤40
    ·refine ev_neg (by omega) ?_
     rw [inc (by omega)]
     exact ih (fun j hj=>by by_cases e : j=i;exact e ▸ hr;exact ha j (by omega)) (fun j hj=>by by_cases e : j=i;exact e ▸ ⟨c1,c2⟩;exact hb j (by omega))
    ·exact ev_pos (by omega) (ev_now (hto (fun z=>c2 z.2)))
   ·exact ev_neg (by omega) (ev_now (hto (fun z=>c1 z.1)))
  by_cases c : 0≤rd (numsOf l) (i : Int)∧rd (numsOf l) (i : Int)≤(n : Int) - 1
  ·refine ev_pos c ?_
   by_cases hz : i=0
   ·subst hz
    exact ev_neg (by omega) (hstep (riseAt_yes c (.inl rfl)))
   ·have hp : i - 1 < l.length:=by omega
    have e : wrap64 ((i : Int) - 1)=((i - 1 : Nat) : Int):=by unfold wrap64;omega
    rw [e,rdSd hp,← nums_rd hp]
    refine ev_pos (by omega) (ev_pos (by omega) (ev_pos (by omega) ?_))
    by_cases c2 : rd (numsOf l) ((i - 1 : Nat) : Int) < rd (numsOf l) (i : Int)
    ·exact ev_neg (by omega) (hstep (riseAt_yes c (.inr c2)))
    ·exact ev_pos (by omega) (ev_now (hno _ (riseAt_no (fun z=>by rcases z.2 with y | y;exact hz y;exact c2 y)) rfl).symm)
  ·exact ev_neg c (ev_now (hno _ (riseAt_no (fun z=>c z.1)) rfl).symm)
theorem spec_l3Shards.ev (l : List (S48)) (n : Nat) (hn : n≤16) (hl : l.length≤1048576) (hw : ∀ x ∈ l,(Lit.int .i64 x.f0).wf=true) : Ev (fun k=>spec_l3Shards.f k l (n : Int)) (sdOk l n):=by
 unfold spec_l3Shards.f
 exact spec_l3Shards.ev_l0 l n hn hl hw l.length 0 (by omega) (fun j hj=>by omega) (fun j hj=>by omega)

theorem spec_l1Add.ev_l0 (v w : List Int) (hv : Bytes v) (hw : Bytes w) (hl : v.length=w.length) (hs : v.length < 140737488355328) : ∀ (n i : Nat) (o : List Int),i+n=v.length→o=(addV v w).take i →
  Ev (fun k=>spec_l1Add.l0 k v w o (v.length : Int) (i : Int)) (addV v w)
 | 0,i,o,hi,ho=>by
  refine Ev.step (fun k=>spec_l1Add.l0.eq_2 _ _ _ _ _ k) ?_
  refine ev_neg (by omega) (ev_now ?_)
  subst ho
  rw [List.take_of_length_le (by rw [addV_length];omega)]
 | n+1,i,o,hi,ho=>by
  have hz:=addV_length v w
  have hlen : o.length=i:=by rw [ho,List.length_take,hz];omega
  refine Ev.step (fun k=>spec_l1Add.l0.eq_2 _ _ _ _ _ k) ?_
  refine ev_pos (by omega) (ev_pos (by omega) (ev_pos (by omega) (ev_pos (by omega) (ev_pos (by omega) ?_))))
  rw [inc (by omega),xor_u8 (bytes_rd hv (by omega)) (bytes_rd hw (by omega)),rd_get (by omega),rd_get (by omega)]
  refine spec_l1Add.ev_l0 v w hv hw hl hs n (i+1) _ (by omega) ?_
  rw [List.take_succ_eq_append_getElem (by omega),← ho]
  simp [addV]
theorem spec_l1Add.ev {v w : List Int} (hv : Bytes v) (hw : Bytes w) (hl : v.length=w.length) (hs : v.length < 140737488355328) : Ev (fun k=>spec_l1Add.f k v w) (addV v w):=by
 unfold spec_l1Add.f
 exact spec_l1Add.ev_l0 v w hv hw hl hs v.length 0 [] (by omega) rfl


/-! ### One shard out of its helpers -/
def xorT (a b : ByteArray) : ByteArray:=strOfNums (addV (bytesOf a) (bytesOf b))
theorem xorT_size {a b : ByteArray} (h : a.size=b.size) : (xorT a b).size=b.size:=by
 unfold xorT
 rw [strOfNums_size,addV_length,bytesOf_length,bytesOf_length,h,Nat.min_self]
theorem spec_sumS.ev {s t : ByteArray} (hs : s.size < 140737488355328) (h : s.size=t.size) : Ev (fun k=>spec_sumS.f k s t) (xorT s t):=by
 unfold spec_sumS.f
 refine ev_pos (by omega) ?_
 exact ev_bind (spec_l1Add.ev (bytes_bytesOf s) (bytes_bytesOf t) (by rw [bytesOf_length,bytesOf_length,h]) (by rw [bytesOf_length];exact hs)) (ev_now rfl)
def mdIdx (l : List (S48)) (no : Int) : Int:=match (List.range l.length).find? (fun i=>(l.getD i z48).f0 == no) with
 | some i=>(i : Int)
 | none=>-1
theorem sd_getD {l : List (S48)} {i : Nat} (h : i < l.length) : l.getD i z48=l[i]:=by simp [List.getD,h]
theorem mdIdx_cases (l : List (S48)) (no : Int) : (mdIdx l no = -1∧∀ s (hs : s < l.length),(l[s]).f0 ≠ no)∨∃ j,∃ hj : j < l.length,mdIdx l no=(j : Int)∧(l[j]).f0=no∧∀ s (hs : s < l.length),s < j→(l[s]).f0 ≠ no:=by
 unfold mdIdx
 cases e : (List.range l.length).find? (fun i=>(l.getD i z48).f0 == no) with
 | none =>
  left
  rw [List.find?_eq_none] at e
  refine ⟨rfl,fun s hs z=>?_⟩
  have:=e s (by simpa using hs)
  rw [sd_getD hs] at this
  exact this (by simpa using z)
 | some j =>
  right
  rw [List.find?_range_eq_some] at e
  obtain ⟨h1,h2,h3⟩:=e
  have hj : j < l.length:=by simpa using h2
  rw [sd_getD hj] at h1
  refine ⟨j,hj,rfl,by simpa using h1,fun s hs hsj z=>?_⟩
  have:=h3 s hsj
  rw [sd_getD hs] at this
  simp [z] at this
theorem rising_lt {L : List Int} {n : Nat} (h : rising L n=true) : ∀ d i,i+d+1 < L.length→rd L (i : Int) < rd L ((i+d+1 : Nat) : Int)
 | 0,i,hi=>by
  unfold rising at h
  rw [List.all_eq_true] at h
  have:=of_decide_eq_true (h (i+1) (by simpa using hi))
  have h2:=this.2
  rw [show i+1 - 1=i by omega] at h2
  have : i+0+1=i+1:=rfl
  rw [this]
  omega
 | d+1,i,hi=>by
  have h1:=rising_lt h d i (by omega)
  have h2:=rising_lt h 0 (i+d+1) (by omega)
  rw [show i+(d+1)+1=i+d+1+0+1 by omega]
  omega
theorem sd_unique {l : List (S48)} {n : Nat} (h : sdOk l n=true) {j : Nat} (hj : j < l.length) : ∀ s (hs : s < l.length),j < s→(l[s]).f0 ≠ (l[j]).f0:=by
 intro s hs hjs z
 unfold sdOk at h
 rw [Bool.and_eq_true] at h
 have:=rising_lt h.1 (s - j - 1) j (by rw [numsOf_length];omega)
 rw [show j+(s - j - 1)+1=s by omega,nums_rd hj,nums_rd hs,z] at this
 omega
/-- The sum of what the helpers hold, none if one lacks. -/
def mdGo (l : List (S48)) (H : List Int) : Nat→Nat→ByteArray→Option ByteArray
 | 0,_,acc=>some acc
 | d+1,i,acc=>if mdIdx l (rd H (i : Int)) < 0 then none else mdGo l H d (i+1) (if i=0 then (rd_T48 l (mdIdx l (rd H (i : Int)))).f1 else xorT acc (rd_T48 l (mdIdx l (rd H (i : Int)))).f1)
def mdFin (no : Int) : Option ByteArray→Int × ByteArray × Bool
 | some s=>(no,s,true)
 | none=>(0,(⟨#[]⟩ : ByteArray),false)
def mdVal (g e m : Int) (l : List (S48)) (no : Int) : Int × ByteArray × Bool:=if (spec_HelpersOf.val g e m no).2=true∧sdOk l (g*e+g+m).toNat=true then mdFin no (mdGo l (spec_HelpersOf.val g e m no).1 (spec_HelpersOf.val g e m no).1.length 0 (⟨#[]⟩ : ByteArray)) else (0,(⟨#[]⟩ : ByteArray),false)
section
variable {l : List (S48)} {H : List Int} {no : Int} {n0 : Nat}
theorem spec_MendLocal.skip (hl : l.length≤1048576) (i : Nat) (h : Int) (acc : ByteArray) (found : Bool) {Z : Int × ByteArray × Bool} (K : Ev (fun k=>if found=true then spec_MendLocal.l0 k l H (H.length : Int) (wrap64 ((i : Int)+1)) no acc else some (0,(⟨#[]⟩ : ByteArray),false)) Z) : ∀ d t,t+d=l.length→(∀ s (hs : s < l.length),t≤s→(l[s]).f0 ≠ h) →
  Ev (fun k=>spec_MendLocal.l1 k l (i : Int) h found H (H.length : Int) (i : Int) l (l.length : Int) (t : Int) no acc) Z
 | 0,t,ht,_=>by
  refine Ev.step (fun k=>spec_MendLocal.l1.eq_2 _ _ _ _ _ _ _ _ _ _ _ _ k) ?_
  exact ev_neg (by omega) K
 | d+1,t,ht,hn=>by
  have htl : t < l.length:=by omega
  refine Ev.step (fun k=>spec_MendLocal.l1.eq_2 _ _ _ _ _ _ _ _ _ _ _ _ k) ?_
  rw [rdSd htl]
  refine ev_pos (by omega) (ev_pos (by omega) (ev_pos (by omega) (ev_neg (hn t htl (Nat.le_refl _)) ?_)))
  rw [inc (by omega)]
  exact spec_MendLocal.skip hl i h acc found K d (t+1) (by omega) (fun s hs hts=>hn s hs (by omega))
theorem spec_MendLocal.find {n : Nat} (hsd : sdOk l n=true) (hl : l.length≤1048576) (hts : ∀ j (hj : j < l.length),(l[j]).f1.size=n0) (hn0 : n0≤40) (i : Nat) (acc : ByteArray) (hacc : 0 < i→acc.size=n0) {j : Nat} (hj : j < l.length) (hb : ∀ s (hs : s < l.length),s < j→(l[s]).f0 ≠ (l[j]).f0) {Z : Int × ByteArray × Bool}
  (K : Ev (fun k=>spec_MendLocal.l0 k l H (H.length : Int) (wrap64 ((i : Int)+1)) no (if i=0 then (l[j]).f1 else xorT acc (l[j]).f1)) Z) : ∀ d t,t+d=j →
  Ev (fun k=>spec_MendLocal.l1 k l (i : Int) (l[j]).f0 false H (H.length : Int) (i : Int) l (l.length : Int) (t : Int) no acc) Z
 | 0,t,ht=>by
  have e : t=j:=by omega
  subst e
  refine Ev.step (fun k=>spec_MendLocal.l1.eq_2 _ _ _ _ _ _ _ _ _ _ _ _ k) ?_
  rw [rdSd hj]
  refine ev_pos (by omega) (ev_pos (by omega) (ev_pos (by omega) (ev_pos rfl ?_)))
  have hrest:=fun acc' K'=>spec_MendLocal.skip (H:=H) (no:=no) (Z:=Z) hl i (l[t]).f0 acc' true K' (l.length - (t+1)) (t+1) (by omega) (fun s hs hts=>sd_unique hsd hj s hs (by omega))
  by_cases c : i=0
  ·rw [if_pos c] at K
   refine ev_pos (by omega) ?_
   rw [inc (by omega)]
   exact hrest _ (ev_pos rfl K)
  ·rw [if_neg c] at K
   refine ev_neg (by omega) (ev_bind (spec_sumS.ev (by rw [hacc (by omega)];omega) (by rw [hacc (by omega),hts t hj])) ?_)
   rw [inc (by omega)]
   exact hrest _ (ev_pos rfl K)
 | d+1,t,ht=>by
  have htl : t < l.length:=by omega
  refine Ev.step (fun k=>spec_MendLocal.l1.eq_2 _ _ _ _ _ _ _ _ _ _ _ _ k) ?_
  rw [rdSd htl]
  refine ev_pos (by omega) (ev_pos (by omega) (ev_pos (by omega) (ev_neg (hb t htl (by omega)) ?_)))
  rw [inc (by omega)]
  exact spec_MendLocal.find hsd hl hts hn0 i acc hacc hj hb K d (t+1) (by omega)
theorem spec_MendLocal.ev_l0 {n : Nat} (hsd : sdOk l n=true) (hl : l.length≤1048576) (hts : ∀ j (hj : j < l.length),(l[j]).f1.size=n0) (hn0 : n0≤40) (hH : H.length≤1048576) : ∀ (d i : Nat) (acc : ByteArray),i+d=H.length→(0 < i→acc.size=n0) →
  Ev (fun k=>spec_MendLocal.l0 k l H (H.length : Int) (i : Int) no acc) (mdFin no (mdGo l H d i acc))
 | 0,i,acc,hi,_=>by
  refine Ev.step (fun k=>spec_MendLocal.l0.eq_2 _ _ _ _ _ _ k) ?_
  exact ev_neg (by omega) (ev_now rfl)
 | d+1,i,acc,hi,hacc=>by
  refine Ev.step (fun k=>spec_MendLocal.l0.eq_2 _ _ _ _ _ _ k) ?_
  refine ev_pos (by omega) (ev_pos (by omega) (ev_pos (by omega) ?_))
  unfold mdGo
  rcases mdIdx_cases l (rd H (i : Int)) with ⟨e,hn⟩ | ⟨j,hj,e,he,hb⟩
  ·rw [e,if_pos (by decide)]
   exact spec_MendLocal.skip hl i _ acc false (ev_neg (by decide) (ev_now rfl)) l.length 0 (by omega) (fun s hs _=>hn s hs)
  ·rw [e,if_neg (by omega),rdSd hj,← he]
   rw [← he] at hb
   refine spec_MendLocal.find hsd hl hts hn0 i acc hacc hj hb ?_ j 0 (by omega)
   rw [inc (by omega)]
   refine spec_MendLocal.ev_l0 hsd hl hts hn0 hH d (i+1) _ (by omega) (fun _=>?_)
   by_cases c : i=0
   ·rw [if_pos c];exact hts j hj
   ·rw [if_neg c,xorT_size (by rw [hacc (by omega),hts j hj])];exact hts j hj
end
theorem sd_sizes {l : List (S48)} {n : Nat} (h : sdOk l n=true) : ∃ n0,n0≤40∧∀ j (hj : j < l.length),(l[j]).f1.size=n0:=by
 unfold sdOk at h
 rw [Bool.and_eq_true] at h
 have hall:=textsOk_all h.2
 by_cases c : 0 < l.length
 ·refine ⟨(txt (txtsOf l) 0).size,(hall 0 (by rw [txtsOf_length];exact c)).2,fun j hj=>?_⟩
  have:=(hall j (by rw [txtsOf_length];exact hj)).1
  rwa [txts_at hj] at this
 ·exact ⟨0,by decide,fun j hj=>absurd hj (by omega)⟩
theorem helpers_len {g e m no : Int} : (spec_HelpersOf.val g e m no).1.length≤1048576:=by
 unfold spec_HelpersOf.val
 by_cases c : GoodLocal g e m∧0≤no∧no≤g*e+g - 1
 ·rw [if_pos c]
  have h1:=helps_length g e no (g*e+g+m).toNat
  have h2:=small_mul c.1.1
  obtain ⟨⟨⟨h3,_⟩,h8,h9⟩,_⟩:=c
  show (helps g e no (g*e+g+m).toNat).length≤1048576
  omega
 ·rw [if_neg c];decide
theorem helpers_good {g e m no : Int} (h : (spec_HelpersOf.val g e m no).2=true) : GoodLocal g e m:=by
 unfold spec_HelpersOf.val at h
 by_cases c : GoodLocal g e m∧0≤no∧no≤g*e+g - 1
 ·exact c.1
 ·rw [if_neg c] at h;cases h
theorem spec_MendLocal.ev (g e m : Int) (l : List (S48)) (no : Int) (hl : l.length≤1048576) (hw : ∀ x ∈ l,(Lit.int .i64 x.f0).wf=true) : Ev (fun q=>spec_MendLocal.f q g e m l no) (mdVal g e m l no):=by
 unfold spec_MendLocal.f mdVal
 refine ev_bind (spec_HelpersOf.ev g e m no) ?_
 have hlen:=helpers_len (g:=g) (e:=e) (m:=m) (no:=no)
 by_cases z : (spec_HelpersOf.val g e m no).2=true
 ·have hg:=helpers_good z
  refine ev_pos z ?_
  simp only [spec_l4Many.ev hg,Option.bind_some]
  have hm:=small_mul hg.1
  obtain ⟨N,hN⟩ : ∃ N : Nat,g*e+g+m=(N : Int):=⟨(g*e+g+m).toNat,by have:=hg.1;have:=hg.2;omega⟩
  have hN16 : N≤16:=by have:=hg.1;have:=hg.2;omega
  rw [hN,Int.toNat_natCast]
  refine ev_bind (spec_l3Shards.ev l N hN16 hl hw) ?_
  refine Ev.step (fun k=>spec_MendLocal.j0.eq_2 _ _ _ _ k) ?_
  by_cases c : sdOk l N=true
  ·rw [if_pos ⟨z,c⟩]
   obtain ⟨n0,h1,h2⟩:=sd_sizes c
   refine ev_neg (by rw [c];decide) ?_
   exact spec_MendLocal.ev_l0 c hl h2 h1 hlen _ 0 _ (by omega) (fun q=>absurd q (by omega))
  ·rw [if_neg (fun q=>c q.2)]
   exact ev_pos (by simpa using c) (ev_now rfl)
 ·rw [if_neg (fun q=>z q.1)]
  refine ev_neg z ?_
  refine Ev.step (fun k=>spec_MendLocal.j0.eq_2 _ _ _ _ k) ?_
  exact ev_pos rfl (ev_now rfl)

theorem laws_toLocal.ev (g e m : Int) : laws_toLocal.f g e m=some (g,e,m):=rfl

theorem laws_toShard.ev (n : Int) (s : ByteArray) : laws_toShard.f n s=some (n,s):=rfl

def toSd (x : S102) : S48:=⟨x.f0,x.f1⟩
theorem laws_toShardS.ev_l0 (l : List (S102)) (hl : l.length < 4611686018427387904) : ∀ (n i : Nat) (o : List (S48)),i+n=l.length→o.length=l.length→o.take i=(l.map toSd).take i →
  Ev (fun k=>laws_toShardS.l0 k l o (i : Int)) (l.map toSd)
 | 0,i,o,hi,ho,ht=>by
  refine Ev.step (fun k=>laws_toShardS.l0.eq_2 _ _ _ k) ?_
  refine ev_neg (by omega) (ev_now ?_)
  rw [List.take_of_length_le (by omega),List.take_of_length_le (by simp;omega)] at ht
  exact ht
 | n+1,i,o,hi,ho,ht=>by
  refine Ev.step (fun k=>laws_toShardS.l0.eq_2 _ _ _ k) ?_
  simp only [laws_toShard.ev,Option.bind_some]
  refine ev_pos (by omega) (ev_pos (by omega) (ev_pos (by omega) ?_))
  rw [inc (by omega),Int.toNat_natCast]
  refine laws_toShardS.ev_l0 l hl n (i+1) _ (by omega) (by simpa using ho) ?_
  rw [List.take_succ_eq_append_getElem (by simp;omega),List.take_succ_eq_append_getElem (by simp;omega),← ht]
  have e : rd_T102 l (i : Int)=l[i]'(by omega):=by unfold rd_T102;simp [List.getD,show i < l.length by omega]
  simp [e,toSd,List.take_set_of_le]
theorem laws_toShardS.ev (l : List (S102)) (hl : l.length≤1048576) : Ev (fun k=>laws_toShardS.f k l) (l.map toSd):=by
 unfold laws_toShardS.f
 refine ev_pos (by omega) (ev_pos (by omega) ?_)
 exact laws_toShardS.ev_l0 l (by omega) l.length 0 _ (by omega) (by simp) rfl

theorem impl_within.ev (a b c : Int) : impl_within.f a b c=some (decide (b≤a∧a≤c)):=by
 unfold impl_within.f
 by_cases h : a ≥ b
 ·rw [if_pos h];simp [h]
 ·rw [if_neg h];simp;omega

theorem impl_Local_data.ev {g e m : Int} (h : GoodLocal g e m) : impl_Local_data.f g e m=some (g*e):=by
 unfold impl_Local_data.f
 rw [(small_mul h.1).1]

theorem impl_GoodLocal.ev (g e m : Int) : impl_GoodLocal.f g e m=some (decide (GoodLocal g e m)):=by
 unfold impl_GoodLocal.f
 simp only [impl_within.ev,Option.bind_some,decide_eq_true_eq]
 by_cases h1 : 1≤g∧g≤4
 ·by_cases h2 : 1≤e∧e≤4
  ·have em:=(small_mul ⟨h1,h2⟩).1
   rw [em]
   by_cases h3 : g*e≤8 <;> simp [h1,h2,h3]
  ·simp [h1,h2]
 ·simp [h1]

theorem impl_GroupOf.ev (g e m no : Int) : Ev (fun k=>impl_GroupOf.f k g e m no) (if GoodLocal g e m∧0≤no∧no≤g*e+g - 1 then ((if no < g*e then no / e else no - g*e),true) else (0,false)):=by
 unfold impl_GroupOf.f
 simp only [impl_GoodLocal.ev,Option.bind_some,decide_eq_true_eq]
 by_cases h : GoodLocal g e m
 ·have hm:=small_mul h.1
  have h':=h
  obtain ⟨⟨⟨hg1,hg2⟩,he1,he2⟩,h8,_⟩:=h'
  have e2 : wrap64 (wrap64 (g*e+g) - 1)=g*e+g - 1:=by unfold wrap64;omega
  simp only [if_pos h,impl_Local_data.ev h,impl_within.ev,Option.bind_some,e2]
  refine Ev.step (fun k=>impl_GroupOf.j0.eq_2 _ _ _ _ _ k) ?_
  by_cases c : 0≤no∧no≤g*e+g - 1
  ·refine ev_eq ?_ (if_pos ⟨h,c⟩).symm
   refine ev_neg (by simp [c]) ?_
   simp only [impl_Local_data.ev h,Option.bind_some]
   by_cases d : no < g*e
   ·refine ev_pos d (ev_neg (by omega) (ev_now ?_))
    have q1 : 0≤no / e:=Int.ediv_nonneg c.1 (by omega)
    have q2 : no / e≤no:=Int.ediv_le_self _ c.1
    rw [if_pos d,Int.tdiv_eq_ediv_of_nonneg c.1,wrap_id q1 (by omega)]
   ·refine ev_neg d (ev_now ?_)
    rw [if_neg d,wrap_id (by omega) (by omega)]
  ·refine ev_eq ?_ (if_neg (fun z=>c z.2)).symm
   exact ev_pos (by simp [c]) (ev_now rfl)
 ·simp only [if_neg h]
  refine ev_eq ?_ (if_neg (fun z=>h z.1)).symm
  refine Ev.step (fun k=>impl_GroupOf.j0.eq_2 _ _ _ _ _ k) ?_
  exact ev_pos rfl (ev_now rfl)
theorem impl_GroupOf.same (g e m no : Int) : Ev (fun k=>impl_GroupOf.f k g e m no) (groupVal g e m no):=by
 refine ev_eq (impl_GroupOf.ev g e m no) ?_
 unfold groupVal groupOf
 by_cases h : GoodLocal g e m∧0≤no∧no≤g*e+g - 1
 ·rw [if_pos h,if_pos h]
  by_cases d : no < g*e
  ·rw [if_pos d,if_pos ⟨h.2.1,by omega⟩]
  ·rw [if_neg d,if_neg (by omega),if_pos ⟨by omega,h.2.2⟩]
 ·rw [if_neg h,if_neg h]

theorem impl_GroupOf.in_ {g e m no : Int} (h : GoodLocal g e m) (h0 : 0≤no) (h1 : no≤g*e+g - 1) : Ev (fun k=>impl_GroupOf.f k g e m no) (groupOf g e no,true):=by
 have:=impl_GroupOf.same g e m no
 unfold groupVal at this
 rw [if_pos ⟨h,h0,h1⟩] at this
 exact this
theorem impl_HelpersOf.ev_l0 {g e m : Int} (h : GoodLocal g e m) (no : Int) (N : Nat) (hN : (N : Int)=g*e+g) : ∀ (n i : Nat),i+n=N →
  Ev (fun k=>impl_HelpersOf.l0 k no (groupOf g e no) (helps g e no i) (g*e+g) (i : Int) g e m) (helps g e no N,true)
 | 0,i,hi=>by
  refine Ev.step (fun k=>impl_HelpersOf.l0.eq_2 _ _ _ _ _ _ _ _ k) ?_
  obtain rfl : i=N:=by omega
  exact ev_neg (by omega) (ev_now rfl)
 | n+1,i,hi=>by
  have hm:=small_mul h.1
  have hs : N≤64:=by omega
  refine Ev.step (fun k=>impl_HelpersOf.l0.eq_2 _ _ _ _ _ _ _ _ k) ?_
  have hl:=helps_length g e no i
  have ih:=impl_HelpersOf.ev_l0 h no N hN n (i+1) (by omega)
  refine ev_pos (by omega) ?_
  refine ev_bind (impl_GroupOf.in_ h (by omega) (by omega)) ?_
  rw [inc (by omega)]
  by_cases c2 : groupOf g e i=groupOf g e no
  ·refine ev_pos c2 ?_
   by_cases c1 : (i : Int)=no
   ·refine ev_pos c1 ?_
    have : helps g e no (i+1)=helps g e no i:=by
     rw [helps,if_neg (fun z=>z.1 c1),List.append_nil]
    rw [this] at ih
    exact ih
   ·refine ev_neg c1 (ev_pos (by omega) ?_)
    have : helps g e no (i+1)=helps g e no i ++ [(i : Int)]:=by
     rw [helps,if_pos ⟨c1,c2⟩]
    rw [this] at ih
    exact ih
  ·refine ev_neg c2 ?_
   have : helps g e no (i+1)=helps g e no i:=by
    rw [helps,if_neg (fun z=>c2 z.2),List.append_nil]
   rw [this] at ih
   exact ih
theorem helps_more {g e m no : Int} (h : GoodLocal g e m) (h0 : 0≤no) (h1 : no≤g*e+g - 1) (N : Nat) (hN : (N : Int)=g*e+g) : ∀ d,helps g e no (N+d)=helps g e no N
 | 0=>rfl
 | d+1=>by
  show helps g e no (N+d+1)=_
  have hp : ¬ groupOf g e no < 0:=fun z=>(groupOf_neg h no).1 z ⟨h0,h1⟩
  have hq : groupOf g e ((N+d : Nat) : Int) < 0:=(groupOf_neg h _).2 (by omega)
  rw [helps,if_neg (fun z=>by have:=z.2;omega),List.append_nil,helps_more h h0 h1 N hN d]
theorem impl_HelpersOf.ev (g e m no : Int) : Ev (fun k=>impl_HelpersOf.f k g e m no) (spec_HelpersOf.val g e m no):=by
 unfold impl_HelpersOf.f spec_HelpersOf.val
 have hG:=impl_GroupOf.same g e m no
 unfold groupVal at hG
 by_cases h : GoodLocal g e m∧0≤no∧no≤g*e+g - 1
 ·rw [if_pos h] at hG
  refine ev_eq ?_ (if_pos h).symm
  refine ev_bind hG (ev_pos rfl ?_)
  obtain ⟨hl,h0,h1⟩:=h
  have hm:=small_mul hl.1
  have e1 : wrap64 (g*e+g)=g*e+g:=by unfold wrap64;omega
  simp only [impl_Local_data.ev hl,Option.bind_some,e1]
  refine ev_eq (impl_HelpersOf.ev_l0 hl no (g*e+g).toNat (by omega) _ 0 (Nat.zero_add _)) ?_
  have e2 : (g*e+g+m).toNat=(g*e+g).toNat+m.toNat:=by omega
  rw [e2,helps_more hl h0 h1 (g*e+g).toNat (by omega)]
 ·rw [if_neg h] at hG
  refine ev_eq ?_ (if_neg h).symm
  exact ev_bind hG (ev_neg (by simp) (ev_now rfl))

theorem impl_isIncreasing.ev_l0 (l : List Int) (n : Nat) (hn : n≤16) (hl : l.length≤1048576) (hw : ∀ x ∈ l,(Lit.int .i64 x).wf=true) : ∀ (d i : Nat),i+d=l.length→(∀ j,j < i→riseAt l n j=true)→Ev (fun k=>impl_isIncreasing.l0 k l (n : Int) l (l.length : Int) (i : Int)) (rising l n)
 | 0,i,hi,ha=>by
  refine Ev.step (fun k=>impl_isIncreasing.l0.eq_2 _ _ _ _ _ k) ?_
  exact ev_neg (by omega) (ev_now (rising_yes (fun j hj=>ha j (by omega))).symm)
 | d+1,i,hi,ha=>by
  have e : wrap64 ((n : Int) - 1)=(n : Int) - 1:=by unfold wrap64;omega
  refine Ev.step (fun k=>impl_isIncreasing.l0.eq_2 _ _ _ _ _ k) ?_
  refine ev_pos (by omega) (ev_pos (by omega) (ev_pos (by omega) ?_))
  simp only [impl_within.ev,Option.bind_some,decide_eq_true_eq,e]
  by_cases h : 0≤rd l (i : Int)∧rd l (i : Int)≤(n : Int) - 1
  ·refine ev_pos h ?_
   by_cases h0 : i=0
   ·subst h0
    refine ev_neg (by omega) ?_
    rw [inc (by omega)]
    refine impl_isIncreasing.ev_l0 l n hn hl hw d 1 (by omega) (fun j hj=>?_)
    have : j=0:=by omega
    subst this
    exact riseAt_yes h (.inl rfl)
   ·have e2 : wrap64 ((i : Int) - 1)=((i - 1 : Nat) : Int):=by unfold wrap64;omega
    refine ev_pos (by omega) ?_
    rw [e2]
    refine ev_pos (by omega) (ev_pos (by omega) ?_)
    by_cases h2 : rd l (i : Int)≤rd l ((i - 1 : Nat) : Int)
    ·exact ev_pos h2 (ev_now (rising_no (i:=i) (by omega) (riseAt_no (fun z=>by rcases z.2 with z | z <;> omega))).symm)
    ·refine ev_neg h2 ?_
     rw [inc (by omega)]
     refine impl_isIncreasing.ev_l0 l n hn hl hw d (i+1) (by omega) (fun j hj=>?_)
     by_cases ej : j=i
     ·subst ej;exact riseAt_yes h (.inr (by omega))
     ·exact ha j (by omega)
  ·exact ev_neg h (ev_now (rising_no (i:=i) (by omega) (riseAt_no (fun z=>h z.1))).symm)
theorem impl_isIncreasing.ev (l : List Int) (n : Nat) (hn : n≤16) (hl : l.length≤1048576) (hw : ∀ x ∈ l,(Lit.int .i64 x).wf=true) : Ev (fun k=>impl_isIncreasing.f k l (n : Int)) (rising l n):=by
 unfold impl_isIncreasing.f
 exact impl_isIncreasing.ev_l0 l n hn hl hw l.length 0 (by omega) (fun j hj=>absurd hj (by omega))

theorem impl_areEqual.ev {l : List ByteArray} (h : textsLe 140737488355328 l) : impl_areEqual.f l=some (textsOk l):=by
 unfold impl_areEqual.f
 exact if_pos (show l.length≤140737488355328∧∀ s ∈ l,s.size≤140737488355328 from h)

theorem impl_areShards.ev_l0 (l : List (S48)) (n : Nat) (hn : n≤16) (hl : l.length≤1048576) (hw : ∀ x ∈ l,(Lit.int .i64 x.f0).wf=true) (hs : ∀ x ∈ l,x.f1.size≤1048576) : ∀ (d i : Nat) (a : List Int) (b : List ByteArray),i+d=l.length→a=(numsOf l).take i→b=(txtsOf l).take i →
  Ev (fun k=>impl_areShards.l0 k (n : Int) a b l (l.length : Int) (i : Int)) (sdOk l n)
 | 0,i,a,b,hi,ha,hb=>by
  refine Ev.step (fun k=>impl_areShards.l0.eq_2 _ _ _ _ _ _ k) ?_
  refine ev_neg (by omega) ?_
  rw [ha,hb,List.take_of_length_le (by rw [numsOf_length];omega),List.take_of_length_le (by rw [txtsOf_length];omega)]
  refine ev_bind (impl_isIncreasing.ev (numsOf l) n hn (by rw [numsOf_length];exact hl) (fun x hx=>by obtain ⟨y,hy,rfl⟩:=List.mem_map.1 hx;exact hw y hy)) ?_
  unfold sdOk
  by_cases h : rising (numsOf l) n=true
  ·rw [h,Bool.true_and]
   refine ev_pos rfl ?_
   rw [impl_areEqual.ev (l:=txtsOf l) ⟨by rw [txtsOf_length];omega,fun s hx=>by obtain ⟨y,hy,rfl⟩:=List.mem_map.1 hx;have:=hs y hy;omega⟩]
   exact ev_now rfl
  ·have hf : rising (numsOf l) n=false:=by simpa using h
   rw [hf,Bool.false_and]
   exact ev_neg (by simp) (ev_now rfl)
 | d+1,i,a,b,hi,ha,hb=>by
  have hil : i < l.length:=by omega
  have hal : a.length=i:=by rw [ha,List.length_take,numsOf_length];omega
  have hbl : b.length=i:=by rw [hb,List.length_take,txtsOf_length];omega
  refine Ev.step (fun k=>impl_areShards.l0.eq_2 _ _ _ _ _ _ k) ?_
  refine ev_pos (by omega) (ev_pos (by omega) (ev_pos (by omega) (ev_pos (by omega) (ev_pos (by omega) ?_))))
  rw [rdSd hil,inc (by omega)]
  refine impl_areShards.ev_l0 l n hn hl hw hs d (i+1) _ _ (by omega) ?_ ?_
  ·rw [List.take_succ_eq_append_getElem (by rw [numsOf_length];exact hil),← ha];simp [numsOf]
  ·rw [List.take_succ_eq_append_getElem (by rw [txtsOf_length];exact hil),← hb];simp [txtsOf]
theorem impl_areShards.ev (l : List (S48)) (n : Nat) (hn : n≤16) (hl : l.length≤1048576) (hw : ∀ x ∈ l,(Lit.int .i64 x.f0).wf=true) (hs : ∀ x ∈ l,x.f1.size≤1048576) : Ev (fun k=>impl_areShards.f k l (n : Int)) (sdOk l n):=by
 unfold impl_areShards.f
 exact impl_areShards.ev_l0 l n hn hl hw hs l.length 0 [] [] (by omega) rfl rfl

theorem impl_Local_all.ev {g e m : Int} (h : GoodLocal g e m) : impl_Local_all.f g e m=some (g*e+g+m):=by
 have hm:=small_mul h.1
 unfold impl_Local_all.f
 simp only [impl_Local_data.ev h,Option.bind_some]
 have e1 : wrap64 (wrap64 (g*e+g)+m)=g*e+g+m:=by unfold wrap64;omega
 rw [e1]

theorem impl_added.ev_l0 (v w : List Int) (hv : Bytes v) (hw : Bytes w) (hl : v.length=w.length) (hs : v.length < 140737488355328) : ∀ (n i : Nat) (o : List Int),i+n=v.length→o=(addV v w).take i →
  Ev (fun k=>impl_added.l0 k w o v (v.length : Int) (i : Int)) (addV v w)
 | 0,i,o,hi,ho=>by
  refine Ev.step (fun k=>impl_added.l0.eq_2 _ _ _ _ _ k) ?_
  refine ev_neg (by omega) (ev_now ?_)
  subst ho
  rw [List.take_of_length_le (by rw [addV_length];omega)]
 | n+1,i,o,hi,ho=>by
  have hz:=addV_length v w
  have hlen : o.length=i:=by rw [ho,List.length_take,hz];omega
  refine Ev.step (fun k=>impl_added.l0.eq_2 _ _ _ _ _ k) ?_
  refine ev_pos (by omega) (ev_pos (by omega) (ev_pos (by omega) (ev_pos (by omega) (ev_pos (by omega) ?_))))
  rw [inc (by omega),xor_u8 (bytes_rd hv (by omega)) (bytes_rd hw (by omega)),rd_get (by omega),rd_get (by omega)]
  refine impl_added.ev_l0 v w hv hw hl hs n (i+1) _ (by omega) ?_
  rw [List.take_succ_eq_append_getElem (by omega),← ho]
  simp [addV]
theorem impl_added.ev {v w : List Int} (hv : Bytes v) (hw : Bytes w) (hl : v.length=w.length) (hs : v.length < 140737488355328) : Ev (fun k=>impl_added.f k v w) (addV v w):=by
 unfold impl_added.f
 exact impl_added.ev_l0 v w hv hw hl hs v.length 0 [] (by omega) rfl

theorem impl_sumOf.ev {s t : ByteArray} (hs : s.size < 140737488355328) (h : s.size=t.size) : Ev (fun k=>impl_sumOf.f k s t) (strOfNums (addV (bytesOf s) (bytesOf t))):=by
 unfold impl_sumOf.f
 exact ev_pos (by omega) (ev_bind (impl_added.ev (bytes_bytesOf s) (bytes_bytesOf t) (by rw [bytesOf_length,bytesOf_length];exact h) (by rw [bytesOf_length];exact hs)) (ev_now rfl))


theorem zero_sum (s : ByteArray) : strOfNums (addV (bytesOf (strOfNums (List.replicate s.size 0))) (bytesOf s))=s:=by
 rw [bytesOf_str (fun x hx=>by rw [(List.mem_replicate.1 hx).2];exact Byte.zero)]
 have e : addV (List.replicate s.size 0) (bytesOf s)=bytesOf s:=by
  apply List.ext_getElem
  ·rw [addV_length,List.length_replicate,bytesOf_length,Nat.min_self]
  ·intro i h1 h2
   simp only [addV,List.getElem_zipWith,List.getElem_replicate]
   exact zero_gx (bytes_get (bytes_bytesOf s) h2)
 rw [e,str_bytesOf]
theorem mend_mdIdx (l : List (S48)) (no : Int) : mend_idx l no=mdIdx l no:=rfl
theorem impl_MendLocal.ev_l0 {l : List (S48)} {H : List Int} {no : Int} {n0 : Nat} (hl : l.length≤1048576) (hts : ∀ j (hj : j < l.length),(l[j]).f1.size=n0) (hn0 : n0≤40) (hH : H.length≤1048576) : ∀ (d i : Nat) (acc : ByteArray),i+d=H.length→(0 < i→acc.size=n0) →
  Ev (fun k=>impl_MendLocal.l0 k l H (H.length : Int) (i : Int) no acc) (mdFin no (mdGo l H d i acc))
 | 0,i,acc,hi,_=>by
  refine Ev.step (fun k=>impl_MendLocal.l0.eq_2 _ _ _ _ _ _ k) ?_
  exact ev_neg (by omega) (ev_now rfl)
 | d+1,i,acc,hi,hacc=>by
  refine Ev.step (fun k=>impl_MendLocal.l0.eq_2 _ _ _ _ _ _ k) ?_
  refine ev_pos (by omega) (ev_pos (by omega) (ev_pos (by omega) ?_))
  simp only [mend_Shard.f,if_pos hl,Option.bind_some,mend_mdIdx]
  unfold mdGo
  rcases mdIdx_cases l (rd H (i : Int)) with ⟨e,hn⟩ | ⟨j,hj,e,he,hb⟩
  ·rw [e,if_pos (by decide)]
   exact ev_pos (by decide) (ev_now rfl)
  ·rw [e,if_neg (by omega),rdSd hj]
   refine ev_neg (by omega) ?_
   have hs:=hts j hj
   have ih:=fun acc' hacc'=>impl_MendLocal.ev_l0 (no:=no) hl hts hn0 hH d (i+1) acc' (by omega) (fun _=>hacc')
   rw [inc (by omega)]
   by_cases c : i=0
   ·rw [if_pos c]
    refine ev_pos (by omega) (ev_pos (by omega) (ev_pos (by omega) (ev_pos (by omega) (ev_pos (by omega) ?_))))
    rw [Int.toNat_natCast]
    refine ev_bind (impl_sumOf.ev (by rw [strOfNums_size,List.length_replicate];omega) (by rw [strOfNums_size,List.length_replicate])) ?_
    rw [zero_sum]
    exact ih _ hs
   ·rw [if_neg c]
    refine ev_neg (by omega) (ev_pos (by omega) (ev_pos (by omega) ?_))
    refine ev_bind (impl_sumOf.ev (by rw [hacc (by omega)];omega) (by rw [hacc (by omega),hs])) ?_
    exact ih _ (by rw [show strOfNums (addV (bytesOf acc) (bytesOf (l[j]).f1))=xorT acc (l[j]).f1 from rfl,xorT_size (by rw [hacc (by omega),hs])];exact hs)
theorem impl_MendLocal.ev (g e m : Int) (l : List (S48)) (no : Int) (hl : l.length≤1048576) (hw : ∀ x ∈ l,(Lit.int .i64 x.f0).wf=true) (hs : ∀ x ∈ l,x.f1.size≤1048576) : Ev (fun q=>impl_MendLocal.f q g e m l no) (mdVal g e m l no):=by
 unfold impl_MendLocal.f mdVal
 refine ev_bind (impl_HelpersOf.ev g e m no) ?_
 have hlen:=helpers_len (g:=g) (e:=e) (m:=m) (no:=no)
 by_cases z : (spec_HelpersOf.val g e m no).2=true
 ·have hg:=helpers_good z
  refine ev_pos z ?_
  simp only [impl_Local_all.ev hg,Option.bind_some]
  have hm:=small_mul hg.1
  obtain ⟨N,hN⟩ : ∃ N : Nat,g*e+g+m=(N : Int):=⟨(g*e+g+m).toNat,by have:=hg.1;have:=hg.2;omega⟩
  have hN16 : N≤16:=by have:=hg.1;have:=hg.2;omega
  rw [hN,Int.toNat_natCast]
  refine ev_bind (impl_areShards.ev l N hN16 hl hw hs) ?_
  refine Ev.step (fun k=>impl_MendLocal.j0.eq_2 _ _ _ _ k) ?_
  by_cases c : sdOk l N=true
  ·rw [if_pos ⟨z,c⟩]
   obtain ⟨n0,h1,h2⟩:=sd_sizes c
   refine ev_neg (by rw [c];decide) ?_
   exact impl_MendLocal.ev_l0 hl h2 h1 hlen _ 0 _ (by omega) (fun q=>absurd q (by omega))
  ·rw [if_neg (fun q=>c q.2)]
   exact ev_pos (by simpa using c) (ev_now rfl)
 ·rw [if_neg (fun q=>z q.1)]
  refine ev_neg z ?_
  refine Ev.step (fun k=>impl_MendLocal.j0.eq_2 _ _ _ _ k) ?_
  exact ev_pos rfl (ev_now rfl)

theorem laws_eqShard.ev (a : Int) (s : ByteArray) : laws_eqShard.f a s a s=some true:=by
 unfold laws_eqShard.f
 rw [if_pos rfl,if_pos rfl]

theorem laws_eqShardS.ev_l0 (l : List (S48)) (hl : l.length < 4611686018427387904) : ∀ (n i : Nat),i+n=l.length→Ev (fun k=>laws_eqShardS.l0 k l l (i : Int)) true
 | 0,i,hi=>by
  refine Ev.step (fun k=>laws_eqShardS.l0.eq_2 _ _ _ k) ?_
  exact ev_neg (by omega) (ev_now rfl)
 | n+1,i,hi=>by
  refine Ev.step (fun k=>laws_eqShardS.l0.eq_2 _ _ _ k) ?_
  simp only [laws_eqShard.ev,Option.bind_some]
  refine ev_pos (by omega) (ev_pos (by omega) (ev_pos (by omega) (ev_pos (by trivial) ?_)))
  rw [inc (by omega)]
  exact laws_eqShardS.ev_l0 l hl n (i+1) (by omega)
theorem laws_eqShardS.ev (l : List (S48)) (hl : l.length≤281474976710656) : Ev (fun k=>laws_eqShardS.f k l l) true:=by
 unfold laws_eqShardS.f
 exact ev_pos rfl (laws_eqShardS.ev_l0 l (by omega) l.length 0 (by omega))

theorem sd_of {l : List (S102)} (h : (l.length : Int)+(totSh l : Int)≤1048576) (hw : ∀ x ∈ l,(Lit.int .i64 x.f0).wf=true∧x.f1.size≤maxLen) : (l.map toSd).length≤1048576∧(∀ x ∈ l.map toSd,(Lit.int .i64 x.f0).wf=true)∧∀ x ∈ l.map toSd,x.f1.size≤1048576:=by
 refine ⟨by rw [List.length_map];omega,fun x hx=>?_,fun x hx=>?_⟩
 ·obtain ⟨y,hy,rfl⟩:=List.mem_map.1 hx
  exact (hw y hy).1
 ·obtain ⟨y,hy,rfl⟩:=List.mem_map.1 hx
  have:=mem_totSh hy
  show y.f1.size≤1048576
  omega
theorem FnExactMendLocal : ∀ (g e m : Int) (l : List (S102)) (no : Int),((Lit.int .i64 g).wf=true∧(Lit.int .i64 e).wf=true∧(Lit.int .i64 m).wf=true)→(l.length≤maxLen∧∀ x ∈ l,(Lit.int .i64 x.f0).wf=true∧x.f1.size≤maxLen)→(Lit.int .i64 no).wf=true→∃ q,laws_FnExactMendLocal.f q g e m l no=some true:=by
 intro g e m l no _ hl _
 refine Ev.rounds ?_
 unfold laws_FnExactMendLocal.f
 refine ev_bind (laws_szShardS.ev l hl.1 (fun x hx=>(hl.2 x hx).2)) ?_
 by_cases h : (l.length : Int)+(totSh l : Int)≤1048576
 ·rw [if_pos h]
  obtain ⟨h1,h2,h3⟩:=sd_of h hl.2
  have ht:=laws_toShardS.ev l (by omega)
  refine ev_neg (by omega) ?_
  simp only [laws_toLocal.ev,Option.bind_some]
  refine ev_bind ht (ev_bind (spec_MendLocal.ev g e m _ no h1 h2) (ev_bind ht (ev_bind (impl_MendLocal.ev g e m _ no h1 h2 h3) ?_)))
  simp only [laws_eqShard.ev,Option.bind_some]
  refine ev_pos (by trivial) ?_
  refine Ev.step (fun k=>laws_FnExactMendLocal.j0.eq_2 _ _ _ k) ?_
  exact ev_neg (by simp) (ev_bind ht (ev_bind (laws_eqShardS.ev _ (by omega)) (ev_pos rfl (ev_now rfl))))
 ·rw [if_neg h]
  exact ev_pos (by omega) (ev_now rfl)

end Go.Proofs.Yteflgifmdojahaa.Pure
-- HALVED
-- SQUEEZED
