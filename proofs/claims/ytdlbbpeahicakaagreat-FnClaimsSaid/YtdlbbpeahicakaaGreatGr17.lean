/- What is accepted is true: plain facts. -/
import Derived.Test.YtdlbbpeahicakaaGreatGr16
import Derived.Test.YtdlbbpeahicakaaGreatKn
import Derived.Test.YtdlbbpeahicakaaGreatGr7
import Derived.Test.YtdlbbpeahicakaaGreatGr5
import Derived.Test.YtdlbbpeahicakaaGreatGr9
import Derived.Test.YtdlbbpeahicakaaGreatGr14
import Derived.Deep.RegionHeld3
import Derived.Test.YtdlbbpeahicakaaGreatGr13
set_option linter.unusedSimpArgs false
set_option linter.unusedVariables false
set_option linter.unnecessarySimpa false
namespace Go.Zz
open Go.RowKit Go.Proofs
theorem fi_all(g h:List Int)(L E:List Nat):∀f M N,fiI g h L E f M=some N→M.Nodup→(∀y∈M,y∈E)→N.Nodup∧∀y∈N,y∈E:=by
 intro f
 induction f with
 | zero=>intro M N e;cases e
 | succ f ih =>
  intro M N e hn hE
  unfold fiI at e
  split at e
  · split at e
    · cases e;exact⟨hn,hE⟩
    · cases e
  · obtain⟨y,hyE,hy⟩:=findSome_get e
    split at hy
    · cases hy
    · next hb =>
       refine ih _ _ hy ?_ ?_
       · rw[List.nodup_append]
         refine⟨hn,by simp,fun a ha b hb' e2=>?_⟩
         rw[List.mem_singleton] at hb'
         subst hb';subst e2
         exact hb (by rw[bset_mem];exact decide_eq_true ha)
       · intro z hz
         rcases List.mem_append.1 hz with q | q
         · exact hE z q
         · rw[List.mem_singleton] at q;subst q;exact hyE
theorem elems_ord{l:List Int}{n:Nat}(hn:n<2 ^ ord l):∀y∈elems n,y<ord l:=fun y hy=>bit_lt hn (mem_elems.1 hy).2
theorem mk5{g h:List Int}{a b:Int}(hf:ffB g h a b=true)(s p n:Int):ccF (caK g h a b) (caG g h a b) (caO g h a b) (caA g h a b) (caB g h a b) s p (caT g h a b) (caQ g h a b) n=true:=by
 unfold caK caG caO caA caB caT caQ
 rw[if_pos hf,if_pos hf,if_pos hf,if_pos hf,if_pos hf,if_pos hf]
 cases e:ffR g h a b with
 | none=>rw[(ff_no e).2] at hf;cases hf
 | some N =>
  rw[(ff_yes e).1]
  unfold ffR at e
  split at e
  rotate_left
  · cases e
  next hc =>
  unfold ffC at hc
  simp only[Bool.and_eq_true,decide_eq_true_eq] at hc
  obtain⟨⟨h1,h2⟩,h3,h4,h5⟩:=hc
  obtain⟨m,rfl,m1,m2,hg⟩:=isSetB_nat h1
  obtain⟨k,rfl,k1,k2,hh⟩:=isSetB_nat h2
  rw[show ((m:Int)).toNat=m from rfl] at e h3 h4 h5
  rw[show ((k:Int)).toNat=k from rfl] at e h3
  obtain⟨-,f2,f3⟩:=fiI_ext g h _ _ _ _ _ e
  obtain⟨n1,n2⟩:=fi_all g h _ _ _ _ _ e (by simp) (by simp)
  have No:∀y∈N,y<ord h:=fun y hy=>elems_ord k1 y (n2 y hy)
  have hlm:(elems m).length=N.length:=f2.symm
  have hN24:∀y∈N,y<24:=fun y hy=>(mem_elems.1 (n2 y hy)).1
  have hbN:bset N=k:=by
   refine eq_of_cnt k2 (fun i hi=>?_) ?_
   · rw[bset_mem,decide_eq_true_iff] at hi
     exact (mem_elems.1 (n2 i hi)).2
   · rw[cnt_bset n1 hN24]
     have:cnt m=N.length:=hlm
     omega
  have hlen:(elems m).length=cnt m:=rfl
  rw[loF_nat h1]
  have hiso:=iso_list hg hh (elems_nodup m) n1 (elems_ord m1) No hlm (by omega) (by omega)
  unfold isoK at f3
  unfold ccF
  rw[if_neg (by omega),if_neg (by omega),if_neg (by omega),if_neg (by omega),if_pos rfl,hiso,f3,soB_list hg (elems_nodup m) (elems_ord m1),soB_list hh n1 No,
   (soG_yes (soG_list hg _ (elems_nodup m) (elems_ord m1))).2,(soG_yes (soG_list hh _ n1 No)).2,bset_elems m2,hbN]
  simp
theorem sub_sorted:∀{T P:List Nat},P.Pairwise (·≤·)→T.Pairwise (·≤·)→(∀x,P.count x≤T.count x)→P.Sublist T
 | [],P,_,_,h=>by
  cases P with
  | nil=>exact List.Sublist.refl _
  | cons x P=>have:=h x;simp at this
 | y :: T,[],_,_,_=>List.nil_sublist _
 | y :: T,x :: P,hP,hT,h=>by
  have hP':=List.pairwise_cons.1 hP
  have hT':=List.pairwise_cons.1 hT
  by_cases e:x=y
  · subst e
    refine List.Sublist.cons_cons _ (sub_sorted hP'.2 hT'.2 fun z=>?_)
    have:=h z
    rw[List.count_cons,List.count_cons] at this
    omega
  · refine List.Sublist.cons _ (sub_sorted hP hT'.2 fun z=>?_)
    by_cases ez:z=y
    · subst ez
      have hx:x∈z :: T:=List.count_pos_iff.1 (by have:=h x;rw[List.count_cons_self] at this;omega)
      have hxT:x∈T:=by
       rcases List.mem_cons.1 hx with q | q
       · exact absurd q e
       · exact q
      have hlt:z<x:=by have:=hT'.1 x hxT;omega
      have:(x :: P).count z=0:=List.count_eq_zero.2 fun hm=>by
       rcases List.mem_cons.1 hm with q | q
       · omega
       · have:=hP'.1 z q;omega
      omega
    · have:=h z
      rw[List.count_cons (a:=z) (b:=y)] at this
      have e':(y == z)=false:=by simpa using fun q=>ez q.symm
      rw[e'] at this
      simpa using this
theorem sort_pw{Z:List Nat}(h:sortB (castL Z)=true):Z.Pairwise (·≤·):=by
 rw[sortB_iff] at h
 rw[List.pairwise_iff_getElem]
 have step:∀d i,i+d<Z.length→nthN Z i≤nthN Z (i+d):=by
  intro d
  induction d with
  | zero=>intro i _;exact Nat.le_refl _
  | succ d ih =>
   intro i hi
   have h1:=ih i (by omega)
   have h2:=h (i+d+1) (by omega) (by rw[castL_len];omega)
   rw[Nat.add_sub_cancel,nth_castL,nth_castL] at h2
   have:i+(d+1)=i+d+1:=by omega
   rw[this];omega
 intro i j hi hj hij
 have:=step (j - i) i (by omega)
 rw[show i+(j - i)=j by omega] at this
 simpa[nthN,List.getD,hi,hj] using this
theorem count_cast(X:List Nat)(x:Nat):(castL X).count (x:Int)=X.count x:=by
 induction X with
 | nil=>rfl
 | cons y X ih =>
  rw[show castL (y :: X)=(y:Int) :: castL X from rfl,List.count_cons,List.count_cons,ih]
  congr 1
  by_cases e:y=x
  · subst e;simp
  · have:¬((y:Int)=(x:Int)):=by omega
    simp[e,this]
theorem ac2{l t q:List Int}(h:(seqB l t&&zsB l q&&decide (q.length≠0)&&subM t q)=true):zfB l t=false:=by
 simp only[Bool.and_eq_true,decide_eq_true_eq] at h
 obtain⟨⟨⟨h1,h2⟩,h3⟩,h4⟩:=h
 have hq:seqB l q=true:=by unfold zsB at h2;rw[Bool.and_eq_true] at h2;exact h2.1
 obtain⟨X,rfl,hX,-,hg,-⟩:=seqB_nat h1
 obtain⟨Y,rfl,hY,-,-,-⟩:=seqB_nat hq
 have sX:sortB (castL X)=true:=by unfold seqB at h1;rw[Bool.and_eq_true] at h1;exact h1.2
 have sY:sortB (castL Y)=true:=by unfold seqB at hq;rw[Bool.and_eq_true] at hq;exact hq.2
 rw[zsB_yes hq] at h2
 have ht:tot l Y=0:=by have:=beq_iff_eq.1 h2;omega
 have hs:Y.Sublist X:=sub_sorted (sort_pw sY) (sort_pw sX) fun x=>by
  have:=(subM_iff _ _).1 h4 (x:Int)
  rwa [count_cast,count_cast] at this
 rw[zfB_yes h1,(sbs_iff hg X hX 0).2 ⟨Y,hs,fun e=>h3 (by rw[e];rfl),ht⟩]
 rfl
theorem sbs_more{l:List Int}(hg:isGrp l=true)(X:List Nat):(∀x∈X,x<ord l)→(sbs l X).testBit 0=false→sbs l X<2 ^ ord l∧X.length≤cnt (sbs l X):=by
 refine snoc_ind (P:=fun X=>(∀x∈X,x<ord l)→(sbs l X).testBit 0=false→sbs l X<2 ^ ord l∧X.length≤cnt (sbs l X)) (fun _ _=>⟨Nat.two_pow_pos _,by simp⟩) (fun X x ih hX h0=>?_) X.length X rfl
 have hxo:=hX x (by simp)
 have e:sbs l (X++[x])=nxS l (sbs l X) x:=sbs_snoc l X x
 rw[e] at h0 ⊢
 have h0':(sbs l X).testBit 0=false:=by
  unfold nxS at h0
  rw[Nat.testBit_or,Nat.testBit_or] at h0
  simp only[Bool.or_eq_false_iff] at h0
  exact h0.1.1
 obtain⟨i1,i2⟩:=ih (fun y hy=>hX y (by simp[hy])) h0'
 have:=nxS_more hg i1 h0' hxo
 refine⟨nxS_lt hg i1 hxo,?_⟩
 simp only[List.length_append,List.length_singleton]
 omega
theorem ac3{l t:List Int}(h:zfB l t=true):isGrp l=true∧t.length<ord l:=by
 have hs:seqB l t=true:=by unfold zfB at h;rw[Bool.and_eq_true] at h;exact h.1
 obtain⟨X,rfl,hX,-,hg,-⟩:=seqB_nat hs
 rw[zfB_yes hs] at h
 have h0:(sbs l X).testBit 0=false:=by simpa using h
 obtain⟨h1,h2⟩:=sbs_more hg X hX h0
 refine⟨hg,?_⟩
 rw[castL_len]
 have hsub:Sub (sbs l X) (fullN l):=fun i hi=>by rw[fullN_bit];exact decide_eq_true (bit_lt h1 hi)
 have hne:sbs l X≠fullN l:=fun e=>by
  rw[e,fullN_bit] at h0
  have:=(ord_bd hg).1
  simp at h0;omega
 have:=(sub_lt (Nat.lt_of_lt_of_le (fullN_lt l) (pow_ord hg)) hsub hne).2
 rw[cnt_full hg] at this
 omega
theorem soG_inv{l:List Int}:∀(t:List Int) (a r:Nat),soG l t a=some r→∃X:List Nat,t=castL X∧(∀y∈X,y<ord l)∧∀i,r.testBit i=(a.testBit i || decide (i∈X))
 | [],a,r,h=>by
  cases h
  exact⟨[],rfl,by simp,by simp⟩
 | x :: t,a,r,h=>by
  unfold soG at h
  split at h
  · next hc =>
     rw[Bool.and_eq_true] at hc
     obtain⟨n,rfl,n1,n2⟩:=hasB_nat hc.1
     obtain⟨X,rfl,X1,X2⟩:=soG_inv t _ r h
     refine⟨n :: X,rfl,?_,?_⟩
     · intro y hy
       rcases List.mem_cons.1 hy with q | q
       · subst q;omega
       · exact X1 y q
     · intro i
       rw[X2 i,show ((n:Int)).toNat=n from rfl,Nat.testBit_or,Nat.testBit_two_pow]
       by_cases e:n=i
       · subst e;simp
       · have e':¬i=n:=fun q=>e q.symm
         simp[e,e']
  · cases h
theorem rel_len{L M:List Nat}(R:Nat→Nat→Prop)(hL:L.Nodup)(h1:∀x∈L,∃y∈M,R x y)(h2:∀x x' y,R x y→R x' y→x=x'):L.length≤M.length:=by
 induction L generalizing M with
 | nil=>simp
 | cons x L ih =>
  obtain⟨n1,n2⟩:=List.nodup_cons.1 hL
  obtain⟨y,hy,hR⟩:=h1 x (by simp)
  have:=ih (M:=M.erase y) n2 fun z hz=>by
   obtain⟨u,hu,hRu⟩:=h1 z (by simp[hz])
   refine⟨u,(List.mem_erase_of_ne fun e=>?_).2 hu,hRu⟩
   subst e
   exact n1 (by rw[h2 x z u hR hRu];exact hz)
  rw[List.length_erase_of_mem hy] at this
  have:=List.length_pos_of_mem hy
  simp only[List.length_cons]
  omega
theorem kp_le{g h:List Int}(hg:isGrp g=true){X Y:List Nat}{a b:Nat}(ha:∀i,a.testBit i=decide (i∈X))(hb:∀i,b.testBit i=decide (i∈Y))(hX:∀y∈X,y<24)(hlen:X.length=Y.length)(hk:kpB g h X Y=true):cnt (sumF h b b)≤cnt (sumF g a a):=by
 refine rel_len (fun z u=>∃i j,i≤j∧j<X.length∧addF h (nthN Y i) (nthN Y j)=z∧addF g (nthN X i) (nthN X j)=u) (elems_nodup _) (fun z hz=>?_) ?_
 · obtain⟨p,q,-,hp,-,hq,rfl⟩:=testBit_sumF.1 (mem_elems.1 hz).2
   rw[hb,decide_eq_true_iff] at hp hq
   obtain⟨i,hi,rfl⟩:=List.getElem_of_mem hp
   obtain⟨j,hj,rfl⟩:=List.getElem_of_mem hq
   have hin:∀i (hi:i<X.length),a.testBit (nthN X i)=true∧nthN X i<24:=fun i hi=>by
    have:nthN X i∈X:=nthN_mem hi
    exact⟨by rw[ha];exact decide_eq_true this,hX _ this⟩
   have eY:∀i (hi:i<Y.length),nthN Y i=Y[i]:=fun i hi=>by simp[nthN,List.getD,hi]
   have key:∀i j,i≤j→j<X.length→∃y∈elems (sumF g a a),∃i' j',i'≤j'∧j'<X.length∧addF h (nthN Y i') (nthN Y j')=addF h (nthN Y i) (nthN Y j)∧addF g (nthN X i') (nthN X j')=y:=fun i j hij hj=>by
    refine⟨_,mem_elems.2 ⟨addF_bd hg _ _,testBit_sumF.2 ⟨nthN X i,nthN X j,(hin i (by omega)).2,(hin i (by omega)).1,(hin j hj).2,(hin j hj).1,rfl⟩⟩,i,j,hij,hj,rfl,rfl⟩
   rcases Nat.le_total i j with hij | hij
   · have:=key i j hij (by omega)
     rwa [eY i hi,eY j hj] at this
   · have:=key j i hij (by omega)
     rwa [eY i hi,eY j hj,addF_comm h] at this
 · rintro z z' u ⟨i,j,hij,hj,rfl,rfl⟩ ⟨p,q,hpq,hq,rfl,e⟩
   have:=kpB_iff.1 hk i j p q hij hj hpq hq
   unfold kEq at this
   rw[e] at this
   simp at this
   omega
theorem ac5{g o t q:List Int}{a b:Int}(h:(soB g t&&soB o q&&(soV g t == a)&&(soV o q == b)&&isoF g o t q)=true):∃m n:Nat,a=m∧b=n∧isSetB g a=true∧isSetB o b=true∧cnt (sumF g m m)=cnt (sumF o n n):=by
 simp only[Bool.and_eq_true] at h
 obtain⟨⟨⟨⟨h1,h2⟩,h3⟩,h4⟩,h5⟩:=h
 have h3:=beq_iff_eq.1 h3
 have h4:=beq_iff_eq.1 h4
 cases e1:soG g t 0 with
 | none=>rw[(soG_no e1).1] at h1;cases h1
 | some m =>
 cases e2:soG o q 0 with
 | none=>rw[(soG_no e2).1] at h2;cases h2
 | some n =>
 rw[(soG_yes e1).2] at h3
 rw[(soG_yes e1).1] at h1
 rw[(soG_yes e2).2] at h4
 rw[(soG_yes e2).1] at h2
 subst h3;subst h4
 obtain⟨X,rfl,X1,X2⟩:=soG_inv t 0 m e1
 obtain⟨Y,rfl,Y1,Y2⟩:=soG_inv q 0 n e2
 have X3:∀i,m.testBit i=decide (i∈X):=fun i=>by rw[X2 i,Nat.zero_testBit,Bool.false_or]
 have Y3:∀i,n.testBit i=decide (i∈Y):=fun i=>by rw[Y2 i,Nat.zero_testBit,Bool.false_or]
 have bd:∀{l:List Int} {m:Nat} {X:List Nat},(∀i,m.testBit i=decide (i∈X))→(∀y∈X,y<ord l)→m<2 ^ ord l:=fun {l m X} hm hX=>by
  refine Nat.lt_pow_two_of_testBit _ fun i hi=>?_
  rw[hm,decide_eq_false_iff_not]
  intro hx
  have:=hX i hx
  omega
 unfold isoF fmF at h5
 simp only[Bool.and_eq_true] at h5
 obtain⟨⟨f1,k1⟩,f2,k2⟩:=h5
 rw[natL_cast,natL_cast] at k1 k2
 have hlen:X.length=Y.length:=by
  unfold fineF at f1
  simp only[Bool.and_eq_true,decide_eq_true_eq] at f1
  have:=f1.2.1.2
  rwa [castL_len,castL_len] at this
 refine⟨m,n,rfl,rfl,isSetB_of h1 (bd X3 X1),isSetB_of h2 (bd Y3 Y1),?_⟩
 have u1:=kp_le h1 X3 Y3 (fun y hy=>Nat.lt_of_lt_of_le (X1 y hy) (ord_bd h1).2) hlen k1
 have u2:=kp_le h2 Y3 X3 (fun y hy=>Nat.lt_of_lt_of_le (Y1 y hy) (ord_bd h2).2) hlen.symm k2
 omega
theorem ac7{l:List Int}{a s p:Int}(h:c7F l a s p=true):∃m k:Nat,a=m∧p=k∧isSetB l a=true∧isSetB l p=true∧2*cnt k<3*cnt m:=by
 unfold c7F at h
 simp only[Bool.and_eq_true] at h
 obtain⟨h1,⟨⟨h2,h3⟩,-⟩,-⟩:=h
 obtain⟨m,rfl,hm,-,hg,hs⟩:=smallF_nat h1
 have h2:=beq_iff_eq.1 h2
 subst h2
 unfold smallF at h1
 simp only[Bool.and_eq_true,decide_eq_true_eq] at h1
 obtain⟨⟨-,h0⟩,h4⟩:=h1
 obtain⟨f1,f2,f3,f4,f5,f6⟩:=small_fact hg hm (by omega) h4
 refine⟨m,_,rfl,rfl,hs,?_,f5⟩
 unfold subB at h3
 rw[Bool.and_eq_true] at h3
 exact h3.1
abbrev Gn(l:List Int):={x // x∈List.range (ord l)}
def gAb(l:List Int)(hg:isGrp l=true):Kn.Ab (Gn l) where
 els:=(List.range (ord l)).attach
 nodup:=by
  have h:((List.range (ord l)).attach.map Subtype.val).Nodup:=by rw[List.attach_map_subtype_val];exact List.nodup_range
  exact List.Pairwise.of_map Subtype.val (fun a b hne e=>hne (by rw[e])) h
 all:=fun x=>List.mem_attach _ x
 add:=fun x y=>⟨addF l x.1 y.1,List.mem_range.2 (addF_lt l (isGrp_ords hg) _ _)⟩
 zero:=⟨0,List.mem_range.2 (ord_bd hg).1⟩
 neg:=fun x=>⟨negF l x.1,List.mem_range.2 (negF_lt l (isGrp_ords hg) _)⟩
 comm:=fun x y=>Subtype.ext (addF_comm l _ _)
 assoc:=fun x y z=>Subtype.ext (addF_assoc l (isGrp_ords hg) _ _ _)
 add_zero:=fun x=>Subtype.ext (by show addF l x.1 0=x.1;rw[addF_comm];exact addF_zero l (isGrp_ords hg) _ (List.mem_range.1 x.2))
 add_neg:=fun x=>Subtype.ext (addF_neg l (isGrp_ords hg) _)
def bts(l:List Int)(a:Nat):Gn l→Bool:=fun x=>a.testBit x.1
theorem card_bts{l:List Int}(hg:isGrp l=true){a:Nat}(ha:a<2 ^ ord l):Kn.card (gAb l hg) (bts l a)=cnt a:=by
 unfold Kn.card
 show (List.range (ord l)).attach.countP (bts l a)=_
 rw[show bts l a=(fun x:Gn l=>(fun i=>a.testBit i) x.1) from rfl,List.countP_attach]
 rw[List.countP_eq_length_filter]
 refine Nat.le_antisymm ?_ ?_
 · refine rel_len (fun x y=>x=y) (List.Nodup.sublist List.filter_sublist List.nodup_range) (fun x hx=>⟨x,?_,rfl⟩) (fun x x' y e e'=>by rw[e,e'])
   obtain⟨h1,h2⟩:=List.mem_filter.1 hx
   exact mem_elems.2 ⟨Nat.lt_of_lt_of_le (List.mem_range.1 h1) (ord_bd hg).2,h2⟩
 · refine rel_len (fun x y=>x=y) (elems_nodup a) (fun x hx=>⟨x,?_,rfl⟩) (fun x x' y e e'=>by rw[e,e'])
   have:=(mem_elems.1 hx).2
   exact List.mem_filter.2 ⟨List.mem_range.2 (bit_lt ha this),this⟩
theorem stab_bit{l:List Int}{a x:Nat}:(stabF l a).testBit x=true↔x<ord l∧shiftF l a x=a:=by
 unfold stabF stabTo
 rw[testBit_bset,decide_eq_true_iff,List.mem_filter,List.mem_range,decide_eq_true_iff]
theorem stab_sum{l:List Int}(hg:isGrp l=true){S:Nat}(hS:S<2 ^ ord l){x h:Nat}(hh:(stabF l S).testBit h=true)(hx:S.testBit x=true):S.testBit (addF l x h)=true:=by
 obtain⟨h1,h2⟩:=stab_bit.1 hh
 rw[←h2]
 exact testBit_shiftF.2 ⟨x,Nat.lt_of_lt_of_le (bit_lt hS hx) (ord_bd hg).2,hx,addF_comm l h x⟩
theorem kn_le{l:List Int}(hg:isGrp l=true){a b:Nat}(ha:a≠0)(hb:b≠0)(ha2:a<2 ^ ord l)(hb2:b<2 ^ ord l):knF l a b≤(cnt (sumF l a b):Int):=by
 have hO:=isGrp_ords hg
 have hob:=ord_bd hg
 obtain⟨S,hSd⟩:∃S,S=sumF l a b:=⟨_,rfl⟩
 have hS:S<2 ^ ord l:=by rw[hSd];exact sumF_lt hO _ _
 obtain⟨H,hHd⟩:∃H,H=stabF l S:=⟨_,rfl⟩
 have hH:H<2 ^ ord l:=by rw[hHd];exact stabF_lt l S
 have inS:∀{x y},a.testBit x=true→b.testBit y=true→S.testBit (addF l x y)=true:=fun hx hy=>by
  rw[hSd];exact sum_in (Nat.lt_of_lt_of_le (bit_lt ha2 hx) hob.2) (Nat.lt_of_lt_of_le (bit_lt hb2 hy) hob.2) hx hy
 have perS:∀{x h},H.testBit h=true→S.testBit x=true→S.testBit (addF l x h)=true:=fun hh hx=>by
  rw[hHd] at hh;exact stab_sum hg hS hh hx
 have zH:H.testBit 0=true:=by
  rw[hHd]
  refine stab_bit.2 ⟨hob.1,Nat.eq_of_testBit_eq fun i=>bool_eq_of ⟨fun h=>?_,fun h=>?_⟩⟩
  · obtain⟨y,_,hy,rfl⟩:=testBit_shiftF.1 h
    rwa [addF_zero l hO y (bit_lt hS hy)]
  · exact testBit_shiftF.2 ⟨i,Nat.lt_of_lt_of_le (bit_lt hS h) hob.2,h,addF_zero l hO i (bit_lt hS h)⟩
 have hA:sumF l a H<2 ^ ord l:=sumF_lt hO _ _
 have hB:sumF l b H<2 ^ ord l:=sumF_lt hO _ _
 obtain⟨x0,hx0⟩:=bit_of_pos ha
 obtain⟨y0,hy0⟩:=bit_of_pos hb
 have b24:∀{c x},c<2 ^ ord l→c.testBit x=true→x<24:=fun hc hx=>Nat.lt_of_lt_of_le (bit_lt hc hx) hob.2
 have into:∀{c x h:Nat},c<2 ^ ord l→c.testBit x=true→H.testBit h=true→(sumF l c H).testBit (addF l x h)=true:=fun hc hx hh=>sum_in (b24 hc hx) (b24 hH hh) hx hh
 have inA:∀{c x:Nat},c<2 ^ ord l→c.testBit x=true→(sumF l c H).testBit x=true:=fun hc hx=>by
  have:=into hc hx zH
  rwa [addF_comm,addF_zero l hO _ (bit_lt hc hx)] at this
 obtain⟨K,k1,k2,k3⟩:=Kn.kneser (g:=gAb l hg) (bts l (sumF l a H)) (bts l (sumF l b H)) (a0:=⟨x0,List.mem_range.2 (bit_lt ha2 hx0)⟩) (b0:=⟨y0,List.mem_range.2 (bit_lt hb2 hy0)⟩) (inA ha2 hx0) (inA hb2 hy0)
 have hsum:∀x,Kn.sums (gAb l hg) (bts l (sumF l a H)) (bts l (sumF l b H)) x=bts l S x:=fun x=>by
  rw[Bool.eq_iff_iff,Kn.sums_iff]
  constructor
  · rintro⟨p,q,hp,hq,rfl⟩
    obtain⟨p1,h1,-,hp1,-,hh1,e1⟩:=testBit_sumF.1 hp
    obtain⟨q1,h2,-,hq1,-,hh2,e2⟩:=testBit_sumF.1 hq
    show S.testBit (addF l p.1 q.1)=true
    rw[←e1,←e2]
    have:=perS hh2 (perS hh1 (inS hp1 hq1))
    have e:addF l (addF l p1 h1) (addF l q1 h2)=addF l (addF l (addF l p1 q1) h1) h2:=by
     rw[addF_assoc l hO p1 h1,addF_assoc l hO (addF l p1 q1),addF_assoc l hO p1 q1,←addF_assoc l hO h1 q1,←addF_assoc l hO q1 h1,addF_comm l h1 q1]
    rw[e];exact this
  · intro hx
    have hx':S.testBit x.1=true:=hx
    rw[hSd] at hx'
    obtain⟨p,q,-,hp,-,hq,e⟩:=testBit_sumF.1 hx'
    exact⟨⟨p,List.mem_range.2 (bit_lt ha2 hp)⟩,⟨q,List.mem_range.2 (bit_lt hb2 hq)⟩,inA ha2 hp,inA hb2 hq,Subtype.ext e.symm⟩
 have cS:Kn.card (gAb l hg) (Kn.sums (gAb l hg) (bts l (sumF l a H)) (bts l (sumF l b H)))=cnt S:=by
  rw[Kn.card_congr hsum];exact card_bts hg hS
 have cK:Kn.card (gAb l hg) K≤cnt H:=by
  rw[←card_bts hg hH]
  refine Kn.card_le fun x hx=>?_
  show H.testBit x.1=true
  rw[hHd]
  refine stab_bit.2 ⟨List.mem_range.1 x.2,?_⟩
  have hp:∀y:Gn l,bts l S ((gAb l hg).add y x)=bts l S y:=fun y=>by rw[←hsum,←hsum];exact k2 x hx y
  refine Nat.eq_of_testBit_eq fun i=>bool_eq_of ⟨fun h=>?_,fun h=>?_⟩
  · obtain⟨y,_,hy,rfl⟩:=testBit_shiftF.1 h
    have:=hp ⟨y,List.mem_range.2 (bit_lt hS hy)⟩
    have e:S.testBit (addF l y x.1)=S.testBit y:=this
    rw[addF_comm,e];exact hy
  · have hi:=bit_lt hS h
    have hneg:=hp ((gAb l hg).add ⟨i,List.mem_range.2 hi⟩ ((gAb l hg).neg x))
    rw[Kn.Ab.sub_add] at hneg
    have e:S.testBit i=S.testBit (addF l i (negF l x.1)):=hneg
    rw[e] at h
    refine testBit_shiftF.2 ⟨addF l i (negF l x.1),b24 hS h,h,?_⟩
    have:=congrArg Subtype.val (Kn.Ab.sub_add (gAb l hg) ⟨i,List.mem_range.2 hi⟩ x)
    rw[addF_comm];exact this
 rw[cS,card_bts hg hA,card_bts hg hB] at k3
 unfold knF
 rw[←hSd,←hHd]
 omega
theorem ac1{l:List Int}{a b s p:Int}(h:c1F l a b s p=true):∃m n k:Nat,a=m∧b=n∧s=k∧fullB l a b=true∧isSetB l s=true∧knF l m n≤(cnt k:Int):=by
 unfold c1F at h
 simp only[Bool.and_eq_true] at h
 obtain⟨h1,h2,-⟩:=h
 obtain⟨m,n,rfl,rfl,m0,n0,m1,n1,-,-,hg,-,-⟩:=fullB_nat h1
 have h2:=beq_iff_eq.1 h2
 subst h2
 exact⟨m,n,_,rfl,rfl,rfl,h1,isSetB_of hg (sumF_lt (isGrp_ords hg) _ _),kn_le hg m0 n0 m1 n1⟩
end Go.Zz
namespace Go.Zz
open Go.RowKit Go.Proofs
set_option maxHeartbeats 1000000
set_option maxRecDepth 4000
theorem minus_any(v:Value)(l:List Int)(x y:Nat)(w:World)(h:Ints w v l)(Hgr:Hid (isGrp l=true))(hx:x<16777216)(hy:y<24) :
 Calls Tryz.prog 210 #[.agg #[v],.int .i64 x,.int .i64 y] w fun e w'=>e=.returned (.int .i64 (addF l x (negF l y):Nat))∧Ext w w':=by
 obtain⟨wb,hwb⟩:∃wb,wb=w.alloc (.cells #[v] 27):=⟨_,rfl⟩
 have hE0:=(Ext.refl w).alloc (.cells #[v] 27)
 have hb:=box_cell w v 27
 rw[←hwb] at hE0 hb
 have hg:∀W,Ext wb W→Ints W v l:=fun W hW=>h.ext (hE0.trans hW)
 have hE:=Ext.refl wb
 have Hsz:Hid (w.heap.size+1=wb.heap.size):=Lib.hid (by rw[hwb];simp[go_sem])
 have Hwb:=Lib.hid hwb
 clear hwb h
 have hbx:=fun U=>hb _ (lat_ext wb U)
 have hng:negF l y<16777216:=by have:=negF_lt l (isGrp_ords Hgr.out) y;have:=(ord_bd Hgr.out).2;omega
 go_enter Tryz.func210,Tryz.ntmps210
 go_wp2_with fail
 rw[←Hwb.out]
 (refine wp_region_lat (wb) (by kernel_rfl) (by kernel_rfl) hE ?_);(repeat (go_big_quiet_step (first | (go_at_call 197;exact Calls.lat (negate_any _ _ _ _ (hg _ (lat_ext wb _)) (Hgr) ((by omega)))) | (go_at_call 194;exact Calls.lat (add_any _ _ _ _ _ (hg _ (lat_ext wb _)) (Hgr) (hx) (hng))))));(refine wpQuiet_nil ?_);(intro W hE');(replace hE:=lat_of hE');(clear hE')
 go_wp2_with fail
 go_ret
 exact⟨rfl,hE0.trans hE⟩
theorem sSearch_any(v:Value)(l:List Int)(a:Nat)(Hgr:Hid (isGrp l=true))(ha0:a≠0)(ha:a<2 ^ ord l):∀(f u b m:Nat) (w:World),Ints w v l→ord l<cnt u+f→u<2 ^ ord l→b<2 ^ 24→1≤m→m≤1000 →
 Calls Tryz.prog 177 #[.agg #[v],.int .i64 a,.int .i64 (fullN l:Nat),.int .i64 u,.int .i64 b,.int .i64 m] w fun e w'=>∃v',e=.returned v'∧Own 3 w w' v' (castL (tlS l a f u b m))∧Ext w w':=by
 intro f
 induction f with
 | zero=>intro u b m w h hf hu;have:=cnt_ord Hgr.out hu;omega
 | succ f ih =>
  intro u b m w h hf hu hb24 hm1 hm2
  have hob:=ord_bd Hgr.out
  have hp24:=pow_ord Hgr.out
  have ha24:a<2 ^ 24:=Nat.lt_of_lt_of_le ha hp24
  have hu24:u<2 ^ 24:=Nat.lt_of_lt_of_le hu hp24
  obtain⟨wb,hwb⟩:∃wb,wb=w.alloc (.cells #[v] 27):=⟨_,rfl⟩
  have hE0:=(Ext.refl w).alloc (.cells #[v] 27)
  have hb:=box_cell w v 27
  rw[←hwb] at hE0 hb
  have hg:∀W,Ext wb W→Ints W v l:=fun W hW=>h.ext (hE0.trans hW)
  have hE:=Ext.refl wb
  have Hsz:Hid (w.heap.size+1=wb.heap.size):=Lib.hid (by rw[hwb];simp[go_sem])
  have Hwb:=Lib.hid hwb
  clear hwb h
  have Hih:=Lib.hid ih
  clear ih
  by_cases hfull:u=fullN l
  · have He:=Lib.hid (tlS_full (l:=l) (a:=a) (f:=f) (b:=b) (m:=m) hfull)
    have hq:((u:Int) == (fullN l:Int))=true:=by rw[hfull];simp
    clear hfull
    have hOl:Own 3 w (wb.alloc (.cells #[.int .i64 b] 3)) (.slice (some ⟨wb.heap.size,0,none⟩) 1 1) (castL [b]):=own_made (TI:=3) (n:=1) (by omega) hE0 (castL [b]) rfl
    rw[←Hsz.out,Hwb.out] at hOl
    have hEl:=hE0.alloc (.cells #[.int .i64 (b:Int)] 3)
    rw[Hwb.out] at hEl
    go_enter Tryz.func177,Tryz.ntmps177
    go_wp2_with fail
    go_ret
    exact⟨_,rfl,by rw[He.out];exact hOl,hEl⟩
  · have hq:((u:Int) == (fullN l:Int))=false:=by rw[beq_eq_false_iff_ne];omega
    have Hnf:=Lib.hid hfull
    clear hfull
    obtain⟨wc,hwc⟩:∃wc,wc=wb.alloc (.cells #[] 3):=⟨_,rfl⟩
    have hBk:Blk wc wb.heap.size 3 #[]:=by rw[hwc];exact Blk.new _ _ _
    have hEbc:Ext wb wc:=by rw[hwc];exact hE.alloc _
    have Hwc:=Lib.hid hwc
    clear hwc
    go_enter Tryz.func177,Tryz.ntmps177
    go_wp2_with fail
    rw[←Hwb.out]
    go_loop [13] (fun xv=>∃e:Nat,e≤ord l∧xv=.int .i64 e∧∀j,j<e→u.testBit j=true) (fun x=>ord l - (intOf x).toNat)
    case atStart=>exact⟨0,by omega,rfl,by omega⟩
    case round =>
     obtain⟨e,he,rfl,hall⟩:=hrel
     have hsh:=ishr_nat (a:=u) (n:=e) (by omega)
     have hbt:=bit_test' (a:=u) (n:=e) (by omega) (by omega)
     cases hbe:u.testBit e
     · rw[hbe] at hbt
       have helt:e<ord l:=Classical.byContradiction fun hn=>Hnf.out (not_full hu hall (by omega))
       have hlow:Hid (lowZ u=e):=Lib.hid (lowZ_is hall hbe (by omega))
       clear hall hbe
       go_wp2_with fail
       rw[←Hwc.out]
       clear hsh hbt
       refine (l3List_any a ha24 _).mono ?_
       rintro e1 w1 ⟨v1,rfl,hL,hE1⟩
       obtain⟨aoL,cL,adrL,rfl,hadrL,hcellL⟩:=hL.ints.nats
       have hixL:=ints_index (c:=cL) elI szI hadrL
       have hE01:Ext wb w1:=hEbc.trans hE1
       have hb1:∀W,Ext w1 W→W.cell? ⟨w.heap.size,0,none⟩=some v:=fun W hW=>hb W (hE01.trans hW)
       have hg1:∀W,Ext w1 W→Ints W v l:=fun W hW=>hg W (hE01.trans hW)
       have hOE:OwnE 3 wb w1 w1 (.slice (some ⟨wb.heap.size,0,none⟩) 0 0) []:=OwnE.start w1 hBk hE1
       clear hadrL hb hg hL
       have hL24:∀y∈elems a,y<24:=fun y hy=>elems_lt hy
       have hlen:=elems_len a
       obtain⟨L,hLdef⟩:∃L,L=elems a:=⟨_,rfl⟩
       rw[←hLdef] at hcellL hixL hL24 hlen ⊢
       have HL:=Lib.hid hLdef
       clear hLdef
       go_wp2_with fail
       go_loopw [14,16] (fun ov i wr=>∃k:Nat,k≤L.length∧i=.int .i64 k∧OwnE 3 wb w1 wr ov (castL (tlSto l a f u b m k))∧Ext w1 wr) (fun _ i _=>L.length - (intOf i).toNat)
       case atStart=>exact⟨0,by omega,rfl,hOE,Ext.refl _⟩
       case round =>
        clear hOE hE
        obtain⟨k,hk,rfl,hO,hEr⟩:=hrel
        obtain⟨ab,cb,rfl,-⟩:=(hO.own hE01).shape
        obtain⟨O,hOd⟩:∃O,O=tlSto l a f u b m k:=⟨_,rfl⟩
        rw[←hOd] at hO ⊢
        rw[castL_len O] at hO ⊢
        by_cases hlt:k<L.length∧O.length<m
        · obtain⟨hlt,hlm⟩:=hlt
          have hka:k<(elems a).length:=by rw[←HL.out];exact hlt
          have hX24:=hL24 _ (nthN_mem hlt)
          have Hel:Hid ((elems a)[k]=nthN L k):=Lib.hid (by rw[HL.out];simp[nthN,List.getD,hka])
          obtain⟨X,hX⟩:∃X,X=nthN L k:=⟨_,rfl⟩
          have hck:=fun U=>hcellL k _ hlt (hEr.trans (lat_ext wr U))
          rw[←hX] at hck hX24 Hel
          have hbx:=fun U=>hb1 _ (hEr.trans (lat_ext wr U))
          have hng:negF l X<16777216:=by have:=negF_lt l (isGrp_ords Hgr.out) X;omega
          have hD24:addF l e (negF l X)<24:=Nat.lt_of_lt_of_le (addF_lt l (isGrp_ords Hgr.out) _ _) hob.2
          have HD:Hid (dF l u X=addF l e (negF l X)):=Lib.hid (by unfold dF;rw[hlow.out])
          obtain⟨D,hD⟩:∃D,D=addF l e (negF l X):=⟨_,rfl⟩
          have hcA:=fun W (hW:Ext wr W)=>l2Add_any v l e (negF l X) W (hg1 _ (hEr.trans hW)) Hgr (by omega) hng
          rw[←hD] at hcA hD24 HD
          have hS24:=shiftF_bd Hgr.out a D
          obtain⟨S,hS⟩:∃S,S=shiftF l a D:=⟨_,rfl⟩
          have hcS:=fun W (hW:Ext wr W)=>l3Shift_any v l a D W (hg1 _ (hEr.trans hW)) Hgr ha24 hD24
          rw[←hS] at hcS hS24
          have hand:iand (S:Int) (u:Int)=((S &&& u:Nat):Int):=iand_nat (by omega) (by omega)
          have hmO:(O.length:Int)<(m:Int):=by omega
          have hE:=Ext.refl wr
          clear hX hD
          cases hz:(((S &&& u:Nat):Int) == 0)
          · have Hn:Hid (tlSto l a f u b m (k+1)=O):=Lib.hid (by
             rw[tlSto_no hka,hOd]
             rw[Hel.out,HD.out,←hS]
             rw[beq_eq_false_iff_ne] at hz;omega)
            clear hOd hS
            go_wp2_with fail
            (refine wp_region_lat (wr) (by kernel_rfl) (by kernel_rfl) hE ?_);(repeat (go_big_quiet_step (first | (go_at_call 211;exact Calls.lat (l2Negate_any _ _ _ _ ((hg1 _ (hEr.trans (lat_ext wr _)))) (Hgr) ((by omega)))) | (go_at_call 141;exact Calls.lat (hcA _ (lat_ext wr _))))));(refine wpQuiet_nil ?_);(intro W hE');(replace hE:=lat_of hE');(clear hE')
            have hE11:=hEr.trans hE
            go_wp2_with (go_at_call 143;refine (hcS _ hE).mono ?_;rintro e' w' ⟨rfl,hE'⟩;replace hE:=hE.trans hE';clear hE')
            go_roundw
            case rel=>exact⟨k+1,by omega,by go_num,by rw[Hn.out];exact hO.ext hE,hEr.trans hE⟩
            case measure=>(simp[intOf];omega)
          · have hz':S &&& u=0:=by rw[beq_iff_eq] at hz;omega
            have hmore:=tl_more Hgr.out ha0 ha hu D (by rw[←hS];exact hz')
            rw[←hS] at hmore
            have Hn:Hid (tlSto l a f u b m (k+1)=O++tlS l a f (u ||| S) (b ||| 2 ^ D) (m - O.length)):=Lib.hid (by
             have:=tlSto_yes (l:=l) (a:=a) (f:=f) (u:=u) (b:=b) (m:=m) hka (by rw[←hOd];exact hlm) (by rw[Hel.out,HD.out,←hS];exact hz')
             rw[this,←hOd,Hel.out,HD.out,←hS])
            have hbd:b ||| 2 ^ D<2 ^ 24:=Nat.or_lt_two_pow hb24 (Nat.pow_lt_pow_right (by omega) hD24)
            have hcR:=fun W (hI:Ints W v l)=>Hih.out (u ||| S) (b ||| 2 ^ D) (m - O.length) W hI (by omega) hmore.1 hbd (by omega) (by omega)
            have hTl:=tlS_len l a f (u ||| S) (b ||| 2 ^ D) (m - O.length) (by omega)
            obtain⟨Y,hY⟩:∃Y,Y=tlS l a f (u ||| S) (b ||| 2 ^ D) (m - O.length):=⟨_,rfl⟩
            rw[←hY] at hcR hTl Hn
            have hs0:ior (u:Int) (S:Int)=((u ||| S:Nat):Int):=ior_nat (by omega) (by omega)
            have hs1:=ishl_one (n:=D) (by omega)
            have hs2:=ior_pw hb24 hD24
            have hsm:((m - O.length:Nat):Int)=(m:Int) - (O.length:Int):=by omega
            rw[hsm] at hcR
            have hwr:IntKind.i64.wrap ((m:Int) - (O.length:Int))=(m:Int) - (O.length:Int):=by apply IntWalk.i64_in;omega
            have hln:(castL O).length+(castL Y).length≤17592186044416:=by rw[castL_len,castL_len];omega
            have Hcat:Hid (castL (O++Y)=castL O++castL Y):=Lib.hid (by simp[castL])
            clear hOd hS hY hmore hbd hTl hsm hz'
            go_wp2_with fail
            (refine wp_region_lat (wr) (by kernel_rfl) (by kernel_rfl) hE ?_);(repeat (go_big_quiet_step (first | (go_at_call 211;exact Calls.lat (l2Negate_any _ _ _ _ ((hg1 _ (hEr.trans (lat_ext wr _)))) (Hgr) ((by omega)))) | (go_at_call 141;exact Calls.lat (hcA _ (lat_ext wr _))))));(refine wpQuiet_nil ?_);(intro W hE');(replace hE:=lat_of hE');(clear hE')
            have hE11:=hEr.trans hE
            go_wp2_with (go_at_call 143;refine (hcS _ hE).mono ?_;rintro e' w2 ⟨rfl,hE'⟩;replace hE:=hE.trans hE';clear hE')
            have hE12:=hEr.trans hE
            have hD0:=(Ext.refl w2).drew
            first | (go_region_held3 (fun W=>Ext w1 W∧W.cell? ⟨w.heap.size,0,none⟩=some v) (exact⟨(by repeat (first | assumption | exact Ext.refl _ | (apply And.left;assumption) | apply Ext.drew | apply Ext.alloc)),hb1 _ (by repeat (first | assumption | exact Ext.refl _ | (apply And.left;assumption) | apply Ext.drew | apply Ext.alloc))⟩) (first | (go_at_call 177;((with_reducible refine Calls.mono (hcR _ (hg1 _ (by repeat (first | assumption | exact Ext.refl _ | (apply And.left;assumption) | apply Ext.drew | apply Ext.alloc)))) ?_);rintro eH wH0 ⟨vH,rfl,hOn,hX0⟩;have hH0:=Ext.trans (a:=w1) (by repeat (first | assumption | exact Ext.refl _ | (apply And.left;assumption) | apply Ext.drew | apply Ext.alloc)) hX0;have hR0:=Ext.trans (a:=wr) (by repeat (first | assumption | exact Ext.refl _ | (apply And.left;assumption) | apply Ext.drew | apply Ext.alloc)) hX0)) | (refine step_appendsE slI rfl _ _ rfl wb w1 _ _ _ _ (hO.ext (by repeat (first | assumption | exact Ext.refl _ | (apply And.left;assumption) | apply Ext.drew | apply Ext.alloc))) hOn.ints hH0 hln rfl rfl ?_;intro vA wA hOA hXA hTA))) | (fail "the region")
            go_wp2_with fail
            go_roundw
            case rel=>exact⟨k+1,by omega,by go_num,by rw[Hn.out,Hcat.out];exact hOA,hXA⟩
            case measure=>(simp[intOf];omega)
        · have Hn:Hid (tlS l a (f+1) u b m=O):=Lib.hid (by
           rw[hOd]
           exact tlS_stop Hnf.out (by rw[←HL.out];exact hk) (by rw[←HL.out,←hOd];omega))
          have hE3:=hE0.trans (hE01.trans hEr)
          have hO':=(hO.own hE01).mono hE0
          clear hOd hO
          by_cases h1:k<L.length
          all_goals
           have h2:k<L.length→¬(O.length:Int)<(m:Int):=by omega
           try replace h2:=h2 h1
           clear hlt
           go_wp2_with fail
           go_ret
           exact⟨_,rfl,by rw[Hn.out];exact hO',hE3⟩
     · rw[hbe] at hbt
       have helt:=bit_lt hu hbe
       go_wp2_with fail
       go_round
       case rel=>exact⟨e+1,by omega,by go_num,fun j hj=>by by_cases hje:j=e;(subst hje;exact hbe);exact hall j (by omega)⟩
       case measure=>(simp[intOf];omega)
end Go.Zz
namespace Go.Zz
open Go.RowKit Go.Proofs
set_option maxHeartbeats 2000000
set_option maxRecDepth 4000
theorem tl_any(v:Value)(l:List Int)(a m:Nat)(Hgr:Hid (isGrp l=true))(ha0:a≠0)(ha:a<2 ^ ord l)(hm:m≤1000)(W0:World)(bG bO bA bM bT:Nat)(hbt:bO≠bT)(hbO:W0.heap.size≤bO)(fn:Value)
 (HG:∀W,Ext W0 W→W.cell? ⟨bG,0,none⟩=some v) (HA:∀W,Ext W0 W→W.cell? ⟨bA,0,none⟩=some (.int .i64 a)) (HM:∀W,Ext W0 W→W.cell? ⟨bM,0,none⟩=some (.int .i64 m)) (HI:Hid (∀W,Ext W0 W→Ints W v l))
 (hfn:fn=.func (.func 209) #[] #[.pointer (some ⟨bG,0,none⟩),.pointer (some ⟨bO,0,none⟩),.pointer (some ⟨bA,0,none⟩),.pointer (some ⟨bM,0,none⟩),.pointer (some ⟨bT,0,none⟩)]) :
 ∀(f u b:Nat) (w:World) (vo:Value) (out:List Nat),ord l<cnt u+f→u<2 ^ ord l→b<2 ^ 24→out.length<m→Ext W0 w→Blk w bO 22 #[vo]→Own 3 W0 w vo (castL out)→Blk w bT 144 #[fn] →
 Calls Tryz.prog 209 #[.int .i64 b,.int .i64 u,.pointer (some ⟨bG,0,none⟩),.pointer (some ⟨bO,0,none⟩),.pointer (some ⟨bA,0,none⟩),.pointer (some ⟨bM,0,none⟩),.pointer (some ⟨bT,0,none⟩)] w fun e w' =>
  e=.returned (.tuple #[])∧∃vo',Blk w' bO 22 #[vo']∧Own 3 W0 w' vo' (castL (tlI l a m f u b out))∧Fr bO vo.ownBlock w w'∧Nw vo.ownBlock w vo'.ownBlock:=by
 intro f
 induction f with
 | zero=>intro u b w vo out hf hu;have:=cnt_ord Hgr.out hu;omega
 | succ f ih =>
  intro u b w vo out hf hu hb24 hom hE0 hBO hO hBT
  rw[hfn] at hBT
  have hob:=ord_bd Hgr.out
  have hp24:=pow_ord Hgr.out
  have ha24:a<2 ^ 24:=Nat.lt_of_lt_of_le ha hp24
  have hu24:u<2 ^ 24:=Nat.lt_of_lt_of_le hu hp24
  have hTO:=own_not hO hBT (by decide)
  have hOO:=own_not hO hBO (by decide)
  obtain⟨ao,co,rfl,-⟩:=hO.shape
  rw[castL_len] at hO hBO hTO hOO ⊢
  rw[hfn] at ih
  have Hih:=Lib.hid ih
  clear ih
  by_cases hfull:u=fullN l
  · have He:=Lib.hid (tlI_full (l:=l) (a:=a) (m:=m) (f:=f) (b:=b) (out:=out) hfull)
    have hq:((u:Int) == (fullN l:Int))=true:=by rw[hfull];simp
    have Hc:Hid (castL (out++[b])=castL out++[(b:Int)]):=Lib.hid (by simp[castL])
    clear hfull
    have hlen:(castL out).length<17592186044416:=by rw[castL_len];omega
    have kO:∀W,Ext w W→W.cell? ⟨bO,0,none⟩=some (.slice ao out.length co):=fun W hW=>(hBO.ext hW).cell (i:=0) rfl
    go_enter Tryz.func209,Tryz.ntmps209
    go_wp2_with (first
     | (go_at_call 169;refine (FullSet_grp _ _ _ (HI.out _ hE0) Hgr).mono ?_;rintro e w1 ⟨rfl,hE1⟩)
     | (at_builtin;refine wp_append1F slI rfl _ _ rfl W0 _ _ _ _ (hO.ext hE1) (hE0.trans hE1) hlen rfl rfl ?_;intro v2 w2 hO2 hG2 hN2;have hB2:=hBO.ext hE1;replace hB2:=hB2.grown hG2 (fun k hk e=>hOO (by rw[hk,e]));have hc2:=hB2.cell (i:=0) (v:=.slice ao out.length co) rfl;have hf2:=hB2.free 0;obtain⟨a2,c2,rfl,-⟩:=hO2.shape;obtain⟨n2,hn2⟩:∃n,n=(castL out++[(b:Int)]).length:=⟨_,rfl⟩;rw[←hn2] at hO2 hN2 ⊢;replace hn2:=Lib.hid hn2))
    have hF2:=((hE1.fr bO (Value.slice ao out.length co).ownBlock).trans (Nw.refl _ _) (fr_grown hG2)).trans (Nw.refl _ _) (fr_set bO _ w2 0 (.slice a2 n2 c2))
    have hB3:Blk (w2.setCell ⟨bO,0,none⟩ (.slice a2 n2 c2)) bO 22 #[.slice a2 n2 c2]:=hB2.set 0 (.slice a2 n2 c2)
    have hO3:=(fr_set bO none w2 0 (.slice a2 n2 c2)).own hO2 (own_not hO2 hB2 (by decide)) (by cases hq:(Value.slice a2 n2 c2).ownBlock with
     | none=>exact Or.inl rfl
     | some k=>exact Or.inr (by simp))
    exact bodyPost_ret (v:=.tuple #[]) (by simp[results,Tryz.results209,go_sem]) rfl ⟨rfl,_,hB3,by rw[He.out,Hc.out];exact hO3,hF2,(Nw.refl _ _).trans hE1.size hN2⟩
  · have hq:((u:Int) == (fullN l:Int))=false:=by rw[beq_eq_false_iff_ne];omega
    have Hnf:=Lib.hid hfull
    clear hfull
    go_enter Tryz.func209,Tryz.ntmps209
    go_wp2_with (go_at_call 169;refine (FullSet_grp _ _ _ (HI.out _ hE0) Hgr).mono ?_;rintro e w1 ⟨rfl,hE1⟩)
    have hE01:=hE0.trans hE1
    go_loop [9] (fun xv=>∃e:Nat,e≤ord l∧xv=.int .i64 e∧∀j,j<e→u.testBit j=true) (fun x=>ord l - (intOf x).toNat)
    case atStart=>exact⟨0,by omega,rfl,by omega⟩
    case round =>
     obtain⟨e,he,rfl,hall⟩:=hrel
     cases hbe:u.testBit e
     · have helt:e<ord l:=Classical.byContradiction fun hn=>Hnf.out (not_full hu hall (by omega))
       have hlow:Hid (lowZ u=e):=Lib.hid (lowZ_is hall hbe (by omega))
       have hcN:=in_val u e hu24 (by omega) w1 hbe
       clear hall hbe
       go_wp2_with (first | (go_at_call 163;refine hcN.mono ?_;rintro e' w' ⟨rfl,hw'⟩;subst hw') | (go_at_call 153;refine (members_any a ha24 _).mono ?_;rintro e2 w2 ⟨v2,rfl,hL,hE2⟩;obtain⟨aoL,cL,adrL,rfl,hadrL,hcellL⟩:=hL.ints.nats))
       have hixL:=ints_index (c:=cL) elI szI hadrL
       have hE12:=hE1.trans hE2
       have hE02:=hE01.trans hE2
       have hB2:=hBO.ext hE12
       have hO2:=hO.ext hE12
       have hT2:=hBT.ext hE12
       have hnL1:=own_nb hL (Nat.lt_of_lt_of_le hBO.lt hE1.size)
       have hnL2:(Value.slice aoL (elems a).length cL).ownBlock=none∨(Value.slice aoL (elems a).length cL).ownBlock≠(Value.slice ao out.length co).ownBlock:=by
        cases hq:(Value.slice aoL (elems a).length cL).ownBlock with
        | none=>exact Or.inl rfl
        | some j=>exact Or.inr fun e=>by have h1:=(hL.blk j hq).1;have h2:=(hO.blk j e.symm).2;have:=hE1.size;omega
       have hL24:∀y∈elems a,y<24:=fun y hy=>elems_lt hy
       have hlenL:=elems_len a
       have hoB:∀j,(Value.slice ao out.length co).ownBlock=some j→W0.heap.size≤j:=fun j hj=>(hO.blk j hj).1
       clear hO hBO hBT hcellL
       obtain⟨oB,hoBd⟩:∃oB,oB=(Value.slice ao out.length co).ownBlock:=⟨_,rfl⟩
       have HL:=Lib.hid hL
       have HnL2:=Lib.hid hnL2
       have HN12:=Lib.hid hE12
       have HadrL:=Lib.hid hadrL
       clear hL hnL2 hadrL
       go_loopw [30] (fun i wr=>∃(k:Nat) (vo':Value),k≤(elems a).length∧i=.int .i64 k∧Blk wr bO 22 #[vo']∧Own 3 W0 wr vo' (castL (tlIto l a m f u b out k))∧Fr bO (Value.slice ao out.length co).ownBlock w2 wr∧Nw (Value.slice ao out.length co).ownBlock w2 vo'.ownBlock) (fun i _=>(elems a).length - (intOf i).toNat)
       case atStart=>exact⟨0,_,by omega,rfl,hB2,hO2,Fr.refl _ _ _,Nw.refl _ _⟩
       case round =>
        clear hB2 hO2
        obtain⟨k,vo',hk,rfl,hBr,hOr,hFr,hNr⟩:=hrel
        have hE0r:=hFr.ext hE02 hbO hoB
        have hTr:=hFr.blk hT2 (Ne.symm hbt) hTO
        have HLr:=Lib.hid (hFr.own HL.out hnL1 HnL2.out)
        have HFr:=Lib.hid hFr
        have HNr:=Lib.hid hNr
        clear hFr hNr
        obtain⟨ab,cb,rfl,-⟩:=hOr.shape
        obtain⟨O,hOd⟩:∃O,O=tlIto l a m f u b out k:=⟨_,rfl⟩
        rw[←hOd] at hOr hBr HNr
        rw[castL_len] at hOr hBr HNr
        by_cases hlt:k<(elems a).length
        · have hX24:=hL24 _ (nthN_mem hlt)
          have Hel:Hid ((elems a)[k]=nthN (elems a) k):=Lib.hid (by simp[nthN,List.getD,hlt])
          have hck:wr.cell? (adrL k)=some (.int .i64 (nthN (elems a) k:Int)):=by
           obtain⟨ao2,c2,hv,-,-,hc⟩:=HLr.out.ints
           rw[castL_len] at hc hv
           simp only[Value.slice.injEq] at hv
           obtain⟨a2,ha2,hc2⟩:=hc k hlt
           obtain⟨h1,h2⟩:=HadrL.out k hlt
           rw[nth_castL] at hc2
           rw[←hv.1,h1] at ha2
           simp only[Option.some.injEq] at ha2
           rw[h2,ha2];exact hc2
          obtain⟨X,hX⟩:∃X,X=nthN (elems a) k:=⟨_,rfl⟩
          rw[←hX] at hck hX24 Hel
          have hng:negF l X<16777216:=by have:=negF_lt l (isGrp_ords Hgr.out) X;omega
          have hD24:addF l e (negF l X)<24:=Nat.lt_of_lt_of_le (addF_lt l (isGrp_ords Hgr.out) _ _) hob.2
          have HD:Hid (dF l u X=addF l e (negF l X)):=Lib.hid (by unfold dF;rw[hlow.out])
          obtain⟨D,hD⟩:∃D,D=addF l e (negF l X):=⟨_,rfl⟩
          have hcA:=fun W (hW:Ext wr W)=>minus_any v l e X W (HI.out _ (hE0r.trans hW)) Hgr (by omega) hX24
          rw[←hD] at hcA hD24 HD
          have hS24:=shiftF_bd Hgr.out a D
          obtain⟨S,hS⟩:∃S,S=shiftF l a D:=⟨_,rfl⟩
          have hcS:=fun W (hW:Ext wr W)=>shift_any v l a D W (HI.out _ (hE0r.trans hW)) Hgr ha24 hD24
          rw[←hS] at hcS hS24
          have hand:iand (S:Int) (u:Int)=((S &&& u:Nat):Int):=iand_nat (by omega) (by omega)
          clear hX hD HLr
          cases hz:(((S &&& u:Nat):Int) == 0)
          · have Hn:Hid (tlIto l a m f u b out (k+1)=O):=Lib.hid (by
             rw[tlIto_no hlt,hOd]
             rw[Hel.out,HD.out,←hS]
             rw[beq_eq_false_iff_ne] at hz;omega)
            clear hOd hS
            go_wp2_with (first | (go_at_call 210;refine (hcA _ (Ext.refl _)).mono ?_;rintro e3 w3 ⟨rfl,hE3⟩;have hE03:=hE0r.trans hE3) | (go_at_call 166;refine (hcS _ hE3).mono ?_;rintro e4 w4 ⟨rfl,hE4⟩;have hE04:=hE03.trans hE4;have hE34:=hE3.trans hE4))
            go_roundw
            case rel=>exact⟨k+1,_,by omega,by go_num,hBr.ext hE34,by rw[Hn.out];exact hOr.ext hE34,HFr.out.trans HNr.out (hE34.fr _ _),HNr.out⟩
            case measure=>(simp[intOf];omega)
          · have hz':S &&& u=0:=by rw[beq_iff_eq] at hz;omega
            have kO:∀W,Ext wr W→W.cell? ⟨bO,0,none⟩=some (.slice ab O.length cb):=fun W hW=>(hBr.ext hW).cell (i:=0) rfl
            by_cases hlm:(O.length:Int)<(m:Int)
            · have hmore:=tl_more Hgr.out ha0 ha hu D (by rw[←hS];exact hz')
              rw[←hS] at hmore
              have Hn:Hid (tlIto l a m f u b out (k+1)=tlI l a m f (u ||| S) (b ||| 2 ^ D) O):=Lib.hid (by
               have:=tlIto_yes (l:=l) (a:=a) (m:=m) (f:=f) (u:=u) (b:=b) (out:=out) hlt (by rw[Hel.out,HD.out,←hS];exact hz') (by rw[←hOd];omega)
               rw[this,←hOd,Hel.out,HD.out,←hS])
              have hbd:b ||| 2 ^ D<2 ^ 24:=Nat.or_lt_two_pow hb24 (Nat.pow_lt_pow_right (by omega) hD24)
              have hcR:=fun W (hE:Ext wr W)=>Hih.out (u ||| S) (b ||| 2 ^ D) W (.slice ab O.length cb) O (by omega) hmore.1 hbd (by omega) (hE0r.trans hE) (hBr.ext hE) (hOr.ext hE) (hTr.ext hE)
              have hs0:ior (u:Int) (S:Int)=((u ||| S:Nat):Int):=ior_nat (by omega) (by omega)
              have hs1:=ishl_one (n:=D) (by omega)
              have hs2:=ior_pw hb24 hD24
              have kt:∀W,Ext wr W→W.cell? ⟨bT,0,none⟩=some (.func (.func 209) #[] #[.pointer (some ⟨bG,0,none⟩),.pointer (some ⟨bO,0,none⟩),.pointer (some ⟨bA,0,none⟩),.pointer (some ⟨bM,0,none⟩),.pointer (some ⟨bT,0,none⟩)]):=fun W hW=>(hTr.ext hW).cell (i:=0) rfl
              clear hOd hS hmore hbd hz'
              go_wp2_with (first | (go_at_call 210;refine (hcA _ (Ext.refl _)).mono ?_;rintro e3 w3 ⟨rfl,hE3⟩;have hE03:=hE0r.trans hE3) | (go_at_call 166;refine (hcS _ hE3).mono ?_;rintro e4 w4 ⟨rfl,hE4⟩;have hE04:=hE03.trans hE4;have hE34:=hE3.trans hE4))
              have hD0:=(Ext.refl w4).drew
              first | (go_region_held3 (fun W=>W.cell? ⟨bT,0,none⟩=some (.func (.func 209) #[] #[.pointer (some ⟨bG,0,none⟩),.pointer (some ⟨bO,0,none⟩),.pointer (some ⟨bA,0,none⟩),.pointer (some ⟨bM,0,none⟩),.pointer (some ⟨bT,0,none⟩)])) (first | exact hT5.cell (i:=0) rfl | exact kt _ (by repeat (first | assumption | exact Ext.refl _ | (apply And.left;assumption) | apply Ext.drew | apply Ext.alloc))) (first | (go_at_call 209;((with_reducible refine Calls.mono (hcR _ (by repeat (first | assumption | exact Ext.refl _ | (apply And.left;assumption) | apply Ext.drew | apply Ext.alloc))) ?_);rintro eH w5 ⟨rfl,vo5,hB5,hO5,hF5,hN5⟩;have hT5:=hF5.blk (hTr.ext (by repeat (first | assumption | exact Ext.refl _ | (apply And.left;assumption) | apply Ext.drew | apply Ext.alloc))) (Ne.symm hbt) (own_not (hOr.ext (by repeat (first | assumption | exact Ext.refl _ | (apply And.left;assumption) | apply Ext.drew | apply Ext.alloc))) (hTr.ext (by repeat (first | assumption | exact Ext.refl _ | (apply And.left;assumption) | apply Ext.drew | apply Ext.alloc))) (by decide)))))) | (fail "the region")
              go_wp2_with fail
              go_roundw
              case rel=>exact⟨k+1,vo5,by omega,by go_num,hB5,by rw[Hn.out];exact hO5,HFr.out.trans HNr.out ((hE34.drew.fr _ _).trans (Nw.refl _ _) hF5),HNr.out.trans (Nat.le_trans HFr.out.size hE34.drew.size) hN5⟩
              case measure=>(simp[intOf];omega)
            · have Hn:Hid (tlIto l a m f u b out (k+1)=O):=Lib.hid (by
               rw[tlIto_no hlt,hOd]
               rw[←hOd];omega)
              clear hOd hS hz'
              go_wp2_with (first | (go_at_call 210;refine (hcA _ (Ext.refl _)).mono ?_;rintro e3 w3 ⟨rfl,hE3⟩;have hE03:=hE0r.trans hE3) | (go_at_call 166;refine (hcS _ hE3).mono ?_;rintro e4 w4 ⟨rfl,hE4⟩;have hE04:=hE03.trans hE4;have hE34:=hE3.trans hE4))
              go_roundw
              case rel=>exact⟨k+1,_,by omega,by go_num,hBr.ext hE34,by rw[Hn.out];exact hOr.ext hE34,HFr.out.trans HNr.out (hE34.fr _ _),HNr.out⟩
              case measure=>(simp[intOf];omega)
        · have Hn:Hid (tlI l a m (f+1) u b out=O):=Lib.hid (by rw[hOd,tlI_end Hnf.out,show k=(elems a).length by omega])
          clear hOd
          go_wp2_with fail
          go_end0
          exact⟨rfl,_,hBr,by rw[Hn.out];exact hOr,(HN12.out.fr _ _).trans (Nw.refl _ _) HFr.out,(Nw.refl _ _).trans HN12.out.size HNr.out⟩
     · have helt:=bit_lt hu hbe
       have hcN:=in_val u e hu24 (by omega) w1 hbe
       go_wp2_with (refine hcN.mono ?_;rintro e' w' ⟨rfl,hw'⟩;subst hw')
       go_round
       case rel=>exact⟨e+1,by omega,by go_num,fun j hj=>by by_cases hje:j=e;(subst hje;exact hbe);exact hall j (by omega)⟩
       case measure=>(simp[intOf];omega)
end Go.Zz
