/- Direct sums; fewest and most translates. -/
import Derived.Test.YtdlbbpeahicakaaGreatGr14
import Derived.Deep.RegionHeld3
import Derived.Deep.RegionWith
import Derived.Test.YtdlbbpeahicakaaGreatGr13
import Derived.Test.YtdlbbpeahicakaaGreatGr4
import Derived.Test.YtdlbbpeahicakaaGreatGr6
namespace Go.Zz
open Go.RowKit Go.Proofs
set_option maxHeartbeats 400000
end Go.Zz
namespace Go.Zz
open Go.RowKit Go.Proofs
set_option maxHeartbeats 400000
end Go.Zz
namespace Go.Zz
open Go.RowKit Go.Proofs
set_option linter.unusedVariables false
theorem filt_or(p q:Nat→Bool):∀L:List Nat,(L.filter (fun x=>p x || q x)).length+(L.filter (fun x=>p x&&q x)).length=(L.filter p).length+(L.filter q).length
 | []=>rfl
 | x :: L=>by
  have ih:=filt_or p q L
  simp only[List.filter_cons]
  cases p x<;>cases q x<;>simp<;>omega
theorem cnt_or_and(a b:Nat):cnt (a ||| b)+cnt (a &&& b)=cnt a+cnt b:=by
 have h:=filt_or (fun i=>a.testBit i) (fun i=>b.testBit i) (List.range 24)
 unfold cnt elems
 have e1:(fun i=>(a ||| b).testBit i)=(fun i=>a.testBit i || b.testBit i):=by funext i;exact Nat.testBit_or _ _ _
 have e2:(fun i=>(a &&& b).testBit i)=(fun i=>a.testBit i&&b.testBit i):=by funext i;exact Nat.testBit_and _ _ _
 rw[e1,e2];exact h
theorem cnt_full{l:List Int}(hg:isGrp l=true):cnt (fullN l)=ord l:=by
 have hb:=ord_bd hg
 have e:elems (fullN l)=elemsTo (fullN l) (ord l):=(elemsTo_all hb.2 (fullN_lt l)).symm
 unfold cnt;rw[e];unfold elemsTo
 rw[List.filter_eq_self.2 fun i hi=>by rw[fullN_bit];simpa using hi];simp
theorem sum_or_one{l:List Int}{a b z:Nat}(hz:z<24):sumF l a (b ||| 2 ^ z)=sumF l a b ||| shiftF l a z:=by
 refine Nat.eq_of_testBit_eq fun i=>bool_eq_of ?_
 rw[Nat.testBit_or,Bool.or_eq_true,testBit_sumF,testBit_sumF,testBit_shiftF]
 constructor
 · rintro⟨u,v,hu,hu2,hv,hv2,e⟩
   rw[Nat.testBit_or,bit_two,Bool.or_eq_true,decide_eq_true_iff] at hv2
   rcases hv2 with q | q
   · exact Or.inl ⟨u,v,hu,hu2,hv,q,e⟩
   · subst q;exact Or.inr ⟨u,hu,hu2,by rw[addF_comm];exact e⟩
 · rintro (⟨u,v,hu,hu2,hv,hv2,e⟩ | ⟨u,hu,hu2,e⟩)
   · exact⟨u,v,hu,hu2,hv,by rw[Nat.testBit_or,hv2];rfl,e⟩
   · exact⟨u,z,hu,hu2,hz,by rw[Nat.testBit_or,bit_two];simp,by rw[addF_comm];exact e⟩
theorem shift_sub{l:List Int}{a b z:Nat}(hz:z<24)(h:b.testBit z=true):Sub (shiftF l a z) (sumF l a b):=fun i hi=>by
 obtain⟨u,hu,hu2,e⟩:=testBit_shiftF.1 hi
 exact testBit_sumF.2 ⟨u,z,hu,hu2,hz,h,by rw[addF_comm];exact e⟩
def Til(l:List Int)(a Y:Nat):Prop:=Y<2 ^ ord l∧sumF l a Y=fullN l∧cnt a*cnt Y=ord l
theorem fold_all{P:Nat→Prop}[DecidablePred P]{Q:Nat→Prop}(m:Nat)(F:Nat→Nat→List Nat):∀(L:List Nat) (out:List Nat),(∀z∈out,Q z)→(∀x∈L,P x→∀k,∀z∈F x k,Q z)→∀z∈L.foldl (fun (out:List Nat) (x:Nat)=>if out.length<m∧P x then out++F x (m - out.length) else out) out,Q z
 | [],out,h,_=>h
 | y :: L,out,h,hF=>by
  rw[List.foldl_cons]
  refine fold_all m F L _ ?_ (fun x hx=>hF x (by simp[hx]))
  split
  · next e =>
     intro z hz
     rw[List.mem_append] at hz
     rcases hz with hz | hz
     · exact h z hz
     · exact hF y (by simp) e.2 _ z hz
  · exact h
theorem tl_sound{l:List Int}(hg:isGrp l=true){a:Nat}(ha:a≠0)(ha2:a<2 ^ ord l):∀f u b m,u<2 ^ ord l→b<2 ^ ord l→u=sumF l a b→cnt u=cnt a*cnt b→∀z∈tlS l a f u b m,Til l a z
 | 0,_,_,_,_,_,_,_,z,hz=>by simp[tlS] at hz
 | f+1,u,b,m,hu,hb,hs,hc,z,hz=>by
  have hob:=ord_bd hg
  by_cases hfull:u=fullN l
  · rw[tlS_full hfull,List.mem_singleton] at hz
    subst hz
    exact⟨hb,by rw[←hs,hfull],by rw[←hc,hfull,cnt_full hg]⟩
  · unfold tlS at hz
    rw[if_neg hfull] at hz
    refine fold_all (P:=fun x=>shiftF l a (dF l u x) &&& u=0) (Q:=Til l a) m (fun x k=>tlS l a f (u ||| shiftF l a (dF l u x)) (b ||| 2 ^ dF l u x) k) (elems a) [] (by simp) ?_ z hz
    intro x hx hap k z hz
    have hdl:=dF_lt hg u x
    obtain⟨d,hd⟩:∃d,d=dF l u x:=⟨_,rfl⟩
    have hz':z∈tlS l a f (u ||| shiftF l a (dF l u x)) (b ||| 2 ^ dF l u x) k:=hz
    rw[←hd] at hz' hap hdl
    have hm:=tl_more hg ha ha2 hu d hap
    have hdb:b.testBit d=false:=by
     refine Classical.byContradiction fun q=>?_
     have q':b.testBit d=true:=by simpa using q
     have h1:=shift_sub (l:=l) (a:=a) (by omega:d<24) q'
     have h2:u ||| shiftF l a d=u:=by
      refine Nat.eq_of_testBit_eq fun i=>bool_eq_of ?_
      rw[Nat.testBit_or,Bool.or_eq_true]
      exact⟨fun e=>e.elim id fun e=>by rw[hs];exact h1 i e,Or.inl⟩
     rw[h2] at hm;omega
    refine tl_sound hg ha ha2 f _ _ k hm.1 (Nat.or_lt_two_pow hb (Nat.pow_lt_pow_right (by omega) hdl)) (by rw[sum_or_one (by omega),←hs]) ?_ z hz'
    have h3:=cnt_or_and u (shiftF l a d)
    rw[Nat.and_comm] at h3
    rw[hap,cnt_zero,cnt_shift hg ha2] at h3
    have h4:=cnt_or_new (Nat.lt_of_lt_of_le hb (pow_ord hg)) (by omega:d<24) hdb
    rw[h4,Nat.mul_add,Nat.mul_one];omega
theorem sum_one{l:List Int}(hg:isGrp l=true){a:Nat}(ha2:a<2 ^ ord l):sumF l a 1=a:=by
 have hob:=ord_bd hg
 refine Nat.eq_of_testBit_eq fun i=>bool_eq_of ?_
 rw[testBit_sumF]
 constructor
 · rintro⟨u,v,hu,hu2,hv,hv2,e⟩
   rw[one_bit,decide_eq_true_iff] at hv2
   subst hv2
   rw[←e,addF_zero' (isGrp_ords hg) (bit_lt ha2 hu2)];exact hu2
 · intro hi
   have:=bit_lt ha2 hi
   exact⟨i,0,by omega,hi,by omega,by decide,addF_zero' (isGrp_ords hg) this⟩
theorem cnt_opp{l:List Int}(hg:isGrp l=true){a:Nat}(ha:a<2 ^ ord l):cnt (oppF l a)=cnt a:=by
 have hO:=isGrp_ords hg
 unfold oppF
 rw[cnt_bset]
 · simp[cnt]
 · refine List.Pairwise.map _ ?_ (List.Pairwise.and_mem.1 (elems_nodup a))
   rintro y z ⟨hy,hz,hne⟩ e
   have h1:=neg_neg hO (bit_lt ha (mem_elems.1 hy).2)
   rw[e,neg_neg hO (bit_lt ha (mem_elems.1 hz).2)] at h1
   exact hne h1.symm
 · intro y hy
   obtain⟨z,_,rfl⟩:=List.mem_map.1 hy
   exact negF_bd hg _
theorem count_row{l:List Int}(hg:isGrp l=true){b u x:Nat}(hb:b<2 ^ ord l)(hu:u<ord l)(hx:x<ord l) :
 ((elems (oppF l b)).map (fun y=>addF l u y)).count x=((shiftF l b x).testBit u).toNat:=by
 have hob:=ord_bd hg
 have hO:=isGrp_ords hg
 have hnd:((elems (oppF l b)).map (fun y=>addF l u y)).Nodup:=by
  refine List.Pairwise.map _ ?_ (List.Pairwise.and_mem.1 (elems_nodup _))
  rintro y z ⟨hy,hz,hne⟩ e
  exact hne (addF_cancel hO (bit_lt (oppF_lt hO b) (mem_elems.1 hy).2) (bit_lt (oppF_lt hO b) (mem_elems.1 hz).2) e)
 have h1:=List.nodup_iff_count.1 hnd x
 have hm:x∈(elems (oppF l b)).map (fun y=>addF l u y)↔(shiftF l b x).testBit u=true:=by
  rw[List.mem_map,testBit_shiftF]
  constructor
  · rintro⟨y,hy,e⟩
    obtain⟨z,hz,hz2,rfl⟩:=testBit_oppF.1 (mem_elems.1 hy).2
    refine⟨z,hz,hz2,?_⟩
    rw[←e,addF_assoc l hO,addF_comm l (negF l z) z,addF_neg l hO,addF_zero' hO hu]
  · rintro⟨z,hz,hz2,e⟩
    refine⟨negF l z,mem_elems.2 ⟨negF_bd hg z,testBit_oppF.2 ⟨z,hz,hz2,rfl⟩⟩,?_⟩
    rw[←e,addF_assoc l hO,addF_neg l hO,addF_zero' hO hx]
 cases hs:(shiftF l b x).testBit u
 · have:x ∉ (elems (oppF l b)).map (fun y=>addF l u y):=fun q=>by rw[hm,hs] at q;cases q
   rw[List.count_eq_zero.2 this];rfl
 · have:=List.count_pos_iff.2 (hm.2 hs)
   show _=1
   omega
theorem sum_toNat'(q:Nat→Bool):∀L:List Nat,(L.map (fun x=>(q x).toNat)).sum=(L.filter q).length
 | []=>rfl
 | x :: L=>by
  simp only[List.map_cons,List.sum_cons]
  rw[sum_toNat' q L]
  cases h:q x<;>simp[h];omega
theorem inter_tab{l:List Int}(hg:isGrp l=true){a b:Nat}(ha:a<2 ^ ord l)(hb:b<2 ^ ord l):interTo l a b (ord l)=tabN l a (oppF l b):=by
 refine ext_nth (by rw[interTo_len,tabN_len]) fun x hx=>?_
 rw[interTo_len] at hx
 rw[nth_tabN hg]
 have e1:nth (interTo l a b (ord l)) x=(cnt (a &&& shiftF l b x):Int):=by
  unfold interTo
  rw[nth_castL]
  simp[nthN,List.getD,hx]
 rw[e1]
 congr 1
 unfold sumsL
 rw[List.count_flatMap]
 have e2:(elems a).map (List.count x ∘ fun u=>(elems (oppF l b)).map (fun y=>addF l u y))=(elems a).map (fun u=>((shiftF l b x).testBit u).toNat):=by
  refine List.map_congr_left fun u hu=>?_
  exact count_row hg hb (bit_lt ha (mem_elems.1 hu).2) hx
 rw[e2,sum_toNat']
 unfold cnt elems
 rw[List.filter_filter]
 congr 1
 refine List.filter_congr fun u _=>?_
 rw[Nat.testBit_and,Bool.and_comm]
def totTo(t:List Int):Nat→Int
 | 0=>0
 | k+1=>totTo t k+nth t k
theorem totTo_succ(t:List Int)(k:Nat):totTo t (k+1)=totTo t k+nth t k:=rfl
theorem filt_lt(k:Nat):∀L:List Nat,(L.filter (fun x=>decide (x<k+1))).length=(L.filter (fun x=>decide (x<k))).length+L.count k
 | []=>rfl
 | x :: L=>by
  have ih:=filt_lt k L
  rw[List.count_cons]
  by_cases h1:x<k
  · rw[List.filter_cons_of_pos (by simp;omega),List.filter_cons_of_pos (by simpa using h1),List.length_cons,List.length_cons,ih]
    have:(x == k)=false:=by simp;omega
    rw[this];simp;omega
  · by_cases h2:x=k
    · rw[List.filter_cons_of_pos (by simp;omega),List.filter_cons_of_neg (by simpa using h1),List.length_cons,ih]
      have:(x == k)=true:=by simp[h2]
      rw[this];simp;omega
    · rw[List.filter_cons_of_neg (by simp;omega),List.filter_cons_of_neg (by simpa using h1),ih]
      have:(x == k)=false:=by simp[h2]
      rw[this];simp
theorem tot_tab{l:List Int}(hg:isGrp l=true)(a b:Nat):totTo (tabN l a b) (ord l)=((cnt a*cnt b:Nat):Int):=by
 have key:∀k,totTo (tabN l a b) k=(((sumsL l (elems a) (elems b)).filter (fun x=>decide (x<k))).length:Int):=by
  intro k
  induction k with
  | zero=>rw[List.filter_eq_nil_iff.2 (by simp)];rfl
  | succ k ih=>rw[totTo_succ,ih,nth_tabN hg,filt_lt];omega
 rw[key,List.filter_eq_self.2 fun x hx=>decide_eq_true (sumsL_lt hg x hx),sums_len];rfl
end Go.Zz
namespace Go.Zz
theorem shiftF_shift{l:List Int}(h:isGrp l=true)(a x y:Nat):shiftF l (shiftF l a x) y=shiftF l a (addF l y x):=by
 have ho:=isGrp_ords h
 apply Nat.eq_of_testBit_eq
 intro z
 apply bool_eq_of
 rw[testBit_shiftF,testBit_shiftF]
 constructor
 · rintro⟨u,_,hu,rfl⟩
   obtain⟨t,ht,hb,rfl⟩:=testBit_shiftF.1 hu
   exact⟨t,ht,hb,addF_assoc l ho y x t⟩
 · rintro⟨t,ht,hb,rfl⟩
   exact⟨addF l x t,addF_bd h x t,testBit_shiftF.2 ⟨t,ht,hb,rfl⟩,(addF_assoc l ho y x t).symm⟩
theorem shiftF_none{l:List Int}(h:isGrp l=true){a:Nat}(ha:a<2 ^ ord l):shiftF l a 0=a:=by
 apply Nat.eq_of_testBit_eq
 intro i
 apply bool_eq_of
 rw[testBit_shiftF]
 constructor
 · rintro⟨y,_,hy,e⟩
   rw[addF_zero l (isGrp_ords h) y (bit_lt ha hy)] at e
   subst e;exact hy
 · intro hi
   have:=bit_lt ha hi
   exact⟨i,Nat.lt_of_lt_of_le this (ord_bd h).2,hi,addF_zero l (isGrp_ords h) i this⟩
theorem coset_iff{l:List Int}(h:isGrp l=true){n:Nat}(hn:n<2 ^ ord l):shiftF l (baseF l n) (lowN n)=n↔baseF l n=shiftF l n (negF l (lowN n)):=by
 have ho:=isGrp_ords h
 have e1:addF l (negF l (lowN n)) (lowN n)=0:=by rw[addF_comm];exact addF_neg l ho _
 constructor
 · intro e
   have:shiftF l (shiftF l (baseF l n) (lowN n)) (negF l (lowN n))=shiftF l n (negF l (lowN n)):=by rw[e]
   rw[shiftF_shift h,e1,shiftF_none h (show baseF l n<2 ^ ord l from genF_lt h _)] at this
   exact this
 · intro e
   rw[e,shiftF_shift h,addF_neg l ho,shiftF_none h hn]
def cstB(l:List Int)(a:Int):Bool:=isOneB l a&&decide (hullF l a=a)
theorem cstB_hull{l:List Int}{n:Nat}(h:isOneB l n=true):cstB l n=(hullF l n == (n:Int)):=by unfold cstB;rw[h];rfl
theorem cstB_sub{l:List Int}{n:Nat}(h:isOneB l n=true):cstB l n=subB l (shiftF l n (negF l (lowN n)):Nat):=by
 obtain⟨n',e,h0,h1,h2,hg⟩:=isOneB_nat h
 obtain rfl:n=n':=by omega
 have hs:isSetB l (shiftF l n (negF l (lowN n)):Nat)=true:=isSetB_of hg (shiftF_lt (isGrp_ords hg) _ _)
 rw[cstB_hull h,hullF_yes h,subB_yes hs]
 have:=coset_iff hg h1
 unfold baseF at this ⊢
 by_cases e:genF l (shiftF l n (negF l (lowN n)))=shiftF l n (negF l (lowN n))
 · rw[this.2 e,e];simp
 · have e':¬shiftF l (genF l (shiftF l n (negF l (lowN n)))) (lowN n)=n:=fun q=>e (this.1 q)
   have i1:((shiftF l (genF l (shiftF l n (negF l (lowN n)))) (lowN n):Int) == (n:Int))=false:=by simp;omega
   have i2:((genF l (shiftF l n (negF l (lowN n))):Int) == (shiftF l n (negF l (lowN n)):Int))=false:=by simp;omega
   rw[i1,i2]
def Sid(l:List Int)(L:List Nat):Prop:=∀i j k m,i≤j→j<L.length→k≤m→m<L.length→addF l (nthN L i) (nthN L j)=addF l (nthN L k) (nthN L m)→i=k∧j=m
def Bef(i j p q:Nat):Prop:=p<i∨(p=i∧q<j)
def SidTo(l:List Int)(L:List Nat)(i j seen:Nat):Prop :=
 (∀p q r t,p≤q→q<L.length→r≤t→t<L.length→Bef i j p q→Bef i j r t→addF l (nthN L p) (nthN L q)=addF l (nthN L r) (nthN L t)→p=r∧q=t) ∧
  (∀z,seen.testBit z=true↔∃p q,p≤q∧q<L.length∧Bef i j p q∧addF l (nthN L p) (nthN L q)=z)
theorem SidTo.start(l:List Int)(L:List Nat):SidTo l L 0 0 0:=by
 refine⟨fun p q r t _ _ _ _ h=>?_,fun z=>?_⟩
 · rcases h with h | ⟨_,h⟩<;>omega
 · rw[Nat.zero_testBit]
   constructor
   · intro h;cases h
   · rintro⟨p,q,_,_,h,_⟩
     rcases h with h | ⟨_,h⟩<;>omega
theorem SidTo.row{l:List Int}{L:List Nat}{i j seen:Nat}(h:SidTo l L i j seen)(hj:j=L.length):SidTo l L (i+1) (i+1) seen:=by
 have hb:∀p q,p≤q→q<L.length→(Bef (i+1) (i+1) p q↔Bef i j p q):=fun p q h1 h2=>by unfold Bef;omega
 refine⟨fun p q r t h1 h2 h3 h4 h5 h6 e=>h.1 p q r t h1 h2 h3 h4 ((hb p q h1 h2).1 h5) ((hb r t h3 h4).1 h6) e,fun z=>?_⟩
 rw[h.2 z]
 constructor
 · rintro⟨p,q,h1,h2,h3,h4⟩;exact⟨p,q,h1,h2,(hb p q h1 h2).2 h3,h4⟩
 · rintro⟨p,q,h1,h2,h3,h4⟩;exact⟨p,q,h1,h2,(hb p q h1 h2).1 h3,h4⟩
theorem SidTo.all{l:List Int}{L:List Nat}{i seen:Nat}(h:SidTo l L i i seen)(hi:i=L.length):Sid l L:=fun p q r t h1 h2 h3 h4 e =>
 h.1 p q r t h1 h2 h3 h4 (by unfold Bef;omega) (by unfold Bef;omega) e
end Go.Zz
