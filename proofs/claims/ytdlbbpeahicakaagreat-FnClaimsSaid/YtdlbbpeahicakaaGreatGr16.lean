/- Sets of small doubling fill a coset. No program is named here. -/
import Derived.Test.YtdlbbpeahicakaaGreatGr15
import Derived.Test.YtdlbbpeahicakaaGreatGr5
import Derived.Test.YtdlbbpeahicakaaGreatGr13
import Derived.Test.YtdlbbpeahicakaaGreatGr8
import Derived.Test.YtdlbbpeahicakaaGreatGr11
import Derived.Test.YtdlbbpeahicakaaGreatGr12
import Derived.Test.YtdlbbpeahicakaaGreatGr14
set_option linter.unusedSimpArgs false
set_option linter.unusedVariables false
set_option linter.unnecessarySimpa false
namespace Go.Zz
theorem sum_in{l:List Int}{a b x y:Nat}(hx:x<24)(hy:y<24)(h1:a.testBit x=true)(h2:b.testBit y=true):(sumF l a b).testBit (addF l x y)=true:=testBit_sumF.2 ⟨x,y,hx,h1,hy,h2,rfl⟩
def difN(l:List Int)(x y:Nat):Nat:=addF l x (negF l y)
def dS(l:List Int)(n:Nat):Nat:=sumF l n (oppF l n)
theorem dS_in{l:List Int}(hg:isGrp l=true){n x y:Nat}(hn:n<2 ^ ord l)(hx:n.testBit x=true)(hy:n.testBit y=true):(dS l n).testBit (difN l x y)=true:=by
 have hb:=ord_bd hg
 have h1:=bit_lt hn hx
 have h2:=bit_lt hn hy
 exact sum_in (by omega) (negF_bd hg y) hx (testBit_oppF.2 ⟨y,by omega,hy,rfl⟩)
theorem dS_out{l:List Int}{n z:Nat}(h:(dS l n).testBit z=true):∃x y,n.testBit x=true∧n.testBit y=true∧difN l x y=z:=by
 obtain⟨x,y,_,h1,_,h2,rfl⟩:=testBit_sumF.1 h
 obtain⟨t,_,h3,rfl⟩:=testBit_oppF.1 h2
 exact⟨x,t,h1,h3,rfl⟩
section
variable {l:List Int} (hO:Ords l)
include hO
theorem lc(x y z:Nat):addF l x (addF l y z)=addF l y (addF l x z):=by rw[←addF_assoc l hO,addF_comm l x y,addF_assoc l hO]
theorem back{x y:Nat}(hx:x<ord l):addF l y (difN l x y)=x:=by
 unfold difN
 rw[lc hO,addF_neg l hO,addF_comm,addF_zero l hO _ hx]
theorem neg_add(x y:Nat):negF l (addF l x y)=addF l (negF l x) (negF l y):=by
 refine addF_cancel hO (x:=addF l x y) (negF_lt l hO _) (addF_lt l hO _ _) ?_
 rw[addF_neg l hO,addF_assoc l hO,lc hO y,addF_neg l hO,←addF_assoc l hO,addF_neg l hO,addF_zero l hO 0 (by have:=addF_lt l hO 0 0;omega)]
theorem dif_dif{x y p q:Nat}(h:addF l x p=addF l y q):difN l x y=difN l q p:=by
 refine addF_cancel hO (x:=addF l y p) (addF_lt l hO _ _) (addF_lt l hO _ _) ?_
 unfold difN
 have e1:addF l (addF l y p) (addF l x (negF l y))=addF l (addF l x p) (addF l y (negF l y)):=by simp only[addF_assoc l hO,addF_comm l,lc hO]
 have e2:addF l (addF l y p) (addF l q (negF l p))=addF l (addF l y q) (addF l p (negF l p)):=by simp only[addF_assoc l hO,addF_comm l,lc hO]
 rw[e1,e2,addF_neg l hO,addF_neg l hO,h]
theorem dif_self(x:Nat):difN l x x=0:=addF_neg l hO x
end
theorem meet_big{l:List Int}(hg:isGrp l=true){n x:Nat}(hn:n<2 ^ ord l)(hs:2*cnt (sumF l n n)<3*cnt n)(hx:(dS l n).testBit x=true):cnt n<2*cnt (n &&& shiftF l n x):=by
 have hO:=isGrp_ords hg
 have hob:=ord_bd hg
 obtain⟨a,b,ha,hb,rfl⟩:=dS_out hx
 have hal:=bit_lt hn ha
 have hbl:=bit_lt hn hb
 have s1:Sub (shiftF l n a) (sumF l n n):=shift_sub (by omega) ha
 have s2:Sub (shiftF l n b) (sumF l n n):=shift_sub (by omega) hb
 have h1:=cnt_mono (Sub.or s1 s2)
 have h2:=cnt_or_and (shiftF l n a) (shiftF l n b)
 rw[cnt_shift hg hn,cnt_shift hg hn] at h2
 have h3:Sub (shiftF l n a &&& shiftF l n b) (shiftF l (n &&& shiftF l n (difN l a b)) b):=fun z hz=>by
  rw[Nat.testBit_and,Bool.and_eq_true] at hz
  obtain⟨q,hq,hq2,e1⟩:=testBit_shiftF.1 hz.1
  obtain⟨p,hp,hp2,e2⟩:=testBit_shiftF.1 hz.2
  refine testBit_shiftF.2 ⟨p,hp,?_,e2⟩
  rw[Nat.testBit_and,hp2]
  refine testBit_shiftF.2 ⟨q,hq,hq2,?_⟩
  refine addF_cancel hO (x:=b) (addF_lt l hO _ _) (bit_lt hn hp2) ?_
  rw[e2,←e1,←addF_assoc l hO,back hO hal]
 have h4:=cnt_mono h3
 rw[cnt_shift hg (Nat.lt_of_le_of_lt Nat.and_le_left hn)] at h4
 omega
theorem common{p q n:Nat}(hn:n<2 ^ 24)(h1:Sub p n)(h2:Sub q n)(h:cnt n<cnt p+cnt q):∃z,p.testBit z=true∧q.testBit z=true:=by
 have e1:=cnt_mono (Sub.or h1 h2)
 have e2:=cnt_or_and p q
 obtain⟨z,hz⟩:=bit_of_pos (cnt_ne (a:=p &&& q) (by omega))
 rw[Nat.testBit_and,Bool.and_eq_true] at hz
 exact⟨z,hz⟩
theorem sub_and_l(a b:Nat):Sub (a &&& b) a:=fun i h=>by rw[Nat.testBit_and,Bool.and_eq_true] at h;exact h.1
theorem sub_and_r(a b:Nat):Sub (a &&& b) b:=fun i h=>by rw[Nat.testBit_and,Bool.and_eq_true] at h;exact h.2
theorem dS_dif{l:List Int}(hg:isGrp l=true){n x y:Nat}(hn:n<2 ^ ord l)(hs:2*cnt (sumF l n n)<3*cnt n)(hx:(dS l n).testBit x=true)(hy:(dS l n).testBit y=true):(dS l n).testBit (difN l x y)=true:=by
 have hO:=isGrp_ords hg
 have h1:=meet_big hg hn hs hx
 have h2:=meet_big hg hn hs hy
 obtain⟨z,hz1,hz2⟩:=common (Nat.lt_of_lt_of_le hn (pow_ord hg)) (sub_and_l n (shiftF l n x)) (sub_and_l n (shiftF l n y)) (by omega)
 obtain⟨p,_,hp,e1⟩:=testBit_shiftF.1 (sub_and_r _ _ z hz1)
 obtain⟨q,_,hq,e2⟩:=testBit_shiftF.1 (sub_and_r _ _ z hz2)
 rw[dif_dif hO (show addF l x p=addF l y q by rw[e1,e2])]
 exact dS_in hg hn hq hp
def Cl(l:List Int)(h:Nat):Prop:=h<2 ^ ord l∧h.testBit 0=true∧∀x y,h.testBit x=true→h.testBit y=true→h.testBit (difN l x y)=true
theorem Cl.neg{l:List Int}(hg:isGrp l=true){h y:Nat}(hc:Cl l h)(hy:h.testBit y=true):h.testBit (negF l y)=true:=by
 have:=hc.2.2 0 y hc.2.1 hy
 unfold difN at this
 rwa [addF_zero l (isGrp_ords hg) _ (negF_lt l (isGrp_ords hg) y)] at this
theorem neg_negN{l:List Int}(hO:Ords l){y:Nat}(hy:y<ord l):negF l (negF l y)=y :=
 addF_cancel hO (x:=negF l y) (negF_lt l hO _) hy (by rw[addF_neg l hO,addF_comm,addF_neg l hO])
theorem Cl.add{l:List Int}(hg:isGrp l=true){h x y:Nat}(hc:Cl l h)(hx:h.testBit x=true)(hy:h.testBit y=true):h.testBit (addF l x y)=true:=by
 have:=hc.2.2 x (negF l y) hx (hc.neg hg hy)
 unfold difN at this
 rwa [neg_negN (isGrp_ords hg) (bit_lt hc.1 hy)] at this
theorem Cl.gen{l:List Int}(hg:isGrp l=true){h:Nat}(hc:Cl l h):genF l h=h:=by
 refine Sub.antisymm (genF_least (fun i hi=>?_) (fun i hi=>?_)) (fun i hi=>?_)
 · have:i=0:=by
    cases i with
    | zero=>rfl
    | succ i=>rw[Nat.testBit_succ] at hi;simp at hi
   subst this;exact hc.2.1
 · obtain⟨x,y,_,h1,_,h2,rfl⟩:=testBit_sumF.1 hi
   exact hc.add hg h1 h2
 · have hib:=bit_lt hc.1 hi
   have hob:=ord_bd hg
   refine genF_sum hg h i ?_
   refine testBit_sumF.2 ⟨0,i,by omega,genF_zero l h,by omega,hi,addF_zero l (isGrp_ords hg) i hib⟩
theorem Cl.sub{l:List Int}(hg:isGrp l=true){h:Nat}(hc:Cl l h):subB l (h:Nat)=true:=by
 rw[subB_yes (isSetB_of hg hc.1),hc.gen hg];simp
theorem Cl.shift{l:List Int}(hg:isGrp l=true){h y:Nat}(hc:Cl l h)(hy:h.testBit y=true):shiftF l h y=h:=by
 have hob:=ord_bd hg
 have:=genF_shift hg (a:=h) hy (by have:=bit_lt hc.1 hy;omega)
 rwa [hc.gen hg] at this
theorem Cl.coset{l:List Int}(hg:isGrp l=true){h x:Nat}(hc:Cl l h)(hx:x<ord l):cstB l (shiftF l h x:Nat)=true:=by
 have hO:=isGrp_ords hg
 have hob:=ord_bd hg
 have hlt:=shiftF_lt hO h x
 have h0:(shiftF l h x).testBit x=true:=testBit_shiftF.2 ⟨0,by omega,hc.2.1,by rw[addF_comm];exact addF_zero l hO x hx⟩
 have hne:=pos_of_bit h0
 have h1:isOneB l (shiftF l h x:Nat)=true:=isOneB_yes (isSetB_of hg hlt) (by omega)
 rw[cstB_sub h1]
 obtain⟨-,-,hlow,-⟩:=lowN_first hne (Nat.lt_of_lt_of_le hlt (pow_ord hg))
 generalize lowN (shiftF l h x)=y at hlow ⊢
 obtain⟨z,_,hz,rfl⟩:=testBit_shiftF.1 hlow
 rw[shiftF_shift hg,neg_add hO,addF_assoc l hO,lc hO,addF_comm l (negF l x) x,addF_neg l hO,addF_comm l (negF l z) 0,addF_zero l hO _ (negF_lt l hO z),hc.shift hg (hc.neg hg hz)]
 exact hc.sub hg
theorem row_sum{l:List Int}{n c:Nat}{h:Nat}(hc:∀x,h.testBit x=true→c<2*cnt (n &&& shiftF l n x)):∀k (m:Nat),k≤m→(((c+1)*(elemsTo h k).length:Nat):Int)≤2*totTo (interTo l n n m) k
 | 0,_,_=>by simp[elemsTo,totTo]
 | k+1,m,hm=>by
  have ih:=row_sum hc k m (by omega)
  rw[totTo_succ,elemsTo_succ]
  have e:nth (interTo l n n m) k=(cnt (n &&& shiftF l n k):Int):=by
   unfold interTo
   rw[nth_castL]
   simp[nthN,List.getD,show k<m by omega]
  rw[e]
  cases hb:h.testBit k
  · simp;simp at ih;omega
  · have:=hc k hb
    rw[if_pos rfl,List.length_append,Nat.mul_add]
    simp only[List.length_cons,List.length_nil,Nat.zero_add,Nat.mul_one]
    omega
theorem dS_small{l:List Int}(hg:isGrp l=true){n:Nat}(hn:n<2 ^ ord l)(h0:n≠0)(hs:2*cnt (sumF l n n)<3*cnt n):cnt (dS l n)<2*cnt n:=by
 have h1:=row_sum (l:=l) (n:=n) (c:=cnt n) (h:=dS l n) (fun x hx=>meet_big hg hn hs hx) (ord l) (ord l) (Nat.le_refl _)
 rw[inter_tab hg hn hn,tot_tab hg,cnt_opp hg hn,elemsTo_all (a:=dS l n) (ord_bd hg).2 (sumF_lt (isGrp_ords hg) _ _)] at h1
 have h2:(cnt n+1)*cnt (dS l n)≤2*(cnt n*cnt n):=by
  have:(elems (dS l n)).length=cnt (dS l n):=rfl
  rw[this] at h1
  omega
 have hp:=cnt_pos (Nat.pos_of_ne_zero h0) (Nat.lt_of_lt_of_le hn (pow_ord hg))
 false_or_by_contra
 rename_i hx
 have h3:(cnt n+1)*(2*cnt n)≤(cnt n+1)*cnt (dS l n):=Nat.mul_le_mul_left _ (by omega)
 have e:(cnt n+1)*(2*cnt n)=2*(cnt n*cnt n)+2*cnt n:=by rw[Nat.add_mul,Nat.mul_left_comm,Nat.one_mul]
 omega
theorem small_fact{l:List Int}(hg:isGrp l=true){n:Nat}(hn:n<2 ^ ord l)(h0:n≠0)(hs:2*cnt (sumF l n n)<3*cnt n) :
 subB l (dS l n:Nat)=true∧cstB l (sumF l n (dS l n):Nat)=true∧sumF l n (dS l n) &&& n=n∧cnt (sumF l n (dS l n))=cnt (dS l n)∧2*cnt (dS l n)<3*cnt n∧cnt (sumF l n n)=cnt (dS l n):=by
 have hO:=isGrp_ords hg
 have hob:=ord_bd hg
 obtain⟨a,ha⟩:=bit_of_pos h0
 have hal:=bit_lt hn ha
 have hc:Cl l (dS l n):=⟨sumF_lt hO _ _,by have:=dS_in hg hn ha ha;rwa [dif_self hO] at this,fun x y hx hy=>dS_dif hg hn hs hx hy⟩
 have hd:sumF l n (dS l n)=shiftF l (dS l n) a:=by
  refine Sub.antisymm (fun z hz=>?_) (fun z hz=>?_)
  · obtain⟨p,x,_,hp,_,hx,rfl⟩:=testBit_sumF.1 hz
    refine testBit_shiftF.2 ⟨addF l (difN l p a) x,addF_bd hg _ _,hc.add hg (dS_in hg hn hp ha) hx,?_⟩
    rw[←addF_assoc l hO,back hO (bit_lt hn hp)]
  · obtain⟨x,hx,hx2,rfl⟩:=testBit_shiftF.1 hz
    exact sum_in (by omega) hx ha hx2
 have hsubn:Sub n (sumF l n (dS l n)):=fun p hp=>by
  have hpl:=bit_lt hn hp
  have:=sum_in (l:=l) (b:=dS l n) (y:=0) (by omega) (by omega) hp hc.2.1
  rwa [addF_comm,addF_zero l hO p hpl] at this
 have hcd:cnt (sumF l n (dS l n))=cnt (dS l n):=by rw[hd,cnt_shift hg hc.1]
 have hbig:=dS_small hg hn h0 hs
 have hS:sumF l n n=shiftF l (dS l n) (addF l a a):=by
  refine Sub.antisymm (fun z hz=>?_) (fun z hz=>?_)
  · obtain⟨p,q,_,hp,_,hq,rfl⟩:=testBit_sumF.1 hz
    refine testBit_shiftF.2 ⟨addF l (difN l p a) (difN l q a),addF_bd hg _ _,hc.add hg (dS_in hg hn hp ha) (dS_in hg hn hq ha),?_⟩
    have e:addF l (addF l a a) (addF l (difN l p a) (difN l q a))=addF l (addF l a (difN l p a)) (addF l a (difN l q a)):=by simp only[addF_assoc l hO,addF_comm l,lc hO]
    rw[e,back hO (bit_lt hn hp),back hO (bit_lt hn hq)]
  · have hzl:=bit_lt (shiftF_lt hO _ _) hz
    obtain⟨h,hh,hh2,e⟩:=testBit_shiftF.1 hz
    have hsub2:Sub (shiftF l (oppF l n) z) (sumF l n (dS l n)):=fun y hy=>by
     obtain⟨u,_,hu,rfl⟩:=testBit_shiftF.1 hy
     obtain⟨p,_,hp,rfl⟩:=testBit_oppF.1 hu
     rw[hd]
     refine testBit_shiftF.2 ⟨addF l h (difN l a p),addF_bd hg _ _,hc.add hg hh2 (dS_in hg hn ha hp),?_⟩
     unfold difN
     rw[←e]
     simp only[addF_assoc l hO,addF_comm l,lc hO]
    obtain⟨y,hy1,hy2⟩:=common (Nat.lt_of_lt_of_le (sumF_lt hO _ _) (pow_ord hg)) hsubn hsub2 (by rw[hcd,cnt_shift hg (oppF_lt hO n),cnt_opp hg hn];omega)
    obtain⟨u,_,hu,e2⟩:=testBit_shiftF.1 hy2
    obtain⟨p,hp24,hp,rfl⟩:=testBit_oppF.1 hu
    have hz2:addF l p y=z:=by
     rw[←e2]
     exact back hO hzl
    rw[←hz2]
    have hyl:=bit_lt hn hy1
    exact sum_in hp24 (by omega) hp hy1
 have hcS:cnt (sumF l n n)=cnt (dS l n):=by rw[hS,cnt_shift hg hc.1]
 refine⟨hc.sub hg,by rw[hd];exact hc.coset hg hal,?_,hcd,by omega,hcS⟩
 refine Nat.eq_of_testBit_eq fun i=>bool_eq_of ?_
 rw[Nat.testBit_and,Bool.and_eq_true]
 exact⟨fun h=>h.2,fun h=>⟨hsubn i h,h⟩⟩
end Go.Zz
namespace Go.Zz
def nxS(l:List Int)(S x:Nat):Nat:=(S ||| shiftF l S x) ||| 2 ^ x
theorem nxS_lt{l:List Int}(hg:isGrp l=true){S x:Nat}(hS:S<2 ^ ord l)(hx:x<ord l):nxS l S x<2 ^ ord l :=
 Nat.or_lt_two_pow (Nat.or_lt_two_pow hS (shiftF_lt (isGrp_ords hg) S x)) (Nat.pow_lt_pow_right (by omega) hx)
theorem nxS_more{l:List Int}(hg:isGrp l=true){S x:Nat}(hS:S<2 ^ ord l)(h0:S.testBit 0=false)(hx:x<ord l):cnt S<cnt (nxS l S x):=by
 have hob:=ord_bd hg
 have hS24:S<2 ^ 24:=Nat.lt_of_lt_of_le hS (Nat.pow_le_pow_right (by omega) hob.2)
 have hT:S ||| 2 ^ 0<2 ^ ord l:=Nat.or_lt_two_pow hS (Nat.pow_lt_pow_right (by omega) (by omega))
 have h1:=cnt_shift hg hT x
 rw[cnt_or_new hS24 (by omega) h0] at h1
 have hsub:Sub (shiftF l (S ||| 2 ^ 0) x) (nxS l S x):=fun i hi=>by
  obtain⟨y,hy,hb,he⟩:=testBit_shiftF.1 hi
  unfold nxS
  rw[Nat.testBit_or,Nat.testBit_or]
  rw[Nat.testBit_or,Nat.testBit_two_pow] at hb
  by_cases hy0:y=0
  · subst hy0
    rw[addF_comm,addF_zero l (isGrp_ords hg) x hx] at he
    subst he
    simp
  · have hSy:S.testBit y=true:=by simpa[show ¬0=y by omega] using hb
    have:(shiftF l S x).testBit i=true:=testBit_shiftF.2 ⟨y,hy,hSy,he⟩
    rw[this];simp
 have:=cnt_mono hsub
 omega
end Go.Zz
namespace Go.Zz
set_option maxHeartbeats 1000000
theorem partL_snoc(X:List Nat)(x m:Nat):partL (X++[x]) m=partL X m++(if m.testBit X.length then [x] else []):=by
 unfold partL
 rw[List.length_append,List.length_singleton,List.range_succ,List.filter_append,List.map_append]
 congr 1
 · apply List.map_congr_left
   intro i hi
   have:=List.mem_range.1 (List.mem_filter.1 hi).1
   simp[nthN,List.getD,List.getElem?_append_left this]
 · cases h:m.testBit X.length<;>simp[h,nthN,List.getD]
theorem snoc_ind{P:List Nat→Prop}(h0:P [])(h1:∀X x,P X→P (X++[x])):∀(n:Nat) (X:List Nat),X.length=n→P X
 | 0,X,h=>by rw[List.eq_nil_of_length_eq_zero h];exact h0
 | n+1,X,h=>by
  rcases List.eq_nil_or_concat X with rfl | ⟨Y,y,rfl⟩
  · simp at h
  · rw[List.concat_eq_append] at h ⊢
    exact h1 Y y (snoc_ind h0 h1 n Y (by simpa using h))
theorem sub_snoc{Y Z:List Nat}{x:Nat}(h:Y.Sublist (Z++[x])):Y.Sublist Z∨∃Y',Y=Y'++[x]∧Y'.Sublist Z:=by
 obtain⟨A,B,rfl,hA,hB⟩:=List.sublist_append_iff.1 h
 cases B with
 | nil=>left;simpa using hA
 | cons b B =>
  have hl:=hB.length_le
  have:B=[]:=by simpa using hl
  subst this
  have:b=x:=by have:=hB.subset (List.mem_singleton.2 rfl);simpa using this
  subst this
  exact Or.inr ⟨A,rfl,hA⟩
theorem partL_sub(X:List Nat)(m:Nat):(partL X m).Sublist X:=by
 refine snoc_ind (P:=fun X=>(partL X m).Sublist X) ?_ ?_ _ X rfl
 · simp[partL]
 · intro X x ih
   rw[partL_snoc]
   refine ih.append ?_
   split
   · exact List.Sublist.refl _
   · exact List.nil_sublist _
theorem partL_mod(X:List Nat){m m':Nat}(h:∀i,i<X.length→m.testBit i=m'.testBit i):partL X m=partL X m':=by
 unfold partL
 congr 1
 apply List.filter_congr
 intro i hi
 exact h i (List.mem_range.1 hi)
theorem sub_part{X:List Nat}:∀{Y},Y.Sublist X→∃m,m<2 ^ X.length∧partL X m=Y:=by
 refine snoc_ind (P:=fun X=>∀{Y},Y.Sublist X→∃m,m<2 ^ X.length∧partL X m=Y) ?_ ?_ _ X rfl
 · intro Y h
   have:Y=[]:=by simpa using h
   subst this
   exact⟨0,by simp,by simp[partL]⟩
 · intro X x ih Y h
   rcases sub_snoc h with h' | ⟨Y',rfl,h'⟩
   · obtain⟨m,hm,rfl⟩:=ih h'
     refine⟨m,by simp[Nat.pow_succ];omega,?_⟩
     rw[partL_snoc,Nat.testBit_lt_two_pow hm];simp
   · obtain⟨m,hm,rfl⟩:=ih h'
     refine⟨m ||| 2 ^ X.length,Nat.or_lt_two_pow (by rw[List.length_append,List.length_singleton,Nat.pow_succ];omega) (Nat.pow_lt_pow_right (by omega) (by simp)),?_⟩
     rw[partL_snoc,Nat.testBit_or,Nat.testBit_two_pow_self,Bool.or_true]
     simp only[if_true]
     congr 1
     refine partL_mod X fun i hi=>?_
     rw[Nat.testBit_or,Nat.testBit_two_pow]
     simp[show ¬X.length=i by omega]
theorem sbs_iff{l:List Int}(hg:isGrp l=true)(X:List Nat):(∀x∈X,x<ord l)→∀z,(sbs l X).testBit z=true↔∃Y,Y.Sublist X∧Y≠[]∧tot l Y=z:=by
 have ho:=isGrp_ords hg
 have hob:=ord_bd hg
 refine snoc_ind (P:=fun X=>(∀x∈X,x<ord l)→∀z,(sbs l X).testBit z=true↔∃Y,Y.Sublist X∧Y≠[]∧tot l Y=z) ?_ ?_ _ X rfl
 · intro _ z
   constructor
   · intro h;simp[sbs] at h
   · rintro⟨Y,h1,h2,-⟩;exact absurd (by simpa using h1) h2
 · intro X x ih hX z
   have hXo:∀y∈X,y<ord l:=fun y hy=>hX y (by simp[hy])
   have hx:x<ord l:=hX x (by simp)
   have ih:=ih hXo
   have hbd:=sbs_bd hg X (fun y hy=>by have:=hXo y hy;omega)
   rw[sbs_snoc,Nat.testBit_or,Nat.testBit_or,Bool.or_eq_true,Bool.or_eq_true,ih z,testBit_shiftF,Nat.testBit_two_pow,decide_eq_true_eq]
   constructor
   · rintro ((⟨Y,h1,h2,h3⟩ | ⟨y,hy,hb,he⟩) | rfl)
     · exact⟨Y,h1.trans (List.sublist_append_left X [x]),h2,h3⟩
     · obtain⟨Y,h1,h2,h3⟩:=(ih y).1 hb
       exact⟨Y++[x],h1.append (List.Sublist.refl _),by simp,by rw[tot_snoc,h3,addF_comm];exact he⟩
     · exact⟨[x],List.sublist_append_right X [x],by simp,by show addF l 0 x=x;exact addF_zero l ho x hx⟩
   · rintro⟨Y,h1,h2,h3⟩
     rcases sub_snoc h1 with h | ⟨Y',e,h⟩
     · exact Or.inl (Or.inl ⟨Y,h,h2,h3⟩)
     · subst e
       by_cases he:Y'=[]
       · subst he
         right
         rw[←h3]
         show x=addF l 0 x
         exact (addF_zero l ho x hx).symm
       · refine Or.inl (Or.inr ⟨tot l Y',?_,(ih _).2 ⟨Y',h,he,rfl⟩,?_⟩)
         · exact Nat.lt_of_lt_of_le (tot_bd hg Y') (Nat.le_refl _)
         · rw[tot_snoc,addF_comm] at h3;exact h3
theorem partL_nz{X:List Nat}{m:Nat}(hm:m<2 ^ X.length)(h:m≠0):partL X m≠[]:=by
 intro e
 obtain⟨i,hi⟩:=Nat.exists_testBit_of_ne_zero h
 have hil:i<X.length:=by
  rcases Nat.lt_or_ge i X.length with q | q
  · exact q
  · rw[testBit_ge hm q] at hi;cases hi
 have:nthN X i∈partL X m:=by
  unfold partL
  exact List.mem_map.2 ⟨i,List.mem_filter.2 ⟨List.mem_range.2 hil,hi⟩,rfl⟩
 rw[e] at this;cases this
end Go.Zz
namespace Go.Zz
open Go.RowKit Go.Proofs
theorem mk1{l:List Int}{a b:Int}(h:fullB l a b=true)(o t q:List Int)(n:Int):ccF (csK l a b) (csG l a b) o (csA l a b) (csB l a b) (csS l a b) (csP l a b) t q n=true:=by
 obtain⟨x,y,rfl,rfl,-⟩:=fullB_nat h
 obtain⟨e1,e2,e3,e4,e5,e6⟩:=cs_yes h
 rw[e1,e2,e3,e4,e5,e6]
 unfold ccF c1F
 rw[if_pos rfl,h]
 simp[kpH]
theorem sort_sub{X Y:List Nat}(h:sortB (castL X)=true)(hs:Y.Sublist X):sortB (castL Y)=true:=by
 have conv:∀Z:List Nat,sortB (castL Z)=true↔Z.Pairwise (·≤·):=by
  intro Z
  rw[sortB_iff]
  constructor
  · intro H
    rw[List.pairwise_iff_getElem]
    have step:∀d i,i+d<Z.length→nthN Z i≤nthN Z (i+d):=by
     intro d
     induction d with
     | zero=>intro i _;exact Nat.le_refl _
     | succ d ih =>
      intro i hi
      have h1:=ih i (by omega)
      have h2:=H (i+d+1) (by omega) (by rw[castL_len];omega)
      rw[Nat.add_sub_cancel,nth_castL,nth_castL] at h2
      have:i+(d+1)=i+d+1:=by omega
      rw[this];omega
    intro i j hi hj hij
    have:=step (j - i) i (by omega)
    rw[show i+(j - i)=j by omega] at this
    simpa[nthN,List.getD,hi,hj] using this
  · intro H j h0 hj
    rw[castL_len] at hj
    rw[List.pairwise_iff_getElem] at H
    have:=H (j - 1) j (by omega) hj (by omega)
    rw[nth_castL,nth_castL]
    have e:nthN Z (j - 1)≤nthN Z j:=by simpa[nthN,List.getD,hj,show j - 1<Z.length by omega] using this
    omega
 rw[conv] at h ⊢
 exact h.sublist hs
theorem seq_sub{l:List Int}{X Y:List Nat}(h:seqB l (castL X)=true)(hs:Y.Sublist X):seqB l (castL Y)=true:=by
 unfold seqB at h ⊢
 simp only[Bool.and_eq_true,decide_eq_true_eq] at h ⊢
 obtain⟨⟨⟨h1,h2⟩,h3⟩,h4⟩:=h
 rw[castL_len] at h3 ⊢
 refine⟨⟨⟨?_,h2⟩,Nat.le_trans hs.length_le h3⟩,sort_sub h4 hs⟩
 rw[List.all_eq_true] at h1 ⊢
 intro x hx
 unfold castL at hx
 obtain⟨y,hy,rfl⟩:=List.mem_map.1 hx
 exact h1 _ (by unfold castL;exact List.mem_map.2 ⟨y,hs.subset hy,rfl⟩)
theorem sub_subM{X Y:List Nat}(hs:Y.Sublist X):subM (castL X) (castL Y)=true:=by
 rw[subM_iff]
 intro x
 have:(castL Y).Sublist (castL X):=by unfold castL;exact hs.map _
 exact this.count_le x
theorem mk2{l xs:List Int}(h:seqB l xs=true)(o:List Int)(a b s p n:Int):ccF (cqK l xs) (cqG l xs) o a b s p (cqT l xs) (cqP l xs) n=true:=by
 obtain⟨X,rfl,hX,h12,hg,-⟩:=seqB_nat h
 have hpw:pw X.length=2 ^ X.length:=rfl
 have hsp:=szTo_spec l X (pw X.length)
 cases hz:szB l X
 · obtain⟨e1,e2,e3,e4⟩:=cq_free h hz
   rw[e1,e2,e3,e4]
   have hn:szTo l X (pw X.length)=0:=by unfold szB szN at hz;simpa using hz
   unfold ccF
   rw[if_neg (by omega),if_neg (by omega),if_pos rfl,zfB_yes h]
   cases hb:(sbs l X).testBit 0
   · rfl
   · exfalso
     obtain⟨Y,hY,hY0,ht⟩:=(sbs_iff hg X hX 0).1 hb
     obtain⟨m,hm,rfl⟩:=sub_part hY
     rcases hsp with ⟨-,H⟩ | ⟨H,-⟩
     · refine H m (by rw[hpw];exact hm) (fun e=>hY0 ?_) ht
       subst e
       unfold partL
       simp
     · exact H hn
 · obtain⟨e1,e2,e3,e4⟩:=cq_yes h hz
   rw[e1,e2,e3,e4]
   have hn:szTo l X (pw X.length)≠0:=by unfold szB szN at hz;simpa using hz
   rcases hsp with ⟨H,-⟩ | ⟨-,H1,H2,-⟩
   · exact absurd H hn
   · have hR:szR l X=partL X (szTo l X (pw X.length)):=by unfold szR szL' szN;rw[if_neg hn]
     rw[hR]
     generalize szTo l X (pw X.length)=m at hn H1 H2
     have hs:=partL_sub X m
     have hq:=seq_sub h hs
     unfold ccF
     rw[if_neg (by omega),if_pos rfl,h,zsB_yes hq,H2,sub_subM hs]
     have hne:=partL_nz (by rw[hpw] at H1;exact H1) hn
     have:(castL (partL X m)).length≠0:=by rw[castL_len];exact fun e=>hne (List.length_eq_zero_iff.1 e)
     simp[this]
theorem mk4{l:List Int}{a:Int}(h:ftB l a=true)(o t q:List Int)(s p n:Int):ccF (if ftB l a then 4 else 0) (if ftB l a then l else []) o (if ftB l a then a else 0) (ftV l a) s p t q n=true:=by
 rw[if_pos h,if_pos h,if_pos h]
 have h1:isOneB l a=true:=by
  cases e:isOneB l a
  · rw[(ft_no e).1] at h;cases h
  · rfl
 obtain⟨m,rfl,h0,hm,-,hg⟩:=isOneB_nat h1
 unfold ccF
 rw[if_neg (by omega),if_neg (by omega),if_neg (by omega),if_pos rfl]
 cases hL:tileL l m 1 with
 | nil=>rw[(ft_nil hL).1] at h;cases h
 | cons x L =>
  rw[(ft_yes h1 hL).2]
  have c1:cnt 1=1:=by decide
  obtain⟨t1,t2,t3⟩:=tl_sound hg h0 hm (ord l+1) m 1 1 hm (one_lt hg) (sum_one hg hm).symm (by rw[c1,Nat.mul_one]) x (by show x∈tileL l m 1;rw[hL];simp)
  unfold tilF drF
  have e1:((m:Int)).toNat=m:=rfl
  have e2:((x:Int)).toNat=x:=rfl
  rw[e1,e2,isSetB_of hg hm,isSetB_of hg t1,t2,cnt_full hg,t3]
  simp
theorem mk6{k:Int}(h:inB k 1 3=true)(g o q:List Int)(a b s p:Int):ccF (ccK k) g o a b s p (ccT k) q (ccN k)=true:=by
 obtain⟨e1,e2,e3⟩:=cc_yes h
 rw[e1,e2,e3]
 unfold ccF
 rw[if_neg (by omega),if_neg (by omega),if_neg (by omega),if_neg (by omega),if_neg (by omega),if_pos rfl]
 have:=inB_t.1 h
 rcases (by omega:k=1∨k=2∨k=3) with rfl | rfl | rfl<;>decide +kernel
theorem mk7{l:List Int}{a:Int}(h:smallF l a=true)(o t q:List Int)(b n:Int):ccF (if smallF l a then 7 else 0) (if smallF l a then l else []) o (if smallF l a then a else 0) b (scS l a) (scD l a) t q n=true:=by
 rw[if_pos h,if_pos h,if_pos h]
 obtain⟨m,rfl,hm,-,hg,hs⟩:=smallF_nat h
 obtain⟨e1,e2⟩:=sc_yes h
 have h2:=h
 unfold smallF at h2
 simp only[Bool.and_eq_true,decide_eq_true_eq] at h2
 obtain⟨⟨-,h0⟩,h3⟩:=h2
 obtain⟨f1,f2,f3,f4,f5,f6⟩:=small_fact hg hm (by omega) h3
 unfold ccF c7F
 rw[if_neg (by omega),if_neg (by omega),if_neg (by omega),if_neg (by omega),if_neg (by omega),if_neg (by omega),if_pos rfl,h,e1,e2]
 unfold dS at f1 f4
 show (true&&((((sumF l m (oppF l m):Nat):Int) == ((sumF l m (oppF l m):Nat):Int))&&subB l ((sumF l m (oppF l m):Nat):Int)&&(((sumF l m (sumF l m (oppF l m)):Nat):Int) == ((sumF l m (sumF l m (oppF l m)):Nat):Int)))&&(((cnt (sumF l m (sumF l m (oppF l m))):Nat):Int) == ((cnt (sumF l m (oppF l m)):Nat):Int)))=true
 rw[f1,f4]
 simp
end Go.Zz
