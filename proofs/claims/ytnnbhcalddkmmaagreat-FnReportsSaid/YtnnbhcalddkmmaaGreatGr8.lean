/- Plain facts: a number put into a list, the tiles of a search are distinct. No program is named here. -/
import Derived.Test.YtnnbhcalddkmmaaGreatGr7
import Derived.Deep.DeepCutAuto
set_option linter.unusedSimpArgs false
set_option linter.unusedVariables false
set_option linter.unnecessarySimpa false
set_option maxHeartbeats 4000000
set_option maxRecDepth 20000
namespace Go.Zz
def pkN(L:List Nat)(n:Nat):Nat->Nat
 | 0=>0
 | k+1=>if n<d8 L k then pkN L n k else k+1
theorem bx3{L:List Nat}{n k:Nat}(h:n<d8 L k):pkN L n (k+1)=pkN L n k:=by rw[pkN,if_pos h]
theorem bj5{L:List Nat}{n k:Nat}(h:¬n<d8 L k):pkN L n (k+1)=k+1:=by rw[pkN,if_neg h]
def b17(L:List Nat)(n k:Nat):List Nat:=L.take k++n :: L.drop k
def M7(L:List Nat)(n:Nat):List Nat:=if 0<pkN L n L.length∧d8 L (pkN L n L.length - 1)=n then L else b17 L n (pkN L n L.length)
theorem bs2(L:List Nat)(n:Nat):∀k,pkN L n k<=k
 | 0=>Nat.le_refl _
 | k+1=>by
  unfold pkN;split
  . exact Nat.le_succ_of_le (bs2 L n k)
  . exact Nat.le_refl _
theorem je2{L:List Nat}{n k:Nat}(hk:pkN L n L.length=k+1)(h:d8 L k=n):M7 L n=L:=by
 unfold M7;rw[hk,if_pos ⟨om,h⟩]
theorem j45{L:List Nat}{n:Nat}(hk:pkN L n L.length=0):M7 L n=b17 L n 0:=by
 unfold M7;rw[hk,if_neg om]
theorem je1{L:List Nat}{n k:Nat}(hk:pkN L n L.length=k+1)(h:¬d8 L k=n):M7 L n=b17 L n (k+1):=by
 unfold M7;rw[hk,if_neg (fun e=>h e.2)]
theorem c44{L:List Nat}{n k:Nat}(hk:k<=L.length):(b17 L n k).length=L.length+1:=by
 unfold b17;rw[List.length_append,List.length_cons,List.length_take,List.length_drop];omega
theorem j30{L:List Nat}{n k x:Nat}:x∈b17 L n k↔x=n∨x∈L:=by
 unfold b17;rw[List.mem_append,List.mem_cons];have h:x∈L↔x∈L.take k∨x∈L.drop k:=by rw[<-List.mem_append,List.take_append_drop]
 rw[h];constructor
 . rintro (a | a | a)
   . exact Or.inr (Or.inl a)
   . exact Or.inl a
   . exact Or.inr (Or.inr a)
 . rintro (a | a | a)
   . exact Or.inr (Or.inl a)
   . exact Or.inl a
   . exact Or.inr (Or.inr a)
theorem bx4(L:List Nat)(n:Nat):(M7 L n=L∧n∈L)∨M7 L n=b17 L n (pkN L n L.length):=by
 unfold M7;split
 . next h =>
    refine Or.inl ⟨rfl,?_⟩;have hle:=bs2 L n L.length;have:=o6 (L:=L) (k:=pkN L n L.length - 1) om;rwa [h.2] at this
 . exact Or.inr rfl
theorem cg7{L:List Nat}{n x:Nat}:x∈M7 L n↔x=n∨x∈L:=by
 rcases bx4 L n with ⟨e,h⟩ | e
 . rw[e];constructor
   . exact Or.inr
   . rintro (rfl | a)
     . exact h
     . exact a
 . rw[e];exact j30
theorem de6{L:List Nat}{n:Nat}(h:n ∉ L):(M7 L n).length=L.length+1:=by
 rcases bx4 L n with ⟨-,h2⟩ | e
 . exact absurd h2 h
 . rw[e];exact c44 (bs2 _ _ _)
theorem de5(L:List Nat)(n:Nat):(M7 L n).length<=L.length+1:=by
 rcases bx4 L n with ⟨e,-⟩ | e
 . rw[e];omega
 . rw[e,c44 (bs2 _ _ _)];exact Nat.le_refl _
def H6(T:List Nat):Nat->List Nat
 | 0=>[]
 | k+1=>M7 (H6 T k) (d8 T k)
theorem d00(T:List Nat):∀k,(H6 T k).length<=k
 | 0=>Nat.le_refl _
 | k+1=>by have:=d00 T k;have:=de5 (H6 T k) (d8 T k);unfold H6;omega
theorem cc4{T:List Nat}(h:T.Nodup):∀k,k<=T.length->(H6 T k).length=k∧∀x∈H6 T k,x∈T.take k
 | 0,_=>⟨rfl,by simp[H6]⟩
 | k+1,hk=>by
  obtain⟨h1,h2⟩:=cc4 h k om
  have hn:d8 T k ∉ H6 T k:=fun e=>by
   have:=h2 _ e
   rw[<-List.take_append_drop k T,List.nodup_append] at h
   have h4:d8 T k∈T.drop k:=by
    have e2:d8 T k=T[k]'om:=(by simp[d8,List.getD,show k<T.length by omega]);rw[List.drop_eq_getElem_cons om,e2];exact List.mem_cons_self
   exact h.2.2 _ this _ h4 rfl
  refine⟨by unfold H6;rw[de6 hn,h1],fun x hx=>?_⟩
  unfold H6 at hx
  rw[I8 T k om,List.mem_append,List.mem_singleton]
  rcases cg7.1 hx with rfl | hx
  . exact Or.inr rfl
  . exact Or.inl (h2 x hx)
def d46(l:List Int)(a u b y:Nat):Prop:=∀d,(b.testBit d=true->y.testBit d=true)∧(y.testBit d=true->b.testBit d=true∨j6 l a d &&& u=0)
theorem c04{a b i:Nat}(h:a &&& b=0)(ha:a.testBit i=true):b.testBit i=false:=by
 cases hb:b.testBit i
 . rfl
 . have:(a &&& b).testBit i=true:=(by rw[Nat.testBit_and,ha,hb];rfl);rw[h,Nat.zero_testBit] at this;cases this
theorem d52{a b c:Nat}(h:a &&& (b ||| c)=0):a &&& b=0:=by
 apply Nat.eq_of_testBit_eq;intro i;rw[Nat.zero_testBit,Nat.testBit_and];cases ha:a.testBit i
 . rfl
 . have:=c04 h ha;rw[Nat.testBit_or,Bool.or_eq_false_iff] at this;rw[this.1];rfl
theorem d46.back{l:List Int}{a u b D y:Nat}(hz:j6 l a D &&& u=0)(h:d46 l a (u ||| j6 l a D) (b ||| 2 ^ D) y):d46 l a u b y:=fun d=>by
 obtain⟨h1,h2⟩:=h d
 refine⟨fun hb=>h1 (by rw[Nat.testBit_or,hb];rfl),fun hy=>?_⟩
 rcases h2 hy with h3 | h3
 . rw[Nat.testBit_or,Bool.or_eq_true,Nat.testBit_two_pow] at h3
   rcases h3 with h3 | h3
   . exact Or.inl h3
   . have:D=d:=by simpa using h3
     subst this;exact Or.inr hz
 . exact Or.inr (d52 h3)
theorem jg0{c:Nat->Prop}[DecidablePred c]{G:Nat->Nat->List Nat}{Q:Nat->Nat->Prop}{E:List Nat}{m:Nat}(hG:∀x k,x∈E->c x->(G x k).Nodup∧∀y∈G x k,Q x y)
 (hQ:∀x∈E,∀x'∈E,∀y,c x->c x'->Q x y->Q x' y->x=x') :
 ∀(L pre out:List Nat),(pre++L).Nodup->(∀x∈pre++L,x∈E)->out.Nodup->(∀y∈out,∃x∈pre,c x∧Q x y) ->
  (L.foldl (fun (out:List Nat) (x:Nat)=>if out.length<m∧c x then out++G x (m - out.length) else out) out).Nodup∧∀y∈L.foldl (fun (out:List Nat) (x:Nat)=>if out.length<m∧c x then out++G x (m - out.length) else out) out,∃x∈pre++L,c x∧Q x y:=by
 intro L
 induction L with
 | nil=>intro pre out _ _ h3 h4;exact⟨h3,by simpa using h4⟩
 | cons x L ih =>
  intro pre out h1 h2 h3 h4
  have e:pre++x :: L=(pre++[x])++L:=zm
  rw[List.foldl_cons,e]
  rw[e] at h1 h2
  refine ih (pre++[x]) _ h1 h2 ?_ ?_
  . split
    . next hc =>
       have hx:x∈E:=h2 x zm;obtain⟨g1,g2⟩:=hG x (m - out.length) hx hc.2;rw[List.nodup_append];refine⟨h3,g1,fun y hy z hz e=>?_⟩;subst e;obtain⟨x',hx',hc',hq⟩:=h4 y hy;have:=hQ x' (h2 x' (by simp[hx'])) x hx y hc' hc.2 hq (g2 y hz);subst this;rw[List.nodup_append] at h1;have h5:=h1.1;rw[List.nodup_append] at h5;exact h5.2.2 _ hx' _ zm rfl
    . exact h3
  . intro y hy
    split at hy
    . next hc =>
       rw[List.mem_append] at hy;rcases hy with hy | hy
       . obtain⟨x',hx',hq⟩:=h4 y hy;exact⟨x',by simp[hx'],hq⟩
       . exact⟨x,zm,hc.2,(hG x _ (h2 x zm) hc.2).2 y hy⟩
    . obtain⟨x',hx',hq⟩:=h4 y hy;exact⟨x',by simp[hx'],hq⟩
theorem d81{l:List Int}(hg:j1 l=true){u x:Nat}(hu:bp4 u<ord l):m6 l (dF l u x) x=bp4 u:=by
 unfold dF;rw[I0 l (m9 hg),D4 l (p9 l x) x,J6 l (m9 hg),D4 l,A7 l (m9 hg) _ hu]
theorem jb8{l:List Int}{u:Nat}(hu:u<2 ^ ord l)(ho:ord l<=24)(h:u≠l9 l):bp4 u<ord l∧u.testBit (bp4 u)=false:=by
 have hex:∃e,u.testBit e=false∧e<ord l:=Classical.byContradiction fun hn=>h (ch0 hu (e:=ord l) (fun j hj=>Classical.byContradiction fun hb=>hn ⟨j,by simpa using hb,hj⟩) (Nat.le_refl _));have key:∀n,(∃e,e<n∧u.testBit e=false)->∃e,e<n∧u.testBit e=false∧∀j,j<e->u.testBit j=true:=by
  intro n;induction n with
  | zero=>rintro⟨e,he,_⟩;omega
  | succ n ih =>
   rintro⟨e,he,hb⟩;by_cases hc:∃e,e<n∧u.testBit e=false
   . obtain⟨e',h1,h2⟩:=ih hc;exact⟨e',om,h2⟩
   . have e0:e=n:=Classical.byContradiction fun hn=>hc ⟨e,om,hb⟩;subst e0;exact⟨e,om,hb,fun j hj=>Classical.byContradiction fun hb=>hc ⟨j,hj,by simpa using hb⟩⟩
 obtain⟨e,he,hb⟩:=hex;obtain⟨e',h1,h2,h3⟩:=key (ord l) ⟨e,hb,he⟩;rw[ct0 h3 h2 om];exact⟨h1,h2⟩
theorem db4{l:List Int}(hg:j1 l=true){a u x:Nat}(hu:bp4 u<ord l)(hx:x∈j7 a):(j6 l a (dF l u x)).testBit (bp4 u)=true:=by
 rw[D0];exact⟨x,(F3.1 hx).1,(F3.1 hx).2,d81 hg hu⟩
theorem j72{l:List Int}(hg:j1 l=true){a:Nat}(ha:a<2 ^ ord l):∀f u b m,u<2 ^ ord l->(∀d,b.testBit d=true->Sub (j6 l a d) u) ->
 (tlS l a f u b m).Nodup∧∀y∈tlS l a f u b m,d46 l a u b y:=by
 intro f;induction f with
 | zero=>intro u b m _ _;simp[tlS]
 | succ f ih =>
  intro u b m hu hI;have hob:=m8 hg;by_cases hfull:u=l9 l
  . rw[cj5 hfull];refine⟨zm,fun y hy=>?_⟩;rw[List.mem_singleton] at hy;subst hy;exact fun d=>⟨id,Or.inl⟩
  . obtain⟨hl1,hl2⟩:=jb8 hu hob.2 hfull;have hbit:∀x∈j7 a,x<ord l:=fun x hx=>Classical.byContradiction fun hn=>by
     have:=U2 ha (Nat.le_of_not_lt hn);rw[(F3.1 hx).2] at this;cases this
    unfold tlS;rw[if_neg hfull];have key:=jg0 (c:=fun x=>j6 l a (dF l u x) &&& u=0) (G:=fun x k=>tlS l a f (u ||| j6 l a (dF l u x)) (b ||| 2 ^ dF l u x) k) (Q:=fun x y=>d46 l a (u ||| j6 l a (dF l u x)) (b ||| 2 ^ dF l u x) y) (E:=j7 a) (m:=m)
     (fun x k hx hc=>ih _ _ k (Nat.or_lt_two_pow hu (Y5 (m9 hg) a _)) fun d hd=>by
      rw[Nat.testBit_or,Bool.or_eq_true,Nat.testBit_two_pow] at hd
      rcases hd with hd | hd
      . exact (hI d hd).trans (Sub.or_left _ _)
      . have:dF l u x=d:=by simpa using hd
        subst this;exact Sub.or_right _ _)
     (fun x hx x' hx' y hc hc' hq hq'=>by
      have hD:y.testBit (dF l u x')=true:=(hq' _).1 (by rw[Nat.testBit_or,Nat.testBit_two_pow];simp)
      have hs':=db4 hg hl1 hx'
      have hs:=db4 hg hl1 hx
      rcases (hq _).2 hD with h1 | h1
      . rw[Nat.testBit_or,Bool.or_eq_true,Nat.testBit_two_pow] at h1
        rcases h1 with h1 | h1
        . have:=hI _ h1 _ hs'
          rw[hl2] at this;cases this
        . have e:dF l u x=dF l u x':=by simpa using h1
          have e1:=d81 hg (x:=x) hl1
          have e2:=d81 hg (x:=x') hl1
          rw[e] at e1
          exact Y9 (m9 hg) (hbit x hx) (hbit x' hx') (e1.trans e2.symm)
      . have:=c04 h1 hs'
        rw[Nat.testBit_or,hs] at this;simp at this)
     (j7 a) [] [] (by simpa using bo9 a) zm zm zm
    refine⟨key.1,fun y hy=>?_⟩;obtain⟨x,-,hc,hq⟩:=key.2 y hy;exact hq.back hc
theorem dm0{l:List Int}(hg:j1 l=true){a:Nat}(ha:a<2 ^ ord l)(m:Nat):(P8 l a m).Nodup :=
 (j72 hg ha _ _ _ _ ha fun d hd=>by
  have:d=0:=by
   rw[show (1:Nat)=2 ^ 0 from rfl,Nat.testBit_two_pow] at hd;have:0=d:=(by simpa using hd);omega
  subst this
  rw[bp7 hg ha];exact Sub.refl _).1
def L9(f:Nat->Nat)(P:List Nat)(k:Nat):List Nat:=(List.range k).foldl (fun L j=>M7 L (f j)) P
theorem du9(f:Nat->Nat)(P:List Nat):L9 f P 0=P:=rfl
theorem b46(f:Nat->Nat)(P:List Nat)(k:Nat):L9 f P (k+1)=M7 (L9 f P k) (f k):=by unfold L9;rw[List.range_succ,List.foldl_append];rfl
theorem b31(f:Nat->Nat)(P:List Nat):∀k,(L9 f P k).length<=P.length+k
 | 0=>Nat.le_refl _
 | k+1=>by rw[b46];have:=b31 f P k;have:=de5 (L9 f P k) (f k);omega
theorem K3{f:Nat->Nat}{P:List Nat}{x:Nat}:∀{k},x∈L9 f P k↔x∈P∨∃j,j<k∧x=f j
 | 0=>by simp[du9]
 | k+1=>by
  rw[b46,cg7,K3]
  constructor
  . rintro (h | h | ⟨j,hj,e⟩)
    . exact Or.inr ⟨k,om,h⟩
    . exact Or.inl h
    . exact Or.inr ⟨j,om,e⟩
  . rintro (h | ⟨j,hj,e⟩)
    . exact Or.inr (Or.inl h)
    . by_cases hjk:j=k
      . subst hjk;exact Or.inl e
      . exact Or.inr (Or.inr ⟨j,om,e⟩)
def be7(l:List Int)(k:Nat):List Nat:=L9 (fun x=>genF l (2 ^ x)) [] k
def S9(l:List Int)(C:List Nat):Nat->List Nat
 | 0=>[]
 | k+1=>L9 (fun j=>l7 l (d8 C k) (d8 C j)) (S9 l C k) (k+1)
theorem c40(l:List Int)(C:List Nat):∀k,(S9 l C k).length<=k*k
 | 0=>Nat.le_refl _
 | k+1=>by
  have h1:=c40 l C k
  have h2:=b31 (fun j=>l7 l (d8 C k) (d8 C j)) (S9 l C k) (k+1)
  show (L9 _ _ _).length<=_
  have e:(k+1)*(k+1)=k*k+k+k+1:=by rw[Nat.add_mul,Nat.mul_add];omega
  omega
def U3(l:List Int)(T C:List Nat):Nat->List Nat
 | 0=>T
 | k+1=>L9 (fun j=>l7 l (d8 T k) (d8 C j)) (U3 l T C k) C.length
theorem c67(l:List Int)(T C:List Nat):∀k,(U3 l T C k).length<=T.length+k*C.length
 | 0=>by simp[U3]
 | k+1=>by
  have h1:=c67 l T C k
  have h2:=b31 (fun j=>l7 l (d8 T k) (d8 C j)) (U3 l T C k) C.length
  show (L9 _ _ _).length<=_
  rw[Nat.add_mul]
  omega
def L8(l:List Int):List Nat:=be7 l (ord l)
def b57(l:List Int):List Nat:=S9 l (L8 l) (L8 l).length
def sgL(l:List Int):List Nat:=U3 l (b57 l) (L8 l) (b57 l).length
theorem ce8{l:List Int}(hg:j1 l=true):(L8 l).length<=24:=by
 have:=b31 (fun x=>genF l (2 ^ x)) [] (ord l);have:=m8 hg;simp only[List.length_nil] at *;show (L9 _ _ _).length<=_;omega
theorem di0{l:List Int}(hg:j1 l=true):(b57 l).length<=576:=by
 have h1:=c40 l (L8 l) (L8 l).length;have h2:=ce8 hg;exact nle h1 (Nat.mul_le_mul h2 h2)
theorem c93{l:List Int}(hg:j1 l=true):(sgL l).length<=14400:=by
 have h1:=c67 l (b57 l) (L8 l) (b57 l).length;have h2:=ce8 hg;have h3:=di0 hg;have h4:(b57 l).length*(L8 l).length<=576*24:=Nat.mul_le_mul h3 h2;show (U3 _ _ _ _).length<=_;omega
theorem jp8{l:List Int}(hg:j1 l=true){k x:Nat}(h:x∈be7 l k):x<2 ^ ord l:=by
 rcases K3.1 h with h | ⟨j,_,rfl⟩
 . cases h
 . exact b22 hg _
theorem dd9{l:List Int}(hg:j1 l=true){C:List Nat}:∀{k x},x∈S9 l C k->x<2 ^ ord l
 | 0,x,h=>by cases h
 | k+1,x,h=>by
  rcases K3.1 h with h | ⟨j,_,rfl⟩
  . exact dd9 hg h
  . exact bt2 (m9 hg) _ _
theorem jp0{l:List Int}(hg:j1 l=true):∀x∈b57 l,x<2 ^ ord l:=fun _ h=>dd9 hg h
theorem dr1{l:List Int}(hg:j1 l=true){L:List Nat}(h:∀x∈L,x<2 ^ ord l)(k:Nat):d8 L k<2 ^ ord l:=by
 by_cases hk:k<L.length
 . exact h _ (o6 hk)
 . have:d8 L k=0:=(by simp[d8,List.getD,hk]);rw[this];exact Nat.two_pow_pos _
theorem jj7{l:List Int}(hg:j1 l=true):0<(L8 l).length:=by
 have hob:=m8 hg;have:genF l (2 ^ 0)∈L8 l:=K3.2 (Or.inr ⟨0,om,rfl⟩);exact List.length_pos_of_mem this
theorem jr4{l:List Int}(hg:j1 l=true):0<(sgL l).length:=by
 have h1:=jj7 hg;have h2:l7 l (d8 (L8 l) 0) (d8 (L8 l) 0)∈S9 l (L8 l) 1:=K3.2 (Or.inr ⟨0,om,rfl⟩);have key:∀k,1<=k->l7 l (d8 (L8 l) 0) (d8 (L8 l) 0)∈S9 l (L8 l) k:=by
  intro k hk;induction k with
  | zero=>omega
  | succ k ih =>
   by_cases e:k=0
   . subst e;exact h2
   . exact K3.2 (Or.inl (ih om))
 have h3:=key _ h1;have key2:∀k,l7 l (d8 (L8 l) 0) (d8 (L8 l) 0)∈U3 l (b57 l) (L8 l) k:=by
  intro k;induction k with
  | zero=>exact h3
  | succ k ih=>exact K3.2 (Or.inl ih)
 exact List.length_pos_of_mem (key2 _)
theorem ji4{a x:Nat}(h:a.testBit x=false):a+2 ^ x=a ||| 2 ^ x:=by
 have h1:a &&& 2 ^ x=0:=Nat.eq_of_testBit_eq fun i=>by
  rw[Nat.testBit_and,Nat.testBit_two_pow,Nat.zero_testBit]
  by_cases e:x=i
  . subst e;rw[h];rfl
  . simp[e]
 have e1:a<2 ^ (max a (2 ^ x)+1):=nlt (Nat.lt_two_pow_self) (Nat.pow_le_pow_right om om);have e2:2 ^ x<2 ^ (max a (2 ^ x)+1):=nlt (Nat.lt_two_pow_self) (Nat.pow_le_pow_right om om);have h2:=bi1 (max a (2 ^ x)+1) (a ||| 2 ^ x) (2 ^ x) (Nat.or_lt_two_pow e1 e2);have h3:E0 (a ||| 2 ^ x) (2 ^ x)=a:=Nat.eq_of_testBit_eq fun i=>by
  rw[Q4,Nat.testBit_or,Nat.testBit_two_pow]
  by_cases e:x=i
  . subst e;simp[h]
  . simp[e]
 have h4:(a ||| 2 ^ x) &&& 2 ^ x=2 ^ x:=Nat.eq_of_testBit_eq fun i=>by
  rw[Nat.testBit_and,Nat.testBit_or,Nat.testBit_two_pow]
  by_cases e:x=i<;>simp[e]
 rw[h3,h4] at h2;exact h2
def soG(l:List Int):List Int->Nat->Option Nat
 | [],a=>some a
 | x :: r,a=>if N3 l x && !a.testBit x.toNat then soG l r (a ||| 2 ^ x.toNat) else none
def soB(l X:List Int):Bool:=(soG l X 0).isSome&&j1 l
def soV(l X:List Int):Int:=match soG l X 0 with | some a=>(a:Int) | none=>0
theorem co9{l X:List Int}(h:soG l X 0=none):soB l X=false∧soV l X=0:=by unfold soB soV;rw[h];exact⟨rfl,rfl⟩
theorem ds3{l X:List Int}{a:Nat}(h:soG l X 0=some a):soB l X=j1 l∧soV l X=(a:Int):=by unfold soB soV;rw[h];exact⟨zm,rfl⟩
theorem ds2{l r:List Int}{x:Int}{a:Nat}(h:N3 l x=false):soG l (x :: r) a=none:=by unfold soG;rw[h];rfl
theorem ds1{l r:List Int}{n a:Nat}(h:a.testBit n=true):soG l ((n:Int) :: r) a=none:=by unfold soG;simp[h]
theorem j59{l r:List Int}{n a:Nat}(h1:N3 l n=true)(h:a.testBit n=false):soG l ((n:Int) :: r) a=soG l r (a ||| 2 ^ n):=by
 conv=>lhs;unfold soG
 simp[h,h1]
open Go.RowKit Go.Proofs
theorem zz58{P:Prop}(h:P:=by go_wp2_with fail;(refine wl hE ?_);(repeat (go_big_quiet_step (first | (go_at_call 243;with_reducible exact Calls.lat (cI _)))));(refine zd ?_);(clear hE);(intro W hE);go_wp2_with fail;exact bodyPost_ret (v:=.tuple #[.int .i64 0,.bool false]) (by simp[results,Tryz.results332,go_sem]) rfl ⟨by rw[Hn.out.1,Hn.out.2],hE0.trans (hEb.trans hE)⟩):P:=h
theorem dx0(v:Value)(l:List Int)(vX:Value)(X:List Int)(w:World)(h:c9 w v l)(hX:c9 w vX X) :
 Calls Tryz.prog 332 #[.agg #[v],vX] w fun e w'=>e=.returned (.tuple #[.int .i64 (soV l X),.bool (soB l X)])∧Ext w w':=by
 obtain⟨wb,Hwb,hE0,hb,hg,hE,Hsz⟩:=ju3 28 h;clear h;obtain⟨ao,c,adr,rfl,hlen,hadr,hcell⟩:=hX.op;have hix:=j3 (c:=c) elI szI hadr;clear hadr hX;go_in;go_wp2_with fail;rw[<-Hwb.out];go_loopw [6,7] (fun av iv wr=>∃(k a:Nat),k<=X.length∧iv=.int .i64 k∧av=.int .i64 a∧a<2 ^ 24∧Ext wb wr∧Hid (soG l X 0=soG l (X.drop k) a)) (fun _ iv _=>X.length - (intOf iv).toNat);case atStart=>exact⟨0,0,om,rfl,rfl,by decide,hE,zh rfl⟩
 case round =>
  clear hE;obtain⟨k,a,hk,rfl,rfl,ha,hE,H⟩:=hrel;by_cases hlt:k<X.length
  . have hd:=bv5 X k hlt;have hck:=fun U=>hcell k _ hlt (hE0.trans (hE.trans (d5 wr U)));have kb:=fun U=>hb _ (hE.trans (d5 wr U));have cI:=fun U=>cf9 v l (nth X k) (Lat wr U) (hg _ (hE.trans (d5 wr U)));have hEb:=hE;clear hE;have hE:=er wr;cases hh:N3 l (nth X k)
    . have Hn:Hid (soB l X=false∧soV l X=0):=zh (co9 (by rw[H.out,hd,ds2 hh]));rw[hh] at cI;clear hd hh;exact zz58
    . rw[hh] at cI;obtain⟨n,hn,hno,hgr⟩:=b33 hh;have hob:=m8 hgr;have hck3:∀W,Ext wr W->W.cell? (adr k)=some (.int .i64 (n:Int)):=fun W hW=>(by rw[<-hn];exact hcell k _ hlt (hE0.trans (hEb.trans hW)));rw[hn] at hd hh cI hck;have hsh:=K0 (a:=a) (n:=n) om;have hbt:=X8 (a:=a) (n:=n) om om;have hs1:=p6 (n:=n) om;have hpw:=b51 (n:=n) om;cases ht:a.testBit n
      . rw[ht] at hbt;have Hn:Hid (soG l X 0=soG l (X.drop (k+1)) (a ||| 2 ^ n)):=zh (by rw[H.out,hd,j59 hh ht]);have Ha:Hid (((a:Int)+((pw n:Nat):Int))=((a ||| 2 ^ n:Nat):Int)):=zh (by rw[<-ji4 ht,dw6];simp);have hab:a ||| 2 ^ n<2 ^ 24:=Nat.or_lt_two_pow ha (Nat.pow_lt_pow_right om om)
        clear hd hh ht hgr hn;go_wp2_with fail;(refine wl hE ?_);(repeat (go_big_quiet_step (first | (go_at_call 243;with_reducible exact Calls.lat (cI _)))));(refine zd ?_);(clear hE);(intro W hE);go_wp2_with fail;go_roundw;(case rel=>exact⟨k+1,a ||| 2 ^ n,om,zg,by rw[Ha.out],hab,hEb.trans hE,Hn⟩);case measure=>exact zm1
      . rw[ht] at hbt;have Hn:Hid (soB l X=false∧soV l X=0):=zh (co9 (by rw[H.out,hd,ds1 ht]));clear hd hh ht hgr hn;exact zz58
  . have hkl:k=X.length:=(by omega);have Hn:Hid (soB l X=j1 l∧soV l X=(a:Int)):=zh (ds3 (by rw[H.out,hkl,List.drop_length];rfl));clear hkl;go_wp2_with (refine (A3 _ _ _ (hg _ hE)).mono ?_;rintro e w' ⟨rfl,hE'⟩;replace hE:=hE.trans hE');exact bodyPost_ret (v:=.tuple #[.int .i64 a,.bool (j1 l)]) (by simp[results,Tryz.results332,go_sem]) rfl ⟨by rw[Hn.out.1,Hn.out.2],hE0.trans hE⟩
theorem P0{P:Program}{ops:Array Oper}{o:Oper}{a:Act}{w:World}{K:Act->World->Prop}{Q:Exit->Act->World->Prop}{E:Prop}{T TI:TypeId}(hT:IntSl P T TI)
 (hg:o.guard=none) (s x:Operand) (hop:o.op=Op.call { callee:=Callee.builtin Builtin.append,args:=#[s,x],argTypes:=#[T,T] })
 (g:Nat) (u:Value) (m:List Int) (hs:a.eval s=.slice (some ⟨g,0,none⟩) 0 0) (hx:a.eval x=u) (hB:Blk w g TI #[]) (hI:c9 w u m) (w0:World) (h0:w0.heap.size<=g) (hE:Ext w0 w)
 (hK:∀ao c w',Own TI w0 w' (.slice ao m.length c) m->(∀k,(Value.slice ao m.length c).ownBlock=some k->k=g∨w.heap.size<=k)->Ext w w'->K (a.put o.dst (.slice ao m.length c)) w') :
 if Region.wanted o (yielded ops a.tmps)=true then Oper.wp P o a w K Q else E:=by
 have hw:Region.wanted o (yielded ops a.tmps)=true:=by simp[Region.wanted,hg]
 rw[if_pos hw];obtain⟨i,hi,hz,hs1,hby⟩:=hT.info;have hown:w.ownsRow w0.heap.size TI 1 (.slice (some ⟨g,0,none⟩) 0 0) 0 []:=by
  exact zz154
 obtain⟨ao,c,rfl,hmc,hml,hc⟩:=hI;have key:m=[]->Oper.wp P o a w K Q:=by
  intro hm;subst hm;have hrun2:(Builtin.append_ #[T,T] o.type #[.slice (some ⟨g,0,none⟩) 0 0,.slice ao 0 c]).run P w=.ok (.slice (some ⟨g,0,none⟩) 0 0) w:=by
   have hrun:=run_append_owned_none (P:=P) w w0.heap.size T o.type TI i 1 hT.und hi (.slice (some ⟨g,0,none⟩) 0 0) 0 [] hown;rw[<-hrun];cases ao<;>simp[Builtin.append_,run_underlying hT.und,sizeOf,typeInfo,hi,Builtin.lenOf,Builtin.firstCells,go_sem]
  unfold Oper.wp;simp[execOp,hop,resolve,invoke,builtin,hs,hx,hrun2,Result.andThen];exact hK (some ⟨g,0,none⟩) 0 _ ⟨by simpa using hown,zm⟩ (fun k hk=>by simp[Value.ownBlock] at hk;exact Or.inl hk.symm) (er w)
 by_cases hm:m=[]
 . exact key hm
 . have hpos:0<m.length:=Nat.pos_of_ne_zero (fun e=>hm (List.eq_nil_of_length_eq_zero e));cases ao with
   | none=>obtain⟨_,h,_⟩:=hc 0 hpos;cases h
   | some ad =>
    obtain⟨v',w',hrun,r1,r2⟩:=run_append_arg_grows (P:=P) (w:=w) T o.type TI i (.int .i64 0) 1 8 hT.und hi hz hs1 hby rfl om ⟨g,0,none⟩ 0 0 [] zm zm ad m.length c (m.map (Value.int .i64)) zm (by
     intro j u hu;have hj:j<m.length:=(by have:=(List.getElem?_eq_some_iff.1 hu).1;simpa using this);obtain⟨a',ha',hc'⟩:=hc j hj;cases ha';rw[hc',<-hu,bc2 _ _ hj];simp[hj]) om (by unfold maxLen;omega) om
    unfold Oper.wp;simp[execOp,hop,resolve,invoke,builtin,hs,hx,hrun,Result.andThen];have hO':Own TI w w' v' m:=⟨by simpa using r1,hml⟩;obtain⟨ao',c',rfl,-⟩:=hO'.shape;exact hK ao' c' w' (hO'.mono hE) (fun k hk=>Or.inr (hO'.blk k hk).1) ((er w).grown r2 zm)
theorem d26(w:World)(a:Addr)(u:Value):w.grownBy (w.setCell a u) (some a.block) :=
 ⟨rfl,rfl,rfl,zm,fun k _ hk=>Below.heap_setCell _ _ _ _ (fun e=>hk (by rw[e]))⟩
theorem Own.setCell_ne{TI:TypeId}{w0 w:World}{v:Value}{l:List Int}(h:Own TI w0 w v l){p:Addr}(hp:v.ownBlock≠some p.block)(u:Value):Own TI w0 (w.setCell p u) v l :=
 h.kept (d26 w p u) (Or.inr hp)
theorem Own.ne_blk{TI T:TypeId}{w0 w:World}{v:Value}{l:List Int}(h:Own TI w0 w v l){g:Nat}{cs:Array Value}(hB:Blk w g T cs)(hT:T≠TI):v.ownBlock≠some g:=fun e=>by
 obtain⟨h1,h2⟩:=h
 rcases h1.2 with ⟨rfl,_⟩ | ⟨g',cap,cur,rfl,_,hh,_⟩
 . cases e
 . simp[Value.ownBlock] at e
   subst e
   have hB':w.heap[g']?=some (.cells cs T (0,0)):=hB
   rw[hB'] at hh
   simp at hh
   exact hT hh.2
end Go.Zz
