/- Plain facts on translates: bm7 covers, greedy covers, packings, tiles; sizes of intersections are counts of differences. -/
import Derived.Test.YtjhoafjeopcheaaGreatGr19
set_option linter.all false
set_option maxHeartbeats 2000000
set_option maxRecDepth 8000
namespace Go.Zz
open Go.RowKit Go.Proofs
variable(o:Int)(r:LI){P L:LN}{u i h k z n A B v a b x y:Nat}
theorem jf2(p q:Nat->Bool):∀L:LN,(L.filter (fun x=>p x || q x)).length+(L.filter (fun x=>p x&&q x)).length=(L.filter p).length+(L.filter q).length
 |[]=>rfl
 |x :: L=>by
  have i:=jf2 p q L
  simp only[List.filter_cons]
  cases p x<;>cases q x<;>simp<;>omega
theorem d28(a b:Nat):cnt (a ||| b)+cnt (a &&& b)=cnt a+cnt b:=by
 have h:=jf2 (fun i=>a.testBit i) (fun i=>b.testBit i) (List.range 24);unfold cnt j3;have E:(fun i=>(a ||| b).testBit i)=(fun i=>a.testBit i || b.testBit i):=by funext i;exact oN _ _ _
 have e:(fun i=>(a &&& b).testBit i)=(fun i=>a.testBit i&&b.testBit i):=by funext i;exact pC _ _ _
 rw[E,e];exact h
theorem l41{l:LI}(H:d7 l=true):cnt (l6 l)=ord l:=by
 have C:=l8 H;have e:j3 (l6 l)=E2 (l6 l) (ord l):=(T5 C.2 (bu9 l)).symm;unfold cnt;rw[e];unfold E2;rw[List.filter_eq_self.2 fun i J=>by rw[by1];simpa using J];simp
theorem jo1{l:LI}(Z:z<24):j7 l a (b ||| 2^z)=j7 l a b ||| j6 l a z:=by
 refine oK fun i=>b18 ?_;rw[oN,pG,C7,C7,E8];constructor;rintro⟨u,v,h,H,C,V,e⟩;rw[oN,c28,pG,decide_eq_true_iff]at V;rcases V with q|q;exact Or.inl ⟨u,v,h,H,C,q,e⟩;subst q;exact Or.inr ⟨u,h,H,by rw[E4];exact e⟩;rintro (⟨u,v,h,H,C,V,e⟩|⟨u,h,H,e⟩);exact⟨u,v,h,H,C,by rw[oN,V];rfl,e⟩;exact⟨u,z,h,H,Z,by rw[oN,c28];simp,by rw[E4];exact e⟩
theorem l01{l:LI}(Z:z<24)(h:b.testBit z=true):Sub (j6 l a z) (j7 l a b):=fun i J=>by
 obtain⟨u,H,U,e⟩:=E8.1 J
 exact C7.2 ⟨u,z,H,U,Z,h,by rw[E4];exact e⟩
def Til(l:LI)(a Y:Nat):Prop:=Y<2^ord l/\j7 l a Y=l6 l/\cnt a*cnt Y=ord l
theorem dv9{P:Nat->Prop}[DecidablePred P]{Q:Nat->Prop}(m:Nat)(F:Nat->Nat->LN):∀(L:LN) (o:LN),(∀z∈o,Q z)->(∀x∈L,P x->∀k,∀z∈F x k,Q z)->∀z∈L.foldl (fun (o:LN) (x:Nat)=>if o.length<m/\P x then o++F x (m-o.length)else o) o,Q z
 |[],o,h,_=>h
 | y :: L,o,h,hF=>by
  rw[oR]
  refine dv9 m F L _ ?_ (fun x K=>hF x (by simp[K]))
  split
  . next e =>
     intro z H;rw[oP]at H;rcases H with H|H
     . exact h z H
     . exact hF y zm e.2 _ z H
  . exact h
theorem j67{l:LI}(H:d7 l=true){a:Nat}(M:a≠0)(A:a<2^ord l):∀f u b m,u<2^ord l->b<2^ord l->u=j7 l a b->cnt u=cnt a*cnt b->∀z∈tlS l a f u b m,Til l a z
 |0,_,_,_,_,_,_,_,z,h=>by simp[tlS]at h
 | f+1,u,b,m,hu,hb,hs,hc,z,h=>by
  have O:=l8 H
  by_cases F:u=l6 l
  . rw[cb3 F,oE]at h
    subst h
    exact⟨hb,by rw[<-hs,F],by rw[<-hc,F,l41 H]⟩
  . unfold tlS at h
    rw[if_neg F]at h
    refine dv9 (P:=fun x=>j6 l a (dF l u x) &&& u=0) (Q:=Til l a) m (fun x k=>tlS l a f (u ||| j6 l a (dF l u x)) (b ||| 2^dF l u x) k) (j3 a) [] zm ?_ z h
    intro x K p k z h
    have D:=lz3 H u x
    obtain⟨d,hd⟩:=nq (dF l u x)
    have Z:z∈tlS l a f (u ||| j6 l a (dF l u x)) (b ||| 2^dF l u x) k:=h
    rw[<-hd]at Z p D
    have n:=de7 H M A hu d p
    have B:b.testBit d=false:=by
     refine oU fun q=>?_;have J:b.testBit d=true:=(by simpa using q);have o:=l01 (l:=l) (a:=a) (by omega:d<24) J;have r:u ||| j6 l a d=u:=by
      refine oK fun i=>b18 ?_;rw[oN,pG];exact⟨fun e=>e.elim id fun e=>by rw[hs];exact o i e,Or.inl⟩
     rw[r]at n;omega
    refine j67 H M A f _ _ k n.1 (ox hb (oJ om D)) (by rw[jo1 om,<-hs]) ?_ z Z
    have T:=d28 u (j6 l a d)
    rw[Nat.and_comm]at T
    rw[p,Z1,bf2 H A]at T
    have c:=c74 (nlt hb (E7 H)) (by omega:d<24) B
    rw[c,Nat.mul_add,Nat.mul_one];omega
theorem lo7{l:LI}(H:d7 l=true)(A:a<2^ord l):j7 l a 1=a:=by
 have o:=l8 H;refine oK fun i=>b18 ?_;rw[C7];constructor;rintro⟨u,v,U,h,C,V,e⟩;rw[lm4,decide_eq_true_iff]at V;subst V;rw[<-e,d21 (m0 H) (L7 A h)];exact h;intro J;have:=L7 A J;exact⟨i,0,om,J,om,by decide,d21 (m0 H) this⟩
theorem d85{l:LI}(K:x<24)(h:y<24)(o:a.testBit x=true)(r:b.testBit y=true):(j7 l a b).testBit (j9 l x y)=true:=C7.2 ⟨x,y,K,o,h,r,rfl⟩
def bj8(l:LI)(x y:Nat):Nat:=j9 l x (q7 l y)
section
variable {l:LI} (hO:V6 l)
include hO
theorem lc(x y z:Nat):j9 l x (j9 l y z)=j9 l y (j9 l x z):=by rw[<-M9 l hO,E4 l x y,M9 l hO]
theorem back{x y:Nat}(K:x<ord l):j9 l y (bj8 l x y)=x:=by
 unfold bj8;rw[lc hO,P0 l hO,E4,C9 l hO _ K]
theorem lm0(x y:Nat):q7 l (j9 l x y)=j9 l (q7 l x) (q7 l y):=by
 refine b26 hO (x:=j9 l x y) (U5 l hO _) (I4 l hO _ _) ?_;rw[P0 l hO,M9 l hO,lc hO y,P0 l hO,<-M9 l hO,P0 l hO,C9 l hO 0 (by have:=I4 l hO 0 0;omega)]
theorem l49(x:Nat):bj8 l x x=0:=P0 l hO x
theorem js0(x y:Nat):bj8 l x y<ord l:=I4 l hO _ _
end
theorem lr6{p q:Nat}(N:n<2^24)(o:Sub p n)(r:Sub q n)(h:cnt n<cnt p+cnt q):∃z,p.testBit z=true/\q.testBit z=true:=by
 have E:=cv6 (Sub.or o r);have e:=d28 p q;obtain⟨z,H⟩:=bh3 (ds4 (a:=p &&& q) om);rw[pC,ow]at H;exact⟨z,H⟩
def Cl(l:LI)(h:Nat):Prop:=h<2^ord l/\h.testBit 0=true/\∀x y,h.testBit x=true->h.testBit y=true->h.testBit (bj8 l x y)=true
theorem Cl.neg{l:LI}(H:d7 l=true)(c:Cl l h)(Y:h.testBit y=true):h.testBit (q7 l y)=true:=by
 have:=c.2.2 0 y c.2.1 Y;unfold bj8 at this;rwa [C9 l (m0 H) _ (U5 l (m0 H) y)]at this
theorem l99{l:LI}(hO:V6 l)(h:y<ord l):q7 l (q7 l y)=y :=
 b26 hO (x:=q7 l y) (U5 l hO _) h (by rw[P0 l hO,E4,P0 l hO])
theorem Cl.add{l:LI}(H:d7 l=true)(c:Cl l h)(K:h.testBit x=true)(Y:h.testBit y=true):h.testBit (j9 l x y)=true:=by
 have:=c.2.2 x (q7 l y) K (c.neg H Y);unfold bj8 at this;rwa [l99 (m0 H) (L7 c.1 Y)]at this
theorem Cl.gen{l:LI}(H:d7 l=true)(c:Cl l h):genF l h=h:=by
 refine Sub.antisymm (bi2 (fun i J=>?_) (fun i J=>?_)) (fun i J=>?_)
 . have:i=0:=by
    cases i with
    |zero=>rfl
    |succ i=>rw[pz]at J;simp at J
   subst this;exact c.2.1
 obtain⟨x,y,_,o,_,r,rfl⟩:=C7.1 J;exact c.add H o r;have b:=L7 c.1 J;have O:=l8 H;refine bd9 H h i ?_;refine C7.2 ⟨0,i,om,bf9 l h,om,J,C9 l (m0 H) i b⟩
theorem Cl.shift{l:LI}(H:d7 l=true)(c:Cl l h)(Y:h.testBit y=true):j6 l h y=h:=by
 have o:=l8 H;have:=d37 H (a:=h) Y (by have:=L7 c.1 Y;omega);rwa [c.gen H]at this
def Z6(l:LI)(x:Nat):Nat->Nat
 |0=>0
 |q+1=>j9 l x (Z6 l x q)
theorem c48{l:LI}(hO:V6 l):0<ord l:=by have:=I4 l hO 0 0;omega
theorem bk6{l:LI}(hO:V6 l)(x:Nat):∀q,Z6 l x q<ord l
 |0=>c48 hO
 |_+1=>I4 l hO _ _
def Clo(l:LI)(H:Nat->Prop):Prop:=H 0/\(∀x y,x<ord l->y<ord l->H x->H y->H (j9 l x y))/\(∀x,x<ord l->H x->H (q7 l x))
theorem Clo.mul{l:LI}(hO:V6 l){H:Nat->Prop}(h:Clo l H)(K:x<ord l)(O:H x):∀q,H (Z6 l x q)
 |0=>h.1
 |q+1=>h.2.1 _ _ K (bk6 hO x q) O (Clo.mul hO h K O q)
def do3(l:LI):LN->Nat->Prop
 |[],h=>h=0
 |x :: X,h=>∃q k,do3 l X k/\k<ord l/\h=j9 l (Z6 l x q) k
theorem bt6{o:Int}{r:LI}(h:1<=o.toNat)(a b:Nat):j9 (o :: r) (o.toNat*a) (o.toNat*b)=o.toNat*j9 r a b:=by
 simp only[j9];rw[Nat.mul_mod_right,Nat.mul_mod_right,Nat.mul_div_cancel_left _ om,Nat.mul_div_cancel_left _ om];simp
theorem dz1{o:Int}{r:LI}(h:1<=o.toNat)(x:Nat):∀q,Z6 (o :: r) (o.toNat*x) q=o.toNat*Z6 r x q
 |0=>by simp[Z6]
 |q+1=>by simp only[Z6];rw[dz1 h x q,bt6 h]
theorem j46{o:Int}{r:LI}(H:1<=o.toNat)(h:V6 (o :: r)):∀(X:LN) (k:Nat),do3 r X k->do3 (o :: r) (X.map (fun x=>o.toNat*x)) (o.toNat*k)
 |[],k,e=>by have E:k=0:=e;subst E;rfl
 |x :: X,k,⟨q,j,h1,h2,e⟩=>⟨q,o.toNat*j,j46 H h X j h1,by rw[bv3 h];exact qm h2 om,by rw[dz1 H,bt6 H,e]⟩
theorem db6(x y:Nat)(h:1<=o.toNat):j9 (o :: r) x y%o.toNat=(x%o.toNat+y%o.toNat)%o.toNat:=by
 simp only[j9];exact c34 (pu _ om)
theorem jf9(o:Int)(r:LI)(x:Nat)(h:1<=o.toNat):∀q,Z6 (o :: r) x q%o.toNat=(q*(x%o.toNat))%o.toNat
 |0=>by simp[Z6]
 |q+1=>by
  show j9 (o :: r) x (Z6 (o :: r) x q)%o.toNat=_
  rw[db6 o r _ _ h,jf9 o r x h q,Nat.add_mod_mod,Nat.add_mul,Nat.one_mul,Nat.add_comm]
theorem jg0(x:Nat)(h:1<=o.toNat):q7 (o :: r) x%o.toNat=(o.toNat-x%o.toNat)%o.toNat:=by
 simp only[q7];exact c34 (pu _ om)
theorem bm7{p:Nat->Prop}:∀n,p n->∃m,p m/\∀k,k<m->¬p k:=by
 intro n;induction n using Nat.strongRecOn with
 |_ n ih =>
  intro h;by_cases e:∃k,k<n/\p k
  . obtain⟨k,V,H⟩:=e;exact ih k V H
  . exact⟨n,h,fun k V H=>e ⟨k,V,H⟩⟩
theorem lv9:∀(l:LI),V6 l->∀H:Nat->Prop,Clo l H->∃X:LN,X.length=l.length/\(∀x∈X,x<ord l/\H x)/\∀h,h<ord l->H h->do3 l X h
 |[],_,H,_=>⟨[],rfl,fun _ h=>(by cases h),fun h L _=>(by rw[co8]at L;show h=0;omega)⟩
 | o :: r,hO,H,hH=>by
  have O:=hO.head
  have v:=hO.tail
  have R:=bv3 hO
  have Z:Clo r (fun k=>H (o.toNat*k)):=by
   refine⟨by simpa using hH.1,fun x y K Y V W=>?_,fun x K V=>?_⟩
   . show H (o.toNat*j9 r x y);rw[<-bt6 O];exact hH.2.1 _ _ (by rw[R];exact qm K om) (by rw[R];exact qm Y om) V W
   . show H (o.toNat*q7 r x);have e:o.toNat*q7 r x=q7 (o :: r) (o.toNat*x):=by
      simp only[q7];rw[Nat.mul_mod_right,Nat.mul_div_cancel_left _ om];simp
     rw[e];exact hH.2.2 _ (by rw[R];exact qm K om) V
  obtain⟨X,N,w,ha⟩:=lv9 r v _ Z
  have g:∃i,i<ord (o :: r)/\H i/\∀h,h<ord (o :: r)->H h->∃q,j9 (o :: r) h (q7 (o :: r) (Z6 (o :: r) i q))%o.toNat=0:=by
   by_cases z:∃h,h<ord (o :: r)/\H h/\0<h%o.toNat
   . obtain⟨V,j,P,n⟩:=z;obtain⟨d,⟨i,u,M,hd,I⟩,hn⟩:=bm7 (p:=fun d=>∃x,x<ord (o :: r)/\H x/\x%o.toNat=d/\0<d) (V%o.toNat) ⟨V,j,P,rfl,n⟩
     refine⟨i,u,M,fun h L a=>⟨(h%o.toNat)/d,?_⟩⟩;have m:=bk6 hO i ((h%o.toNat)/d);have hc:=hH.mul hO u M ((h%o.toNat)/d);have ht:d<o.toNat:=(by rw[<-hd];exact pu _ om);have f:j9 (o :: r) h (q7 (o :: r) (Z6 (o :: r) i ((h%o.toNat)/d)))%o.toNat=(h%o.toNat)%d:=by
      rw[db6 o r _ _ O,jg0 o r _ O,jf9 o r i O,hd];have V:h%o.toNat<o.toNat:=pu _ om;have W:(h%o.toNat)/d*d<=h%o.toNat:=Nat.div_mul_le_self _ _;have T:(h%o.toNat)/d*d+(h%o.toNat)%d=h%o.toNat:=(by rw[qE];exact Nat.div_add_mod _ _);have c:(h%o.toNat)%d<d:=pu _ I;generalize (h%o.toNat)/d*d=A at W T|-;generalize (h%o.toNat)%d=B at T c|-;generalize h%o.toNat=C at V W T|-;rw[qn (show A<o.toNat by omega)];by_cases J:A=0
      . subst J;simp;rw[qn om];omega
      . rw[qn (show o.toNat-A<o.toNat by omega),show C+(o.toNat-A)=B+o.toNat by omega,Nat.add_mod_right,qn om]
     rw[f];by_cases F:(h%o.toNat)%d=0
     . exact F
     . exact absurd ⟨_,I4 _ hO _ _,hH.2.1 _ _ L (U5 _ hO _) a (hH.2.2 _ m hc),f,om⟩ (hn _ (pu _ I))
   . refine⟨0,c48 hO,hH.1,fun h L a=>⟨0,?_⟩⟩;have e:h%o.toNat=0:=by
      false_or_by_contra;rename_i e;exact z ⟨h,L,a,om⟩
     rw[db6 o r _ _ O,jg0 o r _ O,e];show(0+(o.toNat-0%o.toNat)%o.toNat)%o.toNat=0;simp
  obtain⟨i,u,M,Q⟩:=g
  refine⟨i :: X.map (fun x=>o.toNat*x),by simp[N],fun x K=>?_,fun h L a=>?_⟩
  . rcases pM.1 K with rfl|K
    . exact⟨u,M⟩
    . obtain⟨y,Y,rfl⟩:=pp.1 K
      have:=w y Y
      exact⟨by rw[R];exact qm this.1 om,this.2⟩
  . obtain⟨q,hb⟩:=Q h L a
    have m:=bk6 hO i q
    have U:=I4 (o :: r) hO h (q7 (o :: r) (Z6 (o :: r) i q))
    have E:H (j9 (o :: r) h (q7 (o :: r) (Z6 (o :: r) i q))):=hH.2.1 _ _ L (U5 _ hO _) a (hH.2.2 _ m (hH.mul hO u M q))
    have b:j9 (o :: r) (Z6 (o :: r) i q) (j9 (o :: r) h (q7 (o :: r) (Z6 (o :: r) i q)))=h:=back hO L
    generalize j9 (o :: r) h (q7 (o :: r) (Z6 (o :: r) i q))=D at hb U E b
    have G:D=o.toNat*(D/o.toNat):=by have:=Nat.div_add_mod D o.toNat;omega
    have t:D/o.toNat<ord r:=(Nat.div_lt_iff_lt_mul om).2 (by rw[qE,<-R];exact U)
    have S:=ha (D/o.toNat) t (by rw[<-G];exact E)
    have s:=j46 O hO X _ S
    rw[<-G]at s
    exact⟨q,D,s,U,b.symm⟩
theorem cn8{l:LI}(H:d7 l=true){x:Nat}(K:x<ord l):∀q,(genF l (2^x)).testBit (Z6 l x q)=true
 |0=>bf9 l _
 | q+1=>by
  have h:=l8 H
  have o:(genF l (2^x)).testBit x=true:=by
   refine bd9 H (2^x) x (C7.2 ⟨0,x,om,bf9 l _,om,zm,C9 l (m0 H) x K⟩)
  exact cw6 H o (cn8 H K q)
theorem Cl.genF{l:LI}(H:d7 l=true)(a:Nat):Cl l (genF l a) :=
 ⟨ba9 H a,bf9 l a,fun _ _ K h=>cw6 H K (l65 H h)⟩
theorem Cl.sum{l:LI}(H:d7 l=true)(D:Cl l A)(h:Cl l B):Cl l (j7 l A B):=by
 have hO:=m0 H;refine⟨bg8 hO A B,?_,fun x y K Y=>?_⟩;have:=d85 (l:=l) (show 0<24 by omega) (show 0<24 by omega) D.2.1 h.2.1;rwa [C9 l hO 0 (c48 hO)]at this;obtain⟨a,b,_,M,_,C,rfl⟩:=C7.1 K;obtain⟨c,d,_,Q,_,hd,rfl⟩:=C7.1 Y;have o:=D.2.2 a c M Q;have r:=h.2.2 b d C hd;have O:=l8 H;have:=d85 (l:=l) (show bj8 l a c<24 by have:=js0 hO a c;omega) (show bj8 l b d<24 by have:=js0 hO b d;omega) o r;have e:bj8 l (j9 l a b) (j9 l c d)=j9 l (bj8 l a c) (bj8 l b d):=by
  unfold bj8;rw[lm0 hO];simp only[M9 l hO,E4 l,lc hO]
 rwa [e]
theorem Cl.clo{l:LI}(H:d7 l=true)(h:Cl l u):Clo l (fun x=>u.testBit x=true) :=
 ⟨h.2.1,fun _ _ _ _ o r=>h.add H o r,fun _ _ o=>h.neg H o⟩
theorem de1{l:LI}(H:d7 l=true)(h:Cl l u)(K:u.testBit x=true):Sub (genF l (2^x)) u:=by
 refine bi2 (fun i J=>?_) (fun i J=>?_)
 . have:i=0:=by
    cases i with
    |zero=>rfl
    |succ i=>rw[pz]at J;simp at J
   subst this;exact h.2.1
 obtain⟨a,b,_,A,_,C,rfl⟩:=C7.1 J;have:b=x:=by
  rw[pd]at C;simpa using(of_decide_eq_true C).symm
 subst this;exact h.add H A K
theorem ji5{l:LI}(H:d7 l=true)(h:Cl l u)(E:Sub A u)(D:Sub B u):Sub (j7 l A B) u:=fun i J=>by
 obtain⟨a,b,_,M,_,C,rfl⟩:=C7.1 J
 exact h.add H (E a M) (D b C)
theorem cp2{l:LI}(H:d7 l=true)(h:Cl l v):∃x y z,x<ord l/\y<ord l/\z<ord l/\v=j7 l (j7 l (genF l (2^x)) (genF l (2^y))) (genF l (2^z)):=by
 have hO:=m0 H;have O:=l8 H;have T:=E5 H;obtain⟨X,G,M,p⟩:=lv9 l hO _ (h.clo H);have P:∃x y z,(x<ord l/\v.testBit x=true)/\(y<ord l/\v.testBit y=true)/\(z<ord l/\v.testBit z=true)/\∀u,u<ord l->v.testBit u=true->∃a b c,u=j9 l (Z6 l x a) (j9 l (Z6 l y b) (Z6 l z c)):=by
  have Z:0<ord l/\v.testBit 0=true:=⟨c48 hO,h.2.1⟩;have f:j9 l 0 0=0:=C9 l hO 0 (c48 hO);match X,G,M,p with
  |[],_,_,S=>exact⟨0,0,0,Z,Z,Z,fun u U d=>⟨0,0,0,by have e:u=0:=S u U d;rw[e];show 0=j9 l 0 (j9 l 0 0);rw[f,f]⟩⟩
  |[x],_,hm,S=>exact⟨x,0,0,hm x zm,Z,Z,fun u U d=>by
   obtain⟨q,k,V,s,e⟩:=S u U d
   have E:k=0:=V
   exact⟨q,0,0,by rw[e,E];show _=j9 l _ (j9 l 0 0);rw[f]⟩⟩
  |[x,y],_,hm,S=>exact⟨x,y,0,hm x zm,hm y zm,Z,fun u U d=>by
   obtain⟨q,k,⟨Q,g,n,r,W⟩,s,e⟩:=S u U d
   have E:g=0:=n
   exact⟨q,Q,0,by rw[e,W,E];rfl⟩⟩
  |[x,y,z],_,hm,S=>exact⟨x,y,z,hm x zm,hm y zm,hm z zm,fun u U d=>by
   obtain⟨q,k,⟨Q,g,⟨i,j,o,D,m⟩,r,W⟩,s,e⟩:=S u U d
   have E:j=0:=o
   exact⟨q,Q,i,by rw[e,W,m,E,E4 l (Z6 l z i) 0,C9 l hO _ (bk6 hO z i)]⟩⟩
  |x :: y :: z :: t :: R,hl,_,_=>simp at hl;omega
 obtain⟨x,y,z,K,Y,L,S⟩:=P;refine⟨x,y,z,K.1,Y.1,L.1,Sub.antisymm (fun u U=>?_) (ji5 H h (ji5 H h (de1 H h K.2) (de1 H h Y.2)) (de1 H h L.2))⟩;obtain⟨a,b,c,e⟩:=S u (L7 h.1 U) U;have C:=bk6 hO x a;have B:=bk6 hO y b;have w:=bk6 hO z c;have A:=I4 l hO (Z6 l x a) (Z6 l y b);rw[e,<-M9 l hO];exact d85 om om (d85 om om (cn8 H K.1 a) (cn8 H Y.1 b)) (cn8 H L.1 c)
theorem bv1(h:x∈L):∃k,k<L.length/\d5 L k=x:=by
 obtain⟨k,V,e⟩:=px h;exact⟨k,V,by simp[d5,List.getD,V,e]⟩
theorem ci3{l:LI}{C:LN}{i j:Nat}(H:j<=i):∀k,i<k->j7 l (d5 C i) (d5 C j)∈Y6 l C k
 |0,h=>by omega
 |k+1,h=>by
  by_cases e:i=k
  . subst e;exact X6.2 (Or.inr ⟨j,om,rfl⟩)
  . exact X6.2 (Or.inl (ci3 H k om))
theorem di8{l:LI}{T C:LN}{i j:Nat}(H:j<C.length):∀k,i<k->j7 l (d5 T i) (d5 C j)∈Y7 l T C k
 |0,h=>by omega
 |k+1,h=>by
  by_cases e:i=k
  . subst e;exact X6.2 (Or.inr ⟨j,H,rfl⟩)
  . exact X6.2 (Or.inl (di8 H k om))
theorem dt3{l:LI}(K:x<ord l):genF l (2^x)∈b06 l:=X6.2 (Or.inr ⟨x,K,rfl⟩)
theorem ly7{l:LI}(K:x<ord l)(H:y<ord l):j7 l (genF l (2^x)) (genF l (2^y))∈be7 l:=by
 obtain⟨i,J,e⟩:=bv1 (dt3 K);obtain⟨j,f,E⟩:=bv1 (dt3 H);rcases Nat.le_total j i with h|h;have:=ci3 (l:=l) (C:=b06 l) h (b06 l).length J;rwa [e,E]at this;have:=ci3 (l:=l) (C:=b06 l) h (b06 l).length f;rw[e,E]at this;rwa [bz8]
theorem jn6{l:LI}(H:d7 l=true)(h:Cl l u):u∈sgL l:=by
 obtain⟨x,y,Z,K,Y,z,rfl⟩:=cp2 H h;obtain⟨i,J,E⟩:=bv1 (ly7 K Y);obtain⟨j,e,b⟩:=bv1 (dt3 z);have:=di8 (l:=l) (T:=be7 l) (C:=b06 l) e (be7 l).length J;rwa [E,b]at this
theorem jr9{l:LI}(H:d7 l=true)(h:x∈b06 l):Cl l x:=by
 rcases X6.1 h with h|⟨j,_,rfl⟩;cases h;exact Cl.genF H _
theorem l16{l:LI}(H:d7 l=true){C:LN}(c:∀x∈C,Cl l x):∀{k x},k<=C.length->x∈Y6 l C k->Cl l x
 |0,x,_,h=>by cases h
 |k+1,x,hk,h=>by
  rcases X6.1 h with h|⟨j,J,rfl⟩
  . exact l16 H c om h
  . exact Cl.sum H (c _ (m7 om)) (c _ (m7 om))
theorem lg9{l:LI}(H:d7 l=true){T C:LN}(t:∀x∈T,Cl l x)(c:∀x∈C,Cl l x):∀{k x},k<=T.length->x∈Y7 l T C k->Cl l x
 |0,x,_,h=>t x h
 |k+1,x,hk,h=>by
  rcases X6.1 h with h|⟨j,J,rfl⟩
  . exact lg9 H t c om h
  . exact Cl.sum H (t _ (m7 om)) (c _ (m7 om))
theorem lw5{l:LI}(H:d7 l=true):u∈sgL l↔Cl l u :=
 ⟨fun h=>lg9 H (fun x K=>l16 H (fun y Y=>jr9 H Y) (oc _) K) (fun y Y=>jr9 H Y) (oc _) h,jn6 H⟩
theorem by8:∀{L M:LN},L.Nodup->(∀x∈L,x∈M)->L.length<=M.length
 |[],_,_,_=>oX _
 |x :: L,M,h,s=>by
  obtain⟨o,r⟩:=List.nodup_cons.1 h
  have K:=s x zm
  have i:=by8 (M:=M.erase x) r (fun y H=>(List.mem_erase_of_ne (fun e=>o (by rw[<-e];exact H))).2 (s y (by simp[H])))
  rw[List.length_erase_of_mem K]at i
  have:=List.length_pos_of_mem K
  simp only[oy]
  omega
theorem lb7{M:LN}(H:L.Nodup)(m:M.Nodup)(h:∀x,x∈L↔x∈M):L.length=M.length:=
 Nat.le_antisymm (by8 H fun x K=>(h x).1 K) (by8 m fun x K=>(h x).2 K)
def Asc(L:LN):Prop:=∀i j,i<j->j<L.length->d5 L i<d5 L j
theorem lg6{L:LN}{n:Nat}:∀m j,pkN L n m<=j->j<m->n<d5 L j
 |0,_,_,h=>by omega
 | m+1,j,h1,h2=>by
  by_cases h:n<d5 L m
  . rw[c98 h]at h1
    by_cases e:j=m
    . subst e;exact h
    . exact lg6 m j h1 om
  . rw[bv5 h]at h1;omega
theorem jy0{L:LN}{n:Nat}:∀m,0<pkN L n m->d5 L (pkN L n m-1)<=n
 |0,h=>by simp[pkN]at h
 | m+1,h=>by
  by_cases H:n<d5 L m
  . rw[c98 H]at h|-;exact jy0 m h
  . rw[bv5 H]
    show d5 L (m+1-1)<=n
    simp;omega
theorem d51(V:k<=L.length):d5 (b68 L n k) i=if i<k then d5 L i else if i=k then n else d5 L (i-1):=by
 unfold b68 d5;have H:(L.take k).length=k:=by rw[ol];omega
 split;rename_i h;simp only[List.getD];rw[List.getElem?_append_left om,List.getElem?_take_of_lt h];split;rename_i o r;subst r;simp only[List.getD];rw[List.getElem?_append_right om,H];simp;rename_i o r;simp only[List.getD];rw[List.getElem?_append_right om,H];obtain⟨d,rfl⟩:∃d,i=k+1+d:=⟨i-k-1,om⟩;rw[show k+1+d-k=d+1 by omega,List.getElem?_cons_succ,List.getElem?_drop,show k+d=k+1+d-1 by omega]
theorem li1(h:Asc L)(n:Nat):Asc (Q5 L n):=by
 unfold Q5;split;exact h;rename_i c;have V:=c49 L n L.length;have g:=fun j o r=>lg6 (L:=L) (n:=n) L.length j o r;have w:=jy0 (L:=L) (n:=n) L.length;generalize pkN L n L.length=k at c V g w|-;intro i j I H;rw[cj4 V]at H;rw[d51 V,d51 V];have U:∀q,q<k->d5 L q<n:=by
  intro q Q;have o:=w om;have r:d5 L (k-1)≠n:=fun e=>c ⟨om,e⟩;by_cases e:q=k-1
  rw[e];omega;have:=h q (k-1) om om;omega
 by_cases o:i<k;rw[if_pos o];by_cases r:j<k;rw[if_pos r];exact h i j I om;rw[if_neg r];by_cases T:j=k;rw[if_pos T];exact U i o;rw[if_neg T];have:=U i o;have:=g (j-1) om om;omega;rw[if_neg o,if_neg (show ¬j<k by omega),if_neg (show ¬j=k by omega)];by_cases r:i=k;rw[if_pos r];exact g (j-1) om om;rw[if_neg r];exact h (i-1) (j-1) om om
theorem jp3(h:Asc L):L.Nodup:=by
 rw[List.nodup_iff_pairwise_ne];rw[qg];intro i j J H I e;have:=h i j I H;simp[d5,List.getD,J,H,e]at this
theorem li0:Asc []:=fun _ _ _ h=>by simp at h
theorem ce6{f:Nat->Nat}{P:LN}(h:Asc P):∀k,Asc (Q3 f P k)
 |0=>h
 |k+1=>by rw[ba8];exact li1 (ce6 h k) _
theorem dp6(l:LI)(C:LN):∀k,Asc (Y6 l C k)
 |0=>li0
 |k+1=>ce6 (dp6 l C k) _
theorem dp7(l:LI){T:LN}(C:LN)(h:Asc T):∀k,Asc (Y7 l T C k)
 |0=>h
 |k+1=>ce6 (dp7 l C h k) _
theorem lb9(l:LI):(sgL l).Nodup:=jp3 (dp7 l _ (dp6 l _ _) _)
def bp8(P:LN)(y:Nat):LN:=if y∈P then P else P++[y]
theorem bn7:x∈bp8 P y↔x∈P\/x=y:=by
 unfold bp8;split;rename_i h;exact⟨Or.inl,fun q=>q.elim id fun e=>by rw[e];exact h⟩;simp
theorem j79(h:P.Nodup)(y:Nat):(bp8 P y).Nodup:=by
 unfold bp8;split;exact h;rename_i H;rw[qx];exact⟨h,zm,fun a A b C e=>H (by simp at C;rw[<-C,<-e];exact A)⟩
theorem d50(J:i<P.length):d5 (bp8 P y) i=d5 P i:=by
 unfold bp8;split;rfl;simp only[d5,List.getD];rw[List.getElem?_append_left J]
structure Bfs(l:LI)(P:LN)(i k:Nat):Prop where
 nodup:P.Nodup
 one:1∈P
 cl:∀x∈P,Cl l x
 done:∀j,j<i->∀x,x<ord l->genF l (d5 P j ||| 2^x)∈P
 part:∀x,x<k->genF l (d5 P i ||| 2^x)∈P
theorem lr3{l:LI}(H:d7 l=true):Cl l 1:=by
 refine⟨ci6 H,by decide,fun x y K h=>?_⟩;have z:∀i,(1:Nat).testBit i=true->i=0:=by
  intro i J;cases i with
  |zero=>rfl
  |succ i=>rw[pz]at J;simp at J
 rw[z x K,z y h,l49 (m0 H)];decide
theorem Bfs.start{l:LI}(H:d7 l=true):Bfs l [1] 0 0 :=
 ⟨zm,zm,fun x K=>by simp at K;subst K;exact lr3 H,fun _ h=>om,fun _ h=>om⟩
theorem Bfs.next{l:LI}(H:d7 l=true)(h:Bfs l P i k)(J:i<P.length):Bfs l (bp8 P (genF l (d5 P i ||| 2^k))) i (k+1):=by
 refine⟨j79 h.nodup _,bn7.2 (Or.inl h.one),fun x K=>?_,fun j f x K=>?_,fun x K=>?_⟩;rcases bn7.1 K with K|rfl;exact h.cl x K;exact Cl.genF H _
 . rw[d50 om];exact bn7.2 (Or.inl (h.done j f x K))
 rw[d50 J];by_cases e:x=k;subst e;exact bn7.2 (Or.inr rfl);exact bn7.2 (Or.inl (h.part x om))
theorem Bfs.row{l:LI}(h:Bfs l P i (ord l)):Bfs l P (i+1) 0 :=
 ⟨h.nodup,h.one,h.cl,fun j H x K=>by
  by_cases e:j=i
  . subst e;exact h.part x K
  . exact h.done j om x K,fun _ K=>om⟩
theorem Bfs.len{l:LI}(H:d7 l=true)(h:Bfs l P i k):P.length<=14400:=by
 have:=by8 h.nodup (M:=sgL l) fun x K=>jn6 H (h.cl x K);have:=co9 H;omega
theorem lk7{l:LI}(H:d7 l=true)(h:Cl l v)(A:Sub a v):Sub (genF l a) v:=by
 refine bi2 (fun i J=>?_) (fun i J=>?_)
 . have:i=0:=by
    cases i with
    |zero=>rfl
    |succ i=>rw[pz]at J;simp at J
   subst this;exact h.2.1
 obtain⟨u,t,_,U,_,T,rfl⟩:=C7.1 J;exact h.add H U (A t T)
theorem lk6{l:LI}(H:d7 l=true)(h:a<2^ord l):Sub a (genF l a):=fun i J=>by
 have b:=L7 h J
 have o:=l8 H
 exact bd9 H a i (C7.2 ⟨0,i,om,bf9 l a,om,J,C9 l (m0 H) i b⟩)
theorem Bfs.all{l:LI}(H:d7 l=true)(h:Bfs l P P.length 0)(O:Cl l u):u∈P:=by
 have y:∀d s,s∈P->Sub s u->cnt u<=cnt s+d->u∈P:=by
  intro d;induction d with
  |zero =>
   intro s k S c;have:=cg0 (nlt O.1 (E7 H)) S om;rwa [<-this]
  | succ d ih =>
   intro s k S c;by_cases e:s=u
   . rwa [<-e]
   . obtain⟨x,hx1,hx2⟩:∃x,u.testBit x=true/\s.testBit x=false:=by
      false_or_by_contra;rename_i n;refine e (Sub.antisymm S fun i J=>?_);cases C:s.testBit i
      . exact absurd ⟨i,J,C⟩ n
      . rfl
     have X:=L7 O.1 hx1
     obtain⟨j,f,b⟩:=bv1 k
     have m:=h.done j f x X
     rw[b]at m
     have L:=(h.cl s k).1
     have p:2^x<2^ord l:=oJ om X
     have A:s ||| 2^x<2^ord l:=ox L p
     have B:Sub (genF l (s ||| 2^x)) u:=lk7 H O (Sub.or S fun i J=>by
      rw[pd]at J
      have:x=i:=of_decide_eq_true J
      subst this;exact hx1)
     have a:=lk6 H A
     have U:=(c58 (nlt (ba9 H _) (E7 H)) (show Sub s (genF l (s ||| 2^x))from(Sub.or_left _ _).trans a) (fun E=>by
      have:(genF l (s ||| 2^x)).testBit x=true:=a x (by rw[oN,pd];simp)
      rw[<-E,hx2]at this;cases this)).2
     exact ih _ m B om
 exact y (cnt u) 1 h.one (fun i J=>by
  have:i=0:=by
   cases i with
   |zero=>rfl
   |succ i=>rw[pz]at J;simp at J
  subst this;exact O.2.1) om
theorem Bfs.count{l:LI}(H:d7 l=true)(h:Bfs l P P.length 0):P.length=(sgL l).length :=
 lb7 h.nodup (lb9 l) fun x=>⟨fun K=>jn6 H (h.cl x K),fun K=>h.all H ((lw5 H).1 K)⟩
theorem di7(P:LN)(y:Nat):bc1 (b9 P) (y:Int)=decide (y∈P):=by
 unfold bc1;refine decide_eq_decide.2 ⟨fun h=>?_,fun h=>pp.2 ⟨y,h,rfl⟩⟩;obtain⟨z,H,e⟩:=pp.1 h;have:z=y:=om;rwa [<-this]
theorem jo8(h:y∈P):bp8 P y=P:=if_pos h
theorem l29(h:y ∉ P):bp8 P y=P++[y]:=if_neg h
theorem Bfs.lt{l:LI}(H:d7 l=true)(h:Bfs l P i k){j:Nat}(J:j<P.length):d5 P j<2^24 :=
 nlt (h.cl _ (m7 J)).1 (E7 H)
theorem d97(v:Value)(l:LI)(w:World)(h:c8 w v l)(R:Hid (d7 l=true))
 (hS:∀(j W:World) (u:Value) (L:LI),Own 3 j W u L->Ext j W->L.length<=1000000->Calls Tryz.prog 171 #[u] W fun e T=>e=.returned (.tuple #[])/\Own 3 j T u (L.mergeSort fun x y=>decide (x<=y))/\Ext j T) :
 Calls Tryz.prog 152 #[.agg #[v]] w fun e T=>∃A c n,n=(sgL l).length/\e=.returned (.tuple #[.slice A n c,.bool true])/\Ext w T:=by
 obtain⟨B,Z,F,C,H,E,Hz⟩:=m04 42 h;clear h;have hx:=C B E;have hH:=l8 R.o;have HS:=zh hS;clear hS;go_in;go_wp2_with fail;rw[<-Z.o];have Y:=R.o;go_wp2_with(go_at_call 92;refine cm (o9 _ _ _ (H _ E)) fun G J=>?_);have hO:=l9 (TI:=3) (n:=1) om (er G) [1] rfl;have hj:=(er G).alloc (.cells #[vi 1] 3);have hn:Dv G (some (aD G.heap.size 0)) 1 1 [1] (G.alloc (.cells #[vi 1] 3)):=⟨hO,rfl,hj⟩;have r:=sh (E.trans J) C;have he:=sh (E.trans J) H;have hA:=F.trans (E.trans J);have Hb:=zh (Bfs.start Y);clear hO hj C H E J Y hx;go_loopw [4,5] (fun s4 s5 wr=>∃(i:Nat) (A:Option Addr) (c:Nat) (P:LN),i<=P.length/\s5=vi i/\s4=.slice A P.length c/\Dv G A P.length c P wr/\Hid (Bfs l P i 0)) (fun _ s5 _=>14401-(intOf s5).toNat);exact⟨0,_,1,[1],om,rfl,rfl,hn,Hb⟩
 clear hn Hb;rename World=>wo;obtain⟨i,A,c,P,hi,rfl,rfl,D,O⟩:=hrel;have hh:=O.o.len R.o;by_cases U:i<P.length
 . have hI:(i:Int)<(P.length:Int):=om;have hz:=r _ D.ext;have cO:=p9 v l _ (he _ D.ext) R;go_wp2_with(go_at_call 153;refine cm cO fun w2 I=>?_);have hp:=D.ext2 I;clear D hz cO;go_loopw [4,21] (fun s4 sa wr=>∃(k:Nat) (A:Option Addr) (c:Nat) (P:LN),k<=ord l/\i<P.length/\sa=vi k/\s4=.slice A P.length c/\Dv G A P.length c P wr/\Hid (Bfs l P i k)) (fun _ sa _=>ord l-(intOf sa).toNat);exact⟨0,_,c,P,om,U,rfl,rfl,hp,O⟩;case round =>
    clear hp O hh hI U hi;rename World=>wr;obtain⟨k,A,c,P,V,U,rfl,rfl,hD,b⟩:=hrel;have hh:=b.o.len R.o;by_cases hJ:k<ord l
    . have hB:(k:Int)<(ord l:Int):=om;have hI:(i:Int)<(P.length:Int):=om;have N:=zh (b.o.next R.o U);have hc:=b.o.lt R.o U;obtain⟨g,rfl⟩:=hD.at U;have hG:=bd6 g P.length c;have m:=hD.drew;have p:=(m.cell U).1;have bd:=r _ m.ext;obtain⟨X,hX⟩:=nq (d5 P i);rw[<-hX]at p N hc;have q1:=o6 (n:=k) om;have q2:=H9 (o:=X) (z:=k) hc om;have hr:X ||| 2^k<2^24:=ox hc (oJ om om)
      have q:=bo8 v l (X ||| 2^k) wr.drew (he _ m.ext) R hr;obtain⟨M,hY⟩:=nq (genF l (X ||| 2^k));rw[<-hY]at q N;obtain⟨ZZ,hZ⟩:∃ZZ:Nat,ZZ=(X ||| 2^k):=⟨_,rfl⟩;rw[<-hZ]at q q2;obtain⟨pk,ho⟩:∃x:Int,x=((pw k:Nat):Int):=⟨_,rfl⟩;rw[<-ho]at q1 q2;have hL:0<=(X:Int)/\(X:Int)<16777216:=om;clear hX hY hZ ho hr;go_wp2_with fail;refine wp_region_held_drew (S:=(fun W=>W.cell? (aD w.heap.size 0)=some v/\W.cell? (aD g i)=some (vi (X:Int)))) (by kernel_rfl) (by exact⟨bd,p⟩) (fun ht=>?_);refine hxn 0 ?_;refine hxn 1 ?_;refine hxn 2 ?_;refine hxn 3 ?_;refine hxn 4 ?_;refine hxn 5 ?_;refine hxn 6 ?_;refine hxn 7 ?_;refine hxt 8 (h:=fun KK hK=>?_);go_simp;(go_at_call 239;(with_reducible refine od q ?_);rintro e w3⟨rfl,K⟩);have d:=m.ext2 K;have c3:=K.cell p;have b3:=r _ d.ext;refine hxo hK (by exact⟨b3,c3⟩) (fun ht=>?_);clear hK KK;refine hxn 9 ?_;refine wpAnyH_done (by kernel_rfl) ?_ _;go_wp2_with fail;have hm:=d.own.ints;clear bd p b3 c3;by_cases hy:M∈P
      . have s:=b24 _ (b9 P) (M:Int) w3 hm (c:=true) (by rw[di7];exact decide_eq_true hy);have Ha:=zh (jo8 hy);go_wp2_with(go_at_call 240;refine s.mono ?_;rintro e w4⟨rfl,rfl⟩);go_roundw;exact⟨k+1,_,c,P,om,U,zg,rfl,d,by rw[<-Ha.o];exact N⟩;exact zm1
      . have s:=b24 _ (b9 P) (M:Int) w3 hm (c:=false) (by rw[di7];exact decide_eq_false hy);have Ha:=zh (l29 hy);go_wp2_with(first|(go_at_call 240;refine s.mono ?_;rintro e w4⟨rfl,rfl⟩)|(at_builtin;refine p6 slI rfl _ _ rfl G _ _ _ _ d.own d.ext (by rw[d9];omega) rfl rfl ?_;intro v5 w5 f hq;rw[<-G6]at f;obtain⟨a5,c5,rfl,-⟩:=f.shape;rw[d9]at f|-));go_roundw;exact⟨k+1,a5,c5,P++[M],om,by simp;omega,zg,by rw[oh];rfl,⟨f,rfl,hq⟩,by rw[<-Ha.o];exact N⟩;exact zm1
    . have hB:¬(k:Int)<(ord l:Int):=om;have hC:k=ord l:=om;rw[hC]at b;have HR:=zh (b.o.row);go_wp2_with fail;go_roundw;exact⟨i+1,_,c,P,om,zg,rfl,hD,HR⟩;exact zm1
 have hu:i=P.length:=om;have hI:¬(i:Int)<(P.length:Int):=om;rw[hu]at O;have Ht:=zh (O.o.count R.o);have cS:=HS.o _ _ _ _ D.own D.ext (by rw[d9];omega);go_wp2_with fail;go_at_call 171;with_reducible refine od cS ?_;rintro e w3⟨rfl,-,K⟩;go_wp2_with fail;exact bodyPost_ret (v:=.tuple #[.slice A P.length c,.bool true]) (by simp[results,Tryz.results152,go_sem]) rfl ⟨A,c,P.length,Ht.o,rfl,hA.trans K⟩
end Go.Zz
