/- Plain facts on translates: ba0 covers, greedy covers, packings, tiles; sizes of intersections are counts of differences. -/
import Derived.Test.YtnnbhcalddkmmaaGreatGr26
set_option linter.unusedSimpArgs false
set_option linter.unusedVariables false
set_option linter.unnecessarySimpa false
set_option maxHeartbeats 2000000
set_option maxRecDepth 8000
namespace Go.Zz
open Go.RowKit Go.Proofs
theorem dp5(p q:Nat->Bool):∀L:List Nat,(L.filter (fun x=>p x || q x)).length+(L.filter (fun x=>p x&&q x)).length=(L.filter p).length+(L.filter q).length
 | []=>rfl
 | x :: L=>by
  have ih:=dp5 p q L
  simp only[List.filter_cons]
  cases p x<;>cases q x<;>simp<;>omega
theorem du2(a b:Nat):cnt (a ||| b)+cnt (a &&& b)=cnt a+cnt b:=by
 have h:=dp5 (fun i=>a.testBit i) (fun i=>b.testBit i) (List.range 24);unfold cnt j7;have e1:(fun i=>(a ||| b).testBit i)=(fun i=>a.testBit i || b.testBit i):=by funext i;exact Nat.testBit_or _ _ _
 have e2:(fun i=>(a &&& b).testBit i)=(fun i=>a.testBit i&&b.testBit i):=by funext i;exact Nat.testBit_and _ _ _
 rw[e1,e2];exact h
theorem cp5{l:List Int}{a b x y:Nat}(hx:x<24)(hy:y<24)(h1:a.testBit x=true)(h2:b.testBit y=true):(l7 l a b).testBit (m6 l x y)=true:=C7.2 ⟨x,y,hx,h1,hy,h2,rfl⟩
def bb1(l:List Int)(x y:Nat):Nat:=m6 l x (p9 l y)
section
variable {l:List Int} (hO:U4 l)
include hO
theorem lc(x y z:Nat):m6 l x (m6 l y z)=m6 l y (m6 l x z):=by rw[<-I0 l hO,D4 l x y,I0 l hO]
theorem back{x y:Nat}(hx:x<ord l):m6 l y (bb1 l x y)=x:=by
 unfold bb1;rw[lc hO,J6 l hO,D4,A7 l hO _ hx]
theorem jm2(x y:Nat):p9 l (m6 l x y)=m6 l (p9 l x) (p9 l y):=by
 refine Y9 hO (x:=m6 l x y) (P3 l hO _) (F2 l hO _ _) ?_;rw[J6 l hO,I0 l hO,lc hO y,J6 l hO,<-I0 l hO,J6 l hO,A7 l hO 0 (by have:=F2 l hO 0 0;omega)]
theorem j97(x:Nat):bb1 l x x=0:=J6 l hO x
theorem j02(x y:Nat):bb1 l x y<ord l:=F2 l hO _ _
end
theorem jp7{p q n:Nat}(hn:n<2 ^ 24)(h1:Sub p n)(h2:Sub q n)(h:cnt n<cnt p+cnt q):∃z,p.testBit z=true∧q.testBit z=true:=by
 have e1:=ce5 (Sub.or h1 h2);have e2:=du2 p q;obtain⟨z,hz⟩:=b90 (d74 (a:=p &&& q) om);rw[Nat.testBit_and,Bool.and_eq_true] at hz;exact⟨z,hz⟩
def Cl(l:List Int)(h:Nat):Prop:=h<2 ^ ord l∧h.testBit 0=true∧∀x y,h.testBit x=true->h.testBit y=true->h.testBit (bb1 l x y)=true
theorem Cl.neg{l:List Int}(hg:j1 l=true){h y:Nat}(hc:Cl l h)(hy:h.testBit y=true):h.testBit (p9 l y)=true:=by
 have:=hc.2.2 0 y hc.2.1 hy;unfold bb1 at this;rwa [A7 l (m9 hg) _ (P3 l (m9 hg) y)] at this
theorem jc9{l:List Int}(hO:U4 l){y:Nat}(hy:y<ord l):p9 l (p9 l y)=y :=
 Y9 hO (x:=p9 l y) (P3 l hO _) hy (by rw[J6 l hO,D4,J6 l hO])
theorem Cl.add{l:List Int}(hg:j1 l=true){h x y:Nat}(hc:Cl l h)(hx:h.testBit x=true)(hy:h.testBit y=true):h.testBit (m6 l x y)=true:=by
 have:=hc.2.2 x (p9 l y) hx (hc.neg hg hy);unfold bb1 at this;rwa [jc9 (m9 hg) (N0 hc.1 hy)] at this
theorem Cl.gen{l:List Int}(hg:j1 l=true){h:Nat}(hc:Cl l h):genF l h=h:=by
 refine Sub.antisymm (b97 (fun i hi=>?_) (fun i hi=>?_)) (fun i hi=>?_)
 . have:i=0:=by
    cases i with
    | zero=>rfl
    | succ i=>rw[Nat.testBit_succ] at hi;simp at hi
   subst this;exact hc.2.1
 . obtain⟨x,y,_,h1,_,h2,rfl⟩:=C7.1 hi;exact hc.add hg h1 h2
 . have hib:=N0 hc.1 hi;have hob:=m8 hg;refine b67 hg h i ?_;refine C7.2 ⟨0,i,om,b32 l h,om,hi,A7 l (m9 hg) i hib⟩
theorem Cl.shift{l:List Int}(hg:j1 l=true){h y:Nat}(hc:Cl l h)(hy:h.testBit y=true):j6 l h y=h:=by
 have hob:=m8 hg;have:=cl6 hg (a:=h) hy (by have:=N0 hc.1 hy;omega);rwa [hc.gen hg] at this
def V9(l:List Int)(x:Nat):Nat->Nat
 | 0=>0
 | q+1=>m6 l x (V9 l x q)
theorem bs0{l:List Int}(hO:U4 l):0<ord l:=by have:=F2 l hO 0 0;omega
theorem bb9{l:List Int}(hO:U4 l)(x:Nat):∀q,V9 l x q<ord l
 | 0=>bs0 hO
 | _+1=>F2 l hO _ _
def Clo(l:List Int)(H:Nat->Prop):Prop:=H 0∧(∀x y,x<ord l->y<ord l->H x->H y->H (m6 l x y))∧(∀x,x<ord l->H x->H (p9 l x))
theorem Clo.mul{l:List Int}(hO:U4 l){H:Nat->Prop}(h:Clo l H){x:Nat}(hx:x<ord l)(hH:H x):∀q,H (V9 l x q)
 | 0=>h.1
 | q+1=>h.2.1 _ _ hx (bb9 hO x q) hH (Clo.mul hO h hx hH q)
def d42(l:List Int):List Nat->Nat->Prop
 | [],h=>h=0
 | x :: X,h=>∃q k,d42 l X k∧k<ord l∧h=m6 l (V9 l x q) k
theorem bi0{o:Int}{r:List Int}(ho:1<=o.toNat)(a b:Nat):m6 (o :: r) (o.toNat*a) (o.toNat*b)=o.toNat*m6 r a b:=by
 simp only[m6];rw[Nat.mul_mod_right,Nat.mul_mod_right,Nat.mul_div_cancel_left _ om,Nat.mul_div_cancel_left _ om];simp
theorem dd0{o:Int}{r:List Int}(ho:1<=o.toNat)(x:Nat):∀q,V9 (o :: r) (o.toNat*x) q=o.toNat*V9 r x q
 | 0=>by simp[V9]
 | q+1=>by simp only[V9];rw[dd0 ho x q,bi0 ho]
theorem dg4{o:Int}{r:List Int}(ho:1<=o.toNat)(h:U4 (o :: r)):∀(X:List Nat) (k:Nat),d42 r X k->d42 (o :: r) (X.map (fun x=>o.toNat*x)) (o.toNat*k)
 | [],k,e=>by have e':k=0:=e;subst e';rfl
 | x :: X,k,⟨q,j,h1,h2,e⟩=>⟨q,o.toNat*j,dg4 ho h X j h1,by rw[bj3 h];exact Nat.mul_lt_mul_of_pos_left h2 om,by rw[dd0 ho,bi0 ho,e]⟩
theorem cs4(o:Int)(r:List Int)(x y:Nat)(ho:1<=o.toNat):m6 (o :: r) x y % o.toNat=(x % o.toNat+y % o.toNat) % o.toNat:=by
 simp only[m6];exact bq7 (Nat.mod_lt _ om)
theorem dq0(o:Int)(r:List Int)(x:Nat)(ho:1<=o.toNat):∀q,V9 (o :: r) x q % o.toNat=(q*(x % o.toNat)) % o.toNat
 | 0=>by simp[V9]
 | q+1=>by
  show m6 (o :: r) x (V9 (o :: r) x q) % o.toNat=_
  rw[cs4 o r _ _ ho,dq0 o r x ho q,Nat.add_mod_mod,Nat.add_mul,Nat.one_mul,Nat.add_comm]
theorem dq1(o:Int)(r:List Int)(x:Nat)(ho:1<=o.toNat):p9 (o :: r) x % o.toNat=(o.toNat - x % o.toNat) % o.toNat:=by
 simp only[p9];exact bq7 (Nat.mod_lt _ om)
theorem ba0{p:Nat->Prop}:∀n,p n->∃m,p m∧∀k,k<m->¬p k:=by
 intro n;induction n using Nat.strongRecOn with
 | _ n ih =>
  intro h;by_cases e:∃k,k<n∧p k
  . obtain⟨k,hk,hp⟩:=e;exact ih k hk hp
  . exact⟨n,h,fun k hk hp=>e ⟨k,hk,hp⟩⟩
theorem jr1:∀(l:List Int),U4 l->∀H:Nat->Prop,Clo l H->∃X:List Nat,X.length=l.length∧(∀x∈X,x<ord l∧H x)∧∀h,h<ord l->H h->d42 l X h
 | [],_,H,_=>⟨[],rfl,fun _ h=>(by cases h),fun h hl _=>(by rw[c92] at hl;show h=0;omega)⟩
 | o :: r,hO,H,hH=>by
  have ho:=hO.head
  have hr:=hO.tail
  have hord:=bj3 hO
  have hK:Clo r (fun k=>H (o.toNat*k)):=by
   refine⟨by simpa using hH.1,fun x y hx hy h1 h2=>?_,fun x hx h1=>?_⟩
   . show H (o.toNat*m6 r x y);rw[<-bi0 ho];exact hH.2.1 _ _ (by rw[hord];exact Nat.mul_lt_mul_of_pos_left hx om) (by rw[hord];exact Nat.mul_lt_mul_of_pos_left hy om) h1 h2
   . show H (o.toNat*p9 r x);have e:o.toNat*p9 r x=p9 (o :: r) (o.toNat*x):=by
      simp only[p9];rw[Nat.mul_mod_right,Nat.mul_div_cancel_left _ om];simp
     rw[e];exact hH.2.2 _ (by rw[hord];exact Nat.mul_lt_mul_of_pos_left hx om) h1
  obtain⟨X,hXl,hXm,hXs⟩:=jr1 r hr _ hK
  have key:∃x0,x0<ord (o :: r)∧H x0∧∀h,h<ord (o :: r)->H h->∃q,m6 (o :: r) h (p9 (o :: r) (V9 (o :: r) x0 q)) % o.toNat=0:=by
   by_cases hz:∃h,h<ord (o :: r)∧H h∧0<h % o.toNat
   . obtain⟨h1,hl1,hH1,hp1⟩:=hz;obtain⟨d,⟨x0,hx0,hHx,hd,hd0⟩,hmin⟩:=ba0 (p:=fun d=>∃x,x<ord (o :: r)∧H x∧x % o.toNat=d∧0<d) (h1 % o.toNat) ⟨h1,hl1,hH1,rfl,hp1⟩
     refine⟨x0,hx0,hHx,fun h hl hh=>⟨(h % o.toNat) / d,?_⟩⟩;have hm:=bb9 hO x0 ((h % o.toNat) / d);have hHm:=hH.mul hO hx0 hHx ((h % o.toNat) / d);have hdlt:d<o.toNat:=(by rw[<-hd];exact Nat.mod_lt _ om);have hfst:m6 (o :: r) h (p9 (o :: r) (V9 (o :: r) x0 ((h % o.toNat) / d))) % o.toNat=(h % o.toNat) % d:=by
      rw[cs4 o r _ _ ho,dq1 o r _ ho,dq0 o r x0 ho,hd];have h1:h % o.toNat<o.toNat:=Nat.mod_lt _ om;have h2:(h % o.toNat) / d*d<=h % o.toNat:=Nat.div_mul_le_self _ _;have h3:(h % o.toNat) / d*d+(h % o.toNat) % d=h % o.toNat:=(by rw[Nat.mul_comm];exact Nat.div_add_mod _ _);have h4:(h % o.toNat) % d<d:=Nat.mod_lt _ hd0;generalize (h % o.toNat) / d*d=A at h2 h3 ⊢;generalize (h % o.toNat) % d=B at h3 h4 ⊢;generalize h % o.toNat=C at h1 h2 h3 ⊢;rw[Nat.mod_eq_of_lt (show A<o.toNat by omega)];by_cases hA:A=0
      . subst hA;simp;rw[Nat.mod_eq_of_lt om];omega
      . rw[Nat.mod_eq_of_lt (show o.toNat - A<o.toNat by omega),show C+(o.toNat - A)=B+o.toNat by omega,Nat.add_mod_right,Nat.mod_eq_of_lt om]
     rw[hfst];by_cases hB:(h % o.toNat) % d=0
     . exact hB
     . exact absurd ⟨_,F2 _ hO _ _,hH.2.1 _ _ hl (P3 _ hO _) hh (hH.2.2 _ hm hHm),hfst,om⟩ (hmin _ (Nat.mod_lt _ hd0))
   . refine⟨0,bs0 hO,hH.1,fun h hl hh=>⟨0,?_⟩⟩;have e:h % o.toNat=0:=by
      false_or_by_contra;rename_i e;exact hz ⟨h,hl,hh,om⟩
     rw[cs4 o r _ _ ho,dq1 o r _ ho,e];show (0+(o.toNat - 0 % o.toNat) % o.toNat) % o.toNat=0;simp
  obtain⟨x0,hx0,hHx,hq⟩:=key
  refine⟨x0 :: X.map (fun x=>o.toNat*x),by simp[hXl],fun x hx=>?_,fun h hl hh=>?_⟩
  . rcases List.mem_cons.1 hx with rfl | hx
    . exact⟨hx0,hHx⟩
    . obtain⟨y,hy,rfl⟩:=List.mem_map.1 hx
      have:=hXm y hy
      exact⟨by rw[hord];exact Nat.mul_lt_mul_of_pos_left this.1 om,this.2⟩
  . obtain⟨q,hq0⟩:=hq h hl hh
    have hm:=bb9 hO x0 q
    have hlt:=F2 (o :: r) hO h (p9 (o :: r) (V9 (o :: r) x0 q))
    have hHd:H (m6 (o :: r) h (p9 (o :: r) (V9 (o :: r) x0 q))):=hH.2.1 _ _ hl (P3 _ hO _) hh (hH.2.2 _ hm (hH.mul hO hx0 hHx q))
    have hback:m6 (o :: r) (V9 (o :: r) x0 q) (m6 (o :: r) h (p9 (o :: r) (V9 (o :: r) x0 q)))=h:=back hO hl
    generalize m6 (o :: r) h (p9 (o :: r) (V9 (o :: r) x0 q))=D at hq0 hlt hHd hback
    have hD:D=o.toNat*(D / o.toNat):=by have:=Nat.div_add_mod D o.toNat;omega
    have hDl:D / o.toNat<ord r:=(Nat.div_lt_iff_lt_mul om).2 (by rw[Nat.mul_comm,<-hord];exact hlt)
    have hs:=hXs (D / o.toNat) hDl (by rw[<-hD];exact hHd)
    have hs2:=dg4 ho hO X _ hs
    rw[<-hD] at hs2
    exact⟨q,D,hs2,hlt,hback.symm⟩
theorem c84{l:List Int}(hg:j1 l=true){x:Nat}(hx:x<ord l):∀q,(genF l (2 ^ x)).testBit (V9 l x q)=true
 | 0=>b32 l _
 | q+1=>by
  have hob:=m8 hg
  have h1:(genF l (2 ^ x)).testBit x=true:=by
   refine b67 hg (2 ^ x) x (C7.2 ⟨0,x,om,b32 l _,om,zm,A7 l (m9 hg) x hx⟩)
  exact cf3 hg h1 (c84 hg hx q)
theorem Cl.genF{l:List Int}(hg:j1 l=true)(a:Nat):Cl l (genF l a) :=
 ⟨b22 hg a,b32 l a,fun _ _ hx hy=>cf3 hg hx (ja6 hg hy)⟩
theorem Cl.sum{l:List Int}(hg:j1 l=true){A B:Nat}(hA:Cl l A)(hB:Cl l B):Cl l (l7 l A B):=by
 have hO:=m9 hg;refine⟨bt2 hO A B,?_,fun x y hx hy=>?_⟩
 . have:=cp5 (l:=l) (show 0<24 by omega) (show 0<24 by omega) hA.2.1 hB.2.1;rwa [A7 l hO 0 (bs0 hO)] at this
 . obtain⟨a,b,_,ha,_,hb,rfl⟩:=C7.1 hx;obtain⟨c,d,_,hc,_,hd,rfl⟩:=C7.1 hy;have h1:=hA.2.2 a c ha hc;have h2:=hB.2.2 b d hb hd;have hob:=m8 hg;have:=cp5 (l:=l) (show bb1 l a c<24 by have:=j02 hO a c;omega) (show bb1 l b d<24 by have:=j02 hO b d;omega) h1 h2;have e:bb1 l (m6 l a b) (m6 l c d)=m6 l (bb1 l a c) (bb1 l b d):=by
    unfold bb1;rw[jm2 hO];simp only[I0 l hO,D4 l,lc hO]
   rwa [e]
theorem Cl.clo{l:List Int}(hg:j1 l=true){H:Nat}(h:Cl l H):Clo l (fun x=>H.testBit x=true) :=
 ⟨h.2.1,fun _ _ _ _ h1 h2=>h.add hg h1 h2,fun _ _ h1=>h.neg hg h1⟩
theorem cu4{l:List Int}(hg:j1 l=true){H x:Nat}(h:Cl l H)(hx:H.testBit x=true):Sub (genF l (2 ^ x)) H:=by
 refine b97 (fun i hi=>?_) (fun i hi=>?_)
 . have:i=0:=by
    cases i with
    | zero=>rfl
    | succ i=>rw[Nat.testBit_succ] at hi;simp at hi
   subst this;exact h.2.1
 . obtain⟨a,b,_,ha,_,hb,rfl⟩:=C7.1 hi;have:b=x:=by
    rw[Nat.testBit_two_pow] at hb;simpa using (of_decide_eq_true hb).symm
   subst this;exact h.add hg ha hx
theorem ds7{l:List Int}(hg:j1 l=true){H A B:Nat}(h:Cl l H)(hA:Sub A H)(hB:Sub B H):Sub (l7 l A B) H:=fun i hi=>by
 obtain⟨a,b,_,ha,_,hb,rfl⟩:=C7.1 hi
 exact h.add hg (hA a ha) (hB b hb)
theorem cp7{l:List Int}(hg:j1 l=true){H:Nat}(h:Cl l H):∃x y z,x<ord l∧y<ord l∧z<ord l∧H=l7 l (l7 l (genF l (2 ^ x)) (genF l (2 ^ y))) (genF l (2 ^ z)):=by
 have hO:=m9 hg;have hob:=m8 hg;have h3:=C6 hg;obtain⟨X,hXl,hXm,hXs⟩:=jr1 l hO _ (h.clo hg);have pad:∃x y z,(x<ord l∧H.testBit x=true)∧(y<ord l∧H.testBit y=true)∧(z<ord l∧H.testBit z=true)∧∀u,u<ord l->H.testBit u=true->∃a b c,u=m6 l (V9 l x a) (m6 l (V9 l y b) (V9 l z c)):=by
  have z0:0<ord l∧H.testBit 0=true:=⟨bs0 hO,h.2.1⟩;have zz:m6 l 0 0=0:=A7 l hO 0 (bs0 hO);match X,hXl,hXm,hXs with
  | [],_,_,hs=>exact⟨0,0,0,z0,z0,z0,fun u hu hh=>⟨0,0,0,by have e:u=0:=hs u hu hh;rw[e];show 0=m6 l 0 (m6 l 0 0);rw[zz,zz]⟩⟩
  | [x],_,hm,hs=>exact⟨x,0,0,hm x zm,z0,z0,fun u hu hh=>by
   obtain⟨q,k,hk,hkl,e⟩:=hs u hu hh
   have ek:k=0:=hk
   exact⟨q,0,0,by rw[e,ek];show _=m6 l _ (m6 l 0 0);rw[zz]⟩⟩
  | [x,y],_,hm,hs=>exact⟨x,y,0,hm x zm,hm y zm,z0,fun u hu hh=>by
   obtain⟨q,k,⟨q2,k2,hk2,hk2l,e2⟩,hkl,e⟩:=hs u hu hh
   have ek:k2=0:=hk2
   exact⟨q,q2,0,by rw[e,e2,ek];rfl⟩⟩
  | [x,y,z],_,hm,hs=>exact⟨x,y,z,hm x zm,hm y zm,hm z zm,fun u hu hh=>by
   obtain⟨q,k,⟨q2,k2,⟨q3,k3,hk3,hk3l,e3⟩,hk2l,e2⟩,hkl,e⟩:=hs u hu hh
   have ek:k3=0:=hk3
   exact⟨q,q2,q3,by rw[e,e2,e3,ek,D4 l (V9 l z q3) 0,A7 l hO _ (bb9 hO z q3)]⟩⟩
  | x :: y :: z :: t :: R,hl,_,_=>simp at hl;omega
 obtain⟨x,y,z,hx,hy,hz,hs⟩:=pad;refine⟨x,y,z,hx.1,hy.1,hz.1,Sub.antisymm (fun u hu=>?_) (ds7 hg h (ds7 hg h (cu4 hg h hx.2) (cu4 hg h hy.2)) (cu4 hg h hz.2))⟩;obtain⟨a,b,c,e⟩:=hs u (N0 h.1 hu) hu;have l1:=bb9 hO x a;have l2:=bb9 hO y b;have l3:=bb9 hO z c;have l4:=F2 l hO (V9 l x a) (V9 l y b);rw[e,<-I0 l hO];exact cp5 om om (cp5 om om (c84 hg hx.1 a) (c84 hg hy.1 b)) (c84 hg hz.1 c)
theorem bi9{L:List Nat}{x:Nat}(h:x∈L):∃k,k<L.length∧d8 L k=x:=by
 obtain⟨k,hk,e⟩:=List.getElem_of_mem h;exact⟨k,hk,by simp[d8,List.getD,hk,e]⟩
theorem c36{l:List Int}{C:List Nat}{i j:Nat}(hij:j<=i):∀k,i<k->l7 l (d8 C i) (d8 C j)∈S9 l C k
 | 0,h=>by omega
 | k+1,h=>by
  by_cases e:i=k
  . subst e;exact K3.2 (Or.inr ⟨j,om,rfl⟩)
  . exact K3.2 (Or.inl (c36 hij k om))
theorem cz0{l:List Int}{T C:List Nat}{i j:Nat}(hj:j<C.length):∀k,i<k->l7 l (d8 T i) (d8 C j)∈U3 l T C k
 | 0,h=>by omega
 | k+1,h=>by
  by_cases e:i=k
  . subst e;exact K3.2 (Or.inr ⟨j,hj,rfl⟩)
  . exact K3.2 (Or.inl (cz0 hj k om))
theorem d80{l:List Int}{x:Nat}(hx:x<ord l):genF l (2 ^ x)∈L8 l:=K3.2 (Or.inr ⟨x,hx,rfl⟩)
theorem jt1{l:List Int}{x y:Nat}(hx:x<ord l)(hy:y<ord l):l7 l (genF l (2 ^ x)) (genF l (2 ^ y))∈b57 l:=by
 obtain⟨i,hi,ei⟩:=bi9 (d80 hx);obtain⟨j,hj,ej⟩:=bi9 (d80 hy);rcases Nat.le_total j i with h | h
 . have:=c36 (l:=l) (C:=L8 l) h (L8 l).length hi;rwa [ei,ej] at this
 . have:=c36 (l:=l) (C:=L8 l) h (L8 l).length hj;rw[ei,ej] at this;rwa [bn8]
theorem dx1{l:List Int}(hg:j1 l=true){H:Nat}(h:Cl l H):H∈sgL l:=by
 obtain⟨x,y,z,hx,hy,hz,rfl⟩:=cp7 hg h;obtain⟨i,hi,ei⟩:=bi9 (jt1 hx hy);obtain⟨j,hj,ej⟩:=bi9 (d80 hz);have:=cz0 (l:=l) (T:=b57 l) (C:=L8 l) hj (b57 l).length hi;rwa [ei,ej] at this
theorem j01{l:List Int}(hg:j1 l=true){x:Nat}(h:x∈L8 l):Cl l x:=by
 rcases K3.1 h with h | ⟨j,_,rfl⟩
 . cases h
 . exact Cl.genF hg _
theorem j75{l:List Int}(hg:j1 l=true){C:List Nat}(hC:∀x∈C,Cl l x):∀{k x},k<=C.length->x∈S9 l C k->Cl l x
 | 0,x,_,h=>by cases h
 | k+1,x,hk,h=>by
  rcases K3.1 h with h | ⟨j,hj,rfl⟩
  . exact j75 hg hC om h
  . exact Cl.sum hg (hC _ (o6 om)) (hC _ (o6 om))
theorem ji0{l:List Int}(hg:j1 l=true){T C:List Nat}(hT:∀x∈T,Cl l x)(hC:∀x∈C,Cl l x):∀{k x},k<=T.length->x∈U3 l T C k->Cl l x
 | 0,x,_,h=>hT x h
 | k+1,x,hk,h=>by
  rcases K3.1 h with h | ⟨j,hj,rfl⟩
  . exact ji0 hg hT hC om h
  . exact Cl.sum hg (hT _ (o6 om)) (hC _ (o6 om))
theorem jr5{l:List Int}(hg:j1 l=true){H:Nat}:H∈sgL l↔Cl l H :=
 ⟨fun h=>ji0 hg (fun x hx=>j75 hg (fun y hy=>j01 hg hy) (Nat.le_refl _) hx) (fun y hy=>j01 hg hy) (Nat.le_refl _) h,dx1 hg⟩
theorem bn1:∀{L M:List Nat},L.Nodup->(∀x∈L,x∈M)->L.length<=M.length
 | [],_,_,_=>Nat.zero_le _
 | x :: L,M,h,s=>by
  obtain⟨h1,h2⟩:=List.nodup_cons.1 h
  have hx:=s x zm
  have ih:=bn1 (M:=M.erase x) h2 (fun y hy=>(List.mem_erase_of_ne (fun e=>h1 (by rw[<-e];exact hy))).2 (s y (by simp[hy])))
  rw[List.length_erase_of_mem hx] at ih
  have:=List.length_pos_of_mem hx
  simp only[List.length_cons]
  omega
theorem je4{L M:List Nat}(hL:L.Nodup)(hM:M.Nodup)(h:∀x,x∈L↔x∈M):L.length=M.length :=
 Nat.le_antisymm (bn1 hL fun x hx=>(h x).1 hx) (bn1 hM fun x hx=>(h x).2 hx)
def Asc(L:List Nat):Prop:=∀i j,i<j->j<L.length->d8 L i<d8 L j
theorem jh8{L:List Nat}{n:Nat}:∀m j,pkN L n m<=j->j<m->n<d8 L j
 | 0,_,_,h=>by omega
 | m+1,j,h1,h2=>by
  by_cases h:n<d8 L m
  . rw[bx3 h] at h1
    by_cases e:j=m
    . subst e;exact h
    . exact jh8 m j h1 om
  . rw[bj5 h] at h1;omega
theorem j42{L:List Nat}{n:Nat}:∀m,0<pkN L n m->d8 L (pkN L n m - 1)<=n
 | 0,h=>by simp[pkN] at h
 | m+1,h=>by
  by_cases hn:n<d8 L m
  . rw[bx3 hn] at h ⊢;exact j42 m h
  . rw[bj5 hn]
    show d8 L (m+1 - 1)<=n
    simp;omega
theorem cn0{L:List Nat}{n k i:Nat}(hk:k<=L.length):d8 (b17 L n k) i=if i<k then d8 L i else if i=k then n else d8 L (i - 1):=by
 unfold b17 d8;have hl:(L.take k).length=k:=by rw[List.length_take];omega
 split
 . rename_i h;simp only[List.getD];rw[List.getElem?_append_left om,List.getElem?_take_of_lt h]
 . split
   . rename_i h1 h2;subst h2;simp only[List.getD];rw[List.getElem?_append_right om,hl];simp
   . rename_i h1 h2;simp only[List.getD];rw[List.getElem?_append_right om,hl];obtain⟨d,rfl⟩:∃d,i=k+1+d:=⟨i - k - 1,om⟩;rw[show k+1+d - k=d+1 by omega,List.getElem?_cons_succ,List.getElem?_drop,show k+d=k+1+d - 1 by omega]
theorem jj0{L:List Nat}(h:Asc L)(n:Nat):Asc (M7 L n):=by
 unfold M7;split
 . exact h
 . rename_i hc;have hk:=bs2 L n L.length;have hgt:=fun j h1 h2=>jh8 (L:=L) (n:=n) L.length j h1 h2;have hlow:=j42 (L:=L) (n:=n) L.length;generalize pkN L n L.length=k at hc hk hgt hlow ⊢;intro i j hij hj;rw[c44 hk] at hj;rw[cn0 hk,cn0 hk];have hlt:∀q,q<k->d8 L q<n:=by
    intro q hq;have h1:=hlow om;have h2:d8 L (k - 1)≠n:=fun e=>hc ⟨om,e⟩;by_cases e:q=k - 1
    . rw[e];omega
    . have:=h q (k - 1) om om;omega
   by_cases h1:i<k
   . rw[if_pos h1];by_cases h2:j<k
     . rw[if_pos h2];exact h i j hij om
     . rw[if_neg h2];by_cases h3:j=k
       . rw[if_pos h3];exact hlt i h1
       . rw[if_neg h3];have:=hlt i h1;have:=hgt (j - 1) om om;omega
   . rw[if_neg h1,if_neg (show ¬j<k by omega),if_neg (show ¬j=k by omega)];by_cases h2:i=k
     . rw[if_pos h2];exact hgt (j - 1) om om
     . rw[if_neg h2];exact h (i - 1) (j - 1) om om
theorem dy2{L:List Nat}(h:Asc L):L.Nodup:=by
 rw[List.nodup_iff_pairwise_ne];rw[List.pairwise_iff_getElem];intro i j hi hj hij e;have:=h i j hij hj;simp[d8,List.getD,hi,hj,e] at this
theorem ji9:Asc []:=fun _ _ _ h=>by simp at h
theorem c06{f:Nat->Nat}{P:List Nat}(h:Asc P):∀k,Asc (L9 f P k)
 | 0=>h
 | k+1=>by rw[b46];exact jj0 (c06 h k) _
theorem d54(l:List Int)(C:List Nat):∀k,Asc (S9 l C k)
 | 0=>ji9
 | k+1=>c06 (d54 l C k) _
theorem d55(l:List Int){T:List Nat}(C:List Nat)(h:Asc T):∀k,Asc (U3 l T C k)
 | 0=>h
 | k+1=>c06 (d55 l C h k) _
theorem je6(l:List Int):(sgL l).Nodup:=dy2 (d55 l _ (d54 l _ _) _)
def bf3(P:List Nat)(y:Nat):List Nat:=if y∈P then P else P++[y]
theorem be0{P:List Nat}{y x:Nat}:x∈bf3 P y↔x∈P∨x=y:=by
 unfold bf3;split
 . rename_i h;exact⟨Or.inl,fun q=>q.elim id fun e=>by rw[e];exact h⟩
 . simp
theorem di8{P:List Nat}(h:P.Nodup)(y:Nat):(bf3 P y).Nodup:=by
 unfold bf3;split
 . exact h
 . rename_i hy;rw[List.nodup_append];exact⟨h,zm,fun a ha b hb e=>hy (by simp at hb;rw[<-hb,<-e];exact ha)⟩
theorem cm9{P:List Nat}{y i:Nat}(hi:i<P.length):d8 (bf3 P y) i=d8 P i:=by
 unfold bf3;split
 . rfl
 . simp only[d8,List.getD];rw[List.getElem?_append_left hi]
structure Bfs(l:List Int)(P:List Nat)(i k:Nat):Prop where
 nodup:P.Nodup
 one:1∈P
 cl:∀x∈P,Cl l x
 done:∀j,j<i->∀x,x<ord l->genF l (d8 P j ||| 2 ^ x)∈P
 part:∀x,x<k->genF l (d8 P i ||| 2 ^ x)∈P
theorem jp6{l:List Int}(hg:j1 l=true):Cl l 1:=by
 refine⟨cn2 hg,by decide,fun x y hx hy=>?_⟩;have z:∀i,(1:Nat).testBit i=true->i=0:=by
  intro i hi;cases i with
  | zero=>rfl
  | succ i=>rw[Nat.testBit_succ] at hi;simp at hi
 rw[z x hx,z y hy,j97 (m9 hg)];decide
theorem Bfs.start{l:List Int}(hg:j1 l=true):Bfs l [1] 0 0 :=
 ⟨zm,zm,fun x hx=>by simp at hx;subst hx;exact jp6 hg,fun _ h=>om,fun _ h=>om⟩
theorem Bfs.next{l:List Int}(hg:j1 l=true){P:List Nat}{i k:Nat}(h:Bfs l P i k)(hi:i<P.length):Bfs l (bf3 P (genF l (d8 P i ||| 2 ^ k))) i (k+1):=by
 refine⟨di8 h.nodup _,be0.2 (Or.inl h.one),fun x hx=>?_,fun j hj x hx=>?_,fun x hx=>?_⟩
 . rcases be0.1 hx with hx | rfl
   . exact h.cl x hx
   . exact Cl.genF hg _
 . rw[cm9 om];exact be0.2 (Or.inl (h.done j hj x hx))
 . rw[cm9 hi];by_cases e:x=k
   . subst e;exact be0.2 (Or.inr rfl)
   . exact be0.2 (Or.inl (h.part x om))
theorem Bfs.row{l:List Int}{P:List Nat}{i:Nat}(h:Bfs l P i (ord l)):Bfs l P (i+1) 0 :=
 ⟨h.nodup,h.one,h.cl,fun j hj x hx=>by
  by_cases e:j=i
  . subst e;exact h.part x hx
  . exact h.done j om x hx,fun _ hx=>om⟩
theorem Bfs.len{l:List Int}(hg:j1 l=true){P:List Nat}{i k:Nat}(h:Bfs l P i k):P.length<=14400:=by
 have:=bn1 h.nodup (M:=sgL l) fun x hx=>dx1 hg (h.cl x hx);have:=c93 hg;omega
theorem jl4{l:List Int}(hg:j1 l=true){H a:Nat}(h:Cl l H)(ha:Sub a H):Sub (genF l a) H:=by
 refine b97 (fun i hi=>?_) (fun i hi=>?_)
 . have:i=0:=by
    cases i with
    | zero=>rfl
    | succ i=>rw[Nat.testBit_succ] at hi;simp at hi
   subst this;exact h.2.1
 . obtain⟨u,t,_,hu,_,ht,rfl⟩:=C7.1 hi;exact h.add hg hu (ha t ht)
theorem jl3{l:List Int}(hg:j1 l=true){a:Nat}(ha:a<2 ^ ord l):Sub a (genF l a):=fun i hi=>by
 have hib:=N0 ha hi
 have hob:=m8 hg
 exact b67 hg a i (C7.2 ⟨0,i,om,b32 l a,om,hi,A7 l (m9 hg) i hib⟩)
theorem Bfs.all{l:List Int}(hg:j1 l=true){P:List Nat}(h:Bfs l P P.length 0){H:Nat}(hH:Cl l H):H∈P:=by
 have key:∀d S,S∈P->Sub S H->cnt H<=cnt S+d->H∈P:=by
  intro d;induction d with
  | zero =>
   intro S hS hs hc;have:=c16 (nlt hH.1 (C4 hg)) hs om;rwa [<-this]
  | succ d ih =>
   intro S hS hs hc;by_cases e:S=H
   . rwa [<-e]
   . obtain⟨x,hx1,hx2⟩:∃x,H.testBit x=true∧S.testBit x=false:=by
      false_or_by_contra;rename_i hn;refine e (Sub.antisymm hs fun i hi=>?_);cases hb:S.testBit i
      . exact absurd ⟨i,hi,hb⟩ hn
      . rfl
     have hxl:=N0 hH.1 hx1
     obtain⟨j,hj,ej⟩:=bi9 hS
     have hm:=h.done j hj x hxl
     rw[ej] at hm
     have hSl:=(h.cl S hS).1
     have hpl:2 ^ x<2 ^ ord l:=Nat.pow_lt_pow_right om hxl
     have hal:S ||| 2 ^ x<2 ^ ord l:=Nat.or_lt_two_pow hSl hpl
     have hsub:Sub (genF l (S ||| 2 ^ x)) H:=jl4 hg hH (Sub.or hs fun i hi=>by
      rw[Nat.testBit_two_pow] at hi
      have:x=i:=of_decide_eq_true hi
      subst this;exact hx1)
     have hhas:=jl3 hg hal
     have hlt:=(bt1 (nlt (b22 hg _) (C4 hg)) (show Sub S (genF l (S ||| 2 ^ x)) from (Sub.or_left _ _).trans hhas) (fun e2=>by
      have:(genF l (S ||| 2 ^ x)).testBit x=true:=hhas x (by rw[Nat.testBit_or,Nat.testBit_two_pow];simp)
      rw[<-e2,hx2] at this;cases this)).2
     exact ih _ hm hsub om
 exact key (cnt H) 1 h.one (fun i hi=>by
  have:i=0:=by
   cases i with
   | zero=>rfl
   | succ i=>rw[Nat.testBit_succ] at hi;simp at hi
  subst this;exact hH.2.1) om
theorem Bfs.count{l:List Int}(hg:j1 l=true){P:List Nat}(h:Bfs l P P.length 0):P.length=(sgL l).length :=
 je4 h.nodup (je6 l) fun x=>⟨fun hx=>dx1 hg (h.cl x hx),fun hx=>h.all hg ((jr5 hg).1 hx)⟩
theorem cy9(P:List Nat)(y:Nat):b56 (b9 P) (y:Int)=decide (y∈P):=by
 unfold b56;refine decide_eq_decide.2 ⟨fun h=>?_,fun h=>List.mem_map.2 ⟨y,h,rfl⟩⟩;obtain⟨z,hz,e⟩:=List.mem_map.1 h;have:z=y:=om;rwa [<-this]
theorem dx9{P:List Nat}{y:Nat}(h:y∈P):bf3 P y=P:=if_pos h
theorem j85{P:List Nat}{y:Nat}(h:y ∉ P):bf3 P y=P++[y]:=if_neg h
theorem Bfs.lt{l:List Int}(hg:j1 l=true){P:List Nat}{i k:Nat}(h:Bfs l P i k){j:Nat}(hj:j<P.length):d8 P j<2 ^ 24 :=
 nlt (h.cl _ (o6 hj)).1 (C4 hg)
theorem cq7(v:Value)(l:List Int)(w:World)(h:c9 w v l)(Hgr:Hid (j1 l=true))
 (hS:∀(w0 W:World) (u:Value) (L:List Int),Own 3 w0 W u L->Ext w0 W->L.length<=1000000->Calls Tryz.prog 209 #[u] W fun e w'=>e=.returned (.tuple #[])∧Own 3 w0 w' u (L.mergeSort fun x y=>decide (x<=y))∧Ext w0 w') :
 Calls Tryz.prog 95 #[.agg #[v]] w fun e w'=>∃ao c n,n=(sgL l).length∧e=.returned (.tuple #[.slice ao n c,.bool true])∧Ext w w':=by
 obtain⟨wb,Hwb,hE0,hb,hg,hE,Hsz⟩:=ju3 28 h;clear h;have hbx:=hb wb hE;have hob:=m8 Hgr.out;have HS:=zh hS;clear hS;go_in;go_wp2_with fail;rw[<-Hwb.out];have hgr:=Hgr.out;go_wp2_with (go_at_call 94;refine (A1 _ _ _ (hg _ hE)).mono ?_;rintro e w1 ⟨rfl,hE1⟩);have hO:=m7 (TI:=3) (n:=1) om (er w1) [1] rfl;have hEa:=(er w1).alloc (.cells #[.int .i64 1] 3);have hD0:Dv w1 (some ⟨w1.heap.size,0,none⟩) 1 1 [1] (w1.alloc (.cells #[.int .i64 1] 3)):=⟨hO,rfl,hEa⟩;have hb1:=fun W (hW:Ext w1 W)=>hb W ((hE.trans hE1).trans hW);have hg1:=fun W (hW:Ext w1 W)=>hg W ((hE.trans hE1).trans hW);have hW1:=hE0.trans (hE.trans hE1);have HB0:=zh (Bfs.start hgr);clear hO hEa hb hg hE hE1 hgr hbx;go_loopw [4,5] (fun s4 s5 wr=>∃(i:Nat) (ao:Option Addr) (c:Nat) (P:List Nat),i<=P.length∧s5=.int .i64 i∧s4=.slice ao P.length c∧Dv w1 ao P.length c P wr∧Hid (Bfs l P i 0)) (fun _ s5 _=>14401 - (intOf s5).toNat);case atStart=>exact⟨0,_,1,[1],om,rfl,rfl,hD0,HB0⟩
 case round =>
  clear hD0 HB0;rename World=>wo;obtain⟨i,ao,c,P,hi,rfl,rfl,hDo,HBo⟩:=hrel;have hPl:=HBo.out.len Hgr.out;by_cases hlt:i<P.length
  . have hltI:(i:Int)<(P.length:Int):=(by omega);have hbo:=hb1 _ hDo.ext;have cO:=p7 v l _ (hg1 _ hDo.ext) Hgr;go_wp2_with (go_at_call 99;refine cO.mono ?_;rintro e w2 ⟨rfl,hE2⟩);have hD2:=hDo.ext2 hE2;clear hDo hbo cO;go_loopw [4,21] (fun s4 s21 wr=>∃(k:Nat) (ao:Option Addr) (c:Nat) (P:List Nat),k<=ord l∧i<P.length∧s21=.int .i64 k∧s4=.slice ao P.length c∧Dv w1 ao P.length c P wr∧Hid (Bfs l P i k)) (fun _ s21 _=>ord l - (intOf s21).toNat);(case atStart=>exact⟨0,_,c,P,om,hlt,rfl,rfl,hD2,HBo⟩);case round =>
     clear hD2 HBo hPl hltI hlt hi;rename World=>wr;obtain⟨k,ao,c,P,hk,hlt,rfl,rfl,hD,HB⟩:=hrel;have hPl:=HB.out.len Hgr.out;by_cases hlk:k<ord l
     . have hlkI:(k:Int)<(ord l:Int):=(by omega);have hltI:(i:Int)<(P.length:Int):=om;have HN:=zh (HB.out.next Hgr.out hlt);have hlt24:=HB.out.lt Hgr.out hlt;obtain⟨g,rfl⟩:=hD.at hlt;have hix:=b65 g P.length c;have hDd:=hD.drew;have ci:=(hDd.cell hlt).1;have bd:=hb1 _ hDd.ext;obtain⟨X,hX⟩:=nq (d8 P i);rw[<-hX] at ci HN hlt24;have q1:=p6 (n:=k) om;have q2:=F6 (o:=X) (z:=k) hlt24 om;have hor:X ||| 2 ^ k<2 ^ 24:=Nat.or_lt_two_pow hlt24 (Nat.pow_lt_pow_right om om)
       have cG:=be8 v l (X ||| 2 ^ k) wr.drew (hg1 _ hDd.ext) Hgr hor;obtain⟨Y,hY⟩:=nq (genF l (X ||| 2 ^ k));rw[<-hY] at cG HN;obtain⟨Z,hZ⟩:∃Z:Nat,Z=(X ||| 2 ^ k):=⟨_,rfl⟩;rw[<-hZ] at cG q2;obtain⟨pk,hpk⟩:∃x:Int,x=((pw k:Nat):Int):=⟨_,rfl⟩;rw[<-hpk] at q1 q2;have hXI:0<=(X:Int)∧(X:Int)<16777216:=om;clear hX hY hZ hpk hor;go_wp2_with fail;refine wp_region_held_drew (S:=(fun W=>W.cell? ⟨w.heap.size,0,none⟩=some v∧W.cell? ⟨g,i,none⟩=some (.int .i64 (X:Int)))) (by kernel_rfl) (by exact⟨bd,ci⟩) (fun hHeld=>?_);refine hxn 0 ?_;refine hxn 1 ?_;refine hxn 2 ?_;refine hxn 3 ?_;refine hxn 4 ?_;refine hxn 5 ?_;refine hxn 6 ?_;refine hxn 7 ?_;refine hxt 8 (h:=fun K hK=>?_);go_simp;(go_at_call 207;(with_reducible refine Calls.mono cG ?_);rintro e w3 ⟨rfl,hE3⟩);have hD3:=hDd.ext2 hE3;have c3:=hE3.cell ci;have b3:=hb1 _ hD3.ext;refine hxo hK (by exact⟨b3,c3⟩) (fun hHeld=>?_);clear hK K;refine hxn 9 ?_;refine wpAnyH_done (by kernel_rfl) ?_ _;go_wp2_with fail;have hI3:=hD3.own.ints;clear bd ci b3 c3;by_cases hy:Y∈P
       . have cC:=Y6 _ (b9 P) (Y:Int) w3 hI3 (c:=true) (by rw[cy9];exact decide_eq_true hy);have HN2:=zh (dx9 hy);go_wp2_with (go_at_call 208;refine cC.mono ?_;rintro e w4 ⟨rfl,rfl⟩);go_roundw;(case rel=>exact⟨k+1,_,c,P,om,hlt,zg,rfl,hD3,by rw[<-HN2.out];exact HN⟩);case measure=>exact zm1
       . have cC:=Y6 _ (b9 P) (Y:Int) w3 hI3 (c:=false) (by rw[cy9];exact decide_eq_false hy);have HN2:=zh (j85 hy);go_wp2_with (first | (go_at_call 208;refine cC.mono ?_;rintro e w4 ⟨rfl,rfl⟩) | (at_builtin;refine A6 slI rfl _ _ rfl w1 _ _ _ _ hD3.own hD3.ext (by rw[j2];omega) rfl rfl ?_;intro v5 w5 hO5 hE5;rw[<-D5] at hO5;obtain⟨a5,c5,rfl,-⟩:=hO5.shape;rw[j2] at hO5 ⊢));go_roundw;(case rel=>exact⟨k+1,a5,c5,P++[Y],om,by simp;omega,zg,by rw[List.length_append];rfl,⟨hO5,rfl,hE5⟩,by rw[<-HN2.out];exact HN⟩);case measure=>exact zm1
     . have hlkI:¬(k:Int)<(ord l:Int):=(by omega);have hke:k=ord l:=om;rw[hke] at HB;have HR:=zh (HB.out.row);go_wp2_with fail;go_roundw;(case rel=>exact⟨i+1,_,c,P,om,zg,rfl,hD,HR⟩);case measure=>exact zm1
  . have hin:i=P.length:=(by omega);have hltI:¬(i:Int)<(P.length:Int):=om;rw[hin] at HBo;have Hcount:=zh (HBo.out.count Hgr.out);have cS:=HS.out _ _ _ _ hDo.own hDo.ext (by rw[j2];omega);go_wp2_with fail;go_at_call 209;with_reducible refine Calls.mono cS ?_;rintro e w3 ⟨rfl,-,hE3⟩;go_wp2_with fail;exact bodyPost_ret (v:=.tuple #[.slice ao P.length c,.bool true]) (by simp[results,Tryz.results95,go_sem]) rfl ⟨ao,c,P.length,Hcount.out,rfl,hW1.trans hE3⟩
end Go.Zz
