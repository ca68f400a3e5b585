/- Plain facts on translates: b57 covers, greedy covers, packings, tiles; sizes of intersections are counts of differences. -/
import Derived.Test.YtnnbhcalddkmmaaGreatGr8
import Derived.Test.YtnnbhcalddkmmaaGreatGr16
import Derived.Test.YtnnbhcalddkmmaaGreatGr7
import Derived.Test.YtnnbhcalddkmmaaGreatGr22
import Derived.Test.YtnnbhcalddkmmaaGreatGr6
import Derived.Test.YtnnbhcalddkmmaaGreatGr10
import Derived.Test.YtnnbhcalddkmmaaGreatGr18
set_option linter.unusedSimpArgs false
set_option linter.unusedVariables false
set_option linter.unnecessarySimpa false
namespace Go.Zz
open Go.RowKit Go.Proofs
set_option linter.unusedVariables false
theorem d51(p q:Nat→Bool):∀L:List Nat,(L.filter (fun x=>p x || q x)).length+(L.filter (fun x=>p x&&q x)).length=(L.filter p).length+(L.filter q).length
 | []=>rfl
 | x :: L=>by
  have ih:=d51 p q L
  simp only[List.filter_cons]
  cases p x<;>cases q x<;>simp<;>omega
theorem c61(a b:Nat):cnt (a ||| b)+cnt (a &&& b)=cnt a+cnt b:=by
 have h:=d51 (fun i=>a.testBit i) (fun i=>b.testBit i) (List.range 24);unfold cnt j1;have e1:(fun i=>(a ||| b).testBit i)=(fun i=>a.testBit i || b.testBit i):=by funext i;exact Nat.testBit_or _ _ _
 have e2:(fun i=>(a &&& b).testBit i)=(fun i=>a.testBit i&&b.testBit i):=by funext i;exact Nat.testBit_and _ _ _
 rw[e1,e2];exact h
theorem dl5{l:List Int}(hg:c9 l=true):cnt (j4 l)=ord l:=by
 have hb:=l8 hg;have e:j1 (j4 l)=B8 (j4 l) (ord l):=(P8 hb.2 (ba9 l)).symm;unfold cnt;rw[e];unfold B8;rw[List.filter_eq_self.2 fun i hi=>by rw[be2];simpa using hi];simp
theorem db6{l:List Int}{a b z:Nat}(hz:z<24):j3 l a (b ||| 2 ^ z)=j3 l a b ||| j2 l a z:=by
 refine Nat.eq_of_testBit_eq fun i=>R0 ?_;rw[Nat.testBit_or,Bool.or_eq_true,q7,q7,D0];constructor
 · rintro⟨u,v,hu,hu2,hv,hv2,e⟩;rw[Nat.testBit_or,bh4,Bool.or_eq_true,decide_eq_true_iff] at hv2;rcases hv2 with q | q
   · exact Or.inl ⟨u,v,hu,hu2,hv,q,e⟩
   · subst q;exact Or.inr ⟨u,hu,hu2,by rw[C8];exact e⟩
 · rintro (⟨u,v,hu,hu2,hv,hv2,e⟩ | ⟨u,hu,hu2,e⟩)
   · exact⟨u,v,hu,hu2,hv,by rw[Nat.testBit_or,hv2];rfl,e⟩
   · exact⟨u,z,hu,hu2,hz,by rw[Nat.testBit_or,bh4];simp,by rw[C8];exact e⟩
theorem di7{l:List Int}{a b z:Nat}(hz:z<24)(h:b.testBit z=true):Sub (j2 l a z) (j3 l a b):=fun i hi=>by
 obtain⟨u,hu,hu2,e⟩:=D0.1 hi
 exact q7.2 ⟨u,z,hu,hu2,hz,h,by rw[C8];exact e⟩
def Til(l:List Int)(a Y:Nat):Prop:=Y<2 ^ ord l∧j3 l a Y=j4 l∧cnt a*cnt Y=ord l
theorem cr9{P:Nat→Prop}[DecidablePred P]{Q:Nat→Prop}(m:Nat)(F:Nat→Nat→List Nat):∀(L:List Nat) (out:List Nat),(∀z∈out,Q z)→(∀x∈L,P x→∀k,∀z∈F x k,Q z)→∀z∈L.foldl (fun (out:List Nat) (x:Nat)=>if out.length<m∧P x then out++F x (m - out.length) else out) out,Q z
 | [],out,h,_=>h
 | y :: L,out,h,hF=>by
  rw[List.foldl_cons]
  refine cr9 m F L _ ?_ (fun x hx=>hF x (by simp[hx]))
  split
  · next e =>
     intro z hz;rw[List.mem_append] at hz;rcases hz with hz | hz
     · exact h z hz
     · exact hF y (by simp) e.2 _ z hz
  · exact h
theorem cz6{l:List Int}(hg:c9 l=true){a:Nat}(ha:a≠0)(ha2:a<2 ^ ord l):∀f u b m,u<2 ^ ord l→b<2 ^ ord l→u=j3 l a b→cnt u=cnt a*cnt b→∀z∈tlS l a f u b m,Til l a z
 | 0,_,_,_,_,_,_,_,z,hz=>by simp[tlS] at hz
 | f+1,u,b,m,hu,hb,hs,hc,z,hz=>by
  have hob:=l8 hg
  by_cases hfull:u=j4 l
  · rw[bo2 hfull,List.mem_singleton] at hz
    subst hz
    exact⟨hb,by rw[←hs,hfull],by rw[←hc,hfull,dl5 hg]⟩
  · unfold tlS at hz
    rw[if_neg hfull] at hz
    refine cr9 (P:=fun x=>j2 l a (dF l u x) &&& u=0) (Q:=Til l a) m (fun x k=>tlS l a f (u ||| j2 l a (dF l u x)) (b ||| 2 ^ dF l u x) k) (j1 a) [] (by simp) ?_ z hz
    intro x hx hap k z hz
    have hdl:=j50 hg u x
    obtain⟨d,hd⟩:∃d,d=dF l u x:=⟨_,rfl⟩
    have hz':z∈tlS l a f (u ||| j2 l a (dF l u x)) (b ||| 2 ^ dF l u x) k:=hz
    rw[←hd] at hz' hap hdl
    have hm:=cf2 hg ha ha2 hu d hap
    have hdb:b.testBit d=false:=by
     refine Classical.byContradiction fun q=>?_;have q':b.testBit d=true:=(by simpa using q);have h1:=di7 (l:=l) (a:=a) (by omega:d<24) q';have h2:u ||| j2 l a d=u:=by
      refine Nat.eq_of_testBit_eq fun i=>R0 ?_;rw[Nat.testBit_or,Bool.or_eq_true];exact⟨fun e=>e.elim id fun e=>by rw[hs];exact h1 i e,Or.inl⟩
     rw[h2] at hm;omega
    refine cz6 hg ha ha2 f _ _ k hm.1 (Nat.or_lt_two_pow hb (Nat.pow_lt_pow_right (by omega) hdl)) (by rw[db6 (by omega),←hs]) ?_ z hz'
    have h3:=c61 u (j2 l a d)
    rw[Nat.and_comm] at h3
    rw[hap,S8,b16 hg ha2] at h3
    have h4:=bl3 (Nat.lt_of_lt_of_le hb (E1 hg)) (by omega:d<24) hdb
    rw[h4,Nat.mul_add,Nat.mul_one];omega
theorem dy2{l:List Int}(hg:c9 l=true){a:Nat}(ha2:a<2 ^ ord l):j3 l a 1=a:=by
 have hob:=l8 hg;refine Nat.eq_of_testBit_eq fun i=>R0 ?_;rw[q7];constructor
 · rintro⟨u,v,hu,hu2,hv,hv2,e⟩;rw[dw5,decide_eq_true_iff] at hv2;subst hv2;rw[←e,c59 (m0 hg) (G9 ha2 hu2)];exact hu2
 · intro hi;have:=G9 ha2 hi;exact⟨i,0,by omega,hi,by omega,by decide,c59 (m0 hg) this⟩
end Go.Zz
namespace Go.Zz
theorem ca1{l:List Int}{a b x y:Nat}(hx:x<24)(hy:y<24)(h1:a.testBit x=true)(h2:b.testBit y=true):(j3 l a b).testBit (j9 l x y)=true:=q7.2 ⟨x,y,hx,h1,hy,h2,rfl⟩
def b41(l:List Int)(x y:Nat):Nat:=j9 l x (p4 l y)
section
variable {l:List Int} (hO:M9 l)
include hO
theorem lc(x y z:Nat):j9 l x (j9 l y z)=j9 l y (j9 l x z):=by rw[←G6 l hO,C8 l x y,G6 l hO]
theorem back{x y:Nat}(hx:x<ord l):j9 l y (b41 l x y)=x:=by
 unfold b41;rw[lc hO,K5 l hO,C8,C5 l hO _ hx]
theorem dw3(x y:Nat):p4 l (j9 l x y)=j9 l (p4 l x) (p4 l y):=by
 refine S6 hO (x:=j9 l x y) (Q9 l hO _) (E9 l hO _ _) ?_;rw[K5 l hO,G6 l hO,lc hO y,K5 l hO,←G6 l hO,K5 l hO,C5 l hO 0 (by have:=E9 l hO 0 0;omega)]
theorem dl8(x:Nat):b41 l x x=0:=K5 l hO x
theorem de3(x y:Nat):b41 l x y<ord l:=E9 l hO _ _
end
theorem dz7{p q n:Nat}(hn:n<2 ^ 24)(h1:Sub p n)(h2:Sub q n)(h:cnt n<cnt p+cnt q):∃z,p.testBit z=true∧q.testBit z=true:=by
 have e1:=c19 (Sub.or h1 h2);have e2:=c61 p q;obtain⟨z,hz⟩:=b24 (cp7 (a:=p &&& q) (by omega));rw[Nat.testBit_and,Bool.and_eq_true] at hz;exact⟨z,hz⟩
def Cl(l:List Int)(h:Nat):Prop:=h<2 ^ ord l∧h.testBit 0=true∧∀x y,h.testBit x=true→h.testBit y=true→h.testBit (b41 l x y)=true
theorem Cl.neg{l:List Int}(hg:c9 l=true){h y:Nat}(hc:Cl l h)(hy:h.testBit y=true):h.testBit (p4 l y)=true:=by
 have:=hc.2.2 0 y hc.2.1 hy;unfold b41 at this;rwa [C5 l (m0 hg) _ (Q9 l (m0 hg) y)] at this
theorem do2{l:List Int}(hO:M9 l){y:Nat}(hy:y<ord l):p4 l (p4 l y)=y :=
 S6 hO (x:=p4 l y) (Q9 l hO _) hy (by rw[K5 l hO,C8,K5 l hO])
theorem Cl.add{l:List Int}(hg:c9 l=true){h x y:Nat}(hc:Cl l h)(hx:h.testBit x=true)(hy:h.testBit y=true):h.testBit (j9 l x y)=true:=by
 have:=hc.2.2 x (p4 l y) hx (hc.neg hg hy);unfold b41 at this;rwa [do2 (m0 hg) (G9 hc.1 hy)] at this
theorem Cl.gen{l:List Int}(hg:c9 l=true){h:Nat}(hc:Cl l h):genF l h=h:=by
 refine Sub.antisymm (b30 (fun i hi=>?_) (fun i hi=>?_)) (fun i hi=>?_)
 · have:i=0:=by
    cases i with
    | zero=>rfl
    | succ i=>rw[Nat.testBit_succ] at hi;simp at hi
   subst this;exact hc.2.1
 · obtain⟨x,y,_,h1,_,h2,rfl⟩:=q7.1 hi;exact hc.add hg h1 h2
 · have hib:=G9 hc.1 hi;have hob:=l8 hg;refine b09 hg h i ?_;refine q7.2 ⟨0,i,by omega,b21 l h,by omega,hi,C5 l (m0 hg) i hib⟩
theorem Cl.shift{l:List Int}(hg:c9 l=true){h y:Nat}(hc:Cl l h)(hy:h.testBit y=true):j2 l h y=h:=by
 have hob:=l8 hg;have:=c67 hg (a:=h) hy (by have:=G9 hc.1 hy;omega);rwa [hc.gen hg] at this
end Go.Zz
namespace Go.Zz
def P4(l:List Int)(x:Nat):Nat→Nat
 | 0=>0
 | q+1=>j9 l x (P4 l x q)
theorem bj4{l:List Int}(hO:M9 l):0<ord l:=by have:=E9 l hO 0 0;omega
theorem b49{l:List Int}(hO:M9 l)(x:Nat):∀q,P4 l x q<ord l
 | 0=>bj4 hO
 | _+1=>E9 l hO _ _
def Clo(l:List Int)(H:Nat→Prop):Prop:=H 0∧(∀x y,x<ord l→y<ord l→H x→H y→H (j9 l x y))∧(∀x,x<ord l→H x→H (p4 l x))
theorem Clo.mul{l:List Int}(hO:M9 l){H:Nat→Prop}(h:Clo l H){x:Nat}(hx:x<ord l)(hH:H x):∀q,H (P4 l x q)
 | 0=>h.1
 | q+1=>h.2.1 _ _ hx (b49 hO x q) hH (Clo.mul hO h hx hH q)
def cm7(l:List Int):List Nat→Nat→Prop
 | [],h=>h=0
 | x :: X,h=>∃q k,cm7 l X k∧k<ord l∧h=j9 l (P4 l x q) k
theorem b98{o:Int}{r:List Int}(ho:1≤o.toNat)(a b:Nat):j9 (o :: r) (o.toNat*a) (o.toNat*b)=o.toNat*j9 r a b:=by
 simp only[j9];rw[Nat.mul_mod_right,Nat.mul_mod_right,Nat.mul_div_cancel_left _ (by omega),Nat.mul_div_cancel_left _ (by omega)];simp
theorem cu4{o:Int}{r:List Int}(ho:1≤o.toNat)(x:Nat):∀q,P4 (o :: r) (o.toNat*x) q=o.toNat*P4 r x q
 | 0=>by simp[P4]
 | q+1=>by simp only[P4];rw[cu4 ho x q,b98 ho]
theorem cy1{o:Int}{r:List Int}(ho:1≤o.toNat)(h:M9 (o :: r)):∀(X:List Nat) (k:Nat),cm7 r X k→cm7 (o :: r) (X.map (fun x=>o.toNat*x)) (o.toNat*k)
 | [],k,e=>by have e':k=0:=e;subst e';rfl
 | x :: X,k,⟨q,j,h1,h2,e⟩=>⟨q,o.toNat*j,cy1 ho h X j h1,by rw[bb8 h];exact Nat.mul_lt_mul_of_pos_left h2 (by omega),by rw[cu4 ho,b98 ho,e]⟩
theorem cb8(o:Int)(r:List Int)(x y:Nat)(ho:1≤o.toNat):j9 (o :: r) x y % o.toNat=(x % o.toNat+y % o.toNat) % o.toNat:=by
 simp only[j9];exact bh9 (Nat.mod_lt _ (by omega))
theorem d54(o:Int)(r:List Int)(x:Nat)(ho:1≤o.toNat):∀q,P4 (o :: r) x q % o.toNat=(q*(x % o.toNat)) % o.toNat
 | 0=>by simp[P4]
 | q+1=>by
  show j9 (o :: r) x (P4 (o :: r) x q) % o.toNat=_
  rw[cb8 o r _ _ ho,d54 o r x ho q,Nat.add_mod_mod,Nat.add_mul,Nat.one_mul,Nat.add_comm]
theorem d55(o:Int)(r:List Int)(x:Nat)(ho:1≤o.toNat):p4 (o :: r) x % o.toNat=(o.toNat - x % o.toNat) % o.toNat:=by
 simp only[p4];exact bh9 (Nat.mod_lt _ (by omega))
theorem b57{p:Nat→Prop}:∀n,p n→∃m,p m∧∀k,k<m→¬p k:=by
 intro n;induction n using Nat.strongRecOn with
 | _ n ih =>
  intro h;by_cases e:∃k,k<n∧p k
  · obtain⟨k,hk,hp⟩:=e;exact ih k hk hp
  · exact⟨n,h,fun k hk hp=>e ⟨k,hk,hp⟩⟩
theorem j21:∀(l:List Int),M9 l→∀H:Nat→Prop,Clo l H→∃X:List Nat,X.length=l.length∧(∀x∈X,x<ord l∧H x)∧∀h,h<ord l→H h→cm7 l X h
 | [],_,H,_=>⟨[],rfl,fun _ h=>(by cases h),fun h hl _=>(by rw[by2] at hl;show h=0;omega)⟩
 | o :: r,hO,H,hH=>by
  have ho:=hO.head
  have hr:=hO.tail
  have hord:=bb8 hO
  have hK:Clo r (fun k=>H (o.toNat*k)):=by
   refine⟨by simpa using hH.1,fun x y hx hy h1 h2=>?_,fun x hx h1=>?_⟩
   · show H (o.toNat*j9 r x y);rw[←b98 ho];exact hH.2.1 _ _ (by rw[hord];exact Nat.mul_lt_mul_of_pos_left hx (by omega)) (by rw[hord];exact Nat.mul_lt_mul_of_pos_left hy (by omega)) h1 h2
   · show H (o.toNat*p4 r x);have e:o.toNat*p4 r x=p4 (o :: r) (o.toNat*x):=by
      simp only[p4];rw[Nat.mul_mod_right,Nat.mul_div_cancel_left _ (by omega)];simp
     rw[e];exact hH.2.2 _ (by rw[hord];exact Nat.mul_lt_mul_of_pos_left hx (by omega)) h1
  obtain⟨X,hXl,hXm,hXs⟩:=j21 r hr _ hK
  have key:∃x0,x0<ord (o :: r)∧H x0∧∀h,h<ord (o :: r)→H h→∃q,j9 (o :: r) h (p4 (o :: r) (P4 (o :: r) x0 q)) % o.toNat=0:=by
   by_cases hz:∃h,h<ord (o :: r)∧H h∧0<h % o.toNat
   · obtain⟨h1,hl1,hH1,hp1⟩:=hz;obtain⟨d,⟨x0,hx0,hHx,hd,hd0⟩,hmin⟩:=b57 (p:=fun d=>∃x,x<ord (o :: r)∧H x∧x % o.toNat=d∧0<d) (h1 % o.toNat) ⟨h1,hl1,hH1,rfl,hp1⟩
     refine⟨x0,hx0,hHx,fun h hl hh=>⟨(h % o.toNat) / d,?_⟩⟩;have hm:=b49 hO x0 ((h % o.toNat) / d);have hHm:=hH.mul hO hx0 hHx ((h % o.toNat) / d);have hdlt:d<o.toNat:=(by rw[←hd];exact Nat.mod_lt _ (by omega));have hfst:j9 (o :: r) h (p4 (o :: r) (P4 (o :: r) x0 ((h % o.toNat) / d))) % o.toNat=(h % o.toNat) % d:=by
      rw[cb8 o r _ _ ho,d55 o r _ ho,d54 o r x0 ho,hd];have h1:h % o.toNat<o.toNat:=Nat.mod_lt _ (by omega);have h2:(h % o.toNat) / d*d≤h % o.toNat:=Nat.div_mul_le_self _ _;have h3:(h % o.toNat) / d*d+(h % o.toNat) % d=h % o.toNat:=(by rw[Nat.mul_comm];exact Nat.div_add_mod _ _);have h4:(h % o.toNat) % d<d:=Nat.mod_lt _ hd0;generalize (h % o.toNat) / d*d=A at h2 h3 ⊢;generalize (h % o.toNat) % d=B at h3 h4 ⊢;generalize h % o.toNat=C at h1 h2 h3 ⊢;rw[Nat.mod_eq_of_lt (show A<o.toNat by omega)];by_cases hA:A=0
      · subst hA;simp;rw[Nat.mod_eq_of_lt (by omega)];omega
      · rw[Nat.mod_eq_of_lt (show o.toNat - A<o.toNat by omega),show C+(o.toNat - A)=B+o.toNat by omega,Nat.add_mod_right,Nat.mod_eq_of_lt (by omega)]
     rw[hfst];by_cases hB:(h % o.toNat) % d=0
     · exact hB
     · exact absurd ⟨_,E9 _ hO _ _,hH.2.1 _ _ hl (Q9 _ hO _) hh (hH.2.2 _ hm hHm),hfst,by omega⟩ (hmin _ (Nat.mod_lt _ hd0))
   · refine⟨0,bj4 hO,hH.1,fun h hl hh=>⟨0,?_⟩⟩;have e:h % o.toNat=0:=by
      false_or_by_contra;rename_i e;exact hz ⟨h,hl,hh,by omega⟩
     rw[cb8 o r _ _ ho,d55 o r _ ho,e];show (0+(o.toNat - 0 % o.toNat) % o.toNat) % o.toNat=0;simp
  obtain⟨x0,hx0,hHx,hq⟩:=key
  refine⟨x0 :: X.map (fun x=>o.toNat*x),by simp[hXl],fun x hx=>?_,fun h hl hh=>?_⟩
  · rcases List.mem_cons.1 hx with rfl | hx
    · exact⟨hx0,hHx⟩
    · obtain⟨y,hy,rfl⟩:=List.mem_map.1 hx
      have:=hXm y hy
      exact⟨by rw[hord];exact Nat.mul_lt_mul_of_pos_left this.1 (by omega),this.2⟩
  · obtain⟨q,hq0⟩:=hq h hl hh
    have hm:=b49 hO x0 q
    have hlt:=E9 (o :: r) hO h (p4 (o :: r) (P4 (o :: r) x0 q))
    have hHd:H (j9 (o :: r) h (p4 (o :: r) (P4 (o :: r) x0 q))):=hH.2.1 _ _ hl (Q9 _ hO _) hh (hH.2.2 _ hm (hH.mul hO hx0 hHx q))
    have hback:j9 (o :: r) (P4 (o :: r) x0 q) (j9 (o :: r) h (p4 (o :: r) (P4 (o :: r) x0 q)))=h:=back hO hl
    generalize j9 (o :: r) h (p4 (o :: r) (P4 (o :: r) x0 q))=D at hq0 hlt hHd hback
    have hD:D=o.toNat*(D / o.toNat):=by have:=Nat.div_add_mod D o.toNat;omega
    have hDl:D / o.toNat<ord r:=(Nat.div_lt_iff_lt_mul (by omega)).2 (by rw[Nat.mul_comm,←hord];exact hlt)
    have hs:=hXs (D / o.toNat) hDl (by rw[←hD];exact hHd)
    have hs2:=cy1 ho hO X _ hs
    rw[←hD] at hs2
    exact⟨q,D,hs2,hlt,hback.symm⟩
theorem bx5{l:List Int}(hg:c9 l=true){x:Nat}(hx:x<ord l):∀q,(genF l (2 ^ x)).testBit (P4 l x q)=true
 | 0=>b21 l _
 | q+1=>by
  have hob:=l8 hg
  have h1:(genF l (2 ^ x)).testBit x=true:=by
   refine b09 hg (2 ^ x) x (q7.2 ⟨0,x,by omega,b21 l _,by omega,by simp,C5 l (m0 hg) x hx⟩)
  exact c30 hg h1 (bx5 hg hx q)
theorem Cl.genF{l:List Int}(hg:c9 l=true)(a:Nat):Cl l (genF l a) :=
 ⟨Y6 hg a,b21 l a,fun _ _ hx hy=>c30 hg hx (dm5 hg hy)⟩
theorem Cl.sum{l:List Int}(hg:c9 l=true){A B:Nat}(hA:Cl l A)(hB:Cl l B):Cl l (j3 l A B):=by
 have hO:=m0 hg;refine⟨b55 hO A B,?_,fun x y hx hy=>?_⟩
 · have:=ca1 (l:=l) (show 0<24 by omega) (show 0<24 by omega) hA.2.1 hB.2.1;rwa [C5 l hO 0 (bj4 hO)] at this
 · obtain⟨a,b,_,ha,_,hb,rfl⟩:=q7.1 hx;obtain⟨c,d,_,hc,_,hd,rfl⟩:=q7.1 hy;have h1:=hA.2.2 a c ha hc;have h2:=hB.2.2 b d hb hd;have hob:=l8 hg;have:=ca1 (l:=l) (show b41 l a c<24 by have:=de3 hO a c;omega) (show b41 l b d<24 by have:=de3 hO b d;omega) h1 h2;have e:b41 l (j9 l a b) (j9 l c d)=j9 l (b41 l a c) (b41 l b d):=by
    unfold b41;rw[dw3 hO];simp only[G6 l hO,C8 l,lc hO]
   rwa [e]
theorem Cl.clo{l:List Int}(hg:c9 l=true){H:Nat}(h:Cl l H):Clo l (fun x=>H.testBit x=true) :=
 ⟨h.2.1,fun _ _ _ _ h1 h2=>h.add hg h1 h2,fun _ _ h1=>h.neg hg h1⟩
theorem ce7{l:List Int}(hg:c9 l=true){H x:Nat}(h:Cl l H)(hx:H.testBit x=true):Sub (genF l (2 ^ x)) H:=by
 refine b30 (fun i hi=>?_) (fun i hi=>?_)
 · have:i=0:=by
    cases i with
    | zero=>rfl
    | succ i=>rw[Nat.testBit_succ] at hi;simp at hi
   subst this;exact h.2.1
 · obtain⟨a,b,_,ha,_,hb,rfl⟩:=q7.1 hi;have:b=x:=by
    rw[Nat.testBit_two_pow] at hb;simpa using (of_decide_eq_true hb).symm
   subst this;exact h.add hg ha hx
theorem d77{l:List Int}(hg:c9 l=true){H A B:Nat}(h:Cl l H)(hA:Sub A H)(hB:Sub B H):Sub (j3 l A B) H:=fun i hi=>by
 obtain⟨a,b,_,ha,_,hb,rfl⟩:=q7.1 hi
 exact h.add hg (hA a ha) (hB b hb)
theorem cm9{l:List Int}(hg:c9 l=true){H:Nat}(h:Cl l H):∃x y z,x<ord l∧y<ord l∧z<ord l∧H=j3 l (j3 l (genF l (2 ^ x)) (genF l (2 ^ y))) (genF l (2 ^ z)):=by
 have hO:=m0 hg;have hob:=l8 hg;have h3:=C0 hg;obtain⟨X,hXl,hXm,hXs⟩:=j21 l hO _ (h.clo hg);have pad:∃x y z,(x<ord l∧H.testBit x=true)∧(y<ord l∧H.testBit y=true)∧(z<ord l∧H.testBit z=true)∧∀u,u<ord l→H.testBit u=true→∃a b c,u=j9 l (P4 l x a) (j9 l (P4 l y b) (P4 l z c)):=by
  have z0:0<ord l∧H.testBit 0=true:=⟨bj4 hO,h.2.1⟩;have zz:j9 l 0 0=0:=C5 l hO 0 (bj4 hO);match X,hXl,hXm,hXs with
  | [],_,_,hs=>exact⟨0,0,0,z0,z0,z0,fun u hu hh=>⟨0,0,0,by have e:u=0:=hs u hu hh;rw[e];show 0=j9 l 0 (j9 l 0 0);rw[zz,zz]⟩⟩
  | [x],_,hm,hs=>exact⟨x,0,0,hm x (by simp),z0,z0,fun u hu hh=>by
   obtain⟨q,k,hk,hkl,e⟩:=hs u hu hh
   have ek:k=0:=hk
   exact⟨q,0,0,by rw[e,ek];show _=j9 l _ (j9 l 0 0);rw[zz]⟩⟩
  | [x,y],_,hm,hs=>exact⟨x,y,0,hm x (by simp),hm y (by simp),z0,fun u hu hh=>by
   obtain⟨q,k,⟨q2,k2,hk2,hk2l,e2⟩,hkl,e⟩:=hs u hu hh
   have ek:k2=0:=hk2
   exact⟨q,q2,0,by rw[e,e2,ek];rfl⟩⟩
  | [x,y,z],_,hm,hs=>exact⟨x,y,z,hm x (by simp),hm y (by simp),hm z (by simp),fun u hu hh=>by
   obtain⟨q,k,⟨q2,k2,⟨q3,k3,hk3,hk3l,e3⟩,hk2l,e2⟩,hkl,e⟩:=hs u hu hh
   have ek:k3=0:=hk3
   exact⟨q,q2,q3,by rw[e,e2,e3,ek,C8 l (P4 l z q3) 0,C5 l hO _ (b49 hO z q3)]⟩⟩
  | x :: y :: z :: t :: R,hl,_,_=>simp at hl;omega
 obtain⟨x,y,z,hx,hy,hz,hs⟩:=pad;refine⟨x,y,z,hx.1,hy.1,hz.1,Sub.antisymm (fun u hu=>?_) (d77 hg h (d77 hg h (ce7 hg h hx.2) (ce7 hg h hy.2)) (ce7 hg h hz.2))⟩;obtain⟨a,b,c,e⟩:=hs u (G9 h.1 hu) hu;have l1:=b49 hO x a;have l2:=b49 hO y b;have l3:=b49 hO z c;have l4:=E9 l hO (P4 l x a) (P4 l y b);rw[e,←G6 l hO];exact ca1 (by omega) (by omega) (ca1 (by omega) (by omega) (bx5 hg hx.1 a) (bx5 hg hy.1 b)) (bx5 hg hz.1 c)
theorem bb3{L:List Nat}{x:Nat}(h:x∈L):∃k,k<L.length∧d5 L k=x:=by
 obtain⟨k,hk,e⟩:=List.getElem_of_mem h;exact⟨k,hk,by simp[d5,List.getD,hk,e]⟩
theorem bt8{l:List Int}{C:List Nat}{i j:Nat}(hij:j≤i):∀k,i<k→j3 l (d5 C i) (d5 C j)∈O7 l C k
 | 0,h=>by omega
 | k+1,h=>by
  by_cases e:i=k
  · subst e;exact O6.2 (Or.inr ⟨j,by omega,rfl⟩)
  · exact O6.2 (Or.inl (bt8 hij k (by omega)))
theorem ch9{l:List Int}{T C:List Nat}{i j:Nat}(hj:j<C.length):∀k,i<k→j3 l (d5 T i) (d5 C j)∈O9 l T C k
 | 0,h=>by omega
 | k+1,h=>by
  by_cases e:i=k
  · subst e;exact O6.2 (Or.inr ⟨j,hj,rfl⟩)
  · exact O6.2 (Or.inl (ch9 hj k (by omega)))
theorem cq2{l:List Int}{x:Nat}(hx:x<ord l):genF l (2 ^ x)∈Q3 l:=O6.2 (Or.inr ⟨x,hx,rfl⟩)
theorem j41{l:List Int}{x y:Nat}(hx:x<ord l)(hy:y<ord l):j3 l (genF l (2 ^ x)) (genF l (2 ^ y))∈b14 l:=by
 obtain⟨i,hi,ei⟩:=bb3 (cq2 hx);obtain⟨j,hj,ej⟩:=bb3 (cq2 hy);rcases Nat.le_total j i with h | h
 · have:=bt8 (l:=l) (C:=Q3 l) h (Q3 l).length hi;rwa [ei,ej] at this
 · have:=bt8 (l:=l) (C:=Q3 l) h (Q3 l).length hj;rw[ei,ej] at this;rwa [bf1]
theorem db2{l:List Int}(hg:c9 l=true){H:Nat}(h:Cl l H):H∈sgL l:=by
 obtain⟨x,y,z,hx,hy,hz,rfl⟩:=cm9 hg h;obtain⟨i,hi,ei⟩:=bb3 (j41 hx hy);obtain⟨j,hj,ej⟩:=bb3 (cq2 hz);have:=ch9 (l:=l) (T:=b14 l) (C:=Q3 l) hj (b14 l).length hi;rwa [ei,ej] at this
theorem de2{l:List Int}(hg:c9 l=true){x:Nat}(h:x∈Q3 l):Cl l x:=by
 rcases O6.1 h with h | ⟨j,_,rfl⟩
 · cases h
 · exact Cl.genF hg _
theorem dj8{l:List Int}(hg:c9 l=true){C:List Nat}(hC:∀x∈C,Cl l x):∀{k x},k≤C.length→x∈O7 l C k→Cl l x
 | 0,x,_,h=>by cases h
 | k+1,x,hk,h=>by
  rcases O6.1 h with h | ⟨j,hj,rfl⟩
  · exact dj8 hg hC (by omega) h
  · exact Cl.sum hg (hC _ (o6 (by omega))) (hC _ (o6 (by omega)))
theorem ds8{l:List Int}(hg:c9 l=true){T C:List Nat}(hT:∀x∈T,Cl l x)(hC:∀x∈C,Cl l x):∀{k x},k≤T.length→x∈O9 l T C k→Cl l x
 | 0,x,_,h=>hT x h
 | k+1,x,hk,h=>by
  rcases O6.1 h with h | ⟨j,hj,rfl⟩
  · exact ds8 hg hT hC (by omega) h
  · exact Cl.sum hg (hT _ (o6 (by omega))) (hC _ (o6 (by omega)))
theorem j25{l:List Int}(hg:c9 l=true){H:Nat}:H∈sgL l↔Cl l H :=
 ⟨fun h=>ds8 hg (fun x hx=>dj8 hg (fun y hy=>de2 hg hy) (Nat.le_refl _) hx) (fun y hy=>de2 hg hy) (Nat.le_refl _) h,db2 hg⟩
end Go.Zz
namespace Go.Zz
theorem be5:∀{L M:List Nat},L.Nodup→(∀x∈L,x∈M)→L.length≤M.length
 | [],_,_,_=>Nat.zero_le _
 | x :: L,M,h,s=>by
  obtain⟨h1,h2⟩:=List.nodup_cons.1 h
  have hx:=s x (by simp)
  have ih:=be5 (M:=M.erase x) h2 (fun y hy=>(List.mem_erase_of_ne (fun e=>h1 (by rw[←e];exact hy))).2 (s y (by simp[hy])))
  rw[List.length_erase_of_mem hx] at ih
  have:=List.length_pos_of_mem hx
  simp only[List.length_cons]
  omega
theorem dp9{L M:List Nat}(hL:L.Nodup)(hM:M.Nodup)(h:∀x,x∈L↔x∈M):L.length=M.length :=
 Nat.le_antisymm (be5 hL fun x hx=>(h x).1 hx) (be5 hM fun x hx=>(h x).2 hx)
def Asc(L:List Nat):Prop:=∀i j,i<j→j<L.length→d5 L i<d5 L j
theorem ds6{L:List Nat}{n:Nat}:∀m j,pkN L n m≤j→j<m→n<d5 L j
 | 0,_,_,h=>by omega
 | m+1,j,h1,h2=>by
  by_cases h:n<d5 L m
  · rw[c41 h] at h1
    by_cases e:j=m
    · subst e;exact h
    · exact ds6 m j h1 (by omega)
  · rw[bn0 h] at h1;omega
theorem dh5{L:List Nat}{n:Nat}:∀m,0<pkN L n m→d5 L (pkN L n m - 1)≤n
 | 0,h=>by simp[pkN] at h
 | m+1,h=>by
  by_cases hn:n<d5 L m
  · rw[c41 hn] at h ⊢;exact dh5 m h
  · rw[bn0 hn]
    show d5 L (m+1 - 1)≤n
    simp;omega
theorem c77{L:List Nat}{n k i:Nat}(hk:k≤L.length):d5 (W4 L n k) i=if i<k then d5 L i else if i=k then n else d5 L (i - 1):=by
 unfold W4 d5;have hl:(L.take k).length=k:=by rw[List.length_take];omega
 split
 · rename_i h;simp only[List.getD];rw[List.getElem?_append_left (by omega),List.getElem?_take_of_lt h]
 · split
   · rename_i h1 h2;subst h2;simp only[List.getD];rw[List.getElem?_append_right (by omega),hl];simp
   · rename_i h1 h2;simp only[List.getD];rw[List.getElem?_append_right (by omega),hl];obtain⟨d,rfl⟩:∃d,i=k+1+d:=⟨i - k - 1,by omega⟩;rw[show k+1+d - k=d+1 by omega,List.getElem?_cons_succ,List.getElem?_drop,show k+d=k+1+d - 1 by omega]
theorem dt5{L:List Nat}(h:Asc L)(n:Nat):Asc (L1 L n):=by
 unfold L1;split
 · exact h
 · rename_i hc;have hk:=bu3 L n L.length;have hgt:=fun j h1 h2=>ds6 (L:=L) (n:=n) L.length j h1 h2;have hlow:=dh5 (L:=L) (n:=n) L.length;generalize pkN L n L.length=k at hc hk hgt hlow ⊢;intro i j hij hj;rw[bu5 hk] at hj;rw[c77 hk,c77 hk];have hlt:∀q,q<k→d5 L q<n:=by
    intro q hq;have h1:=hlow (by omega);have h2:d5 L (k - 1)≠n:=fun e=>hc ⟨by omega,e⟩;by_cases e:q=k - 1
    · rw[e];omega
    · have:=h q (k - 1) (by omega) (by omega);omega
   by_cases h1:i<k
   · rw[if_pos h1];by_cases h2:j<k
     · rw[if_pos h2];exact h i j hij (by omega)
     · rw[if_neg h2];by_cases h3:j=k
       · rw[if_pos h3];exact hlt i h1
       · rw[if_neg h3];have:=hlt i h1;have:=hgt (j - 1) (by omega) (by omega);omega
   · rw[if_neg h1,if_neg (show ¬j<k by omega),if_neg (show ¬j=k by omega)];by_cases h2:i=k
     · rw[if_pos h2];exact hgt (j - 1) (by omega) (by omega)
     · rw[if_neg h2];exact h (i - 1) (j - 1) (by omega) (by omega)
theorem dc7{L:List Nat}(h:Asc L):L.Nodup:=by
 rw[List.nodup_iff_pairwise_ne];rw[List.pairwise_iff_getElem];intro i j hi hj hij e;have:=h i j hij hj;simp[d5,List.getD,hi,hj,e] at this
theorem dt4:Asc []:=fun _ _ _ h=>by simp at h
theorem br0{f:Nat→Nat}{P:List Nat}(h:Asc P):∀k,Asc (J4 f P k)
 | 0=>h
 | k+1=>by rw[Y4];exact dt5 (br0 h k) _
theorem co1(l:List Int)(C:List Nat):∀k,Asc (O7 l C k)
 | 0=>dt4
 | k+1=>br0 (co1 l C k) _
theorem co2(l:List Int){T:List Nat}(C:List Nat)(h:Asc T):∀k,Asc (O9 l T C k)
 | 0=>h
 | k+1=>br0 (co2 l C h k) _
theorem dq1(l:List Int):(sgL l).Nodup:=dc7 (co2 l _ (co1 l _ _) _)
def b76(P:List Nat)(y:Nat):List Nat:=if y∈P then P else P++[y]
theorem b61{P:List Nat}{y x:Nat}:x∈b76 P y↔x∈P∨x=y:=by
 unfold b76;split
 · rename_i h;exact⟨Or.inl,fun q=>q.elim id fun e=>by rw[e];exact h⟩
 · simp
theorem d07{P:List Nat}(h:P.Nodup)(y:Nat):(b76 P y).Nodup:=by
 unfold b76;split
 · exact h
 · rename_i hy;rw[List.nodup_append];exact⟨h,by simp,fun a ha b hb e=>hy (by simp at hb;rw[←hb,←e];exact ha)⟩
theorem c76{P:List Nat}{y i:Nat}(hi:i<P.length):d5 (b76 P y) i=d5 P i:=by
 unfold b76;split
 · rfl
 · simp only[d5,List.getD];rw[List.getElem?_append_left hi]
structure Bfs(l:List Int)(P:List Nat)(i k:Nat):Prop where
 nodup:P.Nodup
 one:1∈P
 cl:∀x∈P,Cl l x
 done:∀j,j<i→∀x,x<ord l→genF l (d5 P j ||| 2 ^ x)∈P
 part:∀x,x<k→genF l (d5 P i ||| 2 ^ x)∈P
theorem dz6{l:List Int}(hg:c9 l=true):Cl l 1:=by
 refine⟨bu0 hg,by decide,fun x y hx hy=>?_⟩;have z:∀i,(1:Nat).testBit i=true→i=0:=by
  intro i hi;cases i with
  | zero=>rfl
  | succ i=>rw[Nat.testBit_succ] at hi;simp at hi
 rw[z x hx,z y hy,dl8 (m0 hg)];decide
theorem Bfs.start{l:List Int}(hg:c9 l=true):Bfs l [1] 0 0 :=
 ⟨by simp,by simp,fun x hx=>by simp at hx;subst hx;exact dz6 hg,fun _ h=>by omega,fun _ h=>by omega⟩
theorem Bfs.next{l:List Int}(hg:c9 l=true){P:List Nat}{i k:Nat}(h:Bfs l P i k)(hi:i<P.length):Bfs l (b76 P (genF l (d5 P i ||| 2 ^ k))) i (k+1):=by
 refine⟨d07 h.nodup _,b61.2 (Or.inl h.one),fun x hx=>?_,fun j hj x hx=>?_,fun x hx=>?_⟩
 · rcases b61.1 hx with hx | rfl
   · exact h.cl x hx
   · exact Cl.genF hg _
 · rw[c76 (by omega)];exact b61.2 (Or.inl (h.done j hj x hx))
 · rw[c76 hi];by_cases e:x=k
   · subst e;exact b61.2 (Or.inr rfl)
   · exact b61.2 (Or.inl (h.part x (by omega)))
theorem Bfs.row{l:List Int}{P:List Nat}{i:Nat}(h:Bfs l P i (ord l)):Bfs l P (i+1) 0 :=
 ⟨h.nodup,h.one,h.cl,fun j hj x hx=>by
  by_cases e:j=i
  · subst e;exact h.part x hx
  · exact h.done j (by omega) x hx,fun _ hx=>by omega⟩
theorem Bfs.len{l:List Int}(hg:c9 l=true){P:List Nat}{i k:Nat}(h:Bfs l P i k):P.length≤14400:=by
 have:=be5 h.nodup (M:=sgL l) fun x hx=>db2 hg (h.cl x hx);have:=by3 hg;omega
theorem dv6{l:List Int}(hg:c9 l=true){H a:Nat}(h:Cl l H)(ha:Sub a H):Sub (genF l a) H:=by
 refine b30 (fun i hi=>?_) (fun i hi=>?_)
 · have:i=0:=by
    cases i with
    | zero=>rfl
    | succ i=>rw[Nat.testBit_succ] at hi;simp at hi
   subst this;exact h.2.1
 · obtain⟨u,t,_,hu,_,ht,rfl⟩:=q7.1 hi;exact h.add hg hu (ha t ht)
theorem dv5{l:List Int}(hg:c9 l=true){a:Nat}(ha:a<2 ^ ord l):Sub a (genF l a):=fun i hi=>by
 have hib:=G9 ha hi
 have hob:=l8 hg
 exact b09 hg a i (q7.2 ⟨0,i,by omega,b21 l a,by omega,hi,C5 l (m0 hg) i hib⟩)
theorem Bfs.all{l:List Int}(hg:c9 l=true){P:List Nat}(h:Bfs l P P.length 0){H:Nat}(hH:Cl l H):H∈P:=by
 have key:∀d S,S∈P→Sub S H→cnt H≤cnt S+d→H∈P:=by
  intro d;induction d with
  | zero =>
   intro S hS hs hc;have:=bs0 (Nat.lt_of_lt_of_le hH.1 (E1 hg)) hs (by omega);rwa [←this]
  | succ d ih =>
   intro S hS hs hc;by_cases e:S=H
   · rwa [←e]
   · obtain⟨x,hx1,hx2⟩:∃x,H.testBit x=true∧S.testBit x=false:=by
      false_or_by_contra;rename_i hn;refine e (Sub.antisymm hs fun i hi=>?_);cases hb:S.testBit i
      · exact absurd ⟨i,hi,hb⟩ hn
      · rfl
     have hxl:=G9 hH.1 hx1
     obtain⟨j,hj,ej⟩:=bb3 hS
     have hm:=h.done j hj x hxl
     rw[ej] at hm
     have hSl:=(h.cl S hS).1
     have hpl:2 ^ x<2 ^ ord l:=Nat.pow_lt_pow_right (by omega) hxl
     have hal:S ||| 2 ^ x<2 ^ ord l:=Nat.or_lt_two_pow hSl hpl
     have hsub:Sub (genF l (S ||| 2 ^ x)) H:=dv6 hg hH (Sub.or hs fun i hi=>by
      rw[Nat.testBit_two_pow] at hi
      have:x=i:=of_decide_eq_true hi
      subst this;exact hx1)
     have hhas:=dv5 hg hal
     have hlt:=(bk4 (Nat.lt_of_lt_of_le (Y6 hg _) (E1 hg)) (show Sub S (genF l (S ||| 2 ^ x)) from (Sub.or_left _ _).trans hhas) (fun e2=>by
      have:(genF l (S ||| 2 ^ x)).testBit x=true:=hhas x (by rw[Nat.testBit_or,Nat.testBit_two_pow];simp)
      rw[←e2,hx2] at this;cases this)).2
     exact ih _ hm hsub (by omega)
 exact key (cnt H) 1 h.one (fun i hi=>by
  have:i=0:=by
   cases i with
   | zero=>rfl
   | succ i=>rw[Nat.testBit_succ] at hi;simp at hi
  subst this;exact hH.2.1) (by omega)
theorem Bfs.count{l:List Int}(hg:c9 l=true){P:List Nat}(h:Bfs l P P.length 0):P.length=(sgL l).length :=
 dp9 h.nodup (dq1 l) fun x=>⟨fun hx=>db2 hg (h.cl x hx),fun hx=>h.all hg ((j25 hg).1 hx)⟩
end Go.Zz
namespace Go.Zz
open Go.RowKit Go.Proofs
set_option maxHeartbeats 2000000
set_option maxRecDepth 8000
theorem ch8(P:List Nat)(y:Nat):Z7 (d6 P) (y:Int)=decide (y∈P):=by
 unfold Z7;refine decide_eq_decide.2 ⟨fun h=>?_,fun h=>List.mem_map.2 ⟨y,h,rfl⟩⟩;obtain⟨z,hz,e⟩:=List.mem_map.1 h;have:z=y:=by omega
 rwa [←this]
theorem dc2{P:List Nat}{y:Nat}(h:y∈P):b76 P y=P:=if_pos h
theorem dk7{P:List Nat}{y:Nat}(h:y ∉ P):b76 P y=P++[y]:=if_neg h
theorem Bfs.lt{l:List Int}(hg:c9 l=true){P:List Nat}{i k:Nat}(h:Bfs l P i k){j:Nat}(hj:j<P.length):d5 P j<2 ^ 24 :=
 Nat.lt_of_lt_of_le (h.cl _ (o6 hj)).1 (E1 hg)
theorem ca9(v:Value)(l:List Int)(w:World)(h:c8 w v l)(Hgr:Hid (c9 l=true))
 (hS:∀(w0 W:World) (u:Value) (L:List Int),Own 3 w0 W u L→Ext w0 W→L.length≤1000000→Calls Tryz.prog 209 #[u] W fun e w'=>e=.returned (.tuple #[])∧Own 3 w0 w' u (L.mergeSort fun x y=>decide (x≤y))∧Ext w0 w') :
 Calls Tryz.prog 95 #[.agg #[v]] w fun e w'=>∃ao c n,n=(sgL l).length∧e=.returned (.tuple #[.slice ao n c,.bool true])∧Ext w w':=by
 obtain⟨wb,Hwb,hE0,hb,hg,hE,Hsz⟩:=j60 28 h;clear h;have hbx:=hb wb hE;have hob:=l8 Hgr.out;have HS:=Lib.hid hS;clear hS;go_enter Tryz.func95,Tryz.ntmps95;go_wp2_with fail;rw[←Hwb.out];have hgr:=Hgr.out;go_wp2_with (go_at_call 94;refine (l0 _ _ _ (hg _ hE)).mono ?_;rintro e w1 ⟨rfl,hE1⟩);have hO:=q5 (TI:=3) (n:=1) (by omega) (Ext.refl w1) [1] rfl;have hEa:=(Ext.refl w1).alloc (.cells #[.int .i64 1] 3);have hD0:Dv w1 (some ⟨w1.heap.size,0,none⟩) 1 1 [1] (w1.alloc (.cells #[.int .i64 1] 3)):=⟨hO,rfl,hEa⟩;have hb1:=fun W (hW:Ext w1 W)=>hb W ((hE.trans hE1).trans hW);have hg1:=fun W (hW:Ext w1 W)=>hg W ((hE.trans hE1).trans hW);have hW1:=hE0.trans (hE.trans hE1);have HB0:=Lib.hid (Bfs.start hgr);clear hO hEa hb hg hE hE1 hgr hbx;go_loopw [4,5] (fun s4 s5 wr=>∃(i:Nat) (ao:Option Addr) (c:Nat) (P:List Nat),i≤P.length∧s5=.int .i64 i∧s4=.slice ao P.length c∧Dv w1 ao P.length c P wr∧Hid (Bfs l P i 0)) (fun _ s5 _=>14401 - (intOf s5).toNat);case atStart=>exact⟨0,_,1,[1],by omega,rfl,rfl,hD0,HB0⟩
 case round =>
  clear hD0 HB0;rename World=>wo;obtain⟨i,ao,c,P,hi,rfl,rfl,hDo,HBo⟩:=hrel;have hPl:=HBo.out.len Hgr.out;by_cases hlt:i<P.length
  · have hltI:(i:Int)<(P.length:Int):=(by omega);have hbo:=hb1 _ hDo.ext;have cO:=m9 v l _ (hg1 _ hDo.ext) Hgr;go_wp2_with (go_at_call 99;refine cO.mono ?_;rintro e w2 ⟨rfl,hE2⟩);have hD2:=hDo.ext2 hE2;clear hDo hbo cO;go_loopw [4,21] (fun s4 s21 wr=>∃(k:Nat) (ao:Option Addr) (c:Nat) (P:List Nat),k≤ord l∧i<P.length∧s21=.int .i64 k∧s4=.slice ao P.length c∧Dv w1 ao P.length c P wr∧Hid (Bfs l P i k)) (fun _ s21 _=>ord l - (intOf s21).toNat);(case atStart=>exact⟨0,_,c,P,by omega,hlt,rfl,rfl,hD2,HBo⟩);case round =>
     clear hD2 HBo hPl hltI hlt hi;rename World=>wr;obtain⟨k,ao,c,P,hk,hlt,rfl,rfl,hD,HB⟩:=hrel;have hPl:=HB.out.len Hgr.out;by_cases hlk:k<ord l
     · have hlkI:(k:Int)<(ord l:Int):=(by omega);have hltI:(i:Int)<(P.length:Int):=(by omega);have HN:=Lib.hid (HB.out.next Hgr.out hlt);have hlt24:=HB.out.lt Hgr.out hlt;obtain⟨g,rfl⟩:=hD.at hlt;have hix:=ba6 g P.length c;have hDd:=hD.drew;have ci:=(hDd.cell hlt).1;have bd:=hb1 _ hDd.ext;obtain⟨X,hX⟩:∃X,X=d5 P i:=⟨_,rfl⟩;rw[←hX] at ci HN hlt24;have q1:=p0 (n:=k) (by omega);have q2:=F8 (o:=X) (z:=k) hlt24 (by omega);have hor:X ||| 2 ^ k<2 ^ 24:=Nat.or_lt_two_pow hlt24 (Nat.pow_lt_pow_right (by omega) (by omega))
       have cG:=b69 v l (X ||| 2 ^ k) wr.drew (hg1 _ hDd.ext) Hgr hor;obtain⟨Y,hY⟩:∃Y,Y=genF l (X ||| 2 ^ k):=⟨_,rfl⟩;rw[←hY] at cG HN;obtain⟨Z,hZ⟩:∃Z:Nat,Z=(X ||| 2 ^ k):=⟨_,rfl⟩;rw[←hZ] at cG q2;obtain⟨pk,hpk⟩:∃x:Int,x=((pw k:Nat):Int):=⟨_,rfl⟩;rw[←hpk] at q1 q2;have hXI:0≤(X:Int)∧(X:Int)<16777216:=(by omega);clear hX hY hZ hpk hor;go_wp2_with fail;refine wp_region_held_drew (S:=(fun W=>W.cell? ⟨w.heap.size,0,none⟩=some v∧W.cell? ⟨g,i,none⟩=some (.int .i64 (X:Int)))) (by kernel_rfl) (by exact⟨bd,ci⟩) (fun hHeld=>?_);(refine tn 0 (v:=?_) (hy:=?_) (h:=?_));(rotate_left 1);(focus ((intro w hSw);(try dsimp only at hSw);go_simp;(try with_reducible rfl)));(try simp only[Act.put,s1,s2,s3,s4,s5,s6]);(refine tn 1 (v:=?_) (hy:=?_) (h:=?_));(rotate_left 1);(focus ((intro w hSw);(try dsimp only at hSw);go_simp;(try with_reducible rfl)));(try simp only[Act.put,s1,s2,s3,s4,s5,s6]);(refine tn 2 (v:=?_) (hy:=?_) (h:=?_));(rotate_left 1);(focus ((intro w hSw);(try dsimp only at hSw);go_simp;(try with_reducible rfl)));(try simp only[Act.put,s1,s2,s3,s4,s5,s6]);(refine tn 3 (v:=?_) (hy:=?_) (h:=?_));(rotate_left 1);(focus ((intro w hSw);(try dsimp only at hSw);go_simp;(try with_reducible rfl)));(try simp only[Act.put,s1,s2,s3,s4,s5,s6]);(refine tn 4 (v:=?_) (hy:=?_) (h:=?_));(rotate_left 1);(focus ((intro w hSw);(try dsimp only at hSw);go_simp;(try with_reducible rfl)));(try simp only[Act.put,s1,s2,s3,s4,s5,s6]);(refine tn 5 (v:=?_) (hy:=?_) (h:=?_));(rotate_left 1);(focus ((intro w hSw);(try dsimp only at hSw);go_simp;(try with_reducible rfl)));(try simp only[Act.put,s1,s2,s3,s4,s5,s6]);(refine tn 6 (v:=?_) (hy:=?_) (h:=?_));(rotate_left 1);(focus ((intro w hSw);(try dsimp only at hSw);go_simp;(first | done | with_reducible rfl | (rw[if_neg];(try simp only[ByteArray.size_append,ByteArray.size_mk,List.size_toArray,List.length_cons,List.length_nil]);omega) | trace_state)));(try simp only[Act.put,s1,s2,s3,s4,s5,s6]);(refine tn 7 (v:=?_) (hy:=?_) (h:=?_));(rotate_left 1);(focus ((intro w hSw);(try dsimp only at hSw);go_simp;(first | done | with_reducible rfl | (rw[if_neg];(try simp only[ByteArray.size_append,ByteArray.size_mk,List.size_toArray,List.length_cons,List.length_nil]);omega) | trace_state)));(try simp only[Act.put,s1,s2,s3,s4,s5,s6]);refine t1 8 (h:=fun K hK=>?_);go_simp;(go_at_call 207;(with_reducible refine Calls.mono cG ?_);rintro e w3 ⟨rfl,hE3⟩);have hD3:=hDd.ext2 hE3;have c3:=hE3.cell ci;have b3:=hb1 _ hD3.ext;refine hK.out _ _ (by exact⟨b3,c3⟩) (fun hHeld=>?_);clear hK K;(try simp only[Act.put,s1,s2,s3,s4,s5,s6]);(refine tn 9 (v:=?_) (hy:=?_) (h:=?_));(rotate_left 1);(focus ((intro w hSw);(try dsimp only at hSw);go_simp;(try with_reducible rfl)));(try simp only[Act.put,s1,s2,s3,s4,s5,s6]);refine wpAnyH_done (by kernel_rfl) ?_ _;go_wp2_with fail;have hI3:=hD3.own.ints;clear bd ci b3 c3;by_cases hy:Y∈P
       · have cC:=R8 _ (d6 P) (Y:Int) w3 hI3 (c:=true) (by rw[ch8];exact decide_eq_true hy);have HN2:=Lib.hid (dc2 hy);go_wp2_with (go_at_call 208;refine cC.mono ?_;rintro e w4 ⟨rfl,rfl⟩);go_roundw;(case rel=>exact⟨k+1,_,c,P,by omega,hlt,by go_num,rfl,hD3,by rw[←HN2.out];exact HN⟩);case measure=>(simp[intOf];omega)
       · have cC:=R8 _ (d6 P) (Y:Int) w3 hI3 (c:=false) (by rw[ch8];exact decide_eq_false hy);have HN2:=Lib.hid (dk7 hy);go_wp2_with (first | (go_at_call 208;refine cC.mono ?_;rintro e w4 ⟨rfl,rfl⟩) | (at_builtin;refine K4 slI rfl _ _ rfl w1 _ _ _ _ hD3.own hD3.ext (by rw[j8];omega) rfl rfl ?_;intro v5 w5 hO5 hE5;rw[←J3] at hO5;obtain⟨a5,c5,rfl,-⟩:=hO5.shape;rw[j8] at hO5 ⊢));go_roundw;(case rel=>exact⟨k+1,a5,c5,P++[Y],by omega,by simp;omega,by go_num,by rw[List.length_append];rfl,⟨hO5,rfl,hE5⟩,by rw[←HN2.out];exact HN⟩);case measure=>(simp[intOf];omega)
     · have hlkI:¬(k:Int)<(ord l:Int):=(by omega);have hke:k=ord l:=(by omega);rw[hke] at HB;have HR:=Lib.hid (HB.out.row);go_wp2_with fail;go_roundw;(case rel=>exact⟨i+1,_,c,P,by omega,by go_num,rfl,hD,HR⟩);case measure=>(simp[intOf];omega)
  · have hin:i=P.length:=(by omega);have hltI:¬(i:Int)<(P.length:Int):=(by omega);rw[hin] at HBo;have Hcount:=Lib.hid (HBo.out.count Hgr.out);have cS:=HS.out _ _ _ _ hDo.own hDo.ext (by rw[j8];omega);go_wp2_with fail;go_at_call 209;with_reducible refine Calls.mono cS ?_;rintro e w3 ⟨rfl,-,hE3⟩;go_wp2_with fail;exact bodyPost_ret (v:=.tuple #[.slice ao P.length c,.bool true]) (by simp[results,Tryz.results95,go_sem]) rfl ⟨ao,c,P.length,Hcount.out,rfl,hW1.trans hE3⟩
end Go.Zz
