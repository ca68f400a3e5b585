/- Plain laws: negatives, generated subgroups, reached sets, cosets. -/
import Derived.Test.YtjhoafjeopcheaaGreatGr4
set_option linter.all false
set_option maxHeartbeats 400000
namespace Go.Zz
open Go.RowKit Go.Proofs
variable(v:Value)(l:LI)(a x b:Nat)(w:World)(g h:LI)(L:LN)(s:Nat){k q c n y:Nat}{r X:LI}{p:Nat->Bool}{M E:LN}
theorem dj3{l:LI}(h:k<l.length)(H:nth l k=(q:Int))(x:Nat):q7 (l.drop k) x=(q-x%q)%q+q*q7 (l.drop (k+1)) (x/q):=by
 rw[c77 l k h,H];simp[q7]
theorem bk7{l:LI}(h:d7 l=true)(x:Nat):q7 l x<24:=nlt (U5 l (m0 h) x) (l8 h).2
def c96(l:LI)(L:LN):Nat:=B7 (L.map (fun y=>q7 l y))
theorem dj6(y:Nat):c96 l (L++[y])=c96 l L ||| 2^q7 l y:=by
 unfold c96;rw[pF];exact bn0 _ _
theorem j01:c96 l (j3 a)=V0 l a:=rfl
theorem jh1{l:LI}(h:d7 l=true)(L:LN):c96 l L<2^24:=by
 refine b77 fun y H=>?_;obtain⟨z,_,rfl⟩:=pp.1 H;exact bk7 h _
theorem j61{l:LI}{a z:Nat}:(V0 l a).testBit z=true↔∃y,y<24/\a.testBit y=true/\q7 l y=z:=by
 unfold V0;rw[Q0,decide_eq_true_iff,pp];constructor;rintro⟨y,h,rfl⟩;exact⟨y,(I0.1 h).1,(I0.1 h).2,rfl⟩;rintro⟨y,o,r,rfl⟩;exact⟨y,I0.2 ⟨o,r⟩,rfl⟩
def Sub(a b:Nat):Prop:=∀i,a.testBit i=true->b.testBit i=true
theorem Sub.refl:Sub a a:=fun _ h=>h
theorem Sub.trans{a b:Nat}(h:Sub a b)(k:Sub b c):Sub a c:=fun i J=>k i (h i J)
theorem Sub.antisymm{a b:Nat}(h:Sub a b)(k:Sub b a):a=b:=oK fun i=>b18 ⟨h i,k i⟩
theorem Sub.or_left:Sub a (a ||| b):=fun i h=>by rw[oN,h];rfl
theorem Sub.or_right:Sub b (a ||| b):=fun i h=>by rw[oN,h];simp
theorem Sub.or{a b:Nat}(h:Sub a c)(k:Sub b c):Sub (a ||| b) c:=fun i J=>by
 rw[oN]at J
 rcases Bool.or_eq_true_iff.1 J with e|e
 . exact h i e
 . exact k i e
theorem d33(p q:Nat->Bool):∀L:LN,(∀x∈L,p x=true->q x=true)->(L.filter p).length+(L.filter (fun x=>q x && !p x)).length=(L.filter q).length
 |[],_=>rfl
 | x :: L,h=>by
  have i:=d33 p q L (fun y Y=>h y (by simp[Y]))
  have K:=h x zm
  cases P:p x
  . cases H:q x
    . simp[P,H];exact i
    . simp[P,H];omega
  . have H:=K P
    simp[P,H];omega
theorem da4{a b:Nat}(h:Sub a b):cnt a+cnt (G2 b a)=cnt b:=by
 have e:j3 (G2 b a)=(List.range 24).filter (fun x=>b.testBit x && !a.testBit x):=by
  unfold j3;congr 1;funext x;exact S7 b a x
 unfold cnt;rw[e];exact d33 _ _ _ (fun x _=>h x)
theorem cv6{a b:Nat}(h:Sub a b):cnt a<=cnt b:=by have:=da4 h;omega
theorem c58{a b:Nat}(C:b<2^24)(h:Sub a b)(n:a≠b):a<b/\cnt a<cnt b:=by
 have o:=bt7 24 b a C;have r:b &&& a=a:=oK fun i=>by
  rw[pC]
  cases e:a.testBit i
  simp
  rw[h i e];rfl
 rw[r]at o;have T:G2 b a≠0:=om;have H:=U3 (pW T) (c27 C);have:=da4 h;omega
theorem cg0{a b:Nat}(C:b<2^24)(h:Sub a b)(c:cnt b<=cnt a):a=b:=by
 refine oU fun n=>?_;have:=(c58 C h n).2;omega
theorem d83{a b:Nat}(C:b<2^n)(h:Sub a b):a<2^n:=by
 apply Nat.lt_pow_two_of_testBit;intro i J;cases e:a.testBit i;rfl;have:=h i e;rw[W4 C J]at this;cases this
theorem bm4:(j3 a).Nodup:=by unfold j3;exact List.Nodup.sublist List.filter_sublist List.nodup_range
theorem dr9(n:M.Nodup)(h:∀x∈M,x<24):cnt (B7 M)=M.length:=by
 have e:(j3 (B7 M)).Perm M:=by
  rw[List.perm_ext_iff_of_nodup (bm4 _) n];intro x;rw[I0,Q0];simp;exact h x
 exact e.length_eq
theorem bf1{l:LI}(h:d7 l=true){a:Nat}(H:a<2^ord l):cnt a<=ord l:=by
 unfold cnt;rw[show j3 a=E2 a (ord l)from(T5 (l8 h).2 H).symm];exact bm3 _ _
theorem bf2{l:LI}(h:d7 l=true){a:Nat}(A:a<2^ord l)(x:Nat):cnt (j6 l a x)=cnt a:=by
 unfold j6;rw[dr9];simp[cnt];refine List.Pairwise.map _ ?_ (List.Pairwise.and_mem.1 (bm4 a));rintro y z⟨H,Z,n⟩e;exact n (b26 (m0 h) (L7 A (I0.1 H).2) (L7 A (I0.1 Z).2) e);intro y H;obtain⟨z,_,rfl⟩:=pp.1 H;exact b14 h _ _
theorem bz9{l:LI}{a b d:Nat}(h:Sub a b)(k:Sub c d):Sub (j7 l a c) (j7 l b d):=fun i J=>by
 obtain⟨x,y,K,A,H,C,rfl⟩:=C7.1 J
 exact C7.2 ⟨x,y,K,h x A,H,k y C,rfl⟩
def grow(l:LI)(a h:Nat):Nat:=h ||| j7 l h a
def K0(l:LI)(a s:Nat):Nat->Nat
 |0=>s
 |n+1=>grow l a (K0 l a s n)
theorem j88:K0 l a s 0=s:=rfl
theorem j87(n:Nat):K0 l a s (n+1)=K0 l a s n ||| j7 l (K0 l a s n) a:=rfl
theorem by3{l:LI}(h:d7 l=true){a s:Nat}(S:s<2^ord l):∀n,K0 l a s n<2^ord l
 |0=>S
 |n+1=>ox (by3 h S n) (bg8 (m0 h) _ _)
theorem dh4{l:LI}(h:d7 l=true){a s:Nat}(S:s<2^ord l)(n:Nat):K0 l a s n<2^24:=nlt (by3 h S n) (E7 h)
theorem ch0(n:Nat):Sub (K0 l a s n) (K0 l a s (n+1)):=Sub.or_left _ _
theorem cs6(l:LI)(a s n:Nat):∀d,Sub (K0 l a s n) (K0 l a s (n+d))
 |0=>Sub.refl _
 |d+1=>(cs6 l a s n d).trans (ch0 l a s (n+d))
theorem c83{l:LI}{a s n:Nat}(h:K0 l a s (n+1)=K0 l a s n):∀d,K0 l a s (n+d)=K0 l a s n
 |0=>rfl
 |d+1=>by
  have i:=c83 h d
  show grow l a (K0 l a s (n+d))=_
  rw[i];exact h
theorem d40{l:LI}(H:d7 l=true){a s:Nat}(S:s<2^ord l)(T:s≠0):∀n,(∀m,m<n->K0 l a s (m+1)≠K0 l a s m)->n+1<=cnt (K0 l a s n)
 |0,_=>by
  have:=U3 (pW T) (nlt S (E7 H));exact this
 |n+1,h=>by
  have i:=d40 H S T n (fun m M=>h m om)
  have:=(c58 (dh4 H S (n+1)) (ch0 l a s n) (fun e=>h n om e.symm)).2
  omega
theorem jl5{l:LI}(H:d7 l=true){a s:Nat}(S:s<2^ord l)(T:s≠0):∃n,n<ord l/\K0 l a s (n+1)=K0 l a s n:=by
 refine oU fun N=>?_;have h:∀m,m<ord l->K0 l a s (m+1)≠K0 l a s m:=fun m M e=>N ⟨m,M,e⟩;have o:=d40 H S T (ord l) h;have r:=bf1 H (by3 (a:=a) H S (ord l));omega
theorem dx1{l:LI}(H:d7 l=true){a s:Nat}(S:s<2^ord l)(h:s≠0)(N:ord l<=n+1):K0 l a s (n+1)=K0 l a s n:=by
 obtain⟨m,M,e⟩:=jl5 (a:=a) H S h;have R:=c83 e (n+1-m);have E:=c83 e (n-m);rw[show m+(n+1-m)=n+1 by omega]at R;rw[show m+(n-m)=n by omega]at E;rw[R,E]
def genF(l:LI)(a:Nat):Nat:=K0 l a 1 24
theorem ci6{l:LI}(h:d7 l=true):1<2^ord l:=by
 have:=(l8 h).1;have:2^1<=2^ord l:=ot om this;omega
theorem ba9{l:LI}(h:d7 l=true)(a:Nat):genF l a<2^ord l:=by3 h (ci6 h) 24
theorem c40{l:LI}(h:d7 l=true)(a:Nat):genF l a<2^24:=dh4 h (ci6 h) 24
theorem l64{l:LI}(h:d7 l=true)(a:Nat):genF l a ||| j7 l (genF l a) a=genF l a :=
 dx1 h (ci6 h) om (by have:=(l8 h).2;omega)
theorem cw7:Sub 1 (genF l a):=by
 have:=cs6 l a 1 0 24;exact this
theorem bf9:(genF l a).testBit 0=true:=cw7 l a 0 (by decide)
theorem bd9{l:LI}(h:d7 l=true)(a:Nat):Sub (j7 l (genF l a) a) (genF l a):=by
 have e:=l64 h a;intro i J;rw[<-e,oN,J];simp
theorem bi2{l:LI}{a h:Nat}(o:Sub 1 h)(r:Sub (j7 l h a) h):Sub (genF l a) h:=by
 suffices k:∀n,Sub (K0 l a 1 n) h from k 24
 intro n;induction n with
 |zero=>exact o
 |succ n ih=>exact Sub.or ih ((bz9 ih (Sub.refl a)).trans r)
theorem d37{l:LI}(h:d7 l=true){a:Nat}(Y:a.testBit y=true)(C:y<24):j6 l (genF l a) y=genF l a:=by
 refine cg0 (c40 h a) ?_ (by rw[bf2 h (ba9 h a)];exact oc _);intro i J;obtain⟨u,H,b,e⟩:=E8.1 J;exact bd9 h a i (C7.2 ⟨u,y,H,b,C,Y,by rw[E4];exact e⟩)
theorem l66{l:LI}(h:d7 l=true)(a:Nat):Sub (j7 l (genF l a) (V0 l a)) (genF l a):=by
 intro i J;obtain⟨x,Z,K,X,L,z,rfl⟩:=C7.1 J;obtain⟨y,H,Y,rfl⟩:=j61.1 z;have e:=d37 h Y H;have B:=X;rw[<-e]at B;obtain⟨u,A,b,rfl⟩:=E8.1 B;have o:=m0 h;have U:=L7 (ba9 h a) b;have E:j9 l (j9 l y u) (q7 l y)=u:=by
  rw[E4 l y u,M9 l o,P0 l o,E4 l u 0,C9 l o u U]
 rw[E];exact b
def d38(l:LI)(a h:Nat):Nat:=h ||| j7 l h a ||| j7 l h (V0 l a)
theorem jt6{l:LI}(H:d7 l=true){a h:Nat}(S:Sub h (genF l a)):Sub (d38 l a h) (genF l a) :=
 Sub.or (Sub.or S ((bz9 S (Sub.refl _)).trans (bd9 H a))) ((bz9 S (Sub.refl _)).trans (l66 H a))
theorem l68(h:Nat):Sub h (d38 l a h):=(Sub.or_left _ _).trans (Sub.or_left _ _)
theorem jt5{l:LI}{a h:Nat}(o:Sub 1 h)(S:Sub h (genF l a))(e:d38 l a h=h):h=genF l a:=by
 refine S.antisymm (bi2 o fun i J=>?_);rw[<-e];exact Sub.or_left _ _ i (Sub.or_right _ _ i J)
theorem l69{l:LI}{a h:Nat}(o:Sub 1 h)(S:Sub h (genF l a))(e:grow l a h=h):h=genF l a:=by
 refine S.antisymm (bi2 o fun i J=>?_);rw[<-e];exact Sub.or_right _ _ i J
theorem l71{l:LI}(H:d7 l=true){a h:Nat}(S:Sub h (genF l a)):Sub (grow l a h) (genF l a) :=
 Sub.or S ((bz9 S (Sub.refl _)).trans (bd9 H a))
theorem cw6{l:LI}(h:d7 l=true){a x:Nat}(K:(genF l a).testBit x=true)(H:(genF l a).testBit y=true):(genF l a).testBit (j9 l x y)=true:=by
 have o:=m0 h;suffices k:∀n,∀y,(K0 l a 1 n).testBit y=true->∀x,(genF l a).testBit x=true->(genF l a).testBit (j9 l x y)=true from k 24 y H x K
 intro n;induction n with
 | zero =>
  intro y H x K;have Y:y=0:=by
   refine oU fun N=>?_;rw[j88,W4 (n:=1) (by decide) om]at H;cases H
  subst Y;rw[E4,C9 l o x (L7 (ba9 h a) K)];exact K
 |succ n ih =>
  intro y H x K;rw[j87,oN]at H;rcases Bool.or_eq_true_iff.1 H with e|e
  . exact ih y e x K
  . obtain⟨u,v,U,B,V,b,rfl⟩:=C7.1 e;rw[<-M9 l o];have X:=ih u B x K;refine bd9 h a _ (C7.2 ⟨_,v,b14 h x u,X,V,b,rfl⟩)
theorem l65{l:LI}(h:d7 l=true){a:Nat}(Y:(genF l a).testBit y=true):(genF l a).testBit (q7 l y)=true:=by
 have o:=m0 h;have e:j6 l (genF l a) y=genF l a:=by
  refine cg0 (c40 h a) ?_ (by rw[bf2 h (ba9 h a)];exact oc _);intro i J;obtain⟨u,U,b,e⟩:=E8.1 J;rw[<-e];exact cw6 h Y b
 have H:=bf9 l a;rw[<-e]at H;obtain⟨u,U,b,E⟩:=E8.1 H;have:u=q7 l y:=b26 o (x:=y) (L7 (ba9 h a) b) (U5 l o y) (by rw[E,P0 l o]);rw[<-this];exact b
def R1(a:Nat):Nat:=(j3 a).headD 0
theorem dg6(a k:Nat):∀d,∃R,E2 a (k+d)=E2 a k++R
 |0=>⟨[],zm⟩
 |d+1=>by
  obtain⟨R,h⟩:=dg6 a k d
  exact⟨R++(if a.testBit (k+d)then [k+d]else []),by rw[<-qb,H5,h,pr]⟩
theorem cf9{a:Nat}:∀{k:Nat},(∀j,j<k->a.testBit j=false)->E2 a k=[]
 |0,_=>rfl
 |k+1,h=>by rw[H5,cf9 (fun j H=>h j om),h k om];rfl
theorem ll5{a:Nat}(V:k<24)(h:∀j,j<k->a.testBit j=false)(C:a.testBit k=true):R1 a=k:=by
 obtain⟨r,R⟩:=dg6 a (k+1) (24-(k+1));rw[show k+1+(24-(k+1))=24 by omega,H5 a k,cf9 h,C]at R;unfold R1;rw[show j3 a=E2 a 24 from rfl,R];rfl
theorem l50{a:Nat}(h:a≠0)(H:a<2^24):j3 a≠[]:=by
 intro e;have:=U3 (pW h) H;unfold cnt at this;rw[e]at this;simp at this
theorem c90{a:Nat}(h:a≠0)(H:a<2^24):d5 (j3 a) 0=R1 a/\0<(j3 a).length/\a.testBit (R1 a)=true/\R1 a<24:=by
 have n:=l50 h H;unfold R1 d5;cases e:j3 a with
 |nil=>exact absurd e n
 |cons x L =>
  have K:x∈j3 a:=by rw[e];simp
  exact⟨rfl,zm,(I0.1 K).2,(I0.1 K).1⟩
def cl7(l:LI)(a:Int):Bool:=j0 l a&&decide ((genF l a.toNat:Int)=a)
theorem lo4{l:LI}{a:Int}(h:j0 l a=false):cl7 l a=false:=by unfold cl7;rw[h];rfl
theorem j50{l:LI}(h:j0 l n=true):cl7 l n=((genF l n:Int) == (n:Int)):=by
 unfold cl7;rw[h,oA];simp
theorem bk0(V:k<n)(h:∀j,j<k->p j=false)(P:p k=true):(List.range n).find? p=some k:=by
 rw[List.find?_range_eq_some];exact⟨P,by simpa using V,fun j H=>by rw[h j H];rfl⟩
theorem bf5(h:∀j,j<n->p j=false):(List.range n).find? p=none:=by
 rw[List.find?_range_eq_none];intro j H;rw[h j H];rfl
def c68(l:LI)(a:Nat):Nat:=genF l (j6 l a (q7 l (R1 a)))
def c85(l:LI)(a:Int):Int:=if C8 l a then(j6 l (c68 l a.toNat) (R1 a.toNat):Int)else -1
theorem dx3{l:LI}{a:Int}(h:C8 l a=false):c85 l a = -1:=by unfold c85;rw[h];rfl
theorem dh6{l:LI}(h:C8 l n=true):c85 l n=(j6 l (c68 l n) (R1 n):Int):=by unfold c85;rw[if_pos h];rfl
theorem bq5{l:LI}{a:Int}(h:C8 l a=true):∃n:Nat,a=n/\n≠0/\n<2^ord l/\n<2^24/\d7 l=true:=by
 unfold C8 at h;obtain⟨o,r⟩:=pO.1 h;obtain⟨n,rfl,T,H,c⟩:=l7 o;exact⟨n,rfl,by have:=of_decide_eq_true r;omega,T,H,c⟩
theorem X5{l:LI}(h:d7 l=true)(H:n<2^ord l):j0 l n=true:=by
 unfold j0;rw[h];simp;have:((n:Nat):Int)<((2^ord l:Nat):Int):=om;simpa using this
def M7(l:LI)(x:Int):Bool:=inB x 0 (bp0 l-1)
theorem b94{l:LI}{x:Int}(h:M7 l x=true):∃n:Nat,x=n/\n<ord l/\d7 l=true:=by
 obtain⟨o,r⟩:=V2.1 h;cases H:d7 l;rw[d52 H]at r;omega;rw[bi6 H]at r;exact⟨x.toNat,om,om,rfl⟩
theorem bk3{l:LI}(h:d7 l=true)(H:n<ord l):M7 l n=true:=V2.2 (by rw[bi6 h];omega)
theorem lk4{l:LI}(h:d7 l=true):cn6 l=(l6 l:Int):=by
 rw[jg1 h];unfold l6;have:=X9 (ord l);omega
theorem J4(h:c8 w v l)(R:Hid (d7 l=true)):Calls Tryz.prog 202 #[.agg #[v]] w (RE w (vi (l6 l))):=by
 rw[<-lk4 R.o];exact cr0 v l w h
theorem p9(h:c8 w v l)(R:Hid (d7 l=true)):Calls Tryz.prog 153 #[.agg #[v]] w (RE w (vi (ord l:Int))):=by
 rw[<-bi6 R.o];exact W2 v l w h
theorem zz72{P:Prop}(h:P:=by go_wp2_with(first|(go_at_call 196;refine cx (M8 _ _ _ _ _ (H _ E) (R) (r) (s.o)) E fun W E=>?_)|(go_at_call 78;refine(C6 _ y _).mono ?_;rintro e W⟨rfl,rfl⟩;rw[m.o]));go_roundw;exact⟨k+1,om,zg,by rw[i.o],by rw[i.o],E⟩;exact zm1):P:=h
theorem c62(a:Int)(w:World)(h:c8 w v l):Calls Tryz.prog 191 #[.agg #[v],vi a] w (RE w (.tuple #[vi (T1 l a),.bool (C8 l a)])):=by
 obtain⟨B,Z,F,C,H,E,Hz⟩:=m04 42 h;clear h;have X:=C B E;cases S:j0 l a
 . have N:=zh (P5 S);have K:=zh (bq3 (P5 S));go_in;go_wp2_with fail;rw[<-Z.o];go_wp2_with(first|(go_at_call 180;refine cx (F9 _ _ _ _ (H _ E)) E fun W E=>?_));refine br (.tuple #[vi 0,.bool false]) ⟨by rw[N.o,K.o],F.trans E⟩
 obtain⟨n,rfl,g,r,Y⟩:=l7 S;by_cases T:n=0
 . subst T;have N:=zh (J7 l);have K:=zh (bq3 (J7 l));go_in;go_wp2_with fail;rw[<-Z.o];go_wp2_with(first|(go_at_call 180;refine cx (F9 _ _ _ _ (H _ E)) E fun W E=>?_));refine br (.tuple #[vi 0,.bool false]) ⟨by have:=N.o;have:=K.o;simp_all,F.trans E⟩
 have N:=zh (Q4 S om);have K:=zh (cs3 N.o);have J:=zh T;have he:=zh g;have ha:((n:Int) == 0)=false:=zso;have R:=zh Y;have hm:=l8 Y;have hl:=bu9 l;have hy:=E7 Y;clear Y T g;go_in;go_wp2_with fail;rw[<-Z.o];go_wp2_with(first|(go_at_call 180;refine cx (F9 _ _ _ _ (H _ E)) E fun W E=>?_));clear S ha;go_loopw [6,7] (fun ov cv wr=>∃O c A:Nat,O<2^24/\c<2^ord l/\G2 (l6 l) c<=A/\b02 l n A O (G2 (l6 l) c)=b02 l n (l6 l) 0 (l6 l)/\ov=vi O/\cv=vi c/\Ext B wr) (fun _ c _=>G2 (l6 l) (intOf c).toNat);exact⟨0,0,l6 l,om,om,by rw[d46];omega,by rw[d46],rfl,rfl,E⟩;case round =>
  clear E;obtain⟨O,c,A,p,Q,hN,G,rfl,rfl,E⟩:=hrel;have X:=C _ E;have j:=zh G;clear G;by_cases d:c=l6 l
  . have M:=zh ((di6 Q).2 d);have q:((c:Int) != (l6 l:Int))=false:=(by simp[d]);clear d;go_wp2_with(first|(go_at_call 202;refine cx (J4 _ _ _ (H _ E) (R)) E fun W E=>?_));have hi:Hid (b02 l n (l6 l) 0 (l6 l)=O):=zh (by have:=j.o;rw[M.o,cs4]at this;exact this.symm);refine br (.tuple #[vi O,.bool true]) ⟨by rw[N.o,K.o,hi.o],F.trans E⟩
  . have q:((c:Int) != (l6 l:Int))=true:=zso;have z:Hid (G2 (l6 l) c≠0):=zh fun e=>d ((di6 Q).1 e);have hf:=c27 (b:=c) hl;clear d;go_wp2_with(first|(go_at_call 202;refine cx (J4 _ _ _ (H _ E) (R)) E fun W E=>?_)|(go_at_call 153;refine cx (p9 _ _ _ (H _ E) (R)) E fun W E=>?_));clear q;go_loopw [8,9,26] (fun bv mv P wr=>∃k:Nat,k<=ord l/\P=vi k/\bv=vi ((bmI (b40 l n (G2 (l6 l) c)) k).1:Int)/\mv=vi (bmI (b40 l n (G2 (l6 l) c)) k).2/\Ext B wr) (fun _ _ x _=>ord l-(intOf x).toNat);exact⟨0,om,rfl,rfl,rfl,E⟩;case round =>
     clear E X;obtain⟨k,V,rfl,rfl,rfl,E⟩:=hrel;have X:=C _ E;by_cases U:k<ord l
     . have f:=K8 R.o n k;have hw:dn7 (j6 l n k:Int) (c:Int)=((G2 (j6 l n k) c:Nat):Int):=dh7 om om;have y:G2 (j6 l n k) c<2^24:=c27 f;have m:Hid (cnt (G2 (j6 l n k) c)=b40 l n (G2 (l6 l) c) k):=zh (by rw[jv5 R.o];rfl);have ht:=lq9 (cn7 l n (G2 (l6 l) c)) k;have hx:=cn7 l n (G2 (l6 l) c) k;have s:Hid (k<24):=zh om;by_cases I:(bmI (b40 l n (G2 (l6 l) c)) k).2<(b40 l n (G2 (l6 l) c) k:Int)
       . have i:=zh (li5 I);exact zz72
       . have i:=zh (lr0 I);exact zz72
     . have D:k=ord l:=om;subst D;rw[l38 R.o];have hu:=df3 R.o n (G2 (l6 l) c);have hj:=o6 (n:=I8 l n (G2 (l6 l) c)) om;have hn:=H9 p (show I8 l n (G2 (l6 l) c)<24 by omega);have f:=b56 (m0 R.o) n (I8 l n (G2 (l6 l) c));have hr:=R5 (a:=c) (b:=j6 l n (I8 l n (G2 (l6 l) c))) om om;have hh:=cs5 R.o J.o he.o z.o hf;have Ht:=zh (cg9 (l:=l) (a:=n) (n:=A-1) (out:=O) z.o);have hp:Hid (A-1+1=A):=zh (by have:=z.o;omega);have L:=zh (jv6 l (j6 l n (I8 l n (G2 (l6 l) c))) c);have s:Hid (I8 l n (G2 (l6 l) c)<24):=zh om;go_wp2_with(first|(go_at_call 196;refine cx (M8 _ _ _ _ _ (H _ E) (R) (r) (s.o)) E fun W E=>?_));go_roundw;case rel =>
        refine⟨O ||| 2^I8 l n (G2 (l6 l) c),c ||| j6 l n (I8 l n (G2 (l6 l) c)),A-1,ox p (oJ om s.o),ox Q f,?_,?_,rfl,rfl,E⟩
        . rw[L.o];omega
        . rw[L.o,<-Ht.o,hp.o];exact j.o
       case measure=>(simp only[intOf,oY];rw[L.o];exact hh)
theorem l31{l:LI}{a b:Nat}(h:a<2^ord l):(a:Int)-((a &&& b:Nat):Int)=((G2 a b:Nat):Int):=by
 have:=bt7 (ord l) a b h;omega
theorem zz58{P:Prop}(h:P:=by go_wp2_with(first|(go_at_call 103;refine cx (o4 _ _ _ (H _ E) (R)) E fun W E=>?_)|(go_at_call 221;refine cx (M4 _ _ _ _ _ (H _ E) (R) (r) (s.o)) E fun W E=>?_)|(go_at_call 125;refine(o7 _ y _).mono ?_;rintro e W⟨rfl,rfl⟩;rw[m.o]));go_roundw;exact⟨k+1,om,zg,by rw[i.o],by rw[i.o],E⟩;exact zm1):P:=h
theorem c55(a:Int)(w:World)(h:c8 w v l):Calls Tryz.prog 138 #[.agg #[v],vi a] w (RE w (.tuple #[vi (T1 l a),.bool (C8 l a)])):=by
 obtain⟨B,Z,F,C,H,E,Hz⟩:=m04 42 h;clear h;have X:=C B E;cases S:j0 l a
 . have N:=zh (P5 S);have K:=zh (bq3 (P5 S));go_in;go_wp2_with fail;rw[<-Z.o];go_wp2_with(first|(go_at_call 124;refine cx (L1 _ _ _ _ (H _ E)) E fun W E=>?_));refine br (.tuple #[vi 0,.bool false]) ⟨by rw[N.o,K.o],F.trans E⟩
 obtain⟨n,rfl,f,r,Y⟩:=l7 S;by_cases T:n=0
 . subst T;have N:=zh (J7 l);have K:=zh (bq3 (J7 l));go_in;go_wp2_with fail;rw[<-Z.o];go_wp2_with(first|(go_at_call 124;refine cx (L1 _ _ _ _ (H _ E)) E fun W E=>?_));refine br (.tuple #[vi 0,.bool false]) ⟨by have:=N.o;have:=K.o;simp_all,F.trans E⟩
 have N:=zh (Q4 S om);have K:=zh (cs3 N.o);have J:=zh T;have he:=zh f;have ha:((n:Int) == 0)=false:=zso;have R:=zh Y;have D:=l8 Y;have hl:=bu9 l;have hA:=E7 Y;have hh:=X9 (ord l);have hf:=bc9 D.2;have hm:=o6 (n:=ord l) om;have Ha:Hid (((pw (ord l):Nat):Int)-1=(l6 l:Int)):=zh (by unfold l6;omega);clear Y T f;go_in;go_wp2_with fail;rw[<-Z.o];go_wp2_with(first|(go_at_call 124;refine cx (L1 _ _ _ _ (H _ E)) E fun W E=>?_)|(go_at_call 103;refine cx (o4 _ _ _ (H _ E) (R)) E fun W E=>?_));rw[Ha.o];clear S ha hm hh hf;go_loopw [6,7] (fun ov cv wr=>∃O c A:Nat,O<2^24/\c<2^ord l/\c<=A/\b02 l n A O c=b02 l n (l6 l) 0 (l6 l)/\ov=vi O/\cv=vi c/\Ext B wr) (fun _ c _=>(intOf c).toNat);exact⟨0,l6 l,l6 l,om,hl,om,rfl,rfl,rfl,E⟩;case round =>
  clear E;obtain⟨O,c,A,p,Q,hN,G,rfl,rfl,E⟩:=hrel;have X:=C _ E;have g:=zh G;clear G;by_cases d:c=0
  . subst d;go_wp2_with fail;have hj:Hid (b02 l n (l6 l) 0 (l6 l)=O):=zh (by have:=g.o;rw[cs4]at this;exact this.symm);refine br (.tuple #[vi O,.bool true]) ⟨by rw[N.o,K.o,hj.o],F.trans E⟩
  . have z:Hid (c≠0):=zh d;have hB:0<(c:Int):=om;have hr:0<c:=om;clear d;go_wp2_with fail;go_loopw [8,9,10] (fun bv mv M wr=>∃k:Nat,k<=ord l/\M=vi k/\bv=vi ((bm (b40 l n c) k).1:Int)/\mv=vi ((bm (b40 l n c) k).2:Int)/\Ext B wr) (fun _ _ x _=>ord l-(intOf x).toNat);exact⟨0,om,rfl,rfl,rfl,E⟩;case round =>
     clear E X;obtain⟨k,V,rfl,rfl,rfl,E⟩:=hrel;have X:=C _ E;by_cases U:k<ord l
     . have j:=K8 R.o n k;have hy:b13 (j6 l n k:Int) (c:Int)=((j6 l n k &&& c:Nat):Int):=b95 om om;have y:j6 l n k &&& c<2^24:=qG Nat.and_le_left j;have m:Hid (cnt (j6 l n k &&& c)=b40 l n c k):=zh rfl;have hw:=jk2 (cn7 l n c) k;have hz:=cn7 l n c k;have s:Hid (k<24):=zh om;by_cases I:(bm (b40 l n c) k).2<b40 l n c k
       . have i:=zh (bu0 I);exact zz58
       . have i:=zh (c69 I);exact zz58
     . have L:k=ord l:=om;subst L;rw[show(bm (b40 l n c) (ord l)).1=I8 l n c from rfl];have hx:=df3 R.o n c;have hn:=o6 (n:=I8 l n c) om;have hq:=H9 p (show I8 l n c<24 by omega);have j:=b56 (m0 R.o) n (I8 l n c);have hu:=b95 (a:=c) (b:=j6 l n (I8 l n c)) om om;have hi:=cs5 R.o J.o he.o z.o Q;have P:=zh (cg9 (l:=l) (a:=n) (n:=A-1) (out:=O) z.o);have hp:Hid (A-1+1=A):=zh (by have:=z.o;omega);have s:Hid (I8 l n c<24):=zh om;have ht:c &&& j6 l n (I8 l n c)<=c:=Nat.and_le_left;have q:=zh (l31 (b:=j6 l n (I8 l n c)) Q);have Hl:=zh (c27 (b:=j6 l n (I8 l n c)) Q);go_wp2_with(first|(go_at_call 103;refine cx (o4 _ _ _ (H _ E) (R)) E fun W E=>?_)|(go_at_call 221;refine cx (M4 _ _ _ _ _ (H _ E) (R) (r) (s.o)) E fun W E=>?_));go_roundw;case rel =>
        refine⟨O ||| 2^I8 l n c,G2 c (j6 l n (I8 l n c)),A-1,ox p (oJ om s.o),Hl.o,?_,?_,rfl,by rw[q.o],E⟩
        . omega
        . rw[<-P.o,hp.o];exact g.o
       case measure=>(simp only[intOf];rw[q.o,oY,oY];exact hi)
theorem co7{x s u:Nat}(S:s<24)(H:2<=q)(h:((q-x%q)%q)*u<=331776):Value.int .i64 (wrap64 ((s:Int)+wrap64 ((((q:Int)-(x:Int)%(q:Int))%(q:Int))*(u:Int))))=vi ((s+((q-x%q)%q)*u:Nat):Int):=by
 have o:=pu x (show 0<q by omega);have E:(q:Int)-(x:Int)%(q:Int)=((q-x%q:Nat):Int):=by rw[<-pn];omega
 have e:(((q-x%q:Nat):Int)%(q:Int))*(u:Int)=((((q-x%q)%q)*u:Nat):Int):=by rw[oO,pn]
 rw[E,e];generalize ((q-x%q)%q)*u=d at h|-;rw[cp4 d om,<-Int.natCast_add,cp4 (s+d) om]
theorem zz118{P:Prop}(h:P:=by first|exact co7 e om M.o|(rw[show(-((X:Int)%(q:Int)))%(q:Int)=((q:Int)-(X:Int)%(q:Int))%(q:Int)from by simp];exact co7 e om M.o)):P:=h
theorem zz126{P:Prop}(h:P:=by have y:k=l.length:=om;subst y;go_wp2_with fail;go_ret;exact⟨o3 (by have:=N.o;rw[qi]at this;simp[q7]at this;omega),F.trans E⟩):P:=h
theorem bi4(h:c8 w v l)(R:Hid (d7 l=true))(K:x<16777216):Calls Tryz.prog 315 #[.agg #[v],vi x] w (RE w (vi (q7 l x))):=by
 obtain⟨Q,c,ar,rfl,hn,a,L⟩:=h.op;have he:=j2 (c:=c) elI szI a;clear a h;obtain⟨B,b⟩:=nq (w.alloc (.cells #[.slice Q l.length c] 42));have F:=(er w).alloc (.cells #[.slice Q l.length c] 42);have C:=d8 w (.slice Q l.length c) 42;rw[<-b]at F C;have E:=er B;have Z:=zh b;have A:=bk7 R.o x;have T:=E5 R.o;clear b;go_in;go_wp2_with fail;rw[<-Z.o];go_loopw [1,5,6,12] (fun f g J i wr=>∃k X s u:Nat,k<=l.length/\X<=x/\s+u*q7 (l.drop k) X=q7 l x/\(u:Int)=C5 (l.take k)/\f=vi X/\g=vi s/\J=vi u/\i=vi k/\Ext B wr) (fun _ _ _ i _=>l.length-(intOf i).toNat);exact⟨0,x,0,1,om,om,zm,by simp[C5],rfl,rfl,rfl,rfl,E⟩
 clear E;obtain⟨k,X,s,u,V,Y,S,H,rfl,rfl,rfl,rfl,E⟩:=hrel;have hc:=C wr E;have e:=cm2 S A;obtain⟨ha,z⟩:=b54 k l V om (fun j hj=>G4 R.o om);rw[<-H]at ha z;have N:=zh S;have p:=zh H;clear S H A;by_cases U:k<l.length
 . have hf:=L k _ U (F.trans E);obtain⟨n,r⟩:=G4 R.o U;obtain⟨q,t⟩:=pl (show 0<=nth l k by omega);have D:=zh (dj3 U t X);have I:Hid (nth l k*C5 (l.take k)=C5 (l.take (k+1))):=zh (by rw[Z9 l k U,qs]);rw[t]at n r;have O:=zh t;have hd:(q-X%q)%q<24:=nlt (pu _ om) om;have m:((q-X%q)%q)*u<=24*13824:=pm om om;have G:u*q<=13824*24:=pm om om;have d:=pu X (show 0<q by omega);have P:(q:Int)-(X:Int)%(q:Int)=((q-X%q:Nat):Int):=(by rw[<-pn];omega);have W:(((q:Int)-(X:Int)%(q:Int))%(q:Int))*(u:Int)=((((q-X%q)%q)*u:Nat):Int):=(by rw[P,oO,pn]);have c3:((u*q:Nat):Int)=(u:Int)*(q:Int):=oO _ _;have b1:(X:Int)%(q:Int)<24:=(by have:=pX (X:Int) (show(0:Int)<q by omega);omega);have b3:0<=(X:Int)%(q:Int):=qw _ om;have b2:0<=(q:Int)-(X:Int)%(q:Int):=(by have:=pX (X:Int) (show(0:Int)<q by omega);omega);have b5:(((q:Int)-(X:Int)%(q:Int))%(q:Int))*(u:Int)<=331776:=(by rw[W];omega);have b6:0<=(((q:Int)-(X:Int)%(q:Int))%(q:Int))*(u:Int):=(by rw[W];omega);have b7:(u:Int)*(q:Int)<=331776:=(by rw[<-c3];omega);have b8:0<=(u:Int)*(q:Int):=(by rw[<-c3];omega);have M:=zh m;clear P W c3 hd m G d;go_wp2_with fail;skip;go_roundw;case rel =>
    refine⟨k+1,X/q,s+((q-X%q)%q)*u,u*q,om,nle (po _ _) Y,?_,?_,?_,?_,?_,zg,E⟩
    . apply c63;rw[<-D.o];exact N.o
    . rw[<-I.o,<-p.o,O.o];push_cast;rw[qs]
    . exact br8 (nle Y (qH K))
    . exact zz118
    . exact co6 u q
   case measure=>exact zm1
 exact zz126
theorem b44(h:c8 w v l)(R:Hid (d7 l=true))(K:x<16777216):Calls Tryz.prog 286 #[.agg #[v],vi x] w (RE w (vi (q7 l x))):=by
 obtain⟨Q,c,ar,rfl,hn,a,L⟩:=h.op;have he:=j2 (c:=c) elI szI a;clear a h;obtain⟨B,b⟩:=nq (w.alloc (.cells #[.slice Q l.length c] 42));have F:=(er w).alloc (.cells #[.slice Q l.length c] 42);have C:=d8 w (.slice Q l.length c) 42;rw[<-b]at F C;have E:=er B;have Z:=zh b;have A:=bk7 R.o x;have T:=E5 R.o;clear b;go_in;go_wp2_with fail;rw[<-Z.o];go_loopw [1,5,6,7] (fun f g J i wr=>∃k X s u:Nat,k<=l.length/\X<=x/\s+u*q7 (l.drop k) X=q7 l x/\(u:Int)=C5 (l.take k)/\f=vi X/\g=vi s/\J=vi u/\i=vi k/\Ext B wr) (fun _ _ _ i _=>l.length-(intOf i).toNat);exact⟨0,x,0,1,om,om,zm,by simp[C5],rfl,rfl,rfl,rfl,E⟩
 clear E;obtain⟨k,X,s,u,V,Y,S,H,rfl,rfl,rfl,rfl,E⟩:=hrel;have hc:=C wr E;have e:=cm2 S A;obtain⟨ha,z⟩:=b54 k l V om (fun j hj=>G4 R.o om);rw[<-H]at ha z;have N:=zh S;have p:=zh H;clear S H A;by_cases U:k<l.length
 . have hf:=L k _ U (F.trans E);obtain⟨n,r⟩:=G4 R.o U;obtain⟨q,t⟩:=pl (show 0<=nth l k by omega);have D:=zh (dj3 U t X);have I:Hid (nth l k*C5 (l.take k)=C5 (l.take (k+1))):=zh (by rw[Z9 l k U,qs]);rw[t]at n r;have O:=zh t;have hd:(q-X%q)%q<24:=nlt (pu _ om) om;have m:((q-X%q)%q)*u<=24*13824:=pm om om;have G:u*q<=13824*24:=pm om om;have d:=pu X (show 0<q by omega);have P:(q:Int)-(X:Int)%(q:Int)=((q-X%q:Nat):Int):=(by rw[<-pn];omega);have W:(((q:Int)-(X:Int)%(q:Int))%(q:Int))*(u:Int)=((((q-X%q)%q)*u:Nat):Int):=(by rw[P,oO,pn]);have c3:((u*q:Nat):Int)=(u:Int)*(q:Int):=oO _ _;have b1:(X:Int)%(q:Int)<24:=(by have:=pX (X:Int) (show(0:Int)<q by omega);omega);have b3:0<=(X:Int)%(q:Int):=qw _ om;have b2:0<=(q:Int)-(X:Int)%(q:Int):=(by have:=pX (X:Int) (show(0:Int)<q by omega);omega);have b5:(((q:Int)-(X:Int)%(q:Int))%(q:Int))*(u:Int)<=331776:=(by rw[W];omega);have b6:0<=(((q:Int)-(X:Int)%(q:Int))%(q:Int))*(u:Int):=(by rw[W];omega);have b7:(u:Int)*(q:Int)<=331776:=(by rw[<-c3];omega);have b8:0<=(u:Int)*(q:Int):=(by rw[<-c3];omega);have M:=zh m;clear P W c3 hd m G d;go_wp2_with fail;skip;go_roundw;case rel =>
    refine⟨k+1,X/q,s+((q-X%q)%q)*u,u*q,om,nle (po _ _) Y,?_,?_,?_,?_,?_,zg,E⟩
    . apply c63;rw[<-D.o];exact N.o
    . rw[<-I.o,<-p.o,O.o];push_cast;rw[qs]
    . exact br8 (nle Y (qH K))
    . exact zz118
    . exact co6 u q
   case measure=>exact zm1
 exact zz126
theorem zz157{P:Prop}(h:P:=by have s:k=L.length:=om;subst s;go_wp2_with fail;go_ret;exact⟨o3 (by rw[oz,D.o]),F.trans (z.trans E)⟩):P:=h
theorem bi5(h:c8 w v l)(R:Hid (d7 l=true))(M:a<2^24):Calls Tryz.prog 294 #[.agg #[v],vi a] w (RE w (vi (V0 l a))):=by
 obtain⟨B,Z,F,C,H,E,X⟩:=m04 42 h;clear h;go_in;go_wp2_with fail;rw[<-Z.o];go_wp2_with(first|(go_at_call 195;refine(J1 _ (M) _).mono ?_;rintro e G⟨j,rfl,W,z⟩;obtain⟨I,S,r,rfl,d,f⟩:=W.ints.nats;have x:=j2 (c:=S) elI szI d;clear d));have b:=sh z C;have g:=sh z H;replace E:=er G;clear C H W;have A:∀y∈j3 a,y<24:=fun y Y=>J5 Y;have N:=D0 a;have D:=zh (j01 l a);generalize j3 a=L at f x A N D|-;go_loopw [5,11] (fun O i wr=>∃k:Nat,k<=L.length/\i=vi k/\O=vi ((c96 l (L.take k):Nat):Int)/\Ext G wr) (fun _ i _=>L.length-(intOf i).toNat);exact⟨0,om,rfl,by simp[c96,B7],E⟩
 clear E;obtain⟨k,V,rfl,rfl,E⟩:=hrel;by_cases U:k<L.length
 . have m:=f k _ U E;have Q:=b _ E;have u:=A _ (m7 U);have t:=zh (dj6 l (L.take k) (d5 L k));have T:=zh (K9 L k U);have K:=bk7 R.o (d5 L k);have p:=o6 (n:=q7 l (d5 L k)) om;have q:=H9 (jh1 R.o (L.take k)) K;go_wp2_with(first|(go_at_call 315;refine cx (bi4 _ _ _ _ (g _ E) (R) (om)) E fun P E=>?_));go_roundw;exact⟨k+1,om,zg,by rw[T.o,t.o],E⟩;exact zm1
 exact zz157
theorem ch9(h:c8 w v l)(R:Hid (d7 l=true))(M:a<2^24):Calls Tryz.prog 290 #[.agg #[v],vi a] w (RE w (vi (V0 l a))):=by
 obtain⟨B,Z,F,C,H,E,j⟩:=m04 42 h;clear h;go_in;go_wp2_with fail;rw[<-Z.o];go_wp2_with(first|(go_at_call 151;refine(L0 _ (M) _).mono ?_;rintro e G⟨m,rfl,X,z⟩;obtain⟨I,S,J,rfl,d,f⟩:=X.ints.nats;have x:=j2 (c:=S) elI szI d;clear d));have b:=sh z C;have g:=sh z H;replace E:=er G;clear C H X;have A:∀y∈j3 a,y<24:=fun y Y=>J5 Y;have N:=D0 a;have D:=zh (j01 l a);generalize j3 a=L at f x A N D|-;go_loopw [5,7] (fun O i wr=>∃k:Nat,k<=L.length/\i=vi k/\O=vi ((c96 l (L.take k):Nat):Int)/\Ext G wr) (fun _ i _=>L.length-(intOf i).toNat);exact⟨0,om,rfl,by simp[c96,B7],E⟩
 clear E;obtain⟨k,V,rfl,rfl,E⟩:=hrel;by_cases U:k<L.length
 . have p:=fun u=>f k _ U (c9 G u);have P:=fun u=>b _ (c9 G u);have Q:=A _ (m7 U);have t:=zh (dj6 l (L.take k) (d5 L k));have T:=zh (K9 L k U);have K:=bk7 R.o (d5 L k);have q:=o6 (n:=q7 l (d5 L k)) om;have r:=H9 (jh1 R.o (L.take k)) K;go_wp2_with fail;refine wl E ?_;(repeat(go_big_quiet_step(first|(go_at_call 286;exact oa (b44 _ _ _ _ (g _ (c9 G _)) (R) (om))))));refine zd fun W E=>?_;go_wp2_with fail;go_roundw;exact⟨k+1,om,zg,by rw[T.o,t.o],E⟩;exact zm1
 exact zz157
theorem zz41{P:Prop}(h:P:=by go_wp2_with fail;go_ret;exact⟨rfl,F.trans E⟩):P:=h
theorem c32(h:c8 w v l)(R:Hid (d7 l=true))(A:a<2^24)(c:b<2^24):Calls Tryz.prog 276 #[.agg #[v],vi a,vi b] w (RE w (vi (j7 l a (V0 l b)))):=by
 obtain⟨B,Z,F,C,H,E,s⟩:=m04 42 h;clear h;have x:=fun U=>C _ (c9 B U);have O:=dc4 R.o b;go_in;go_wp2_with fail;rw[<-Z.o];refine wl E ?_;(repeat(go_big_quiet_step(first|(go_at_call 294;exact oa (bi5 _ _ _ _ (H _ (c9 B _)) (R) (c)))|(go_at_call 75;exact oa (J2 _ _ _ _ _ (H _ (c9 B _)) (R) (A) (O))))));refine zd fun W E=>?_;exact zz41
def kEq(g h:LI)(L M:LN)(i j p q:Nat):Bool:=!(((j9 g (d5 L i) (d5 L j):Nat):Int) == ((j9 g (d5 L p) (d5 L q):Nat):Int)) || !(((j9 h (d5 M i) (d5 M j):Nat):Int) != ((j9 h (d5 M p) (d5 M q):Nat):Int))
theorem l77(M:LN)(i j p q:Nat):kEq g h L M i j p q=kEq g h L M p q i j:=by
 unfold kEq;rw[show(((j9 g (d5 L i) (d5 L j):Nat):Int) == ((j9 g (d5 L p) (d5 L q):Nat):Int))=(((j9 g (d5 L p) (d5 L q):Nat):Int) == ((j9 g (d5 L i) (d5 L j):Nat):Int)) by rw[oA,beq_iff_eq,beq_iff_eq];exact eq_comm,
  show(((j9 h (d5 M i) (d5 M j):Nat):Int) != ((j9 h (d5 M p) (d5 M q):Nat):Int))=(((j9 h (d5 M p) (d5 M q):Nat):Int) != ((j9 h (d5 M i) (d5 M j):Nat):Int)) by rw[oA,bne_iff_ne,bne_iff_ne];exact ne_comm]
def kpB(g h:LI)(L M:LN):Bool:=(List.range L.length).all fun i=>(List.range L.length).all fun j=>(List.range L.length).all fun p=>(List.range L.length).all fun q=>decide (j<i) || decide (q<p) || kEq g h L M i j p q
theorem co3{g h:LI}{L:LN}:kpB g h L M=true↔∀i j p q,i<=j->j<L.length->p<=q->q<L.length->kEq g h L M i j p q=true:=by
 unfold kpB;simp only[oC,ou];constructor;intro u i j p q o r T H;have:=u i om j r p om q H;simpa[show ¬j<i by omega,show ¬q<p by omega]using this;intro u i o j r p T q H;by_cases I:j<i;simp[I];by_cases P:q<p;simp[P];rw[u i j p q om r om H];simp
theorem ju7{g h:LI}{L:LN}{i j p:Nat}(o:i<=j)(r:j<L.length)(T:p<=q)(H:q<L.length)(e:kEq g h L M i j p q=false):kpB g h L M=false:=by
 rw[<-pg,co3];intro u;rw[u i j p q o r T H]at e;cases e
theorem ll0{g h:LI}{L:LN}(u:∀i,i<L.length->∀j p q,i<=j->j<L.length->p<L.length->p<=q->q<L.length->kEq g h L M i j p q=true):kpB g h L M=true:=by
 rw[co3];intro i j p q o r T H;exact u i om j p q o r om T H
theorem l78{g h:LI}{L:LN}(u:∀i,i<L.length->∀j p q,i<=j->j<L.length->p<i+1->p<=q->q<L.length->kEq g h L M i j p q=true):kpB g h L M=true:=by
 rw[co3];intro i j p q o r T H;by_cases P:p<i+1;exact u i om j p q o r P T H;rw[l77];exact u p om q i j T H om o r
theorem l79{g h:LI}{L:LN}(m:n<=L.length)(H:kpB g h L M=true):kpB g h (L.take n) (M.take n)=true:=by
 rw[co3]at H|-;intro i j p q o r T a;rw[ol]at r a;have:=H i j p q o om T om;have e:∀(N:LN) k,k<n->d5 (N.take n) k=d5 N k:=fun N k V=>by simp[d5,List.getD,V]
 unfold kEq at this|-;rw[e L i om,e L j om,e L p om,e L q om,e M i om,e M j om,e M p om,e M q om];exact this
theorem lh5{a x:Nat}(h:a.testBit x=false):a+2^x=a ||| 2^x:=by
 have o:a &&& 2^x=0:=oK fun i=>by
  rw[pC,pd,pZ]
  by_cases e:x=i
  subst e;rw[h];rfl
  simp[e]
 have R:a<2^(max a (2^x)+1):=nlt (Nat.lt_two_pow_self) (ot om om);have E:2^x<2^(max a (2^x)+1):=nlt (Nat.lt_two_pow_self) (ot om om);have r:=bt7 (max a (2^x)+1) (a ||| 2^x) (2^x) (ox R E);have T:G2 (a ||| 2^x) (2^x)=a:=oK fun i=>by
  rw[S7,oN,pd]
  by_cases e:x=i
  subst e;simp[h]
  simp[e]
 have H:(a ||| 2^x) &&& 2^x=2^x:=oK fun i=>by
  rw[pC,oN,pd]
  by_cases e:x=i<;>simp[e]
 rw[T,H]at r;exact r
def soG(l:LI):LI->Nat->Option Nat
 |[],a=>some a
 |x :: r,a=>if M7 l x && !a.testBit x.toNat then soG l r (a ||| 2^x.toNat)else none
def soB(l X:LI):Bool:=(soG l X 0).isSome&&d7 l
def soV(l X:LI):Int:=match soG l X 0 with|some a=>(a:Int)|none=>0
theorem d78{l:LI}(h:soG l X 0=none):soB l X=false/\soV l X=0:=by unfold soB soV;rw[h];exact⟨rfl,rfl⟩
theorem ji3{l:LI}{a:Nat}(h:soG l X 0=some a):soB l X=d7 l/\soV l X=(a:Int):=by unfold soB soV;rw[h];exact⟨zm,rfl⟩
theorem ji2{l:LI}{x:Int}{a:Nat}(h:M7 l x=false):soG l (x :: r) a=none:=by unfold soG;rw[h];rfl
theorem dd9{l:LI}{a:Nat}(h:a.testBit n=true):soG l ((n:Int) :: r) a=none:=by unfold soG;simp[h]
theorem d77{l:LI}{a:Nat}(o:M7 l n=true)(h:a.testBit n=false):soG l ((n:Int) :: r) a=soG l r (a ||| 2^n):=by
 conv=>lhs;unfold soG
 simp[h,o]
theorem cb0(l:LI):∀(X Y:LI) (a:Nat),soG l (X++Y) a=(soG l X a).bind (soG l Y)
 |[],_,_=>rfl
 |x :: X,Y,a=>by
  rw[List.cons_append];unfold soG
  split
  . exact cb0 l X Y _
  . rfl
theorem cv5(M:LN)(y:Nat):B7 (M++[y])=B7 M ||| 2^y:=bn0 M y
theorem dr0:(B7 M).testBit y=decide (y∈M):=Q0 M y
theorem j43{l:LI}(H:d7 l=true){M:LN}(h:M.Nodup)(m:∀y∈M,y<ord l):∀k,k<=M.length->soG l (b9 (M.take k)) 0=some (B7 (M.take k))
 |0,_=>rfl
 |k+1,hk=>by
  have K:k<M.length:=om
  have i:=j43 H h m k om
  have n:(M.take (k+1)).Nodup:=h.sublist (List.take_sublist _ _)
  have Y:d5 M k<ord l:=m _ (m7 K)
  rw[K9 M k K]at n|-
  have N:=qx.1 n
  have a:d5 M k ∉ M.take k:=fun e=>N.2.2 _ e _ zm rfl
  rw[show b9 (M.take k++[d5 M k])=b9 (M.take k)++[((d5 M k:Nat):Int)] by simp[b9],cb0,i]
  show soG l [((d5 M k:Nat):Int)] (B7 (M.take k))=_
  rw[d77 (bk3 H Y) (by rw[dr0];simpa using a),cv5];rfl
theorem j42{l:LI}(H:d7 l=true)(M:LN)(h:M.Nodup)(m:∀y∈M,y<ord l):soG l (b9 M) 0=some (B7 M):=by
 have:=j43 H h m M.length (oc _);rwa [oz]at this
theorem lc0{l:LI}(H:d7 l=true)(h:M.Nodup)(m:∀y∈M,y<ord l):soB l (b9 M)=true:=by
 unfold soB;rw[j42 H M h m,H];rfl
theorem lc1{l:LI}(H:d7 l=true)(h:M.Nodup)(m:∀z∈M,z<ord l)(Y:y<ord l):soB l (b9 (M++[y])) = !(B7 M).testBit y:=by
 unfold soB;rw[show b9 (M++[y])=b9 M++[(y:Int)] by simp[b9],cb0,j42 H M h m,H];show((soG l [(y:Int)] (B7 M)).isSome&&true)=_;cases C:(B7 M).testBit y;rw[d77 (bk3 H Y) C];rfl;rw[dd9 C];rfl
def bi1(g h X Y:LI):Bool:=Y.all (M7 h)&&(soB g X&&d7 h&&decide (X.length=Y.length)&&decide (1<=X.length/\X.length<=6))
def c15(X:LI):LN:=X.map Int.toNat
def fmF(g h X Y:LI):Bool:=bi1 g h X Y&&kpB g h (c15 X) (c15 Y)
def ch6(g h X Y:LI):Bool:=fmF g h X Y&&fmF h g Y X
theorem by7:c15 (b9 L)=L:=by
 unfold c15 b9;rw[qQ];have:(Int.toNat ∘ fun n:Nat=>(n:Int))=id:=by funext n;rfl
 rw[this,List.map_id]
theorem dh1{g h:LI}(H:d7 g=true)(a:d7 h=true){L:LN}(l:L.Nodup)(O:∀y∈L,y<ord g)(m:∀y∈M,y<ord h)(z:L.length=M.length)(o:1<=L.length)(e:L.length<=6):bi1 g h (b9 L) (b9 M)=true:=by
 unfold bi1;rw[lc0 H l O,a,d9,d9];have:(b9 M).all (M7 h)=true:=oC.2 fun x K=>by
  unfold b9 at K;obtain⟨y,Y,rfl⟩:=pp.1 K;exact bk3 a (m y Y)
 rw[this];simp;omega
theorem l76{g h:LI}(H:d7 g=true)(a:d7 h=true){L:LN}(W:L.Nodup)(Y:M.Nodup)(O:∀y∈L,y<ord g)(m:∀y∈M,y<ord h)(l:L.length=M.length)(o:1<=L.length)(e:L.length<=6):ch6 g h (b9 L) (b9 M)=(kpB g h L M&&kpB h g M L):=by
 unfold ch6 fmF;rw[dh1 H a W O m l o e,dh1 a H Y m O l.symm om om,by7,by7];simp
def ch7(g h:LI)(L M:LN):Bool:=kpB g h L M&&kpB h g M L
def fiI(g h:LI)(L E:LN):Nat->LN->Option (LN)
 |0,_=>none
 |f+1,M=>if M.length=L.length then(if ch7 g h L M then some M else none)else E.findSome? (fun y=>if (B7 M).testBit y then none else fiI g h L E f (M++[y]))
def fiS(g h:LI)(L E:LN):Nat->LN->Option (LN)
 |0,_=>none
 |f+1,M=>if M.length=L.length then(if ch7 g h L M then some M else none)else E.findSome? (fun y=>if (B7 M).testBit y || !kpB g h (L.take (M.length+1)) (M++[y])then none else fiS g h L E f (M++[y]))
theorem cr9{F:Nat->Option (LN)}{r:LN}(V:k<E.length)(h:∀K,K<k->F (d5 E K)=none)(H:F (d5 E k)=some r):E.findSome? F=some r:=by
 induction E generalizing k with
 |nil=>simp at V
 | cons y E ih =>
  cases k with
  |zero =>
   have:F y=some r:=H;simp[List.findSome?,this]
  |succ k =>
   have S:F y=none:=h 0 om;simp only[List.findSome?,S];exact ih (k:=k) (by simpa using V) (fun K t=>h (K+1) om) H
theorem cb7{F:Nat->Option (LN)}(h:∀K,K<E.length->F (d5 E K)=none):E.findSome? F=none:=by
 rw[List.findSome?_eq_none_iff];intro y H;obtain⟨k,V,rfl⟩:=px H;have:=h k V;simpa[d5,List.getD,V]using this
theorem dv6{F:Nat->Option (LN)}{r:LN}(h:E.findSome? F=some r):∃y∈E,F y=some r:=by
 obtain⟨L,y,l,rfl,H,-⟩:=List.findSome?_eq_some_iff.1 h;exact⟨y,zm,H⟩
theorem lj9(E:LN):∀f M N,fiI g h L E f M=some N->(∃R,N=M++R)/\N.length=L.length/\ch7 g h L N=true:=by
 intro f;induction f with
 |zero=>intro M N e;cases e
 | succ f ih =>
  intro M N e;unfold fiI at e;split at e
  . next hl =>
     split at e
     . next hk=>cases e;exact⟨⟨[],zm⟩,hl,hk⟩
     . cases e
  . obtain⟨y,-,H⟩:=dv6 e;split at H
    . cases H
    . obtain⟨⟨R,i⟩,r,T⟩:=ih _ _ H;exact⟨⟨y :: R,by rw[i];simp⟩,r,T⟩
theorem lt4(E:LN):∀f M,M.length<=L.length->fiS g h L E f M=fiI g h L E f M:=by
 intro f;induction f with
 |zero=>intro M _;rfl
 | succ f ih =>
  intro M m;unfold fiS fiI;by_cases l:M.length=L.length
  . rw[if_pos l,if_pos l]
  . rw[if_neg l,if_neg l];congr 1;funext y;by_cases C:(B7 M).testBit y=true
    . simp[C]
    . have b:(B7 M).testBit y=false:=(by simpa using C);rw[b];by_cases V:kpB g h (L.take (M.length+1)) (M++[y])=true
      . rw[V];simp;exact ih _ zso
      . have k:kpB g h (L.take (M.length+1)) (M++[y])=false:=(by simpa using V);rw[k];simp;cases H:fiI g h L E f (M++[y])with
        |none=>rfl
        | some N =>
         exfalso;obtain⟨⟨R,i⟩,r,T⟩:=lj9 g h L E _ _ _ H;unfold ch7 at T;rw[ow]at T;have:=l79 (n:=M.length+1) om T.1;rw[i,show(M++[y]++R).take (M.length+1)=M++[y] by
          rw[show M.length+1=(M++[y]).length by simp];exact List.take_left]at this
         exact V this
def ffC(g h:LI)(a b:Int):Bool:=j0 g a&&j0 h b&&(decide (cnt a.toNat=cnt b.toNat)&&decide (1<=cnt a.toNat/\cnt a.toNat<=5))
def ffR(g h:LI)(a b:Int):Option (LN):=if ffC g h a b then fiI g h (j3 a.toNat) (j3 b.toNat) (cnt a.toNat+1) []else none
def ffL(g h:LI)(a b:Int):LN:=(ffR g h a b).getD []
def ffB(g h:LI)(a b:Int):Bool:=(ffR g h a b).isSome
theorem bq1{g h:LI}{a b:Int}(e:ffR g h a b=none):ffL g h a b=[]/\ffB g h a b=false:=by unfold ffL ffB;rw[e];exact⟨rfl,rfl⟩
theorem lt2{g h:LI}{a b:Int}{N:LN}(e:ffR g h a b=some N):ffL g h a b=N/\ffB g h a b=true:=by unfold ffL ffB;rw[e];exact⟨rfl,rfl⟩
end Go.Zz
