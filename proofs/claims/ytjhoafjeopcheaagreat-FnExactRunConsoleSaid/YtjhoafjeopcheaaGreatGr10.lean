/- Progressions and their differences. -/
import Derived.Test.YtjhoafjeopcheaaGreatGr9
set_option linter.all false
set_option maxHeartbeats 4000000
set_option maxRecDepth 8000
namespace Go.Zz
open Go.RowKit Go.Proofs
variable(u v:Value){m j e b f s d n a k i x:Nat}{P:Program}{O:Oper}{l:LI}{L:LN}{w:World}
def bz0(l:LI)(s d:Nat):Nat->Nat
 |0=>s
 |k+1=>j9 l (bz0 l s d k) d
def N1(l:LI)(s d n:Nat):Nat:=B7 ((List.range n).map (bz0 l s d))
theorem d58(l:LI)(s d k:Nat):N1 l s d (k+1)=N1 l s d k ||| 2^bz0 l s d k:=by
 unfold N1;rw[oW,pF];exact bn0 _ _
theorem cy8(h:d7 l=true)(S:s<24)(d:Nat):∀k,bz0 l s d k<24
 |0=>S
 |_+1=>b14 h _ _
theorem ba0(h:d7 l=true)(S:s<24)(d n:Nat):N1 l s d n<2^24:=by
 refine b77 fun x K=>?_;obtain⟨k,_,rfl⟩:=pp.1 K;exact cy8 h S d k
theorem bi7(l:LI)(s d n:Nat)(w:World)(h:c8 w v l)(R:Hid (d7 l=true))(S:s<24)(hd:d<24)(m:n<=24):Calls Tryz.prog 323 #[.agg #[v],vi s,vi d,vi n] w (RE w (vi (N1 l s d n:Nat))):=by
 obtain⟨B,Z,F,C,H,E,z⟩:=m04 42 h;clear h;go_in;go_wp2_with fail;rw[<-Z.o];go_loopw [1,9,11] (fun P O X wr=>∃k:Nat,k<=n/\X=vi k/\P=vi (bz0 l s d k:Nat)/\O=vi (N1 l s d k:Nat)/\Ext B wr) (fun _ _ x _=>n-(intOf x).toNat);exact⟨0,om,rfl,rfl,rfl,E⟩
 clear E;obtain⟨k,V,rfl,rfl,rfl,E⟩:=hrel;have b:=C _ E;by_cases U:k<n
 . have c:=cy8 R.o S d k;have p:=ba0 R.o S d k;have q:=o6 (n:=bz0 l s d k) om;have r:=H9 p c;have N:=zh (d58 l s d k);go_wp2_with(first|(go_at_call 271;refine cx (O7 _ _ _ _ _ (H _ E) (R) (om) (om)) E fun e E=>?_));go_roundw;exact⟨k+1,om,zg,rfl,by rw[N.o],E⟩;exact zm1
 have K:k=n:=om;subst K;exact zz41
theorem b96(l:LI)(s d n:Nat)(w:World)(h:c8 w v l)(R:Hid (d7 l=true))(S:s<24)(hd:d<24)(m:n<=24):Calls Tryz.prog 328 #[.agg #[v],vi s,vi d,vi n] w (RE w (vi (N1 l s d n:Nat))):=by
 obtain⟨B,Z,F,C,H,E,z⟩:=m04 42 h;clear h;go_in;go_wp2_with fail;rw[<-Z.o];go_loopw [10,9,11] (fun P O X wr=>∃k:Nat,k<=n/\X=vi k/\P=vi (bz0 l s d k:Nat)/\O=vi (N1 l s d k:Nat)/\Ext B wr) (fun _ _ x _=>n-(intOf x).toNat);exact⟨0,om,rfl,rfl,rfl,E⟩
 clear E;obtain⟨k,V,rfl,rfl,rfl,E⟩:=hrel;have b:=C _ E;by_cases U:k<n
 . have c:=cy8 R.o S d k;have p:=ba0 R.o S d k;have q:=o6 (n:=bz0 l s d k) om;have r:=H9 p c;have N:=zh (d58 l s d k);go_wp2_with(first|(go_at_call 220;refine cx (G8 _ _ _ _ _ (H _ E) (R) (om) (om)) E fun e E=>?_));go_roundw;exact⟨k+1,om,zg,rfl,by rw[N.o],E⟩;exact zm1
 have K:k=n:=om;subst K;exact zz41
def bx3(l:LI)(a d:Nat)(L:LN):Bool:=L.any (fun x=>decide (N1 l x d (cnt a)=a))
def d30(l:LI)(a d:Nat):Bool:=bx3 l a d (j3 a)
def b35(l:LI)(a k:Nat):LN:=(List.range k).filter (d30 l a)
theorem dg1(h:d30 l a k=true):b35 l a (k+1)=b35 l a k++[k]:=by
 unfold b35;rw[oW,qd];simp[h]
theorem dt6(h:d30 l a k=false):b35 l a (k+1)=b35 l a k:=by
 unfold b35;rw[oW,qd];simp[h]
theorem dg0(l:LI)(a k:Nat):(b35 l a k).length<=k:=by
 unfold b35;exact nle (qo _ _) zm
def Q9(l:LI)(a:Int):LI:=if C8 l a then b9 (b35 l a.toNat (ord l))else []
theorem cm8{a:Int}(h:C8 l a=false):Q9 l a=[]:=by unfold Q9;rw[h];rfl
theorem dt5(h:C8 l n=true):Q9 l n=b9 (b35 l n (ord l)):=by unfold Q9;rw[if_pos h];rfl
theorem d31(h:∀j,j<L.length->N1 l (d5 L j) d (cnt a)≠a):bx3 l a d L=false:=by
 unfold bx3;rw[<-pg,pt];rintro⟨x,K,hd⟩;obtain⟨j,H,rfl⟩:=px K;have:=h j H;unfold d5 at this;rw[List.getD_eq_getElem?_getD,List.getElem?_eq_getElem H]at this;exact this (of_decide_eq_true hd)
theorem dt7(H:j<L.length)(h:N1 l (d5 L j) d (cnt a)=a):bx3 l a d L=true:=by
 unfold bx3;rw[pt];exact⟨_,m7 H,decide_eq_true h⟩
theorem cl1(h:d7 l=true)(a x y:Nat):j6 l (j6 l a x) y=j6 l a (j9 l y x):=by
 have o:=m0 h;apply oK;intro z;apply b18;rw[E8,E8];constructor;rintro⟨u,_,U,rfl⟩;obtain⟨t,H,C,rfl⟩:=E8.1 U;exact⟨t,H,C,M9 l o y x t⟩;rintro⟨t,H,C,rfl⟩;exact⟨j9 l x t,b14 h x t,E8.2 ⟨t,H,C,rfl⟩,(M9 l o y x t).symm⟩
theorem c19(h:d7 l=true)(A:a<2^ord l):j6 l a 0=a:=by
 apply oK;intro i;apply b18;rw[E8];constructor;rintro⟨y,_,H,e⟩;rw[C9 l (m0 h) y (L7 A H)]at e;subst e;exact H;intro J;have:=L7 A J;exact⟨i,nlt this (l8 h).2,J,C9 l (m0 h) i this⟩
theorem jr2(h:d7 l=true)(H:n<2^ord l):j6 l (c68 l n) (R1 n)=n↔c68 l n=j6 l n (q7 l (R1 n)):=by
 have o:=m0 h;have E:j9 l (q7 l (R1 n)) (R1 n)=0:=by rw[E4];exact P0 l o _
 constructor;intro e;have:j6 l (j6 l (c68 l n) (R1 n)) (q7 l (R1 n))=j6 l n (q7 l (R1 n)):=(by rw[e]);rw[cl1 h,E,c19 h (show c68 l n<2^ord l from ba9 h _)]at this;exact this;intro e;rw[e,cl1 h,P0 l o,c19 h H]
def b83(l:LI)(a:Int):Bool:=C8 l a&&decide (c85 l a=a)
theorem cm7{a:Int}(h:C8 l a=false):b83 l a=false:=by unfold b83;rw[h];rfl
theorem df9(h:C8 l n=true):b83 l n=(c85 l n == (n:Int)):=by unfold b83;rw[h];rfl
theorem l46(h:C8 l n=true):b83 l n=cl7 l (j6 l n (q7 l (R1 n)):Nat):=by
 obtain⟨N,e,T,o,r,H⟩:=bq5 h;obtain rfl:n=N:=om;have S:j0 l (j6 l n (q7 l (R1 n)):Nat)=true:=X5 H (b56 (m0 H) _ _);rw[df9 h,dh6 h,j50 S];have:=jr2 H o;unfold c68 at this|-;by_cases e:genF l (j6 l n (q7 l (R1 n)))=j6 l n (q7 l (R1 n));rw[this.2 e,e];simp;have E:¬j6 l (genF l (j6 l n (q7 l (R1 n)))) (R1 n)=n:=fun q=>e (this.1 q);have i:((j6 l (genF l (j6 l n (q7 l (R1 n)))) (R1 n):Int) == (n:Int))=false:=zso;have I:((genF l (j6 l n (q7 l (R1 n))):Int) == (j6 l n (q7 l (R1 n)):Int))=false:=zso;rw[i,I]
def bxS(l:LI)(n m d e:Nat):Nat:=j7 l (N1 l 0 d m) (N1 l 0 e (cnt n/m))
def bh4(l:LI)(n m d e:Nat):Bool:=decide (cnt (bxS l n m d e)=cnt n)&&(List.range (ord l)).any (fun x=>decide (j6 l (bxS l n m d e) x=n))
def bxM(l:LI)(n m:Nat):Bool:=decide (cnt n%m=0)&&(List.range (ord l)).any (fun d=>(List.range (ord l)).any (fun e=>bh4 l n m d e))
def bxN(l:LI)(n:Nat):Bool:=(List.range (cnt n+1)).any (fun m=>decide (1<=m/\m*m<=cnt n)&&bxM l n m)
def b82(l:LI)(a:Int):Bool:=C8 l a&&bxN l a.toNat
theorem cm5{a:Int}(h:C8 l a=false):b82 l a=false:=by unfold b82;rw[h];rfl
theorem dq9(h:C8 l n=true):b82 l n=bxN l n:=by unfold b82;rw[h];rfl
theorem dr2(h:¬cnt (bxS l n m d e)=cnt n):bh4 l n m d e=false:=by unfold bh4;simp[h]
theorem jd1(h:∀x,x<ord l->¬j6 l (bxS l n m d e) x=n):bh4 l n m d e=false:=by
 unfold bh4;have:(List.range (ord l)).any (fun x=>decide (j6 l (bxS l n m d e) x=n))=false:=by
  rw[<-pg,pt];rintro⟨x,K,hd⟩;exact h x (ou.1 K) (of_decide_eq_true hd)
 rw[this];simp
theorem jd2(h:¬cnt n%m=0):bxM l n m=false:=by unfold bxM;simp[h]
theorem jq1(h:∀d,d<ord l->∀e,e<ord l->bh4 l n m d e=false):bxM l n m=false:=by
 unfold bxM;have:(List.range (ord l)).any (fun d=>(List.range (ord l)).any (fun e=>bh4 l n m d e))=false:=by
  rw[<-pg,pt];rintro⟨d,hd,K⟩;rw[pt]at K;obtain⟨e,H,y⟩:=K;rw[h d (ou.1 hd) e (ou.1 H)]at y;cases y
 rw[this];simp
theorem jq2(h:∀m,1<=m->m<k->bxM l n m=false)(V:¬k*k<=cnt n):bxN l n=false:=by
 unfold bxN;rw[<-pg,pt];rintro⟨m,_,K⟩;rw[ow,decide_eq_true_eq]at K;obtain⟨⟨o,r⟩,T⟩:=K;rcases qq m k with U|g
 rw[h m o U]at T;cases T;have:=pm g g;omega
theorem jd3(o:1<=m)(r:m*m<=cnt n)(T:cnt n%m=0)(hd:d<ord l)(E:e<ord l)(K:x<ord l)(h:cnt (bxS l n m d e)=cnt n)(H:j6 l (bxS l n m d e) x=n):bxN l n=true:=by
 unfold bxN bxM bh4;rw[pt];refine⟨m,ou.2 (by have:=Nat.le_mul_of_pos_left m o;omega),?_⟩;rw[ow,ow,decide_eq_true_eq,decide_eq_true_eq];refine⟨⟨o,r⟩,T,?_⟩;rw[pt];refine⟨d,ou.2 hd,?_⟩;rw[pt];refine⟨e,ou.2 E,?_⟩;rw[ow,decide_eq_true_eq,pt];exact⟨h,x,ou.2 K,decide_eq_true H⟩
def Sid(l:LI)(L:LN):Prop:=∀i j k m,i<=j->j<L.length->k<=m->m<L.length->j9 l (d5 L i) (d5 L j)=j9 l (d5 L k) (d5 L m)->i=k/\j=m
open Classical in
noncomputable def sidL (l:LI) (L:LN):Bool:=decide (Sid l L)
noncomputable def sidB (l:LI) (a:Int):Bool:=j0 l a&&sidL l (j3 a.toNat)
theorem ji1{a:Int}(h:j0 l a=false):sidB l a=false:=by unfold sidB;rw[h];rfl
theorem d01(h:j0 l n=true):sidB l n=sidL l (j3 n):=by unfold sidB;rw[h];rfl
open Classical in
theorem l04(h:Sid l L):sidL l L=true:=by unfold sidL;exact decide_eq_true h
open Classical in
theorem l03(h:¬Sid l L):sidL l L=false:=by unfold sidL;exact decide_eq_false h
def Bef(i j p q:Nat):Prop:=p<i\/(p=i/\q<j)
def b57(l:LI)(L:LN)(i j s:Nat):Prop :=
 (∀p q r t,p<=q->q<L.length->r<=t->t<L.length->Bef i j p q->Bef i j r t->j9 l (d5 L p) (d5 L q)=j9 l (d5 L r) (d5 L t)->p=r/\q=t) /\
  (∀z,s.testBit z=true↔∃p q,p<=q/\q<L.length/\Bef i j p q/\j9 l (d5 L p) (d5 L q)=z)
theorem b57.start(l:LI)(L:LN):b57 l L 0 0 0:=by
 refine⟨fun p q r t _ _ _ _ h=>?_,fun z=>?_⟩
 . rcases h with h|⟨_,h⟩<;>omega
 rw[pZ];constructor;intro h;cases h;rintro⟨p,q,_,_,h,_⟩;rcases h with h|⟨_,h⟩<;>omega
theorem b57.hit(h:b57 l L i j s)(I:i<=j)(J:j<L.length)(S:s.testBit (j9 l (d5 L i) (d5 L j))=true):¬Sid l L:=by
 intro k;obtain⟨p,q,P,H,C,e⟩:=(h.2 _).1 S;obtain⟨rfl,rfl⟩:=k p q i j P H I J e;rcases C with C|⟨_,C⟩<;>omega
theorem b57.next(h:b57 l L i j s)(I:i<=j)(J:j<L.length)(S:s.testBit (j9 l (d5 L i) (d5 L j))=false):b57 l L i (j+1) (s ||| 2^j9 l (d5 L i) (d5 L j)):=by
 have C:∀p q,Bef i (j+1) p q↔(Bef i j p q\/(p=i/\q=j)):=fun p q=>by unfold Bef;omega
 refine⟨fun p q R t o r T H c f e=>?_,fun z=>?_⟩
 . rcases (C p q).1 c with a|⟨rfl,rfl⟩<;>rcases (C R t).1 f with b|⟨rfl,rfl⟩;exact h.1 p q R t o r T H a b e;have:=(h.2 _).2 ⟨p,q,o,r,a,e⟩;rw[S]at this;cases this;have:=(h.2 _).2 ⟨R,t,T,H,b,e.symm⟩;rw[S]at this;cases this;exact⟨rfl,rfl⟩
 rw[oN,pd,pG,decide_eq_true_eq,h.2 z];constructor;rintro (⟨p,q,o,r,T,H⟩|e);exact⟨p,q,o,r,(C p q).2 (Or.inl T),H⟩;exact⟨i,j,I,J,(C i j).2 (Or.inr ⟨rfl,rfl⟩),e⟩;rintro⟨p,q,o,r,T,H⟩;rcases (C p q).1 T with a|⟨rfl,rfl⟩;exact Or.inl ⟨p,q,o,r,a,H⟩;exact Or.inr H
theorem b57.row(h:b57 l L i j s)(J:j=L.length):b57 l L (i+1) (i+1) s:=by
 have C:∀p q,p<=q->q<L.length->(Bef (i+1) (i+1) p q↔Bef i j p q):=fun p q o r=>by unfold Bef;omega
 refine⟨fun p q R t o r T H c f e=>h.1 p q R t o r T H ((C p q o r).1 c) ((C R t T H).1 f) e,fun z=>?_⟩;rw[h.2 z];constructor;rintro⟨p,q,o,r,T,H⟩;exact⟨p,q,o,r,(C p q o r).2 T,H⟩;rintro⟨p,q,o,r,T,H⟩;exact⟨p,q,o,r,(C p q o r).1 T,H⟩
theorem b57.all(h:b57 l L i i s)(J:i=L.length):Sid l L:=fun p q R t o r T H e =>
 h.1 p q R t o r T H (by unfold Bef;omega) (by unfold Bef;omega) e
def pkN(L:LN)(n:Nat):Nat->Nat
 |0=>0
 |k+1=>if n<d5 L k then pkN L n k else k+1
theorem c98(h:n<d5 L k):pkN L n (k+1)=pkN L n k:=by rw[pkN,if_pos h]
theorem bv5(h:¬n<d5 L k):pkN L n (k+1)=k+1:=by rw[pkN,if_neg h]
def b68(L:LN)(n k:Nat):LN:=L.take k++n :: L.drop k
def Q5(L:LN)(n:Nat):LN:=if 0<pkN L n L.length/\d5 L (pkN L n L.length-1)=n then L else b68 L n (pkN L n L.length)
theorem c49(L:LN)(n:Nat):∀k,pkN L n k<=k
 |0=>oc _
 |k+1=>by
  unfold pkN;split
  . exact Nat.le_succ_of_le (c49 L n k)
  . exact oc _
theorem lb3(V:pkN L n L.length=k+1)(h:d5 L k=n):Q5 L n=L:=by
 unfold Q5;rw[V,if_pos ⟨om,h⟩]
theorem jy3(V:pkN L n L.length=0):Q5 L n=b68 L n 0:=by
 unfold Q5;rw[V,if_neg om]
theorem lb2(V:pkN L n L.length=k+1)(h:¬d5 L k=n):Q5 L n=b68 L n (k+1):=by
 unfold Q5;rw[V,if_neg (fun e=>h e.2)]
theorem cj4(V:k<=L.length):(b68 L n k).length=L.length+1:=by
 unfold b68;rw[oh,oy,ol,pc];omega
theorem jv8:x∈b68 L n k↔x=n\/x∈L:=by
 unfold b68;rw[oP,pM];have h:x∈L↔x∈L.take k\/x∈L.drop k:=by rw[<-oP,qJ]
 rw[h];constructor;rintro (a|a|a);exact Or.inr (Or.inl a);exact Or.inl a;exact Or.inr (Or.inr a);rintro (a|a|a);exact Or.inr (Or.inl a);exact Or.inl a;exact Or.inr (Or.inr a)
theorem c99(L:LN)(n:Nat):(Q5 L n=L/\n∈L)\/Q5 L n=b68 L n (pkN L n L.length):=by
 unfold Q5;split
 . next h =>
    refine Or.inl ⟨rfl,?_⟩;have l:=c49 L n L.length;have:=m7 (L:=L) (k:=pkN L n L.length-1) om;rwa [h.2]at this
 exact Or.inr rfl
theorem cy1:x∈Q5 L n↔x=n\/x∈L:=by
 rcases c99 L n with⟨e,h⟩|e;rw[e];constructor;exact Or.inr;rintro (rfl|a);exact h;exact a;rw[e];exact jv8
theorem j19(h:n ∉ L):(Q5 L n).length=L.length+1:=by
 rcases c99 L n with⟨-,r⟩|e;exact absurd r h;rw[e];exact cj4 (c49 _ _ _)
theorem j18(L:LN)(n:Nat):(Q5 L n).length<=L.length+1:=by
 rcases c99 L n with⟨e,-⟩|e;rw[e];omega;rw[e,cj4 (c49 _ _ _)];exact oc _
def M5(T:LN):Nat->LN
 |0=>[]
 |k+1=>Q5 (M5 T k) (d5 T k)
theorem dk1(T:LN):∀k,(M5 T k).length<=k
 |0=>oc _
 |k+1=>by have:=dk1 T k;have:=j18 (M5 T k) (d5 T k);unfold M5;omega
theorem ct0{T:LN}(h:T.Nodup):∀k,k<=T.length->(M5 T k).length=k/\∀x∈M5 T k,x∈T.take k
 |0,_=>⟨rfl,by simp[M5]⟩
 | k+1,hk=>by
  obtain⟨o,r⟩:=ct0 h k om
  have n:d5 T k ∉ M5 T k:=fun e=>by
   have:=r _ e
   rw[<-qJ k T,qx]at h
   have H:d5 T k∈T.drop k:=by
    have E:d5 T k=T[k]'om:=(by simp[d5,List.getD,show k<T.length by omega]);rw[qf om,E];exact List.mem_cons_self
   exact h.2.2 _ this _ H rfl
  refine⟨by unfold M5;rw[j19 n,o],fun x K=>?_⟩
  unfold M5 at K
  rw[K9 T k om,oP,oE]
  rcases cy1.1 K with rfl|K
  . exact Or.inr rfl
  . exact Or.inl (r x K)
def do6(l:LI)(a u b y:Nat):Prop:=∀d,(b.testBit d=true->y.testBit d=true)/\(y.testBit d=true->b.testBit d=true\/j6 l a d &&& u=0)
theorem ce4(h:a &&& b=0)(H:a.testBit i=true):b.testBit i=false:=by
 cases C:b.testBit i;rfl;have:(a &&& b).testBit i=true:=(by rw[pC,H,C];rfl);rw[h,pZ]at this;cases this
theorem dp2{c:Nat}(h:a &&& (b ||| c)=0):a &&& b=0:=by
 apply oK;intro i;rw[pZ,pC];cases H:a.testBit i;rfl;have:=ce4 h H;rw[oN,qU]at this;rw[this.1];rfl
theorem do6.back{u D y:Nat}(z:j6 l a D &&& u=0)(h:do6 l a (u ||| j6 l a D) (b ||| 2^D) y):do6 l a u b y:=fun d=>by
 obtain⟨o,r⟩:=h d
 refine⟨fun C=>o (by rw[oN,C];rfl),fun H=>?_⟩
 rcases r H with T|T
 . rw[oN,pG,pd]at T
   rcases T with T|T
   . exact Or.inl T
   . have:D=d:=by simpa using T
     subst this;exact Or.inr z
 . exact Or.inr (dp2 T)
theorem ld7{c:Nat->Prop}[DecidablePred c]{G:Nat->Nat->LN}{Q:Nat->Nat->Prop}{E:LN}(g:∀x k,x∈E->c x->(G x k).Nodup/\∀y∈G x k,Q x y)
 (i:∀x∈E,∀X∈E,∀y,c x->c X->Q x y->Q X y->x=X) :
 ∀(L p u:LN),(p++L).Nodup->(∀x∈p++L,x∈E)->u.Nodup->(∀y∈u,∃x∈p,c x/\Q x y) ->
  (L.foldl (fun (u:LN) (x:Nat)=>if u.length<m/\c x then u++G x (m-u.length)else u) u).Nodup/\∀y∈L.foldl (fun (u:LN) (x:Nat)=>if u.length<m/\c x then u++G x (m-u.length)else u) u,∃x∈p++L,c x/\Q x y:=by
 intro L;induction L with
 |nil=>intro p u _ _ T a;exact⟨T,by simpa using a⟩
 | cons x L ih =>
  intro p u o r T a;have e:p++x :: L=(p++[x])++L:=zm;rw[oR,e];rw[e]at o r;refine ih (p++[x]) _ o r ?_ ?_
  . split
    . next hc =>
       have K:x∈E:=r x zm;obtain⟨U,V⟩:=g x (m-u.length) K hc.2;rw[qx];refine⟨T,U,fun y h Z z e=>?_⟩;subst e;obtain⟨X,H,C,q⟩:=a y h;have:=i X (r X (by simp[H])) x K y C hc.2 q (V y z);subst this;rw[qx]at o;have d:=o.1;rw[qx]at d;exact d.2.2 _ H _ zm rfl
    . exact T
  . intro y h;split at h
    . next hc =>
       rw[oP]at h;rcases h with h|h
       . obtain⟨X,H,q⟩:=a y h;exact⟨X,by simp[H],q⟩
       . exact⟨x,zm,hc.2,(g x _ (r x zm) hc.2).2 y h⟩
    . obtain⟨X,H,q⟩:=a y h;exact⟨X,by simp[H],q⟩
theorem dt4(H:d7 l=true){u:Nat}(h:c14 u<ord l):j9 l (dF l u x) x=c14 u:=by
 unfold dF;rw[M9 l (m0 H),E4 l (q7 l x) x,P0 l (m0 H),E4 l,C9 l (m0 H) _ h]
theorem l86{u:Nat}(U:u<2^ord l)(O:ord l<=24)(h:u≠l6 l):c14 u<ord l/\u.testBit (c14 u)=false:=by
 have X:∃e,u.testBit e=false/\e<ord l:=oU fun N=>h (cy2 U (e:=ord l) (fun j H=>oU fun C=>N ⟨j,by simpa using C,H⟩) (oc _));have k:∀n,(∃e,e<n/\u.testBit e=false)->∃e,e<n/\u.testBit e=false/\∀j,j<e->u.testBit j=true:=by
  intro n;induction n with
  |zero=>rintro⟨e,E,_⟩;omega
  |succ n ih =>
   rintro⟨e,E,C⟩;by_cases c:∃e,e<n/\u.testBit e=false
   . obtain⟨x,o,r⟩:=ih c;exact⟨x,om,r⟩
   . have P:e=n:=oU fun N=>c ⟨e,om,C⟩;subst P;exact⟨e,om,C,fun j H=>oU fun C=>c ⟨j,H,by simpa using C⟩⟩
 obtain⟨e,E,C⟩:=X;obtain⟨x,o,r,T⟩:=k (ord l) ⟨e,C,E⟩;rw[dc2 T r om];exact⟨o,r⟩
theorem dx6(H:d7 l=true){u:Nat}(h:c14 u<ord l)(K:x∈j3 a):(j6 l a (dF l u x)).testBit (c14 u)=true:=by
 rw[E8];exact⟨x,(I0.1 K).1,(I0.1 K).2,dt4 H h⟩
theorem l14(H:d7 l=true)(A:a<2^ord l):∀f u b m,u<2^ord l->(∀d,b.testBit d=true->Sub (j6 l a d) u) ->
 (tlS l a f u b m).Nodup/\∀y∈tlS l a f u b m,do6 l a u b y:=by
 intro f;induction f with
 |zero=>intro u b m _ _;simp[tlS]
 | succ f ih =>
  intro u b m U I;have O:=l8 H;by_cases F:u=l6 l
  . rw[cb3 F];refine⟨zm,fun y h=>?_⟩;rw[oE]at h;subst h;exact fun d=>⟨id,Or.inl⟩
  . obtain⟨L,g⟩:=l86 U O.2 F;have i:∀x∈j3 a,x<ord l:=fun x K=>oU fun n=>by
     have:=W4 A (Nat.le_of_not_lt n);rw[(I0.1 K).2]at this;cases this
    unfold tlS;rw[if_neg F]
    have Y:=ld7 (c:=fun x=>j6 l a (dF l u x) &&& u=0) (G:=fun x k=>tlS l a f (u ||| j6 l a (dF l u x)) (b ||| 2^dF l u x) k) (Q:=fun x y=>do6 l a (u ||| j6 l a (dF l u x)) (b ||| 2^dF l u x) y) (E:=j3 a) (m:=m)
     (fun x k K C=>ih _ _ k (ox U (b56 (m0 H) a _)) fun d hd=>by
      rw[oN,pG,pd]at hd
      rcases hd with hd|hd
      . exact(I d hd).trans (Sub.or_left _ _)
      . have:dF l u x=d:=by simpa using hd
        subst this;exact Sub.or_right _ _)
     (fun x K X T y C j q J=>by
      have D:y.testBit (dF l u X)=true:=(J _).1 (by rw[oN,pd];simp)
      have s:=dx6 H L T
      have S:=dx6 H L K
      rcases (q _).2 D with o|o
      . rw[oN,pG,pd]at o
        rcases o with o|o
        . have:=I _ o _ s
          rw[g]at this;cases this
        . have e:dF l u x=dF l u X:=by simpa using o
          have R:=dt4 H (x:=x) L
          have V:=dt4 H (x:=X) L
          rw[e]at R
          exact b26 (m0 H) (i x K) (i X T) (R.trans V.symm)
      . have:=ce4 o s
        rw[oN,S]at this;simp at this)
     (j3 a) [] [] (by simpa using bm4 a) zm zm zm
    refine⟨Y.1,fun y h=>?_⟩;obtain⟨x,-,C,q⟩:=Y.2 y h;exact q.back C
theorem jb2(H:d7 l=true)(h:a<2^ord l)(m:Nat):(R2 l a m).Nodup :=
 (l14 H h _ _ _ _ h fun d hd=>by
  have:d=0:=by
   rw[show(1:Nat)=2^0 from rfl,pd]at hd;have:0=d:=(by simpa using hd);omega
  subst this
  rw[c19 H h];exact Sub.refl _).1
theorem df5(L:LN)(n k:Nat):(b9 L).take k++[(n:Int)]++(b9 L).drop k=b9 (b68 L n k):=by
 unfold b68 b9;simp[List.map_take,List.map_drop]
theorem di4(L:LN)(n:Nat)(w:World)(h:c8 w u (b9 L))(hL:L.length<=100000):Calls Tryz.prog 211 #[u,vi n] w fun e w'=>∃v,e=.returned v/\(v=u/\Q5 L n=L\/Own 3 w w' v (b9 (Q5 L n)))/\Ext w w':=by
 have I:=zh (fun W (D:Ext w W)=>h.ext D);obtain⟨Q,c,aL,rfl,hb,hf⟩:=h.nats;have hg:=j2 (c:=c) elI szI hb;have E:=er w;have hu:L.length<=c:=by
  obtain⟨_,_,hv,hc,_⟩:=h;rw[d9]at hv hc;simp only[Value.slice.injEq]at hv;omega
 have I:Hid (∀W,Ext w W->c8 W (.slice Q L.length c) (b9 L)):=I;clear h hb;go_in;go_wp2_with fail;go_loop [5] (fun s=>∃k:Nat,k<=L.length/\s=vi k/\Hid (pkN L n L.length=pkN L n k)) (fun s=>(intOf s).toNat);exact⟨L.length,oc _,rfl,zh rfl⟩
 obtain⟨k,V,rfl,y⟩:=hrel;have ho:k=0\/(∃j,k=j+1/\n<d5 L j)\/(∃j,k=j+1/\d5 L j=n)\/(∃j,k=j+1/\d5 L j<n):=by
  by_cases Z:k=0;exact Or.inl Z;obtain⟨j,rfl⟩:∃j,k=j+1:=⟨k-1,om⟩;rcases Nat.lt_trichotomy n (d5 L j)with h|h|h;exact Or.inr (Or.inl ⟨j,rfl,h⟩);exact Or.inr (Or.inr (Or.inl ⟨j,rfl,h.symm⟩));exact Or.inr (Or.inr (Or.inr ⟨j,rfl,h⟩))
 have R:=zh hf;clear hf;rcases ho with Z|⟨j,rfl,U⟩|⟨j,rfl,d⟩|⟨j,hj,U⟩
 . have p:Hid (Q5 L n=b68 L n k):=zh (by rw[Z]at y|-;exact jy3 y.o);have hz:¬(0:Int)<(k:Int):=om;clear Z;have S:=fun W=>U6 (P:=Tryz.prog) elI szI Q L.length c (k:Int) om om W;have z:=fun W=>Y0 (P:=Tryz.prog) elI szI Q L.length c (k:Int) om om W;have f:=fun W=>T6 (P:=Tryz.prog) elI szI Q L.length c (k:Int) om om W;have ha:=fun W=>S6 (P:=Tryz.prog) elI szI Q L.length c (k:Int) om om W;rw[show((k:Int)).toNat=k by omega]at S z f ha;have t:(b9 L).length=L.length:=d9 L;have H:Hid (b9 (Q5 L n)=(b9 L).take k++[(n:Int)]++(b9 L).drop k):=zh (by rw[p.o,df5]);have X:=zh (fun W (D:Ext w W)=>(I.o W D).take (k:=k) om);have b:=zh (fun W (D:Ext w W)=>(I.o W D).drop (k:=k) om);have q:((b9 L).take k).length+[(n:Int)].length<=17592186044416:=(by rw[ol,oo];omega);have l:((b9 L).take k++[(n:Int)]).length+((b9 L).drop k).length<=17592186044416:=(by rw[oh,ol,oo,pc];omega);obtain⟨A,C⟩:=nq ((b9 L).take k);obtain⟨r,B⟩:=nq ((b9 L).drop k);rw[<-C]at X q l H;rw[<-B]at b l H;clear C B t;go_wp2_with fail;first|(go_region_held3 (fun W=>Ext w W) (exact xq) (first|((refine q9 slI rfl _ _ rfl w w ?_ ?_ (A++[(n:Int)]) (r) ?_ ?_ ?_ l ?_ ?_ ?_);(rotate_left 2);(focus(first|(with_reducible assumption)|((refine N7.ext (w:=?_) ?_ ?_);(rotate_left 1);(focus(with_reducible assumption));repeat(first|assumption|exact er _|(apply pA;assumption)|apply pB|apply oQ))));(rotate_left 2);rfl;rfl;(rotate_left 1);(focus(exact b.o _ xq));(focus(repeat(first|assumption|exact er _|(apply pA;assumption)|apply pB|apply oQ)));(intro vF wF m x hn))|((refine q9 slI rfl _ _ rfl w w ?_ ?_ (A) ([(n:Int)]) ?_ ?_ ?_ q ?_ ?_ ?_);(rotate_left 2);(focus(first|(with_reducible assumption)|((refine N7.ext (w:=?_) ?_ ?_);(rotate_left 1);(focus(with_reducible assumption));repeat(first|assumption|exact er _|(apply pA;assumption)|apply pB|apply oQ))));(rotate_left 2);rfl;rfl;(rotate_left 1);(focus(refine Blk.ints1 (T:=3) ?_;(repeat(first|(with_reducible assumption)|(with_reducible exact oq _ _ _)|((with_reducible refine Blk.new' ?_);simp[go_sem];done)|(with_reducible apply qp)|(with_reducible apply qD)|(with_reducible refine Blk.ext ?_ F)))));(focus(repeat(first|assumption|exact er _|(apply pA;assumption)|apply pB|apply oQ)));(intro vD wD hi hD hl))|((refine Q6 slI rfl _ _ rfl ?_ ?_ (A) ?_ ?_ ?_ ?_ w ?_ ?_ ?_);(rotate_left 2);rfl;rfl;(focus(repeat(first|(with_reducible assumption)|(with_reducible exact oq _ _ _)|((with_reducible refine Blk.new' ?_);simp[go_sem];done)|(with_reducible apply qp)|(with_reducible apply qD))));(exact X.o _ xq);(focus(first|exact oc _|omega|(simp;omega)));(focus(repeat(first|assumption|exact er _|(apply pA;assumption)|apply pB|apply oQ)));(intro aC cC g O hm F;have hC:=og (a:=w) xq F;have hr:N7 3 w w g _ _:=Or.inr O))))|(fail "the region")
   all_goals
    obtain⟨aN,cN,rfl,G,i⟩:=MiP.of m x
    go_wp2_with fail
    go_ret
    exact⟨_,rfl,Or.inr (by rw[H.o];exact G),i⟩
 . have J:j<L.length:=om;have K:=R.o j w J E;obtain⟨M,Y⟩:=nq (d5 L j);rw[<-Y]at K U;have hp:=hg j;have hs:IntKind.i64.wrap (((j+1:Nat):Int)-1)=(j:Int):=(by rw[show(((j+1:Nat):Int)-1)=(j:Int) by omega];exact oD _ om);have hh:(((j+1:Nat):Int)-1)=(j:Int):=om;have hz:(0:Int)<((j+1:Nat):Int):=om;have Hn:Hid (pkN L n L.length=pkN L n j):=zh (by rw[y.o,c98 (by rw[<-Y];exact U)]);have hq:(n:Int)<(M:Int):=om;clear Y;go_wp2_with fail;go_round;exact⟨j,om,zg,Hn⟩;(first|(simp[intOf];done)|(simp[intOf];omega))
 . have J:j<L.length:=om;have K:=R.o j w J E;have N:Hid (pkN L n L.length=j+1):=zh (by rw[y.o,bv5 om]);have p:Hid (Q5 L n=L):=zh (lb3 N.o d);have hh:(((j+1:Nat):Int)-1)=(j:Int):=om;have hz:(0:Int)<((j+1:Nat):Int):=om;rw[d]at K;have hq:¬(n:Int)<(n:Int):=om;clear d;go_wp2_with fail;go_ret;exact⟨_,rfl,Or.inl ⟨rfl,p.o⟩,E⟩
 have J:j<L.length:=om;have K:=R.o j w J E;have N:Hid (pkN L n L.length=j+1):=zh (by rw[y.o,hj,bv5 om]);have p:Hid (Q5 L n=b68 L n k):=zh (by rw[hj];exact lb2 N.o om);obtain⟨M,Y⟩:=nq (d5 L j);rw[<-Y]at K U;have hh:((k:Int)-1)=(j:Int):=om;have hz:(0:Int)<(k:Int):=om;have hq:¬(n:Int)<(M:Int):=om;have ht:((M:Int) == (n:Int))=false:=(by rw[beq_eq_false_iff_ne];omega);have hp:=hg j;have Ha:=N;clear Y hj N Ha;have S:=fun W=>U6 (P:=Tryz.prog) elI szI Q L.length c (k:Int) om om W;have z:=fun W=>Y0 (P:=Tryz.prog) elI szI Q L.length c (k:Int) om om W;have f:=fun W=>T6 (P:=Tryz.prog) elI szI Q L.length c (k:Int) om om W;have ha:=fun W=>S6 (P:=Tryz.prog) elI szI Q L.length c (k:Int) om om W;rw[show((k:Int)).toNat=k by omega]at S z f ha;have t:(b9 L).length=L.length:=d9 L;have H:Hid (b9 (Q5 L n)=(b9 L).take k++[(n:Int)]++(b9 L).drop k):=zh (by rw[p.o,df5]);have X:=zh (fun W (D:Ext w W)=>(I.o W D).take (k:=k) om);have b:=zh (fun W (D:Ext w W)=>(I.o W D).drop (k:=k) om);have q:((b9 L).take k).length+[(n:Int)].length<=17592186044416:=(by rw[ol,oo];omega);have l:((b9 L).take k++[(n:Int)]).length+((b9 L).drop k).length<=17592186044416:=(by rw[oh,ol,oo,pc];omega);obtain⟨A,C⟩:=nq ((b9 L).take k);obtain⟨r,B⟩:=nq ((b9 L).drop k);rw[<-C]at X q l H;rw[<-B]at b l H;clear C B t;go_wp2_with fail;first|(go_region_held3 (fun W=>Ext w W) (exact xq) (first|((refine q9 slI rfl _ _ rfl w w ?_ ?_ (A++[(n:Int)]) (r) ?_ ?_ ?_ l ?_ ?_ ?_);(rotate_left 2);(focus(first|(with_reducible assumption)|((refine N7.ext (w:=?_) ?_ ?_);(rotate_left 1);(focus(with_reducible assumption));repeat(first|assumption|exact er _|(apply pA;assumption)|apply pB|apply oQ))));(rotate_left 2);rfl;rfl;(rotate_left 1);(focus(exact b.o _ xq));(focus(repeat(first|assumption|exact er _|(apply pA;assumption)|apply pB|apply oQ)));(intro vF wF m x hn))|((refine q9 slI rfl _ _ rfl w w ?_ ?_ (A) ([(n:Int)]) ?_ ?_ ?_ q ?_ ?_ ?_);(rotate_left 2);(focus(first|(with_reducible assumption)|((refine N7.ext (w:=?_) ?_ ?_);(rotate_left 1);(focus(with_reducible assumption));repeat(first|assumption|exact er _|(apply pA;assumption)|apply pB|apply oQ))));(rotate_left 2);rfl;rfl;(rotate_left 1);(focus(refine Blk.ints1 (T:=3) ?_;(repeat(first|(with_reducible assumption)|(with_reducible exact oq _ _ _)|((with_reducible refine Blk.new' ?_);simp[go_sem];done)|(with_reducible apply qp)|(with_reducible apply qD)|(with_reducible refine Blk.ext ?_ F)))));(focus(repeat(first|assumption|exact er _|(apply pA;assumption)|apply pB|apply oQ)));(intro vD wD hi hD hl))|((refine Q6 slI rfl _ _ rfl ?_ ?_ (A) ?_ ?_ ?_ ?_ w ?_ ?_ ?_);(rotate_left 2);rfl;rfl;(focus(repeat(first|(with_reducible assumption)|(with_reducible exact oq _ _ _)|((with_reducible refine Blk.new' ?_);simp[go_sem];done)|(with_reducible apply qp)|(with_reducible apply qD))));(exact X.o _ xq);(focus(first|exact oc _|omega|(simp;omega)));(focus(repeat(first|assumption|exact er _|(apply pA;assumption)|apply pB|apply oQ)));(intro aC cC g O hm F;have hC:=og (a:=w) xq F;have hr:N7 3 w w g _ _:=Or.inr O))))|(fail "the region")
 all_goals
  obtain⟨aN,cN,rfl,G,i⟩:=MiP.of m x
  go_wp2_with fail
  go_ret
  exact⟨_,rfl,Or.inr (by rw[H.o];exact G),i⟩
theorem jv4(L:LN)(n:Nat)(w:World)(h:c8 w u (b9 L))(H:L.length<=100000):Calls Tryz.prog 211 #[u,vi n] w fun e W=>∃v,e=.returned v/\c8 W v (b9 (Q5 L n))/\Ext w W :=
 (di4 u L n w h H).mono fun e W ⟨v,U,o,E⟩=>⟨v,U,by
  rcases o with⟨rfl,r⟩|o
  . rw[r];exact h.ext E
  . exact o.ints,E⟩
theorem by5(L:LN)(n:Nat)(P w:World)(h:Own 3 P w u (b9 L))(S:P.heap.size<=w.heap.size)(H:L.length<=100000):Calls Tryz.prog 211 #[u,vi n] w fun e W=>∃v,e=.returned v/\Own 3 P W v (b9 (Q5 L n))/\Ext w W :=
 (di4 u L n w h.ints H).mono fun e W ⟨v,U,o,E⟩=>⟨v,U,by
  rcases o with⟨rfl,r⟩|o
  . rw[r];exact h.ext E
  . exact⟨X7 o.1 S,o.2⟩,E⟩
theorem c8.shapeN{v:Value}(h:c8 w v (b9 L)):∃Q c,v=.slice Q L.length c:=by
 obtain⟨Q,c,rfl,-⟩:=h;exact⟨Q,c,by rw[d9]⟩
def tlN(l:LI)(a:Int):Nat:=if C8 l a then(R2 l a.toNat 200).length else 0
theorem cl8{a:Int}(h:C8 l a=false):tlN l a=0:=by unfold tlN;rw[h];rfl
theorem de6(h:C8 l n=true):tlN l n=(R2 l n 200).length:=by unfold tlN;rw[if_pos h];rfl
theorem zz99{P:Prop}(h:P:=by exact br (.tuple #[.slice (some (aD G.heap.size 0)) 0 0,.bool false]) ⟨_,[],rfl,(l9 (TI:=3) (n:=0) om (F.trans z) [] rfl).ints,(cl8 K.o).symm,oQ (F.trans z) _⟩):P:=h
theorem j35(l:LI)(a:Int)(w:World)(h:c8 w v l):Calls Tryz.prog 135 #[.agg #[v],vi a] w fun e P=>∃X L,e=.returned (.tuple #[X,.bool (C8 l a)])/\c8 P X L/\L.length=tlN l a/\Ext w P:=by
 obtain⟨B,Z,F,C,H,E,Hz⟩:=m04 42 h;clear h;have hx:=C B E;cases S:j0 l a
 . have K:=zh (P5 S);go_in;go_wp2_with fail;rw[<-Z.o];refine cm (m6 _ _ _ _ (H _ E) S) fun G z=>?_;go_wp2_with fail;rw[K.o];exact zz99
 obtain⟨n,rfl,N,ht,Y⟩:=l7 S;by_cases b:n=0
 . subst b;have K:Hid (C8 l ((0:Nat):Int)=false):=zh (J7 l);go_in;go_wp2_with fail;rw[<-Z.o];refine cm (m6 _ _ _ _ (H _ E) S) fun G z=>?_;go_wp2_with fail;rw[show(0:Int)=((0:Nat):Int)from rfl,K.o];exact zz99
 have hz:((n:Int) == 0)=false:=(by rw[beq_eq_false_iff_ne];omega);have R:=zh Y;have K:=zh (Q4 S om);have hr:1<=cnt n:=U3 om ht;have hj:=l8 Y;have M:∀W,Ext B W->Calls Tryz.prog 233 #[.agg #[v],vi n,vi (l6 l:Nat),vi n,vi 1,vi 200] W fun e P=>∃X,e=.returned X/\Own 3 W P X (b9 (R2 l n 200))/\Ext W P:=fun W D =>
  ct4 v l n R b N (ord l+1) n 1 200 W (H W D) om N (by decide) om om
 have hq:(R2 l n 200).length<=200:=bt0 _ _ _ _ _ _ om;have HN:Hid ((M5 (R2 l n 200) (R2 l n 200).length).length=tlN l n):=zh (by rw[de6 K.o];exact(ct0 (jb2 Y N 200) _ (oc _)).1);have hu:=o6 (n:=ord l) om;have hA:=bc9 (n:=ord l) hj.2;have hC:=X9 (ord l);have hB:IntKind.i64.wrap (((pw (ord l):Nat):Int)-1)=((l6 l:Nat):Int):=by
  exact zz161
 obtain⟨T,r⟩:=nq (R2 l n 200);rw[<-r]at M hq HN;clear Y b hr r;go_in;go_wp2_with fail;rw[<-Z.o];refine cm (m6 _ _ _ _ (H _ E) S) fun G z=>?_;have x:=sh z C;go_wp2_with fail;have hD:=(er (G)).drew;(first|(go_region_held3 (fun W=>Ext (G) W/\W.cell? (aD w.heap.size 0)=some v) (exact⟨xq,x _ xq⟩) (first|(go_at_call 103;((with_reducible refine od (o4 _ _ _ (H _ (z.trans xq)) R) ?_);rintro e wd⟨rfl,ha⟩;have hy:=og (a:=G) xq ha))|(go_at_call 233;((with_reducible refine od (M _ (z.trans xq)) ?_);rintro e wa⟨vT,rfl,O,A⟩;have hw:=og (a:=G) xq A))))|(fail "the region with calls"));obtain⟨m,f⟩:∃m,Ext G m/\m=wa:=⟨_,by repeat(first|assumption|exact er _|(apply pA;assumption)|apply pB|apply oQ),rfl⟩;obtain⟨f,rfl⟩:=f;obtain⟨aT,cT,aa,rfl,hc,he⟩:=O.ints.nats;have hG:=j2 (c:=cT) elI szI hc;have HT:=zh he;have ho:=F.trans (z.trans f);clear he hc O M ha A x S;go_wp2_with fail;go_loopw [6,8] (fun so s wr=>∃(k:Nat) (Q:Option Addr) (c:Nat),k<=T.length/\s=vi k/\so=.slice Q (M5 T k).length c/\c8 wr (.slice Q (M5 T k).length c) (b9 (M5 T k))/\Ext m wr) (fun _ s _=>T.length-(intOf s).toNat);exact⟨0,_,0,om,rfl,rfl,⟨_,0,rfl,by simp[M5,b9],by simp[M5,b9],fun i J=>absurd J (by simp[M5,b9])⟩,er _⟩;case round =>
  obtain⟨k,Q,c,V,rfl,rfl,d,I⟩:=hrel;have hp:=dk1 T k;by_cases U:k<T.length
  . obtain⟨j,p⟩:=nq (M5 T k);have q:Hid (M5 T (k+1)=Q5 j (d5 T k)):=zh (by rw[p];rfl);have hh:=HT.o k wr U I;rw[<-p]at d hp;rw[<-p];obtain⟨YY,y⟩:=nq (d5 T k);rw[<-y]at hh q;have hm:=jv4 _ j YY wr d om;clear p y;go_wp2_with(go_at_call 211;refine hm.mono ?_;rintro e w3⟨v3,rfl,g,hf⟩;obtain⟨a3,c3,rfl⟩:=g.shapeN;rw[<-q.o]at g|-);go_roundw;exact⟨k+1,a3,c3,om,zg,rfl,g,I.trans hf⟩;exact zm1
  . have hl:k=T.length:=om;subst hl;go_wp2_with fail;rw[K.o];exact br (.tuple #[.slice Q (M5 T T.length).length c,.bool true]) ⟨_,_,rfl,d,by rw[d9,HN.o],ho.trans I⟩
theorem xup{w w':World}(h:Ext w w':=by repeat(first|(with_reducible assumption)|(with_reducible exact er _)|(with_reducible apply pB)|(with_reducible apply oQ)|(with_reducible (apply pA;assumption)))):Ext w w':=h
theorem bup{w:World}{b:Nat}{T:TypeId}{cs:Array Value}(h:Blk w b T cs:=by repeat(first|(with_reducible assumption)|(with_reducible exact oq _ _ _)|((with_reducible refine Blk.new' ?_);simp[go_sem];done)|(with_reducible apply qp)|(with_reducible apply qD))):Blk w b T cs:=h
theorem V5{ops:Array Oper}{o:Oper}{a:Act}{K:Act->World->Prop}{Q:Exit->Act->World->Prop}(H:o.guard=none)(h:if Region.wanted o (yielded ops a.tmps)=true then Oper.wp P o a w K Q else True):Oper.wp P o a w K Q:=by
 have W:Region.wanted o (yielded ops a.tmps)=true:=by simp[Region.wanted,H]
 rwa [if_pos W]at h
open Go
theorem ly1{o:Array Oper}{Q:Exit->Act->World->Prop}{m:Region.Mode}{s:World->Prop}{v:Value}{l:Array Bool}{a:Act}
 (r:(Region.ready m o l).contains i=true) (J:o[i]?=some O) (W:Region.wanted O (yielded o a.tmps)=true) (F:Region.free m o l i=true) (S:Region.noSelect o=true)
 (q:∀c a w,Q (.panic c) (a.put O.dst v) w->Q (.panic c) a w) (y:∀w,s w->(execOp a.eval O).run P w=.ok (.value v) w) (H:s w)
 (h:wpAnyH P m o Q s f (l.setIfInBounds i true) (a.put O.dst v) w):wpAnyH P m o Q s (f+1) l a w :=
 wpAnyH_take J S F r q (Or.inl ⟨W,y⟩) H h
theorem lp0{o:Array Oper}{Q:Exit->Act->World->Prop}{m:Region.Mode}{S:World->Prop}{l:Array Bool}{a:Act}
 (r:Region.ready m o l=[i]) (J:o[i]?=some O) (W:Region.wanted O (yielded o a.tmps)=true)
 (h:∀K:Act->World->Prop,Shut (∀a w,S w->(S w->wpAnyH P m o Q S f (l.setIfInBounds i true) a w)->K a w)->Oper.wp P O a w K Q):wpAnyH P m o Q S (f+1) l a w :=
 wpAnyH_ready r zm (AllReadyH.cons J (fun k H=>by rw[if_pos W];exact h k H) AllReadyH.nil)
theorem hx1{α:Type}(l:List α)(i:Nat)(a:α):l.toArray.setIfInBounds i a=(l.set i a).toArray:=List.setIfInBounds_toArray ..
theorem hx2{α:Type}(l:List α)(x a:α):(x :: l).set 0 a=a :: l:=rfl
theorem hx3{α:Type}(l:List α)(x a:α)(n:Nat):(x :: l).set (n+1) a=x :: l.set n a:=rfl
theorem hx4{α:Type}{x:List α}(h:i<x.toArray.size):x.toArray[i]=x[i]'(by simpa using h):=rfl
theorem hx5{α:Type}{a:α}{x:List α}(h:0<(a :: x).length):(a :: x)[0]=a:=rfl
theorem hx6{α:Type}(a:α)(x:List α)(i:Nat)(h:i+1<(a :: x).length):(a :: x)[i+1]=x[i]'(by simpa using h):=rfl
theorem hxn{P:Program}{ops:Array Oper}{Q:Exit->Act->World->Prop}{md:Region.Mode}{S:World->Prop}{fuel:Nat}{listed listed':Array Bool}{a a':Act}{w:World}(i:Nat){oi:Oper}{v:Value}
 (h:wpAnyH P md ops Q S fuel listed' a' w)
 (hr:(Region.ready md ops listed).contains i=true:=by kernel_rfl) (hi:ops[i]?=some oi:=by rfl) (hw:Region.wanted oi (yielded ops a.tmps)=true:=by rfl) (hf:Region.free md ops listed i=true:=by kernel_rfl) (hs:Region.noSelect ops=true:=by kernel_rfl)
 (hS:S w:=by assumption) (hy:∀w,S w->(execOp a.eval oi).run P w=.ok (.value v) w:=by
  (intro w hSw);(try dsimp only at hSw);go_simp;(first|done|with_reducible rfl|(rw[if_neg];(try simp only[oe,ByteArray.size_mk,List.size_toArray,oy,oI]);omega)))
 (hl:listed.setIfInBounds i true=listed':=by first|(simp only[hx1,hx2,hx3];done)|(simp only[hx1,hx2,hx3];rfl)|rfl)
 (ha:a.put oi.dst v=a':=by first|(simp only[Act.put,hx1,hx2,hx3,hx4,hx5,hx6];done)|(simp only[Act.put,hx1,hx2,hx3,hx4,hx5,hx6];rfl)|rfl)
 (hQ:∀c a w,Q (.panic c) (a.put oi.dst v) w->Q (.panic c) a w:=by intro _ _ _ h;exact h):wpAnyH P md ops Q S (fuel+1) listed a w :=
 ly1 hr hi hw hf hs hQ hy hS (by rw[hl,ha];exact h)
theorem hxt{P:Program}{ops:Array Oper}{Q:Exit->Act->World->Prop}{md:Region.Mode}{S:World->Prop}{fuel:Nat}{listed:Array Bool}{a:Act}{w:World}(i:Nat){oi:Oper}
 (hr:Region.ready md ops listed=[i]:=by kernel_rfl) (hi:ops[i]?=some oi:=by rfl) (hw:Region.wanted oi (yielded ops a.tmps)=true:=by rfl)
 (h:∀K':Act->World->Prop,Shut (∀a w,S w->(S w->wpAnyH P md ops Q S fuel (listed.setIfInBounds i true) a w)->K' a w)->Oper.wp P oi a w K' Q):wpAnyH P md ops Q S (fuel+1) listed a w :=
 lp0 hr hi hw h
theorem hxo{P:Program}{ops:Array Oper}{Q:Exit->Act->World->Prop}{md:Region.Mode}{S:World->Prop}{fuel:Nat}{listed listed':Array Bool}{a a':Act}{w:World}{K:Act->World->Prop}
 (hK:Shut (∀a w,S w->(S w->wpAnyH P md ops Q S fuel listed a w)->K a w)) (hS:S w) (h:S w->wpAnyH P md ops Q S fuel listed' a' w)
 (hl:listed=listed':=by first|(simp only[hx1,hx2,hx3];done)|(simp only[hx1,hx2,hx3];rfl)|rfl)
 (ha:a=a':=by first|(simp only[Act.put,hx1,hx2,hx3,hx4,hx5,hx6];done)|(simp only[Act.put,hx1,hx2,hx3,hx4,hx5,hx6];rfl)|rfl):K a w:=hK.out _ _ hS (fun q=>by rw[hl,ha];exact h q)
theorem hxr{P:Program}{ops:Array Oper}{Q:Exit->Act->World->Prop}{md:Region.Mode}{S:World->Prop}{fuel:Nat}{listed:Array Bool}{a:Act}{w:World}(i j:Nat){oi oj:Oper}
 (h1:∀K':Act->World->Prop,Shut (∀a w,S w->(S w->wpAnyH P md ops Q S fuel (listed.setIfInBounds i true) a w)->K' a w)->Oper.wp P oi a w K' Q)
 (h2:∀K':Act->World->Prop,Shut (∀a w,S w->(S w->wpAnyH P md ops Q S fuel (listed.setIfInBounds j true) a w)->K' a w)->Oper.wp P oj a w K' Q)
 (hr:Region.ready md ops listed=[i,j]:=by kernel_rfl) (hi:ops[i]?=some oi:=by rfl) (hj:ops[j]?=some oj:=by rfl) (hwi:Region.wanted oi (yielded ops a.tmps)=true:=by rfl) (hwj:Region.wanted oj (yielded ops a.tmps)=true:=by rfl):wpAnyH P md ops Q S (fuel+1) listed a w :=
 wpAnyH_ready hr zm (AllReadyH.cons hi (fun K hK=>by rw[if_pos hwi];exact h1 K hK) (AllReadyH.cons hj (fun K hK=>by rw[if_pos hwj];exact h2 K hK) AllReadyH.nil))
def pkI(L:LI)(x:Int):Nat->Nat
 |0=>0
 |k+1=>if x<nth L k then pkI L x k else k+1
theorem j12(L:LI)(x:Int):∀k,pkI L x k<=k
 |0=>oc _
 |k+1=>by
  unfold pkI
  split
  . have:=j12 L x k;omega
  . exact oc _
theorem jx9{L:LI}{x:Int}(h:x<nth L k):pkI L x (k+1)=pkI L x k:=by
 conv=>lhs;unfold pkI
 rw[if_pos h]
def bc0(L:LI)(x:Int):LI:=L.take (pkI L x L.length)++[x]++L.drop (pkI L x L.length)
def b87(x:LI):LI:=x.foldl bc0 []
theorem l74(L:LI)(x:Int):(bc0 L x).length=L.length+1:=by
 unfold bc0;have:=j12 L x L.length;simp;omega
theorem di0(s:LI)(x:Int):b87 (s++[x])=bc0 (b87 s) x:=by unfold b87;rw[oH];rfl
theorem cw9(x:LI):∀k,k<=x.length->(b87 (x.take k)).length=k
 |0,_=>rfl
 |k+1,hk=>by
  rw[pa om,di0,l74,cw9 x k om]
theorem zz1{P:Prop}(h:P:=by refine hxo H (by exact⟨xup,X _ xup⟩) (fun d=>?_);clear H z;refine hxt 10 (h:=fun z H=>?_);(refine V5 (ops:=#[]) rfl (q9 slI rfl _ _ rfl w2 w2 _ _ A [x] (by first|exact b|exact b.ext ((er _).alloc _)) (Blk.ints1 (T:=3) zq1) xup q rfl rfl ?_));intro vD wD Y hD he;refine hxo H (by exact⟨xup,X _ xup⟩) (fun d=>?_);clear H z;refine hxt 14 (h:=fun z H=>?_);(refine V5 (ops:=#[]) rfl (q9 slI rfl _ _ rfl w2 w2 _ _ (A++[x]) r Y (Z.o _ xup) xup t rfl rfl ?_));intro vF wF f B hh;refine hxo H (by exact⟨xup,X _ xup⟩) (fun d=>?_);clear H z;refine hxn 15 ?_;refine wpAnyH_done (by kernel_rfl) ?_ _;obtain⟨aN,cN,rfl,G,n⟩:=MiP.of f B;go_wp2_with fail;go_roundw;exact⟨i+1,_,om,zg,N.o _ p.o,G.mono I,I.trans n⟩;exact zm1):P:=h
theorem j92(s:LI)(w:World)(hu:c8 w u s)(hl:s.length<=1000000):Calls Tryz.prog 114 #[u] w fun e w'=>∃v',e=.returned v'/\Own 3 w w' v' (b87 s)/\Ext w w':=by
 obtain⟨ah,cX,aX,rfl,ak,hX,hV⟩:=hu.op;have ae:=j2 (c:=cX) elI szI hX;have hH:Own 3 w (w.alloc (.cells #[] 3)) (.slice (some (aD w.heap.size 0)) 0 0) []:=l9 om (er w) [] rfl;have F:=(er w).alloc (.cells #[] 3);have Ha:=zh (fun i W (hi:i<s.length) (D:Ext w W)=>hV i W hi D);clear hX hV hu;go_in;go_wp2_with fail;go_loopw [3,4] (fun so si wr=>∃(i:Nat) (R:LI),i<=s.length/\si=vi i/\R=b87 (s.take i)/\Own 3 w wr so R/\Ext w wr) (fun _ si _=>s.length-(intOf si).toNat);exact⟨0,[],om,rfl,rfl,hH,F⟩
 clear hH F;rename World=>wq;obtain⟨i,L,hi,rfl,hL,O,hr⟩:=hrel;by_cases U:i<s.length
 . have aa:(i:Int)<(s.length:Int):=om;have hG:L.length=i:=(by rw[hL];exact cw9 s i om);have HX:=zh (fun W (D:Ext w W)=>Ha.o i W U D);have N:Hid (∀R,R=bc0 L (nth s i)->R=b87 (s.take (i+1))):=zh (fun R hT=>by
    rw[hT,hL,pa U,di0];simp[nth,List.getD,U])
   obtain⟨x,K⟩:=nq (nth s i);rw[<-K]at HX N;have HI:=zh (fun W (D:Ext wq W)=>O.ints.ext D);have ai:L.length<=1000000:=om;have al:=ae i;obtain⟨m,c,aL,rfl,aj,hI,hJ⟩:=O.ints.op;have am:L.length<=c:=by
    obtain⟨_,_,hv,hc,_⟩:=O.ints;simp only[Value.slice.injEq]at hv;omega
   have hM:=j2 (c:=c) elI szI hI;have Hl:=zh hJ;have Hb:=zh hG;have Hr:=zh O;clear K hL hI hJ hG O;have E:=er wq;go_wp2_with fail;go_loopw [5] (fun sk wi=>∃k:Nat,k<=L.length/\sk=vi k/\Hid (pkI L x L.length=pkI L x k)/\Ext wq wi) (fun sk _=>(intOf sk).toNat);exact⟨L.length,oc _,rfl,zh rfl,E⟩;case round =>
    clear E;obtain⟨k,V,rfl,HP,hb⟩:=hrel;have hz:=fun UU=>HX.o _ (hr.trans (hb.trans (c9 wr UU)));have ad:k=0\/(∃j,k=j+1/\x<nth L j)\/(∃j,k=j+1/\¬x<nth L j):=by
     by_cases hm:k=0
     . exact Or.inl hm
     . obtain⟨j,rfl⟩:∃j,k=j+1:=⟨k-1,om⟩;by_cases h:x<nth L j
       . exact Or.inr (Or.inl ⟨j,rfl,h⟩)
       . exact Or.inr (Or.inr ⟨j,rfl,h⟩)
    rcases ad with hm|⟨j,rfl,hN⟩|⟨j,hR,hU⟩
    . have p:Hid (L.take k++[x]++L.drop k=bc0 L x):=zh (by unfold bc0;rw[HP.o,hm];rfl);have hZ:¬(0:Int)<(k:Int):=om;have ag:¬0<k:=om;have M:=True.intro;clear hm;have E:=er wr;go_wp2_with fail;refine wl E ?_;(repeat(go_big_quiet_step(first|fail)));refine zd fun W E=>?_;rename World=>w2;have J:=hb.trans E;have I:=hr.trans J;clear E hz M;have hp:=fun W=>U6 (P:=Tryz.prog) elI szI m L.length c (k:Int) om om W;have hq:=fun W=>Y0 (P:=Tryz.prog) elI szI m L.length c (k:Int) om om W;have hn:=fun W=>T6 (P:=Tryz.prog) elI szI m L.length c (k:Int) om om W;have ht:=fun W=>S6 (P:=Tryz.prog) elI szI m L.length c (k:Int) om om W;rw[show((k:Int)).toNat=k by omega]at hp hq hn ht;have g:=zh (fun W (D:Ext w2 W)=>(HI.o W (J.trans D)).take (k:=k) om);have Z:=zh (fun W (D:Ext w2 W)=>(HI.o W (J.trans D)).drop (k:=k) om);have q:(L.take k).length+[x].length<=17592186044416:=(by rw[ol,oo];omega);have t:(L.take k++[x]).length+(L.drop k).length<=17592186044416:=(by rw[oh,ol,oo,pc];omega);obtain⟨A,hA⟩:=nq (L.take k);obtain⟨r,hB⟩:=nq (L.drop k);rw[<-hA]at g q t p;rw[<-hB]at Z t p;have X:=sh I HX.o;have E:=er w2;clear hA hB;go_wp2_with fail;refine wp_region_held_drew (S:=(fun W=>Ext w2 W/\W.cell? (aX i)=some (vi x))) (by kernel_rfl) (by exact⟨xup,X _ xup⟩) (fun d=>?_);refine hxn 1 ?_;refine hxn 2 ?_;refine hxn 3 ?_;refine hxn 5 ?_;refine hxn 6 ?_;refine hxn 7 ?_;refine hxn 8 ?_;refine hxn 11 ?_;refine hxn 12 ?_;refine hxn 13 ?_;refine hxr 0 9 (fun z H=>?_) (fun z H=>?_)
      . skip;go_simp;refine hxo H (by exact⟨xup,X _ xup⟩) (fun d=>?_);clear H z;refine hxr 4 9 (fun z H=>?_) (fun z H=>?_)
        . skip;(refine V5 (ops:=#[]) rfl (Q6 slI rfl _ _ rfl _ _ A rfl rfl bup (g.o _ xup) w2 (by first|exact oc _|(simp;done)|(simp;omega)) xup ?_));intro aC cC T C hg hEC;have hC:=og (a:=w2) xup hEC;have b:N7 3 w2 w2 T _ _:=Or.inr C;refine hxo H (by exact⟨xup,X _ xup⟩) (fun d=>?_);clear H z;refine hxt 9 (h:=fun z H=>?_);go_simp;exact zz1
        . skip;go_simp;refine hxo H (by exact⟨xup,X _ xup⟩) (fun d=>?_);clear H z;refine hxt 4 (h:=fun z H=>?_);(refine V5 (ops:=#[]) rfl (Q6 slI rfl _ _ rfl _ _ A rfl rfl bup (g.o _ xup) w2 (by first|exact oc _|(simp;done)|(simp;omega)) xup ?_));intro aC cC T C hg hEC;have hC:=og (a:=w2) xup hEC;have b:N7 3 w2 w2 T _ _:=Or.inr C;exact zz1
      . skip;go_simp;refine hxo H (by exact⟨xup,X _ xup⟩) (fun d=>?_);clear H z;refine hxt 0 (h:=fun z H=>?_);go_simp;refine hxo H (by exact⟨xup,X _ xup⟩) (fun d=>?_);clear H z;refine hxt 4 (h:=fun z H=>?_);(refine V5 (ops:=#[]) rfl (Q6 slI rfl _ _ rfl _ _ A rfl rfl bup (g.o _ xup) w2 (by first|exact oc _|(simp;done)|(simp;omega)) xup ?_));intro aC cC T C hg hEC;have hC:=og (a:=w2) xup hEC;have b:N7 3 w2 w2 T _ _:=Or.inr C;exact zz1
    . have ho:j<L.length:=om;have M:=fun UU=>Hl.o j _ ho (hb.trans (c9 wr UU));obtain⟨y,hY⟩:=nq (nth L j);simp only[<-hY]at M hN;have af:=hM j;have ab:IntKind.i64.wrap (((j+1:Nat):Int)-1)=(j:Int):=(by rw[show(((j+1:Nat):Int)-1)=(j:Int) by omega];exact oD _ om);have hP:(((j+1:Nat):Int)-1)=(j:Int):=om;have hZ:(0:Int)<((j+1:Nat):Int):=om;have Hn:Hid (pkI L x L.length=pkI L x j):=zh (by rw[HP.o,jx9 (by rw[<-hY];exact hN)]);clear hY;have E:=er wr;go_wp2_with fail;refine wl E ?_;(repeat(go_big_quiet_step(first|fail)));refine zd fun W E=>?_;rename World=>w2;have J:=hb.trans E;clear hz M;go_wp2_with fail;go_roundw;exact⟨j,om,zg,Hn,J⟩;(first|(simp[intOf];done)|(simp[intOf];omega))
    . have ho:j<L.length:=om;have M:=fun UU=>Hl.o j _ ho (hb.trans (c9 wr UU));have p:Hid (L.take k++[x]++L.drop k=bc0 L x):=zh (by
       have e:pkI L x L.length=k:=by
        rw[HP.o,hR];unfold pkI;rw[if_neg hU]
       unfold bc0;rw[e])
      obtain⟨y,hY⟩:=nq (nth L j);simp only[<-hY]at M hU;have hP:((k:Int)-1)=(j:Int):=om;have ab:IntKind.i64.wrap ((k:Int)-1)=(j:Int):=(by rw[hP];exact oD _ om);have hZ:(0:Int)<(k:Int):=om;have ag:0<k:=om;have af:=hM j;clear hY hR;have E:=er wr;go_wp2_with fail;refine wl E ?_;(repeat(go_big_quiet_step(first|fail)));refine zd fun W E=>?_;rename World=>w2;have J:=hb.trans E;have I:=hr.trans J;clear E hz M;have hp:=fun W=>U6 (P:=Tryz.prog) elI szI m L.length c (k:Int) om om W;have hq:=fun W=>Y0 (P:=Tryz.prog) elI szI m L.length c (k:Int) om om W;have hn:=fun W=>T6 (P:=Tryz.prog) elI szI m L.length c (k:Int) om om W;have ht:=fun W=>S6 (P:=Tryz.prog) elI szI m L.length c (k:Int) om om W;rw[show((k:Int)).toNat=k by omega]at hp hq hn ht;have g:=zh (fun W (D:Ext w2 W)=>(HI.o W (J.trans D)).take (k:=k) om);have Z:=zh (fun W (D:Ext w2 W)=>(HI.o W (J.trans D)).drop (k:=k) om);have q:(L.take k).length+[x].length<=17592186044416:=(by rw[ol,oo];omega);have t:(L.take k++[x]).length+(L.drop k).length<=17592186044416:=(by rw[oh,ol,oo,pc];omega);obtain⟨A,hA⟩:=nq (L.take k);obtain⟨r,hB⟩:=nq (L.drop k);rw[<-hA]at g q t p;rw[<-hB]at Z t p;have X:=sh I HX.o;have E:=er w2;clear hA hB;go_wp2_with fail;refine wp_region_held_drew (S:=(fun W=>Ext w2 W/\W.cell? (aX i)=some (vi x))) (by kernel_rfl) (by exact⟨xup,X _ xup⟩) (fun d=>?_);refine hxn 1 ?_;refine hxn 2 ?_;refine hxn 3 ?_;refine hxn 5 ?_;refine hxn 6 ?_;refine hxn 7 ?_;refine hxn 8 ?_;refine hxn 11 ?_;refine hxn 12 ?_;refine hxn 13 ?_;refine hxr 0 9 (fun z H=>?_) (fun z H=>?_)
      . skip;go_simp;refine hxo H (by exact⟨xup,X _ xup⟩) (fun d=>?_);clear H z;refine hxr 4 9 (fun z H=>?_) (fun z H=>?_)
        . skip;(refine V5 (ops:=#[]) rfl (Q6 slI rfl _ _ rfl _ _ A rfl rfl bup (g.o _ xup) w2 (by first|exact oc _|(simp;done)|(simp;omega)) xup ?_));intro aC cC T C hg hEC;have hC:=og (a:=w2) xup hEC;have b:N7 3 w2 w2 T _ _:=Or.inr C;refine hxo H (by exact⟨xup,X _ xup⟩) (fun d=>?_);clear H z;refine hxt 9 (h:=fun z H=>?_);go_simp;exact zz1
        . skip;go_simp;refine hxo H (by exact⟨xup,X _ xup⟩) (fun d=>?_);clear H z;refine hxt 4 (h:=fun z H=>?_);(refine V5 (ops:=#[]) rfl (Q6 slI rfl _ _ rfl _ _ A rfl rfl bup (g.o _ xup) w2 (by first|exact oc _|(simp;done)|(simp;omega)) xup ?_));intro aC cC T C hg hEC;have hC:=og (a:=w2) xup hEC;have b:N7 3 w2 w2 T _ _:=Or.inr C;exact zz1
      . skip;go_simp;refine hxo H (by exact⟨xup,X _ xup⟩) (fun d=>?_);clear H z;refine hxt 0 (h:=fun z H=>?_);go_simp;refine hxo H (by exact⟨xup,X _ xup⟩) (fun d=>?_);clear H z;refine hxt 4 (h:=fun z H=>?_);(refine V5 (ops:=#[]) rfl (Q6 slI rfl _ _ rfl _ _ A rfl rfl bup (g.o _ xup) w2 (by first|exact oc _|(simp;done)|(simp;omega)) xup ?_));intro aC cC T C hg hEC;have hC:=og (a:=w2) xup hEC;have b:N7 3 w2 w2 T _ _:=Or.inr C;exact zz1
 have aa:¬(i:Int)<(s.length:Int):=om;have ac:i=s.length:=om;subst ac;rw[oz]at hL;subst hL;go_wp2_with fail;go_ret;exact⟨_,rfl,O,hr⟩
end Go.Zz
