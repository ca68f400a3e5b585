/- Factorizations into atoms: plain. -/
import Derived.Test.YtjhoafjeopcheaaGreatGr28
import Derived.Test.YtjhoafjeopcheaaGreatGr18
set_option linter.all false
set_option maxHeartbeats 2000000
set_option maxRecDepth 100000
namespace Go.Zz
variable(C:LI)(T:LN)(x:Nat)(m:Value){R l:LI}{i0 n g k f i:Nat}{G W:World}{c s:Array Value}{u y:Value}{b:LN}{t:TypeId}{M:List Value}
def S0(R:LI)(a:LN):LI:=a.foldl (fun (T:LI) (x:Nat)=>N5 (x:Int) T) R
theorem js1{x:Int}(h:x∈R):(N5 x R).length+1=R.length:=by
 unfold N5;rw[qB,List.length_erase_of_mem (by simpa using h),qB];have:=List.length_pos_of_mem h;omega
theorem bs8:∀(a:LN) (R:LI),T0 R (b9 a)=true->(S0 R a).length+a.length=R.length
 |[],R,_=>rfl
 | x :: a,R,h=>by
  by_cases K:(x:Int)∈R
  . have r:T0 (N5 (x:Int) R) (b9 a)=true:=by
     rw[show b9 (x :: a)=(x:Int) :: b9 a from rfl,d06 K]at h;exact h
    have:=bs8 a _ r
    have:=js1 K
    show(S0 (N5 (x:Int) R) a).length+(a.length+1)=R.length
    omega
  . rw[show b9 (x :: a)=(x:Int) :: b9 a from rfl,de0 K]at h;cases h
theorem bg4:∀(a:LN) (R:LI),T0 R (b9 a)=true->∀y:Nat,(S0 R a).count (y:Int)+a.count y=R.count (y:Int)
 |[],R,_,y=>rfl
 | x :: a,R,h,y=>by
  by_cases K:(x:Int)∈R
  . have r:T0 (N5 (x:Int) R) (b9 a)=true:=by
     rw[show b9 (x :: a)=(x:Int) :: b9 a from rfl,d06 K]at h;exact h
    have e:=bg4 a _ r y
    rw[c09 _ _ _ K]at e
    show(S0 (N5 (x:Int) R) a).count (y:Int)+(x :: a).count y=R.count (y:Int)
    have T:0<R.count (x:Int):=List.count_pos_iff.2 K
    rw[qt]
    by_cases q:x=y
    . subst q;simp at e|-;omega
    . have f:¬(x:Int)=(y:Int):=by omega
      rw[if_neg f]at e
      simp[q];omega
  . rw[show b9 (x :: a)=(x:Int) :: b9 a from rfl,de0 K]at h;cases h
def U8(A:List (LN)):Nat->Nat->LI->LN
 |0,_,_=>[]
 |f+1,i0,R=>if R.length=0 then [0]else(List.range A.length).foldl (fun (o:LN) (i:Nat)=>if i<i0 then o else if T0 R (b9 (A.getD i []))then o++(U8 A f i (S0 R (A.getD i []))).map (· + 1)else o) []
def U9(A:List (LN))(f I:Nat)(R:LI)(k:Nat):LN:=(List.range k).foldl (fun (o:LN) (i:Nat)=>if i<I then o else if T0 R (b9 (A.getD i []))then o++(U8 A f i (S0 R (A.getD i []))).map (· + 1)else o) []
theorem bx8{A:List (LN)}(h:R.length=0):U8 A (f+1) i0 R=[0]:=by unfold U8;rw[if_pos h]
theorem bu7{A:List (LN)}(h:R.length≠0):U8 A (f+1) i0 R=U9 A f i0 R A.length:=by
 conv=>lhs;unfold U8
 rw[if_neg h];rfl
theorem b53(A:List (LN))(f i:Nat)(R:LI)(k:Nat):U9 A f i R (k+1)=(if k<i then U9 A f i R k else if T0 R (b9 (A.getD k []))then U9 A f i R k++(U8 A f k (S0 R (A.getD k []))).map (· + 1)else U9 A f i R k):=by
 unfold U9;rw[oW,oH];rfl
theorem b61(A:List (LN))(f i:Nat)(R:LI):∀k,k<=i->U9 A f i R k=[]
 |0,_=>rfl
 |k+1,hk=>by rw[b53,if_pos om,b61 A f i R k om]
theorem jf0{A:List (LN)}(h:T0 R (b9 (A.getD k []))=false):U9 A f i0 R (k+1)=U9 A f i0 R k:=by
 rw[b53,h];split<;>rfl
theorem du8{A:List (LN)}(V:i0<=k)(h:T0 R (b9 (A.getD k []))=true):U9 A f i0 R (k+1)=U9 A f i0 R k++(U8 A f k (S0 R (A.getD k []))).map (· + 1):=by
 rw[b53,if_neg om,if_pos h]
theorem cg4(A:List (LN))(f i:Nat)(R:LI)(k:Nat):∀d,(U9 A f i R k).length<=(U9 A f i R (k+d)).length
 |0=>oc _
 | d+1=>by
  refine nle (cg4 A f i R k d) ?_
  rw[<-qb,b53]
  split
  . exact oc _
  . split
    . rw[oh];omega
    . exact oc _
theorem cn9{A:List (LN)}(h:k<A.length):A.getD k []∈A:=by
 exact zz128
theorem dg8(A:List (LN))(H:∀a∈A,1<=a.length):∀f i R,∀x∈U8 A f i R,x<=R.length:=by
 intro f;induction f with
 |zero=>intro i R x K;simp[U8]at K
 | succ f ih =>
  intro i R x K;by_cases h:R.length=0
  . rw[bx8 h,oE]at K;omega
  . rw[bu7 h]at K;have e:∀k,k<=A.length->∀x∈U9 A f i R k,x<=R.length:=by
     intro k;induction k with
     |zero=>intro _ x K;rw[b61 A f i R 0 om]at K;cases K
     | succ k ihk =>
      intro V x K;rw[b53]at K;split at K
      . exact ihk om x K
      . split at K
        . next hs =>
           rw[oP,pp]at K;rcases K with K|⟨y,Y,rfl⟩
           . exact ihk om x K
           . have:=ih _ _ y Y;have T:=bs8 _ _ hs;have b:=H _ (cn9 (by omega:k<A.length));omega
        . exact ihk om x K
    exact e A.length (oc _) x K
def tkS(C:LI)(k:Int)(a:LN):LI:=a.foldl (fun (C:LI) (x:Nat)=>C.set x (nth C x-k)) C
def tkB(C:LI)(k:Int)(a:LN):Bool:=(List.range a.length).all fun j=>decide (0<=nth (tkS C k (a.take (j+1))) (d5 a j))
theorem ld6(k:Int)(a:LN)(x:Nat):tkS C k (a++[x])=(tkS C k a).set x (nth (tkS C k a) x-k):=by unfold tkS;rw[oH];rfl
theorem bs9(k:Int):∀a:LN,(tkS C k a).length=C.length:=by
 intro a;unfold tkS;induction a generalizing C with
 |nil=>rfl
 |cons x a ih=>rw[oR,ih,ql]
theorem cy5{C:LI}{x:Nat}{v:Int}(K:x<C.length)(y:Nat):nth (C.set x v) y=if x=y then v else nth C y:=by
 unfold nth;rw[List.getD_eq_getElem?_getD,List.getD_eq_getElem?_getD,List.getElem?_set];by_cases e:x=y;subst e;simp[K];simp[e]
theorem bl6(k:Int)(a:LN)(h:∀x∈a,x<C.length)(y:Nat):nth (tkS C k a) y=nth C y-k*(a.count y:Nat):=by
 unfold tkS;induction a generalizing C with
 |nil=>simp
 |cons x a ih =>
  rw[oR,ih _ (fun z H=>by rw[ql];exact h z (by simp[H])),cy5 (h x zm),qt];by_cases e:x=y
  . subst e;simp only[if_true,beq_self_eq_true];rw[Int.natCast_add,Int.mul_add];simp;omega
  . have:(x == y)=false:=(by simpa using e);rw[if_neg e,this];simp
theorem ld5(a:LN)(h:∀x∈a,x<C.length):tkS (tkS C 1 a) (-1) a=C:=by
 apply cn3;rw[bs9,bs9];intro i J;rw[bl6 _ _ _ (fun x K=>by rw[bs9];exact h x K),bl6 _ _ _ h];omega
theorem dm3(a:LN)(x j:Nat):(a.take j).count x<=a.count x:=List.Sublist.count_le x (List.take_sublist j a)
theorem lp3{C:LI}{a:LN}(A:∀x∈a,x<C.length):tkB C 1 a=true↔∀x∈a,(a.count x:Int)<=nth C x:=by
 unfold tkB;simp only[oC,ou,decide_eq_true_eq];constructor
 . intro u x K;have k:∀j,j<=a.length->(a.take j).count x=0\/((a.take j).count x:Int)<=nth C x:=by
    intro j;induction j with
    |zero=>intro _;left;simp
    |succ j ih =>
     intro J;have b:=u j om;rw[bl6 _ _ _ (fun z H=>A z (pJ H))]at b;have e:a.take (j+1)=a.take j++[d5 a j]:=K9 a j om;by_cases q:d5 a j=x
     . right;rw[q]at b;omega
     . rw[e,List.count_append,List.count_singleton];have:(d5 a j == x)=false:=(by simpa using q);rw[this];simpa using ih om
   rcases k a.length (oc _)with h|h
   rw[oz]at h;have:=List.count_pos_iff.2 K;omega
   rwa [oz]at h
 intro u j J;rw[bl6 _ _ _ (fun z H=>A z (pJ H))];have U:=u _ (m7 J);have r:=dm3 a (d5 a j) (j+1);omega
def bm0(n:Nat)(C:LI)(R:LI):Prop:=C.length=n/\∀x,x<n->nth C x=(R.count (x:Int):Nat)
theorem bm1(a:LN)(x:Nat):(b9 a).count (x:Int)=a.count x:=by
 unfold b9;induction a with
 |nil=>rfl
 |cons y a ih =>
  rw[ph,qt,qt,ih];congr 1;by_cases e:y=x
  . subst e;simp
  . have:¬(y:Int)=(x:Int):=om;simp[e,this]
theorem lo5{a:LN}:T0 R (b9 a)=true↔∀x∈a,a.count x<=R.count (x:Int):=by
 rw[j51];constructor;intro H x _;rw[<-bm1];exact H _;intro H x;by_cases K:x∈b9 a;obtain⟨y,h,rfl⟩:=pp.1 K;rw[bm1];exact H y h;rw[List.count_eq_zero.2 K];exact oX _
theorem ly4{C:LI}{a:LN}(h:bm0 n C R)(H:∀x∈a,x<n):tkB C 1 a=T0 R (b9 a):=by
 obtain⟨U,r⟩:=h;rw[oA,lp3 (by rw[U];exact H),lo5];constructor;intro u x K;have:=u x K;rw[r x (H x K)]at this;omega;intro u x K;have:=u x K;rw[r x (H x K)];omega
theorem ly3{C:LI}{a:LN}(h:bm0 n C R)(A:∀x∈a,x<n)(S:T0 R (b9 a)=true):bm0 n (tkS C 1 a) (S0 R a):=by
 obtain⟨H,r⟩:=h;refine⟨by rw[bs9];exact H,fun x K=>?_⟩;rw[bl6 _ _ _ (by rw[H];exact A),r x K];have:=bg4 a R S x;omega
def V3(T:LN):LN:=M5 T T.length
theorem j14(L:LN)(n:Nat):∀k,k<=L.length->(∀j,pkN L n k<=j->j<k->n<d5 L j)/\(0<pkN L n k->¬n<d5 L (pkN L n k-1))
 |0,_=>⟨fun j H r=>om,fun h=>by simp[pkN]at h⟩
 | k+1,hk=>by
  obtain⟨H,r⟩:=j14 L n k om
  by_cases h:n<d5 L k
  . rw[c98 h]
    refine⟨fun j p P=>?_,r⟩
    by_cases q:j=k
    . rw[q];exact h
    . exact H j p om
  . rw[bv5 h]
    exact⟨fun j p P=>om,fun _=>by simpa using h⟩
theorem lb1{L:LN}(h:L.Pairwise (· < ·)):(Q5 L n).Pairwise (· < ·):=by
 unfold Q5;split;exact h;next hne =>
  obtain⟨U,r⟩:=j14 L n L.length (oc _);have E:=c49 L n L.length;generalize pkN L n L.length=k at U r E hne;have I:∀y∈L.drop k,n<y:=by
   intro y H;obtain⟨i,J,rfl⟩:=px H;rw[pc]at J;have:=U (k+i) om om;simpa[d5,List.getD,show k+i<L.length by omega]using this
  have l:∀y∈L.take k,y<n:=by
   intro y H;obtain⟨i,J,rfl⟩:=px H;rw[ol]at J;have q:=r om;have d:d5 L (k-1)<n:=by
    rcases qq (d5 L (k-1)) n with f|f
    . exact f
    . exact absurd ⟨om,om⟩ hne
   by_cases e:i=k-1
   . subst e;simpa[d5,List.getD,show k-1<L.length by omega]using d
   . have j:=qg.1 h i (k-1) om om om;simp only[List.getElem_take];have m:d5 L (k-1)=L[k-1]'om:=(by simp[d5,List.getD,show k-1<L.length by omega]);omega
  unfold b68;rw[qM];refine⟨h.sublist (List.take_sublist _ _),?_,?_⟩
  . rw[qj];exact⟨I,h.sublist (List.drop_sublist _ _)⟩
  . intro a A b C;rw[pM]at C;rcases C with rfl|C
    . exact l a A
    . have:=l a A;have:=I b C;omega
theorem br1(T:LN):∀k,k<=T.length->(M5 T k).Pairwise (· < ·)/\∀x,x∈M5 T k↔x∈T.take k
 |0,_=>by simp[M5]
 |k+1,hk=>by
  obtain⟨h,r⟩:=br1 T k om
  refine⟨lb1 h,fun x=>?_⟩
  show x∈Q5 (M5 T k) (d5 T k)↔_
  rw[cy1,K9 T k om,oP,oE,r x]
  exact Or.comm
theorem dy7:(V3 T).Pairwise (· < ·):=(br1 T _ (oc _)).1
theorem cx5:x∈V3 T↔x∈T:=by
 have:=(br1 T _ (oc _)).2 x;rwa [oz]at this
theorem jc3:∀{A B:LI},(∀x,x∈A↔x∈B)->A.Pairwise (· < ·)->B.Pairwise (· < ·)->A=B
 |[],[],_,_,_=>rfl
 |[],b :: B,h,_,_=>by have:=(h b).2 zm;cases this
 |a :: A,[],h,_,_=>by have:=(h a).1 zm;cases this
 | a :: A,b :: B,h,hA,hB=>by
  rw[qj]at hA hB
  have e:a=b:=by
   have H:=(h a).1 zm;have r:=(h b).2 zm;rw[pM]at H r;rcases H with H|H
   . exact H
   . rcases r with r|r
     . exact r.symm
     . have:=hA.1 b r;have:=hB.1 a H;omega
  subst e
  congr 1
  refine jc3 (fun x=>?_) hA.2 hB.2
  have:=h x
  rw[pM,pM]at this
  constructor
  . intro K
    rcases this.1 (Or.inr K)with e|e
    . subst e;have:=hA.1 x K;omega
    . exact e
  . intro K
    rcases this.2 (Or.inr K)with e|e
    . subst e;have:=hB.1 x K;omega
    . exact e
def co1(A:List (LN)):Bool:=decide (A.getD 0 []=[0])&&(decide (1<=A.length)&&(A.drop 1).all fun a=>decide (2<=a.length)&&a.all fun x=>decide (x≠0))
theorem hc0:co1 (atS [])=true:=by decide +kernel
theorem hc1:((List.range 8).all fun a=>decide (a<2) || co1 (atS [(a:Int)]))=true:=by decide +kernel
theorem hc2:((List.range 8).all fun a=>decide (a<2) || (List.range 8).all fun b=>decide (b<2) || (decide (7<a*b) || co1 (atS [(a:Int),(b:Int)])))=true:=by decide +kernel
theorem cw8(h:d7 l=true)(g:ord l<=7):co1 (atS l)=true:=by
 have C:=bl0 h;obtain⟨T,n,p⟩:=(W9 l).1 h;have p:C5 l<=7:=om;clear C;match l,T,n,p with
 |[],_,_,_=>exact hc0
 |[a],_,n,p =>
  have H:2<=a/\a<=24:=n 0 zm;have p:a<=7:=by simpa[C5]using p
  have:=b99 (rgS hc1 (a:=a.toNat) om) om;rwa [show((a.toNat:Nat):Int)=a by omega]at this
 |[a,b],_,n,p =>
  have H:2<=a/\a<=24:=n 0 zm;have U:2<=b/\b<=24:=n 1 zm;have P:a*b<=7:=by simpa[C5]using p
  have e:((a.toNat*b.toNat:Nat):Int)=a*b:=by rw[oO];congr 1<;>omega
  have q:a*2<=a*b:=pN U.1 om;have f:2*b<=a*b:=pL H.1 om;have:=b99 (b99 (rgS (b99 (rgS hc2 (a:=a.toNat) om) om) (a:=b.toNat) om) om) om;rwa [show((a.toNat:Nat):Int)=a by omega,show((b.toNat:Nat):Int)=b by omega]at this
 |[a,b,c],_,n,p =>
  have H:2<=a/\a<=24:=n 0 zm;have U:2<=b/\b<=24:=n 1 zm;have r:2<=c/\c<=24:=n 2 zm;have P:a*b*c<=7:=by rw[Int.mul_assoc];simpa[C5]using p
  have d:2*2<=a*b:=qC H.1 U.1 om om;have q:a*b*2<=a*b*c:=pN r.1 om;omega
 |_ :: _ :: _ :: _ :: _,T,_,_=>simp at T
structure HdA(A:List (LN)):Prop where
 one:1<=A.length
 first:A.getD 0 []=[0]
 more:∀k,1<=k->k<A.length->2<=(A.getD k []).length/\(A.getD k []).count 0=0
theorem dx2{A:List (LN)}(h:co1 A=true):HdA A:=by
 unfold co1 at h;rw[ow,ow,decide_eq_true_eq,decide_eq_true_eq,oC]at h;refine⟨h.2.1,h.1,fun k U r=>?_⟩;have m:A.getD k []∈A.drop 1:=by
  rw[List.getD_eq_getElem?_getD,List.getElem?_eq_getElem r,Option.getD_some];refine qV.2 ⟨k-1,by rw[pc];omega,?_⟩;rw[List.getElem_drop];congr 1;omega
 have:=h.2.2 _ m;rw[ow,decide_eq_true_eq,oC]at this;refine⟨this.1,List.count_eq_zero.2 fun H=>?_⟩;have:=this.2 0 H;simp at this
theorem l56{A:List (LN)}(h:HdA A):∀f i R,1<=i->0<R.count (0:Int)->U8 A f i R=[]:=by
 intro f;induction f with
 |zero=>intro i R _ _;rfl
 | succ f ih =>
  intro i R H S;have n:R.length≠0:=by have:=qu (a:=(0:Int)) (l:=R);omega
  rw[bu7 n];have e:∀k,k<=A.length->U9 A f i R k=[]:=by
   intro k;induction k with
   |zero=>intro _;exact b61 A f i R 0 om
   | succ k ihk =>
    intro V;rw[b53,ihk om];split
    . rfl
    . split
      . next hlt hs =>
         have r:=h.more k om om;have T:(S0 R (A.getD k [])).count (0:Int)+(A.getD k []).count 0=R.count (0:Int):=bg4 _ _ hs 0;rw[r.2]at T;rw[ih k _ om om];rfl
      . rfl
  exact e A.length (oc _)
theorem ls2{A:List (LN)}(H:HdA A)(m:A.length<=48):∀f i R,(U8 A f i R).length<=48^((R.length-R.count (0:Int))/2):=by
 intro f;induction f with
 |zero=>intro i R;simp[U8]
 | succ f ih =>
  intro i R;by_cases h:R.length=0
  . rw[bx8 h,h];simp
  rw[bu7 h];have C:=qu (a:=(0:Int)) (l:=R);by_cases S:0<R.count (0:Int)
  . have y:∀k,k<=A.length->(U9 A f i R k).length<=if k=0 then 0 else 48^((R.length-R.count (0:Int))/2):=by
     intro k;induction k with
     |zero=>intro _;rw[b61 A f i R 0 om];simp
     | succ k ihk =>
      intro V;have J:=ihk om;rw[if_neg om];have I:(U9 A f i R k).length<=48^((R.length-R.count (0:Int))/2):=by
       split at J
       . exact nle J (oX _)
       . exact J
      rw[b53];split
      . exact I
      . split
        . next hlt hs =>
           rw[oh,oG];by_cases K:k=0
           . subst K;rw[if_pos rfl]at J;have T:(S0 R (A.getD 0 [])).count (0:Int)+(A.getD 0 []).count 0=R.count (0:Int):=bg4 _ _ hs 0;have b:=bs8 _ _ hs;rw[H.first]at T b|-;have c:=ih 0 (S0 R [0]);have W:(S0 R [0]).count (0:Int)+1=R.count (0:Int):=(by simpa using T);have E:(S0 R [0]).length+1=R.length:=(by simpa using b);rw[show(S0 R [0]).length-(S0 R [0]).count (0:Int)=R.length-R.count (0:Int) by omega]at c;omega
           . have r:=H.more k om om;have T:(S0 R (A.getD k [])).count (0:Int)+(A.getD k []).count 0=R.count (0:Int):=bg4 _ _ hs 0;rw[r.2]at T;rw[l56 H f k _ om om];simpa using I
        . exact I
    have:=y A.length (oc _)
    have U:=H.one
    rw[if_neg om]at this
    exact this
  . have z:R.count (0:Int)=0:=om;rw[z,Nat.sub_zero];have y:∀k,k<=A.length->(U9 A f i R k).length<=k*48^(R.length/2-1)/\(R.length<2->U9 A f i R k=[]):=by
     intro k;induction k with
     |zero=>intro _;rw[b61 A f i R 0 om];simp
     | succ k ihk =>
      intro V;obtain⟨J,I⟩:=ihk om;have p:0<48^(R.length/2-1):=Nat.pow_pos (by decide);rw[b53,Nat.succ_mul];split
      . exact⟨om,I⟩
      . split
        . next hlt hs =>
           by_cases K:k=0
           . subst K;have T:(S0 R (A.getD 0 [])).count (0:Int)+(A.getD 0 []).count 0=R.count (0:Int):=bg4 _ _ hs 0;rw[H.first]at T;have:(S0 R [0]).count (0:Int)+1=R.count (0:Int):=(by simpa using T);omega
           . have r:=H.more k om om;have b:=bs8 _ _ hs;have c:=ih k (S0 R (A.getD k []));have g:(S0 R (A.getD k [])).length<=R.length-2:=om;have j:48^(((S0 R (A.getD k [])).length-(S0 R (A.getD k [])).count (0:Int))/2)<=48^(R.length/2-1):=ot (by decide) om;rw[oh,oG];refine⟨om,fun q=>om⟩
        . exact⟨om,I⟩
    have:=y A.length (oc _);by_cases q:R.length<2
    . rw[this.2 q];simp
    . have e:R.length/2=(R.length/2-1)+1:=om;rw[e,pU,qE];exact nle (by simpa using this.1) (qr _ m)
theorem dv4(h:d7 l=true)(H:ord l<=7)(f i:Nat)(r:R.length<=10):(U8 (atS l) f i R).length<=254803968:=by
 refine nle (ls2 (dx2 (cw8 h H)) (by rw[br5];exact ce8 h H) f i R) ?_;exact nle (ot (by decide) (show(R.length-R.count (0:Int))/2<=5 by omega)) (by decide)
open Go.RowKit Go.Proofs
structure SlT(TS TE:TypeId):Prop where
 info:(Tryz.prog.info? TE).map (fun i=>(i.zero,i.size,i.bytes))=some (some (.slice none 0 0),1,24)
 und:Tryz.prog.underlying TS=some (.slice TE)
theorem slV:SlT 92 40:=⟨jl7,j71⟩
theorem slW:SlT 116 92:=⟨by kernel_rfl,by kernel_rfl⟩
theorem elW:Tryz.prog.underlying 116=some (.slice (Tryz.prog.elem 116)):=by kernel_rfl
theorem szW:∀w,(Go.sizeOf (Tryz.prog.elem 116)).run Tryz.prog w=.ok 1 w:=fun w=>by kernel_rfl
def E0(TE:TypeId)(w0 w:World)(v:Value)(L:List Value):Prop:=(∀u∈L,u.oneCell'=true)/\w.ownsRow w0.heap.size TE 1 v L.length L/\L.length<=1000000000000
section
variable {TS TE:TypeId} {w0 w w':World} {v:Value} {L:List Value}
theorem E0.blk(h:E0 TE w0 w v L):∀k,v.ownBlock=some k->w0.heap.size<=k/\k<w.heap.size:=h.2.1.lt
theorem E0.ext(h:E0 TE w0 w v L)(E:Ext w w'):E0 TE w0 w' v L:=by
 obtain⟨r,T,H⟩:=h;refine⟨r,T.kept (row:=none) ⟨E.os,E.tape,E.output,E.size,fun k V _=>E.block k V⟩ ?_,H⟩;cases C:v.ownBlock<;>simp
theorem E0.mono(h:E0 TE G w v L)(E:Ext w0 G):E0 TE w0 w v L:=⟨h.1,X7 h.2.1 E.size,h.2.2⟩
theorem by9(E:Ext w0 w):E0 TE w0 (w.alloc (.cells #[] TE)) (.slice (some (aD w.heap.size 0)) 0 0) []:=by
 have:=qk (base:=w0.heap.size) (e:=TE) (size:=1) w #[] 0 E.size (by unfold maxLen;omega) zm;exact⟨zm,by simpa using this,zm⟩
theorem j03(E:Ext w0 w)(h:y.oneCell'=true):E0 TE w0 (w.alloc (.cells #[y] TE)) (.slice (some (aD w.heap.size 0)) 1 1) [y]:=by
 have:=qk (base:=w0.heap.size) (e:=TE) (size:=1) w #[y] 1 E.size (by unfold maxLen;omega) zm;exact⟨by simpa using h,by simpa using this,zm⟩
theorem E0.shape(h:E0 TE w0 w v L):∃(A:Option Addr) (c:Nat),v=.slice A L.length c/\L.length<=c/\(∀i,i<L.length->∃g,A=some (aD g 0)/\w.cell? (aD g i)=some (L.getD i (.slice none 0 0))):=by
 obtain⟨-,U,-⟩:=h;have r:=U.2;rcases r with⟨rfl,l⟩|⟨g,cap,u,rfl,H,b,C,R⟩;exact⟨none,0,by rw[l],om,om⟩;refine⟨some (aD g 0),cap,rfl,C,fun i J=>⟨g,rfl,?_⟩⟩;rw[World.ownsRow.cellAt U i om];simp[J]
theorem E0.not{T:TypeId}(h:E0 TE w0 w v L)(B:Blk w g T c)(t:T≠TE):v.ownBlock≠some g:=fun e=>by
 obtain⟨-,U,-⟩:=h
 rcases U.2 with⟨rfl,_⟩|⟨G,cap,u,rfl,_,H,_⟩
 . cases e
 . simp[Value.ownBlock]at e
   subst e
   have b:w.heap[G]?=some (.cells c T (0,0)):=B
   rw[b]at H
   simp at H
   exact t H.2
theorem E0.set_ne(h:E0 TE w0 w v L){b:Nat}(p:v.ownBlock≠some b)(u:Value):E0 TE w0 (w.setCell (aD b i) u) v L:=by
 obtain⟨r,T,c⟩:=h;refine⟨r,⟨T.1,?_⟩,c⟩;rcases T.2 with h|⟨g,cap,C,rfl,H,d,rest⟩;exact Or.inl h;refine Or.inr ⟨g,cap,C,rfl,H,?_,rest⟩;simp[Value.ownBlock]at p;rw[pQ _ _ _ _ (fun e=>p e)];exact d
theorem ct2(T:SlT TS TE)(t:TypeId)(m c:Nat)(d:Addr)(M:List Value)(O:E0 TE w0 w v L)(Y:M.length=m)(U:∀u∈M,u.oneCell'=true)(W:∀j x,M[j]?=some x->w.cell? (d.add j)=some x)(E:Ext w0 w)(p:L.length+m<=1000000000000):∃S w',(Builtin.append_ #[TS,TS] t #[v,.slice (some d) m c]).run Tryz.prog w=.ok S w'/\E0 TE w0 w' S (L++M)/\w.grownBy w' v.ownBlock/\Nw v.ownBlock w S.ownBlock/\Ext w0 w':=by
 obtain⟨i,J,Z,s,b⟩:=info_parts T.info;obtain⟨X,l,-⟩:=O;have ha:=l.lt;have y:∀u∈L++M,u.oneCell'=true:=fun u h=>by
  rw[oP]at h
  rcases h with h|h
  exact X u h
  exact U u h
 have N:(L++M).length=L.length+m:=by rw[oh,Y]
 have r:=l.2;rcases r with⟨rfl,q⟩|⟨g,cap,D,rfl,H,C,I,G,F,K⟩
 have A:L=[]:=oF q;subst A;obtain⟨S,w',n,e,R,-⟩:=run_append_own (P:=Tryz.prog) w w.heap.size TS t TE i (.slice none 0 0) 1 24 T.und J Z s b rfl om (.slice none 0 0) 0 [] (World.ownsRow_nil _ _ _ _) d m c M om W U (by simp at p;unfold maxLen;omega) (by simp at p;omega) (oc _);have z:=e.lt;exact⟨S,w',n,⟨y,by rw[N];exact X7 (by simpa using e) E.size,om⟩,R,Or.inr fun k V=>(z k V).1,E.grown R fun k V=>by simp[Value.ownBlock]at V⟩;by_cases f:L.length+m<=cap;obtain⟨w',n,e,R⟩:=run_append_fits (P:=Tryz.prog) w w0.heap.size TS t TE i 1 T.und J s g L.length cap _ l d m c M om W U f;exact⟨_,w',n,⟨y,by rw[N];exact e,om⟩,R,Or.inl rfl,E.grown R fun k V=>by cases V;exact H⟩
 obtain⟨S,w',n,e,R⟩:=run_append_arg_grows (P:=Tryz.prog) (w:=w) TS t TE i (.slice none 0 0) 1 24 T.und J Z s b rfl om (aD g 0) L.length cap L om (by
  intro j u h;have B:j<L.length:=(List.getElem?_eq_some_iff.1 h).1;rw[pe,oM,World.ownsRow.cellAt l j om];exact h) d m c M om W om (by unfold maxLen;omega) om
 have z:=e.lt;exact⟨S,w',n,⟨y,by rw[N];exact X7 e E.size,om⟩,⟨R.os,R.tape,R.output,R.size,fun k V _=>R.block k V zm⟩,Or.inr fun k V=>(z k V).1,E.grown R zm⟩
end
section
variable {ops:Array Oper} {rest:List Oper} {o:Oper} {a:Act} {Q:Exit->Act->World->Prop} {TS TE:TypeId}
theorem b80(t:SlT TS TE)(H:o.guard=none)(s x:Operand)(p:o.op=Op.call { callee:=Callee.builtin Builtin.append,args:=#[s,x],argTypes:=#[TS,TS] })
 (w0 W:World) (v:Value) (L:List Value) (y:Value) (Y:y.oneCell'=true) (O:E0 TE w0 W v L) (E:Ext w0 W) (N:L.length<1000000000000) (S:a.eval s=v) (K:a.eval x=.slice (some (aD W.heap.size 0)) 1 1)
 (U:∀P w',E0 TE w0 w' P (L++[y])->W.grownBy w' v.ownBlock->Nw v.ownBlock W P.ownBlock->wpList Tryz.prog ops Q rest (a.put o.dst P) w') :
 wpList Tryz.prog ops Q (o :: rest) a (W.alloc (.cells #[y] TE)):=by
 have e:Ext W (W.alloc (.cells #[y] TE)):=(er W).alloc _;obtain⟨P,w',u,h,r,T,-⟩:=ct2 t o.type 1 1 (aD W.heap.size 0) [y] (O.ext e) rfl (by simpa using Y) (cell_one_new _ _ _) (E.alloc _) om;refine wpList_plain H fun z i=>?_;unfold Oper.wp;simp[execOp,p,resolve,invoke,builtin,S,K,u,Result.andThen];refine i _ _ (U P w' h ⟨r.os.trans e.os,r.tape.trans e.tape,r.output.trans e.output,nle e.size r.size,fun k V n=>?_⟩ ?_);rw[r.block k (nlt V e.size) n];exact e.block k V;rcases T with T|T;exact Or.inl T;exact Or.inr fun k V=>nle e.size (T k V)
def Y3(w:World)(u:Value)(M:List Value):Prop:=(u=.slice none 0 0/\M=[])\/∃d c,u=.slice (some d) M.length c/\∀j x,M[j]?=some x->w.cell? (d.add j)=some x
theorem E0.cells{w0 w:World}{v:Value}{L:List Value}(h:E0 TE w0 w v L):Y3 w v L:=by
 obtain⟨-,U,-⟩:=h;have r:=U.2;rcases r with⟨rfl,l⟩|⟨g,cap,u,rfl,H,b,c,R⟩;exact Or.inl ⟨rfl,oF l⟩;refine Or.inr ⟨(aD g 0),cap,rfl,fun j x K=>?_⟩;have J:j<L.length:=(List.getElem?_eq_some_iff.1 K).1;rw[pe,oM,World.ownsRow.cellAt U j om];exact K
theorem cj8(h:SlT TS TE)(t:TypeId){w0 w:World}{v:Value}{L:List Value}(O:E0 TE w0 w v L)(I:Y3 w u M)(m:∀u∈M,u.oneCell'=true)(E:Ext w0 w)(n:L.length+M.length<=1000000000000):∃V w',(Builtin.append_ #[TS,TS] t #[v,u]).run Tryz.prog w=.ok V w'/\E0 TE w0 w' V (L++M)/\w.grownBy w' v.ownBlock/\Nw v.ownBlock w V.ownBlock/\Ext w0 w':=by
 rcases I with⟨rfl,rfl⟩|⟨d,c,rfl,H⟩;obtain⟨i,J,z,s,b⟩:=info_parts h.info;have r:=run_append_owned_none (P:=Tryz.prog) w w0.heap.size TS t TE i 1 h.und J v L.length L O.2.1;exact⟨v,w,r,by simpa using O,⟨rfl,rfl,rfl,oc _,fun _ _ _=>rfl⟩,Or.inl rfl,E⟩
 exact ct2 h t M.length c d M O rfl m H E n
theorem jb6(t:SlT TS TE)(H:o.guard=none)(s x:Operand)(p:o.op=Op.call { callee:=Callee.builtin Builtin.append,args:=#[s,x],argTypes:=#[TS,TS] })
 (w0 w:World) (v u:Value) (L M:List Value) (O:E0 TE w0 w v L) (I:Y3 w u M) (m:∀u∈M,u.oneCell'=true) (E:Ext w0 w) (n:L.length+M.length<=1000000000000) (S:a.eval s=v) (K:a.eval x=u)
 (k:∀V w',E0 TE w0 w' V (L++M)->w.grownBy w' v.ownBlock->Nw v.ownBlock w V.ownBlock->Ext w0 w'->wpList Tryz.prog ops Q rest (a.put o.dst V) w') :
 wpList Tryz.prog ops Q (o :: rest) a w:=by
 obtain⟨V,w',R,h,T,b,r⟩:=cj8 t o.type O I m E n;refine wpList_plain H fun y i=>?_;unfold Oper.wp;simp[execOp,p,resolve,invoke,builtin,S,K,R,Result.andThen];exact i _ _ (k V w' h T b r)
theorem b73{k:Act->World->Prop}{e:Prop}{w:World}(t:SlT TS TE)(H:o.guard=none)(s x:Operand)(p:o.op=Op.call { callee:=Callee.builtin Builtin.append,args:=#[s,x],argTypes:=#[TS,TS] })
 (w0:World) (v u:Value) (L M:List Value) (O:E0 TE w0 w v L) (I:Y3 w u M) (m:∀u∈M,u.oneCell'=true) (E:Ext w0 w) (n:L.length+M.length<=1000000000000) (S:a.eval s=v) (K:a.eval x=u)
 (U:∀V w',E0 TE w0 w' V (L++M)->w.grownBy w' v.ownBlock->Nw v.ownBlock w V.ownBlock->Ext w0 w'->k (a.put o.dst V) w') :
 if Region.wanted o (yielded ops a.tmps)=true then Oper.wp Tryz.prog o a w k Q else e:=by
 have W:Region.wanted o (yielded ops a.tmps)=true:=by simp[Region.wanted,H]
 rw[if_pos W];obtain⟨V,w',R,h,T,b,r⟩:=cj8 t o.type O I m E n;unfold Oper.wp;simp[execOp,p,resolve,invoke,builtin,S,K,R,Result.andThen];exact U V w' h T b r
end
def R6(w:World)(u:Value)(a:LN):Prop:=a.length<=1000/\∃g cap c,u=.slice (some (aD g 0)) a.length cap/\a.length<=cap/\Blk w g 3 c/\∀i,i<a.length->c[i]?=some (vi (d5 a i))
theorem R6.ext{w w':World}{a:LN}(h:R6 w u a)(E:Ext w w'):R6 w' u a:=by
 obtain⟨S,g,cap,c,H,r,T,b⟩:=h;exact⟨S,g,cap,c,H,r,T.ext E,b⟩
theorem R6.one{w:World}{a:LN}(h:R6 w u a):u.oneCell'=true:=by
 obtain⟨H,g,cap,c,rfl,-⟩:=h;rfl
theorem R6.ints{w:World}{a:LN}(h:R6 w u a):c8 w u (b9 a):=by
 obtain⟨S,g,cap,c,rfl,r,T,H⟩:=h;refine⟨_,cap,by rw[d9],by rw[d9];exact r,by rw[d9];omega,fun i J=>⟨_,rfl,?_⟩⟩;rw[d9]at J;rw[pe,oM,P7];exact T.cell (i:=i) (H i J)
theorem be3{w0 w:World}{a:LN}(h:Own 3 w0 w u (b9 a))(S:0<a.length)(U:a.length<=1000):R6 w u a:=by
 obtain⟨⟨r,T⟩,-⟩:=h;rcases T with⟨V,l⟩|⟨g,cap,c,rfl,H,b,n,m,s,t⟩;rw[d9]at l;omega;rw[d9]at n t|-;refine⟨U,g,cap,c,rfl,n,b,fun i J=>?_⟩;have:(c.toList.take (a.length*1))[i]?=some (vi (d5 a i)):=by
  rw[t,List.getElem?_map,<-P7];have I:i<(b9 a).length:=(by rw[d9];exact J);simp[nth,List.getD,I]
 rw[List.getElem?_take_of_lt om]at this;simpa using this
theorem R6.grown{w0 w w':World}{v:Value}{a:LN}{TE:TypeId}{L:List Value}(h:R6 w u a)(O:E0 TE w0 w v L)(t:3≠TE)(H:w.grownBy w' v.ownBlock):R6 w' u a:=by
 obtain⟨S,g,cap,c,U,r,T,b⟩:=h;exact⟨S,g,cap,c,U,r,T.grown H fun k V e=>O.not T t (by rw[V,e]),b⟩
theorem R6.other{w:World}{a:LN}{b:Nat}(h:R6 w u a)(C:Blk w b t s)(m:t≠3)(i:Nat)(x:Value):R6 (w.setCell (aD b i) x) u a:=by
 obtain⟨S,g,cap,c,H,r,T,d⟩:=h;refine⟨S,g,cap,c,H,r,T.other (fun e=>?_) _,d⟩;have E:g=b:=e;subst E;have B:w.heap[g]?=some (.cells s t (0,0)):=C;have l:w.heap[g]?=some (.cells c 3 (0,0)):=T;rw[l]at B;simp at B;exact m B.2.symm
def I1(w0 w:World)(v:Value)(A:List (LN)):Prop:=∃L:List Value,L.length=A.length/\E0 40 w0 w v L/\∀i,i<A.length->R6 w (L.getD i (.slice none 0 0)) (A.getD i [])
theorem I1.ext{w0 w w':World}{v:Value}{A:List (LN)}(h:I1 w0 w v A)(E:Ext w w'):I1 w0 w' v A:=by
 obtain⟨L,H,r,T⟩:=h;exact⟨L,H,r.ext E,fun i J=>(T i J).ext E⟩
theorem I1.mono{w0 w:World}{v:Value}{A:List (LN)}(h:I1 G w v A)(E:Ext w0 G):I1 w0 w v A:=by
 obtain⟨L,H,r,T⟩:=h;exact⟨L,H,r.mono E,T⟩
theorem ci9{w0 w:World}(E:Ext w0 w):I1 w0 (w.alloc (.cells #[] 40)) (.slice (some (aD w.heap.size 0)) 0 0) []:=⟨[],rfl,by9 E,fun i J=>by simp at J⟩
theorem I1.blk{w0 w:World}{v:Value}{A:List (LN)}(h:I1 w0 w v A):∀k,v.ownBlock=some k->w0.heap.size<=k/\k<w.heap.size:=by
 obtain⟨L,H,r,T⟩:=h;exact r.blk
theorem I1.not{w0 w:World}{v:Value}{A:List (LN)}(h:I1 w0 w v A)(B:Blk w g t c)(H:t≠40):v.ownBlock≠some g:=by
 obtain⟨L,U,r,T⟩:=h;exact r.not B H
theorem I1.more{w0 w':World}{v V:Value}{A:List (LN)}{a:LN}{L:List Value}(h:L.length=A.length)(r:E0 40 w0 W v L)(T:∀i,i<A.length->R6 W (L.getD i (.slice none 0 0)) (A.getD i []))(Y:R6 W y a)(O:E0 40 w0 w' V (L++[y]))(G:W.grownBy w' v.ownBlock):I1 w0 w' V (A++[a]):=by
 refine⟨L++[y],by simp[h],O,fun i J=>?_⟩;by_cases e:i<A.length;have R:(L++[y]).getD i (.slice none 0 0)=L.getD i (.slice none 0 0):=(by simp[List.getD,List.getElem?_append_left (show i<L.length by omega)]);have E:(A++[a]).getD i []=A.getD i []:=(by simp[List.getD,List.getElem?_append_left e]);rw[R,E];exact(T i e).grown r (by decide) G;have H:i=A.length:=(by simp at J;omega);have R:(L++[y]).getD i (.slice none 0 0)=y:=(by rw[H,<-h];simp[List.getD]);have E:(A++[a]).getD i []=a:=(by rw[H];simp[List.getD]);rw[R,E];exact Y.grown r (by decide) G
theorem I1.shape{w0 w:World}{v:Value}{A:List (LN)}(h:I1 w0 w v A):∃(O:Option Addr) (c:Nat),v=.slice O A.length c/\A.length<=c/\(∀i,i<A.length->∃g u,O=some (aD g 0)/\w.cell? (aD g i)=some u/\R6 w u (A.getD i [])):=by
 obtain⟨L,U,r,T⟩:=h;obtain⟨O,c,rfl,C,e⟩:=r.shape;rw[U]at C e|-;exact⟨O,c,rfl,C,fun i J=>by obtain⟨g,H,b⟩:=e i J;exact⟨g,_,H,b,T i J⟩⟩
def b03(w:World)(u:Value)(a:LN):Prop:=(a=[]/\∃A c,u=.slice A 0 c)\/R6 w u a
theorem b03.ext{w w':World}{a:LN}(h:b03 w u a)(E:Ext w w'):b03 w' u a:=by
 rcases h with h|h;exact Or.inl h;exact Or.inr (h.ext E)
theorem b03.ints{w:World}{a:LN}(h:b03 w u a):c8 w u (b9 a):=by
 rcases h with⟨rfl,A,c,rfl⟩|h;exact⟨A,c,rfl,oX _,by simp[b9],fun i J=>by simp[b9]at J⟩;exact h.ints
theorem b03.grown{w0 w w':World}{v:Value}{a:LN}{A:List (LN)}(h:b03 w u a)(O:I1 w0 w v A)(H:w.grownBy w' v.ownBlock):b03 w' u a:=by
 rcases h with h|h;exact Or.inl h;obtain⟨L,U,r,T⟩:=O;exact Or.inr (h.grown r (by decide) H)
theorem b03.shape{w:World}{a:LN}(h:b03 w u a):∃A c,u=.slice A a.length c:=by
 rcases h with⟨rfl,A,c,rfl⟩|⟨-,g,cap,s,rfl,-⟩;exact⟨A,c,rfl⟩;exact⟨_,cap,rfl⟩
theorem c11{w:World}{o O:Option Nat}(h:w.grownBy G o)(n:Nw o w O)(k:G.grownBy W O):w.grownBy W o :=
 ⟨k.os.trans h.os,k.tape.trans h.tape,k.output.trans h.output,nle h.size k.size,fun i J H=>by
  rw[k.block i (nlt J h.size) fun e=>?_,h.block i J H]
  rcases n with n|n
  . exact H (by rw[<-n];exact e)
  . have:=n i e.symm;omega⟩
theorem ch1{w:World}{o:Option Nat}(h:w.grownBy G o)(k:Ext G W):w.grownBy W o :=
 ⟨k.os.trans h.os,k.tape.trans h.tape,k.output.trans h.output,nle h.size k.size,fun i J n=>by
  rw[k.block i (nlt J h.size),h.block i J n]⟩
theorem bq4(w:World)(o:Option Nat):w.grownBy w o:=⟨rfl,rfl,rfl,oc _,fun _ _ _=>rfl⟩
theorem Ext.gr{w w':World}(h:Ext w w')(o:Option Nat):w.grownBy w' o:=⟨h.os,h.tape,h.output,h.size,fun k V _=>h.block k V⟩
def d94(w0 w:World)(V:Value)(A:List (LN))(s:Value)(x:World):Prop:=I1 w0 x s A/\w.grownBy x V.ownBlock/\Nw V.ownBlock w s.ownBlock
theorem zz123{P:Prop}(h:P:=by go_wp2_with fail;go_meet;exact⟨rfl,by rw[hc2]⟩):P:=h
theorem jn3(v:Value)(l:LI)(R:Hid (d7 l=true))(w0:World)(HI:Hid (∀W,Ext w0 W->c8 W v l)):∀(f:Nat) (X:LN) (S m:Nat) (M:List (LN)) (vX N:Value) (w:World),Ext w0 w->b03 w vX X->I1 w0 w N M->S<2^ord l->S.testBit 0=false->m<=ord l->ord l<cnt S+f->X.length<=cnt S->(∀x∈X,x<ord l)->M.length+(atR l f X S m).length<=48 ->
 Calls Tryz.prog 325 #[.agg #[v],vX,vi S,vi m,N] w fun e w'=>∃va,e=.returned va/\d94 w0 w N (M++atR l f X S m) va w':=by
 intro f;induction f with
 |zero=>intro X S m M vX N w hw hX O hS h0 hm hf;have:=bf1 R.o hS;omega
 | succ f ih =>
  intro X S m M vX N w hw hX O hS h0 hm hf aV hv hK;have aT:=l8 R.o;have hZ:=E7 R.o;have hV:S<2^24:=nlt hS hZ;have bb:=p8 S;obtain⟨aX,cX,rfl⟩:=hX.shape;obtain⟨B,hk⟩:=nq (w.alloc (.cells #[v] 42));have F:Ext w B:=by rw[hk];exact(er _).alloc _
  have BG:Blk B w.heap.size 42 #[v]:=by rw[hk];exact oq _ _ _
  have C:=BG.atc 0 rfl;have hG:=hw.trans F;have H:=sh hG HI.o;have He:=zh (hX.ext F);have Hb:=zh (O.ext F);have Hj:=zh F;have Z:=zh hk;have Hm:=zh ih;have HK:=zh hK;clear ih hX O hk F hK;have hz:atZ l X<ord l:=U5 l (m0 R.o) _;have aG:∀x∈X,x<24:=fun x K=>by have:=hv x K;omega
  have cT:=fun W (D:Ext B W)=>b63 v _ l X W (H W D) (He.o.ext D).ints R (zh aG);have aP:=bo1 R.o X;have cN:=fun W (D:Ext B W)=>b44 v l (tot l X) W (H W D) R om;have HV:Hid (atV l X m=if atC l X m then [X++[atZ l X]]else []):=zh rfl;have HC:Hid (atC l X m=((decide (m<=atZ l X)&&(decide (X.length≠0) || decide (atZ l X=0)))&&mnB l (X++[atZ l X]))):=zh rfl;obtain⟨s,hp⟩:=nq (atZ l X);have af:s=q7 l (tot l X):=hp;rw[<-hp]at hz HV HC;simp only[<-af]at cN;have Hz:=zh hp;obtain⟨t,A⟩:=nq (tot l X);simp only[<-A]at cT cN;clear hp af A aP;have E:=er B;have aN:=fun UU=>C _ (c9 B UU);go_in;go_wp2_with fail;rw[<-Z.o];refine wl E ?_;(repeat(go_big_quiet_step(first|(go_at_call 116;with_reducible exact oa (cT _ (c9 B _)))|(go_at_call 286;with_reducible exact oa (cN _ (c9 B _))))));refine zd fun W E=>?_;rename World=>G;have aH:=C _ E;clear aN;obtain⟨c,V⟩:=nq ((decide (m<=s)&&(decide (X.length≠0) || decide (s=0))));rw[<-V]at HC;go_upto_region 2 with fail;go_cut [31] (fun sa wx=>wx=G/\sa=.bool c);case first =>
   have bd:0<=((X.length:Nat):Int):=om;by_cases p:m<=s
   . have pf:(m:Int)<=(s:Int):=om;by_cases p2:X.length=0
     . have aa:X=[]:=oF p2;subst aa;clear p2;by_cases p3:s=0
       . have hc2:c=true:=(by rw[V,decide_eq_true p,decide_eq_true p3];simp);have pk:(((s:Nat):Int) == 0)=true:=(by rw[p3];rfl);clear p p3 V;exact zz123
       . have hc2:c=false:=(by rw[V];simp[p3]);have pk:(((s:Nat):Int) == 0)=false:=(by rw[beq_eq_false_iff_ne];omega);clear p p3 V;exact zz123
     . have pT:(0:Int)<((X.length:Nat):Int):=om;have hc2:c=true:=(by rw[V,decide_eq_true p,decide_eq_true (show X.length≠0 from p2)];rfl);have aa:X≠[]:=fun e=>p2 (by rw[e];rfl);clear p V;exact zz123
   . have pf:¬(m:Int)<=(s:Int):=om;have hc2:c=false:=(by rw[V];simp[p]);clear p V;exact zz123
  case rest =>
   obtain⟨rfl,rfl⟩:=hcut;clear V;go_upto_if 31 with fail;have hr:Ext B wc:=E;have ac:(b9 X).length<=17592186044416:=(by rw[d9];omega);have al:(b9 X).length<17592186044416:=(by rw[d9];omega);have hJ:=(He.o.ext (E.trans ((er wc).alloc (.cells #[] 3)))).ints;have hM:Own 3 wc (wc.alloc (.cells #[] 3)) (.slice (some (aD wc.heap.size 0)) 0 0) []:=l9 om (er wc) [] rfl;have hL:=(er wc).alloc (.cells #[] 3);have aS:∀x∈X++[s],x<ord l:=fun x K=>by
    rw[oP,oE]at K
    rcases K with K|rfl
    . exact hv x K
    . exact hz
   have cM:=fun W vy (D:Ext B W) (hy:c8 W vy (b9 (X++[s])))=>ck7 v vy l (X++[s]) W (H W D) hy R aS zso;obtain⟨L,hH,hT,ab⟩:=Hb.o.ext E;have aE:L.length<1000000000000:=(by rw[hH];have:=HK.o;omega);have Hp:=zh hH;have Hs:=zh ab;have Hg:=zh (G6 X s);have aO:(X++[s]).length<=1000:=zso;clear hH ab;go_cut [4] (fun s4 wx=>d94 w0 wc N (M++atV l X m) s4 wx);case first =>
    cases c
    . have Hv:Hid (atV l X m=[]):=zh (by rw[HV.o,HC.o];rfl);go_wp2_with fail;go_meet;exact⟨by rw[Hv.o,pV];exact Hb.o.ext hr,bq4 _ _,Nw.refl _ _⟩
    . cases hn:mnB l (X++[s])
      . have Hv:Hid (atV l X m=[]):=zh (by rw[HV.o,HC.o,hn];rfl);rw[hn]at cM;clear hn;go_wp2_with(first|(at_builtin;refine F7 slI rfl _ _ rfl wc _ _ _ _ _ hM hJ hL (by simpa using ac) rfl rfl ?_;intro v1 wA he z;rw[pq]at he)|(at_builtin;refine p6 slI rfl _ _ rfl wc _ _ _ _ he z al rfl rfl ?_;intro v2 wB b I;rw[<-Hg.o]at b;obtain⟨ay,c2,rfl,-⟩:=b.shape;have j:=E.trans I;have hs:=C _ j)|(go_at_call 224;refine cm (cM _ _ j b.ints) fun w4 ha=>?_));go_meet;exact⟨by rw[Hv.o,pV];exact Hb.o.ext (j.trans ha),(I.trans ha).gr _,Nw.refl _ _⟩
      . have Hv:Hid (atV l X m=[X++[s]]):=zh (by rw[HV.o,HC.o,hn];rfl);rw[hn]at cM;clear hn;go_wp2_with(first|(at_builtin;refine F7 slI rfl _ _ rfl wc _ _ _ _ _ hM hJ hL (by simpa using ac) rfl rfl ?_;intro v1 wA he z;rw[pq]at he)|(at_builtin;refine p6 slI rfl _ _ rfl wc _ _ _ _ he z al rfl rfl ?_;intro v2 wB b I;rw[<-Hg.o]at b;obtain⟨ay,c2,rfl,-⟩:=b.shape;have j:=E.trans I;have hs:=C _ j)|(go_at_call 224;refine cm (cM _ _ j b.ints) fun w4 ha=>?_;have hq:=I.trans ha;have hR:=hT.ext hq;have aF:=hG.trans (j.trans ha);have ad:=(be3 b zm aO).ext ha;have aQ:=ad.one)|(at_builtin;refine b80 slV rfl _ _ rfl w0 _ _ L _ aQ hR aF aE rfl rfl ?_;intro v5 w5 aq hl az));go_meet;exact⟨by rw[Hv.o];exact I1.more Hp.o hR (fun i J=>(Hs.o i J).ext hq) ad aq hl,cm1 hq hl,(Nw.refl _ _).trans hq.size az⟩
   case rest =>
    obtain⟨hj,u,hh⟩:=hcut;have Hl:Hid (d94 w0 B N (M++atV l X m) u4 wc):=zh ⟨hj,cm1 hr u,(Nw.refl _ _).trans hr.size hh⟩;have Ht:=zh (ce7 l f X S m (max 1 m) (oc _));have Hf:=zh (jc4 l f X S m);have ah:max 1 m<=ord l:=om;have ak:max (1:Int) (m:Int)=((max 1 m:Nat):Int):=om;obtain⟨m1,hu⟩:=nq (max 1 m);rw[<-hu]at Ht ah ak;have Hi:=zh hu;have ai:N.ownBlock≠some w.heap.size:=Hb.o.not BG (by decide);have HG:=zh ai;clear hj u hh hu ai hJ hM hL cM hT cT cN;go_upto_region 6 with fail;go_cut [13] (fun sb wx=>wx=wc/\sb=vi (m1:Int));case first =>
     go_wp2_with fail
     all_goals
      go_meet
      refine⟨rfl,?_⟩
      have:=Hi.o
      congr 1
      omega
    case rest =>
     obtain⟨rfl,rfl⟩:=hcut;clear ak hr E aH;go_wp2_with fail;go_loopw [4,13] (fun so sx wr=>∃k:Nat,m1<=k/\k<=ord l/\sx=vi k/\d94 w0 B N (M++atK l f X S m k) so wr) (fun _ sx _=>ord l-(intOf sx).toNat);exact⟨m1,oc _,ah,rfl,by rw[Ht.o];exact Hl.o⟩;case round =>
      clear Hl;rename World=>wr;obtain⟨k,ao,aY,rfl,hj,u,hh⟩:=hrel;have hQ:=hG.grown u (fun g H=>(Hb.o.blk g H).1);have Br:=BG.grown u (fun g H e=>HG.o (by rw[H,e]));have Hr:=zh (He.o.grown Hb.o u);have Y:=sh hQ HI.o;have kG:=Br.atc 0 rfl;have kr:=kG wr (er wr);have cO:=o4 v l wr (Y _ (er wr)) R;have Hd:=zh hj;have Ha:=zh u;have Hc:=zh hh;clear hj u hh;by_cases U:k<ord l
      . have an:(k:Int)<(ord l:Int):=om;have hY:k<24:=om;have hN:=bv2 R.o hS U;have aB:=be2 R.o hS h0 U;have aA:nxS l S k<2^24:=nlt hN hZ;have av:=K8 R.o S k;have q1:=o6 (n:=k) om;have q2:ior (S:Int) (j6 l S k:Int)=((S ||| j6 l S k:Nat):Int):=R5 om om;have q3:ior ((S ||| j6 l S k:Nat):Int) ((pw k:Nat):Int)=((nxS l S k:Nat):Int):=H9 (ox hV av) hY;have Ho:=zh (fun h=>dq0 (l:=l) (f:=f) (X:=X) (S:=S) (m:=m) (k:=k) h);have Hh:=zh (fun h=>d98 (l:=l) (f:=f) (X:=X) (S:=S) (m:=m) (k:=k) (by rw[<-Hi.o];exact ao) h);have Hq:=zh (fun d=>c64 l f X S m (k+1) d);obtain⟨P,hU⟩:=nq (nxS l S k);rw[<-hU]at hN aB aA q3 Ho Hh;have q4:=Z5 (a:=P) om;have cS:=fun W (D:Ext wr W)=>M4 v l S k W (Y _ D) R hV hY;clear hU;go_wp2_with(go_at_call 103;refine cm cO fun G z=>?_);have am:=fun UU=>kG _ (z.trans (c9 G UU));have E:=er G;refine wl E ?_;(repeat(go_big_quiet_step(first|(go_at_call 221;exact oa (cS _ (z.trans (c9 G _)))))));refine zd fun W E=>?_;rename World=>w2;have I:=z.trans E;clear am cS E;cases A:P.testBit 0
        . have hA:(((P%2:Nat):Int) == 0)=true:=(by rw[da1,A];rfl);have aR:((P:Int)%2 == 0)=true:=hA;have Hk:=zh (Hh.o A);have ae:∀x∈X++[k],x<ord l:=fun y hy=>by
           rw[oP,oE]at hy
           rcases hy with hy|rfl
           . exact hv y hy
           . exact U
          have au:∀W vN,Ext w2 W->b03 W vN (X++[k])->Calls Tryz.prog 325 #[.agg #[v],vN,vi P,vi k,u4] W fun e w'=>∃va,e=.returned va/\d94 w0 W u4 (M++atK l f X S m (k+1)) va w':=fun W vN D hI=>by
           have q:=Hm.o (X++[k]) P k (M++atK l f X S m k) vN u4 W (hQ.trans (I.trans D)) hI (Hd.o.ext (I.trans D)) hN A om om zso ae (by
            have h1:=HK.o;have r:=Hq.o (ord l-(k+1));rw[show k+1+(ord l-(k+1))=ord l by omega,<-Hf.o,Hk.o]at r;rw[oh]at r|-;omega)
           rw[pr,<-Hk.o]at q
           exact q
          have Hw:=zh (fun W (D:Ext w2 W)=>(Hr.o.ext (I.trans D)).ints);have ap:(b9 X).length+[(k:Int)].length<=17592186044416:=(by rw[d9];simp;omega);have hs:=sh I kG;have Bb:=Br.ext I;have aj:u4.ownBlock≠some w.heap.size:=Hd.o.not Br (by decide);have HS:=zh aj;have Hu:=zh (G6 X k);have aM:(X++[k]).length<=1000:=zso;clear A aj ae;have E:=er w2;go_wp2_with fail;first|(go_region_held3 (fun W=>W.cell? (aD w.heap.size 0)=some v) (first|exact hl|exact hs _ xr) (first|(go_at_call 325;have ag:=N7.own ar (er _);rw[<-Hu.o]at ag;have aL:=be3 ag zm aM;have aJ:b03 wD vD (X++[k]):=Or.inr aL;have aK:=au wD vD hD aJ;(with_reducible refine od aK ?_);rintro eF wF⟨vF,rfl,ho⟩;have hl:=((Bb.ext hD).grown ho.2.1 (fun g H e=>HS.o (by rw[H,e]))).cell (i:=0) (v:=v) rfl)|(have aW:=hC;refine q9 slI rfl _ _ rfl w2 w2 _ _ (b9 X) [(k:Int)] (Or.inr (by first|exact hC|exact hC.alloc _|exact(hC.alloc _).drew)) (Blk.ints1 (T:=3) zq1) xr ap rfl rfl ?_;intro vD wD ar hD aZ)|(refine Q6 slI rfl _ _ rfl _ _ (b9 X) rfl rfl zq0 (Hw.o _ xr) w2 (by first|exact oc _|omega|(simp;omega)) xr ?_;intro aU cC wC hC bc hEC;have ba:=og (a:=w2) xr hEC)))|(fail "the region")
          all_goals
           have aI:d94 w0 w2 u4 (M++atK l f X S m (k+1)) vF wF:=⟨ho.1,cm1 hD ho.2.1,(Nw.refl _ _).trans (Ext.size hD) ho.2.2⟩
           obtain⟨aC,aw,ax⟩:=aI
           go_wp2_with fail
           go_roundw
           case rel=>exact⟨k+1,om,om,zg,aC,c11 Ha.o Hc.o (cm1 I aw),Hc.o.trans Ha.o.size ((Nw.refl _ _).trans I.size ax)⟩
           case measure=>exact zm1
        . have hA:(((P%2:Nat):Int) == 0)=false:=(by rw[da1,A];rfl);have aR:((P:Int)%2 == 0)=false:=hA;have Hn:=zh (Ho.o A);clear A;go_wp2_with fail;go_roundw;exact⟨k+1,om,om,zg,by rw[Hn.o];exact⟨Hd.o.ext I,ch1 Ha.o I,Hc.o⟩⟩;exact zm1
      . have an:¬(k:Int)<(ord l:Int):=om;have hP:k=ord l:=om;have Hn:=zh (show atR l (f+1) X S m=atK l f X S m k by rw[Hf.o,hP]);clear hP;go_wp2_with(go_at_call 103;refine cm cO fun G z=>?_);go_ret;exact⟨_,rfl,by rw[Hn.o];exact Hd.o.ext z,cm1 Hj.o (ch1 Ha.o z),(Nw.refl _ _).trans Hj.o.size Hc.o⟩
theorem br9(L:LN)(k:Nat)(h:k<L.length):L.drop k=d5 L k :: L.drop (k+1):=by
 rw[qf h];simp[d5,List.getD,h]
theorem df7{a:LN}(H:k<a.length)(C:k<b.length)(h:d5 a k=d5 b k):N0 (a.drop k) (b.drop k)=N0 (a.drop (k+1)) (b.drop (k+1)):=by
 rw[br9 a k H,br9 b k C,h];conv=>lhs;unfold N0
 simp
theorem jd7{a:LN}(H:k<a.length)(C:k<b.length)(h:d5 a k<d5 b k):N0 (a.drop k) (b.drop k) = -1:=by
 rw[br9 a k H,br9 b k C];unfold N0;rw[if_pos h]
theorem jd6{a:LN}(H:k<a.length)(C:k<b.length)(h:d5 b k<d5 a k):N0 (a.drop k) (b.drop k)=1:=by
 rw[br9 a k H,br9 b k C];unfold N0;rw[if_neg om,if_pos h]
theorem dr6{a:LN}(h:a.length<=k)(C:b.length<=k):N0 (a.drop k) (b.drop k)=0:=by
 rw[List.drop_eq_nil_of_le h,List.drop_eq_nil_of_le C];rfl
theorem zz77{P:Prop}(h:P:=by go_in;go_wp2_with(first|(go_at_call 336;refine(n _ _).mono ?_;rintro e w'⟨rfl,rfl⟩));go_ret;exact⟨rfl,rfl⟩):P:=h
theorem da3(a b:Int)(w:World):Calls Tryz.prog 338 #[vi a,vi b] w fun e w'=>e=.returned (vi (if a<b then -1 else if b<a then 1 else 0))/\w=w':=by
 have n:∀(x:Int) (W:World),Calls Tryz.prog 336 #[vi x] W fun e w'=>e=.returned (.bool false)/\W=w':=fun x W=>by
  go_in
  go_wp2_with fail
  go_ret
  exact⟨zm,rfl⟩
 by_cases h:a<b;rw[if_pos h];exact zz77;by_cases r:b<a;rw[if_neg h,if_pos r];exact zz77;rw[if_neg h,if_neg r];exact zz77
theorem d02(u:Value)(a b:LN)(w:World)(W:c8 w m (b9 a))(r:c8 w u (b9 b))(j:a.length=b.length):Calls Tryz.prog 318 #[m,u] w fun e w'=>e=.returned (vi (N0 a b))/\w=w':=by
 obtain⟨O,P,p,rfl,A,Z⟩:=W.nats;obtain⟨g,R,D,rfl,d,E⟩:=r.nats;have I:=j2 (c:=P) elI szI A;have x:=j2 (c:=R) elI szI d;have n:a.length<=17592186044416:=by obtain⟨_,_,_,_,B,_⟩:=W;simpa[d9]using B
 have l:=zh j;clear A d W r j;go_in;go_wp2_with fail;go_loop [11] (fun i=>∃k:Nat,k<=a.length/\i=vi k/\Hid (N0 a b=N0 (a.drop k) (b.drop k))) (fun i=>a.length-(intOf i).toNat);exact⟨0,om,rfl,zh rfl⟩
 obtain⟨k,V,rfl,h⟩:=hrel;by_cases U:k<a.length
 . have C:k<b.length:=(by have:=l.o;omega);have t:(k:Int)<(a.length:Int):=om;have s:¬(b.length:Int)<=(k:Int):=om;have hc1:=Z k w U (er _);have hc2:=E k w C (er _);have z:=da3 (d5 a k) (d5 b k) w;by_cases q:d5 a k<d5 b k
   . have H:Hid (N0 a b = -1):=zh (by rw[h.o,jd7 U C q]);rw[if_pos om]at z;clear q;go_wp2_with(go_at_call 338;refine z.mono ?_;rintro e w'⟨rfl,rfl⟩);go_ret;exact⟨o3 H.o.symm,rfl⟩
   by_cases f:d5 b k<d5 a k
   . have H:Hid (N0 a b=1):=zh (by rw[h.o,jd6 U C f]);rw[if_neg om,if_pos om]at z;clear q f;go_wp2_with(go_at_call 338;refine z.mono ?_;rintro e w'⟨rfl,rfl⟩);go_ret;exact⟨o3 H.o.symm,rfl⟩
   have H:Hid (N0 a b=N0 (a.drop (k+1)) (b.drop (k+1))):=zh (by rw[h.o,df7 U C om]);rw[if_neg om,if_neg om]at z;clear q f;go_wp2_with(go_at_call 338;refine z.mono ?_;rintro e w'⟨rfl,rfl⟩);go_round;exact⟨k+1,om,zg,H⟩;exact zm1
 have K:k=a.length:=om;have H:Hid (N0 a b=0):=zh (by rw[h.o,dr6 om (by have:=l.o;omega)]);have t:¬(k:Int)<(a.length:Int):=om;have J:¬(a.length:Int)<(b.length:Int):=(by have:=l.o;omega);clear K;go_wp2_with fail;go_ret;exact⟨o3 H.o.symm,rfl⟩
theorem j83(U u:Value)(a b:LN)(w:World)(H:c8 w U (b9 a))(r:c8 w u (b9 b)):Calls Tryz.prog 317 #[U,u] w fun e w'=>e=.returned (vi (Q2 a b))/\w=w':=by
 have Z:a.length<=17592186044416:=by obtain⟨_,_,_,_,A,_⟩:=H;simpa[d9]using A
 have d:b.length<=17592186044416:=by obtain⟨_,_,_,_,A,_⟩:=r;simpa[d9]using A
 have c:=fun h=>d02 U u a b w H r h;obtain⟨O,C,g,rfl,-,-⟩:=H.nats;obtain⟨f,R,i,rfl,-,-⟩:=r.nats;clear H r;by_cases l:a.length=b.length
 . have V:Hid (Q2 a b=N0 a b):=zh (by unfold Q2;rw[if_pos l]);have D:=c l;have q:(((a.length:Nat):Int) != ((b.length:Nat):Int))=false:=(by rw[l];simp);clear l c;go_in;go_wp2_with(go_at_call 318;refine D.mono ?_;rintro e w'⟨rfl,rfl⟩);go_ret;exact⟨o3 V.o.symm,rfl⟩
 have V:Hid (Q2 a b=(a.length:Int)-(b.length:Int)):=zh (by unfold Q2;rw[if_neg l]);have q:(((a.length:Nat):Int) != ((b.length:Nat):Int))=true:=(by rw[bne_iff_ne];omega);clear l c;go_in;go_wp2_with fail;go_ret;exact⟨o3 V.o.symm,rfl⟩
theorem ja0(n m:Value)(a b:LN)(w:World)(Z:c8 w n (b9 a))(r:c8 w m (b9 b)):Calls Tryz.prog 326 #[n,m] w (RE w (.bool (decide (Q2 a b<0)))):=by
 obtain⟨ac,P,ab,rfl,R,g⟩:=Z.nats;obtain⟨ad,T,aa,rfl,A,f⟩:=r.nats;have hc:=j2 (c:=P) elI szI R;have ha:=j2 (c:=T) elI szI A;have hn:a.length<=17592186044416:=by obtain⟨_,_,_,_,p,_⟩:=Z;simpa[d9]using p
 clear R A Z r;have E:=er w;by_cases j:a.length=b.length
 . have X:Hid (Q2 a b=N0 a b):=zh (by unfold Q2;rw[if_pos j]);have M:(((a.length:Nat):Int) != ((b.length:Nat):Int))=false:=(by rw[j];simp);have s:=zh j;clear j;go_in;go_wp2_with fail;go_loopw [5] (fun i wr=>∃k:Nat,k<=a.length/\i=vi k/\Hid (N0 a b=N0 (a.drop k) (b.drop k))/\Ext w wr) (fun i _=>a.length-(intOf i).toNat);exact⟨0,om,rfl,zh rfl,E⟩;case round =>
    clear E;obtain⟨k,V,rfl,x,E⟩:=hrel;by_cases U:k<a.length
    . have C:k<b.length:=(by have:=s.o;omega);have O:(k:Int)<(a.length:Int):=om;have hc1:=fun u=>g k _ U (E.trans (c9 wr u));have hc2:=fun u=>f k _ C (E.trans (c9 wr u));have S:=zh (fun h=>df7 U C h);have t:=zh (fun h=>jd7 U C h);have G:=zh (fun h=>jd6 U C h);obtain⟨y,z⟩:=nq (d5 a k);obtain⟨Y,F⟩:=nq (d5 b k);rw[<-z,<-F]at S t G;have K:Hid (∀W,Ext w W->W.cell? (ab k)=some (vi (y:Int))):=zh (fun W D=>by rw[z];exact g k W U D);have J:Hid (∀W,Ext w W->W.cell? (aa k)=some (vi (Y:Int))):=zh (fun W D=>by rw[F];exact f k W C D);simp only[<-z]at hc1;simp only[<-F]at hc2;clear z F;have B:=E;clear E;have E:=er wr;by_cases q:y=Y
      . have qI:((y:Int) != (Y:Int))=false:=(by rw[q];simp);have H:Hid (N0 a b=N0 (a.drop (k+1)) (b.drop (k+1))):=zh (by rw[x.o,S.o q]);clear q;go_wp2_with fail;refine wl E ?_;(repeat(go_big_quiet_step(first|(fail "no call"))));refine zd fun W E=>?_;go_wp2_with fail;go_roundw;exact⟨k+1,om,zg,H,B.trans E⟩;exact zm1
      . have qI:((y:Int) != (Y:Int))=true:=(by rw[bne_iff_ne];omega);by_cases e:y<Y
        . have H:Hid (decide (Q2 a b<0)=true):=zh (by rw[X.o,x.o,t.o e];rfl);have qv:(y:Int)<(Y:Int):=om;clear q e;go_wp2_with fail;refine wl E ?_;(repeat(go_big_quiet_step(first|(fail "no call"))));refine zd fun W E=>?_;have I:=B.trans E;rename World=>w5;replace hc1:=fun u=>K.o _ (I.trans (c9 w5 u));replace hc2:=fun u=>J.o _ (I.trans (c9 w5 u));clear E;have E:=er w5;go_wp2_with fail;refine wl E ?_;(repeat(go_big_quiet_step(first|(fail "no call"))));refine zd fun W E=>?_;go_wp2_with fail;go_ret;exact⟨j1 H.o.symm,I.trans E⟩
        . have H:Hid (decide (Q2 a b<0)=false):=zh (by rw[X.o,x.o,G.o om];rfl);have qv:¬(y:Int)<(Y:Int):=om;clear q e;go_wp2_with fail;refine wl E ?_;(repeat(go_big_quiet_step(first|(fail "no call"))));refine zd fun W E=>?_;have I:=B.trans E;rename World=>w5;replace hc1:=fun u=>K.o _ (I.trans (c9 w5 u));replace hc2:=fun u=>J.o _ (I.trans (c9 w5 u));clear E;have E:=er w5;go_wp2_with fail;refine wl E ?_;(repeat(go_big_quiet_step(first|(fail "no call"))));refine zd fun W E=>?_;go_wp2_with fail;go_ret;exact⟨j1 (by first|exact H.o.symm|(rw[H.o];exact decide_eq_false om)),I.trans E⟩
    . have N:k=a.length:=om;have H:Hid (decide (Q2 a b<0)=false):=zh (by rw[X.o,x.o,dr6 om (by have:=s.o;omega)];rfl);have O:¬(k:Int)<(a.length:Int):=om;clear N;go_wp2_with fail;go_ret;exact⟨j1 H.o.symm,E⟩
 have M:(((a.length:Nat):Int) != ((b.length:Nat):Int))=true:=(by rw[bne_iff_ne];omega);have X:Hid (decide (Q2 a b<0)=decide (((a.length:Nat):Int)<((b.length:Nat):Int))):=zh (by
  unfold Q2;rw[if_neg j];rw[oA,decide_eq_true_iff,decide_eq_true_iff];omega)
 clear j;obtain⟨d,hd⟩:=nq (decide (Q2 a b<0));go_in;go_wp2_with fail;go_ret;exact⟨j1 (by rw[X.o];simp),E⟩
end Go.Zz
