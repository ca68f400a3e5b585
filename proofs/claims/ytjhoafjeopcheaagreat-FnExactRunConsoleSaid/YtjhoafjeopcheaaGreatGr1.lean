/-
  Plain facts on numbers, lists, bit sets and groups that are given by their orders. No program is named here.
-/
import Derived.Test.YtjhoafjeopcheaaGreatWp
set_option linter.all false
set_option maxHeartbeats 4000000
set_option maxRecDepth 100000
namespace Go.Zz
variable(a:Nat)(L:LN)(n f k:Nat){i d z j m x u y:Nat}{o J:Int}{M:LN}{r l b c:LI}
def nth(l:LI)(i:Nat):Int:=l.getD i 0
def inB(x l J:Int):Bool:=decide (l<=x)&&decide (x<=J)
theorem V2{x l:Int}:inB x l J=true↔l<=x/\x<=J:=by simp[inB]
theorem c86{x l:Int}:inB x l J=false↔¬(l<=x/\x<=J):=by rw[<-V2];simp
theorem zz128{P:Prop}(h:P:=by rw[List.getD_eq_getElem?_getD,List.getElem?_eq_getElem h];exact qh h):P:=h
theorem b78{k:Nat}(h:k<l.length):nth l k∈l:=by
 unfold nth;exact zz128
theorem bg1{x:Int}(h:x∈l):∃k,k<l.length/\nth l k=x:=by
 obtain⟨k,V,rfl⟩:=px h;exact⟨k,V,by simp[nth,List.getD,V]⟩
theorem j60(l:LI)(k:Nat)(h:k<l.length):l.take (k+1)=l.take k++[nth l k]:=by
 rw[pa h];simp[nth,List.getD,h]
theorem c77(l:LI)(k:Nat)(h:k<l.length):l.drop k=nth l k :: l.drop (k+1):=by
 rw[qf h];simp[nth,List.getD,h]
theorem bk9(l:LI)(k:Nat)(h:k<l.length):nth l k=l[k]:=by simp[nth,List.getD,h]
theorem cn3{m:LI}(H:l.length=m.length)(h:∀i,i<l.length->nth l i=nth m i):l=m:=by
 apply List.ext_getElem H;intro i o r;have:=h i o;rwa [bk9 _ _ o,bk9 _ _ r]at this
def C5:LI->Int
 |[]=>1
 |o :: r=>o*C5 r
def d7(l:LI):Bool:=decide (l.length<=3)&&l.all (fun x=>inB x 2 24)&&decide (C5 l<=24)
theorem j16(l m:LI):C5 (l++m)=C5 l*C5 m:=by
 induction l with
 |nil=>simp[C5]
 |cons o r ih=>simp[C5,ih,Int.mul_assoc]
theorem Z9(l:LI)(k:Nat)(h:k<l.length):C5 (l.take (k+1))=C5 (l.take k)*nth l k:=by
 rw[j60 l k h,j16];simp[C5]
theorem cj3:∀(l:LI),(∀x∈l,1<=x)->1<=C5 l
 |[],_=>by simp[C5]
 |o :: r,h=>by
  have H:=h o (by simp)
  have W:=cj3 r (fun x K=>h x (by simp[K]))
  simp only[C5]
  have:=qC H W (by omega) (by omega);omega
theorem j17:∀(k:Nat) (l:LI),k<=l.length->(∀j,j<k->2<=nth l j/\nth l j<=24)->1<=C5 (l.take k)/\C5 (l.take k)<=24^k
 |0,l,_,_=>by simp[C5]
 |k+1,l,h2,h3=>by
  have i:=j17 k l (by omega) (fun j h=>h3 j (by omega))
  have V:=h3 k (by omega)
  rw[Z9 l k (by omega),Int.pow_succ]
  constructor
  . have:=qC i.1 (by omega:(1:Int)<=nth l k) (by omega) (by omega);omega
  . exact qC i.2 V.2 (by omega) (by have:(0:Int)<=24^k:=Int.pow_nonneg (by omega);omega)
theorem b54(l:LI)(h:k<=l.length)(V:k<=3)(a:∀j,j<k->2<=nth l j/\nth l j<=24):1<=C5 (l.take k)/\C5 (l.take k)<=13824:=by
 have p:=j17 k l h a;have H:(24:Int)^k<=24^3:=by rcases (by omega:k=0\/k=1\/k=2\/k=3)with e|e|e|e<;>subst e<;>decide
 omega
theorem c95{a b:Int}(o:1<=a)(r:a<=13824)(T:2<=b)(h:b<=24):0<=a*b/\a*b<=331776 :=
 ⟨Int.mul_nonneg (by omega) (by omega),by have:=qC r h (by omega) (by omega);omega⟩
theorem W9(l:LI):d7 l=true↔l.length<=3/\(∀j,j<l.length->2<=nth l j/\nth l j<=24)/\C5 l<=24:=by
 simp only[d7,ow,decide_eq_true_eq,oC,V2,and_assoc];constructor;rintro⟨a,b,c⟩;exact⟨a,fun j h=>b _ (b78 h),c⟩
 rintro⟨a,b,c⟩;exact⟨a,fun x K=>by obtain⟨k,V,rfl⟩:=bg1 K;exact b k V,c⟩
theorem E5(h:d7 l=true):l.length<=3:=((W9 l).1 h).1
theorem G4(h:d7 l=true)(H:j<l.length):2<=nth l j/\nth l j<=24:=((W9 l).1 h).2.1 j H
theorem d41(h:d7 l=true):1<=C5 l/\C5 l<=24:=by
 obtain⟨a,b,c⟩:=(W9 l).1 h;exact⟨cj3 l (fun x K=>by obtain⟨k,V,rfl⟩:=bg1 K;have:=b k V;omega),c⟩
theorem ch4(h:3<l.length):d7 l=false:=by
 rw[<-pg,W9];omega
theorem ch5(H:j<l.length)(h:¬(2<=nth l j/\nth l j<=24)):d7 l=false:=by
 rw[<-pg,W9];rintro⟨_,b,_⟩;exact h (b j H)
theorem di1(h:l.length<=3)(b:∀j,j<l.length->2<=nth l j/\nth l j<=24):d7 l=decide (C5 l<=24):=by
 by_cases c:C5 l<=24;rw[(W9 l).2 ⟨h,b,c⟩];simp[c];have:d7 l=false:=(by rw[<-pg,W9];rintro⟨_,_,d⟩;exact c d);rw[this];simp[c]
def bp0(l:LI):Int:=if d7 l then C5 l else 0
def ord(l:LI):Nat:=(C5 l).toNat
theorem bl0(h:d7 l=true):(ord l:Int)=C5 l:=by
 have:=d41 h;unfold ord;omega
theorem l8(h:d7 l=true):1<=ord l/\ord l<=24:=by
 have:=d41 h;have:=bl0 h;omega
theorem bi6(h:d7 l=true):bp0 l=(ord l:Int):=by unfold bp0;rw[if_pos h,bl0 h]
theorem d52(h:d7 l=false):bp0 l=0:=by unfold bp0;rw[h];rfl
theorem jh2(l:LI):0<=bp0 l/\bp0 l<=24:=by
 cases h:d7 l;rw[d52 h];omega;rw[bi6 h];have:=l8 h;omega
def pw(n:Nat):Nat:=2^n
def shr(a n:Nat):Nat:=a >>> n
theorem jn2:pw n=2^n:=rfl
theorem X9:1<=pw n:=Nat.one_le_two_pow
theorem bc9{n:Nat}(h:n<=24):pw n<=16777216:=ot (n:=2) (by omega) h
theorem jy4:(pw n:Int)=2^n:=by unfold pw;simp
theorem ji0:shr a 1=a/2:=by unfold shr;rw[pD]
theorem cl2:shr a n<=a:=by unfold shr;rw[pD];exact po _ _
def j3(a:Nat):LN:=(List.range 24).filter (fun i=>a.testBit i)
def cnt(a:Nat):Nat:=(j3 a).length
def B7(L:LN):Nat:=L.foldl (fun a z=>a ||| 2^z) 0
theorem I0{a:Nat}:x∈j3 a↔x<24/\a.testBit x=true:=by simp[j3]
theorem p8:cnt a<=24:=by
 unfold cnt j3;exact Nat.le_trans (qo _ _) (by simp)
theorem J5{a:Nat}(h:x∈j3 a):x<24:=(I0.1 h).1
theorem jq0:∀a:Nat,∀i,(L.foldl (fun a z=>a ||| 2^z) a).testBit i=(a.testBit i || decide (i∈L)):=by
 induction L with
 |nil=>intro a i;simp
 |cons z L ih =>
  intro a i;rw[oR,ih,oN,pd];by_cases h:z=i
  . subst h;simp
  . have H:¬i=z:=fun e=>h e.symm;simp[h,H]
theorem Q0(i:Nat):(B7 L).testBit i=decide (i∈L):=by
 unfold B7;rw[jq0];simp
theorem bn0(z:Nat):B7 (L++[z])=B7 L ||| 2^z:=by simp[B7]
theorem b77{L:LN}{n:Nat}(h:∀x∈L,x<n):B7 L<2^n:=by
 apply Nat.lt_pow_two_of_testBit;intro i J;rw[Q0];simp only[decide_eq_false_iff_not];intro m;have:=h i m;omega
theorem W4{a n:Nat}(h:a<2^n)(J:n<=i):a.testBit i=false :=
 Nat.testBit_lt_two_pow (qc h (ot (by omega) J))
def E2(a k:Nat):LN:=(List.range k).filter (fun i=>a.testBit i)
theorem H5:E2 a (k+1)=E2 a k++if a.testBit k then [k]else []:=by
 unfold E2;rw[oW,qd];congr 1;cases h:a.testBit k<;>simp[h]
theorem T5{a k:Nat}(V:k<=24)(h:a<2^k):E2 a k=j3 a:=by
 have e:∀d,E2 a (k+d)=E2 a k:=by
  intro d;induction d with
  |zero=>rfl
  |succ d ih=>rw[<-qb,H5,ih,W4 h (by omega)];simp
 have:=e (24-k);rw[show k+(24-k)=24 from by omega]at this;exact this.symm
theorem bm3:(E2 a k).length<=k:=by
 unfold E2;exact Nat.le_trans (qo _ _) (by simp)
theorem ca8{a k:Nat}:shr a k=0↔a<2^k:=by
 unfold shr;rw[pD,Nat.div_eq_zero_iff];constructor;rintro (h|h);have:0<2^k:=qO k;omega;exact h;intro h;exact .inr h
theorem dd8{a k:Nat}(h:¬shr a k=0)(H:a<2^24):k<24:=by
 rw[ca8]at h;rcases qq k 24 with V|V
 exact V;exact absurd (qc H (ot (by omega) V)) h
theorem cb6(a:Nat):∀n,E2 a (n+1)=(if a.testBit 0 then [0]else [])++(E2 (a/2) n).map (· + 1)
 |0=>by rw[H5];simp[E2]
 |n+1=>by
  rw[H5,cb6 a n,H5,pF,<-pr]
  congr 1
  rw[pz]
  cases (a/2).testBit n<;>simp
theorem c73:(E2 a (n+1)).length=a%2+(E2 (a/2) n).length:=by
 rw[cb6,oh,oG];have:a.testBit 0=decide (a%2=1):=ps a;rw[this];by_cases h:a%2=1;simp[h];have:a%2=0:=(by omega);simp[this]
theorem d27:∀(n a:Nat),0<a->a<2^n->(E2 (a &&& (a-1)) n).length+1=(E2 a n).length
 |0,a,h0,h1=>by simp at h1;omega
 | n+1,a,h0,h1=>by
  rw[c73,c73 a]
  have m:(a &&& (a-1))%2=0:=by
   have:(a &&& (a-1)).testBit 0=false:=by
    rw[pC,ps,ps];by_cases h:a%2=1
    . have:¬(a-1)%2=1:=(by omega);simp[this]
    . simp[h]
   rw[ps]at this;have:=of_decide_eq_false this;omega
  have hd:(a &&& (a-1))/2=(a/2) &&& ((a-1)/2):=by
   apply oK;intro i;rw[<-pz,pC,pC,pz,pz]
  rw[m,hd]
  by_cases h:a%2=1
  . have e:(a-1)/2=a/2:=by omega
    rw[e,Nat.and_self,h]
    omega
  . have e:(a-1)/2=a/2-1:=by omega
    have p:2^(n+1)=2^n*2:=pU 2 n
    have I:=d27 n (a/2) (by omega) (by omega)
    rw[e]
    omega
theorem ds1{a:Nat}(H:0<a)(h:a<2^24):cnt (a &&& (a-1))+1=cnt a:=d27 24 a H h
theorem Z1:cnt 0=0:=by decide
theorem U3{a:Nat}(H:0<a)(h:a<2^24):1<=cnt a:=by have:=ds1 H h;omega
theorem ds2(h:a<2 ^ 24):cnt a=a%2+cnt (a/2):=by
 have o:a / 2<2 ^ 23:=by have:(2:Nat)^24=2^23*2:=by decide
                         omega
 have e:cnt (a/2)=(E2 (a/2) 23).length:=by
  rw[T5 (by omega) o];rfl
 rw[e];exact c73 a 23
def j9:LI->Nat->Nat->Nat
 |[],_,_=>0
 |o :: r,x,y=>(x%o.toNat+y%o.toNat)%o.toNat+o.toNat*j9 r (x/o.toNat) (y/o.toNat)
def q7:LI->Nat->Nat
 |[],_=>0
 |o :: r,x=>(o.toNat-x%o.toNat)%o.toNat+o.toNat*q7 r (x/o.toNat)
def V6(l:LI):Prop:=∀x∈l,1<=x
theorem m0(h:d7 l=true):V6 l:=fun x K=>by
 obtain⟨k,V,rfl⟩:=bg1 K;have:=G4 h V;omega
theorem V6.tail(h:V6 (o :: r)):V6 r:=fun x K=>h x (by simp[K])
theorem V6.head(h:V6 (o :: r)):1<=o.toNat:=by have:=h o (by simp);omega
theorem bv3{R:LI}(h:V6 (o :: R)):ord (o :: R)=o.toNat*ord R:=by
 have H:=h o (by simp);have r:=cj3 R h.tail;unfold ord;simp only[C5];rw[Int.toNat_mul (by omega) (by omega)]
theorem co8:ord []=1:=rfl
theorem dg2{o a:Nat}(h:d<o)(r:a<m):d+o*a<o*m:=by
 have:o*(a+1)<=o*m:=Nat.mul_le_mul_left o r;rw[Nat.mul_add]at this;omega
theorem I4:∀(l:LI),V6 l->∀x y,j9 l x y<ord l
 |[],_,x,y=>by simp[j9,co8]
 |o :: r,h,x,y=>by
  rw[bv3 h];simp only[j9]
  exact dg2 (pu _ (by have:=h.head;omega)) (I4 r h.tail _ _)
theorem U5:∀(l:LI),V6 l->∀x,q7 l x<ord l
 |[],_,x=>by simp[q7,co8]
 |o :: r,h,x=>by
  rw[bv3 h];simp only[q7]
  exact dg2 (pu _ (by have:=h.head;omega)) (U5 r h.tail _)
theorem c34{o a:Nat}(h:d<o):(d+o*a)%o=d:=by rw[Nat.add_mul_mod_self_left];exact qn h
theorem da7{o a:Nat}(h:d<o):(d+o*a)/o=a:=by
 rw[Nat.add_mul_div_left _ _ (by omega),Nat.div_eq_of_lt h];omega
theorem E4:∀(l:LI) (x y:Nat),j9 l x y=j9 l y x
 |[],_,_=>rfl
 |o :: r,x,y=>by simp only[j9];rw[E4 r,Nat.add_comm (x%_)]
theorem M9:∀(l:LI),V6 l->∀x y z,j9 l (j9 l x y) z=j9 l x (j9 l y z)
 |[],_,_,_,_=>rfl
 |o :: r,h,x,y,z=>by
  have H:=h.head
  simp only[j9]
  rw[c34 (pu _ (by omega)),da7 (pu _ (by omega)),c34 (pu _ (by omega)),da7 (pu _ (by omega)),M9 r h.tail]
  congr 1
  simp only[Nat.mod_add_mod,Nat.add_mod_mod,qb]
theorem C9:∀(l:LI),V6 l->∀x,x<ord l->j9 l 0 x=x
 |[],_,x,h=>by simp[co8]at h;simp[j9,h]
 |o :: r,h,x,hx=>by
  have H:=h.head
  rw[bv3 h]at hx
  have hd:x/o.toNat<ord r:=(Nat.div_lt_iff_lt_mul (by omega)).2 (by rw[qE];exact hx)
  simp only[j9,Nat.zero_mod,Nat.zero_div,oM]
  rw[C9 r h.tail _ hd,Nat.mod_mod,Nat.mod_add_div]
theorem P0:∀(l:LI),V6 l->∀x,j9 l x (q7 l x)=0
 |[],_,_=>rfl
 | o :: r,h,x=>by
  have O:=h.head
  simp only[j9,q7]
  rw[c34 (pu _ (by omega)),da7 (pu _ (by omega)),P0 r h.tail]
  have K:=pu x (show 0<o.toNat by omega)
  by_cases H:x%o.toNat=0
  . rw[H];simp
  . rw[qn (show o.toNat-x%o.toNat<o.toNat by omega),show x%o.toNat+(o.toNat-x%o.toNat)=o.toNat by omega]
    simp
theorem b26(h:V6 l)(H:y<ord l)(Z:z<ord l)(e:j9 l x y=j9 l x z):y=z:=by
 have:j9 l (q7 l x) (j9 l x y)=j9 l (q7 l x) (j9 l x z):=by rw[e]
 rw[<-M9 l h,<-M9 l h,E4 l (q7 l x) x,P0 l h,C9 l h _ H,C9 l h _ Z]at this;exact this
def j6(l:LI)(a x:Nat):Nat:=B7 ((j3 a).map (fun y=>j9 l x y))
def j7(l:LI)(a b:Nat):Nat:=B7 ((j3 a).flatMap (fun x=>(j3 b).map (fun y=>j9 l x y)))
def V0(l:LI)(a:Nat):Nat:=B7 ((j3 a).map (fun x=>q7 l x))
theorem E8{a:Nat}:(j6 l a x).testBit z=true↔∃y,y<24/\a.testBit y=true/\j9 l x y=z:=by
 simp[j6,Q0,I0,and_assoc]
theorem C7{a b:Nat}:(j7 l a b).testBit z=true↔∃x y,x<24/\a.testBit x=true/\y<24/\b.testBit y=true/\j9 l x y=z:=by
 simp only[j7,Q0,decide_eq_true_eq,List.mem_flatMap,pp,I0];constructor;rintro⟨x,⟨o,r⟩,y,⟨T,h⟩,H⟩;exact⟨x,y,o,r,T,h,H⟩;rintro⟨x,y,o,r,T,h,H⟩;exact⟨x,⟨o,r⟩,y,⟨T,h⟩,H⟩
theorem b56(h:V6 l)(a x:Nat):j6 l a x<2^ord l:=by
 apply b77;intro Z z;simp at z;obtain⟨y,_,rfl⟩:=z;exact I4 l h _ _
theorem bg8(h:V6 l)(a b:Nat):j7 l a b<2^ord l:=by
 apply b77;intro Z z;simp at z;obtain⟨x,_,y,_,rfl⟩:=z;exact I4 l h _ _
theorem lm5(h:V6 l)(a:Nat):V0 l a<2^ord l:=by
 apply b77;intro Z z;simp at z;obtain⟨x,_,rfl⟩:=z;exact U5 l h _
theorem b18{a b:Bool}(h:a=true↔b=true):a=b:=by cases a<;>cases b<;>simp_all
theorem bz8(l:LI)(a b:Nat):j7 l a b=j7 l b a:=by
 apply oK;intro z;apply b18;rw[C7,C7];constructor<;>rintro⟨x,y,o,r,T,h,H⟩<;>exact⟨y,x,T,h,o,r,by rw[E4];exact H⟩
def j0(l:LI)(a:Int):Bool:=d7 l&&decide (0<=a)&&decide (a<2^ord l)
theorem bq6{a:Int}(h:j0 l a=true):d7 l=true:=by
 simp[j0]at h;exact h.1.1
theorem E7(h:d7 l=true):2^ord l<=2^24:=ot (by omega) (l8 h).2
theorem l7{a:Int}(h:j0 l a=true):∃n:Nat,a=n/\n<2^ord l/\n<2^24/\d7 l=true:=by
 simp[j0]at h;obtain⟨⟨o,r⟩,T⟩:=h;obtain⟨n,rfl⟩:=pl r;have H:n<2^ord l:=by exact_mod_cast T
 exact⟨n,rfl,H,qc H (E7 o),o⟩
def b9(L:LN):LI:=L.map (fun n:Nat=>(n:Int))
def d5(L:LN)(k:Nat):Nat:=L.getD k 0
theorem d9:(b9 L).length=L.length:=by simp[b9]
theorem G6:b9 (L++[n])=b9 L++[(n:Int)]:=by simp[b9]
theorem P7:nth (b9 L) k=(d5 L k:Int):=by
 unfold nth b9 d5;rw[List.getD_eq_getElem?_getD,List.getD_eq_getElem?_getD,List.getElem?_map];cases L[k]?<;>simp
theorem m7{L:LN}{k:Nat}(h:k<L.length):d5 L k∈L:=by
 unfold d5;exact zz128
theorem K9(h:k<L.length):L.take (k+1)=L.take k++[d5 L k]:=by
 rw[pa h];simp[d5,List.getD,h]
theorem j82(A B:LN):B7 (A++B)=B7 A ||| B7 B:=by
 apply oK;intro i;rw[oN,Q0,Q0,Q0];by_cases h:i∈A<;>by_cases r:i∈B<;>simp[h,r]
theorem ln9:shr (shr a k) 1=shr a (k+1):=by unfold shr;rw[Nat.shiftRight_add]
theorem b14(h:d7 l=true)(x y:Nat):j9 l x y<24:=qc (I4 l (m0 h) x y) (l8 h).2
theorem K8(h:d7 l=true)(a x:Nat):j6 l a x<2^24:=qc (b56 (m0 h) a x) (E7 h)
theorem H7(h:d7 l=true)(a b:Nat):j7 l a b<2^24:=qc (bg8 (m0 h) a b) (E7 h)
theorem dc4(h:d7 l=true)(a:Nat):V0 l a<2^24:=qc (lm5 (m0 h) a) (E7 h)
theorem D0:(j3 a).length<=24:=p8 a
def bd2(l:LI)(L:LN)(b:Nat):Nat:=B7 (L.flatMap (fun x=>(j3 b).map (fun y=>j9 l x y)))
theorem d84(l:LI)(L:LN)(x b:Nat):bd2 l (L++[x]) b=bd2 l L b ||| j6 l b x:=by
 unfold bd2 j6;rw[List.flatMap_append,j82];simp
theorem dl0(l:LI)(a b:Nat):bd2 l (j3 a) b=j7 l a b:=rfl
theorem j55(h:d7 l=true)(L:LN)(b:Nat):bd2 l L b<2^24:=by
 apply qc _ (E7 h);apply b77;intro Z z;simp at z;obtain⟨x,_,y,_,rfl⟩:=z;exact I4 l (m0 h) _ _
def S8(l:LI)(a:LI):Bool:=a.all (j0 l)&&d7 l
theorem df0{k:Nat}(h:k<l.length){q:Nat}(H:nth l k=(q:Int))(x y:Nat):j9 (l.drop k) x y=(x%q+y%q)%q+q*j9 (l.drop (k+1)) (x/q) (y/q):=by
 rw[c77 l k h,H];simp[j9]
def c79(c:LI)(x:Nat):Bool:=(nth c (x-1) == nth c (c.length-1))&&(nth c (c.length-x-1) == nth c (c.length-1))
def jk0(c:LI)(k:Nat):Bool:=(List.range k).any (fun j=>decide (2*(j+1)<=c.length)&&c79 c (j+1))
def b38(c:LI):Bool:=jk0 c c.length
theorem dq5(o:1<=x)(r:2*x<=c.length)(h:c79 c x=true):b38 c=true:=by
 unfold b38 jk0;rw[pt];refine⟨x-1,ou.2 (by omega),?_⟩;rw[show x-1+1=x from by omega,h];simpa using r
theorem jc6{n:Nat}(H:c.length<2*n)(h:∀x,1<=x->x<n->c79 c x=false):b38 c=false:=by
 unfold b38 jk0;rw[List.any_eq_false];intro j J;by_cases r:2*(j+1)<=c.length;rw[h (j+1) (by omega) (by omega)];simp;simp[r]
theorem du4(h:(nth c (x-1) == nth c (c.length-1))=false):c79 c x=false:=by unfold c79;rw[h];rfl
theorem bx7(h:(nth c (x-1) == nth c (c.length-1))=true):c79 c x=(nth c (c.length-x-1) == nth c (c.length-1)):=by unfold c79;rw[h];rfl
def c75:Nat->Nat->LI->Nat->Bool
 |0,_,_,_=>false
 |f+1,k,c,u=>(List.range (min k (u+1))).all (fun (x:Nat)=>b38 (c++[(x:Int)]) || c75 f k (c++[(x:Int)]) (max u (x+1)))
theorem cf0{f k:Nat}(h:c75 (f+1) k c u=true)(K:x<k)(H:x<=u)(C:b38 (c++[(x:Int)])=false):c75 f k (c++[(x:Int)]) (max u (x+1))=true:=by
 unfold c75 at h;have:=oC.1 h x (ou.2 (by omega));rw[C]at this;simpa using this
def bh6:Nat->Nat->LI->Nat->LI
 |0,_,c,_=>c
 |f+1,k,c,u=>(List.range (min k (u+1))).foldl (fun (b:LI) (x:Nat)=>if b38 (c++[(x:Int)])then b else if b.length<(bh6 f k (c++[(x:Int)]) (max u (x+1))).length then bh6 f k (c++[(x:Int)]) (max u (x+1))else b) c
def W7(f k:Nat)(c:LI)(u n:Nat):LI:=(List.range n).foldl (fun (b:LI) (x:Nat)=>if b38 (c++[(x:Int)])then b else if b.length<(bh6 f k (c++[(x:Int)]) (max u (x+1))).length then bh6 f k (c++[(x:Int)]) (max u (x+1))else b) c
theorem jr0(c:LI)(u:Nat):bh6 (f+1) k c u=W7 f k c u (min k (u+1)):=rfl
theorem jk8{f k n:Nat}(h:b38 (c++[(n:Int)])=true):W7 f k c u (n+1)=W7 f k c u n:=by
 unfold W7;rw[oW,oH];simp only[oR,py];rw[h];rfl
theorem j86{f k n:Nat}(h:b38 (c++[(n:Int)])=false)(l:(W7 f k c u n).length<(bh6 f k (c++[(n:Int)]) (max u (n+1))).length):W7 f k c u (n+1)=bh6 f k (c++[(n:Int)]) (max u (n+1)):=by
 unfold W7 at l|-;rw[oW,oH];simp only[oR,py];rw[h,if_pos l];rfl
theorem j85{f k n:Nat}(h:b38 (c++[(n:Int)])=false)(l:¬(W7 f k c u n).length<(bh6 f k (c++[(n:Int)]) (max u (n+1))).length):W7 f k c u (n+1)=W7 f k c u n:=by
 unfold W7 at l|-;rw[oW,oH];simp only[oR,py];rw[h,if_neg l];rfl
def bo6:Nat->Nat->LI->Nat->LI->LI
 |0,_,_,_,b=>b
 |f+1,k,c,u,b=>(List.range (min k (u+1))).foldl (fun (b:LI) (x:Nat)=>if b38 (c++[(x:Int)])then b else bo6 f k (c++[(x:Int)]) (max u (x+1)) b) (if b.length<c.length then c else b)
def W6(f k:Nat)(c:LI)(u:Nat)(b:LI)(n:Nat):LI:=(List.range n).foldl (fun (b:LI) (x:Nat)=>if b38 (c++[(x:Int)])then b else bo6 f k (c++[(x:Int)]) (max u (x+1)) b) (if b.length<c.length then c else b)
theorem df8(c:LI)(u:Nat)(b:LI):bo6 (f+1) k c u b=W6 f k c u b (min k (u+1)):=rfl
theorem dm2{f k:Nat}(h:b.length<c.length):W6 f k c u b 0=c:=by unfold W6;simp[h]
theorem dm1{f k:Nat}(h:¬b.length<c.length):W6 f k c u b 0=b:=by unfold W6;simp[h]
theorem d29{f k n:Nat}(h:b38 (c++[(n:Int)])=true):W6 f k c u b (n+1)=W6 f k c u b n:=by
 unfold W6;rw[oW,oH];simp only[oR,py];rw[h];rfl
theorem cr7{f k n:Nat}(h:b38 (c++[(n:Int)])=false):W6 f k c u b (n+1)=bo6 f k (c++[(n:Int)]) (max u (n+1)) (W6 f k c u b n):=by
 unfold W6;rw[oW,oH];simp only[oR,py];rw[h];rfl
def c08(k:Int):LI:=if inB k 1 3 then bh6 15 k.toNat [] 0 else []
theorem je2{k:Int}(h:inB k 1 3=false):c08 k=[]:=by unfold c08;rw[h];rfl
theorem ds6{k:Nat}(h:inB k 1 3=true):c08 k=bh6 15 k [] 0:=by unfold c08;rw[h];rfl
theorem ds7{k:Nat}(o:1<=k)(T:k<=3):c75 15 k [] 0=true:=by
 rcases (by omega:k=1\/k=2\/k=3)with rfl|rfl|rfl<;>decide +kernel
theorem l44{k:Nat}(o:1<=k)(T:k<=3):bo6 15 k [] 0 []=bh6 15 k [] 0:=by
 rcases (by omega:k=1\/k=2\/k=3)with rfl|rfl|rfl<;>decide +kernel
def dvS(M:LN)(i k:Nat):LN:=(M.set i (d5 M i/Nat.gcd (d5 M i) (d5 M k)*d5 M k)).set k (Nat.gcd (d5 M i) (d5 M k))
def dvT(M:LN)(i k:Nat):LN:=(M.set i (Nat.gcd (d5 M i) (d5 M k))).set k (d5 M i/Nat.gcd (d5 M i) (d5 M k)*d5 M k)
def bh7(f:LN->Nat->Nat->LN)(i:Nat)(M:LN):Nat->LN
 |0=>M
 |m+1=>f (bh7 f i M m) i (i+1+m)
def T9(f:LN->Nat->Nat->LN)(n:Nat)(M:LN):Nat->LN
 |0=>M
 |j+1=>bh7 f j (T9 f n M j) (n-(j+1))
def b36(M:LN):Nat->Nat
 |0=>1
 |k+1=>b36 M k+d5 M k-1
def jl1(n:Nat)(M:LN):Bool:=decide (M.length=n)&&M.all fun x=>decide (1<=x)&&decide (x<=24)
def bm2(f:LN->Nat->Nat->LN)(M:LN):Bool :=
 ((List.range M.length).all fun i=>(List.range (M.length-i)).all fun m=>jl1 M.length (bh7 f i (T9 f M.length M i) m))&&jl1 M.length (T9 f M.length M M.length)
def W3(f:LN->Nat->Nat->LN)(M:LN):Nat:=b36 (T9 f M.length M M.length) M.length
def bx6(M:LN):Bool:=bm2 dvS M&&(bm2 dvT M&&decide (W3 dvS M=W3 dvT M))
theorem dv0:bx6 []=true:=by decide +kernel
theorem dv1:((List.range 25).all fun a=>decide (a<2) || bx6 [a])=true:=by decide +kernel
theorem dv2:((List.range 25).all fun a=>decide (a<2) || (List.range 25).all fun b=>decide (b<2) || (decide (24<a*b) || bx6 [a,b]))=true:=by decide +kernel
theorem dv3:((List.range 25).all fun a=>decide (a<2) || (List.range 25).all fun b=>decide (b<2) || (decide (12<a*b) || (List.range 25).all fun c=>decide (c<2) || (decide (24<a*b*c) || bx6 [a,b,c])))=true:=by decide +kernel
theorem bb2{p:Prop}[Decidable p]{b:Bool}(h:(decide p || b)=true)(n:¬p):b=true:=by
 rw[decide_eq_false n]at h;simpa using h
theorem rg{p:Nat->Bool}(h:(List.range 25).all p=true){a:Nat}(H:a<=24):p a=true:=oC.1 h a (ou.2 (by omega))
def S9(l:LI):LN:=l.map Int.toNat
theorem dj1(h:d7 l=true):b9 (S9 l)=l:=by
 unfold b9 S9;rw[qQ];refine(qA fun x K=>?_).trans (List.map_id l);obtain⟨i,J,rfl⟩:=px K;have:=G4 h J;have e:nth l i=l[i]:=by simp[nth,List.getD,J]
 rw[e]at this;show((l[i].toNat:Nat):Int)=l[i];omega
theorem du2(h:d7 l=true):bx6 (S9 l)=true:=by
 obtain⟨T,n,p⟩:=(W9 l).1 h;match l,T,n,p with
 |[],_,_,_=>exact dv0
 |[a],_,n,_ =>
  have H:2<=a/\a<=24:=n 0 (by simp);exact bb2 (rg dv1 (a:=a.toNat) (by omega)) (by omega)
 |[a,b],_,n,p =>
  have H:2<=a/\a<=24:=n 0 (by simp);have o:2<=b/\b<=24:=n 1 (by simp);have P:a*b<=24:=by simpa[C5]using p
  have e:((a.toNat*b.toNat:Nat):Int)=a*b:=by rw[oO];congr 1<;>omega
  exact bb2 (bb2 (rg (bb2 (rg dv2 (a:=a.toNat) (by omega)) (by omega)) (a:=b.toNat) (by omega)) (by omega)) (by omega)
 |[a,b,c],_,n,p =>
  have H:2<=a/\a<=24:=n 0 (by simp);have o:2<=b/\b<=24:=n 1 (by simp);have r:2<=c/\c<=24:=n 2 (by simp);have P:a*b*c<=24:=by rw[Int.mul_assoc];simpa[C5]using p
  have e:((a.toNat*b.toNat*c.toNat:Nat):Int)=a*b*c:=by rw[oO,oO];congr 1;congr 1<;>omega;omega
  have A:a.toNat*b.toNat*2<=a.toNat*b.toNat*c.toNat:=Nat.mul_le_mul_left _ (by omega);have u:=rg (bb2 (rg dv3 (a:=a.toNat) (by omega)) (by omega)) (a:=b.toNat) (by omega);exact bb2 (bb2 (rg (bb2 (bb2 u (by omega)) (by omega)) (a:=c.toNat) (by omega)) (by omega)) (by omega)
 |_ :: _ :: _ :: _ :: _,T,_,_=>simp at T
theorem lj2(h:d7 l=true):W3 dvS (S9 l)=W3 dvT (S9 l):=by
 have:=du2 h;unfold bx6 at this;rw[ow,ow]at this;exact of_decide_eq_true this.2.2
theorem lj1(h:d7 l=true):bm2 dvS (S9 l)=true:=by
 have:=du2 h;unfold bx6 at this;rw[ow,ow]at this;exact this.1
theorem je6(h:d7 l=true):bm2 dvT (S9 l)=true:=by
 have:=du2 h;unfold bx6 at this;rw[ow,ow]at this;exact this.2.1
theorem du1{n:Nat}(h:jl1 n M=true):M.length=n/\∀i,i<n->1<=d5 M i/\d5 M i<=24:=by
 unfold jl1 at h;rw[ow]at h;have l:=of_decide_eq_true h.1;refine⟨l,fun i J=>?_⟩;have:=oC.1 h.2 (d5 M i) (m7 (by omega));simpa using this
theorem du0{f:LN->Nat->Nat->LN}(h:bm2 f M=true)(J:i<M.length)(H:m<M.length-i):(bh7 f i (T9 f M.length M i) m).length=M.length/\∀j,j<M.length->1<=d5 (bh7 f i (T9 f M.length M i) m) j/\d5 (bh7 f i (T9 f M.length M i) m) j<=24:=by
 unfold bm2 at h;rw[ow]at h;exact du1 (oC.1 (oC.1 h.1 i (ou.2 J)) m (ou.2 H))
theorem cf6{f:LN->Nat->Nat->LN}(h:bm2 f M=true):(T9 f M.length M M.length).length=M.length/\∀j,j<M.length->1<=d5 (T9 f M.length M M.length) j/\d5 (T9 f M.length M M.length) j<=24:=by
 unfold bm2 at h;rw[ow]at h;exact du1 h.2
theorem c78(M:LN)(h:∀j,j<M.length->1<=d5 M j/\d5 M j<=24):∀k,k<=M.length->1<=b36 M k/\b36 M k<=1+24*k
 |0,_=>by simp[b36]
 |k+1,hk=>by
  have:=c78 M h k (by omega)
  have:=h k (by omega)
  unfold b36;omega
def U1(l:LI)(x:Nat):Nat->Nat
 |0=>0
 |n+1=>j9 l (U1 l x n) x
theorem c45(h:d7 l=true)(x n:Nat):U1 l x n<24:=by
 cases n with
 |zero=>exact(by decide:0<24)
 |succ n=>exact b14 h _ _
def plR(l:LI)(x:Nat):Nat->Nat
 |0=>x
 |k+1=>plR l x k/(nth l k).toNat
def plP(l:LI)(x:Nat):Nat->LN
 |0=>[]
 |k+1=>plP l x k++[plR l x k%(nth l k).toNat]
theorem bs6(l:LI)(x:Nat):∀k,(plP l x k).length=k
 |0=>rfl
 |k+1=>by simp[plP,bs6 l x k]
theorem d57(l:LI)(x:Nat):∀k,plR l x k<=x
 |0=>oc _
 |k+1=>Nat.le_trans (po _ _) (d57 l x k)
theorem jy1(l:LI)(x:Nat):∀k,∀y∈plP l x k,y<=x
 |0=>by simp[plP]
 |k+1=>by
  intro y h
  rw[plP,oP,oE]at h
  rcases h with h|rfl
  . exact jy1 l x k y h
  . exact Nat.le_trans (Nat.mod_le _ _) (d57 l x k)
theorem d56(l:LI)(x:Nat){k:Nat}(J:i<k):d5 (plP l x k) i<=x:=jy1 l x k _ (m7 (by rw[bs6];exact J))
end Go.Zz
