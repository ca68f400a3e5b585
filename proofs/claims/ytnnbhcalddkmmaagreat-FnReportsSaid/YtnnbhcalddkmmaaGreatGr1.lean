/-
  Plain facts on numbers, lists, bit sets and groups that are given by their orders. No program is named here.
-/
set_option linter.unusedSimpArgs false
set_option linter.unusedVariables false
set_option linter.unnecessarySimpa false
set_option maxHeartbeats 4000000
set_option maxRecDepth 100000
namespace Go.Zz
def nth(l:List Int)(i:Nat):Int:=l.getD i 0
def inB(x lo hi:Int):Bool:=decide (lo<=x)&&decide (x<=hi)
theorem Z9{x lo hi:Int}:inB x lo hi=true↔lo<=x∧x<=hi:=by simp[inB]
theorem d40{x lo hi:Int}:inB x lo hi=false↔¬(lo<=x∧x<=hi):=by rw[<-Z9];simp
theorem zz134{P:Prop}(h:P:=by rw[List.getD_eq_getElem?_getD,List.getElem?_eq_getElem h];exact List.getElem_mem h):P:=h
theorem b49{l:List Int}{k:Nat}(h:k<l.length):nth l k∈l:=by
 unfold nth;exact zz134
theorem bb8{l:List Int}{x:Int}(h:x∈l):∃k,k<l.length∧nth l k=x:=by
 obtain⟨k,hk,rfl⟩:=List.getElem_of_mem h;exact⟨k,hk,by simp[nth,List.getD,hk]⟩
theorem dh5(l:List Int)(k:Nat)(h:k<l.length):l.take (k+1)=l.take k++[nth l k]:=by
 rw[List.take_succ_eq_append_getElem h];simp[nth,List.getD,h]
theorem bv5(l:List Int)(k:Nat)(h:k<l.length):l.drop k=nth l k :: l.drop (k+1):=by
 rw[List.drop_eq_getElem_cons h];simp[nth,List.getD,h]
theorem bc2(l:List Int)(k:Nat)(h:k<l.length):nth l k=l[k]:=by simp[nth,List.getD,h]
theorem c80{l m:List Int}(hl:l.length=m.length)(h:∀i,i<l.length->nth l i=nth m i):l=m:=by
 apply List.ext_getElem hl;intro i h1 h2;have:=h i h1;rwa [bc2 _ _ h1,bc2 _ _ h2] at this
def A0:List Int->Int
 | []=>1
 | o :: r=>o*A0 r
def j1(l:List Int):Bool:=decide (l.length<=3)&&l.all (fun x=>inB x 2 24)&&decide (A0 l<=24)
theorem de3(l m:List Int):A0 (l++m)=A0 l*A0 m:=by
 induction l with
 | nil=>simp[A0]
 | cons o r ih=>simp[A0,ih,Int.mul_assoc]
theorem W2(l:List Int)(k:Nat)(h:k<l.length):A0 (l.take (k+1))=A0 (l.take k)*nth l k:=by
 rw[dh5 l k h,de3];simp[A0]
theorem c43:∀(l:List Int),(∀x∈l,1<=x)->1<=A0 l
 | [],_=>by simp[A0]
 | o :: r,h=>by
  have h1:=h o (by simp)
  have h2:=c43 r (fun x hx=>h x (by simp[hx]))
  simp only[A0]
  have:=Int.mul_le_mul h1 h2 (by omega) (by omega);omega
theorem de4:∀(k:Nat) (l:List Int),k<=l.length->(∀j,j<k->2<=nth l j∧nth l j<=24)->1<=A0 (l.take k)∧A0 (l.take k)<=24 ^ k
 | 0,l,_,_=>by simp[A0]
 | k+1,l,h2,h3=>by
  have ih:=de4 k l (by omega) (fun j hj=>h3 j (by omega))
  have hk:=h3 k (by omega)
  rw[W2 l k (by omega),Int.pow_succ]
  constructor
  . have:=Int.mul_le_mul ih.1 (by omega:(1:Int)<=nth l k) (by omega) (by omega);omega
  . exact Int.mul_le_mul ih.2 hk.2 (by omega) (by have:(0:Int)<=24 ^ k:=Int.pow_nonneg (by omega);omega)
theorem b07(k:Nat)(l:List Int)(h:k<=l.length)(hk:k<=3)(hall:∀j,j<k->2<=nth l j∧nth l j<=24):1<=A0 (l.take k)∧A0 (l.take k)<=13824:=by
 have hp:=de4 k l h hall;have hp2:(24:Int)^k<=24^3:=by rcases (by omega:k=0∨k=1∨k=2∨k=3) with e | e | e | e<;>subst e<;>decide
 omega
theorem bx1{a b:Int}(h1:1<=a)(h2:a<=13824)(h3:2<=b)(h4:b<=24):0<=a*b∧a*b<=331776 :=
 ⟨Int.mul_nonneg (by omega) (by omega),by have:=Int.mul_le_mul h2 h4 (by omega) (by omega);omega⟩
theorem U8(l:List Int):j1 l=true↔l.length<=3∧(∀j,j<l.length->2<=nth l j∧nth l j<=24)∧A0 l<=24:=by
 simp only[j1,Bool.and_eq_true,decide_eq_true_eq,List.all_eq_true,Z9,and_assoc];constructor
 . rintro⟨a,b,c⟩;exact⟨a,fun j hj=>b _ (b49 hj),c⟩
 . rintro⟨a,b,c⟩;exact⟨a,fun x hx=>by obtain⟨k,hk,rfl⟩:=bb8 hx;exact b k hk,c⟩
theorem C6{l:List Int}(h:j1 l=true):l.length<=3:=((U8 l).1 h).1
theorem E3{l:List Int}(h:j1 l=true){j:Nat}(hj:j<l.length):2<=nth l j∧nth l j<=24:=((U8 l).1 h).2.1 j hj
theorem cm0{l:List Int}(h:j1 l=true):1<=A0 l∧A0 l<=24:=by
 obtain⟨a,b,c⟩:=(U8 l).1 h;exact⟨c43 l (fun x hx=>by obtain⟨k,hk,rfl⟩:=bb8 hx;have:=b k hk;omega),c⟩
theorem c30{l:List Int}(h:3<l.length):j1 l=false:=by
 rw[<-Bool.not_eq_true,U8];omega
theorem c31{l:List Int}{j:Nat}(hj:j<l.length)(h:¬(2<=nth l j∧nth l j<=24)):j1 l=false:=by
 rw[<-Bool.not_eq_true,U8];rintro⟨_,b,_⟩;exact h (b j hj)
theorem cy1{l:List Int}(h:l.length<=3)(b:∀j,j<l.length->2<=nth l j∧nth l j<=24):j1 l=decide (A0 l<=24):=by
 by_cases c:A0 l<=24
 . rw[(U8 l).2 ⟨h,b,c⟩];simp[c]
 . have:j1 l=false:=(by rw[<-Bool.not_eq_true,U8];rintro⟨_,_,d⟩;exact c d);rw[this];simp[c]
def b40(l:List Int):Int:=if j1 l then A0 l else 0
def ord(l:List Int):Nat:=(A0 l).toNat
theorem bc4{l:List Int}(h:j1 l=true):(ord l:Int)=A0 l:=by
 have:=cm0 h;unfold ord;omega
theorem m8{l:List Int}(h:j1 l=true):1<=ord l∧ord l<=24:=by
 have:=cm0 h;have:=bc4 h;omega
theorem ba2{l:List Int}(h:j1 l=true):b40 l=(ord l:Int):=by unfold b40;rw[if_pos h,bc4 h]
theorem cn3{l:List Int}(h:j1 l=false):b40 l=0:=by unfold b40;rw[h];rfl
theorem bc3(l:List Int):0<=b40 l∧b40 l<=24:=by
 cases h:j1 l
 . rw[cn3 h];omega
 . rw[ba2 h];have:=m8 h;omega
def pw(n:Nat):Nat:=2 ^ n
def shr(a n:Nat):Nat:=a >>> n
theorem dw6(n:Nat):pw n=2 ^ n:=rfl
theorem T3(n:Nat):1<=pw n:=Nat.one_le_two_pow
theorem b51{n:Nat}(h:n<=24):pw n<=16777216:=Nat.pow_le_pow_right (n:=2) (by omega) h
theorem j46(n:Nat):(pw n:Int)=2 ^ n:=by unfold pw;simp
theorem dr8(a:Nat):shr a 1=a / 2:=by unfold shr;rw[Nat.shiftRight_eq_div_pow]
theorem bt0(a n:Nat):shr a n<=a:=by unfold shr;rw[Nat.shiftRight_eq_div_pow];exact Nat.div_le_self _ _
def j7(a:Nat):List Nat:=(List.range 24).filter (fun i=>a.testBit i)
def cnt(a:Nat):Nat:=(j7 a).length
def U6(L:List Nat):Nat:=L.foldl (fun a z=>a ||| 2 ^ z) 0
theorem F3{a x:Nat}:x∈j7 a↔x<24∧a.testBit x=true:=by simp[j7]
theorem r9(a:Nat):cnt a<=24:=by
 unfold cnt j7;exact Nat.le_trans (List.length_filter_le _ _) (by simp)
theorem I9{a x:Nat}(h:x∈j7 a):x<24:=(F3.1 h).1
theorem dy9(L:List Nat):∀a:Nat,∀i,(L.foldl (fun a z=>a ||| 2 ^ z) a).testBit i=(a.testBit i || decide (i∈L)):=by
 induction L with
 | nil=>intro a i;simp
 | cons z L ih =>
  intro a i;rw[List.foldl_cons,ih,Nat.testBit_or,Nat.testBit_two_pow];by_cases h:z=i
  . subst h;simp
  . have h':¬i=z:=fun e=>h e.symm;simp[h,h']
theorem O6(L:List Nat)(i:Nat):(U6 L).testBit i=decide (i∈L):=by
 unfold U6;rw[dy9];simp
theorem bl4(L:List Nat)(z:Nat):U6 (L++[z])=U6 L ||| 2 ^ z:=by simp[U6]
theorem b43{L:List Nat}{n:Nat}(h:∀x∈L,x<n):U6 L<2 ^ n:=by
 apply Nat.lt_pow_two_of_testBit;intro i hi;rw[O6];simp only[decide_eq_false_iff_not];intro hm;have:=h i hm;omega
theorem U2{a n i:Nat}(h:a<2 ^ n)(hi:n<=i):a.testBit i=false :=
 Nat.testBit_lt_two_pow (Nat.lt_of_lt_of_le h (Nat.pow_le_pow_right (by omega) hi))
def B8(a k:Nat):List Nat:=(List.range k).filter (fun i=>a.testBit i)
theorem E2(a k:Nat):B8 a (k+1)=B8 a k++if a.testBit k then [k] else []:=by
 unfold B8;rw[List.range_succ,List.filter_append];congr 1;cases h:a.testBit k<;>simp[h]
theorem U0{a k:Nat}(hk:k<=24)(h:a<2 ^ k):B8 a k=j7 a:=by
 have key:∀d,B8 a (k+d)=B8 a k:=by
  intro d;induction d with
  | zero=>rfl
  | succ d ih=>rw[<-Nat.add_assoc,E2,ih,U2 h (by omega)];simp
 have:=key (24 - k);rw[show k+(24 - k)=24 from by omega] at this;exact this.symm
theorem bd7(a k:Nat):(B8 a k).length<=k:=by
 unfold B8;exact Nat.le_trans (List.length_filter_le _ _) (by simp)
theorem bx9{a k:Nat}:shr a k=0↔a<2 ^ k:=by
 unfold shr;rw[Nat.shiftRight_eq_div_pow,Nat.div_eq_zero_iff];constructor
 . rintro (h | h)
   . have:0<2 ^ k:=Nat.two_pow_pos k;omega
   . exact h
 . intro h;exact .inr h
theorem cu2{a k:Nat}(h:¬shr a k=0)(ha:a<2 ^ 24):k<24:=by
 rw[bx9] at h;rcases Nat.lt_or_ge k 24 with hk | hk
 . exact hk
 . exact absurd (Nat.lt_of_lt_of_le ha (Nat.pow_le_pow_right (by omega) hk)) h
theorem by3(a:Nat):∀n,B8 a (n+1)=(if a.testBit 0 then [0] else [])++(B8 (a / 2) n).map (· + 1)
 | 0=>by rw[E2];simp[B8]
 | n+1=>by
  rw[E2,by3 a n,E2,List.map_append,<-List.append_assoc]
  congr 1
  rw[Nat.testBit_succ]
  cases (a / 2).testBit n<;>simp
theorem bv2(a n:Nat):(B8 a (n+1)).length=a % 2+(B8 (a / 2) n).length:=by
 rw[by3,List.length_append,List.length_map];have:a.testBit 0=decide (a % 2=1):=Nat.testBit_zero a;rw[this];by_cases h:a % 2=1
 . simp[h]
 . have:a % 2=0:=(by omega);simp[this]
theorem zz160{P:Prop}(h:P:=by apply Nat.eq_of_testBit_eq;intro i;rw[<-Nat.testBit_succ,Nat.testBit_and,Nat.testBit_and,Nat.testBit_succ,Nat.testBit_succ]):P:=h
theorem ck8:∀(n a:Nat),0<a->a<2 ^ n->(B8 (a &&& (a - 1)) n).length+1=(B8 a n).length
 | 0,a,h0,h1=>by simp at h1;omega
 | n+1,a,h0,h1=>by
  rw[bv2,bv2 a]
  have hm:(a &&& (a - 1)) % 2=0:=by
   have:(a &&& (a - 1)).testBit 0=false:=by
    rw[Nat.testBit_and,Nat.testBit_zero,Nat.testBit_zero];by_cases h:a % 2=1
    . have:¬(a - 1) % 2=1:=(by omega);simp[this]
    . simp[h]
   rw[Nat.testBit_zero] at this;have:=of_decide_eq_false this;omega
  have hd:(a &&& (a - 1)) / 2=(a / 2) &&& ((a - 1) / 2):=by
   exact zz160
  rw[hm,hd]
  by_cases h:a % 2=1
  . have e:(a - 1) / 2=a / 2:=by omega
    rw[e,Nat.and_self,h]
    omega
  . have e:(a - 1) / 2=a / 2 - 1:=by omega
    have hp:2 ^ (n+1)=2 ^ n*2:=Nat.pow_succ 2 n
    have ih:=ck8 n (a / 2) (by omega) (by omega)
    rw[e]
    omega
theorem d71{a:Nat}(h0:0<a)(h:a<2 ^ 24):cnt (a &&& (a - 1))+1=cnt a:=ck8 24 a h0 h
theorem W7:cnt 0=0:=by decide
theorem R6{a:Nat}(h0:0<a)(h:a<2 ^ 24):1<=cnt a:=by have:=d71 h0 h;omega
theorem d72(a:Nat)(h:a<2 ^ 24):cnt a=a % 2+cnt (a / 2):=by
 have h1:a / 2<2 ^ 23:=by have:(2:Nat) ^ 24=2 ^ 23*2:=by decide
                          omega
 have e:cnt (a / 2)=(B8 (a / 2) 23).length:=by
  rw[U0 (by omega) h1];rfl
 rw[e];exact bv2 a 23
def m6:List Int->Nat->Nat->Nat
 | [],_,_=>0
 | o :: r,x,y=>(x % o.toNat+y % o.toNat) % o.toNat+o.toNat*m6 r (x / o.toNat) (y / o.toNat)
def p9:List Int->Nat->Nat
 | [],_=>0
 | o :: r,x=>(o.toNat - x % o.toNat) % o.toNat+o.toNat*p9 r (x / o.toNat)
def U4(l:List Int):Prop:=∀x∈l,1<=x
theorem m9{l:List Int}(h:j1 l=true):U4 l:=fun x hx=>by
 obtain⟨k,hk,rfl⟩:=bb8 hx;have:=E3 h hk;omega
theorem U4.tail{o:Int}{r:List Int}(h:U4 (o :: r)):U4 r:=fun x hx=>h x (by simp[hx])
theorem U4.head{o:Int}{r:List Int}(h:U4 (o :: r)):1<=o.toNat:=by have:=h o (by simp);omega
theorem bj3{o:Int}{r:List Int}(h:U4 (o :: r)):ord (o :: r)=o.toNat*ord r:=by
 have h1:=h o (by simp);have h2:=c43 r h.tail;unfold ord;simp only[A0];rw[Int.toNat_mul (by omega) (by omega)]
theorem c92:ord []=1:=rfl
theorem cw3{d o a m:Nat}(h1:d<o)(h2:a<m):d+o*a<o*m:=by
 have:o*(a+1)<=o*m:=Nat.mul_le_mul_left o h2;rw[Nat.mul_add] at this;omega
theorem F2:∀(l:List Int),U4 l->∀x y,m6 l x y<ord l
 | [],_,x,y=>by simp[m6,c92]
 | o :: r,h,x,y=>by
  rw[bj3 h];simp only[m6]
  exact cw3 (Nat.mod_lt _ (by have:=h.head;omega)) (F2 r h.tail _ _)
theorem P3:∀(l:List Int),U4 l->∀x,p9 l x<ord l
 | [],_,x=>by simp[p9,c92]
 | o :: r,h,x=>by
  rw[bj3 h];simp only[p9]
  exact cw3 (Nat.mod_lt _ (by have:=h.head;omega)) (P3 r h.tail _)
theorem bq7{d o a:Nat}(h:d<o):(d+o*a) % o=d:=by rw[Nat.add_mul_mod_self_left];exact Nat.mod_eq_of_lt h
theorem cr7{d o a:Nat}(h:d<o):(d+o*a) / o=a:=by
 rw[Nat.add_mul_div_left _ _ (by omega),Nat.div_eq_of_lt h];omega
theorem D4:∀(l:List Int) (x y:Nat),m6 l x y=m6 l y x
 | [],_,_=>rfl
 | o :: r,x,y=>by simp only[m6];rw[D4 r,Nat.add_comm (x % _)]
theorem I0:∀(l:List Int),U4 l->∀x y z,m6 l (m6 l x y) z=m6 l x (m6 l y z)
 | [],_,_,_,_=>rfl
 | o :: r,h,x,y,z=>by
  have ho:=h.head
  simp only[m6]
  rw[bq7 (Nat.mod_lt _ (by omega)),cr7 (Nat.mod_lt _ (by omega)),bq7 (Nat.mod_lt _ (by omega)),cr7 (Nat.mod_lt _ (by omega)),I0 r h.tail]
  congr 1
  simp only[Nat.mod_add_mod,Nat.add_mod_mod,Nat.add_assoc]
theorem A7:∀(l:List Int),U4 l->∀x,x<ord l->m6 l 0 x=x
 | [],_,x,h=>by simp[c92] at h;simp[m6,h]
 | o :: r,h,x,hx=>by
  have ho:=h.head
  rw[bj3 h] at hx
  have hd:x / o.toNat<ord r:=(Nat.div_lt_iff_lt_mul (by omega)).2 (by rw[Nat.mul_comm];exact hx)
  simp only[m6,Nat.zero_mod,Nat.zero_div,Nat.zero_add]
  rw[A7 r h.tail _ hd,Nat.mod_mod,Nat.mod_add_div]
theorem J6:∀(l:List Int),U4 l->∀x,m6 l x (p9 l x)=0
 | [],_,_=>rfl
 | o :: r,h,x=>by
  have ho:=h.head
  simp only[m6,p9]
  rw[bq7 (Nat.mod_lt _ (by omega)),cr7 (Nat.mod_lt _ (by omega)),J6 r h.tail]
  have hx:=Nat.mod_lt x (show 0<o.toNat by omega)
  by_cases h0:x % o.toNat=0
  . rw[h0];simp
  . rw[Nat.mod_eq_of_lt (show o.toNat - x % o.toNat<o.toNat by omega),show x % o.toNat+(o.toNat - x % o.toNat)=o.toNat by omega]
    simp
theorem Y9{l:List Int}(h:U4 l){x y z:Nat}(hy:y<ord l)(hz:z<ord l)(e:m6 l x y=m6 l x z):y=z:=by
 have:m6 l (p9 l x) (m6 l x y)=m6 l (p9 l x) (m6 l x z):=by rw[e]
 rw[<-I0 l h,<-I0 l h,D4 l (p9 l x) x,J6 l h,A7 l h _ hy,A7 l h _ hz] at this;exact this
def j6(l:List Int)(a x:Nat):Nat:=U6 ((j7 a).map (fun y=>m6 l x y))
def l7(l:List Int)(a b:Nat):Nat:=U6 ((j7 a).flatMap (fun x=>(j7 b).map (fun y=>m6 l x y)))
def bj1(l:List Int)(a:Nat):Nat:=U6 ((j7 a).map (fun x=>p9 l x))
theorem D0{l:List Int}{a x z:Nat}:(j6 l a x).testBit z=true↔∃y,y<24∧a.testBit y=true∧m6 l x y=z:=by
 simp[j6,O6,F3,and_assoc]
theorem C7{l:List Int}{a b z:Nat}:(l7 l a b).testBit z=true↔∃x y,x<24∧a.testBit x=true∧y<24∧b.testBit y=true∧m6 l x y=z:=by
 simp only[l7,O6,decide_eq_true_eq,List.mem_flatMap,List.mem_map,F3];constructor
 . rintro⟨x,⟨h1,h2⟩,y,⟨h3,h4⟩,h5⟩;exact⟨x,y,h1,h2,h3,h4,h5⟩
 . rintro⟨x,y,h1,h2,h3,h4,h5⟩;exact⟨x,⟨h1,h2⟩,y,⟨h3,h4⟩,h5⟩
theorem Y5{l:List Int}(h:U4 l)(a x:Nat):j6 l a x<2 ^ ord l:=by
 apply b43;intro z hz;simp at hz;obtain⟨y,_,rfl⟩:=hz;exact F2 l h _ _
theorem bt2{l:List Int}(h:U4 l)(a b:Nat):l7 l a b<2 ^ ord l:=by
 apply b43;intro z hz;simp at hz;obtain⟨x,_,y,_,rfl⟩:=hz;exact F2 l h _ _
theorem jm5{l:List Int}(h:U4 l)(a:Nat):bj1 l a<2 ^ ord l:=by
 apply b43;intro z hz;simp at hz;obtain⟨x,_,rfl⟩:=hz;exact P3 l h _
theorem b91{a b:Bool}(h:a=true↔b=true):a=b:=by cases a<;>cases b<;>simp_all
theorem bn8(l:List Int)(a b:Nat):l7 l a b=l7 l b a:=by
 apply Nat.eq_of_testBit_eq;intro z;apply b91;rw[C7,C7];constructor<;>rintro⟨x,y,h1,h2,h3,h4,h5⟩<;>exact⟨y,x,h3,h4,h1,h2,by rw[D4];exact h5⟩
def j4(l:List Int)(a:Int):Bool:=j1 l&&decide (0<=a)&&decide (a<2 ^ ord l)
theorem dv9{l:List Int}{a:Int}(h:j4 l a=true):j1 l=true:=by
 simp[j4] at h;exact h.1.1
theorem C4{l:List Int}(h:j1 l=true):2 ^ ord l<=2 ^ 24:=Nat.pow_le_pow_right (by omega) (m8 h).2
theorem o4{l:List Int}{a:Int}(h:j4 l a=true):∃n:Nat,a=n∧n<2 ^ ord l∧n<2 ^ 24∧j1 l=true:=by
 simp[j4] at h;obtain⟨⟨h1,h2⟩,h3⟩:=h;obtain⟨n,rfl⟩:=Int.eq_ofNat_of_zero_le h2;have h4:n<2 ^ ord l:=by exact_mod_cast h3
 exact⟨n,rfl,h4,Nat.lt_of_lt_of_le h4 (C4 h1),h1⟩
def b9(L:List Nat):List Int:=L.map (fun n:Nat=>(n:Int))
def d8(L:List Nat)(k:Nat):Nat:=L.getD k 0
theorem j2(L:List Nat):(b9 L).length=L.length:=by simp[b9]
theorem D5(L:List Nat)(n:Nat):b9 (L++[n])=b9 L++[(n:Int)]:=by simp[b9]
theorem H8(L:List Nat)(k:Nat):nth (b9 L) k=(d8 L k:Int):=by
 unfold nth b9 d8;rw[List.getD_eq_getElem?_getD,List.getD_eq_getElem?_getD,List.getElem?_map];cases L[k]?<;>simp
theorem o6{L:List Nat}{k:Nat}(h:k<L.length):d8 L k∈L:=by
 unfold d8;exact zz134
theorem I8(L:List Nat)(k:Nat)(h:k<L.length):L.take (k+1)=L.take k++[d8 L k]:=by
 rw[List.take_succ_eq_append_getElem h];simp[d8,List.getD,h]
theorem dj1(A B:List Nat):U6 (A++B)=U6 A ||| U6 B:=by
 apply Nat.eq_of_testBit_eq;intro i;rw[Nat.testBit_or,O6,O6,O6];by_cases h:i∈A<;>by_cases h2:i∈B<;>simp[h,h2]
theorem jn6(a k:Nat):shr (shr a k) 1=shr a (k+1):=by unfold shr;rw[Nat.shiftRight_add]
theorem X7{l:List Int}(h:j1 l=true)(x y:Nat):m6 l x y<24:=Nat.lt_of_lt_of_le (F2 l (m9 h) x y) (m8 h).2
theorem G0{l:List Int}(h:j1 l=true)(a x:Nat):j6 l a x<2 ^ 24:=Nat.lt_of_lt_of_le (Y5 (m9 h) a x) (C4 h)
theorem G9{l:List Int}(h:j1 l=true)(a b:Nat):l7 l a b<2 ^ 24:=Nat.lt_of_lt_of_le (bt2 (m9 h) a b) (C4 h)
theorem jm4{l:List Int}(h:j1 l=true)(a:Nat):bj1 l a<2 ^ 24:=Nat.lt_of_lt_of_le (jm5 (m9 h) a) (C4 h)
theorem B7(a:Nat):(j7 a).length<=24:=r9 a
def b62(l:List Int)(L:List Nat)(b:Nat):Nat:=U6 (L.flatMap (fun x=>(j7 b).map (fun y=>m6 l x y)))
theorem cp4(l:List Int)(L:List Nat)(x b:Nat):b62 l (L++[x]) b=b62 l L b ||| j6 l b x:=by
 unfold b62 j6;rw[List.flatMap_append,dj1];simp
theorem d07(l:List Int)(a b:Nat):b62 l (j7 a) b=l7 l a b:=rfl
theorem dh1{l:List Int}(h:j1 l=true)(L:List Nat)(b:Nat):b62 l L b<2 ^ 24:=by
 apply Nat.lt_of_lt_of_le _ (C4 h);apply b43;intro z hz;simp at hz;obtain⟨x,_,y,_,rfl⟩:=hz;exact F2 l (m9 h) _ _
def c05(l:List Int)(as:List Int):Bool:=as.all (j4 l)&&j1 l
theorem cv2{l:List Int}{k:Nat}(h:k<l.length){q:Nat}(hq:nth l k=(q:Int))(x y:Nat) :
 m6 (l.drop k) x y=(x % q+y % q) % q+q*m6 (l.drop (k+1)) (x / q) (y / q):=by
 rw[bv5 l k h,hq];simp[m6]
def dvS(M:List Nat)(i k:Nat):List Nat:=(M.set i (d8 M i / Nat.gcd (d8 M i) (d8 M k)*d8 M k)).set k (Nat.gcd (d8 M i) (d8 M k))
def dvT(M:List Nat)(i k:Nat):List Nat:=(M.set i (Nat.gcd (d8 M i) (d8 M k))).set k (d8 M i / Nat.gcd (d8 M i) (d8 M k)*d8 M k)
def b94(f:List Nat->Nat->Nat->List Nat)(i:Nat)(M:List Nat):Nat->List Nat
 | 0=>M
 | m+1=>f (b94 f i M m) i (i+1+m)
def Q5(f:List Nat->Nat->Nat->List Nat)(n:Nat)(M:List Nat):Nat->List Nat
 | 0=>M
 | j+1=>b94 f j (Q5 f n M j) (n - (j+1))
def Z6(M:List Nat):Nat->Nat
 | 0=>1
 | k+1=>Z6 M k+d8 M k - 1
def du6(n:Nat)(M:List Nat):Bool:=decide (M.length=n)&&M.all fun x=>decide (1<=x)&&decide (x<=24)
def bd6(f:List Nat->Nat->Nat->List Nat)(M:List Nat):Bool :=
 ((List.range M.length).all fun i=>(List.range (M.length - i)).all fun m=>du6 M.length (b94 f i (Q5 f M.length M i) m))&&du6 M.length (Q5 f M.length M M.length)
def V3(f:List Nat->Nat->Nat->List Nat)(M:List Nat):Nat:=Z6 (Q5 f M.length M M.length) M.length
def bm3(M:List Nat):Bool:=bd6 dvS M&&(bd6 dvT M&&decide (V3 dvS M=V3 dvT M))
theorem dv0:bm3 []=true:=by decide +kernel
theorem dv1:((List.range 25).all fun a=>decide (a<2) || bm3 [a])=true:=by decide +kernel
theorem dv2:((List.range 25).all fun a=>decide (a<2) || (List.range 25).all fun b=>decide (b<2) || (decide (24<a*b) || bm3 [a,b]))=true:=by decide +kernel
theorem dv3:((List.range 25).all fun a=>decide (a<2) || (List.range 25).all fun b=>decide (b<2) || (decide (12<a*b) || (List.range 25).all fun c=>decide (c<2) || (decide (24<a*b*c) || bm3 [a,b,c])))=true:=by decide +kernel
theorem b50{p:Prop}[Decidable p]{b:Bool}(h:(decide p || b)=true)(hn:¬p):b=true:=by
 rw[decide_eq_false hn] at h;simpa using h
theorem rg{p:Nat->Bool}(h:(List.range 25).all p=true){a:Nat}(ha:a<=24):p a=true:=List.all_eq_true.1 h a (List.mem_range.2 (by omega))
def Q0(l:List Int):List Nat:=l.map Int.toNat
theorem cz3{l:List Int}(h:j1 l=true):b9 (Q0 l)=l:=by
 unfold b9 Q0;rw[List.map_map];refine (List.map_congr_left fun x hx=>?_).trans (List.map_id l);obtain⟨i,hi,rfl⟩:=List.getElem_of_mem hx;have:=E3 h hi;have e:nth l i=l[i]:=by simp[nth,List.getD,hi]
 rw[e] at this;show ((l[i].toNat:Nat):Int)=l[i];omega
theorem d90{l:List Int}(h:j1 l=true):bm3 (Q0 l)=true:=by
 obtain⟨h3,hn,hp⟩:=(U8 l).1 h;match l,h3,hn,hp with
 | [],_,_,_=>exact dv0
 | [a],_,hn,_ =>
  have h0:2<=a∧a<=24:=hn 0 (by simp);exact b50 (rg dv1 (a:=a.toNat) (by omega)) (by omega)
 | [a,b],_,hn,hp =>
  have h0:2<=a∧a<=24:=hn 0 (by simp);have h1:2<=b∧b<=24:=hn 1 (by simp);have hpr:a*b<=24:=by simpa[A0] using hp
  have e:((a.toNat*b.toNat:Nat):Int)=a*b:=by rw[Int.natCast_mul];congr 1<;>omega
  exact b50 (b50 (rg (b50 (rg dv2 (a:=a.toNat) (by omega)) (by omega)) (a:=b.toNat) (by omega)) (by omega)) (by omega)
 | [a,b,c],_,hn,hp =>
  have h0:2<=a∧a<=24:=hn 0 (by simp);have h1:2<=b∧b<=24:=hn 1 (by simp);have h2:2<=c∧c<=24:=hn 2 (by simp);have hpr:a*b*c<=24:=by rw[Int.mul_assoc];simpa[A0] using hp
  have e:((a.toNat*b.toNat*c.toNat:Nat):Int)=a*b*c:=by rw[Int.natCast_mul,Int.natCast_mul];congr 1;congr 1<;>omega;omega
  have hab:a.toNat*b.toNat*2<=a.toNat*b.toNat*c.toNat:=Nat.mul_le_mul_left _ (by omega);have u:=rg (b50 (rg dv3 (a:=a.toNat) (by omega)) (by omega)) (a:=b.toNat) (by omega);exact b50 (b50 (rg (b50 (b50 u (by omega)) (by omega)) (a:=c.toNat) (by omega)) (by omega)) (by omega)
 | _ :: _ :: _ :: _ :: _,h3,_,_=>simp at h3
theorem jk1{l:List Int}(h:j1 l=true):V3 dvS (Q0 l)=V3 dvT (Q0 l):=by
 have:=d90 h;unfold bm3 at this;rw[Bool.and_eq_true,Bool.and_eq_true] at this;exact of_decide_eq_true this.2.2
theorem jk0{l:List Int}(h:j1 l=true):bd6 dvS (Q0 l)=true:=by
 have:=d90 h;unfold bm3 at this;rw[Bool.and_eq_true,Bool.and_eq_true] at this;exact this.1
theorem do8{l:List Int}(h:j1 l=true):bd6 dvT (Q0 l)=true:=by
 have:=d90 h;unfold bm3 at this;rw[Bool.and_eq_true,Bool.and_eq_true] at this;exact this.2.1
theorem d89{n:Nat}{M:List Nat}(h:du6 n M=true):M.length=n∧∀i,i<n->1<=d8 M i∧d8 M i<=24:=by
 unfold du6 at h;rw[Bool.and_eq_true] at h;have hl:=of_decide_eq_true h.1;refine⟨hl,fun i hi=>?_⟩;have:=List.all_eq_true.1 h.2 (d8 M i) (o6 (by omega));simpa using this
theorem d87{f:List Nat->Nat->Nat->List Nat}{M:List Nat}(h:bd6 f M=true){i m:Nat}(hi:i<M.length)(hm:m<M.length - i):(b94 f i (Q5 f M.length M i) m).length=M.length∧∀j,j<M.length->1<=d8 (b94 f i (Q5 f M.length M i) m) j∧d8 (b94 f i (Q5 f M.length M i) m) j<=24:=by
 unfold bd6 at h;rw[Bool.and_eq_true] at h;exact d89 (List.all_eq_true.1 (List.all_eq_true.1 h.1 i (List.mem_range.2 hi)) m (List.mem_range.2 hm))
theorem c13{f:List Nat->Nat->Nat->List Nat}{M:List Nat}(h:bd6 f M=true):(Q5 f M.length M M.length).length=M.length∧∀j,j<M.length->1<=d8 (Q5 f M.length M M.length) j∧d8 (Q5 f M.length M M.length) j<=24:=by
 unfold bd6 at h;rw[Bool.and_eq_true] at h;exact d89 h.2
theorem bv6(M:List Nat)(h:∀j,j<M.length->1<=d8 M j∧d8 M j<=24):∀k,k<=M.length->1<=Z6 M k∧Z6 M k<=1+24*k
 | 0,_=>by simp[Z6]
 | k+1,hk=>by
  have:=bv6 M h k (by omega)
  have:=h k (by omega)
  unfold Z6;omega
def Q9(l:List Int)(x:Nat):Nat->Nat
 | 0=>0
 | n+1=>m6 l (Q9 l x n) x
theorem br8{l:List Int}(h:j1 l=true)(x n:Nat):Q9 l x n<24:=by
 cases n with
 | zero=>exact (by decide:0<24)
 | succ n=>exact X7 h _ _
def plR(l:List Int)(x:Nat):Nat->Nat
 | 0=>x
 | k+1=>plR l x k / (nth l k).toNat
def plP(l:List Int)(x:Nat):Nat->List Nat
 | 0=>[]
 | k+1=>plP l x k++[plR l x k % (nth l k).toNat]
theorem bh2(l:List Int)(x:Nat):∀k,(plP l x k).length=k
 | 0=>rfl
 | k+1=>by simp[plP,bh2 l x k]
theorem cn7(l:List Int)(x:Nat):∀k,plR l x k<=x
 | 0=>Nat.le_refl _
 | k+1=>Nat.le_trans (Nat.div_le_self _ _) (cn7 l x k)
theorem j43(l:List Int)(x:Nat):∀k,∀y∈plP l x k,y<=x
 | 0=>by simp[plP]
 | k+1=>by
  intro y hy
  rw[plP,List.mem_append,List.mem_singleton] at hy
  rcases hy with hy | rfl
  . exact j43 l x k y hy
  . exact Nat.le_trans (Nat.mod_le _ _) (cn7 l x k)
theorem cn6(l:List Int)(x:Nat){k i:Nat}(hi:i<k):d8 (plP l x k) i<=x:=j43 l x k _ (o6 (by rw[bh2];exact hi))
end Go.Zz
