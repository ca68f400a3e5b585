/-
  Plain facts on numbers, lists, bit sets and groups that are given by their orders. No program is named here.
-/
namespace Go.Zz
def nth(l:List Int)(i:Nat):Int:=l.getD i 0
def inB(x lo hi:Int):Bool:=decide (lo≤x)&&decide (x≤hi)
theorem b01{x lo hi:Int}:inB x lo hi=true↔lo≤x∧x≤hi:=by simp[inB]
theorem bm1{x lo hi:Int}:inB x lo hi=false↔¬(lo≤x∧x≤hi):=by rw[←b01];simp
theorem b92{l:List Int}{k:Nat}(h:k<l.length):nth l k∈l:=by
 unfold nth;rw[List.getD_eq_getElem?_getD,List.getElem?_eq_getElem h];exact List.getElem_mem h
theorem b90{l:List Int}{x:Int}(h:x∈l):∃k,k<l.length∧nth l k=x:=by
 obtain⟨k,hk,rfl⟩:=List.getElem_of_mem h;exact⟨k,hk,by simp[nth,List.getD,hk]⟩
theorem dq6(l:List Int)(k:Nat)(h:k<l.length):l.take (k+1)=l.take k++[nth l k]:=by
 rw[List.take_succ_eq_append_getElem h];simp[nth,List.getD,h]
theorem bl5(l:List Int)(k:Nat)(h:k<l.length):l.drop k=nth l k :: l.drop (k+1):=by
 rw[List.drop_eq_getElem_cons h];simp[nth,List.getD,h]
theorem bj3(l:List Int)(k:Nat)(h:k<l.length):nth l k=l[k]:=by simp[nth,List.getD,h]
def C4:List Int→Int
 | []=>1
 | o :: r=>o*C4 r
def c9(l:List Int):Bool:=decide (l.length≤3)&&l.all (fun x=>inB x 2 24)&&decide (C4 l≤24)
theorem cv9(l m:List Int):C4 (l++m)=C4 l*C4 m:=by
 induction l with
 | nil=>simp[C4]
 | cons o r ih=>simp[C4,ih,Int.mul_assoc]
theorem P6(l:List Int)(k:Nat)(h:k<l.length):C4 (l.take (k+1))=C4 (l.take k)*nth l k:=by
 rw[dq6 l k h,cv9];simp[C4]
theorem bu4:∀(l:List Int),(∀x∈l,1≤x)→1≤C4 l
 | [],_=>by simp[C4]
 | o :: r,h=>by
  have h1:=h o (by simp)
  have h2:=bu4 r (fun x hx=>h x (by simp[hx]))
  simp only[C4]
  have:=Int.mul_le_mul h1 h2 (by omega) (by omega);omega
theorem cw0:∀(k:Nat) (l:List Int),k≤l.length→(∀j,j<k→2≤nth l j∧nth l j≤24)→1≤C4 (l.take k)∧C4 (l.take k)≤24 ^ k
 | 0,l,_,_=>by simp[C4]
 | k+1,l,h2,h3=>by
  have ih:=cw0 k l (by omega) (fun j hj=>h3 j (by omega))
  have hk:=h3 k (by omega)
  rw[P6 l k (by omega),Int.pow_succ]
  constructor
  · have:=Int.mul_le_mul ih.1 (by omega:(1:Int)≤nth l k) (by omega) (by omega);omega
  · exact Int.mul_le_mul ih.2 hk.2 (by omega) (by have:(0:Int)≤24 ^ k:=Int.pow_nonneg (by omega);omega)
theorem U2(k:Nat)(l:List Int)(h:k≤l.length)(hk:k≤3)(hall:∀j,j<k→2≤nth l j∧nth l j≤24):1≤C4 (l.take k)∧C4 (l.take k)≤13824:=by
 have hp:=cw0 k l h hall;have hp2:(24:Int)^k≤24^3:=by rcases (by omega:k=0∨k=1∨k=2∨k=3) with e | e | e | e<;>subst e<;>decide
 omega
theorem bm7{a b:Int}(h1:1≤a)(h2:a≤13824)(h3:2≤b)(h4:b≤24):0≤a*b∧a*b≤331776 :=
 ⟨Int.mul_nonneg (by omega) (by omega),by have:=Int.mul_le_mul h2 h4 (by omega) (by omega);omega⟩
theorem R3(l:List Int):c9 l=true↔l.length≤3∧(∀j,j<l.length→2≤nth l j∧nth l j≤24)∧C4 l≤24:=by
 simp only[c9,Bool.and_eq_true,decide_eq_true_eq,List.all_eq_true,b01,and_assoc];constructor
 · rintro⟨a,b,c⟩;exact⟨a,fun j hj=>b _ (b92 hj),c⟩
 · rintro⟨a,b,c⟩;exact⟨a,fun x hx=>by obtain⟨k,hk,rfl⟩:=b90 hx;exact b k hk,c⟩
theorem C0{l:List Int}(h:c9 l=true):l.length≤3:=((R3 l).1 h).1
theorem E2{l:List Int}(h:c9 l=true){j:Nat}(hj:j<l.length):2≤nth l j∧nth l j≤24:=((R3 l).1 h).2.1 j hj
theorem c72{l:List Int}(h:c9 l=true):1≤C4 l∧C4 l≤24:=by
 obtain⟨a,b,c⟩:=(R3 l).1 h;exact⟨bu4 l (fun x hx=>by obtain⟨k,hk,rfl⟩:=b90 hx;have:=b k hk;omega),c⟩
theorem bt1{l:List Int}(h:3<l.length):c9 l=false:=by
 rw[←Bool.not_eq_true,R3];omega
theorem bt2{l:List Int}{j:Nat}(hj:j<l.length)(h:¬(2≤nth l j∧nth l j≤24)):c9 l=false:=by
 rw[←Bool.not_eq_true,R3];rintro⟨_,b,_⟩;exact h (b j hj)
theorem ch4{l:List Int}(h:l.length≤3)(b:∀j,j<l.length→2≤nth l j∧nth l j≤24):c9 l=decide (C4 l≤24):=by
 by_cases c:C4 l≤24
 · rw[(R3 l).2 ⟨h,b,c⟩];simp[c]
 · have:c9 l=false:=(by rw[←Bool.not_eq_true,R3];rintro⟨_,_,d⟩;exact c d);rw[this];simp[c]
def b71(l:List Int):Int:=if c9 l then C4 l else 0
def ord(l:List Int):Nat:=(C4 l).toNat
theorem bm9{l:List Int}(h:c9 l=true):(ord l:Int)=C4 l:=by
 have:=c72 h;unfold ord;omega
theorem l8{l:List Int}(h:c9 l=true):1≤ord l∧ord l≤24:=by
 have:=c72 h;have:=bm9 h;omega
theorem Z9{l:List Int}(h:c9 l=true):b71 l=(ord l:Int):=by unfold b71;rw[if_pos h,bm9 h]
theorem c79{l:List Int}(h:c9 l=false):b71 l=0:=by unfold b71;rw[h];rfl
theorem d64(l:List Int):0≤b71 l∧b71 l≤24:=by
 cases h:c9 l
 · rw[c79 h];omega
 · rw[Z9 h];have:=l8 h;omega
def pw(n:Nat):Nat:=2 ^ n
def shr(a n:Nat):Nat:=a >>> n
theorem cm6(n:Nat):pw n=2 ^ n:=rfl
theorem R5(n:Nat):1≤pw n:=Nat.one_le_two_pow
theorem b04{n:Nat}(h:n≤24):pw n≤16777216:=Nat.pow_le_pow_right (n:=2) (by omega) h
theorem di0(n:Nat):(pw n:Int)=2 ^ n:=by unfold pw;simp
theorem d71(a:Nat):shr a 1=a / 2:=by unfold shr;rw[Nat.shiftRight_eq_div_pow]
theorem c95(a n:Nat):shr a n≤a:=by unfold shr;rw[Nat.shiftRight_eq_div_pow];exact Nat.div_le_self _ _
def j1(a:Nat):List Nat:=(List.range 24).filter (fun i=>a.testBit i)
def cnt(a:Nat):Nat:=(j1 a).length
def N3(L:List Nat):Nat:=L.foldl (fun a z=>a ||| 2 ^ z) 0
theorem E8{a x:Nat}:x∈j1 a↔x<24∧a.testBit x=true:=by simp[j1]
theorem p7(a:Nat):cnt a≤24:=by
 unfold cnt j1;exact Nat.le_trans (List.length_filter_le _ _) (by simp)
theorem G7{a x:Nat}(h:x∈j1 a):x<24:=(E8.1 h).1
theorem dd1(L:List Nat):∀a:Nat,∀i,(L.foldl (fun a z=>a ||| 2 ^ z) a).testBit i=(a.testBit i || decide (i∈L)):=by
 induction L with
 | nil=>intro a i;simp
 | cons z L ih =>
  intro a i;rw[List.foldl_cons,ih,Nat.testBit_or,Nat.testBit_two_pow];by_cases h:z=i
  · subst h;simp
  · have h':¬i=z:=fun e=>h e.symm;simp[h,h']
theorem I7(L:List Nat)(i:Nat):(N3 L).testBit i=decide (i∈L):=by
 unfold N3;rw[dd1];simp
theorem bd2(L:List Nat)(z:Nat):N3 (L++[z])=N3 L ||| 2 ^ z:=by simp[N3]
theorem Y3{L:List Nat}{n:Nat}(h:∀x∈L,x<n):N3 L<2 ^ n:=by
 apply Nat.lt_pow_two_of_testBit;intro i hi;rw[I7];simp only[decide_eq_false_iff_not];intro hm;have:=h i hm;omega
theorem P7{a n i:Nat}(h:a<2 ^ n)(hi:n≤i):a.testBit i=false :=
 Nat.testBit_lt_two_pow (Nat.lt_of_lt_of_le h (Nat.pow_le_pow_right (by omega) hi))
theorem d88{a:Nat}(h:a<2 ^ 24):N3 (j1 a)=a:=by
 apply Nat.eq_of_testBit_eq;intro i;rw[I7];by_cases hi:i<24
 · cases hb:a.testBit i<;>simp[E8,hi,hb]
 · rw[P7 h (by omega)];simp[E8,hi]
def B8(a k:Nat):List Nat:=(List.range k).filter (fun i=>a.testBit i)
theorem E7(a k:Nat):B8 a (k+1)=B8 a k++if a.testBit k then [k] else []:=by
 unfold B8;rw[List.range_succ,List.filter_append];congr 1;cases h:a.testBit k<;>simp[h]
theorem P8{a k:Nat}(hk:k≤24)(h:a<2 ^ k):B8 a k=j1 a:=by
 have key:∀d,B8 a (k+d)=B8 a k:=by
  intro d;induction d with
  | zero=>rfl
  | succ d ih=>rw[←Nat.add_assoc,E7,ih,P7 h (by omega)];simp
 have:=key (24 - k);rw[show k+(24 - k)=24 from by omega] at this;exact this.symm
theorem bg0(a k:Nat):(B8 a k).length≤k:=by
 unfold B8;exact Nat.le_trans (List.length_filter_le _ _) (by simp)
theorem bn6{a k:Nat}:shr a k=0↔a<2 ^ k:=by
 unfold shr;rw[Nat.shiftRight_eq_div_pow,Nat.div_eq_zero_iff];constructor
 · rintro (h | h)
   · have:0<2 ^ k:=Nat.two_pow_pos k;omega
   · exact h
 · intro h;exact .inr h
theorem ce5{a k:Nat}(h:¬shr a k=0)(ha:a<2 ^ 24):k<24:=by
 rw[bn6] at h;rcases Nat.lt_or_ge k 24 with hk | hk
 · exact hk
 · exact absurd (Nat.lt_of_lt_of_le ha (Nat.pow_le_pow_right (by omega) hk)) h
theorem bo7(a:Nat):∀n,B8 a (n+1)=(if a.testBit 0 then [0] else [])++(B8 (a / 2) n).map (· + 1)
 | 0=>by rw[E7];simp[B8]
 | n+1=>by
  rw[E7,bo7 a n,E7,List.map_append,←List.append_assoc]
  congr 1
  rw[Nat.testBit_succ]
  cases (a / 2).testBit n<;>simp
theorem bl2(a n:Nat):(B8 a (n+1)).length=a % 2+(B8 (a / 2) n).length:=by
 rw[bo7,List.length_append,List.length_map];have:a.testBit 0=decide (a % 2=1):=Nat.testBit_zero a;rw[this];by_cases h:a % 2=1
 · simp[h]
 · have:a % 2=0:=(by omega);simp[this]
theorem c60:∀(n a:Nat),0<a→a<2 ^ n→(B8 (a &&& (a - 1)) n).length+1=(B8 a n).length
 | 0,a,h0,h1=>by simp at h1;omega
 | n+1,a,h0,h1=>by
  rw[bl2,bl2 a]
  have hm:(a &&& (a - 1)) % 2=0:=by
   have:(a &&& (a - 1)).testBit 0=false:=by
    rw[Nat.testBit_and,Nat.testBit_zero,Nat.testBit_zero];by_cases h:a % 2=1
    · have:¬(a - 1) % 2=1:=(by omega);simp[this]
    · simp[h]
   rw[Nat.testBit_zero] at this;have:=of_decide_eq_false this;omega
  have hd:(a &&& (a - 1)) / 2=(a / 2) &&& ((a - 1) / 2):=by
   apply Nat.eq_of_testBit_eq;intro i;rw[←Nat.testBit_succ,Nat.testBit_and,Nat.testBit_and,Nat.testBit_succ,Nat.testBit_succ]
  rw[hm,hd]
  by_cases h:a % 2=1
  · have e:(a - 1) / 2=a / 2:=by omega
    rw[e,Nat.and_self,h]
    omega
  · have e:(a - 1) / 2=a / 2 - 1:=by omega
    have hp:2 ^ (n+1)=2 ^ n*2:=Nat.pow_succ 2 n
    have ih:=c60 n (a / 2) (by omega) (by omega)
    rw[e]
    omega
theorem cp5{a:Nat}(h0:0<a)(h:a<2 ^ 24):cnt (a &&& (a - 1))+1=cnt a:=c60 24 a h0 h
theorem S8:cnt 0=0:=by decide
theorem Q8{a:Nat}(h0:0<a)(h:a<2 ^ 24):1≤cnt a:=by have:=cp5 h0 h;omega
theorem cp6(a:Nat)(h:a<2 ^ 24):cnt a=a % 2+cnt (a / 2):=by
 have h1:a / 2<2 ^ 23:=by have:(2:Nat) ^ 24=2 ^ 23*2:=by decide
                          omega
 have e:cnt (a / 2)=(B8 (a / 2) 23).length:=by
  rw[P8 (by omega) h1];rfl
 rw[e];exact bl2 a 23
def j9:List Int→Nat→Nat→Nat
 | [],_,_=>0
 | o :: r,x,y=>(x % o.toNat+y % o.toNat) % o.toNat+o.toNat*j9 r (x / o.toNat) (y / o.toNat)
def p4:List Int→Nat→Nat
 | [],_=>0
 | o :: r,x=>(o.toNat - x % o.toNat) % o.toNat+o.toNat*p4 r (x / o.toNat)
def M9(l:List Int):Prop:=∀x∈l,1≤x
theorem m0{l:List Int}(h:c9 l=true):M9 l:=fun x hx=>by
 obtain⟨k,hk,rfl⟩:=b90 hx;have:=E2 h hk;omega
theorem M9.tail{o:Int}{r:List Int}(h:M9 (o :: r)):M9 r:=fun x hx=>h x (by simp[hx])
theorem M9.head{o:Int}{r:List Int}(h:M9 (o :: r)):1≤o.toNat:=by have:=h o (by simp);omega
theorem bb8{o:Int}{r:List Int}(h:M9 (o :: r)):ord (o :: r)=o.toNat*ord r:=by
 have h1:=h o (by simp);have h2:=bu4 r h.tail;unfold ord;simp only[C4];rw[Int.toNat_mul (by omega) (by omega)]
theorem by2:ord []=1:=rfl
theorem cg4{d o a m:Nat}(h1:d<o)(h2:a<m):d+o*a<o*m:=by
 have:o*(a+1)≤o*m:=Nat.mul_le_mul_left o h2;rw[Nat.mul_add] at this;omega
theorem E9:∀(l:List Int),M9 l→∀x y,j9 l x y<ord l
 | [],_,x,y=>by simp[j9,by2]
 | o :: r,h,x,y=>by
  rw[bb8 h];simp only[j9]
  exact cg4 (Nat.mod_lt _ (by have:=h.head;omega)) (E9 r h.tail _ _)
theorem Q9:∀(l:List Int),M9 l→∀x,p4 l x<ord l
 | [],_,x=>by simp[p4,by2]
 | o :: r,h,x=>by
  rw[bb8 h];simp only[p4]
  exact cg4 (Nat.mod_lt _ (by have:=h.head;omega)) (Q9 r h.tail _)
theorem bh9{d o a:Nat}(h:d<o):(d+o*a) % o=d:=by rw[Nat.add_mul_mod_self_left];exact Nat.mod_eq_of_lt h
theorem cb4{d o a:Nat}(h:d<o):(d+o*a) / o=a:=by
 rw[Nat.add_mul_div_left _ _ (by omega),Nat.div_eq_of_lt h];omega
theorem C8:∀(l:List Int) (x y:Nat),j9 l x y=j9 l y x
 | [],_,_=>rfl
 | o :: r,x,y=>by simp only[j9];rw[C8 r,Nat.add_comm (x % _)]
theorem G6:∀(l:List Int),M9 l→∀x y z,j9 l (j9 l x y) z=j9 l x (j9 l y z)
 | [],_,_,_,_=>rfl
 | o :: r,h,x,y,z=>by
  have ho:=h.head
  simp only[j9]
  rw[bh9 (Nat.mod_lt _ (by omega)),cb4 (Nat.mod_lt _ (by omega)),bh9 (Nat.mod_lt _ (by omega)),cb4 (Nat.mod_lt _ (by omega)),G6 r h.tail]
  congr 1
  simp only[Nat.mod_add_mod,Nat.add_mod_mod,Nat.add_assoc]
theorem C5:∀(l:List Int),M9 l→∀x,x<ord l→j9 l 0 x=x
 | [],_,x,h=>by simp[by2] at h;simp[j9,h]
 | o :: r,h,x,hx=>by
  have ho:=h.head
  rw[bb8 h] at hx
  have hd:x / o.toNat<ord r:=(Nat.div_lt_iff_lt_mul (by omega)).2 (by rw[Nat.mul_comm];exact hx)
  simp only[j9,Nat.zero_mod,Nat.zero_div,Nat.zero_add]
  rw[C5 r h.tail _ hd,Nat.mod_mod,Nat.mod_add_div]
theorem K5:∀(l:List Int),M9 l→∀x,j9 l x (p4 l x)=0
 | [],_,_=>rfl
 | o :: r,h,x=>by
  have ho:=h.head
  simp only[j9,p4]
  rw[bh9 (Nat.mod_lt _ (by omega)),cb4 (Nat.mod_lt _ (by omega)),K5 r h.tail]
  have hx:=Nat.mod_lt x (show 0<o.toNat by omega)
  by_cases h0:x % o.toNat=0
  · rw[h0];simp
  · rw[Nat.mod_eq_of_lt (show o.toNat - x % o.toNat<o.toNat by omega),show x % o.toNat+(o.toNat - x % o.toNat)=o.toNat by omega]
    simp
theorem S6{l:List Int}(h:M9 l){x y z:Nat}(hy:y<ord l)(hz:z<ord l)(e:j9 l x y=j9 l x z):y=z:=by
 have:j9 l (p4 l x) (j9 l x y)=j9 l (p4 l x) (j9 l x z):=by rw[e]
 rw[←G6 l h,←G6 l h,C8 l (p4 l x) x,K5 l h,C5 l h _ hy,C5 l h _ hz] at this;exact this
def j2(l:List Int)(a x:Nat):Nat:=N3 ((j1 a).map (fun y=>j9 l x y))
def j3(l:List Int)(a b:Nat):Nat:=N3 ((j1 a).flatMap (fun x=>(j1 b).map (fun y=>j9 l x y)))
def bb6(l:List Int)(a:Nat):Nat:=N3 ((j1 a).map (fun x=>p4 l x))
theorem D0{l:List Int}{a x z:Nat}:(j2 l a x).testBit z=true↔∃y,y<24∧a.testBit y=true∧j9 l x y=z:=by
 simp[j2,I7,E8,and_assoc]
theorem q7{l:List Int}{a b z:Nat}:(j3 l a b).testBit z=true↔∃x y,x<24∧a.testBit x=true∧y<24∧b.testBit y=true∧j9 l x y=z:=by
 simp only[j3,I7,decide_eq_true_eq,List.mem_flatMap,List.mem_map,E8];constructor
 · rintro⟨x,⟨h1,h2⟩,y,⟨h3,h4⟩,h5⟩;exact⟨x,y,h1,h2,h3,h4,h5⟩
 · rintro⟨x,y,h1,h2,h3,h4,h5⟩;exact⟨x,⟨h1,h2⟩,y,⟨h3,h4⟩,h5⟩
theorem U3{l:List Int}(h:M9 l)(a x:Nat):j2 l a x<2 ^ ord l:=by
 apply Y3;intro z hz;simp at hz;obtain⟨y,_,rfl⟩:=hz;exact E9 l h _ _
theorem b55{l:List Int}(h:M9 l)(a b:Nat):j3 l a b<2 ^ ord l:=by
 apply Y3;intro z hz;simp at hz;obtain⟨x,_,y,_,rfl⟩:=hz;exact E9 l h _ _
theorem dw7{l:List Int}(h:M9 l)(a:Nat):bb6 l a<2 ^ ord l:=by
 apply Y3;intro z hz;simp at hz;obtain⟨x,_,rfl⟩:=hz;exact Q9 l h _
theorem R0{a b:Bool}(h:a=true↔b=true):a=b:=by cases a<;>cases b<;>simp_all
theorem bf1(l:List Int)(a b:Nat):j3 l a b=j3 l b a:=by
 apply Nat.eq_of_testBit_eq;intro z;apply R0;rw[q7,q7];constructor<;>rintro⟨x,y,h1,h2,h3,h4,h5⟩<;>exact⟨y,x,h3,h4,h1,h2,by rw[C8];exact h5⟩
def d8(l:List Int)(a:Int):Bool:=c9 l&&decide (0≤a)&&decide (a<2 ^ ord l)
theorem b79{l:List Int}{a:Int}(h:d8 l a=true):c9 l=true:=by
 simp[d8] at h;exact h.1.1
theorem E1{l:List Int}(h:c9 l=true):2 ^ ord l≤2 ^ 24:=Nat.pow_le_pow_right (by omega) (l8 h).2
theorem m3{l:List Int}{a:Int}(h:d8 l a=true):∃n:Nat,a=n∧n<2 ^ ord l∧n<2 ^ 24∧c9 l=true:=by
 simp[d8] at h;obtain⟨⟨h1,h2⟩,h3⟩:=h;obtain⟨n,rfl⟩:=Int.eq_ofNat_of_zero_le h2;have h4:n<2 ^ ord l:=by exact_mod_cast h3
 exact⟨n,rfl,h4,Nat.lt_of_lt_of_le h4 (E1 h1),h1⟩
def d6(L:List Nat):List Int:=L.map (fun n:Nat=>(n:Int))
def d5(L:List Nat)(k:Nat):Nat:=L.getD k 0
theorem j8(L:List Nat):(d6 L).length=L.length:=by simp[d6]
theorem J3(L:List Nat)(n:Nat):d6 (L++[n])=d6 L++[(n:Int)]:=by simp[d6]
theorem b22(L:List Nat)(k:Nat):nth (d6 L) k=(d5 L k:Int):=by
 unfold nth d6 d5;rw[List.getD_eq_getElem?_getD,List.getD_eq_getElem?_getD,List.getElem?_map];cases L[k]?<;>simp
theorem o6{L:List Nat}{k:Nat}(h:k<L.length):d5 L k∈L:=by
 unfold d5;rw[List.getD_eq_getElem?_getD,List.getElem?_eq_getElem h];exact List.getElem_mem h
theorem S0(L:List Nat)(k:Nat)(h:k<L.length):L.take (k+1)=L.take k++[d5 L k]:=by
 rw[List.take_succ_eq_append_getElem h];simp[d5,List.getD,h]
theorem d10(A B:List Nat):N3 (A++B)=N3 A ||| N3 B:=by
 apply Nat.eq_of_testBit_eq;intro i;rw[Nat.testBit_or,I7,I7,I7];by_cases h:i∈A<;>by_cases h2:i∈B<;>simp[h,h2]
theorem dx7(a k:Nat):shr (shr a k) 1=shr a (k+1):=by unfold shr;rw[Nat.shiftRight_add]
theorem T7{l:List Int}(h:c9 l=true)(x y:Nat):j9 l x y<24:=Nat.lt_of_lt_of_le (E9 l (m0 h) x y) (l8 h).2
theorem M5{l:List Int}(h:c9 l=true)(a x:Nat):j2 l a x<2 ^ 24:=Nat.lt_of_lt_of_le (U3 (m0 h) a x) (E1 h)
theorem F5{l:List Int}(h:c9 l=true)(a b:Nat):j3 l a b<2 ^ 24:=Nat.lt_of_lt_of_le (b55 (m0 h) a b) (E1 h)
theorem dw6{l:List Int}(h:c9 l=true)(a:Nat):bb6 l a<2 ^ 24:=Nat.lt_of_lt_of_le (dw7 (m0 h) a) (E1 h)
theorem C9(a:Nat):(j1 a).length≤24:=p7 a
def b06(l:List Int)(L:List Nat)(b:Nat):Nat:=N3 (L.flatMap (fun x=>(j1 b).map (fun y=>j9 l x y)))
theorem ca0(l:List Int)(L:List Nat)(x b:Nat):b06 l (L++[x]) b=b06 l L b ||| j2 l b x:=by
 unfold b06 j2;rw[List.flatMap_append,d10];simp
theorem cj3(l:List Int)(a b:Nat):b06 l (j1 a) b=j3 l a b:=rfl
theorem cy8{l:List Int}(h:c9 l=true)(L:List Nat)(b:Nat):b06 l L b<2 ^ 24:=by
 apply Nat.lt_of_lt_of_le _ (E1 h);apply Y3;intro z hz;simp at hz;obtain⟨x,_,y,_,rfl⟩:=hz;exact E9 l (m0 h) _ _
def J1(l:List Int)(as:List Int):Bool:=as.all (d8 l)&&c9 l
theorem cf3{l:List Int}{k:Nat}(h:k<l.length){q:Nat}(hq:nth l k=(q:Int))(x y:Nat) :
 j9 (l.drop k) x y=(x % q+y % q) % q+q*j9 (l.drop (k+1)) (x / q) (y / q):=by
 rw[bl5 l k h,hq];simp[j9]
end Go.Zz
namespace Go.Zz
end Go.Zz
namespace Go.Zz
set_option maxHeartbeats 4000000
set_option maxRecDepth 100000
def dvS(M:List Nat)(i k:Nat):List Nat:=(M.set i (d5 M i / Nat.gcd (d5 M i) (d5 M k)*d5 M k)).set k (Nat.gcd (d5 M i) (d5 M k))
def dvT(M:List Nat)(i k:Nat):List Nat:=(M.set i (Nat.gcd (d5 M i) (d5 M k))).set k (d5 M i / Nat.gcd (d5 M i) (d5 M k)*d5 M k)
def b27(f:List Nat→Nat→Nat→List Nat)(i:Nat)(M:List Nat):Nat→List Nat
 | 0=>M
 | m+1=>f (b27 f i M m) i (i+1+m)
def L7(f:List Nat→Nat→Nat→List Nat)(n:Nat)(M:List Nat):Nat→List Nat
 | 0=>M
 | j+1=>b27 f j (L7 f n M j) (n - (j+1))
def T5(M:List Nat):Nat→Nat
 | 0=>1
 | k+1=>T5 M k+d5 M k - 1
def d92(n:Nat)(M:List Nat):Bool:=decide (M.length=n)&&M.all fun x=>decide (1≤x)&&decide (x≤24)
def b56(f:List Nat→Nat→Nat→List Nat)(M:List Nat):Bool :=
 ((List.range M.length).all fun i=>(List.range (M.length - i)).all fun m=>d92 M.length (b27 f i (L7 f M.length M i) m))&&d92 M.length (L7 f M.length M M.length)
def N8(f:List Nat→Nat→Nat→List Nat)(M:List Nat):Nat:=T5 (L7 f M.length M M.length) M.length
def be0(M:List Nat):Bool:=b56 dvS M&&(b56 dvT M&&decide (N8 dvS M=N8 dvT M))
theorem dv0:be0 []=true:=by decide +kernel
theorem dv1:((List.range 25).all fun a=>decide (a<2) || be0 [a])=true:=by decide +kernel
theorem dv2:((List.range 25).all fun a=>decide (a<2) || (List.range 25).all fun b=>decide (b<2) || (decide (24<a*b) || be0 [a,b]))=true:=by decide +kernel
theorem dv3:((List.range 25).all fun a=>decide (a<2) || (List.range 25).all fun b=>decide (b<2) || (decide (12<a*b) || (List.range 25).all fun c=>decide (c<2) || (decide (24<a*b*c) || be0 [a,b,c])))=true:=by decide +kernel
theorem Z0{p:Prop}[Decidable p]{b:Bool}(h:(decide p || b)=true)(hn:¬p):b=true:=by
 rw[decide_eq_false hn] at h;simpa using h
theorem rg{p:Nat→Bool}(h:(List.range 25).all p=true){a:Nat}(ha:a≤24):p a=true:=List.all_eq_true.1 h a (List.mem_range.2 (by omega))
def K6(l:List Int):List Nat:=l.map Int.toNat
theorem ci2{l:List Int}(h:c9 l=true):d6 (K6 l)=l:=by
 unfold d6 K6;rw[List.map_map];refine (List.map_congr_left fun x hx=>?_).trans (List.map_id l);obtain⟨i,hi,rfl⟩:=List.getElem_of_mem hx;have:=E2 h hi;have e:nth l i=l[i]:=by simp[nth,List.getD,hi]
 rw[e] at this;show ((l[i].toNat:Nat):Int)=l[i];omega
theorem cr2{l:List Int}(h:c9 l=true):be0 (K6 l)=true:=by
 obtain⟨h3,hn,hp⟩:=(R3 l).1 h;match l,h3,hn,hp with
 | [],_,_,_=>exact dv0
 | [a],_,hn,_ =>
  have h0:2≤a∧a≤24:=hn 0 (by simp);exact Z0 (rg dv1 (a:=a.toNat) (by omega)) (by omega)
 | [a,b],_,hn,hp =>
  have h0:2≤a∧a≤24:=hn 0 (by simp);have h1:2≤b∧b≤24:=hn 1 (by simp);have hpr:a*b≤24:=by simpa[C4] using hp
  have e:((a.toNat*b.toNat:Nat):Int)=a*b:=by rw[Int.natCast_mul];congr 1<;>omega
  exact Z0 (Z0 (rg (Z0 (rg dv2 (a:=a.toNat) (by omega)) (by omega)) (a:=b.toNat) (by omega)) (by omega)) (by omega)
 | [a,b,c],_,hn,hp =>
  have h0:2≤a∧a≤24:=hn 0 (by simp);have h1:2≤b∧b≤24:=hn 1 (by simp);have h2:2≤c∧c≤24:=hn 2 (by simp);have hpr:a*b*c≤24:=by rw[Int.mul_assoc];simpa[C4] using hp
  have e:((a.toNat*b.toNat*c.toNat:Nat):Int)=a*b*c:=by rw[Int.natCast_mul,Int.natCast_mul];congr 1;congr 1<;>omega;omega
  have hab:a.toNat*b.toNat*2≤a.toNat*b.toNat*c.toNat:=Nat.mul_le_mul_left _ (by omega);have u:=rg (Z0 (rg dv3 (a:=a.toNat) (by omega)) (by omega)) (a:=b.toNat) (by omega);exact Z0 (Z0 (rg (Z0 (Z0 u (by omega)) (by omega)) (a:=c.toNat) (by omega)) (by omega)) (by omega)
 | _ :: _ :: _ :: _ :: _,h3,_,_=>simp at h3
theorem du3{l:List Int}(h:c9 l=true):N8 dvS (K6 l)=N8 dvT (K6 l):=by
 have:=cr2 h;unfold be0 at this;rw[Bool.and_eq_true,Bool.and_eq_true] at this;exact of_decide_eq_true this.2.2
theorem du2{l:List Int}(h:c9 l=true):b56 dvS (K6 l)=true:=by
 have:=cr2 h;unfold be0 at this;rw[Bool.and_eq_true,Bool.and_eq_true] at this;exact this.1
theorem d48{l:List Int}(h:c9 l=true):b56 dvT (K6 l)=true:=by
 have:=cr2 h;unfold be0 at this;rw[Bool.and_eq_true,Bool.and_eq_true] at this;exact this.2.1
theorem cr1{n:Nat}{M:List Nat}(h:d92 n M=true):M.length=n∧∀i,i<n→1≤d5 M i∧d5 M i≤24:=by
 unfold d92 at h;rw[Bool.and_eq_true] at h;have hl:=of_decide_eq_true h.1;refine⟨hl,fun i hi=>?_⟩;have:=List.all_eq_true.1 h.2 (d5 M i) (o6 (by omega));simpa using this
theorem cr0{f:List Nat→Nat→Nat→List Nat}{M:List Nat}(h:b56 f M=true){i m:Nat}(hi:i<M.length)(hm:m<M.length - i):(b27 f i (L7 f M.length M i) m).length=M.length∧∀j,j<M.length→1≤d5 (b27 f i (L7 f M.length M i) m) j∧d5 (b27 f i (L7 f M.length M i) m) j≤24:=by
 unfold b56 at h;rw[Bool.and_eq_true] at h;exact cr1 (List.all_eq_true.1 (List.all_eq_true.1 h.1 i (List.mem_range.2 hi)) m (List.mem_range.2 hm))
theorem br6{f:List Nat→Nat→Nat→List Nat}{M:List Nat}(h:b56 f M=true):(L7 f M.length M M.length).length=M.length∧∀j,j<M.length→1≤d5 (L7 f M.length M M.length) j∧d5 (L7 f M.length M M.length) j≤24:=by
 unfold b56 at h;rw[Bool.and_eq_true] at h;exact cr1 h.2
theorem bl6(M:List Nat)(h:∀j,j<M.length→1≤d5 M j∧d5 M j≤24):∀k,k≤M.length→1≤T5 M k∧T5 M k≤1+24*k
 | 0,_=>by simp[T5]
 | k+1,hk=>by
  have:=bl6 M h k (by omega)
  have:=h k (by omega)
  unfold T5;omega
end Go.Zz
namespace Go.Zz
def L9(l:List Int)(x:Nat):Nat→Nat
 | 0=>0
 | n+1=>j9 l (L9 l x n) x
theorem bj0{l:List Int}(h:c9 l=true)(x n:Nat):L9 l x n<24:=by
 cases n with
 | zero=>exact (by decide:0<24)
 | succ n=>exact T7 h _ _
def plR(l:List Int)(x:Nat):Nat→Nat
 | 0=>x
 | k+1=>plR l x k / (nth l k).toNat
def plP(l:List Int)(x:Nat):Nat→List Nat
 | 0=>[]
 | k+1=>plP l x k++[plR l x k % (nth l k).toNat]
theorem b93(l:List Int)(x:Nat):∀k,(plP l x k).length=k
 | 0=>rfl
 | k+1=>by simp[plP,b93 l x k]
theorem c82(l:List Int)(x:Nat):∀k,plR l x k≤x
 | 0=>Nat.le_refl _
 | k+1=>Nat.le_trans (Nat.div_le_self _ _) (c82 l x k)
theorem dh6(l:List Int)(x:Nat):∀k,∀y∈plP l x k,y≤x
 | 0=>by simp[plP]
 | k+1=>by
  intro y hy
  rw[plP,List.mem_append,List.mem_singleton] at hy
  rcases hy with hy | rfl
  · exact dh6 l x k y hy
  · exact Nat.le_trans (Nat.mod_le _ _) (c82 l x k)
theorem c81(l:List Int)(x:Nat){k i:Nat}(hi:i<k):d5 (plP l x k) i≤x:=dh6 l x k _ (o6 (by rw[b93];exact hi))
end Go.Zz
