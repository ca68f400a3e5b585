/- Progressions and their differences. -/
import Derived.Test.YtnnbhcalddkmmaaGreatGr9
import Derived.Test.YtnnbhcalddkmmaaGreatGr8
import Derived.Test.YtnnbhcalddkmmaaGreatGr7
import Derived.Deep.RegionHeld3
namespace Go.Zz
open Go.RowKit Go.Proofs
set_option maxHeartbeats 1000000
def be7(l:List Int)(s d:Nat):Nat→Nat
 | 0=>s
 | k+1=>j9 l (be7 l s d k) d
def G8(l:List Int)(s d n:Nat):Nat:=N3 ((List.range n).map (be7 l s d))
theorem c84(l:List Int)(s d k:Nat):G8 l s d (k+1)=G8 l s d k ||| 2 ^ be7 l s d k:=by
 unfold G8;rw[List.range_succ,List.map_append];exact bd2 _ _
theorem c43{l:List Int}(h:c9 l=true){s:Nat}(hs:s<24)(d:Nat):∀k,be7 l s d k<24
 | 0=>hs
 | _+1=>T7 h _ _
theorem X7{l:List Int}(h:c9 l=true){s:Nat}(hs:s<24)(d n:Nat):G8 l s d n<2 ^ 24:=by
 refine Y3 fun x hx=>?_;obtain⟨k,_,rfl⟩:=List.mem_map.1 hx;exact c43 h hs d k
theorem b34(v:Value)(l:List Int)(s d n:Nat)(w:World)(h:c8 w v l)(Hgr:Hid (c9 l=true))(hs:s<24)(hd:d<24)(hn:n≤24) :
 Calls Tryz.prog 348 #[.agg #[v],.int .i64 s,.int .i64 d,.int .i64 n] w fun e w'=>e=.returned (.int .i64 (G8 l s d n:Nat))∧Ext w w':=by
 obtain⟨wb,Hwb,hE0,hb,hg,hE,Hsz⟩:=j60 28 h;clear h;go_enter Tryz.func348,Tryz.ntmps348;go_wp2_with fail;rw[←Hwb.out];go_loopw [1,9,11] (fun sv ov xv wr=>∃k:Nat,k≤n∧xv=.int .i64 k∧sv=.int .i64 (be7 l s d k:Nat)∧ov=.int .i64 (G8 l s d k:Nat)∧Ext wb wr) (fun _ _ x _=>n - (intOf x).toNat);case atStart=>exact⟨0,by omega,rfl,rfl,rfl,hE⟩
 case round =>
  clear hE;obtain⟨k,hk,rfl,rfl,rfl,hE⟩:=hrel;have hbx:=hb _ hE;by_cases hlt:k<n
  · have hc:=c43 Hgr.out hs d k;have hp:=X7 Hgr.out hs d k;have hs1:=p0 (n:=be7 l s d k) (by omega);have hs2:=F8 hp hc;have Hn:=Lib.hid (c84 l s d k);go_wp2_with (first | (go_at_call 224;refine cx (N2 _ _ _ _ _ (hg _ hE) (Hgr) ((by omega)) ((by omega))) hE ?_;clear hE;intro w' hE));go_roundw;(case rel=>exact⟨k+1,by omega,by go_num,rfl,by rw[Hn.out],hE⟩);case measure=>(simp[intOf];omega)
  · have hkl:k=n:=(by omega);subst hkl;go_wp2_with fail;go_ret;exact⟨rfl,hE0.trans hE⟩
theorem X5(v:Value)(l:List Int)(s d n:Nat)(w:World)(h:c8 w v l)(Hgr:Hid (c9 l=true))(hs:s<24)(hd:d<24)(hn:n≤24) :
 Calls Tryz.prog 333 #[.agg #[v],.int .i64 s,.int .i64 d,.int .i64 n] w fun e w'=>e=.returned (.int .i64 (G8 l s d n:Nat))∧Ext w w':=by
 obtain⟨wb,Hwb,hE0,hb,hg,hE,Hsz⟩:=j60 28 h;clear h;go_enter Tryz.func333,Tryz.ntmps333;go_wp2_with fail;rw[←Hwb.out];go_loopw [10,9,11] (fun sv ov xv wr=>∃k:Nat,k≤n∧xv=.int .i64 k∧sv=.int .i64 (be7 l s d k:Nat)∧ov=.int .i64 (G8 l s d k:Nat)∧Ext wb wr) (fun _ _ x _=>n - (intOf x).toNat);case atStart=>exact⟨0,by omega,rfl,rfl,rfl,hE⟩
 case round =>
  clear hE;obtain⟨k,hk,rfl,rfl,rfl,hE⟩:=hrel;have hbx:=hb _ hE;by_cases hlt:k<n
  · have hc:=c43 Hgr.out hs d k;have hp:=X7 Hgr.out hs d k;have hs1:=p0 (n:=be7 l s d k) (by omega);have hs2:=F8 hp hc;have Hn:=Lib.hid (c84 l s d k);go_wp2_with (first | (go_at_call 190;refine cx (G5 _ _ _ _ _ (hg _ hE) (Hgr) ((by omega)) ((by omega))) hE ?_;clear hE;intro w' hE));go_roundw;(case rel=>exact⟨k+1,by omega,by go_num,rfl,by rw[Hn.out],hE⟩);case measure=>(simp[intOf];omega)
  · have hkl:k=n:=(by omega);subst hkl;go_wp2_with fail;go_ret;exact⟨rfl,hE0.trans hE⟩
def bd7(l:List Int)(a d:Nat)(L:List Nat):Bool:=L.any (fun x=>decide (G8 l x d (cnt a)=a))
def c62(l:List Int)(a d:Nat):Bool:=bd7 l a d (j1 a)
def T4(l:List Int)(a k:Nat):List Nat:=(List.range k).filter (c62 l a)
theorem cg3{l:List Int}{a k:Nat}(h:c62 l a k=true):T4 l a (k+1)=T4 l a k++[k]:=by
 unfold T4;rw[List.range_succ,List.filter_append];simp[h]
theorem cq6{l:List Int}{a k:Nat}(h:c62 l a k=false):T4 l a (k+1)=T4 l a k:=by
 unfold T4;rw[List.range_succ,List.filter_append];simp[h]
theorem cg0(l:List Int)(a k:Nat):(T4 l a k).length≤k:=by
 unfold T4;exact Nat.le_trans (List.length_filter_le _ _) (by simp)
def J7(l:List Int)(a:Int):List Int:=if q6 l a then d6 (T4 l a.toNat (ord l)) else []
theorem bw9{l:List Int}{a:Int}(h:q6 l a=false):J7 l a=[]:=by unfold J7;rw[h];rfl
theorem cq5{l:List Int}{n:Nat}(h:q6 l n=true):J7 l n=d6 (T4 l n (ord l)):=by unfold J7;rw[if_pos h];rfl
theorem c63{l:List Int}{a d:Nat}{L:List Nat}(h:∀j,j<L.length→G8 l (d5 L j) d (cnt a)≠a):bd7 l a d L=false:=by
 unfold bd7;rw[←Bool.not_eq_true,List.any_eq_true];rintro⟨x,hx,hd⟩;obtain⟨j,hj,rfl⟩:=List.getElem_of_mem hx;have:=h j hj;unfold d5 at this;rw[List.getD_eq_getElem?_getD,List.getElem?_eq_getElem hj] at this;exact this (of_decide_eq_true hd)
theorem cq7{l:List Int}{a d:Nat}{L:List Nat}{j:Nat}(hj:j<L.length)(h:G8 l (d5 L j) d (cnt a)=a):bd7 l a d L=true:=by
 unfold bd7;rw[List.any_eq_true];exact⟨_,o6 hj,decide_eq_true h⟩
end Go.Zz
namespace Go.Zz
theorem bv6{l:List Int}(h:c9 l=true)(a x y:Nat):j2 l (j2 l a x) y=j2 l a (j9 l y x):=by
 have ho:=m0 h;apply Nat.eq_of_testBit_eq;intro z;apply R0;rw[D0,D0];constructor
 · rintro⟨u,_,hu,rfl⟩;obtain⟨t,ht,hb,rfl⟩:=D0.1 hu;exact⟨t,ht,hb,G6 l ho y x t⟩
 · rintro⟨t,ht,hb,rfl⟩;exact⟨j9 l x t,T7 h x t,D0.2 ⟨t,ht,hb,rfl⟩,(G6 l ho y x t).symm⟩
theorem bg5{l:List Int}(h:c9 l=true){a:Nat}(ha:a<2 ^ ord l):j2 l a 0=a:=by
 apply Nat.eq_of_testBit_eq;intro i;apply R0;rw[D0];constructor
 · rintro⟨y,_,hy,e⟩;rw[C5 l (m0 h) y (G9 ha hy)] at e;subst e;exact hy
 · intro hi;have:=G9 ha hi;exact⟨i,Nat.lt_of_lt_of_le this (l8 h).2,hi,C5 l (m0 h) i this⟩
theorem dd7{l:List Int}(h:c9 l=true){n:Nat}(hn:n<2 ^ ord l):j2 l (bk9 l n) (J8 n)=n↔bk9 l n=j2 l n (p4 l (J8 n)):=by
 have ho:=m0 h;have e1:j9 l (p4 l (J8 n)) (J8 n)=0:=by rw[C8];exact K5 l ho _
 constructor
 · intro e;have:j2 l (j2 l (bk9 l n) (J8 n)) (p4 l (J8 n))=j2 l n (p4 l (J8 n)):=(by rw[e]);rw[bv6 h,e1,bg5 h (show bk9 l n<2 ^ ord l from Y6 h _)] at this;exact this
 · intro e;rw[e,bv6 h,K5 l ho,bg5 h hn]
def V8(l:List Int)(a:Int):Bool:=q6 l a&&decide (bm0 l a=a)
theorem bw8{l:List Int}{a:Int}(h:q6 l a=false):V8 l a=false:=by unfold V8;rw[h];rfl
theorem cf7{l:List Int}{n:Nat}(h:q6 l n=true):V8 l n=(bm0 l n == (n:Int)):=by unfold V8;rw[h];rfl
theorem dl6{l:List Int}{n:Nat}(h:q6 l n=true):V8 l n=bw2 l (j2 l n (p4 l (J8 n)):Nat):=by
 obtain⟨n',e,h0,h1,h2,hg⟩:=bm2 h;obtain rfl:n=n':=by omega
 have hs:d8 l (j2 l n (p4 l (J8 n)):Nat)=true:=O5 hg (U3 (m0 hg) _ _);rw[cf7 h,ch1 h,cy5 hs];have:=dd7 hg h1;unfold bk9 at this ⊢;by_cases e:genF l (j2 l n (p4 l (J8 n)))=j2 l n (p4 l (J8 n))
 · rw[this.2 e,e];simp
 · have e':¬j2 l (genF l (j2 l n (p4 l (J8 n)))) (J8 n)=n:=fun q=>e (this.1 q);have i1:((j2 l (genF l (j2 l n (p4 l (J8 n)))) (J8 n):Int) == (n:Int))=false:=(by simp;omega);have i2:((genF l (j2 l n (p4 l (J8 n))):Int) == (j2 l n (p4 l (J8 n)):Int))=false:=(by simp;omega);rw[i1,i2]
def bxS(l:List Int)(n m d e:Nat):Nat:=j3 l (G8 l 0 d m) (G8 l 0 e (cnt n / m))
def b25(l:List Int)(n m d e:Nat):Bool:=decide (cnt (bxS l n m d e)=cnt n)&&(List.range (ord l)).any (fun x=>decide (j2 l (bxS l n m d e) x=n))
def bxM(l:List Int)(n m:Nat):Bool:=decide (cnt n % m=0)&&(List.range (ord l)).any (fun d=>(List.range (ord l)).any (fun e=>b25 l n m d e))
def bxN(l:List Int)(n:Nat):Bool:=(List.range (cnt n+1)).any (fun m=>decide (1≤m∧m*m≤cnt n)&&bxM l n m)
def V7(l:List Int)(a:Int):Bool:=q6 l a&&bxN l a.toNat
theorem bw7{l:List Int}{a:Int}(h:q6 l a=false):V7 l a=false:=by unfold V7;rw[h];rfl
theorem co9{l:List Int}{n:Nat}(h:q6 l n=true):V7 l n=bxN l n:=by unfold V7;rw[h];rfl
theorem cp1{l:List Int}{n m d e:Nat}(h:¬cnt (bxS l n m d e)=cnt n):b25 l n m d e=false:=by unfold b25;simp[h]
theorem d42{l:List Int}{n m d e:Nat}(h:∀x,x<ord l→¬j2 l (bxS l n m d e) x=n):b25 l n m d e=false:=by
 unfold b25;have:(List.range (ord l)).any (fun x=>decide (j2 l (bxS l n m d e) x=n))=false:=by
  rw[←Bool.not_eq_true,List.any_eq_true];rintro⟨x,hx,hd⟩;exact h x (List.mem_range.1 hx) (of_decide_eq_true hd)
 rw[this];simp
theorem d43{l:List Int}{n m:Nat}(h:¬cnt n % m=0):bxM l n m=false:=by unfold bxM;simp[h]
theorem dd3{l:List Int}{n m:Nat}(h:∀d,d<ord l→∀e,e<ord l→b25 l n m d e=false):bxM l n m=false:=by
 unfold bxM;have:(List.range (ord l)).any (fun d=>(List.range (ord l)).any (fun e=>b25 l n m d e))=false:=by
  rw[←Bool.not_eq_true,List.any_eq_true];rintro⟨d,hd,hx⟩;rw[List.any_eq_true] at hx;obtain⟨e,he,hy⟩:=hx;rw[h d (List.mem_range.1 hd) e (List.mem_range.1 he)] at hy;cases hy
 rw[this];simp
theorem dd4{l:List Int}{n k:Nat}(h:∀m,1≤m→m<k→bxM l n m=false)(hk:¬k*k≤cnt n):bxN l n=false:=by
 unfold bxN;rw[←Bool.not_eq_true,List.any_eq_true];rintro⟨m,_,hx⟩;rw[Bool.and_eq_true,decide_eq_true_eq] at hx;obtain⟨⟨h1,h2⟩,h3⟩:=hx;rcases Nat.lt_or_ge m k with hlt | hge
 · rw[h m h1 hlt] at h3;cases h3
 · have:=Nat.mul_le_mul hge hge;omega
theorem d44{l:List Int}{n m d e x:Nat}(h1:1≤m)(h2:m*m≤cnt n)(h3:cnt n % m=0)(hd:d<ord l)(he:e<ord l)(hx:x<ord l)(h4:cnt (bxS l n m d e)=cnt n)(h5:j2 l (bxS l n m d e) x=n):bxN l n=true:=by
 unfold bxN bxM b25;rw[List.any_eq_true];refine⟨m,List.mem_range.2 (by have:=Nat.le_mul_of_pos_left m h1;omega),?_⟩;rw[Bool.and_eq_true,Bool.and_eq_true,decide_eq_true_eq,decide_eq_true_eq];refine⟨⟨h1,h2⟩,h3,?_⟩;rw[List.any_eq_true];refine⟨d,List.mem_range.2 hd,?_⟩;rw[List.any_eq_true];refine⟨e,List.mem_range.2 he,?_⟩;rw[Bool.and_eq_true,decide_eq_true_eq,List.any_eq_true];exact⟨h4,x,List.mem_range.2 hx,decide_eq_true h5⟩
def Sid(l:List Int)(L:List Nat):Prop:=∀i j k m,i≤j→j<L.length→k≤m→m<L.length→j9 l (d5 L i) (d5 L j)=j9 l (d5 L k) (d5 L m)→i=k∧j=m
open Classical in
noncomputable def sidL (l:List Int) (L:List Nat):Bool:=decide (Sid l L)
noncomputable def sidB (l:List Int) (a:Int):Bool:=d8 l a&&sidL l (j1 a.toNat)
theorem d72{l:List Int}{a:Int}(h:d8 l a=false):sidB l a=false:=by unfold sidB;rw[h];rfl
theorem c51{l:List Int}{n:Nat}(h:d8 l n=true):sidB l n=sidL l (j1 n):=by unfold sidB;rw[h];rfl
open Classical in
theorem dj0{l:List Int}{L:List Nat}(h:Sid l L):sidL l L=true:=by unfold sidL;exact decide_eq_true h
open Classical in
theorem di9{l:List Int}{L:List Nat}(h:¬Sid l L):sidL l L=false:=by unfold sidL;exact decide_eq_false h
def Bef(i j p q:Nat):Prop:=p<i∨(p=i∧q<j)
def U4(l:List Int)(L:List Nat)(i j seen:Nat):Prop :=
 (∀p q r t,p≤q→q<L.length→r≤t→t<L.length→Bef i j p q→Bef i j r t→j9 l (d5 L p) (d5 L q)=j9 l (d5 L r) (d5 L t)→p=r∧q=t) ∧
  (∀z,seen.testBit z=true↔∃p q,p≤q∧q<L.length∧Bef i j p q∧j9 l (d5 L p) (d5 L q)=z)
theorem U4.start(l:List Int)(L:List Nat):U4 l L 0 0 0:=by
 refine⟨fun p q r t _ _ _ _ h=>?_,fun z=>?_⟩
 · rcases h with h | ⟨_,h⟩<;>omega
 · rw[Nat.zero_testBit];constructor
   · intro h;cases h
   · rintro⟨p,q,_,_,h,_⟩;rcases h with h | ⟨_,h⟩<;>omega
theorem U4.hit{l:List Int}{L:List Nat}{i j seen:Nat}(h:U4 l L i j seen)(hij:i≤j)(hj:j<L.length)(hs:seen.testBit (j9 l (d5 L i) (d5 L j))=true):¬Sid l L:=by
 intro hS;obtain⟨p,q,hpq,hq,hb,e⟩:=(h.2 _).1 hs;obtain⟨rfl,rfl⟩:=hS p q i j hpq hq hij hj e;rcases hb with hb | ⟨_,hb⟩<;>omega
theorem U4.next{l:List Int}{L:List Nat}{i j seen:Nat}(h:U4 l L i j seen)(hij:i≤j)(hj:j<L.length)(hs:seen.testBit (j9 l (d5 L i) (d5 L j))=false) :
 U4 l L i (j+1) (seen ||| 2 ^ j9 l (d5 L i) (d5 L j)):=by
 have hb:∀p q,Bef i (j+1) p q↔(Bef i j p q∨(p=i∧q=j)):=fun p q=>by unfold Bef;omega
 refine⟨fun p q r t h1 h2 h3 h4 h5 h6 e=>?_,fun z=>?_⟩
 · rcases (hb p q).1 h5 with a | ⟨rfl,rfl⟩<;>rcases (hb r t).1 h6 with b | ⟨rfl,rfl⟩
   · exact h.1 p q r t h1 h2 h3 h4 a b e
   · have:=(h.2 _).2 ⟨p,q,h1,h2,a,e⟩;rw[hs] at this;cases this
   · have:=(h.2 _).2 ⟨r,t,h3,h4,b,e.symm⟩;rw[hs] at this;cases this
   · exact⟨rfl,rfl⟩
 · rw[Nat.testBit_or,Nat.testBit_two_pow,Bool.or_eq_true,decide_eq_true_eq,h.2 z];constructor
   · rintro (⟨p,q,h1,h2,h3,h4⟩ | e)
     · exact⟨p,q,h1,h2,(hb p q).2 (Or.inl h3),h4⟩
     · exact⟨i,j,hij,hj,(hb i j).2 (Or.inr ⟨rfl,rfl⟩),e⟩
   · rintro⟨p,q,h1,h2,h3,h4⟩;rcases (hb p q).1 h3 with a | ⟨rfl,rfl⟩
     · exact Or.inl ⟨p,q,h1,h2,a,h4⟩
     · exact Or.inr h4
theorem U4.row{l:List Int}{L:List Nat}{i j seen:Nat}(h:U4 l L i j seen)(hj:j=L.length):U4 l L (i+1) (i+1) seen:=by
 have hb:∀p q,p≤q→q<L.length→(Bef (i+1) (i+1) p q↔Bef i j p q):=fun p q h1 h2=>by unfold Bef;omega
 refine⟨fun p q r t h1 h2 h3 h4 h5 h6 e=>h.1 p q r t h1 h2 h3 h4 ((hb p q h1 h2).1 h5) ((hb r t h3 h4).1 h6) e,fun z=>?_⟩;rw[h.2 z];constructor
 · rintro⟨p,q,h1,h2,h3,h4⟩;exact⟨p,q,h1,h2,(hb p q h1 h2).2 h3,h4⟩
 · rintro⟨p,q,h1,h2,h3,h4⟩;exact⟨p,q,h1,h2,(hb p q h1 h2).1 h3,h4⟩
theorem U4.all{l:List Int}{L:List Nat}{i seen:Nat}(h:U4 l L i i seen)(hi:i=L.length):Sid l L:=fun p q r t h1 h2 h3 h4 e =>
 h.1 p q r t h1 h2 h3 h4 (by unfold Bef;omega) (by unfold Bef;omega) e
end Go.Zz
namespace Go.Zz
def pkN(L:List Nat)(n:Nat):Nat→Nat
 | 0=>0
 | k+1=>if n<d5 L k then pkN L n k else k+1
theorem c41{L:List Nat}{n k:Nat}(h:n<d5 L k):pkN L n (k+1)=pkN L n k:=by rw[pkN,if_pos h]
theorem bn0{L:List Nat}{n k:Nat}(h:¬n<d5 L k):pkN L n (k+1)=k+1:=by rw[pkN,if_neg h]
def W4(L:List Nat)(n k:Nat):List Nat:=L.take k++n :: L.drop k
def L1(L:List Nat)(n:Nat):List Nat:=if 0<pkN L n L.length∧d5 L (pkN L n L.length - 1)=n then L else W4 L n (pkN L n L.length)
theorem bu3(L:List Nat)(n:Nat):∀k,pkN L n k≤k
 | 0=>Nat.le_refl _
 | k+1=>by
  unfold pkN;split
  · exact Nat.le_succ_of_le (bu3 L n k)
  · exact Nat.le_refl _
theorem dp7{L:List Nat}{n k:Nat}(hk:pkN L n L.length=k+1)(h:d5 L k=n):L1 L n=L:=by
 unfold L1;rw[hk,if_pos ⟨by omega,h⟩]
theorem dh9{L:List Nat}{n:Nat}(hk:pkN L n L.length=0):L1 L n=W4 L n 0:=by
 unfold L1;rw[hk,if_neg (by omega)]
theorem dp6{L:List Nat}{n k:Nat}(hk:pkN L n L.length=k+1)(h:¬d5 L k=n):L1 L n=W4 L n (k+1):=by
 unfold L1;rw[hk,if_neg (fun e=>h e.2)]
theorem bu5{L:List Nat}{n k:Nat}(hk:k≤L.length):(W4 L n k).length=L.length+1:=by
 unfold W4;rw[List.length_append,List.length_cons,List.length_take,List.length_drop];omega
theorem dg2{L:List Nat}{n k x:Nat}:x∈W4 L n k↔x=n∨x∈L:=by
 unfold W4;rw[List.mem_append,List.mem_cons];have h:x∈L↔x∈L.take k∨x∈L.drop k:=by rw[←List.mem_append,List.take_append_drop]
 rw[h];constructor
 · rintro (a | a | a)
   · exact Or.inr (Or.inl a)
   · exact Or.inl a
   · exact Or.inr (Or.inr a)
 · rintro (a | a | a)
   · exact Or.inr (Or.inl a)
   · exact Or.inl a
   · exact Or.inr (Or.inr a)
theorem bn1(L:List Nat)(n:Nat):(L1 L n=L∧n∈L)∨L1 L n=W4 L n (pkN L n L.length):=by
 unfold L1;split
 · next h =>
    refine Or.inl ⟨rfl,?_⟩;have hle:=bu3 L n L.length;have:=o6 (L:=L) (k:=pkN L n L.length - 1) (by omega);rwa [h.2] at this
 · exact Or.inr rfl
theorem cu2{L:List Nat}{n x:Nat}:x∈L1 L n↔x=n∨x∈L:=by
 rcases bn1 L n with ⟨e,h⟩ | e
 · rw[e];constructor
   · exact Or.inr
   · rintro (rfl | a)
     · exact h
     · exact a
 · rw[e];exact dg2
theorem cw4{L:List Nat}{n:Nat}(h:n ∉ L):(L1 L n).length=L.length+1:=by
 rcases bn1 L n with ⟨-,h2⟩ | e
 · exact absurd h2 h
 · rw[e];exact bu5 (bu3 _ _ _)
theorem cw3(L:List Nat)(n:Nat):(L1 L n).length≤L.length+1:=by
 rcases bn1 L n with ⟨e,-⟩ | e
 · rw[e];omega
 · rw[e,bu5 (bu3 _ _ _)];exact Nat.le_refl _
def O8(T:List Nat):Nat→List Nat
 | 0=>[]
 | k+1=>L1 (O8 T k) (d5 T k)
theorem ci8(T:List Nat):∀k,(O8 T k).length≤k
 | 0=>Nat.le_refl _
 | k+1=>by have:=ci8 T k;have:=cw3 (O8 T k) (d5 T k);unfold O8;omega
theorem c06{T:List Nat}(h:T.Nodup):∀k,k≤T.length→(O8 T k).length=k∧∀x∈O8 T k,x∈T.take k
 | 0,_=>⟨rfl,by simp[O8]⟩
 | k+1,hk=>by
  obtain⟨h1,h2⟩:=c06 h k (by omega)
  have hn:d5 T k ∉ O8 T k:=fun e=>by
   have:=h2 _ e
   rw[←List.take_append_drop k T,List.nodup_append] at h
   have h4:d5 T k∈T.drop k:=by
    have e2:d5 T k=T[k]'(by omega):=(by simp[d5,List.getD,show k<T.length by omega]);rw[List.drop_eq_getElem_cons (by omega),e2];exact List.mem_cons_self
   exact h.2.2 _ this _ h4 rfl
  refine⟨by unfold O8;rw[cw4 hn,h1],fun x hx=>?_⟩
  unfold O8 at hx
  rw[S0 T k (by omega),List.mem_append,List.mem_singleton]
  rcases cu2.1 hx with rfl | hx
  · exact Or.inr rfl
  · exact Or.inl (h2 x hx)
def cn4(l:List Int)(a u b y:Nat):Prop:=∀d,(b.testBit d=true→y.testBit d=true)∧(y.testBit d=true→b.testBit d=true∨j2 l a d &&& u=0)
theorem bq9{a b i:Nat}(h:a &&& b=0)(ha:a.testBit i=true):b.testBit i=false:=by
 cases hb:b.testBit i
 · rfl
 · have:(a &&& b).testBit i=true:=(by rw[Nat.testBit_and,ha,hb];rfl);rw[h,Nat.zero_testBit] at this;cases this
theorem cn9{a b c:Nat}(h:a &&& (b ||| c)=0):a &&& b=0:=by
 apply Nat.eq_of_testBit_eq;intro i;rw[Nat.zero_testBit,Nat.testBit_and];cases ha:a.testBit i
 · rfl
 · have:=bq9 h ha;rw[Nat.testBit_or,Bool.or_eq_false_iff] at this;rw[this.1];rfl
theorem cn4.back{l:List Int}{a u b D y:Nat}(hz:j2 l a D &&& u=0)(h:cn4 l a (u ||| j2 l a D) (b ||| 2 ^ D) y):cn4 l a u b y:=fun d=>by
 obtain⟨h1,h2⟩:=h d
 refine⟨fun hb=>h1 (by rw[Nat.testBit_or,hb];rfl),fun hy=>?_⟩
 rcases h2 hy with h3 | h3
 · rw[Nat.testBit_or,Bool.or_eq_true,Nat.testBit_two_pow] at h3
   rcases h3 with h3 | h3
   · exact Or.inl h3
   · have:D=d:=by simpa using h3
     subst this;exact Or.inr hz
 · exact Or.inr (cn9 h3)
theorem dq7{c:Nat→Prop}[DecidablePred c]{G:Nat→Nat→List Nat}{Q:Nat→Nat→Prop}{E:List Nat}{m:Nat}(hG:∀x k,x∈E→c x→(G x k).Nodup∧∀y∈G x k,Q x y)
 (hQ:∀x∈E,∀x'∈E,∀y,c x→c x'→Q x y→Q x' y→x=x') :
 ∀(L pre out:List Nat),(pre++L).Nodup→(∀x∈pre++L,x∈E)→out.Nodup→(∀y∈out,∃x∈pre,c x∧Q x y) →
  (L.foldl (fun (out:List Nat) (x:Nat)=>if out.length<m∧c x then out++G x (m - out.length) else out) out).Nodup∧∀y∈L.foldl (fun (out:List Nat) (x:Nat)=>if out.length<m∧c x then out++G x (m - out.length) else out) out,∃x∈pre++L,c x∧Q x y:=by
 intro L
 induction L with
 | nil=>intro pre out _ _ h3 h4;exact⟨h3,by simpa using h4⟩
 | cons x L ih =>
  intro pre out h1 h2 h3 h4
  have e:pre++x :: L=(pre++[x])++L:=by simp
  rw[List.foldl_cons,e]
  rw[e] at h1 h2
  refine ih (pre++[x]) _ h1 h2 ?_ ?_
  · split
    · next hc =>
       have hx:x∈E:=h2 x (by simp);obtain⟨g1,g2⟩:=hG x (m - out.length) hx hc.2;rw[List.nodup_append];refine⟨h3,g1,fun y hy z hz e=>?_⟩;subst e;obtain⟨x',hx',hc',hq⟩:=h4 y hy;have:=hQ x' (h2 x' (by simp[hx'])) x hx y hc' hc.2 hq (g2 y hz);subst this;rw[List.nodup_append] at h1;have h5:=h1.1;rw[List.nodup_append] at h5;exact h5.2.2 _ hx' _ (by simp) rfl
    · exact h3
  · intro y hy
    split at hy
    · next hc =>
       rw[List.mem_append] at hy;rcases hy with hy | hy
       · obtain⟨x',hx',hq⟩:=h4 y hy;exact⟨x',by simp[hx'],hq⟩
       · exact⟨x,by simp,hc.2,(hG x _ (h2 x (by simp)) hc.2).2 y hy⟩
    · obtain⟨x',hx',hq⟩:=h4 y hy;exact⟨x',by simp[hx'],hq⟩
theorem cq3{l:List Int}(hg:c9 l=true){u x:Nat}(hu:bg3 u<ord l):j9 l (dF l u x) x=bg3 u:=by
 unfold dF;rw[G6 l (m0 hg),C8 l (p4 l x) x,K5 l (m0 hg),C8 l,C5 l (m0 hg) _ hu]
theorem dn4{l:List Int}{u:Nat}(hu:u<2 ^ ord l)(ho:ord l≤24)(h:u≠j4 l):bg3 u<ord l∧u.testBit (bg3 u)=false:=by
 have hex:∃e,u.testBit e=false∧e<ord l:=Classical.byContradiction fun hn=>h (c39 hu (e:=ord l) (fun j hj=>Classical.byContradiction fun hb=>hn ⟨j,by simpa using hb,hj⟩) (Nat.le_refl _));have key:∀n,(∃e,e<n∧u.testBit e=false)→∃e,e<n∧u.testBit e=false∧∀j,j<e→u.testBit j=true:=by
  intro n;induction n with
  | zero=>rintro⟨e,he,_⟩;omega
  | succ n ih =>
   rintro⟨e,he,hb⟩;by_cases hc:∃e,e<n∧u.testBit e=false
   · obtain⟨e',h1,h2⟩:=ih hc;exact⟨e',by omega,h2⟩
   · have e0:e=n:=Classical.byContradiction fun hn=>hc ⟨e,by omega,hb⟩;subst e0;exact⟨e,by omega,hb,fun j hj=>Classical.byContradiction fun hb=>hc ⟨j,hj,by simpa using hb⟩⟩
 obtain⟨e,he,hb⟩:=hex;obtain⟨e',h1,h2,h3⟩:=key (ord l) ⟨e,hb,he⟩;rw[cc5 h3 h2 (by omega)];exact⟨h1,h2⟩
theorem ct6{l:List Int}(hg:c9 l=true){a u x:Nat}(hu:bg3 u<ord l)(hx:x∈j1 a):(j2 l a (dF l u x)).testBit (bg3 u)=true:=by
 rw[D0];exact⟨x,(E8.1 hx).1,(E8.1 hx).2,cq3 hg hu⟩
theorem dj6{l:List Int}(hg:c9 l=true){a:Nat}(ha:a<2 ^ ord l):∀f u b m,u<2 ^ ord l→(∀d,b.testBit d=true→Sub (j2 l a d) u) →
 (tlS l a f u b m).Nodup∧∀y∈tlS l a f u b m,cn4 l a u b y:=by
 intro f;induction f with
 | zero=>intro u b m _ _;simp[tlS]
 | succ f ih =>
  intro u b m hu hI;have hob:=l8 hg;by_cases hfull:u=j4 l
  · rw[bo2 hfull];refine⟨by simp,fun y hy=>?_⟩;rw[List.mem_singleton] at hy;subst hy;exact fun d=>⟨id,Or.inl⟩
  · obtain⟨hl1,hl2⟩:=dn4 hu hob.2 hfull;have hbit:∀x∈j1 a,x<ord l:=fun x hx=>Classical.byContradiction fun hn=>by
     have:=P7 ha (Nat.le_of_not_lt hn);rw[(E8.1 hx).2] at this;cases this
    unfold tlS;rw[if_neg hfull]
    have key:=dq7 (c:=fun x=>j2 l a (dF l u x) &&& u=0) (G:=fun x k=>tlS l a f (u ||| j2 l a (dF l u x)) (b ||| 2 ^ dF l u x) k) (Q:=fun x y=>cn4 l a (u ||| j2 l a (dF l u x)) (b ||| 2 ^ dF l u x) y) (E:=j1 a) (m:=m)
     (fun x k hx hc=>ih _ _ k (Nat.or_lt_two_pow hu (U3 (m0 hg) a _)) fun d hd=>by
      rw[Nat.testBit_or,Bool.or_eq_true,Nat.testBit_two_pow] at hd
      rcases hd with hd | hd
      · exact (hI d hd).trans (Sub.or_left _ _)
      · have:dF l u x=d:=by simpa using hd
        subst this;exact Sub.or_right _ _)
     (fun x hx x' hx' y hc hc' hq hq'=>by
      have hD:y.testBit (dF l u x')=true:=(hq' _).1 (by rw[Nat.testBit_or,Nat.testBit_two_pow];simp)
      have hs':=ct6 hg hl1 hx'
      have hs:=ct6 hg hl1 hx
      rcases (hq _).2 hD with h1 | h1
      · rw[Nat.testBit_or,Bool.or_eq_true,Nat.testBit_two_pow] at h1
        rcases h1 with h1 | h1
        · have:=hI _ h1 _ hs'
          rw[hl2] at this;cases this
        · have e:dF l u x=dF l u x':=by simpa using h1
          have e1:=cq3 hg (x:=x) hl1
          have e2:=cq3 hg (x:=x') hl1
          rw[e] at e1
          exact S6 (m0 hg) (hbit x hx) (hbit x' hx') (e1.trans e2.symm)
      · have:=bq9 h1 hs'
        rw[Nat.testBit_or,hs] at this;simp at this)
     (j1 a) [] [] (by simpa using bg1 a) (by simp) (by simp) (by simp)
    refine⟨key.1,fun y hy=>?_⟩;obtain⟨x,-,hc,hq⟩:=key.2 y hy;exact hq.back hc
theorem d32{l:List Int}(hg:c9 l=true){a:Nat}(ha:a<2 ^ ord l)(m:Nat):(K1 l a m).Nodup :=
 (dj6 hg ha _ _ _ _ ha fun d hd=>by
  have:d=0:=by
   rw[show (1:Nat)=2 ^ 0 from rfl,Nat.testBit_two_pow] at hd;have:0=d:=(by simpa using hd);omega
  subst this
  rw[bg5 hg ha];exact Sub.refl _).1
end Go.Zz
namespace Go.Zz
open Go.RowKit Go.Proofs
set_option maxHeartbeats 2000000
set_option maxRecDepth 8000
theorem cf6(L:List Nat)(n k:Nat):(d6 L).take k++[(n:Int)]++(d6 L).drop k=d6 (W4 L n k):=by
 unfold W4 d6;simp[List.map_take,List.map_drop]
theorem ch6(u:Value)(L:List Nat)(n:Nat)(w:World)(h:c8 w u (d6 L))(hL:L.length≤100000) :
 Calls Tryz.prog 175 #[u,.int .i64 n] w fun e w'=>∃v',e=.returned v'∧(v'=u∧L1 L n=L∨Own 3 w w' v' (d6 (L1 L n)))∧Ext w w':=by
 have HI:=Lib.hid (fun W (hW:Ext w W)=>h.ext hW);obtain⟨ao,c,adrL,rfl,hadrL,hcellL⟩:=h.nats;have hixL:=j6 (c:=c) elI szI hadrL;have hE:=Ext.refl w;have hcap:L.length≤c:=by
  obtain⟨_,_,hv,hc,_⟩:=h;rw[j8] at hv hc;simp only[Value.slice.injEq] at hv;omega
 have HI:Hid (∀W,Ext w W→c8 W (.slice ao L.length c) (d6 L)):=HI;clear h hadrL;go_enter Tryz.func175,Tryz.ntmps175;go_wp2_with fail;go_loop [5] (fun sk=>∃k:Nat,k≤L.length∧sk=.int .i64 k∧Hid (pkN L n L.length=pkN L n k)) (fun sk=>(intOf sk).toNat);case atStart=>exact⟨L.length,Nat.le_refl _,rfl,Lib.hid rfl⟩
 case round =>
  obtain⟨k,hk,rfl,HP⟩:=hrel;have hc4:k=0∨(∃j,k=j+1∧n<d5 L j)∨(∃j,k=j+1∧d5 L j=n)∨(∃j,k=j+1∧d5 L j<n):=by
   by_cases hk0:k=0
   · exact Or.inl hk0
   · obtain⟨j,rfl⟩:∃j,k=j+1:=⟨k - 1,by omega⟩;rcases Nat.lt_trichotomy n (d5 L j) with h | h | h
     · exact Or.inr (Or.inl ⟨j,rfl,h⟩)
     · exact Or.inr (Or.inr (Or.inl ⟨j,rfl,h.symm⟩))
     · exact Or.inr (Or.inr (Or.inr ⟨j,rfl,h⟩))
  have Hcell:=Lib.hid hcellL;clear hcellL;rcases hc4 with hk0 | ⟨j,rfl,hlt⟩ | ⟨j,rfl,he⟩ | ⟨j,hkj,hlt⟩
  · have Hp:Hid (L1 L n=W4 L n k):=Lib.hid (by rw[hk0] at HP ⊢;exact dh9 HP.out);have hkz:¬(0:Int)<(k:Int):=(by omega);clear hk0;have hsl:=fun W=>bj8 (P:=Tryz.prog) elI szI ao L.length c (k:Int) (by omega) (by omega) W;have hsa:=fun W=>ci9 (P:=Tryz.prog) elI szI ao L.length c (k:Int) (by omega) (by omega) W;have hfl:=fun W=>b58 (P:=Tryz.prog) elI szI ao L.length c (k:Int) (by omega) (by omega) W;have hfa:=fun W=>b72 (P:=Tryz.prog) elI szI ao L.length c (k:Int) (by omega) (by omega) W;rw[show ((k:Int)).toNat=k by omega] at hsl hsa hfl hfa;have hcl:(d6 L).length=L.length:=j8 L;have Hpq:Hid (d6 (L1 L n)=(d6 L).take k++[(n:Int)]++(d6 L).drop k):=Lib.hid (by rw[Hp.out,cf6]);have HA:=Lib.hid (fun W (hW:Ext w W)=>(HI.out W hW).take (k:=k) (by omega));have HB:=Lib.hid (fun W (hW:Ext w W)=>(HI.out W hW).drop (k:=k) (by omega));have hln1:((d6 L).take k).length+[(n:Int)].length≤17592186044416:=(by rw[List.length_take,List.length_singleton];omega);have hln2:((d6 L).take k++[(n:Int)]).length+((d6 L).drop k).length≤17592186044416:=(by rw[List.length_append,List.length_take,List.length_singleton,List.length_drop];omega);obtain⟨A,hA⟩:∃A,A=(d6 L).take k:=⟨_,rfl⟩;obtain⟨B,hB⟩:∃B,B=(d6 L).drop k:=⟨_,rfl⟩;rw[←hA] at HA hln1 hln2 Hpq;rw[←hB] at HB hln2 Hpq;clear hA hB hcl;go_wp2_with fail;first | (go_region_held3 (fun W=>Ext w W) (exact xq) (first | ((refine M6 slI rfl _ _ rfl w w ?_ ?_ (A++[(n:Int)]) (B) ?_ ?_ ?_ hln2 ?_ ?_ ?_);(rotate_left 2);(focus (first | (with_reducible assumption) | ((refine N0.ext (w:=?_) ?_ ?_);(rotate_left 1);(focus (with_reducible assumption));repeat (first | assumption | exact Ext.refl _ | (apply And.left;assumption) | apply Ext.drew | apply Ext.alloc))));(rotate_left 2);rfl;rfl;(rotate_left 1);(focus (exact HB.out _ xq));(focus (repeat (first | assumption | exact Ext.refl _ | (apply And.left;assumption) | apply Ext.drew | apply Ext.alloc)));(intro vF wF hOF hXF hTF)) | ((refine M6 slI rfl _ _ rfl w w ?_ ?_ (A) ([(n:Int)]) ?_ ?_ ?_ hln1 ?_ ?_ ?_);(rotate_left 2);(focus (first | (with_reducible assumption) | ((refine N0.ext (w:=?_) ?_ ?_);(rotate_left 1);(focus (with_reducible assumption));repeat (first | assumption | exact Ext.refl _ | (apply And.left;assumption) | apply Ext.drew | apply Ext.alloc))));(rotate_left 2);rfl;rfl;(rotate_left 1);(focus (refine Blk.ints1 (T:=3) ?_;(repeat (first | (with_reducible assumption) | (with_reducible exact Blk.new _ _ _) | ((with_reducible refine Blk.new' ?_);simp[go_sem];done) | (with_reducible apply Blk.alloc) | (with_reducible apply Blk.drew) | (with_reducible refine Blk.ext ?_ hEC)))));(focus (repeat (first | assumption | exact Ext.refl _ | (apply And.left;assumption) | apply Ext.drew | apply Ext.alloc)));(intro vD wD hOD hXD hTD)) | ((refine bn8 slI rfl _ _ rfl ?_ ?_ (A) ?_ ?_ ?_ ?_ w ?_ ?_ ?_);(rotate_left 2);rfl;rfl;(focus (repeat (first | (with_reducible assumption) | (with_reducible exact Blk.new _ _ _) | ((with_reducible refine Blk.new' ?_);simp[go_sem];done) | (with_reducible apply Blk.alloc) | (with_reducible apply Blk.drew))));(exact HA.out _ xq);(focus (first | exact Nat.le_refl _ | omega | (simp;omega)));(focus (repeat (first | assumption | exact Ext.refl _ | (apply And.left;assumption) | apply Ext.drew | apply Ext.alloc)));(intro aoC cC wC hOC hZC hEC;have hXC:=Ext.trans (a:=w) xq hEC;have hOEC:N0 3 w w wC _ _:=Or.inr hOC)))) | (fail "the region")
    all_goals
     obtain⟨aoN,cN,rfl,hON,hEN⟩:=MiP.of hOF hXF
     go_wp2_with fail
     go_ret
     exact⟨_,rfl,Or.inr (by rw[Hpq.out];exact hON),hEN⟩
  · have hlj:j<L.length:=(by omega);have hck:=Hcell.out j w hlj hE;obtain⟨Y,hY⟩:∃Y,Y=d5 L j:=⟨_,rfl⟩;rw[←hY] at hck hlt;have hixj:=hixL j;have hw1:IntKind.i64.wrap (((j+1:Nat):Int) - 1)=(j:Int):=(by rw[show (((j+1:Nat):Int) - 1)=(j:Int) by omega];exact IntWalk.i64_in _ (by omega));have hw2:(((j+1:Nat):Int) - 1)=(j:Int):=(by omega);have hkz:(0:Int)<((j+1:Nat):Int):=(by omega);have Hn:Hid (pkN L n L.length=pkN L n j):=Lib.hid (by rw[HP.out,c41 (by rw[←hY];exact hlt)]);have hq:(n:Int)<(Y:Int):=(by omega);clear hY;go_wp2_with fail;go_round;(case rel=>exact⟨j,by omega,by go_num,Hn⟩);case measure=>(first | (simp[intOf];done) | (simp[intOf];omega))
  · have hlj:j<L.length:=(by omega);have hck:=Hcell.out j w hlj hE;have Hs:Hid (pkN L n L.length=j+1):=Lib.hid (by rw[HP.out,bn0 (by omega)]);have Hp:Hid (L1 L n=L):=Lib.hid (dp7 Hs.out he);have hw2:(((j+1:Nat):Int) - 1)=(j:Int):=(by omega);have hkz:(0:Int)<((j+1:Nat):Int):=(by omega);rw[he] at hck;have hq:¬(n:Int)<(n:Int):=(by omega);clear he;go_wp2_with fail;go_ret;exact⟨_,rfl,Or.inl ⟨rfl,Hp.out⟩,hE⟩
  · have hlj:j<L.length:=(by omega);have hck:=Hcell.out j w hlj hE;have Hs:Hid (pkN L n L.length=j+1):=Lib.hid (by rw[HP.out,hkj,bn0 (by omega)]);have Hp:Hid (L1 L n=W4 L n k):=Lib.hid (by rw[hkj];exact dp6 Hs.out (by omega));obtain⟨Y,hY⟩:∃Y,Y=d5 L j:=⟨_,rfl⟩;rw[←hY] at hck hlt;have hw2:((k:Int) - 1)=(j:Int):=(by omega);have hkz:(0:Int)<(k:Int):=(by omega);have hq:¬(n:Int)<(Y:Int):=(by omega);have hq2:((Y:Int) == (n:Int))=false:=(by rw[beq_eq_false_iff_ne];omega);have hixj:=hixL j;have Hs':=Hs;clear hY hkj Hs Hs';have hsl:=fun W=>bj8 (P:=Tryz.prog) elI szI ao L.length c (k:Int) (by omega) (by omega) W;have hsa:=fun W=>ci9 (P:=Tryz.prog) elI szI ao L.length c (k:Int) (by omega) (by omega) W;have hfl:=fun W=>b58 (P:=Tryz.prog) elI szI ao L.length c (k:Int) (by omega) (by omega) W;have hfa:=fun W=>b72 (P:=Tryz.prog) elI szI ao L.length c (k:Int) (by omega) (by omega) W;rw[show ((k:Int)).toNat=k by omega] at hsl hsa hfl hfa;have hcl:(d6 L).length=L.length:=j8 L;have Hpq:Hid (d6 (L1 L n)=(d6 L).take k++[(n:Int)]++(d6 L).drop k):=Lib.hid (by rw[Hp.out,cf6]);have HA:=Lib.hid (fun W (hW:Ext w W)=>(HI.out W hW).take (k:=k) (by omega));have HB:=Lib.hid (fun W (hW:Ext w W)=>(HI.out W hW).drop (k:=k) (by omega));have hln1:((d6 L).take k).length+[(n:Int)].length≤17592186044416:=(by rw[List.length_take,List.length_singleton];omega);have hln2:((d6 L).take k++[(n:Int)]).length+((d6 L).drop k).length≤17592186044416:=(by rw[List.length_append,List.length_take,List.length_singleton,List.length_drop];omega);obtain⟨A,hA⟩:∃A,A=(d6 L).take k:=⟨_,rfl⟩;obtain⟨B,hB⟩:∃B,B=(d6 L).drop k:=⟨_,rfl⟩;rw[←hA] at HA hln1 hln2 Hpq;rw[←hB] at HB hln2 Hpq;clear hA hB hcl;go_wp2_with fail;first | (go_region_held3 (fun W=>Ext w W) (exact xq) (first | ((refine M6 slI rfl _ _ rfl w w ?_ ?_ (A++[(n:Int)]) (B) ?_ ?_ ?_ hln2 ?_ ?_ ?_);(rotate_left 2);(focus (first | (with_reducible assumption) | ((refine N0.ext (w:=?_) ?_ ?_);(rotate_left 1);(focus (with_reducible assumption));repeat (first | assumption | exact Ext.refl _ | (apply And.left;assumption) | apply Ext.drew | apply Ext.alloc))));(rotate_left 2);rfl;rfl;(rotate_left 1);(focus (exact HB.out _ xq));(focus (repeat (first | assumption | exact Ext.refl _ | (apply And.left;assumption) | apply Ext.drew | apply Ext.alloc)));(intro vF wF hOF hXF hTF)) | ((refine M6 slI rfl _ _ rfl w w ?_ ?_ (A) ([(n:Int)]) ?_ ?_ ?_ hln1 ?_ ?_ ?_);(rotate_left 2);(focus (first | (with_reducible assumption) | ((refine N0.ext (w:=?_) ?_ ?_);(rotate_left 1);(focus (with_reducible assumption));repeat (first | assumption | exact Ext.refl _ | (apply And.left;assumption) | apply Ext.drew | apply Ext.alloc))));(rotate_left 2);rfl;rfl;(rotate_left 1);(focus (refine Blk.ints1 (T:=3) ?_;(repeat (first | (with_reducible assumption) | (with_reducible exact Blk.new _ _ _) | ((with_reducible refine Blk.new' ?_);simp[go_sem];done) | (with_reducible apply Blk.alloc) | (with_reducible apply Blk.drew) | (with_reducible refine Blk.ext ?_ hEC)))));(focus (repeat (first | assumption | exact Ext.refl _ | (apply And.left;assumption) | apply Ext.drew | apply Ext.alloc)));(intro vD wD hOD hXD hTD)) | ((refine bn8 slI rfl _ _ rfl ?_ ?_ (A) ?_ ?_ ?_ ?_ w ?_ ?_ ?_);(rotate_left 2);rfl;rfl;(focus (repeat (first | (with_reducible assumption) | (with_reducible exact Blk.new _ _ _) | ((with_reducible refine Blk.new' ?_);simp[go_sem];done) | (with_reducible apply Blk.alloc) | (with_reducible apply Blk.drew))));(exact HA.out _ xq);(focus (first | exact Nat.le_refl _ | omega | (simp;omega)));(focus (repeat (first | assumption | exact Ext.refl _ | (apply And.left;assumption) | apply Ext.drew | apply Ext.alloc)));(intro aoC cC wC hOC hZC hEC;have hXC:=Ext.trans (a:=w) xq hEC;have hOEC:N0 3 w w wC _ _:=Or.inr hOC)))) | (fail "the region")
    all_goals
     obtain⟨aoN,cN,rfl,hON,hEN⟩:=MiP.of hOF hXF
     go_wp2_with fail
     go_ret
     exact⟨_,rfl,Or.inr (by rw[Hpq.out];exact hON),hEN⟩
theorem df8(u:Value)(L:List Nat)(n:Nat)(w:World)(h:c8 w u (d6 L))(hL:L.length≤100000) :
 Calls Tryz.prog 175 #[u,.int .i64 n] w fun e w'=>∃v',e=.returned v'∧c8 w' v' (d6 (L1 L n))∧Ext w w' :=
 (ch6 u L n w h hL).mono fun e w' ⟨v',he,h1,hE⟩=>⟨v',he,by
  rcases h1 with ⟨rfl,h2⟩ | h1
  · rw[h2];exact h.ext hE
  · exact h1.ints,hE⟩
theorem bt5(u:Value)(L:List Nat)(n:Nat)(w0 w:World)(h:Own 3 w0 w u (d6 L))(hs:w0.heap.size≤w.heap.size)(hL:L.length≤100000) :
 Calls Tryz.prog 175 #[u,.int .i64 n] w fun e w'=>∃v',e=.returned v'∧Own 3 w0 w' v' (d6 (L1 L n))∧Ext w w' :=
 (ch6 u L n w h.ints hL).mono fun e w' ⟨v',he,h1,hE⟩=>⟨v',he,by
  rcases h1 with ⟨rfl,h2⟩ | h1
  · rw[h2];exact h.ext hE
  · exact⟨X6 h1.1 hs,h1.2⟩,hE⟩
theorem c8.shapeN{w:World}{v:Value}{L:List Nat}(h:c8 w v (d6 L)):∃ao c,v=.slice ao L.length c:=by
 obtain⟨ao,c,rfl,-⟩:=h;exact⟨ao,c,by rw[j8]⟩
def tlN(l:List Int)(a:Int):Nat:=if q6 l a then (K1 l a.toNat 200).length else 0
theorem bw3{l:List Int}{a:Int}(h:q6 l a=false):tlN l a=0:=by unfold tlN;rw[h];rfl
theorem cf1{l:List Int}{n:Nat}(h:q6 l n=true):tlN l n=(K1 l n 200).length:=by unfold tlN;rw[if_pos h];rfl
theorem cx4(v:Value)(l:List Int)(a:Int)(w:World)(h:c8 w v l) :
 Calls Tryz.prog 81 #[.agg #[v],.int .i64 a] w fun e w'=>∃v' L,e=.returned (.tuple #[v',.bool (q6 l a)])∧c8 w' v' L∧L.length=tlN l a∧Ext w w':=by
 obtain⟨wb,Hwb,hE0,hb,hg,hE,Hsz⟩:=j60 28 h;clear h;have hbx:=hb wb hE;cases hs:d8 l a
 · have Ho:=Lib.hid (I5 hs);go_enter Tryz.func81,Tryz.ntmps81;go_wp2_with fail;rw[←Hwb.out];refine (l5 _ _ _ _ (hg _ hE) hs).mono ?_;rintro e w1 ⟨rfl,hE1⟩;go_wp2_with fail;rw[Ho.out];exact bodyPost_ret (v:=.tuple #[.slice (some ⟨w1.heap.size,0,none⟩) 0 0,.bool false]) (by simp[results,Tryz.results81,go_sem]) rfl ⟨_,[],rfl,(q5 (TI:=3) (n:=0) (by omega) (hE0.trans hE1) [] rfl).ints,(bw3 Ho.out).symm,Ext.alloc (hE0.trans hE1) _⟩
 · obtain⟨n,rfl,hn,hn24,hgr⟩:=m3 hs;by_cases h0:n=0
   · subst h0;have Ho:Hid (q6 l ((0:Nat):Int)=false):=Lib.hid (F4 l);go_enter Tryz.func81,Tryz.ntmps81;go_wp2_with fail;rw[←Hwb.out];refine (l5 _ _ _ _ (hg _ hE) hs).mono ?_;rintro e w1 ⟨rfl,hE1⟩;go_wp2_with fail;rw[show (0:Int)=((0:Nat):Int) from rfl,Ho.out];exact bodyPost_ret (v:=.tuple #[.slice (some ⟨w1.heap.size,0,none⟩) 0 0,.bool false]) (by simp[results,Tryz.results81,go_sem]) rfl ⟨_,[],rfl,(q5 (TI:=3) (n:=0) (by omega) (hE0.trans hE1) [] rfl).ints,(bw3 Ho.out).symm,Ext.alloc (hE0.trans hE1) _⟩
   · have h00:((n:Int) == 0)=false:=(by rw[beq_eq_false_iff_ne];omega);have Hgr:=Lib.hid hgr;have Ho:=Lib.hid (J5 hs (by omega));have hca:1≤cnt n:=Q8 (by omega) hn24;have hob:=l8 hgr;have hcT:∀W,Ext wb W→Calls Tryz.prog 167 #[.agg #[v],.int .i64 n,.int .i64 (j4 l:Nat),.int .i64 n,.int .i64 1,.int .i64 200] W fun e w'=>∃v',e=.returned v'∧Own 3 W w' v' (d6 (K1 l n 200))∧Ext W w':=fun W hW =>
      c08 v l n Hgr h0 hn (ord l+1) n 1 200 W (hg W hW) (by omega) hn (by decide) (by omega) (by omega)
     have hlenT:(K1 l n 200).length≤200:=b94 _ _ _ _ _ _ (by omega);have HN:Hid ((O8 (K1 l n 200) (K1 l n 200).length).length=tlN l n):=Lib.hid (by rw[cf1 Ho.out];exact (c06 (d32 hgr hn 200) _ (Nat.le_refl _)).1);have hs1:=p0 (n:=ord l) (by omega);have hpw:=b04 (n:=ord l) hob.2;have hpw1:=R5 (ord l);have hwr:IntKind.i64.wrap (((pw (ord l):Nat):Int) - 1)=((j4 l:Nat):Int):=by
      rw[show (((pw (ord l):Nat):Int) - 1)=((j4 l:Nat):Int) by unfold j4;omega];apply IntWalk.i64_in;unfold j4;omega
     obtain⟨T,hT⟩:∃T,T=K1 l n 200:=⟨_,rfl⟩;rw[←hT] at hcT hlenT HN;clear hgr h0 hca hT;go_enter Tryz.func81,Tryz.ntmps81;go_wp2_with fail;rw[←Hwb.out];refine (l5 _ _ _ _ (hg _ hE) hs).mono ?_;rintro e w1 ⟨rfl,hE1⟩;have hb':=fun W (hW:Ext w1 W)=>hb W (hE1.trans hW);go_wp2_with fail;have hD:=(Ext.refl (w1)).drew;(first | (go_region_held3 (fun W=>Ext (w1) W∧W.cell? ⟨w.heap.size,0,none⟩=some v) (exact⟨xq,hb' _ xq⟩) (first | (go_at_call 43;((with_reducible refine Calls.mono (m4 _ _ _ (hg _ (hE1.trans xq)) Hgr) ?_);rintro e wH0 ⟨rfl,hX0⟩;have hH0:=Ext.trans (a:=w1) xq hX0)) | (go_at_call 167;((with_reducible refine Calls.mono (hcT _ (hE1.trans xq)) ?_);rintro e wH1 ⟨vT,rfl,hO,hX1⟩;have hH1:=Ext.trans (a:=w1) xq hX1)))) | (fail "the region with calls"));obtain⟨w2,h12⟩:∃w2,Ext w1 w2∧w2=wH1:=⟨_,by repeat (first | assumption | exact Ext.refl _ | (apply And.left;assumption) | apply Ext.drew | apply Ext.alloc),rfl⟩;obtain⟨h12,rfl⟩:=h12;obtain⟨aoT,cT,adrT,rfl,hadrT,hcellT⟩:=hO.ints.nats;have hixT:=j6 (c:=cT) elI szI hadrT;have HcT:=Lib.hid hcellT;have hE02:=hE0.trans (hE1.trans h12);clear hcellT hadrT hO hcT hX0 hX1 hb' hs;go_wp2_with fail;go_loopw [6,8] (fun so si wr=>∃(k:Nat) (ao:Option Addr) (c:Nat),k≤T.length∧si=.int .i64 k∧so=.slice ao (O8 T k).length c∧c8 wr (.slice ao (O8 T k).length c) (d6 (O8 T k))∧Ext w2 wr) (fun _ si _=>T.length - (intOf si).toNat);(case atStart=>exact⟨0,_,0,by omega,rfl,rfl,⟨_,0,rfl,by simp[O8,d6],by simp[O8,d6],fun i hi=>absurd hi (by simp[O8,d6])⟩,Ext.refl _⟩);case round =>
      obtain⟨k,ao,c,hk,rfl,rfl,hI,hE2⟩:=hrel;have hPl:=ci8 T k;by_cases hlt:k<T.length
      · obtain⟨P,hP⟩:∃P,P=O8 T k:=⟨_,rfl⟩;have Hn:Hid (O8 T (k+1)=L1 P (d5 T k)):=Lib.hid (by rw[hP];rfl);have hck:=HcT.out k wr hlt hE2;rw[←hP] at hI hPl;rw[←hP];obtain⟨Y,hY⟩:∃Y,Y=d5 T k:=⟨_,rfl⟩;rw[←hY] at hck Hn;have hcP:=df8 _ P Y wr hI (by omega);clear hP hY;go_wp2_with (go_at_call 175;refine hcP.mono ?_;rintro e w3 ⟨v3,rfl,hI3,hE3⟩;obtain⟨a3,c3,rfl⟩:=hI3.shapeN;rw[←Hn.out] at hI3 ⊢);go_roundw;(case rel=>exact⟨k+1,a3,c3,by omega,by go_num,rfl,hI3,hE2.trans hE3⟩);case measure=>(simp[intOf];omega)
      · have hkl:k=T.length:=(by omega);subst hkl;go_wp2_with fail;rw[Ho.out];exact bodyPost_ret (v:=.tuple #[.slice ao (O8 T T.length).length c,.bool true]) (by simp[results,Tryz.results81,go_sem]) rfl ⟨_,_,rfl,hI,by rw[j8,HN.out],hE02.trans hE2⟩
end Go.Zz
namespace Go.Zz
open Go.RowKit Go.Proofs
set_option maxHeartbeats 400000
end Go.Zz
namespace Go.Zz
open Go
theorem j36{P:Program}{ops:Array Oper}{Q:Exit→Act→World→Prop}{md:Region.Mode}{S:World→Prop}{i:Nat}{oi:Oper}{v:Value}{fuel:Nat}{listed:Array Bool}{a:Act}{w:World}
 (hr:(Region.ready md ops listed).contains i=true) (hi:ops[i]?=some oi) (hw:Region.wanted oi (yielded ops a.tmps)=true) (hf:Region.free md ops listed i=true) (hs:Region.noSelect ops=true)
 (hQ:∀c a w,Q (.panic c) (a.put oi.dst v) w→Q (.panic c) a w) (hy:∀w,S w→(execOp a.eval oi).run P w=.ok (.value v) w) (hS:S w)
 (h:wpAnyH P md ops Q S fuel (listed.setIfInBounds i true) (a.put oi.dst v) w):wpAnyH P md ops Q S (fuel+1) listed a w :=
 wpAnyH_take hi hs hf hr hQ (Or.inl ⟨hw,hy⟩) hS h
theorem dy3{P:Program}{ops:Array Oper}{Q:Exit→Act→World→Prop}{md:Region.Mode}{S:World→Prop}{i:Nat}{oi:Oper}{fuel:Nat}{listed:Array Bool}{a:Act}{w:World}
 (hr:Region.ready md ops listed=[i]) (hi:ops[i]?=some oi) (hw:Region.wanted oi (yielded ops a.tmps)=true)
 (h:∀K':Act→World→Prop,Shut (∀a w,S w→(S w→wpAnyH P md ops Q S fuel (listed.setIfInBounds i true) a w)→K' a w)→Oper.wp P oi a w K' Q):wpAnyH P md ops Q S (fuel+1) listed a w :=
 wpAnyH_ready hr (by simp) (AllReadyH.cons hi (fun K hK=>by rw[if_pos hw];exact h K hK) AllReadyH.nil)
theorem tn{P:Program}{ops:Array Oper}{Q:Exit→Act→World→Prop}{md:Region.Mode}{S:World→Prop}{fuel:Nat}{listed:Array Bool}{a:Act}{w:World}(i:Nat){oi:Oper}{v:Value}
 (hr:(Region.ready md ops listed).contains i=true:=by kernel_rfl) (hi:ops[i]?=some oi:=by rfl) (hw:Region.wanted oi (yielded ops a.tmps)=true:=by rfl) (hf:Region.free md ops listed i=true:=by kernel_rfl) (hs:Region.noSelect ops=true:=by kernel_rfl)
 (hQ:∀c a w,Q (.panic c) (a.put oi.dst v) w→Q (.panic c) a w:=by intro _ _ _ h;exact h) (hS:S w:=by assumption) (hy:∀w,S w→(execOp a.eval oi).run P w=.ok (.value v) w)
 (h:wpAnyH P md ops Q S fuel (listed.setIfInBounds i true) (a.put oi.dst v) w):wpAnyH P md ops Q S (fuel+1) listed a w :=
 j36 hr hi hw hf hs hQ hy hS h
theorem t1{P:Program}{ops:Array Oper}{Q:Exit→Act→World→Prop}{md:Region.Mode}{S:World→Prop}{fuel:Nat}{listed:Array Bool}{a:Act}{w:World}(i:Nat){oi:Oper}
 (hr:Region.ready md ops listed=[i]:=by kernel_rfl) (hi:ops[i]?=some oi:=by rfl) (hw:Region.wanted oi (yielded ops a.tmps)=true:=by rfl)
 (h:∀K':Act→World→Prop,Shut (∀a w,S w→(S w→wpAnyH P md ops Q S fuel (listed.setIfInBounds i true) a w)→K' a w)→Oper.wp P oi a w K' Q):wpAnyH P md ops Q S (fuel+1) listed a w :=
 dy3 hr hi hw h
theorem s1{α:Type}(l:List α)(i:Nat)(a:α):l.toArray.setIfInBounds i a=(l.set i a).toArray:=List.setIfInBounds_toArray ..
theorem s2{α:Type}(l:List α)(x a:α):(x :: l).set 0 a=a :: l:=rfl
theorem s3{α:Type}(l:List α)(x a:α)(n:Nat):(x :: l).set (n+1) a=x :: l.set n a:=rfl
theorem s4{α:Type}{xs:List α}{i:Nat}(h:i<xs.toArray.size):xs.toArray[i]=xs[i]'(by simpa using h):=rfl
theorem s5{α:Type}{a:α}{xs:List α}(h:0<(a :: xs).length):(a :: xs)[0]=a:=rfl
theorem s6{α:Type}(a:α)(xs:List α)(i:Nat)(h:i+1<(a :: xs).length):(a :: xs)[i+1]=xs[i]'(by simpa using h):=rfl
end Go.Zz
