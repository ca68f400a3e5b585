/- The search for an isomorphism: the reference. -/
import Derived.Test.YtnnbhcalddkmmaaGreatGr8
set_option linter.unusedSimpArgs false
set_option linter.unusedVariables false
set_option linter.unnecessarySimpa false
set_option maxHeartbeats 2000000
set_option maxRecDepth 8000
namespace Go.Zz
open Go.RowKit Go.Proofs
theorem c9.take{w:World}{ao:Option Addr}{n c:Nat}{l:List Int}(h:c9 w (.slice ao n c) l){k:Nat}(hk:k<=l.length):c9 w (.slice ao k c) (l.take k):=by
 obtain⟨ao',c',hv,h1,h2,h3⟩:=h;simp only[Value.slice.injEq] at hv;obtain⟨rfl,rfl,rfl⟩:=hv;have hl:(l.take k).length=k:=by rw[List.length_take];omega
 refine⟨ao,c,by rw[hl],by rw[hl];omega,by rw[hl];omega,fun i hi=>?_⟩;rw[hl] at hi;obtain⟨a,ha,hc⟩:=h3 i om;refine⟨a,ha,?_⟩;rw[hc];simp[nth,List.getD,hi]
theorem Blk.ints1{w:World}{g:Nat}{T:TypeId}{y:Int}(h:Blk w g T #[.int .i64 y]):c9 w (.slice (some ⟨g,0,none⟩) 1 1) [y]:=by
 refine⟨_,1,rfl,Nat.le_refl _,zm,fun i hi=>⟨_,rfl,?_⟩⟩;match i,hi with
 | 0,_=>exact h.cell (i:=0) rfl
theorem c9.cap{w:World}{ao:Option Addr}{n c:Nat}{l:List Int}(h:c9 w (.slice ao n c) l):n<=c:=by
 obtain⟨ao',c',hv,h1,_⟩:=h;simp only[Value.slice.injEq] at hv;obtain⟨rfl,rfl,rfl⟩:=hv;exact h1
theorem b23{P:Program}{t:TypeId}(ht:P.underlying t=some (.slice (P.elem t)))(hs:∀w,(sizeOf (P.elem t)).run P w=.ok 1 w)(ao:Option Addr)(n c:Nat)(k:Int)(k0:0<=k)(hk:k<=c)(W:World) :
 (Instr.slice t (.slice ao n c) none (some (.int .i64 k)) none).run P W=.ok (.slice ao k.toNat c) W:=by
 rw[run_slice_h (ht:=ht) (h0:=k0) (h2:=hk),hs];simp[Result.andThen,sliced];cases ao<;>simp[Addr.add]
theorem Y3{P:Program}{t:TypeId}(ht:P.underlying t=some (.slice (P.elem t)))(hs:∀w,(sizeOf (P.elem t)).run P w=.ok 1 w)(ao:Option Addr)(n c:Nat)(k:Int)(k0:0<=k)(hk:k<=c)(W:World) :
 (Instr.sliceAt t (.slice ao n c) none (some (.int .i64 k)) none).run P W=.ok (.slice ao k.toNat c) W:=by
 rw[run_sliceAt_slice (h:=ht),b23 ht hs ao n c k k0 hk]
def NxP(w0:World)(M:List Nat)(Y:Nat)(s:Value)(wx:World):Prop :=
 ∃ao c,s=.slice ao (M.length+1) c∧Own 3 w0 wx (.slice ao (M.length+1) c) (b9 (M++[Y]))∧Ext w0 wx
theorem NxP.of{w0:World}{M:List Nat}{Y:Nat}{s:Value}{wx:World}(h:J3 3 w0 w0 wx s (b9 M++[(Y:Int)]))(hE:Ext w0 wx):NxP w0 M Y s wx:=by
 have h2:=h.own (er w0);rw[show b9 M++[(Y:Int)]=b9 (M++[Y]) by simp[b9]] at h2;obtain⟨ao,c,rfl,-⟩:=h2.shape;rw[j2] at h2 ⊢;rw[show (M++[Y]).length=M.length+1 by simp] at h2 ⊢;exact⟨ao,c,rfl,h2,hE⟩
def W3(xs:List Int):Bool:=(List.range xs.length).all (fun j=>decide (j=0) || decide (nth xs (j - 1)<=nth xs j))
theorem bn6(xs:List Int):W3 xs=true↔∀j,0<j->j<xs.length->nth xs (j - 1)<=nth xs j:=by
 unfold W3;simp only[List.all_eq_true,List.mem_range,Bool.or_eq_true,decide_eq_true_eq];constructor
 . intro h j h0 hj;rcases h j hj with e | e
   . omega
   . exact e
 . intro h j hj;by_cases e:j=0
   . exact Or.inl e
   . exact Or.inr (h j om hj)
theorem dg2{xs:List Int}{j:Nat}(h0:0<j)(hj:j<xs.length)(h:nth xs j<nth xs (j - 1)):W3 xs=false:=by
 rw[<-Bool.not_eq_true,bn6];intro hall;have:=hall j h0 hj;omega
def D2(l xs:List Int):Bool:=xs.all (N3 l)&&j1 l&&decide (xs.length<=12)&&W3 xs
theorem dg1{l xs:List Int}{k:Nat}(hk:k<xs.length)(h:N3 l (nth xs k)=false):D2 l xs=false:=by
 have:xs.all (N3 l)=false:=by
  rw[<-Bool.not_eq_true,List.all_eq_true];intro hall;rw[hall _ (b49 hk)] at h;cases h
 unfold D2;rw[this];rfl
theorem j55{l xs:List Int}{k:Nat}(h0:0<k)(hk:k<xs.length)(h:nth xs k<nth xs (k - 1)):D2 l xs=false:=by
 unfold D2;rw[dg2 h0 hk h];simp
theorem dg0{l xs:List Int}(h:∀j,j<xs.length->N3 l (nth xs j)=true):D2 l xs=(j1 l&&decide (xs.length<=12)&&W3 xs):=by
 have:xs.all (N3 l)=true:=by
  rw[List.all_eq_true];intro x hx;obtain⟨k,hk,rfl⟩:=bb8 hx;exact h k hk
 unfold D2;rw[this];simp
theorem dd3:∀(xs:List Int),(∀x∈xs,∃n:Nat,x=n)->∃X:List Nat,xs=b9 X
 | [],_=>⟨[],rfl⟩
 | x :: xs,h=>by
  obtain⟨n,hn⟩:=h x zm
  obtain⟨X,hX⟩:=dd3 xs (fun y hy=>h y (by simp[hy]))
  exact⟨n :: X,by rw[hn,hX];simp[b9]⟩
theorem N6{l xs:List Int}(h:D2 l xs=true):∃X:List Nat,xs=b9 X∧(∀x∈X,x<ord l)∧X.length<=12∧j1 l=true∧∀x∈X,x<24:=by
 simp only[D2,Bool.and_eq_true,List.all_eq_true,decide_eq_true_eq] at h;obtain⟨⟨⟨h1,h2⟩,h3⟩,_⟩:=h;obtain⟨X,rfl⟩:=dd3 xs (fun x hx=>by obtain⟨n,hn,_⟩:=b33 (h1 x hx);exact⟨n,hn⟩)
 have hx:∀x∈X,x<ord l:=fun x hx=>by
  obtain⟨n,hn,hlt,_⟩:=b33 (h1 (x:Int) (by simp[b9];exact⟨x,hx,rfl⟩))
  have:x=n:=om
  omega
 exact⟨X,rfl,hx,by simpa[j2] using h3,h2,fun x hx'=>nlt (hx x hx') (m8 h2).2⟩
def G8(xs:List Int)(m k:Nat):List Int:=((List.range k).filter (fun i=>m.testBit i)).map (nth xs)
def O8(xs:List Int)(m:Nat):List Int:=G8 xs m xs.length
theorem bx2{xs:List Int}{m k:Nat}(h:m.testBit k=true):G8 xs m (k+1)=G8 xs m k++[nth xs k]:=by
 unfold G8;rw[List.range_succ,List.filter_append,List.map_append];simp[h]
theorem c42{xs:List Int}{m k:Nat}(h:m.testBit k=false):G8 xs m (k+1)=G8 xs m k:=by
 unfold G8;rw[List.range_succ,List.filter_append,List.map_append];simp[h]
theorem zz171{P:Prop}(h:P:=by rw[List.length_map];exact nle (List.length_filter_le _ _) zm):P:=h
theorem bg0(xs:List Int)(m k:Nat):(G8 xs m k).length<=k:=by
 unfold G8;exact zz171
def r8(X:List Nat)(m:Nat):List Nat:=((List.range X.length).filter (fun i=>m.testBit i)).map (d8 X)
theorem cn5(X:List Nat)(m:Nat):O8 (b9 X) m=b9 (r8 X m):=by
 unfold O8 G8 r8 b9;rw[List.length_map,List.map_map];apply List.map_congr_left;intro i _;exact H8 X i
theorem Y2{X:List Nat}{m x:Nat}(h:x∈r8 X m):x∈X:=by
 unfold r8 at h;rw[List.mem_map] at h;obtain⟨i,hi,rfl⟩:=h;exact o6 (List.mem_range.1 (List.mem_filter.1 hi).1)
theorem jd5(X:List Nat)(m:Nat):(r8 X m).length<=X.length:=by
 unfold r8;exact zz171
theorem cz8{X:List Nat}{m:Nat}(hX:X.length<=24)(hm:m<2 ^ X.length):(r8 X m).length=cnt m:=by
 unfold r8;rw[List.length_map];have:=U0 hX hm;unfold B8 at this;rw[this];rfl
def tot(l:List Int)(X:List Nat):Nat:=X.foldl (fun s x=>m6 l s x) 0
theorem bd1(l:List Int)(X:List Nat)(x:Nat):tot l (X++[x])=m6 l (tot l X) x:=by unfold tot;rw[List.foldl_append];rfl
theorem be3{l:List Int}(h:j1 l=true)(X:List Nat):tot l X<24:=by
 rcases List.eq_nil_or_concat X with rfl | ⟨Y,y,rfl⟩
 . show (0:Nat)<24;omega
 . rw[List.concat_eq_append,bd1];exact X7 h _ _
def zol(l:List Int)(X:List Nat)(k:Nat):Option Nat:=(List.range (pw X.length)).find? (fun m=>decide (cnt m=k)&&decide (tot l (r8 X m)=0))
def cj6(l:List Int)(X:List Nat)(k:Nat):List Nat:=match zol l X k with | some m=>r8 X m | none=>[]
def bd3(l:List Int)(X:List Nat)(k:Nat):Bool:=(zol l X k).isSome
theorem jt6{l:List Int}{X:List Nat}{k m:Nat}(hm:m<pw X.length)(h:∀j,j<m->¬(cnt j=k∧tot l (r8 X j)=0))(e1:cnt m=k)(e2:tot l (r8 X m)=0):cj6 l X k=r8 X m∧bd3 l X k=true∧zol l X k=some m:=by
 have:zol l X k=some m:=bb2 hm (fun j hj=>by
  have:=h j hj
  by_cases a:cnt j=k
  . have b:¬tot l (r8 X j)=0:=fun b=>this ⟨a,b⟩
    simp[b]
  . simp[a]) (by simp[e1,e2])
 unfold cj6 bd3;rw[this];exact⟨rfl,rfl,rfl⟩
theorem jg9{l:List Int}{X:List Nat}{k:Nat}(h:∀j,j<pw X.length->¬(cnt j=k∧tot l (r8 X j)=0)):cj6 l X k=[]∧bd3 l X k=false∧zol l X k=none:=by
 have:zol l X k=none:=b79 (fun j hj=>by
  have:=h j hj
  by_cases a:cnt j=k
  . have b:¬tot l (r8 X j)=0:=fun b=>this ⟨a,b⟩
    simp[b]
  . simp[a])
 unfold cj6 bd3;rw[this];exact⟨rfl,rfl,rfl⟩
def J1(l:List Int)(X:List Nat):Nat->Nat
 | 0=>0
 | c+1=>if c≠0∧tot l (r8 X c)=0∧(J1 l X c=0∨cnt c<cnt (J1 l X c)) then c else J1 l X c
theorem dh2{l:List Int}{X:List Nat}{c:Nat}(h0:c≠0)(h1:tot l (r8 X c)=0)(h2:J1 l X c=0∨cnt c<cnt (J1 l X c)):J1 l X (c+1)=c:=by rw[J1,if_pos ⟨h0,h1,h2⟩]
theorem jo4{l:List Int}{X:List Nat}{c:Nat}(h:¬(tot l (r8 X c)=0∧(J1 l X c=0∨cnt c<cnt (J1 l X c)))):J1 l X (c+1)=J1 l X c:=by rw[J1,if_neg (fun e=>h e.2)]
theorem jf5(l:List Int)(X:List Nat):J1 l X 1=0:=by rw[J1,if_neg (fun e=>e.1 rfl)];rfl
theorem bo1(l:List Int)(X:List Nat):∀c,(J1 l X c=0∧∀m,m<c->m≠0->tot l (r8 X m)≠0) ∨
 (J1 l X c≠0∧J1 l X c<c∧tot l (r8 X (J1 l X c))=0∧∀m,m<c->m≠0->tot l (r8 X m)=0->cnt (J1 l X c)<cnt m∨(cnt (J1 l X c)=cnt m∧J1 l X c<=m))
 | 0=>Or.inl ⟨rfl,fun m hm=>om⟩
 | c+1=>by
  have ih:=bo1 l X c
  by_cases h:c≠0∧tot l (r8 X c)=0∧(J1 l X c=0∨cnt c<cnt (J1 l X c))
  . rw[dh2 h.1 h.2.1 h.2.2]
    refine Or.inr ⟨h.1,om,h.2.1,fun m hm h0 ht=>?_⟩
    by_cases e:m=c
    . subst e;exact Or.inr ⟨rfl,Nat.le_refl _⟩
    . rcases ih with ⟨i1,i2⟩ | ⟨i1,i2,i3,i4⟩
      . exact absurd ht (i2 m om h0)
      . rcases h.2.2 with e2 | e2
        . exact absurd e2 i1
        . rcases i4 m om h0 ht with q | q<;>omega
  . have e:J1 l X (c+1)=J1 l X c:=by rw[J1,if_neg h]
    rw[e]
    rcases ih with ⟨i1,i2⟩ | ⟨i1,i2,i3,i4⟩
    . refine Or.inl ⟨i1,fun m hm h0=>?_⟩
      by_cases e:m=c
      . subst e;exact fun ht=>h ⟨h0,ht,Or.inl i1⟩
      . exact i2 m om h0
    . refine Or.inr ⟨i1,om,i3,fun m hm h0 ht=>?_⟩
      by_cases e:m=c
      . subst e
        have:¬cnt m<cnt (J1 l X m):=fun q=>h ⟨h0,ht,Or.inr q⟩
        omega
      . exact i4 m om h0 ht
def szN(l:List Int)(X:List Nat):Nat:=J1 l X (pw X.length)
def bk6(X:List Nat)(b:Nat):List Nat:=if b=0 then [] else r8 X b
def szR(l:List Int)(X:List Nat):List Nat:=bk6 X (szN l X)
def szB(l:List Int)(X:List Nat):Bool:=decide (szN l X≠0)
theorem jf4{X:List Nat}{b:Nat}(hX:X.length<=12)(hb:b<2 ^ X.length):(bk6 X b).length=cnt b:=by
 unfold bk6;by_cases h:b=0
 . rw[if_pos h,h,W7];rfl
 . rw[if_neg h,cz8 om hb]
theorem d73{n m:Nat}(hn:n<=24)(hm:m<2 ^ n):cnt m<=n:=by
 have:=U0 hn hm;unfold cnt;rw[<-this];exact bd7 m n
theorem ju1{l:List Int}{X:List Nat}(hX:X.length<=12){k:Nat}(hk:1<=k)(h:∀j,1<=j->j<k->bd3 l X j=false)(hz:bd3 l X k=true):szR l X=cj6 l X k∧szB l X=true:=by
 unfold bd3 at hz;cases hq:zol l X k with
 | none=>rw[hq] at hz;cases hz
 | some m =>
  have hm:=List.find?_some hq;have hmr:=List.mem_of_find?_eq_some hq;rw[List.mem_range] at hmr;simp only[Bool.and_eq_true,decide_eq_true_eq] at hm;have h0:m≠0:=fun e=>by rw[e,W7] at hm;omega
  have key:szN l X=m:=by
   rcases bo1 l X (pw X.length) with ⟨_,i2⟩ | ⟨i1,i2,i3,i4⟩
   . exact absurd hm.2 (i2 m hmr h0)
   . have hb:szN l X=J1 l X (pw X.length):=rfl;rw[<-hb] at i1 i2 i3 i4;have c1:=R6 (a:=szN l X) om (by have:=d73 (n:=X.length) (m:=szN l X) om i2;exact nlt i2 (Nat.pow_le_pow_right om om));rcases i4 m hmr h0 hm.2 with q | q
     . have hj:=h (cnt (szN l X)) c1 om;unfold bd3 zol at hj;have:((List.range (pw X.length)).find? (fun m=>decide (cnt m=cnt (szN l X))&&decide (tot l (r8 X m)=0))).isSome=true:=by
        rw[List.find?_isSome];exact⟨szN l X,List.mem_range.2 i2,by simp[i3]⟩
       rw[this] at hj;cases hj
     . have hle:m<=szN l X:=by
        rcases Nat.lt_or_ge (szN l X) m with hlt | hge
        . exfalso;unfold zol at hq;rw[List.find?_range_eq_some] at hq;have:=hq.2.2 (szN l X) hlt;simp[i3] at this;omega
        . exact hge
       omega
  unfold szR bk6 szB cj6;rw[key,if_neg h0,hq];exact⟨rfl,decide_eq_true h0⟩
theorem jo5{l:List Int}{X:List Nat}(hX:X.length<=12)(h:∀j,1<=j->j<=X.length->bd3 l X j=false):szR l X=[]∧szB l X=false:=by
 have key:szN l X=0:=by
  rcases bo1 l X (pw X.length) with ⟨i1,_⟩ | ⟨i1,i2,i3,i4⟩
  . exact i1
  . exfalso;have hb:szN l X=J1 l X (pw X.length):=rfl;rw[<-hb] at i1 i2 i3;have c2:=d73 (n:=X.length) (m:=szN l X) om i2;have c1:=R6 (a:=szN l X) om (nlt i2 (Nat.pow_le_pow_right om om));have hj:=h (cnt (szN l X)) c1 c2;unfold bd3 zol at hj;have:((List.range (pw X.length)).find? (fun m=>decide (cnt m=cnt (szN l X))&&decide (tot l (r8 X m)=0))).isSome=true:=by
     rw[List.find?_isSome];exact⟨szN l X,List.mem_range.2 i2,by simp[i3]⟩
    rw[this] at hj;cases hj
 unfold szR bk6 szB;rw[key];exact⟨rfl,rfl⟩
def b48(xs:List Int)(x:Int):Nat->Nat
 | 0=>0
 | k+1=>if nth xs k=x then b48 xs x k+1 else b48 xs x k
def bw9(xs:List Int)(x:Int):Nat:=b48 xs x xs.length
theorem bx0(xs:List Int)(x:Int):∀k,b48 xs x k<=k
 | 0=>Nat.le_refl _
 | k+1=>by
  have:=bx0 xs x k
  unfold b48;split<;>omega
theorem cz2{xs:List Int}{x:Int}{k:Nat}(h:nth xs k=x):b48 xs x (k+1)=b48 xs x k+1:=by
 conv=>lhs;unfold b48
 rw[if_pos h]
theorem dd1{xs:List Int}{x:Int}{k:Nat}(h:nth xs k≠x):b48 xs x (k+1)=b48 xs x k:=by
 conv=>lhs;unfold b48
 rw[if_neg h]
def sbs(l:List Int)(X:List Nat):Nat:=X.foldl (fun o x=>(o ||| j6 l o x) ||| 2 ^ x) 0
theorem ci6(l:List Int)(X:List Nat)(x:Nat):sbs l (X++[x])=(sbs l X ||| j6 l (sbs l X) x) ||| 2 ^ x:=by unfold sbs;rw[List.foldl_append];rfl
theorem ba6{l:List Int}(h:j1 l=true):∀(X:List Nat),(∀x∈X,x<24)->sbs l X<2 ^ 24:=by
 intro X hX;have:∀(X:List Nat) (o:Nat),o<2 ^ 24->(∀x∈X,x<24)->X.foldl (fun o x=>(o ||| j6 l o x) ||| 2 ^ x) o<2 ^ 24:=by
  intro X;induction X with
  | nil=>intro o ho _;exact ho
  | cons x X ih =>
   intro o ho hX;rw[List.foldl_cons];refine ih _ (Nat.or_lt_two_pow (Nat.or_lt_two_pow ho (G0 h o x)) (Nat.pow_lt_pow_right om (hX x zm))) fun y hy=>hX y (by simp[hy])
 exact this X 0 (by decide) hX
def zsB(l xs:List Int):Bool:=D2 l xs&&decide (tot l (xs.map Int.toNat)=0)
theorem cp8{l xs:List Int}(h:D2 l xs=false):zsB l xs=false:=by unfold zsB;rw[h];rfl
theorem bw7(X:List Nat):(b9 X).map Int.toNat=X:=by
 unfold b9;rw[List.map_map];have:(Int.toNat ∘ fun n:Nat=>(n:Int))=id:=by funext n;rfl
 rw[this,List.map_id]
theorem cv1{l:List Int}{X:List Nat}(h:D2 l (b9 X)=true):zsB l (b9 X)=(((tot l X:Nat):Int) == 0):=by
 unfold zsB;rw[h,bw7,Bool.true_and,Bool.eq_iff_iff,decide_eq_true_iff,beq_iff_eq];omega
def zfB(l xs:List Int):Bool:=D2 l xs && !(sbs l (xs.map Int.toNat)).testBit 0
theorem j79{l xs:List Int}(h:D2 l xs=false):zfB l xs=false:=by unfold zfB;rw[h];rfl
theorem dt3{l:List Int}{X:List Nat}(h:D2 l (b9 X)=true):zfB l (b9 X) = !(sbs l X).testBit 0:=by
 unfold zfB;rw[h,bw7,Bool.true_and]
theorem cr1(n:Nat):(((n % 2:Nat):Int) == 0) = !n.testBit 0:=by
 rw[Nat.testBit_zero];rcases Nat.mod_two_eq_zero_or_one n with h | h<;>rw[h]<;>rfl
def I7(x:Int)(l:List Int):List Int:=(l.reverse.erase x).reverse
def P2(T:List Int):List Int->Bool
 | []=>true
 | x :: P=>if x∈T then P2 (I7 x T) P else false
theorem bo8(x y:Int)(l:List Int)(_:x∈l):(I7 x l).count y=l.count y - if x=y then 1 else 0:=by
 unfold I7;rw[List.count_reverse,List.count_erase,List.count_reverse];congr 1;by_cases e:x=y<;>simp[e]
theorem dg7:∀(P T:List Int),P2 T P=true↔∀x,P.count x<=T.count x
 | [],T=>by simp[P2]
 | x :: P,T=>by
  unfold P2
  by_cases h:x∈T
  . rw[if_pos h,dg7 P]
    have hx:0<T.count x:=List.count_pos_iff.2 h
    constructor
    . intro H y
      have:=H y
      rw[bo8 x y T h] at this
      rw[List.count_cons]
      by_cases e:x=y
      . subst e;simp at this ⊢;omega
      . have e':(x == y)=false:=by simpa using e
        rw[if_neg e] at this;simp[e'];omega
    . intro H y
      have:=H y
      rw[List.count_cons] at this
      rw[bo8 x y T h]
      by_cases e:x=y
      . subst e;simp at this ⊢;omega
      . have e':(x == y)=false:=by simpa using e
        rw[if_neg e];simp[e'] at this;omega
  . rw[if_neg h]
    constructor
    . intro H;cases H
    . intro H
      have:=H x
      rw[List.count_cons] at this
      simp[List.count_eq_zero.2 h] at this
def b02(xs:List Int)(x:Int):Nat->Int
 | 0=>-1
 | k+1=>if nth xs k=x then (k:Int) else b02 xs x k
theorem cm4{xs:List Int}{x:Int}{k:Nat}(h:nth xs k=x):b02 xs x (k+1)=(k:Int):=by
 conv=>lhs;unfold b02
 rw[if_pos h]
theorem cy5{xs:List Int}{x:Int}{k:Nat}(h:nth xs k≠x):b02 xs x (k+1)=b02 xs x k:=by
 conv=>lhs;unfold b02
 rw[if_neg h]
theorem ba7(xs:List Int)(k:Nat)(hk:k<xs.length):xs.take (k+1)=xs.take k++[nth xs k]:=by
 rw[List.take_add_one];simp[nth,List.getD,hk]
theorem bp3(xs:List Int)(x:Int):∀k,k<=xs.length->(b02 xs x k = -1∧x ∉ xs.take k) ∨
 ∃a:Nat,b02 xs x k=(a:Int)∧a<k∧I7 x (xs.take k)=xs.take a++(xs.take k).drop (a+1)∧x∈xs.take k
 | 0,_=>Or.inl ⟨rfl,zm⟩
 | k+1,hk=>by
  by_cases h:nth xs k=x
  . refine Or.inr ⟨k,cm4 h,om,?_,?_⟩
    . rw[ba7 xs k om,h]
      unfold I7
      rw[List.reverse_append]
      simp[List.drop_append,List.length_take]
      omega
    . rw[ba7 xs k om,h];simp
  . rw[cy5 h]
    rcases bp3 xs x k om with ⟨e,hn⟩ | ⟨a,e,ha,hd,hm⟩
    . refine Or.inl ⟨e,?_⟩
      rw[ba7 xs k om,List.mem_append,List.mem_singleton]
      rintro (h1 | h1)
      . exact hn h1
      . exact h h1.symm
    . refine Or.inr ⟨a,e,om,?_,?_⟩
      . rw[ba7 xs k om]
        have hlen:(xs.take k).length=k:=by rw[List.length_take];omega
        rw[List.drop_append_of_le_length om,<-List.append_assoc,<-hd]
        unfold I7
        rw[List.reverse_append,List.reverse_singleton,List.singleton_append,List.erase_cons_tail (by simpa using fun e=>h e),List.reverse_cons]
      . rw[ba7 xs k om];simp[hm]
theorem jl7{xs:List Int}{x:Int}(h:b02 xs x xs.length<0):x ∉ xs:=by
 rcases bp3 xs x _ (Nat.le_refl _) with ⟨-,hn⟩ | ⟨a,e,-,-,-⟩
 . simpa using hn
 . omega
theorem jb5{xs:List Int}{x:Int}(h:¬b02 xs x xs.length<0):∃a:Nat,b02 xs x xs.length=(a:Int)∧a<xs.length∧I7 x xs=xs.take a++xs.drop (a+1)∧x∈xs:=by
 rcases bp3 xs x _ (Nat.le_refl _) with ⟨e,-⟩ | ⟨a,e,ha,hd,hm⟩
 . omega
 . rw[List.take_length] at hd hm;exact⟨a,e,ha,hd,hm⟩
theorem cu3{T P:List Int}{x:Int}(h:x ∉ T):P2 T (x :: P)=false:=by unfold P2;rw[if_neg h]
theorem cj2{T P:List Int}{x:Int}(h:x∈T):P2 T (x :: P)=P2 (I7 x T) P:=by
 conv=>lhs;unfold P2
 rw[if_pos h]
open Go.RowKit
def TB(b:Bool)(e:Ending):Prop:=∃v,e=.returned (.tuple #[v,.bool b])
theorem TB.mk(v:Value)(b:Bool):TB b (.returned (.tuple #[v,.bool b])):=⟨v,rfl⟩
def bg4(ao:Option Addr)(n c k:Nat):Value:=.slice (if c=k then ao else ao.map (·.add k)) (n - k) (c - k)
theorem Q1{P:Program}{t:TypeId}(ht:P.underlying t=some (.slice (P.elem t)))(hs:∀w,(sizeOf (P.elem t)).run P w=.ok 1 w)(ao:Option Addr)(n c:Nat)(k:Int)(k0:0<=k)(hk:k<=n)(W:World) :
 (Instr.slice t (.slice ao n c) (some (.int .i64 k)) none none).run P W=.ok (bg4 ao n c k.toNat) W:=by
 rw[run_slice_l (ht:=ht) (h0:=k0) (h1:=hk),hs];simp[Result.andThen,sliced,bg4]
theorem O9{P:Program}{t:TypeId}(ht:P.underlying t=some (.slice (P.elem t)))(hs:∀w,(sizeOf (P.elem t)).run P w=.ok 1 w)(ao:Option Addr)(n c:Nat)(k:Int)(k0:0<=k)(hk:k<=n)(W:World) :
 (Instr.sliceAt t (.slice ao n c) (some (.int .i64 k)) none none).run P W=.ok (bg4 ao n c k.toNat) W:=by
 rw[run_sliceAt_slice (h:=ht),Q1 ht hs ao n c k k0 hk]
theorem c9.drop{w:World}{ao:Option Addr}{n c:Nat}{l:List Int}(h:c9 w (.slice ao n c) l){k:Nat}(hk:k<=l.length):c9 w (bg4 ao n c k) (l.drop k):=by
 obtain⟨ao',c',hv,h1,h2,h3⟩:=h;simp only[Value.slice.injEq] at hv;obtain⟨rfl,rfl,rfl⟩:=hv;have hl:(l.drop k).length=l.length - k:=List.length_drop;refine⟨_,c - k,by rw[hl];rfl,by rw[hl];omega,by rw[hl];omega,fun i hi=>?_⟩;rw[hl] at hi;obtain⟨a,rfl,hc⟩:=h3 (k+i) om;refine⟨a.add k,by rw[if_neg om];rfl,?_⟩;rw[show (a.add k).add i=a.add (k+i) by unfold Addr.add;by_cases h1:k=0<;>by_cases h2:i=0<;>simp[h1,h2,Nat.add_assoc],hc];simp[nth,List.getD,List.getElem?_drop]
def MiP(w0:World)(T:List Int)(s:Value)(wx:World):Prop:=∃ao c,s=.slice ao T.length c∧Own 3 w0 wx (.slice ao T.length c) T∧Ext w0 wx
theorem MiP.of{w0:World}{A B:List Int}{s:Value}{wx:World}(h:J3 3 w0 w0 wx s (A++B))(hE:Ext w0 wx):MiP w0 (A++B) s wx:=by
 have h2:=h.own (er w0);obtain⟨ao,c,rfl,-⟩:=h2.shape;exact⟨ao,c,rfl,h2,hE⟩
theorem cz1(v:Value)(l:List Int)(x y:Nat)(w:World)(h:c9 w v l)(Hgr:Hid (j1 l=true))(hx:x<16777216)(hy:y<24) :
 Calls Tryz.prog 315 #[.agg #[v],.int .i64 x,.int .i64 y] w fun e w'=>e=.returned (.int .i64 (m6 l x (p9 l y):Nat))∧Ext w w':=by
 obtain⟨wb,Hwb,hE0,hb,hg,hE,Hsz⟩:=ju3 28 h;clear h;have hbx:=fun U=>hb _ (d5 wb U);have hng:p9 l y<16777216:=by have:=P3 l (m9 Hgr.out) y;have:=(m8 Hgr.out).2;omega
 go_in;go_wp2_with fail;rw[<-Hwb.out];(refine wl hE ?_);(repeat (go_big_quiet_step (first | (go_at_call 307;exact Calls.lat (ba1 _ _ _ _ (hg _ (d5 wb _)) (Hgr) (om))) | (go_at_call 224;exact Calls.lat (R5 _ _ _ _ _ (hg _ (d5 wb _)) (Hgr) (hx) (hng))))));(refine zd ?_);(clear hE);(intro W hE);exact zz69
theorem zz150{P:Prop}(h:P:=by go_round;(case rel=>exact⟨e+1,om,zg,fun j hj=>by by_cases hje:j=e;(subst hje;exact hbe);exact hall j om⟩);case measure=>exact zm1):P:=h
theorem cc7(v:Value)(l:List Int)(a:Nat)(Hgr:Hid (j1 l=true))(ha0:a≠0)(ha:a<2 ^ ord l):∀(f u b m:Nat) (w:World),c9 w v l->ord l<cnt u+f->u<2 ^ ord l->b<2 ^ 24->1<=m->m<=1000 ->
 Calls Tryz.prog 167 #[.agg #[v],.int .i64 a,.int .i64 (l9 l:Nat),.int .i64 u,.int .i64 b,.int .i64 m] w fun e w'=>∃v',e=.returned v'∧Own 3 w w' v' (b9 (tlS l a f u b m))∧Ext w w':=by
 intro f;induction f with
 | zero=>intro u b m w h hf hu;have:=b77 Hgr.out hu;omega
 | succ f ih =>
  intro u b m w h hf hu hb24 hm1 hm2;have hob:=m8 Hgr.out;have hp24:=C4 Hgr.out;have ha24:a<2 ^ 24:=nlt ha hp24;have hu24:u<2 ^ 24:=nlt hu hp24;obtain⟨wb,Hwb,hE0,hb,hg,hE,Hsz⟩:=ju3 28 h;clear h;have Hih:=zh ih;clear ih;by_cases hfull:u=l9 l
  . have He:=zh (cj5 (l:=l) (a:=a) (f:=f) (b:=b) (m:=m) hfull);have hq:((u:Int) == (l9 l:Int))=true:=(by rw[hfull];simp);clear hfull;have hOl:Own 3 w (wb.alloc (.cells #[.int .i64 b] 3)) (.slice (some ⟨wb.heap.size,0,none⟩) 1 1) (b9 [b]):=m7 (TI:=3) (n:=1) om hE0 (b9 [b]) rfl;rw[<-Hsz.out,Hwb.out] at hOl;have hEl:=hE0.alloc (.cells #[.int .i64 (b:Int)] 3);rw[Hwb.out] at hEl;go_in;go_wp2_with fail;go_ret;exact⟨_,rfl,by rw[He.out];exact hOl,hEl⟩
  . have hq:((u:Int) == (l9 l:Int))=false:=(by rw[beq_eq_false_iff_ne];omega);have Hnf:=zh hfull;clear hfull;obtain⟨wc,hwc⟩:=nq (wb.alloc (.cells #[] 3));have hBk:Blk wc wb.heap.size 3 #[]:=(by rw[hwc];exact Blk.new _ _ _);have hEbc:Ext wb wc:=(by rw[hwc];exact hE.alloc _);have Hwc:=zh hwc;clear hwc;go_in;go_wp2_with fail;rw[<-Hwb.out];go_loop [13] (fun xv=>∃e:Nat,e<=ord l∧xv=.int .i64 e∧∀j,j<e->u.testBit j=true) (fun x=>ord l - (intOf x).toNat);(case atStart=>exact⟨0,om,rfl,om⟩);case round =>
     obtain⟨e,he,rfl,hall⟩:=hrel;have hsh:=K0 (a:=u) (n:=e) om;have hbt:=X8 (a:=u) (n:=e) om om;cases hbe:u.testBit e
     . rw[hbe] at hbt;have helt:e<ord l:=Classical.byContradiction fun hn=>Hnf.out (ch0 hu hall om);have hlow:Hid (bp4 u=e):=zh (ct0 hall hbe om);clear hall hbe;go_wp2_with fail;rw[<-Hwc.out];clear hsh hbt;refine (M6 a ha24 _).mono ?_;rintro e1 w1 ⟨v1,rfl,hL,hE1⟩;obtain⟨aoL,cL,adrL,rfl,hadrL,hcellL⟩:=hL.ints.nats;have hixL:=j3 (c:=cL) elI szI hadrL;have hE01:Ext wb w1:=hEbc.trans hE1;have hb1:∀W,Ext w1 W->W.cell? ⟨w.heap.size,0,none⟩=some v:=fun W hW=>hb W (hE01.trans hW);have hg1:∀W,Ext w1 W->c9 W v l:=fun W hW=>hg W (hE01.trans hW);have hOE:J3 3 wb w1 w1 (.slice (some ⟨wb.heap.size,0,none⟩) 0 0) []:=J3.start w1 hBk hE1;clear hadrL hb hg hL;have hL24:∀y∈j7 a,y<24:=fun y hy=>I9 hy;have hlen:=B7 a;obtain⟨L,hLdef⟩:=nq (j7 a);rw[<-hLdef] at hcellL hixL hL24 hlen ⊢;have HL:=zh hLdef;clear hLdef;go_wp2_with fail;go_loopw [14,16] (fun ov i wr=>∃k:Nat,k<=L.length∧i=.int .i64 k∧J3 3 wb w1 wr ov (b9 (R3 l a f u b m k))∧Ext w1 wr) (fun _ i _=>L.length - (intOf i).toNat);(case atStart=>exact⟨0,om,rfl,hOE,er _⟩);case round =>
        clear hOE hE;obtain⟨k,hk,rfl,hO,hEr⟩:=hrel;obtain⟨ab,cb,rfl,-⟩:=(hO.own hE01).shape;obtain⟨O,hOd⟩:=nq (R3 l a f u b m k);rw[<-hOd] at hO ⊢;rw[j2 O] at hO ⊢;by_cases hlt:k<L.length∧O.length<m
        . obtain⟨hlt,hlm⟩:=hlt;have hka:k<(j7 a).length:=(by rw[<-HL.out];exact hlt);have hX24:=hL24 _ (o6 hlt);have Hel:Hid ((j7 a)[k]=d8 L k):=zh (by rw[HL.out];simp[d8,List.getD,hka]);obtain⟨X,hX⟩:=nq (d8 L k);have hck:=fun U=>hcellL k _ hlt (hEr.trans (d5 wr U));rw[<-hX] at hck hX24 Hel;have hbx:=fun U=>hb1 _ (hEr.trans (d5 wr U));have hng:p9 l X<16777216:=(by have:=P3 l (m9 Hgr.out) X;omega);have hD24:m6 l e (p9 l X)<24:=nlt (F2 l (m9 Hgr.out) _ _) hob.2;have HD:Hid (dF l u X=m6 l e (p9 l X)):=zh (by unfold dF;rw[hlow.out]);obtain⟨D,hD⟩:=nq (m6 l e (p9 l X));have hcA:=fun W (hW:Ext wr W)=>G5 v l e (p9 l X) W (hg1 _ (hEr.trans hW)) Hgr om hng;rw[<-hD] at hcA hD24 HD;have hS24:=G0 Hgr.out a D;obtain⟨S,hS⟩:=nq (j6 l a D);have hcS:=fun W (hW:Ext wr W)=>F5 v l a D W (hg1 _ (hEr.trans hW)) Hgr ha24 hD24;rw[<-hS] at hcS hS24;have hand:W1 (S:Int) (u:Int)=((S &&& u:Nat):Int):=b34 om om;have hmO:(O.length:Int)<(m:Int):=om;have hE:=er wr;clear hX hD;cases hz:(((S &&& u:Nat):Int) == 0)
          . have Hn:Hid (R3 l a f u b m (k+1)=O):=zh (by
             rw[jg2 hka,hOd];rw[Hel.out,HD.out,<-hS];rw[beq_eq_false_iff_ne] at hz;omega)
            clear hOd hS
            go_wp2_with fail
            (refine wl hE ?_);(repeat (go_big_quiet_step (first | (go_at_call 202;exact Calls.lat (W8 _ _ _ _ ((hg1 _ (hEr.trans (d5 wr _)))) (Hgr) (om))) | (go_at_call 190;exact Calls.lat (hcA _ (d5 wr _))))));(refine zd ?_);(clear hE);(intro W hE)
            have hE11:=hEr.trans hE
            go_wp2_with (go_at_call 166;refine (hcS _ hE).mono ?_;rintro e' w' ⟨rfl,hE'⟩;replace hE:=hE.trans hE';clear hE')
            go_roundw
            case rel=>exact⟨k+1,om,zg,by rw[Hn.out];exact hO.ext hE,hEr.trans hE⟩
            case measure=>exact zm1
          . have hz':S &&& u=0:=(by rw[beq_iff_eq] at hz;omega);have hmore:=dt0 Hgr.out ha0 ha hu D (by rw[<-hS];exact hz');rw[<-hS] at hmore;have Hn:Hid (R3 l a f u b m (k+1)=O++tlS l a f (u ||| S) (b ||| 2 ^ D) (m - O.length)):=zh (by
             have:=j73 (l:=l) (a:=a) (f:=f) (u:=u) (b:=b) (m:=m) hka (by rw[<-hOd];exact hlm) (by rw[Hel.out,HD.out,<-hS];exact hz');rw[this,<-hOd,Hel.out,HD.out,<-hS])
            have hbd:b ||| 2 ^ D<2 ^ 24:=Nat.or_lt_two_pow hb24 (Nat.pow_lt_pow_right om hD24)
            have hcR:=fun W (hI:c9 W v l)=>Hih.out (u ||| S) (b ||| 2 ^ D) (m - O.length) W hI om hmore.1 hbd om om;have hTl:=bh5 l a f (u ||| S) (b ||| 2 ^ D) (m - O.length) om;obtain⟨Y,hY⟩:=nq (tlS l a f (u ||| S) (b ||| 2 ^ D) (m - O.length));rw[<-hY] at hcR hTl Hn;have hs0:ior (u:Int) (S:Int)=((u ||| S:Nat):Int):=M4 om om;have hs1:=p6 (n:=D) om;have hs2:=F6 hb24 hD24;have hsm:((m - O.length:Nat):Int)=(m:Int) - (O.length:Int):=om;rw[hsm] at hcR;have hwr:IntKind.i64.wrap ((m:Int) - (O.length:Int))=(m:Int) - (O.length:Int):=(by apply IntWalk.i64_in;omega);have hln:(b9 O).length+(b9 Y).length<=17592186044416:=(by rw[j2,j2];omega);have Hcat:Hid (b9 (O++Y)=b9 O++b9 Y):=zh (by simp[b9]);clear hOd hS hY hmore hbd hTl hsm hz';go_wp2_with fail;(refine wl hE ?_);(repeat (go_big_quiet_step (first | (go_at_call 202;exact Calls.lat (W8 _ _ _ _ ((hg1 _ (hEr.trans (d5 wr _)))) (Hgr) (om))) | (go_at_call 190;exact Calls.lat (hcA _ (d5 wr _))))));(refine zd ?_);(clear hE);(intro W hE);have hE11:=hEr.trans hE;go_wp2_with (go_at_call 166;refine (hcS _ hE).mono ?_;rintro e' w2 ⟨rfl,hE'⟩;replace hE:=hE.trans hE';clear hE');have hE12:=hEr.trans hE;have hD0:=(er w2).drew;(first | (go_region_held3 (fun W=>Ext w1 W∧W.cell? ⟨w.heap.size,0,none⟩=some v) (exact⟨xq,hb1 _ xq⟩) (first | (go_at_call 167;((with_reducible refine Calls.mono (hcR _ (hg1 _ xq)) ?_);rintro eH wH0 ⟨vH,rfl,hOn,hX0⟩;have hH0:=Ext.trans (a:=w1) xq hX0;have hR0:=Ext.trans (a:=wr) xq hX0)) | (refine q9 slI rfl _ _ rfl wb w1 _ _ _ _ (hO.ext xq) hOn.ints hH0 hln rfl rfl ?_;intro vA wA hOA hXA hTA))) | (fail "the region"));go_wp2_with fail;go_roundw;(case rel=>exact⟨k+1,om,zg,by rw[Hn.out,Hcat.out];exact hOA,hXA⟩);case measure=>exact zm1
        . have Hn:Hid (tlS l a (f+1) u b m=O):=zh (by
           rw[hOd];exact jg1 Hnf.out (by rw[<-HL.out];exact hk) (by rw[<-HL.out,<-hOd];omega))
          have hE3:=hE0.trans (hE01.trans hEr)
          have hO':=(hO.own hE01).mono hE0
          clear hOd hO
          by_cases h1:k<L.length
          all_goals
           have h2:k<L.length->¬(O.length:Int)<(m:Int):=om
           try replace h2:=h2 h1
           clear hlt
           go_wp2_with fail
           go_ret
           exact⟨_,rfl,by rw[Hn.out];exact hO',hE3⟩
     . rw[hbe] at hbt;have helt:=N0 hu hbe;go_wp2_with fail;exact zz150
theorem zz170{P:Prop}(h:P:=by exact⟨k+1,_,om,zg,hBr.ext hE34,by rw[Hn.out];exact hOr.ext hE34,HFr.out.trans HNr.out (hE34.fr _ _),HNr.out⟩):P:=h
theorem jt0(v:Value)(l:List Int)(a m:Nat)(Hgr:Hid (j1 l=true))(ha0:a≠0)(ha:a<2 ^ ord l)(hm:m<=1000)(W0:World)(bG bO bA bM bT:Nat)(hbt:bO≠bT)(hbO:W0.heap.size<=bO)(fn:Value)
 (HG:∀W,Ext W0 W->W.cell? ⟨bG,0,none⟩=some v) (HA:∀W,Ext W0 W->W.cell? ⟨bA,0,none⟩=some (.int .i64 a)) (HM:∀W,Ext W0 W->W.cell? ⟨bM,0,none⟩=some (.int .i64 m)) (HI:Hid (∀W,Ext W0 W->c9 W v l))
 (hfn:fn=.func (.func 314) #[] #[.pointer (some ⟨bG,0,none⟩),.pointer (some ⟨bO,0,none⟩),.pointer (some ⟨bA,0,none⟩),.pointer (some ⟨bM,0,none⟩),.pointer (some ⟨bT,0,none⟩)]) :
 ∀(f u b:Nat) (w:World) (vo:Value) (out:List Nat),ord l<cnt u+f->u<2 ^ ord l->b<2 ^ 24->out.length<m->Ext W0 w->Blk w bO 26 #[vo]->Own 3 W0 w vo (b9 out)->Blk w bT 163 #[fn] ->
 Calls Tryz.prog 314 #[.int .i64 b,.int .i64 u,.pointer (some ⟨bG,0,none⟩),.pointer (some ⟨bO,0,none⟩),.pointer (some ⟨bA,0,none⟩),.pointer (some ⟨bM,0,none⟩),.pointer (some ⟨bT,0,none⟩)] w fun e w' =>
  e=.returned (.tuple #[])∧∃vo',Blk w' bO 26 #[vo']∧Own 3 W0 w' vo' (b9 (tlI l a m f u b out))∧Fr bO vo.ownBlock w w'∧Nw vo.ownBlock w vo'.ownBlock:=by
 intro f
 induction f with
 | zero=>intro u b w vo out hf hu;have:=b77 Hgr.out hu;omega
 | succ f ih =>
  intro u b w vo out hf hu hb24 hom hE0 hBO hO hBT
  rw[hfn] at hBT
  have hob:=m8 Hgr.out
  have hp24:=C4 Hgr.out
  have ha24:a<2 ^ 24:=nlt ha hp24
  have hu24:u<2 ^ 24:=nlt hu hp24
  have hTO:=bs1 hO hBT (by decide)
  have hOO:=bs1 hO hBO (by decide)
  obtain⟨ao,co,rfl,-⟩:=hO.shape
  rw[j2] at hO hBO hTO hOO ⊢
  rw[hfn] at ih
  have Hih:=zh ih
  clear ih
  by_cases hfull:u=l9 l
  . have He:=zh (dh8 (l:=l) (a:=a) (m:=m) (f:=f) (b:=b) (out:=out) hfull)
    have hq:((u:Int) == (l9 l:Int))=true:=by rw[hfull];simp
    have Hc:Hid (b9 (out++[b])=b9 out++[(b:Int)]):=zh (by simp[b9])
    clear hfull
    have hlen:(b9 out).length<17592186044416:=by rw[j2];omega
    have kO:∀W,Ext w W->W.cell? ⟨bO,0,none⟩=some (.slice ao out.length co):=fun W hW=>(hBO.ext hW).cell (i:=0) rfl
    go_in
    go_wp2_with (first
     | (go_at_call 215;refine (G1 _ _ _ (HI.out _ hE0) Hgr).mono ?_;rintro e w1 ⟨rfl,hE1⟩)
     | (at_builtin;refine K9 slI rfl _ _ rfl W0 _ _ _ _ (hO.ext hE1) (hE0.trans hE1) hlen rfl rfl ?_;intro v2 w2 hO2 hG2 hN2;have hB2:=hBO.ext hE1;replace hB2:=hB2.grown hG2 (fun k hk e=>hOO (by rw[hk,e]));have hc2:=hB2.cell (i:=0) (v:=.slice ao out.length co) rfl;have hf2:=hB2.free 0;obtain⟨a2,c2,rfl,-⟩:=hO2.shape;obtain⟨n2,hn2⟩:∃n,n=(b9 out++[(b:Int)]).length:=⟨_,rfl⟩;rw[<-hn2] at hO2 hN2 ⊢;replace hn2:=zh hn2))
    have hF2:=((hE1.fr bO (Value.slice ao out.length co).ownBlock).trans (Nw.refl _ _) (bi8 hG2)).trans (Nw.refl _ _) (b96 bO _ w2 0 (.slice a2 n2 c2))
    have hB3:Blk (w2.setCell ⟨bO,0,none⟩ (.slice a2 n2 c2)) bO 26 #[.slice a2 n2 c2]:=hB2.set 0 (.slice a2 n2 c2)
    have hO3:=(b96 bO none w2 0 (.slice a2 n2 c2)).own hO2 (bs1 hO2 hB2 (by decide)) (by cases hq:(Value.slice a2 n2 c2).ownBlock with
     | none=>exact Or.inl rfl
     | some k=>exact Or.inr zm)
    exact bodyPost_ret (v:=.tuple #[]) (by simp[results,Tryz.results314,go_sem]) rfl ⟨rfl,_,hB3,by rw[He.out,Hc.out];exact hO3,hF2,(Nw.refl _ _).trans hE1.size hN2⟩
  . have hq:((u:Int) == (l9 l:Int))=false:=by rw[beq_eq_false_iff_ne];omega
    have Hnf:=zh hfull
    clear hfull
    go_in
    go_wp2_with (go_at_call 215;refine (G1 _ _ _ (HI.out _ hE0) Hgr).mono ?_;rintro e w1 ⟨rfl,hE1⟩)
    have hE01:=hE0.trans hE1
    go_loop [9] (fun xv=>∃e:Nat,e<=ord l∧xv=.int .i64 e∧∀j,j<e->u.testBit j=true) (fun x=>ord l - (intOf x).toNat)
    case atStart=>exact⟨0,om,rfl,om⟩
    case round =>
     obtain⟨e,he,rfl,hall⟩:=hrel;cases hbe:u.testBit e
     . have helt:e<ord l:=Classical.byContradiction fun hn=>Hnf.out (ch0 hu hall om);have hlow:Hid (bp4 u=e):=zh (ct0 hall hbe om);have hcN:=T1 u e hu24 om w1 hbe;clear hall hbe;go_wp2_with (first | (go_at_call 225;refine hcN.mono ?_;rintro e' w' ⟨rfl,hw'⟩;subst hw') | (go_at_call 214;refine (I5 a ha24 _).mono ?_;rintro e2 w2 ⟨v2,rfl,hL,hE2⟩;obtain⟨aoL,cL,adrL,rfl,hadrL,hcellL⟩:=hL.ints.nats));have hixL:=j3 (c:=cL) elI szI hadrL;have hE12:=hE1.trans hE2;have hE02:=hE01.trans hE2;have hB2:=hBO.ext hE12;have hO2:=hO.ext hE12;have hT2:=hBT.ext hE12;have hnL1:=j38 hL (nlt hBO.lt hE1.size);have hnL2:(Value.slice aoL (j7 a).length cL).ownBlock=none∨(Value.slice aoL (j7 a).length cL).ownBlock≠(Value.slice ao out.length co).ownBlock:=by
        cases hq:(Value.slice aoL (j7 a).length cL).ownBlock with
        | none=>exact Or.inl rfl
        | some j=>exact Or.inr fun e=>by have h1:=(hL.blk j hq).1;have h2:=(hO.blk j e.symm).2;have:=hE1.size;omega
       have hL24:∀y∈j7 a,y<24:=fun y hy=>I9 hy;have hlenL:=B7 a;have hoB:∀j,(Value.slice ao out.length co).ownBlock=some j->W0.heap.size<=j:=fun j hj=>(hO.blk j hj).1;clear hO hBO hBT hcellL;obtain⟨oB,hoBd⟩:=nq ((Value.slice ao out.length co).ownBlock);have HL:=zh hL;have HnL2:=zh hnL2;have HN12:=zh hE12;have HadrL:=zh hadrL;clear hL hnL2 hadrL;go_loopw [30] (fun i wr=>∃(k:Nat) (vo':Value),k<=(j7 a).length∧i=.int .i64 k∧Blk wr bO 26 #[vo']∧Own 3 W0 wr vo' (b9 (b18 l a m f u b out k))∧Fr bO (Value.slice ao out.length co).ownBlock w2 wr∧Nw (Value.slice ao out.length co).ownBlock w2 vo'.ownBlock) (fun i _=>(j7 a).length - (intOf i).toNat);(case atStart=>exact⟨0,_,om,rfl,hB2,hO2,Fr.refl _ _ _,Nw.refl _ _⟩);case round =>
        clear hB2 hO2;obtain⟨k,vo',hk,rfl,hBr,hOr,hFr,hNr⟩:=hrel;have hE0r:=hFr.ext hE02 hbO hoB;have hTr:=hFr.blk hT2 (Ne.symm hbt) hTO;have HLr:=zh (hFr.own HL.out hnL1 HnL2.out);have HFr:=zh hFr;have HNr:=zh hNr;clear hFr hNr;obtain⟨ab,cb,rfl,-⟩:=hOr.shape;obtain⟨O,hOd⟩:=nq (b18 l a m f u b out k);rw[<-hOd] at hOr hBr HNr;rw[j2] at hOr hBr HNr;by_cases hlt:k<(j7 a).length
        . have hX24:=hL24 _ (o6 hlt);have Hel:Hid ((j7 a)[k]=d8 (j7 a) k):=zh (by simp[d8,List.getD,hlt]);have hck:wr.cell? (adrL k)=some (.int .i64 (d8 (j7 a) k:Int)):=by
           obtain⟨ao2,c2,hv,-,-,hc⟩:=HLr.out.ints;rw[j2] at hc hv;simp only[Value.slice.injEq] at hv;obtain⟨a2,ha2,hc2⟩:=hc k hlt;obtain⟨h1,h2⟩:=HadrL.out k hlt;rw[H8] at hc2;rw[<-hv.1,h1] at ha2;simp only[Option.some.injEq] at ha2;rw[h2,ha2];exact hc2
          obtain⟨X,hX⟩:=nq (d8 (j7 a) k);rw[<-hX] at hck hX24 Hel;have hng:p9 l X<16777216:=(by have:=P3 l (m9 Hgr.out) X;omega);have hD24:m6 l e (p9 l X)<24:=nlt (F2 l (m9 Hgr.out) _ _) hob.2;have HD:Hid (dF l u X=m6 l e (p9 l X)):=zh (by unfold dF;rw[hlow.out]);obtain⟨D,hD⟩:=nq (m6 l e (p9 l X));have hcA:=fun W (hW:Ext wr W)=>cz1 v l e X W (HI.out _ (hE0r.trans hW)) Hgr om hX24;rw[<-hD] at hcA hD24 HD;have hS24:=G0 Hgr.out a D;obtain⟨S,hS⟩:=nq (j6 l a D);have hcS:=fun W (hW:Ext wr W)=>H9 v l a D W (HI.out _ (hE0r.trans hW)) Hgr ha24 hD24;rw[<-hS] at hcS hS24;have hand:W1 (S:Int) (u:Int)=((S &&& u:Nat):Int):=b34 om om;clear hX hD HLr;cases hz:(((S &&& u:Nat):Int) == 0)
          . have Hn:Hid (b18 l a m f u b out (k+1)=O):=zh (by
             rw[dh9 hlt,hOd];rw[Hel.out,HD.out,<-hS];rw[beq_eq_false_iff_ne] at hz;omega)
            clear hOd hS
            go_wp2_with (first | (go_at_call 315;refine (hcA _ (er _)).mono ?_;rintro e3 w3 ⟨rfl,hE3⟩;have hE03:=hE0r.trans hE3) | (go_at_call 220;refine (hcS _ hE3).mono ?_;rintro e4 w4 ⟨rfl,hE4⟩;have hE04:=hE03.trans hE4;have hE34:=hE3.trans hE4))
            go_roundw
            case rel=>exact zz170
            case measure=>exact zm1
          . have hz':S &&& u=0:=(by rw[beq_iff_eq] at hz;omega);have kO:∀W,Ext wr W->W.cell? ⟨bO,0,none⟩=some (.slice ab O.length cb):=fun W hW=>(hBr.ext hW).cell (i:=0) rfl;by_cases hlm:(O.length:Int)<(m:Int)
            . have hmore:=dt0 Hgr.out ha0 ha hu D (by rw[<-hS];exact hz');rw[<-hS] at hmore;have Hn:Hid (b18 l a m f u b out (k+1)=tlI l a m f (u ||| S) (b ||| 2 ^ D) O):=zh (by
               have:=j70 (l:=l) (a:=a) (m:=m) (f:=f) (u:=u) (b:=b) (out:=out) hlt (by rw[Hel.out,HD.out,<-hS];exact hz') (by rw[<-hOd];omega);rw[this,<-hOd,Hel.out,HD.out,<-hS])
              have hbd:b ||| 2 ^ D<2 ^ 24:=Nat.or_lt_two_pow hb24 (Nat.pow_lt_pow_right om hD24)
              have hcR:=fun W (hE:Ext wr W)=>Hih.out (u ||| S) (b ||| 2 ^ D) W (.slice ab O.length cb) O om hmore.1 hbd om (hE0r.trans hE) (hBr.ext hE) (hOr.ext hE) (hTr.ext hE);have hs0:ior (u:Int) (S:Int)=((u ||| S:Nat):Int):=M4 om om;have hs1:=p6 (n:=D) om;have hs2:=F6 hb24 hD24;have kt:∀W,Ext wr W->W.cell? ⟨bT,0,none⟩=some (.func (.func 314) #[] #[.pointer (some ⟨bG,0,none⟩),.pointer (some ⟨bO,0,none⟩),.pointer (some ⟨bA,0,none⟩),.pointer (some ⟨bM,0,none⟩),.pointer (some ⟨bT,0,none⟩)]):=fun W hW=>(hTr.ext hW).cell (i:=0) rfl;clear hOd hS hmore hbd hz';go_wp2_with (first | (go_at_call 315;refine (hcA _ (er _)).mono ?_;rintro e3 w3 ⟨rfl,hE3⟩;have hE03:=hE0r.trans hE3) | (go_at_call 220;refine (hcS _ hE3).mono ?_;rintro e4 w4 ⟨rfl,hE4⟩;have hE04:=hE03.trans hE4;have hE34:=hE3.trans hE4));have hD0:=(er w4).drew;(first | (go_region_held3 (fun W=>W.cell? ⟨bT,0,none⟩=some (.func (.func 314) #[] #[.pointer (some ⟨bG,0,none⟩),.pointer (some ⟨bO,0,none⟩),.pointer (some ⟨bA,0,none⟩),.pointer (some ⟨bM,0,none⟩),.pointer (some ⟨bT,0,none⟩)])) (first | exact hT5.cell (i:=0) rfl | exact kt _ xq) (first | (go_at_call 314;((with_reducible refine Calls.mono (hcR _ xq) ?_);rintro eH w5 ⟨rfl,vo5,hB5,hO5,hF5,hN5⟩;have hT5:=hF5.blk (hTr.ext xq) (Ne.symm hbt) (bs1 (hOr.ext xq) (hTr.ext xq) (by decide)))))) | (fail "the region"));go_wp2_with fail;go_roundw;(case rel=>exact⟨k+1,vo5,om,zg,hB5,by rw[Hn.out];exact hO5,HFr.out.trans HNr.out ((hE34.drew.fr _ _).trans (Nw.refl _ _) hF5),HNr.out.trans (nle HFr.out.size hE34.drew.size) hN5⟩);case measure=>exact zm1
            . have Hn:Hid (b18 l a m f u b out (k+1)=O):=zh (by
               rw[dh9 hlt,hOd];rw[<-hOd];omega)
              clear hOd hS hz'
              go_wp2_with (first | (go_at_call 315;refine (hcA _ (er _)).mono ?_;rintro e3 w3 ⟨rfl,hE3⟩;have hE03:=hE0r.trans hE3) | (go_at_call 220;refine (hcS _ hE3).mono ?_;rintro e4 w4 ⟨rfl,hE4⟩;have hE04:=hE03.trans hE4;have hE34:=hE3.trans hE4))
              go_roundw
              case rel=>exact zz170
              case measure=>exact zm1
        . have Hn:Hid (tlI l a m (f+1) u b out=O):=zh (by rw[hOd,jo8 Hnf.out,show k=(j7 a).length by omega]);clear hOd;go_wp2_with fail;go_end0;exact⟨rfl,_,hBr,by rw[Hn.out];exact hOr,(HN12.out.fr _ _).trans (Nw.refl _ _) HFr.out,(Nw.refl _ _).trans HN12.out.size HNr.out⟩
     . have helt:=N0 hu hbe;have hcN:=T1 u e hu24 om w1 hbe;go_wp2_with (refine hcN.mono ?_;rintro e' w' ⟨rfl,hw'⟩;subst hw');exact zz150
end Go.Zz
