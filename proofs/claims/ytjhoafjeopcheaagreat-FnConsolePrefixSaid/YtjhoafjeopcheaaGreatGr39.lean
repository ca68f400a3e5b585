/- Plain: the console at the first lines of a text; the lines it shows are counted. -/
import Derived.Test.YtjhoafjeopcheaaGreatGr38
import Derived.Test.YtjhoafjeopcheaaGreatGr33
set_option linter.all false
set_option maxHeartbeats 4000000
set_option maxRecDepth 8000
namespace Go.Zz
open Go.RowKit Go.Proofs
variable(v:Value)(l:LI)(P:World)(a b n:Int)(w:World)(p:Nat){f c R r k i:Nat}{s:Ba}
def nl(x:Ba):Bool:=x.data.toList.all (· != 10)
theorem dz5(L:List UInt8):nl ⟨L.toArray⟩=L.all (· != 10):=rfl
theorem ci4(x y:Ba):nl (x++y)=(nl x&&nl y):=by simp[nl]
theorem lv1{L:LI}(h:∀x∈L,44<=x/\x<=57):nl (strOfNums L)=true:=by
 simp only[nl,strOfNums_data,List.all_map,oC];intro x K;have:=h x K;obtain⟨n,rfl⟩:=pl (show 0<=x by omega);have T:n<=57:=om;have H:44<=n:=om;clear K this;revert n;decide +revert
theorem c47:nl (j8 n)=true:=by
 have hd:nl (W8 n.natAbs ⟨#[]⟩)=true:=by
  rw[bu5];exact lv1 fun x K=>by have:=lg7 _ x (List.mem_reverse.1 K);omega
 unfold j8;simp[apply_ite nl,ci4,dz5,hd]
theorem d49{s:Ba}{f:Nat->Ba}(S:nl s=true)(h:∀i,nl (f i)=true):∀k,nl (jn s f k)=true
 |0=>rfl
 |k+1=>by
  have o:=d49 S h k
  unfold jn
  split<;>simp only[ci4,h,S,o]<;>rfl
theorem jg6:nl (H6 l)=true:=by
 unfold H6;split;rfl;exact d49 rfl (fun _=>c47 _) _
theorem jw4:nl (fsF l a)=true:=by
 unfold fsF;split;exact jg6 _;rfl
theorem jw2:nl (fgF l)=true:=by
 unfold fgF;(repeat' split)<;>first|rfl|exact d49 rfl (fun _=>c47 _) _
theorem lv2:nl (O6 l)=true:=by
 unfold O6;split;rfl;exact d49 rfl (fun _=>c47 _) _
theorem jw3(X:LN):∀k,∀b∈fqL X k,nl b=true
 |0,b,C=>by cases C
 | k+1,b,C=>by
  have i:=jw3 X k
  unfold fqL at C
  split at C
  . exact i b C
  . rw[oP,oE]at C
    rcases C with C|rfl
    . exact i b C
    . unfold pcB
      split<;>simp only[ci4,c47]<;>rfl
theorem lu9(X:LI):nl (fqF l X)=true:=by
 unfold fqF;(repeat' split)<;>first|rfl|refine d49 rfl (fun i=>?_) _
 by_cases h:i<(fqL (X.map Int.toNat) X.length).length;exact jw3 _ _ _ (J8 h);unfold m8;rw[List.getD_eq_getElem?_getD,List.getElem?_eq_none om];rfl
theorem lv3:nl (stF l a)=true:=by
 unfold stF;(repeat' split)<;>rfl
theorem lv0:nl (kcF l a b)=true:=by
 unfold kcF;(repeat' split)<;>rfl
theorem lu7(k:Int):nl (cwB k)=true:=by
 unfold cwB;(repeat' split)<;>rfl
theorem lu8(k:Int)(g o:LI)(a b s p:Int)(t q:LI)(n:Int):nl (fcF k g o a b s p t q n)=true:=by
 unfold fcF;simp[apply_ite nl,cond_eq_ite,ci4,dz5,lu7,jw4,jw2,lv2,c47]
theorem lu6(L:List Ba):nl (ce5 L).1=true:=by
 unfold ce5;split<;>simp[apply_ite nl,apply_ite Prod.fst,ci4,dz5,c47,jg6,jw4,jw2,lu9,lv3,lv0,lu8,c16,bp3,bw1,by0,bx9,bb9,c82,elF,bh9,c10,sqlF,bj2,stlF,d04,be6,cl9,plF,plG,bi0,b85,b86,b92,bb8,bb7,mtB]
theorem lm1(t:Ba):nl (lineV t)=true:=by
 unfold lineV F2;(repeat' split)<;>first|rfl|exact lu6 _
def cn(s:Ba):Nat->Nat
 |0=>0
 |i+1=>if bt s i=10 then cn s i+1 else cn s i
theorem lf5(s:Ba):∀i,cn s i<=i
 |0=>oc _
 |i+1=>by have:=lf5 s i;unfold cn;split<;>omega
theorem jd8(x y:Ba):∀i,i<=x.size->cn (x++y) i=cn x i
 |0,_=>rfl
 |i+1,h=>by unfold cn;rw[jc8 x y i om,jd8 x y i om]
theorem dr7(x y:Ba):∀i,cn (x++y) (x.size+i)=cn x x.size+cn y i
 |0=>jd8 x y _ (oc _)
 |i+1=>by
  have e:cn (x++y) (x.size+i+1)=if bt (x++y) (x.size+i)=10 then cn (x++y) (x.size+i)+1 else cn (x++y) (x.size+i):=rfl
  show cn (x++y) (x.size+i+1)=_+cn y (i+1)
  have E:cn y (i+1)=if bt y i=10 then cn y i+1 else cn y i:=rfl
  rw[e,E,jc9 x y _ om,dr7 x y i,Nat.add_sub_cancel_left]
  split<;>rfl
theorem lf6{x:Ba}(h:nl x=true):∀i,i<=x.size->cn x i=0
 |0,_=>rfl
 | i+1,hi=>by
  have e:¬bt x i=10:=fun e=>by
   rw[<-b19 x i om]at e
   have r:=oC.1 h (x[i]'om) (by rw[ByteArray.getElem_eq_getElem_data];simp)
   have T:x[i]'om=10:=UInt8.toNat_inj.1 e
   rw[T]at r
   cases r
  unfold cn
  rw[if_neg e]
  exact lf6 h i om
def fl(L:List Ba):Nat->Nat
 |0=>0
 |k+1=>if m8 L k=mtB then fl L k else fl L k+1
theorem lg0(L:List Ba):∀k,fl L k<=k
 |0=>oc _
 |k+1=>by have:=lg0 L k;unfold fl;split<;>omega
theorem jq8{G:Ba->Ba}(H:∀t,nl (G t)=true)(L:List Ba):∀k,cn (J9 G L k) (J9 G L k).size=fl L k
 |0=>rfl
 | k+1=>by
  have i:=jq8 H L k
  unfold fl
  split
  . rename_i h;rw[bs5 h,i]
  . rename_i h
    have e:(J9 G L k++G (m8 L k)++nlB).size=(J9 G L k).size+(G (m8 L k)).size+1:=by rw[oe,oe];rfl
    have E:=oe (a:=J9 G L k) (b:=G (m8 L k))
    rw[bs4 h,e,<-E,dr7 _ nlB 1,E,dr7 _ _ _,i,lf6 (H _) _ (oc _)]
    rfl
theorem nyA{P Q:List Ba}(h:k<P.length):m8 (P++Q) k=m8 P k:=by
 simp only[m8,List.getD_eq_getElem?_getD,List.getElem?_append_left h]
theorem js7(P Q:List Ba):∀k,k<=P.length->fl (P++Q) k=fl P k
 |0,_=>rfl
 |k+1,h=>by unfold fl;rw[nyA om,js7 P Q k om]
theorem j02(G:Ba->Ba){L M:List Ba}:∀k,(∀i,i<k->m8 L i=m8 M i)->J9 G L k=J9 G M k
 |0,_=>rfl
 |k+1,h=>by
  have I:=j02 G k fun i J=>h i om
  have e:=h k om
  unfold J9
  rw[e,I]
theorem dj7(G:Ba->Ba)(L:List Ba)(k:Nat):∀m,∃z,J9 G L (k+m)=J9 G L k++z
 |0=>⟨mtB,by apply pH;simp[mtB]⟩
 |m+1=>by
  obtain⟨z,H⟩:=dj7 G L k m
  by_cases h:m8 L (k+m)=mtB
  . exact⟨z,(bs5 h).trans H⟩
  . exact⟨z++G (m8 L (k+m))++nlB,(bs4 h).trans (by rw[H];apply pH;simp)⟩
theorem jw5(h:∀j,R<=j->j<i->¬bt s j=10)(J:i<=s.size):noC 10 (s.extract R i):=by
 intro b C e;rw[ByteArray.data_extract,Array.mem_toList_iff,Array.mem_extract_iff_getElem]at C;obtain⟨k,H,rfl⟩:=C;have m:R+k<i:=om;have z:R+k<s.size:=om;have r:=b19 s (R+k) z;rw[ByteArray.getElem_eq_getElem_data]at r;exact h (R+k) om m om
theorem ls1(H:r<s.size)(h:bt s r=10)(J:r<i):s.extract 0 i=s.extract 0 r++⟨#[10]⟩++s.extract (r+1) i:=by
 rw[ByteArray.extract_eq_extract_append_extract r om om,ByteArray.extract_eq_extract_append_extract (i:=r) (r+1) om om,je9 s r H,ByteArray.append_assoc];have e:s[r]'H=10:=UInt8.toNat_inj.1 ((b19 s r H).trans h);rw[e]
theorem lf9(s:Ba)(i:Nat):s.extract i i=mtB:=by apply pH;simp[mtB]
def Par(s:Ba)(R:Nat)(P:List Ba):Prop:=R=0/\P=[]\/∃r,R=r+1/\r<s.size/\bt s r=10/\p7 10 (s.extract 0 r)=P
theorem Par.cut{P:List Ba}(h:Par s r P)(R:r<=i)(J:i<=s.size)(n:∀j,r<=j->j<i->¬bt s j=10):p7 10 (s.extract 0 i)=P++[s.extract r i]:=by
 rcases h with⟨rfl,rfl⟩|⟨q,rfl,H,C,rfl⟩;exact l47 (jw5 n J);rw[ls1 H C om];exact jr5 (d:=10) rfl (jw5 n J)
theorem Par.lines{P:List Ba}(h:Par s R P)(H:R<=s.size):lnL (s.extract 0 R)=P:=by
 have e:=h.cut (oc R) H fun j o r=>om;unfold lnL;rw[e,lf9];simp[m8,List.getD]
def Cnt(s:Ba)(k i l f r c:Nat):Prop :=
 ∃P,Par s r P/\r<=i/\(∀j,r<=j->j<i->¬bt s j=10)/\l=P.length/\f=fl P P.length/\c<=s.size/\(l<k/\c=0\/k<=l/\Par s c (P.take k))
theorem Cnt.zero(s:Ba)(V:1<=k):Cnt s k 0 0 0 0 0 :=
 ⟨[],Or.inl ⟨rfl,rfl⟩,oc _,fun j _ h=>om,rfl,rfl,oX _,Or.inl ⟨V,rfl⟩⟩
theorem Cnt.le{l:Nat}(h:Cnt s k i l f R c):R<=i/\f<=l/\c<=s.size:=by
 obtain⟨P,-,o,-,rfl,rfl,r,-⟩:=h;exact⟨o,lg0 P _,r⟩
theorem Cnt.skip{l:Nat}(h:Cnt s k i l f R c)(C:¬bt s i=10):Cnt s k (i+1) l f R c:=by
 obtain⟨P,o,r,T,H⟩:=h;exact⟨P,o,om,fun j a z=>(by by_cases e:j=i;exact e ▸ C;exact T j a om),H⟩
theorem jf3(P:List Ba)(q:Ba):fl (P++[q]) (P.length+1)=if q=mtB then fl P P.length else fl P P.length+1:=by
 have e:m8 (P++[q]) P.length=q:=by simp[m8,List.getD]
 show(if m8 (P++[q]) P.length=mtB then _ else _)=_;rw[e,js7 P [q] _ (oc _)]
theorem cg3(h:r<=i)(J:i<=s.size):s.extract r i=mtB↔¬r<i:=by
 constructor;intro e;have:=congrArg ByteArray.size e;have E:mtB.size=0:=rfl;rw[pP,E]at this;omega;intro e;obtain rfl:r=i:=om;exact lf9 s r
theorem Cnt.hit{l:Nat}(h:Cnt s k i l f R c)(J:i<s.size)(C:bt s i=10):Cnt s k (i+1) (l+1) (if R<i then f+1 else f) (i+1) (if l+1=k then i+1 else c):=by
 obtain⟨P,o,r,T,rfl,rfl,d,n⟩:=h;have e:=o.cut r (qH J) T;have p:Par s (i+1) (P++[s.extract R i]):=Or.inr ⟨i,rfl,J,C,e⟩;refine⟨_,p,oc _,fun j a z=>om,zm,?_,by split<;>omega,?_⟩
 rw[oh,oo,jf3];by_cases H:R<i;rw[if_pos H,if_neg fun e=>(cg3 r (qH J)).1 e H];rw[if_neg H,if_pos ((cg3 r (qH J)).2 H)];by_cases V:P.length+1=k;subst V;rw[if_pos rfl,pE zm];exact Or.inr ⟨oc _,p⟩;rw[if_neg V];rcases n with⟨g,m⟩|⟨g,m⟩
 exact Or.inl ⟨om,m⟩;exact Or.inr ⟨om,by rw[qy g];exact m⟩
def Cnd(s:Ba)(l f c:Nat):Prop:=l=(lnL s).length/\f=fl (lnL s) (lnL s).length/\c<=s.size/\∃j,j<=l/\lnL (s.extract 0 c)=(lnL s).take j
theorem Cnt.cut{l:Nat}(h:Cnt s k i l f r c){Q:List Ba}(q:∀P,Par s r P->∃R,Q=P++R):∃j,j<=l/\lnL (s.extract 0 c)=Q.take j:=by
 obtain⟨P,o,-,-,rfl,-,d,e⟩:=h;obtain⟨R,rfl⟩:=q P o;rcases e with⟨-,rfl⟩|⟨H,m⟩;refine⟨0,oX _,?_⟩;rw[Par.lines (Or.inl ⟨rfl,rfl⟩) (oX _)];rfl;exact⟨k,H,by rw[qy H];exact m.lines d⟩
theorem Par.eq{P Q:List Ba}(h:Par s R P)(r:Par s R Q):P=Q:=by
 rcases h with⟨rfl,rfl⟩|⟨q,rfl,-,-,rfl⟩<;>rcases r with⟨e,h⟩|⟨J,e,-,-,h⟩;exact h.symm;omega;omega;cases e;exact h
theorem Cnt.fin{l:Nat}(h:Cnt s k s.size l f R c):Cnd s (if R=s.size then l else l+1) (if R=s.size then f else f+1) c:=by
 have S:=h;obtain⟨P,o,r,T,a,d,g,-⟩:=h;have e:=o.cut r (oc _) T;rw[ByteArray.extract_zero_size]at e;by_cases H:R=s.size
 . have L:lnL s=P:=by
    have:=o.lines r;rwa [H,ByteArray.extract_zero_size]at this
   rw[if_pos H,if_pos H]
   obtain⟨j,J,C⟩:=S.cut (Q:=lnL s) fun D Q=>by rw[L,Q.eq o];exact⟨[],zm⟩
   exact⟨by rw[L,a],by rw[L,d],g,j,J,C⟩
 have q:¬s.extract R s.size=mtB:=fun e=>(cg3 r (oc _)).1 e om;have L:lnL s=P++[s.extract R s.size]:=by
  unfold lnL;rw[e];simp[m8,List.getD,q]
 rw[if_neg H,if_neg H];obtain⟨j,J,C⟩:=S.cut (Q:=lnL s) fun D Q=>by rw[L,Q.eq o];exact⟨_,rfl⟩
 refine⟨by rw[L,a];simp,?_,g,j,om,C⟩;rw[L,oh,oo,jf3,if_neg q,d]
theorem li8{G:Ba->Ba}{l:Nat}(h:Cnd s l f c)(o:¬2000<s.size)(r:¬20<l):∃z,P1 G s=P1 G (s.extract 0 c)++z:=by
 obtain⟨rfl,-,d,j,H,e⟩:=h;have C:(s.extract 0 c).size<=s.size:=by rw[pP];omega
 obtain⟨z,Z⟩:=dj7 G (lnL s) j ((lnL s).length-j);refine⟨z,?_⟩;unfold P1;rw[if_neg o,if_neg r,if_neg om,e,ol,Nat.min_eq_left H,if_neg om,j02 G (M:=lnL s) j fun i J=>ci5 _ _ _ J,<-Z];congr 1;omega
theorem li7{G:Ba->Ba}(H:∀t,nl (G t)=true){l:Nat}(h:Cnd s l f c)(o:¬2000<s.size)(r:¬20<l):cn (P1 G s) (P1 G s).size=f:=by
 obtain⟨rfl,rfl,-⟩:=h;unfold P1;rw[if_neg o,if_neg r];exact jq8 H _ _
theorem li6{G:Ba->Ba}{l:Nat}(h:Cnd s l f c)(o:2000<s.size\/20<l):P1 G s=mtB:=by
 obtain⟨rfl,-⟩:=h;unfold P1;by_cases r:2000<s.size;rw[if_pos r];rw[if_neg r,if_pos om]
theorem dj8{G:Ba->Ba}(h:∀t,(G t).size<=4000)(L:List Ba):∀k,(J9 G L k).size<=4001*k
 |0=>oX _
 |k+1=>by
  have i:=dj8 h L k
  have o:=h (m8 L k)
  have e:nlB.size=1:=rfl
  unfold J9
  split
  . omega
  . rw[oe,oe];omega
theorem l45(s:Ba):(P1 lineV s).size<=100000:=by
 unfold P1;split;exact oX _;split;exact oX _;have:=dj8 (G:=lineV) (fun t=>dv5 (cv0 _)) (lnL s) (lnL s).length;omega
def okS(B:Nat):List Value->Bool
 |[]=>true
 | .string s :: r=>decide (s.size<=B)&&okS B r
 |_ :: _=>false
theorem jh0{B:Nat}:∀(L:List Value) (k:Nat),okS B L=true->k<L.length->∃s:Ba,L[k]?=some (.string s)/\s.size<=B
 |[],k,_,h=>by simp at h
 |v :: r,k,h,hk=>by
  cases v<;>first|cases h|skip
  rename_i s
  have h:(decide (s.size<=B)&&okS B r)=true:=h
  rw[ow]at h
  cases k with
  |zero=>exact⟨s,rfl,of_decide_eq_true h.1⟩
  |succ k=>exact jh0 r k h.2 (by simpa using hk)
theorem bq7(q:Nat)(P w:World)(p n:Nat)(c:Array Value)(h:Cur P w p)(N:c.toList.length=n)(o:1<=n/\n<=256)(S:okS q c.toList=true):Calls Tryz.prog 34 #[.pointer (some (aD p 0)),.slice (some (aD w.heap.size 0)) n n] (w.alloc (.cells c 9)) fun e Q=>∃s:Ba,e=.returned (.string s)/\s.size<=q/\Cur P Q p/\Drw p w Q:=by
 have B:=oq w 9 c;have E:=(er w).alloc (.cells c 9);have r:=h.lt;have t:=h.ext E;obtain⟨b,C⟩:=nq (w.heap.size);obtain⟨a,A⟩:=nq (w.alloc (.cells c 9));rw[<-C]at B|-;rw[<-A]at B E t|-;have m:b≠p:=om;clear A C;go_in;go_wp2_with fail;refine(b31 P a p n om t).mono ?_;rintro e G⟨x,rfl,K,F,hF⟩;obtain⟨X,hx1⟩:=K.2 om;obtain⟨k,rfl⟩:=pl X;have V:k<n:=om;obtain⟨s,H,d⟩:=jh0 c.toList k S om;have Z:=(hF.blk B m).cell (i:=k) (v:=.string s) (by simpa using H);have I:∀W,(Instr.indexAt 29 (.slice (some (aD b 0)) n n) (vi (k:Int))).run Tryz.prog W=.ok (.pointer (some (aD b k))) W:=fun W=>by
  rw[run_indexAt_slice (h:=elS),if_pos om,szS]
  simp[Result.andThen,pe]
 have D:=(E.drw p).trans hF;clear N H K hF E;go_wp2_with fail;go_ret;exact⟨s,rfl,d,F,D⟩
theorem j94(h:Cur P w p):Calls Tryz.prog 17 #[.pointer (some (aD p 0))] w fun e W=>∃s:Ba,e=.returned (.string s)/\s.size<=40/\Cur P W p/\Drw p w W:=by
 go_in;go_wp2_with fail;refine od (bq7 5 P w p _ _ h ?_ ?_ ?_) ?_;rfl;decide;rfl;rintro e G⟨g,rfl,H,v,D⟩;go_wp2_with fail;refine od (bq7 5 P G p _ _ v ?_ ?_ ?_) ?_;rfl;decide;rfl;rintro e l⟨a,rfl,A,y,f⟩;have hF:=D.trans f;clear h v D f;go_wp2_with fail;refine(b31 P l p 5 om y).mono ?_;rintro e w3⟨x,rfl,K,B,I⟩;obtain⟨X,hx1⟩:=K.2 om;replace hF:=hF.trans I;clear I y K;rcases (by omega:x=0\/x=1\/x=2\/x=3\/x=4)with rfl|rfl|rfl|rfl|rfl
 all_goals
  go_wp2_with fail
  refine od (bq7 15 P w3 p _ _ B ?_ ?_ ?_) ?_
  . rfl
  . decide
  . rfl
  rintro e w4⟨b,rfl,C,c,F⟩
  replace hF:=hF.trans F
  clear F B
  have z:(b++g).size=b.size+g.size:=oe
  have Z:(b++g++(⟨#[32]⟩:Ba)).size=(b++g).size+1:=oe
  have q:(b++g++(⟨#[32]⟩:Ba)++a).size=(b++g++(⟨#[32]⟩:Ba)).size+a.size:=oe
  have t:(b++g++(⟨#[32]⟩:Ba)++a++(⟨#[32]⟩:Ba)).size=(b++g++(⟨#[32]⟩:Ba)++a).size+1:=oe
 . go_wp2_with fail;go_ret;exact⟨_,rfl,om,c,hF⟩
 . go_wp2_with fail;go_ret;exact⟨_,rfl,om,c,hF⟩
 . go_wp2_with fail;refine od (bq7 5 P w4 p _ _ c ?_ ?_ ?_) ?_;rfl;decide;rfl;rintro e r⟨d,rfl,hd,J,F⟩;replace hF:=hF.trans F;have u:(b++g++(⟨#[32]⟩:Ba)++a++(⟨#[32]⟩:Ba)++d).size=(b++g++(⟨#[32]⟩:Ba)++a++(⟨#[32]⟩:Ba)).size+d.size:=oe;go_wp2_with fail;go_ret;exact⟨_,rfl,om,J,hF⟩
 all_goals
  go_wp2_with fail
  go_ret
  exact⟨_,rfl,om,c,hF⟩
theorem dt0(g:Nat)(y:Int)(h:w.cell? (aD g 0)=some (.int .u8 y)):(convert 24 9 (.slice (some (aD g 0)) 1 1)).run Tryz.prog w=.ok (.string (strOfNums [y])) w :=
 run_convert_bytes_arg (P:=Tryz.prog) _ 24 5 (by rfl) (by rfl) g 0 1 1 [y] rfl (fun i J=>by
  have:i=0:=om
  subst this
  exact h) _ (by rfl)
theorem j93(W w:World)(p:Nat)(s:Ba)(h:Cur W w p)(T:0<s.size)(o:s.size<=256):Calls Tryz.prog 19 #[.pointer (some (aD p 0)),.string s] w fun e R=>∃s:Ba,e=.returned (.string s)/\s.size<=2000/\Cur W R p:=by
 have u:¬(s.size:Int)=0:=om;go_in;go_wp2_with fail;refine(b31 W w p s.size om h).mono ?_;rintro e G⟨x,rfl,K,E,-⟩;obtain⟨X,hx1⟩:=K.2 om;obtain⟨k,rfl⟩:=pl X;have N:k<s.size:=om;have I:(k:Int)<s.size:=om;have d:(k:Int)<=s.size:=om;have n:k<=s.size:=om;have Y:(k:Int)+1<=s.size:=om;have F:IntKind.i64.wrap ((k:Int)+1)=((k+1:Nat):Int):=oD _ om;have J:k+1<=s.size:=om;have g:(0:Int)<=(k:Int)+1:=om;have L:(s.extract 0 k).size=k:=by rw[pP];omega
 have O:(s.extract k s.size).size=s.size-k:=by rw[pP];omega
 have f:(s.extract (k+1) s.size).size=s.size-(k+1):=by rw[pP];omega
 clear h K X hx1;go_wp2_with fail;refine(b31 W G p 4 om E).mono ?_;rintro e m⟨x,rfl,K,A,-⟩;obtain⟨X,hx1⟩:=K.2 om;clear E;rcases (by omega:x=0\/x=1\/x=2\/x=3)with rfl|rfl|rfl|rfl
 . have Z:=oe (a:=s.extract 0 k) (b:=s.extract (k+1) s.size);go_wp2_with fail;refine wp_region_held_drew (S:=(fun _=>True)) (by kernel_rfl) (by trivial) (fun l=>?_);refine hxn 0 ?_;refine hxn 1 ?_;refine hxn 2 ?_;refine hxn 3 ?_;refine hxn 4 ?_;refine hxn 5 ?_;refine hxn 6 ?_;refine hxn 7 ?_;refine hxn 8 ?_;refine wpAnyH_done (by kernel_rfl) ?_ _;go_wp2_with fail;go_ret;exact⟨s.extract 0 k++s.extract (k+1) s.size,by kernel_rfl,om,A.ext xq⟩
 . go_wp2_with fail;refine wp_region_held_drew (S:=(fun _=>True)) (by kernel_rfl) (by trivial) (fun l=>?_);refine hxn 0 ?_;refine hxn 1 ?_;refine hxn 2 ?_;refine hxn 3 ?_;refine hxn 9 ?_;refine hxn 10 ?_;refine hxn 11 ?_;refine hxt 4 (h:=fun y H=>?_);go_simp;(go_at_call 33;(with_reducible refine od (d42 W _ p (A.ext xq)) ?_);rintro e B⟨x,rfl,X,hx1,D,-⟩);refine hxo H (by trivial) (fun l=>?_);clear H y;refine hxn 5 ?_;refine hxt 6 (h:=fun y H=>?_);go_simp;have V:=dt0 (B.alloc (.cells #[.int .u8 (IntKind.u8.wrap x)] 5)) B.heap.size (IntKind.u8.wrap x) ((oq _ _ _).cell rfl);have j:=strOfNums_size [IntKind.u8.wrap x];obtain⟨q,t⟩:=nq (strOfNums [IntKind.u8.wrap x]);rw[<-t]at V j;clear t;have Z:=oe (a:=s.extract 0 k) (b:=q);have U:=oe (a:=s.extract 0 k++q) (b:=s.extract k s.size);simp only[oy,oI]at j;refine hxo H (by trivial) (fun l=>?_);clear H y;refine hxt 7 (h:=fun y H=>?_);go_simp;refine hxo H (by trivial) (fun l=>?_);clear H y;refine hxn 8 ?_;refine hxn 12 ?_;refine hxn 13 ?_;refine wpAnyH_done (by kernel_rfl) ?_ _;go_wp2_with fail;go_ret;exact⟨_,rfl,om,D.ext xq⟩
 . go_wp2_with fail;go_ret;exact⟨_,rfl,by rw[L];omega,A⟩
 obtain⟨b,C⟩:=nq (bt s k);have r:(s[k]'N).toNat=b:=(by rw[b19,C]);clear C;go_wp2_with fail;refine wp_region_held_drew (S:=(fun _=>True)) (by kernel_rfl) (by trivial) (fun l=>?_);refine hxn 0 ?_;refine hxn 1 ?_;refine hxn 2 ?_;refine hxn 3 ?_;refine hxn 4 ?_;refine hxn 5 ?_;refine hxn 6 ?_;refine hxn 7 ?_;refine hxn 15 ?_;refine hxn 16 ?_;refine hxn 17 ?_;refine hxn 18 ?_;refine hxt 8 (h:=fun y H=>?_);go_simp;(go_at_call 16;(with_reducible refine od (b31 W _ p 255 om (A.ext xq)) ?_);rintro e B⟨x,rfl,-,D,-⟩);obtain⟨z,M⟩:∃z,IntKind.i64.wrap (1+x)=z:=⟨_,rfl⟩;refine hxo H (by trivial) (fun l=>?_);clear H y;refine hxn 9 ?_;refine hxn 10 ?_;refine hxn 11 ?_;refine hxt 12 (h:=fun y H=>?_);go_simp;have V:=dt0 (B.alloc (.cells #[.int .u8 (IntKind.u8.wrap (cx1 (IntKind.i64.wrap (b:Int)) z))] 5)) B.heap.size (IntKind.u8.wrap (cx1 (IntKind.i64.wrap (b:Int)) z)) ((oq _ _ _).cell rfl);have j:=strOfNums_size [IntKind.u8.wrap (cx1 (IntKind.i64.wrap (b:Int)) z)];obtain⟨q,t⟩:∃q,q=strOfNums [IntKind.u8.wrap (cx1 (IntKind.i64.wrap (b:Int)) z)]:=⟨_,rfl⟩;rw[<-t]at V j;clear t;have Z:=oe (a:=s.extract 0 k) (b:=q);have U:=oe (a:=s.extract 0 k++q) (b:=s.extract (k+1) s.size);simp only[oy,oI]at j;refine hxo H (by trivial) (fun l=>?_);clear H y;refine hxt 13 (h:=fun y H=>?_);go_simp;refine hxo H (by trivial) (fun l=>?_);clear H y;refine hxn 14 ?_;refine hxn 19 ?_;refine hxn 20 ?_;refine wpAnyH_done (by kernel_rfl) ?_ _;go_wp2_with fail;go_ret;exact⟨_,rfl,om,D.ext xq⟩
theorem cd6(h:bo3 w v l):Calls Tryz.prog 8 #[v] w fun e W=>∃s:Ba,e=.returned (.string s)/\s.size<=2000/\Ext w W:=by
 go_in;go_wp2_with fail;refine(ju8 _ _ w _ h (er w)).mono ?_;rintro e G⟨p,rfl,A,-,-⟩;go_wp2_with fail;refine(b31 w G p 4 om A).mono ?_;rintro e o⟨x,rfl,K,y,-⟩;obtain⟨X,hx1⟩:=K.2 om;obtain⟨k,rfl⟩:=pl X;have O:IntKind.i64.wrap (1+(k:Int))=((k+1:Nat):Int):=by rw[oD _ om];omega
 clear h A K;go_wp2_with fail;go_loopw [4,5] (fun T S wr=>∃(n:Nat) (t:Ba),t.size+41*n<=200/\(0<n\/0<t.size)/\S=vi n/\T=.string t/\Cur w wr p) (fun _ S _=>(RowKit.intOf S).toNat);exact⟨k+1,_,by show 0+_<=_;omega,Or.inl om,rfl,rfl,y⟩
 rename World=>wr;clear y;obtain⟨n,t,B,U,rfl,rfl,c⟩:=hrel;by_cases N:0<n
 . have i:(0:Int)<n:=om;obtain⟨m,rfl⟩:∃m,n=m+1:=⟨n-1,om⟩;have Y:IntKind.i64.wrap (((m+1:Nat):Int)-1)=m:=(by rw[oD _ om];omega);go_wp2_with fail;refine(j94 w wr p c).mono ?_;rintro e w3⟨u,rfl,H,C,-⟩;have Z:=oe (a:=t) (b:=u);have z:(t++u++(⟨#[10]⟩:Ba)).size=t.size+u.size+1:=(by rw[oe,Z];rfl);go_wp2_with fail;go_roundw;exact⟨m,_,by rw[z];omega,Or.inr (by rw[z];omega),zg,rfl,C⟩;simp[RowKit.intOf]
 have i:¬(0:Int)<n:=om;go_wp2_with fail;refine(jm2 w wr p 14 om c).mono ?_;rintro e w3⟨b,rfl,C,-⟩;cases b
 . go_wp2_with fail;go_ret;exact⟨_,rfl,om,C.base⟩
 go_wp2_with fail;refine(j93 w w3 p t C om om).mono ?_;rintro e w4⟨u,rfl,H,E⟩;go_wp2_with fail;go_ret;exact⟨_,rfl,H,E.base⟩
theorem li3(h:bo3 w v l):Calls Tryz.prog 7 #[v] w fun e W=>∃b,e=.returned (.bool b)/\W=w:=by
 obtain⟨Q,c,rfl,-⟩:=h;go_in;go_wp2_with fail;go_ret;exact⟨_,rfl,rfl⟩
theorem lq8(i:Nat)(J:i<1000)(w:World)(h:bo3 w v l):Calls Tryz.prog 9 #[v,vi i] w fun e W=>∃a:Nat,a<256/\e=.returned (vi a)/\W=w:=by
 obtain⟨Q,c,r,rfl,L,C,d,H⟩:=h.op;have I:=j2 (c:=c) elY szY d i;by_cases U:i<l.length
 . have t:(i:Int)<(l.length:Int):=om;have k:=H i w U (er _);have b:=C i;obtain⟨x,K⟩:=nq (nth l i);rw[<-K]at k b;obtain⟨a,rfl⟩:=pl b.1;clear d H K;go_in;go_wp2_with fail;go_ret;exact⟨a,om,rfl,rfl⟩
 have t:¬(i:Int)<(l.length:Int):=om;have D:=qw ((i:Int)*37+(l.length:Int)*11) (show(256:Int)≠0 by omega);have G:=pX ((i:Int)*37+(l.length:Int)*11) (show(0:Int)<256 by omega);clear d H;go_in;go_wp2_with fail;go_ret;obtain⟨a,A⟩:=pl D;exact⟨a,om,o3 A,rfl⟩
end Go.Zz
