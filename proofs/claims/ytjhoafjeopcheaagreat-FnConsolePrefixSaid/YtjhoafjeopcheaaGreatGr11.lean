/- Sequences of elements: IsSequence, parts, totals, the shortest part with the sum 0. -/
import Derived.Test.YtjhoafjeopcheaaGreatGr10
set_option linter.all false
set_option maxHeartbeats 40000000
set_option maxRecDepth 20000
namespace Go.Zz
open Go.RowKit Go.Proofs
variable(k:Int)(v u:Value)(l x:LI)(X:LN)(m:Nat){c:Bool}
theorem Calls.ext_of_same{P:Program}{f:FuncId}{r:Array Value}{w:World}{v:Value}(h:Calls P f r w fun e W=>e=.returned v/\w=W):Calls P f r w (RE w v):=h.mono fun _ _ ⟨H,E⟩=>⟨H,E ▸ er _⟩
theorem j84(a b:Int)(w:World):Calls Tryz.prog 309 #[vi a,vi b] w fun e P=>e=.returned (.bool (decide (a<b)))/\w=P:=by
 have h:∀(x:Int) (W:World),Calls Tryz.prog 336 #[vi x] W fun e P=>e=.returned (.bool false)/\W=P:=fun x W=>by
  go_in
  go_wp2_with fail
  go_ret
  exact⟨zm,rfl⟩
 have hd:∃d,d=decide (a<b):=⟨_,rfl⟩;go_in;go_wp2_with(first|(go_at_call 336;refine(h _ _).mono ?_;rintro e P⟨rfl,rfl⟩));exact zz108
theorem cr6(a b:Int)(w:World)(h:decide (a<b)=c):Calls Tryz.prog 309 #[vi a,vi b] w fun e W=>e=.returned (.bool c)/\w=W:=by subst h;exact j84 a b w
theorem cl4(w:World)(h:c8 w u x):Calls Tryz.prog 258 #[u] w (RE w (.bool (b01 x))):=by
 obtain⟨Q,c,D,rfl,y,A,C⟩:=h.op;have Y:=j2 (c:=c) elI szI A;have T:=zh (bz6 x);have N:Hid (∀j,0<j->j<x.length->nth x j<nth x (j-1)->b01 x=false):=zh fun j a b c=>j44 a b c;have E:=er w;clear h A;go_in;go_wp2_with fail;go_loopw [3] (fun i wr=>∃Z:Int,Z<(x.length:Int) /\ -1<=Z/\i=vi Z/\(∀j:Nat,Z<(j:Int)->j<x.length->nth x (j-1)<=nth x j)/\Ext w wr) (fun i _=>(intOf i).toNat);exact⟨_,om,om,rfl,fun j X r=>om,E⟩
 clear E;obtain⟨Z,B,M,rfl,L,E⟩:=hrel;have I:=zh L;clear L;by_cases P:0<Z
 . obtain⟨k,rfl⟩:=pl (show 0<=Z by omega);have V:k<x.length:=om;have K:0<k:=om;obtain⟨q,v⟩:∃q,q+1=k:=⟨k-1,om⟩;have G:IntKind.i64.wrap ((k:Int)-1)=(q:Int):=(by rw[<-v];exact(oD _ om).trans om);have F:q<x.length:=om;have m:=fun U=>C k _ V (E.trans (c9 wr U));have O:=fun U=>C q _ F (E.trans (c9 wr U));have H:=zh (show q=k-1 by omega);clear v;have z:=E;clear E;have E:=er wr;cases hd:decide (nth x k<nth x q)
   . have d:=zh (of_decide_eq_false hd);go_wp2_with fail;refine wl E ?_;(repeat(go_big_quiet_step(first|(go_at_call 309;exact oT (cr6 _ _ _ hd)))));refine zd fun W E=>?_;go_wp2_with fail;go_roundw;exact⟨(q:Int),by have:=H.o;omega,om,rfl,fun j X r=>by by_cases e:j=k;(subst e;have:=d.o;rw[H.o]at this;omega);exact I.o j (by have:=H.o;omega) r,z.trans E⟩;(have:=H.o;simp[intOf];omega)
   have d:Hid (b01 x=false):=zh (N.o k K V (by rw[<-H.o];exact of_decide_eq_true hd));go_wp2_with fail;refine wl E ?_;(repeat(go_big_quiet_step(first|(go_at_call 309;exact oT (cr6 _ _ _ hd)))));refine zd fun W E=>?_;go_wp2_with fail;go_ret;exact⟨j1 d.o.symm,z.trans E⟩
 have f:Hid (b01 x=true):=zh (T.o.2 fun j S J=>I.o j om J);go_wp2_with fail;go_ret;exact⟨j1 f.o.symm,E⟩
theorem c03(w:World)(h:c8 w v l)(H:d7 l=c):Calls Tryz.prog 92 #[.agg #[v]] w (RE w (.bool c)):=by subst H;exact o9 v l w h
theorem zz132{P:Prop}(h:P:=by go_wp2_with(first|(go_at_call 92;refine cx (c03 _ _ _ (H _ E) Y) E fun P E=>?_));go_ret;exact⟨j1 z.o.symm,F.trans E⟩):P:=h
theorem c24(w:World)(h:c8 w v l)(A:c8 w u x):Calls Tryz.prog 172 #[.agg #[v],u] w (RE w (.bool (q8 l x))):=by
 obtain⟨B,Z,F,C,H,E,-⟩:=m04 42 h;have G:Hid (∀W,Ext B W->c8 W u x):=zh fun W D=>A.ext (F.trans D);clear h;obtain⟨Q,c,ar,rfl,T,R,y⟩:=(G.o B E).op;have m:=j2 (c:=c) elI szI R;have S:Hid (∀k,k<x.length->M7 l (nth x k)=false->q8 l x=false):=zh fun k a b=>j40 a b;have N:=zh (fun h=>j39 (l:=l) (xs:=x) h);clear R A;go_in;go_wp2_with fail;rw[<-Z.o];go_loopw [9] (fun i wr=>∃k:Nat,k<=x.length/\i=vi k/\(∀j,j<k->M7 l (nth x j)=true)/\Ext B wr) (fun i _=>x.length-(intOf i).toNat);exact⟨0,om,rfl,om,E⟩
 clear E;obtain⟨k,V,rfl,L,E⟩:=hrel;have I:=zh L;clear L;have X:=C _ E;by_cases U:k<x.length
 . have M:=y k _ U E;cases d:M7 l (nth x k)
   . have z:=zh (S.o k U d);go_wp2_with(first|(go_at_call 72;refine cx (db9 _ _ _ _ (H _ E) (d)) E fun P E=>?_));go_ret;exact⟨j1 z.o.symm,F.trans E⟩
   have J:=zh d;go_wp2_with(first|(go_at_call 72;refine cx (db9 _ _ _ _ (H _ E) (d)) E fun P E=>?_));go_roundw;exact⟨k+1,om,zg,fun j f=>by by_cases e:j=k;(subst e;exact J.o);exact I.o j om,E⟩;exact zm1
 have K:k=x.length:=om;subst K;have r:=zh (N.o I.o);cases Y:d7 l;have z:Hid (q8 l x=false):=zh (by rw[r.o,Y];rfl);exact zz132;by_cases O:x.length<=12
 . have z:Hid (q8 l x=b01 x):=zh (by rw[r.o,Y,decide_eq_true O];rfl);go_wp2_with(first|(go_at_call 92;refine cx (c03 _ _ _ (H _ E) Y) E fun P E=>?_)|(go_at_call 258;refine cx (cl4 _ _ _ (G.o _ E)) E fun P E=>?_));go_ret;exact⟨j1 z.o.symm,F.trans E⟩
 have z:Hid (q8 l x=false):=zh (by rw[r.o,Y,decide_eq_false O];rfl);have ha:¬(x.length:Int)<=12:=om;exact zz132
theorem F6(w:World)(h:c8 w v l)(H:c8 w u x)(C:q8 l x=c):Calls Tryz.prog 172 #[.agg #[v],u] w (RE w (.bool c)):=by subst C;exact c24 v u l x w h H
theorem bv7(w:World)(h:c8 w v l)(H:d7 l=c):Calls Tryz.prog 52 #[.agg #[v]] w (RE w (.bool c)):=by subst H;exact C4 v l w h
theorem zz79{P:Prop}(h:P:=by go_wp2_with fail;refine wl E ?_;(repeat(go_big_quiet_step(first|(go_at_call 53;exact oa (be0 _ _ _ _ (r _ (c9 wr _)) (d))))));refine zd fun W E=>?_;go_wp2_with fail;go_ret;exact⟨j1 f.o.symm,F.trans (z.trans E)⟩):P:=h
theorem bz1(w:World)(h:c8 w v l)(G:c8 w u x):Calls Tryz.prog 115 #[.agg #[v],u] w (RE w (.bool (q8 l x))):=by
 obtain⟨B,Z,F,C,H,E,-⟩:=m04 42 h;have hc:Hid (∀W,Ext B W->c8 W u x):=zh fun W D=>G.ext (F.trans D);clear h;obtain⟨Q,c,ar,rfl,hn,R,L⟩:=(hc.o B E).op;have hf:=j2 (c:=c) elI szI R;have Hb:Hid (∀k,k<x.length->M7 l (nth x k)=false->q8 l x=false):=zh fun k a b=>j40 a b;have Hn:Hid (∀k,0<k->k<x.length->nth x k<nth x (k-1)->q8 l x=false):=zh fun k a b c=>jz8 a b c;have Ha:=zh (fun h=>j39 (l:=l) (xs:=x) h);have Ht:=zh (bz6 x);clear R G;go_in;go_wp2_with fail;rw[<-Z.o];go_loopw [5] (fun i wr=>∃k:Nat,k<=x.length/\i=vi k/\(∀j,j<k->M7 l (nth x j)=true/\(0<j->nth x (j-1)<=nth x j))/\Ext B wr) (fun i _=>x.length-(intOf i).toNat);exact⟨0,om,rfl,om,E⟩
 clear E;obtain⟨k,V,rfl,M,E⟩:=hrel;have A:=zh M;clear M;by_cases U:k<x.length
 . have hi:=fun I=>L k _ U (E.trans (c9 wr I));have ho:=fun I=>C _ (E.trans (c9 wr I));have r:=sh E H;have z:=E;clear E;have E:=er wr;cases d:M7 l (nth x k);have f:=zh (Hb.o k U d);exact zz79;have O:=zh d;by_cases S:k=0
   . have Hc:=zh S;have he:¬(0:Int)<(k:Int):=om;have hp:¬0<k:=om;clear S;go_wp2_with fail;refine wl E ?_;(repeat(go_big_quiet_step(first|(go_at_call 53;exact oa (be0 _ _ _ _ (r _ (c9 wr _)) (d))))));refine zd fun W E=>?_;go_wp2_with fail;go_roundw;exact⟨k+1,om,zg,fun j J=>by by_cases e:j=k;(subst e;exact⟨O.o,fun h=>by have:=Hc.o;omega⟩);exact A.o j om,z.trans E⟩;exact zm1
   have he:(0:Int)<(k:Int):=om;have ha:0<k:=om;clear S;obtain⟨q,K⟩:∃q,q+1=k:=⟨k-1,om⟩;have hw:IntKind.i64.wrap ((k:Int)-1)=(q:Int):=(by rw[<-K];exact(oD _ om).trans om);have hl:q<x.length:=om;have hm:=fun I=>L q _ hl (z.trans (c9 wr I));have X:=zh (show q=k-1 by omega);clear K;cases hd:decide (nth x k<nth x q)
   . have Hd:=zh (of_decide_eq_false hd);go_wp2_with fail;refine wl E ?_;(repeat(go_big_quiet_step(first|(go_at_call 53;exact oa (be0 _ _ _ _ (r _ (c9 wr _)) (d))))));refine zd fun W E=>?_;go_wp2_with fail;go_roundw;exact⟨k+1,om,zg,fun j J=>by by_cases e:j=k;(subst e;exact⟨O.o,fun _=>by have:=Hd.o;rw[X.o]at this;omega⟩);exact A.o j om,z.trans E⟩;exact zm1
   have f:=zh (Hn.o k ha U (by rw[<-X.o];exact of_decide_eq_true hd));exact zz79
 have m:k=x.length:=om;subst m;have hx:=C _ E;have y:=zh (Ha.o fun j J=>(A.o j J).1);have N:Hid (b01 x=true):=zh (Ht.o.2 fun j S J=>(A.o j J).2 S);cases Y:d7 l
 . have f:Hid (q8 l x=false):=zh (by rw[y.o,Y];rfl);go_wp2_with(first|(go_at_call 52;refine cx (bv7 _ _ _ (H _ E) Y) E fun P E=>?_));go_ret;exact⟨j1 f.o.symm,F.trans E⟩
 by_cases T:x.length<=12
 . have f:Hid (q8 l x=true):=zh (by rw[y.o,Y,decide_eq_true T,N.o];rfl);go_wp2_with(first|(go_at_call 52;refine cx (bv7 _ _ _ (H _ E) Y) E fun P E=>?_));go_ret;exact⟨j1 (by rw[f.o];exact decide_eq_true om),F.trans E⟩
 have f:Hid (q8 l x=false):=zh (by rw[y.o,Y,decide_eq_false T];rfl);go_wp2_with(first|(go_at_call 52;refine cx (bv7 _ _ _ (H _ E) Y) E fun P E=>?_));go_ret;exact⟨j1 (by rw[f.o];exact decide_eq_false om),F.trans E⟩
theorem F5(w:World)(h:c8 w v l)(H:c8 w u x)(C:q8 l x=c):Calls Tryz.prog 115 #[.agg #[v],u] w (RE w (.bool c)):=by subst C;exact bz1 v u l x w h H
def bc8:Ba:=⟨#[110,111,110,101]⟩
def b66:Ba:=⟨#[49]⟩
def mtB:Ba:=⟨#[]⟩
theorem js8{n:Int}(h:0<=n/\n<100):(j8 n).size<=2:=by
 unfold j8;split;decide;rw[if_neg om,bu5,strOfNums_size,qB];exact j24 2 _ om
theorem dx8(s:Ba)(f:Nat->Ba)(S:s.size<=1):∀k,(∀i,i<k->(f i).size<=2)->(jn s f k).size<=3*k:=by
 intro k;induction k with
 |zero=>intro _;exact oc _
 |succ k ih =>
  intro h;have H:=ih (fun i J=>h i om);exact zz159
theorem lu3(a:Int)(i:Nat)(h:i<(loF l a).length):0<=nth (loF l a) i/\nth (loF l a) i<100:=by
 cases S:j0 l a;rw[ci0 S]at h;simp at h;obtain⟨n,rfl,-,H,-⟩:=l7 S;rw[bs2 S]at h|-;rw[d9]at h;have e:nth (b9 (j3 n)) i=((j3 n)[i]:Int):=(by simp[nth,b9,List.getD,h]);have:=J5 (qh h);omega
theorem jt0(a:Int):(fsF l a).size<=80:=by
 rw[jt2];split
 . split<;>decide
 have:=dx8 b11 (fun i=>j8 (nth (loF l a) i)) (by decide) _ (fun i J=>js8 (lu3 l a i J));have:=jg5 l a;omega
theorem lt3:(fgF l).size<=10:=by
 cases H:d7 l;rw[bn3 H];decide;rw[bs0 H];split;decide;have:=dx8 ex (fun i=>j8 (nth l i)) (by decide) _ (fun i J=>js8 (by have:=G4 H J;omega));have:=E5 H;omega
def rnB(s:Ba):Bool:=(p7 44 s).all fun t=>(pI t).2
def pIs(L:List Ba):LI:=L.map fun t=>(pI t).1
def rnV(s:Ba):LI:=if rnB s then pIs (p7 44 s)else []
theorem lg8{s:Ba}{k:Nat}(V:k<(p7 44 s).length)(h:(pI (m8 (p7 44 s) k)).2=false):rnB s=false/\rnV s=[]:=by
 have C:rnB s=false:=by
  unfold rnB;rw[Bool.eq_false_iff];intro q;have:=oC.1 q (m8 (p7 44 s) k) (by simp[m8,List.getD,V]);rw[h]at this;cases this
 exact⟨C,by unfold rnV;rw[C];rfl⟩
theorem jy8{s:Ba}(h:∀k,k<(p7 44 s).length->(pI (m8 (p7 44 s) k)).2=true):rnB s=true/\rnV s=pIs (p7 44 s):=by
 have C:rnB s=true:=by
  unfold rnB;rw[oC];intro t H;obtain⟨k,V,rfl⟩:=qV.1 H;have:=h k V;simpa[m8,List.getD,V]using this
 exact⟨C,by unfold rnV;rw[C];rfl⟩
theorem cy6(L:List Ba)(k:Nat)(h:k<L.length):pIs (L.take (k+1))=pIs (L.take k)++[(pI (m8 L k)).1]:=by
 unfold pIs;rw[qP,pF];simp[m8,List.getD,h]
def pgB(s:Ba):Bool:=decide (s=b66) || (decide (¬s=mtB)&&decide (fgF (pIs (p7 120 s))=s))
def pgV(s:Ba):LI:=if s=b66 then []else if pgB s then pIs (p7 120 s)else []
theorem j09{s:Ba}(h:s=b66):pgB s=true/\pgV s=[]:=⟨by unfold pgB;rw[decide_eq_true h];rfl,if_pos h⟩
theorem do0{s:Ba}(h:s=mtB):pgB s=false/\pgV s=[]:=by
 subst h;have H:¬mtB=b66:=by decide
 have C:pgB mtB=false:=by unfold pgB;rw[decide_eq_false H,decide_eq_false (fun q=>q rfl)];rfl
 exact⟨C,by unfold pgV;rw[if_neg H,C];rfl⟩
theorem d55{s:Ba}(H:¬s=b66)(h:¬fgF (pIs (p7 120 s))=s):pgB s=false/\pgV s=[]:=by
 have C:pgB s=false:=by unfold pgB;rw[decide_eq_false H,decide_eq_false h];simp
 exact⟨C,by unfold pgV;rw[if_neg H,C];rfl⟩
theorem j11{s:Ba}(H:¬s=b66)(r:¬s=mtB)(h:fgF (pIs (p7 120 s))=s):pgB s=true/\pgV s=pIs (p7 120 s):=by
 have C:pgB s=true:=by unfold pgB;rw[decide_eq_true h,decide_eq_true r];simp
 exact⟨C,by unfold pgV;rw[if_neg H,C];rfl⟩
theorem lm9{s:Ba}(h:10<s.size):pgB s=false/\pgV s=[]:=by
 refine d55 (fun e=>?_) (fun e=>?_);rw[e]at h;exact absurd h (by decide);have:=lt3 (pIs (p7 120 s));rw[e]at this;omega
theorem lv6{s:Ba}(r:¬s=b66){k:Nat}(V:k<(p7 120 s).length)(h:(pI (m8 (p7 120 s) k)).2=false):pgB s=false/\pgV s=[]:=by
 by_cases m:s=mtB;exact do0 m;refine d55 r fun e=>m ?_;rw[bn3]at e;exact e.symm;rw[Bool.eq_false_iff];intro g;have l:k<(pIs (p7 120 s)).length:=(by unfold pIs;rw[oG];exact V);have T:=G4 g l;have E:nth (pIs (p7 120 s)) k=(pI (m8 (p7 120 s) k)).1:=(by simp[pIs,nth,m8,List.getD,V]);have W:pI (m8 (p7 120 s) k)=(0,false):=by
  unfold pI at h|-;split at h;cases h;rename_i q;rw[if_neg q]
 rw[E,W]at T;exact absurd T.1 (by decide)
def X8(l:LI):List Ba->Nat->Option Nat
 |[],a=>some a
 |t :: r,a=>if (pI t).2=true/\M7 l (pI t).1=true then X8 l r (a ||| 2^(pI t).1.toNat)else none
def psX(l:LI)(s:Ba):Int × Bool :=
 match X8 l (p7 44 s) 0 with
 |none=>(0,false)
 |some a=>if fsF l a=s then((a:Int),true)else(0,false)
def psV(l:LI)(s:Ba):Int × Bool:=if s=bc8 then(0,d7 l)else psX l s
theorem dc7{l:LI}{s:Ba}(h:s=bc8):psV l s=(0,d7 l):=if_pos h
theorem d60{l:LI}{s:Ba}(h:¬s=bc8)(r:X8 l (p7 44 s) 0=none):psV l s=(0,false):=by
 unfold psV psX;rw[if_neg h,r]
theorem d61{l:LI}{s:Ba}{a:Nat}(h:¬s=bc8)(r:X8 l (p7 44 s) 0=some a):psV l s=if fsF l a=s then((a:Int),true)else(0,false):=by
 unfold psV psX;rw[if_neg h,r]
theorem ln2{l:LI}{s:Ba}(h:80<s.size):psV l s=(0,false):=by
 have H:¬s=bc8:=fun e=>by rw[e]at h;exact absurd h (by decide)
 cases P:X8 l (p7 44 s) 0 with
 |none=>exact d60 H P
 |some a =>
  rw[d61 H P,if_neg];intro e;have:=jt0 l a;rw[e]at this;omega
theorem jh7{l:LI}{t:Ba}{R:List Ba}{a n:Nat}(h:(pI t).2=true)(r:M7 l (pI t).1=true)(H:(pI t).1=n):X8 l (t :: R) a=X8 l R (a ||| 2^n):=by
 show(if _ then _ else _)=_;rw[if_pos ⟨h,r⟩,H];rfl
theorem c50{l:LI}{t:Ba}{r:List Ba}{a:Nat}(h:¬((pI t).2=true/\M7 l (pI t).1=true)):X8 l (t :: r) a=none:=by
 show(if _ then _ else _)=_;rw[if_neg h]
def ssB(l X:LI):Bool:=q8 l (b87 X)
def ssV(l X:LI):LI:=if ssB l X then b87 X else []
theorem lh0{l X:LI}(h:q8 l (b87 X)=false):ssB l X=false/\ssV l X=[]:=⟨h,by unfold ssV ssB;rw[h];rfl⟩
theorem d80{l X:LI}(h:q8 l (b87 X)=true):ssB l X=true/\ssV l X=b87 X:=⟨h,by unfold ssV ssB;rw[h];rfl⟩
theorem jw7{l:LI}(h:∀i,i<l.length -> -1<=nth l i/\nth l i<1000000000000)(H:l.length<=40):(H6 l).size<=560:=by
 unfold H6;split;decide;have:=b43 b11 (fun i=>j8 (nth l i)) (by decide) l.length fun i J=>m9 (h i J);omega
theorem J6(a:Int):(fsF l a).size<=600:=by
 cases h:j0 l a;rw[bn4 h];decide;obtain⟨n,rfl,-,H,-⟩:=l7 h;rw[bk2 h];have:=jw7 (l:=b9 (j3 n)) (b91 n) (by rw[d9];have:=D0 n;omega);omega
def cwB(k:Int):Ba :=
 if k=1 then⟨#[115,117,109]⟩else if k=2 then⟨#[122,101,114,111]⟩else if k=3 then⟨#[102,114,101,101]⟩else if k=4 then⟨#[116,105,108,101]⟩
 else if k=5 then⟨#[97,108,105,107,101]⟩else if k=6 then⟨#[99,111,108,111,114,115]⟩else if k=7 then⟨#[99,111,115,101,116]⟩else⟨#[]⟩
theorem bc5(w:World):
 Calls Tryz.prog 89 #[vi k] w (RE w (.string (cwB k))):=by
 by_cases h:1<=k/\k<=7
 . have i:=V2.2 h;have E:=er w;rcases (by omega:k=1\/k=2\/k=3\/k=4\/k=5\/k=6\/k=7)with rfl|rfl|rfl|rfl|rfl|rfl|rfl
   all_goals
    go_in
    go_wp2_with(first|(go_at_call 168;refine(H8 _ _ _ _).mono ?_;rintro e W⟨rfl,rfl⟩))
    go_ret
    exact⟨rfl,E.alloc _⟩
 have i:=c86.2 h;have e:cwB k=⟨#[]⟩:=(by unfold cwB;rw[if_neg om,if_neg om,if_neg om,if_neg om,if_neg om,if_neg om,if_neg om]);have H:=zh e;clear e;go_in;go_wp2_with(first|(go_at_call 168;refine(H8 _ _ _ _).mono ?_;rintro e W⟨rfl,rfl⟩));go_ret;exact⟨j5 H.o.symm,er w⟩
theorem b48(w:World):
 Calls Tryz.prog 209 #[vi k] w (RE w (.string (cwB k))):=by
 by_cases h:1<=k/\k<=7
 . have i:=V2.2 h;have E:=er w;rcases (by omega:k=1\/k=2\/k=3\/k=4\/k=5\/k=6\/k=7)with rfl|rfl|rfl|rfl|rfl|rfl|rfl
   all_goals
    go_in
    go_wp2_with(first|(go_at_call 141;refine(P6 _ _ _ _).mono ?_;rintro e W⟨rfl,rfl⟩))
    go_ret
    exact⟨rfl,E.alloc _⟩
 have i:=c86.2 h;have e:cwB k=⟨#[]⟩:=(by unfold cwB;rw[if_neg om,if_neg om,if_neg om,if_neg om,if_neg om,if_neg om,if_neg om]);have H:=zh e;clear e;go_in;go_wp2_with(first|(go_at_call 141;refine(P6 _ _ _ _).mono ?_;rintro e W⟨rfl,rfl⟩));go_ret;exact⟨j5 H.o.symm,er w⟩
theorem jt1(a:Int):(fsF l a).toList.isEmpty = !j0 l a:=by
 cases h:j0 l a;rw[bn4 h,pi];rfl;obtain⟨n,rfl,-,H,-⟩:=l7 h;rw[bk2 h];refine b32 ?_;unfold H6;split;decide;exact bg0 _ _ _ om fun i J=>bf6 (b91 n i J)
theorem js6:(fgF l).toList.isEmpty = !d7 l:=by
 cases h:d7 l;rw[bn3 h,pi];rfl;rw[bs0 h];refine b32 ?_;split;decide;exact bg0 _ _ _ om fun i J=>bf6 (ch2 h i J)
theorem c80:(fgF l).size<=600:=by
 cases h:d7 l;rw[bn3 h];decide;rw[bs0 h];have:=E5 h;split;decide;have:=b43 ex (fun i=>j8 (nth l i)) (by decide) l.length fun i J=>m9 (ch2 h i J);omega
theorem bm8:(O6 l).size<=600:=by
 unfold O6;split;decide;have:=b43 b11 (clS l) (by decide) l.length fun i _=>dr5 l i;omega
theorem dt1:(cwB k).size<=6:=by
 unfold cwB;(repeat' split)<;>decide
theorem dt2{k:Int}(h:1<=k/\k<=7):(cwB k).toList.isEmpty=false:=by
 rcases (by omega:k=1\/k=2\/k=3\/k=4\/k=5\/k=6\/k=7)with rfl|rfl|rfl|rfl|rfl|rfl|rfl<;>exact b32 (by decide)
theorem l48{k:Int}(h:¬(1<=k/\k<=7)):cwB k=⟨#[]⟩:=by
 unfold cwB;rw[if_neg om,if_neg om,if_neg om,if_neg om,if_neg om,if_neg om,if_neg om]
theorem jj6(a b c:Int):S8 l [a,b,c]=(j0 l a&&(j0 l b&&j0 l c)):=by
 unfold S8;cases h:j0 l a;simp[h];simp[h,bq6 h]
theorem jp2(a b c d:Int):S8 l [a,b,c,d]=(j0 l a&&(j0 l b&&(j0 l c&&j0 l d))):=by
 unfold S8;cases h:j0 l a;simp[h];simp[h,bq6 h]
theorem jl9(w:World)(a b c:Int)(T:TypeId):c8 (w.alloc (.cells #[vi a,vi b,vi c] T)) (.slice (some (aD w.heap.size 0)) 3 3) [a,b,c]:=by
 refine⟨_,3,rfl,oc _,zm,fun i J=>⟨_,rfl,?_⟩⟩;match i,J with
 |0,_=>simp[go_sem,nth,Addr.add]
 |1,_=>simp[go_sem,nth,Addr.add]
 |2,_=>simp[go_sem,nth,Addr.add]
theorem ju3(w:World)(a b c d:Int)(T:TypeId):c8 (w.alloc (.cells #[vi a,vi b,vi c,vi d] T)) (.slice (some (aD w.heap.size 0)) 4 4) [a,b,c,d]:=by
 refine⟨_,4,rfl,oc _,zm,fun i J=>⟨_,rfl,?_⟩⟩;match i,J with
 |0,_=>simp[go_sem,nth,Addr.add]
 |1,_=>simp[go_sem,nth,Addr.add]
 |2,_=>simp[go_sem,nth,Addr.add]
 |3,_=>simp[go_sem,nth,Addr.add]
abbrev fc1(g o:LI)(a b s p:Int)(t q:LI)(n:Int):Ba:=(((((((((((cwB 1)++(⟨#[32]⟩:Ba))++(fgF g))++(⟨#[32,124,32]⟩:Ba))++(fsF g a))++(⟨#[32,97,110,100,32]⟩:Ba))++(fsF g b))++(⟨#[32,105,115,32]⟩:Ba))++(fsF g s))++(⟨#[32,112,101,114,105,111,100,32]⟩:Ba))++(fsF g p))
abbrev fc2(g o:LI)(a b s p:Int)(t q:LI)(n:Int):Ba:=(((((((cwB 2)++(⟨#[32]⟩:Ba))++(fgF g))++(⟨#[32,124,32]⟩:Ba))++(O6 t))++(⟨#[32,104,97,115,32]⟩:Ba))++(O6 q))
abbrev fc3(g o:LI)(a b s p:Int)(t q:LI)(n:Int):Ba:=(((((cwB 3)++(⟨#[32]⟩:Ba))++(fgF g))++(⟨#[32,124,32]⟩:Ba))++(O6 t))
abbrev fc4(g o:LI)(a b s p:Int)(t q:LI)(n:Int):Ba:=(((((((cwB 4)++(⟨#[32]⟩:Ba))++(fgF g))++(⟨#[32,124,32]⟩:Ba))++(fsF g a))++(⟨#[32,97,110,100,32]⟩:Ba))++(fsF g b))
abbrev fc5(g o:LI)(a b s p:Int)(t q:LI)(n:Int):Ba:=(((((((((cwB 5)++(⟨#[32]⟩:Ba))++(fgF g))++(⟨#[32,124,32]⟩:Ba))++(O6 t))++(⟨#[32,97,115,32]⟩:Ba))++(fgF o))++(⟨#[32,124,32]⟩:Ba))++(O6 q))
abbrev fc7(g o:LI)(a b s p:Int)(t q:LI)(n:Int):Ba:=(((((((((cwB 7)++(⟨#[32]⟩:Ba))++(fgF g))++(⟨#[32,124,32]⟩:Ba))++(fsF g a))++(⟨#[32,105,110,32]⟩:Ba))++(fsF g s))++(⟨#[32,112,101,114,105,111,100,32]⟩:Ba))++(fsF g p))
abbrev fc6(t:LI)(m:Int):Ba:=(((((cwB 6)++(⟨#[32]⟩:Ba))++(j8 m))++(⟨#[32,124,32]⟩:Ba))++(O6 t))
def fcF(k:Int)(g o:LI)(a b s p:Int)(t q:LI)(n:Int):Ba :=
 if k=1 then(bif S8 g [a,b,s,p]then fc1 g o a b s p t q n else⟨#[]⟩)else
 if k=2 then(bif d7 g then fc2 g o a b s p t q n else⟨#[]⟩)else
 if k=3 then(bif d7 g then fc3 g o a b s p t q n else⟨#[]⟩)else
 if k=4 then(bif S8 g [a,b]then fc4 g o a b s p t q n else⟨#[]⟩)else
 if k=5 then(bif (d7 g&&d7 o)then fc5 g o a b s p t q n else⟨#[]⟩)else
 if k=7 then(bif S8 g [a,s,p]then fc7 g o a b s p t q n else⟨#[]⟩)else
 if k=6 then fc6 t (G9 n)else⟨#[]⟩
section
variable {g o t q:LI} {a b s p n:Int} {v1 v2 v3 v4:Value} {w:World}
theorem ls3{x:Bool}(c:S8 g [a,b,s,p]=x):fcF 1 g o a b s p t q n=bif x then fc1 g o a b s p t q n else⟨#[]⟩:=by subst c;rfl
theorem ls4{x:Bool}(c:d7 g=x):fcF 2 g o a b s p t q n=bif x then fc2 g o a b s p t q n else⟨#[]⟩:=by subst c;rfl
theorem ls5{x:Bool}(c:d7 g=x):fcF 3 g o a b s p t q n=bif x then fc3 g o a b s p t q n else⟨#[]⟩:=by subst c;rfl
theorem ls6{x:Bool}(c:S8 g [a,b]=x):fcF 4 g o a b s p t q n=bif x then fc4 g o a b s p t q n else⟨#[]⟩:=by subst c;rfl
theorem ls7{x:Bool}(c:(d7 g&&d7 o)=x):fcF 5 g o a b s p t q n=bif x then fc5 g o a b s p t q n else⟨#[]⟩:=by subst c;rfl
theorem ls9{x:Bool}(c:S8 g [a,s,p]=x):fcF 7 g o a b s p t q n=bif x then fc7 g o a b s p t q n else⟨#[]⟩:=by subst c;rfl
theorem ls8{m:Int}(c:G9 n=m):fcF 6 g o a b s p t q n=fc6 t m:=by subst c;rfl
theorem lt1{k:Int}(h:¬(1<=k/\k<=7)):fcF k g o a b s p t q n=⟨#[]⟩:=by
 unfold fcF;rw[if_neg om,if_neg om,if_neg om,if_neg om,if_neg om,if_neg om,if_neg om]
theorem c3(g L:LI):(d7 g=false/\S8 g L=false)\/(d7 g=true/\S8 g L=false)\/(d7 g=true/\S8 g L=true):=by
 unfold S8;cases d7 g<;>cases L.all (j0 g)<;>simp
theorem c6(n:Int):(G9 n = -1/\n<99/\¬ -1<n)\/(G9 n=n/\n<99 /\ -1<n)\/(G9 n=99/\¬n<99/\¬n<99):=by unfold G9;omega
theorem fe(g:LI)(a:Int):∃x,Hid (j0 g a=x)/\(fsF g a).toList.isEmpty = !x:=⟨_,zh rfl,jt1 g a⟩
theorem ge(g:LI):∃x,Hid (d7 g=x)/\(fgF g).toList.isEmpty = !x:=⟨_,zh rfl,js6 g⟩
theorem la{p:World->Prop}{B:World}(h:∀W,Ext B W->p W)(U:World):p (Lat B U):=h _ (c9 B U)
theorem bd7(g o:LI)(a b s p:Int)(t q:LI)(n:Int):(cwB k).size<=6/\(fgF g).size<=600/\(fgF o).size<=600/\(O6 t).size<=600/\(O6 q).size<=600/\(fsF g a).size<=600/\(fsF g b).size<=600/\(fsF g s).size<=600/\(fsF g p).size<=600/\(j8 (G9 n)).size<=13 :=
 ⟨dt1 k,c80 g,c80 o,bm8 t,bm8 q,J6 g a,J6 g b,J6 g s,J6 g p,m9 (b21 n)⟩
theorem d32(a b s p n:Int)(h:Ints4 w v1 v2 v3 v4 g o t q):∃B,Hid (B=w.alloc (.cells #[vi k,v1,v2,vi a,vi b,vi s,vi p,v3,v4,vi n] 52))/\Ext w B/\Ext B B/\Hid (∀W,Ext B W->Ints4 W v1 v2 v3 v4 g o t q)/\(∀W,Ext B W->W.cell? (aD w.heap.size 0)=some (vi k))/\(∀W,Ext B W->W.cell? (aD w.heap.size 1)=some (v1))/\(∀W,Ext B W->W.cell? (aD w.heap.size 2)=some (v2))/\(∀W,Ext B W->W.cell? (aD w.heap.size 3)=some (vi a))/\(∀W,Ext B W->W.cell? (aD w.heap.size 4)=some (vi b))/\(∀W,Ext B W->W.cell? (aD w.heap.size 5)=some (vi s))/\(∀W,Ext B W->W.cell? (aD w.heap.size 6)=some (vi p))/\(∀W,Ext B W->W.cell? (aD w.heap.size 7)=some (v3))/\(∀W,Ext B W->W.cell? (aD w.heap.size 8)=some (v4))/\(∀W,Ext B W->W.cell? (aD w.heap.size 9)=some (vi n)):=by
 refine⟨_,zh rfl,(er w).alloc _,er _,zh fun W D=>h.ext ((((er w).alloc _)).trans D),?_,?_,?_,?_,?_,?_,?_,?_,?_,?_⟩;all_goals exact fun W D=>((oq w 52 #[vi k,v1,v2,vi a,vi b,vi s,vi p,v3,v4,vi n]).ext D).cell rfl
theorem db1(a b s p n:Int)(h:Ints4 w v1 v2 v3 v4 g o t q):∃B,Hid (B=w.alloc (.cells #[vi k,v1,v2,vi a,vi b,vi s,vi p,v3,v4,vi n] 52))/\∃wc,Hid (wc=B.alloc (.cells #[v1] 42))/\(∀W,Ext wc W->W.cell? (aD (w.heap.size+1) 0)=some v1)/\Ext w wc/\Ext wc wc/\Hid (∀W,Ext wc W->Ints4 W v1 v2 v3 v4 g o t q)/\(∀W,Ext wc W->W.cell? (aD w.heap.size 0)=some (vi k))/\(∀W,Ext wc W->W.cell? (aD w.heap.size 1)=some (v1))/\(∀W,Ext wc W->W.cell? (aD w.heap.size 2)=some (v2))/\(∀W,Ext wc W->W.cell? (aD w.heap.size 3)=some (vi a))/\(∀W,Ext wc W->W.cell? (aD w.heap.size 4)=some (vi b))/\(∀W,Ext wc W->W.cell? (aD w.heap.size 5)=some (vi s))/\(∀W,Ext wc W->W.cell? (aD w.heap.size 6)=some (vi p))/\(∀W,Ext wc W->W.cell? (aD w.heap.size 7)=some (v3))/\(∀W,Ext wc W->W.cell? (aD w.heap.size 8)=some (v4))/\(∀W,Ext wc W->W.cell? (aD w.heap.size 9)=some (vi n)):=by
 refine⟨_,zh rfl,_,zh rfl,?_,((er w).alloc _).alloc _,er _,zh fun W D=>h.ext ((((er w).alloc _).alloc _).trans D),?_,?_,?_,?_,?_,?_,?_,?_,?_,?_⟩;have:=d8 (w.alloc (.cells #[vi k,v1,v2,vi a,vi b,vi s,vi p,v3,v4,vi n] 52)) v1 42;rwa [show(w.alloc (.cells #[vi k,v1,v2,vi a,vi b,vi s,vi p,v3,v4,vi n] 52)).heap.size=w.heap.size+1 by simp]at this;all_goals exact fun W D=>(((oq w 52 #[vi k,v1,v2,vi a,vi b,vi s,vi p,v3,v4,vi n]).ext ((er _).alloc _)).ext D).cell rfl
end
theorem zz96{P:Prop}(h:P:=by go_ret;exact⟨j5 (v.o).symm,F.trans E⟩):P:=h
theorem lb5(a b s p n:Int)(V:k=1\/k=4\/k=7){g o t q:LI}{v1 v2 v3 v4:Value}{w:World}(h:Ints4 w v1 v2 v3 v4 g o t q):Calls Tryz.prog 101 #[CV k v1 v2 a b s p v3 v4 n] w (RE w (.string (fcF k g o a b s p t q n))):=by
 unfold CV;obtain⟨B,Z,F,E,I,R,l,j,m,G,J,u,A,z,C⟩:=d32 k a b s p n h;clear h;obtain⟨M,L,O,T,Q,W,d,c,S,Y⟩:=bd7 k g o a b s p t q n;obtain⟨x,H,U⟩:=fe g a;obtain⟨f,i,eb⟩:=fe g b;obtain⟨X,N,es⟩:=fe g s;obtain⟨P,K,ep⟩:=fe g p;have r:=zh (show S8 g [a,b,s,p]=(x&&(f&&(X&&P))) by rw[jp2,H.o,i.o,N.o,K.o]);have y:=zh (show S8 g [a,b]=(x&&f) by rw[bt8,H.o,i.o]);have D:=zh (show S8 g [a,s,p]=(x&&(X&&P)) by rw[jj6,H.o,N.o,K.o]);clear H i N K;rcases V with rfl|rfl|rfl;have v:=zh (ls3 (o:=o) (t:=t) (q:=q) (n:=n) r.o);cases x<;>cases f<;>cases X<;>cases P;rotate_left 16;have v:=zh (ls6 (o:=o) (s:=s) (p:=p) (t:=t) (q:=q) (n:=n) y.o);cases x<;>cases f;rotate_left 4;have v:=zh (ls9 (o:=o) (b:=b) (t:=t) (q:=q) (n:=n) D.o);cases x<;>cases X<;>cases P
 all_goals
  go_in
  go_wp2_with fail
  rw[<-Z.o]
  go_wp2_with(first|(go_at_call 209;refine cx (b48 _ _) E fun e E=>?_)|(go_at_call 44;first|((with_reducible refine cx (G7 _ _ _ (I.o _ E).g) E ?_);clear E;intro e E)|((with_reducible refine cx (G7 _ _ _ (I.o _ E).o) E ?_);clear E;intro e E))|(go_at_call 54;refine cx (F8 _ _ _ _ (I.o _ E).g) E fun e E=>?_))
  exact zz96
theorem jz1(a b s p n:Int)(V:k=2\/k=3\/k=5){g o t q:LI}{v1 v2 v3 v4:Value}{w:World}(h:Ints4 w v1 v2 v3 v4 g o t q):Calls Tryz.prog 101 #[CV k v1 v2 a b s p v3 v4 n] w (RE w (.string (fcF k g o a b s p t q n))):=by
 unfold CV;obtain⟨B,Z,F,E,H,f,i,j,m,u,D,r,A,y,z⟩:=d32 k a b s p n h;clear h;obtain⟨I,L,P,T,Q,Y,d,C,S,N⟩:=bd7 k g o a b s p t q n;obtain⟨x,G,eg⟩:=ge g;obtain⟨X,O,eo⟩:=ge o;have K:=zh (show(d7 g&&d7 o)=(x&&X) by rw[G.o,O.o]);rcases V with rfl|rfl|rfl;have v:=zh (ls4 (o:=o) (a:=a) (b:=b) (s:=s) (p:=p) (t:=t) (q:=q) (n:=n) G.o);cases x;rotate_left 2;have v:=zh (ls5 (o:=o) (a:=a) (b:=b) (s:=s) (p:=p) (t:=t) (q:=q) (n:=n) G.o);cases x;rotate_left 2;have v:=zh (ls7 (a:=a) (b:=b) (s:=s) (p:=p) (t:=t) (q:=q) (n:=n) K.o);cases x;rotate_left 1;cases X
 all_goals
  go_in
  go_wp2_with fail
  rw[<-Z.o]
  go_wp2_with(first|(go_at_call 209;refine cx (b48 _ _) E fun e E=>?_)|(go_at_call 44;first|((with_reducible refine cx (G7 _ _ _ (H.o _ E).g) E ?_);clear E;intro e E)|((with_reducible refine cx (G7 _ _ _ (H.o _ E).o) E ?_);clear E;intro e E))|(go_at_call 54;refine cx (F8 _ _ _ _ (H.o _ E).g) E fun e E=>?_)|(go_at_call 210;refine cx (b50 _ _ _ (H.o _ E).t) E fun e E=>?_))
  first|(go_ret;exact⟨j5 (v.o).symm,F.trans E⟩)|skip
 all_goals
  have c:=b21 n
  have M:=la i;have U:=la j;have J:=la A;have R:=la y
  refine wl E ?_;(repeat(go_big_quiet_step(first|(go_at_call 210;first|with_reducible exact oa (b50 _ _ _ (H.o _ (c9 B _)).t)|with_reducible exact oa (b50 _ _ _ (H.o _ (c9 B _)).q))|(go_at_call 44;with_reducible exact oa (G7 _ _ _ (H.o _ (c9 B _)).o))|(go_at_call 97;with_reducible exact oa (o8 _ c _)))));refine zd fun W E=>?_
  go_wp2_with fail
  exact zz96
theorem m00(a b s p n:Int)(V:k=6){g o t q:LI}{v1 v2 v3 v4:Value}{w:World}(h:Ints4 w v1 v2 v3 v4 g o t q):Calls Tryz.prog 101 #[CV k v1 v2 a b s p v3 v4 n] w (RE w (.string (fcF k g o a b s p t q n))):=by
 unfold CV;obtain⟨B,Z,F,E,I,f,i,j,m,y,z,r,u,v,x⟩:=d32 k a b s p n h;clear h;obtain⟨D,G,N,T,Q,X,d,S,P,C⟩:=bd7 k g o a b s p t q n;subst V;have c:=b21 n;rcases c6 n with⟨H,A,hB⟩|⟨H,A,hB⟩|⟨H,A,hB⟩
 all_goals
  rw[H]at C c
  have H:=zh H
  go_in
  go_wp2_with fail
  rw[<-Z.o]
  refine cx (b48 _ _) E fun e E=>?_
  go_wp2_with fail
  refine cx (G7 _ _ _ (I.o _ E).g) E fun e E=>?_
  go_wp2_with fail
  iterate 4 (refine cx (F8 _ _ _ _ (I.o _ E).g) E fun e E=>?_;go_wp2_with fail)
  have J:=la u;have K:=la x
  refine wl E ?_;(repeat(go_big_quiet_step(first|(go_at_call 210;first|with_reducible exact oa (b50 _ _ _ (I.o _ (c9 B _)).t)|with_reducible exact oa (b50 _ _ _ (I.o _ (c9 B _)).q))|(go_at_call 44;with_reducible exact oa (G7 _ _ _ (I.o _ (c9 B _)).o))|(go_at_call 97;with_reducible exact oa (o8 _ c _)))));refine zd fun W E=>?_
  go_wp2_with fail
  go_ret;exact⟨j5 (ls8 H.o).symm,F.trans E⟩
theorem m01(a b s p n:Int)(V:¬(1<=k/\k<=7)){g o t q:LI}{v1 v2 v3 v4:Value}{w:World}(h:Ints4 w v1 v2 v3 v4 g o t q):Calls Tryz.prog 101 #[CV k v1 v2 a b s p v3 v4 n] w (RE w (.string (fcF k g o a b s p t q n))):=by
 unfold CV;obtain⟨B,Z,F,E,H,f,i,j,l,u,z,r,A,x,y⟩:=d32 k a b s p n h;clear h;obtain⟨D,G,O,T,Q,W,d,C,S,N⟩:=bd7 k g o a b s p t q n;have v:=zh (lt1 (g:=g) (o:=o) (a:=a) (b:=b) (s:=s) (p:=p) (t:=t) (q:=q) (n:=n) V);have K:¬k=1:=om;have c:¬k=2:=om;have m:¬k=3:=om;have L:¬k=4:=om;have M:¬k=5:=om;have I:¬k=6:=om;have J:¬k=7:=om;clear V;go_in;go_wp2_with fail;rw[<-Z.o];go_wp2_with(first|(go_at_call 209;refine cx (b48 _ _) E fun e E=>?_)|(go_at_call 44;first|((with_reducible refine cx (G7 _ _ _ (H.o _ E).g) E ?_);clear E;intro e E)|((with_reducible refine cx (G7 _ _ _ (H.o _ E).o) E ?_);clear E;intro e E))|(go_at_call 54;refine cx (F8 _ _ _ _ (H.o _ E).g) E fun e E=>?_));exact zz96
theorem lh4(a b s p n:Int)(V:k=1\/k=4\/k=7){g o t q:LI}{v1 v2 v3 v4:Value}{w:World}(h:Ints4 w v1 v2 v3 v4 g o t q):Calls Tryz.prog 32 #[CV k v1 v2 a b s p v3 v4 n] w (RE w (.string (fcF k g o a b s p t q n))):=by
 unfold CV;have O:=h.g.op;obtain⟨d,Y,U,rfl,-,-,-⟩:=O;obtain⟨B,Z,wc,c,G,F,E,H,M,i,j,m,u,C,r,A,y,z⟩:=db1 k a b s p n h;clear h;obtain⟨J,L,R,T,Q,D,f,S,P,N⟩:=bd7 k g o a b s p t q n;have ew:(cwB k).toList.isEmpty=false:=dt2 om;rcases V with rfl|rfl|rfl;rcases c3 g [a,b,s,p]with⟨x,K⟩|⟨x,K⟩|⟨x,K⟩;iterate 3 (have I:=zh fun W=>ju3 W a b s p 3;have v:=zh (ls3 (o:=o) (t:=t) (q:=q) (n:=n) K);rotate_left 1)
 rcases c3 g [a,b]with⟨x,K⟩|⟨x,K⟩|⟨x,K⟩;iterate 3 (have I:=zh fun W=>b62 W a b 3;have v:=zh (ls6 (o:=o) (s:=s) (p:=p) (t:=t) (q:=q) (n:=n) K);rotate_left 1)
 rcases c3 g [a,s,p]with⟨x,K⟩|⟨x,K⟩|⟨x,K⟩;iterate 3 (have I:=zh fun W=>jl9 W a s p 3;have v:=zh (ls9 (o:=o) (b:=b) (t:=t) (q:=q) (n:=n) K);rotate_left 1)
 all_goals
  go_in
  go_wp2_with fail
  rw[<-Z.o,<-c.o]
  go_wp2_with(first|(go_at_call 89;refine cx (bc5 _ _) E fun e E=>?_)|(go_at_call 71;first|((with_reducible refine cx (I6 _ _ _ (H.o _ E).g) E ?_);clear E;intro e E)|((with_reducible refine cx (I6 _ _ _ (H.o _ E).o) E ?_);clear E;intro e E))|(go_at_call 92;first|((with_reducible refine cx (o9 _ _ _ (H.o _ E).g) E ?_);clear E;intro e E;try rw[x])|((with_reducible refine cx (o9 _ _ _ (H.o _ E).o) E ?_);clear E;intro e E;try rw[hxo]))|(go_at_call 93;refine cm (T4 _ _ _ _ _ ((H.o _ E).g.ext xq) (I.o _) K) fun e X=>?_;replace E:=E.trans (og xq X);clear X))
  first|(go_ret;exact⟨j5 (v.o).symm,F.trans E⟩)|skip
 all_goals
  have G1:=la G;have D1:=la i;have D2:=la j;have D3:=la m;have D4:=la u;have D5:=la C;have D6:=la r;have D7:=la A;have D8:=la y;have D9:=la z
  refine wl E ?_;(repeat(go_big_quiet_step(first|(go_at_call 91;first|with_reducible exact oa (bg7 _ _ _ (H.o _ (c9 wc _)).t)|with_reducible exact oa (bg7 _ _ _ (H.o _ (c9 wc _)).q))|(go_at_call 71;with_reducible exact oa (I6 _ _ _ (H.o _ (c9 wc _)).o))|(go_at_call 73;with_reducible exact oa (I7 _ _ _ _ (H.o _ (c9 wc _)).g))|(go_at_call 77;with_reducible exact oa (C0 _ (b21 n) _))|(go_at_call 90;with_reducible exact oT (bq8 _ _)))));refine zd fun W E=>?_
  go_wp2_with fail
  exact zz96
theorem l28(a b s p n:Int)(V:k=2\/k=3\/k=5\/k=6){g o t q:LI}{v1 v2 v3 v4:Value}{w:World}(h:Ints4 w v1 v2 v3 v4 g o t q):Calls Tryz.prog 32 #[CV k v1 v2 a b s p v3 v4 n] w (RE w (.string (fcF k g o a b s p t q n))):=by
 unfold CV;have O:=h.g.op;obtain⟨Y,K,I,rfl,-,-,-⟩:=O;obtain⟨B,Z,wc,c,G,F,E,H,f,i,j,m,u,C,r,A,y,z⟩:=db1 k a b s p n h;clear h;obtain⟨D,L,R,T,Q,X,d,S,P,N⟩:=bd7 k g o a b s p t q n;have ew:(cwB k).toList.isEmpty=false:=dt2 om;rcases V with rfl|rfl|rfl|rfl;have v:=zh (ls4 (g:=g) (o:=o) (a:=a) (b:=b) (s:=s) (p:=p) (t:=t) (q:=q) (n:=n) rfl);rotate_left 1;have v:=zh (ls5 (g:=g) (o:=o) (a:=a) (b:=b) (s:=s) (p:=p) (t:=t) (q:=q) (n:=n) rfl);rotate_left 1;have v:=zh (ls7 (g:=g) (o:=o) (a:=a) (b:=b) (s:=s) (p:=p) (t:=t) (q:=q) (n:=n) rfl);rotate_left 1;have v:=zh (ls8 (g:=g) (o:=o) (a:=a) (b:=b) (s:=s) (p:=p) (t:=t) (q:=q) (n:=n) rfl);rotate_left 1
 all_goals
  cases hxo:d7 o<;>cases x:d7 g
 all_goals
  try rw[x]at v
  try rw[hxo]at v
  go_in
  go_wp2_with fail
  rw[<-Z.o,<-c.o]
  go_wp2_with(first|(go_at_call 89;refine cx (bc5 _ _) E fun e E=>?_)|(go_at_call 71;first|((with_reducible refine cx (I6 _ _ _ (H.o _ E).g) E ?_);clear E;intro e E)|((with_reducible refine cx (I6 _ _ _ (H.o _ E).o) E ?_);clear E;intro e E))|(go_at_call 92;first|((with_reducible refine cx (o9 _ _ _ (H.o _ E).g) E ?_);clear E;intro e E;try rw[x])|((with_reducible refine cx (o9 _ _ _ (H.o _ E).o) E ?_);clear E;intro e E;try rw[hxo]))|(go_at_call 91;refine cx (bg7 _ _ _ (H.o _ E).t) E fun e E=>?_))
  first|(go_ret;exact⟨j5 (v.o).symm,F.trans E⟩)|skip
 all_goals
  have G1:=la G;have M:=la i;have D2:=la j;have D3:=la m;have D4:=la u;have D5:=la C;have D6:=la r;have J:=la A;have U:=la y;have D9:=la z
  refine wl E ?_;(repeat(go_big_quiet_step(first|(go_at_call 91;first|with_reducible exact oa (bg7 _ _ _ (H.o _ (c9 wc _)).t)|with_reducible exact oa (bg7 _ _ _ (H.o _ (c9 wc _)).q))|(go_at_call 71;with_reducible exact oa (I6 _ _ _ (H.o _ (c9 wc _)).o))|(go_at_call 73;with_reducible exact oa (I7 _ _ _ _ (H.o _ (c9 wc _)).g))|(go_at_call 77;with_reducible exact oa (C0 _ (b21 n) _))|(go_at_call 90;with_reducible exact oT (bq8 _ _)))));refine zd fun W E=>?_
  go_wp2_with fail
  exact zz96
theorem m05(a b s p n:Int)(V:¬(1<=k/\k<=7)){g o t q:LI}{v1 v2 v3 v4:Value}{w:World}(h:Ints4 w v1 v2 v3 v4 g o t q):Calls Tryz.prog 32 #[CV k v1 v2 a b s p v3 v4 n] w (RE w (.string (fcF k g o a b s p t q n))):=by
 unfold CV;have O:=h.g.op;obtain⟨A,K,R,rfl,-,-,-⟩:=O;obtain⟨B,Z,wc,c,m,F,E,H,f,i,j,l,z,D,r,u,x,y⟩:=db1 k a b s p n h;clear h;obtain⟨I,G,P,T,Q,W,d,C,S,N⟩:=bd7 k g o a b s p t q n;have v:=zh (lt1 (g:=g) (o:=o) (a:=a) (b:=b) (s:=s) (p:=p) (t:=t) (q:=q) (n:=n) V);have J:(cwB k).toList.isEmpty=true:=by rw[l48 V,pi];rfl
 have L:¬k=6:=om;clear V;go_in;go_wp2_with fail;rw[<-Z.o,<-c.o];go_wp2_with(first|(go_at_call 89;refine cx (bc5 _ _) E fun e E=>?_)|(go_at_call 71;first|((with_reducible refine cx (I6 _ _ _ (H.o _ E).g) E ?_);clear E;intro e E)|((with_reducible refine cx (I6 _ _ _ (H.o _ E).o) E ?_);clear E;intro e E))|(go_at_call 92;first|((with_reducible refine cx (o9 _ _ _ (H.o _ E).g) E ?_);clear E;intro e E;try rw[hxg])|((with_reducible refine cx (o9 _ _ _ (H.o _ E).o) E ?_);clear E;intro e E;try rw[hxo])));exact zz96
theorem V9(a b s p n:Int)(g o t q:LI)(v1 v2 v3 v4:Value)(w:World)(h:Ints4 w v1 v2 v3 v4 g o t q):Calls Tryz.prog 101 #[CV k v1 v2 a b s p v3 v4 n] w (RE w (.string (fcF k g o a b s p t q n))):=by
 rcases (by omega:(k=1\/k=4\/k=7)\/(k=2\/k=3\/k=5)\/(k=6)\/¬(1<=k/\k<=7))with V|V|V|V<;>first|exact lb5 _ _ _ _ _ _ V h|exact jz1 _ _ _ _ _ _ V h|exact m00 _ _ _ _ _ _ V h|exact m01 _ _ _ _ _ _ V h
theorem Y4(a b s p n:Int)(g o t q:LI)(v1 v2 v3 v4:Value)(w:World)(h:Ints4 w v1 v2 v3 v4 g o t q):Calls Tryz.prog 32 #[CV k v1 v2 a b s p v3 v4 n] w (RE w (.string (fcF k g o a b s p t q n))):=by
 rcases (by omega:(k=1\/k=4\/k=7)\/(k=2\/k=3\/k=5\/k=6)\/¬(1<=k/\k<=7))with V|V|V<;>first|exact lh4 _ _ _ _ _ _ V h|exact l28 _ _ _ _ _ _ V h|exact m05 _ _ _ _ _ _ V h
theorem j07(w:World)(h:c8 w u x)(M:m<2^24)(L:x.length<=24):Calls Tryz.prog 252 #[u,vi m] w fun e W=>∃p,e=.returned p/\Own 3 w W p (S5 x m)/\Ext w W:=by
 have O:=l9 (TI:=3) (n:=0) om (er w) [] rfl;have E:=(er w).alloc (.cells #[] 3);obtain⟨Q,c,r,rfl,N,d,l⟩:=h.op;have I:=j2 (c:=c) elI szI d;clear d h;go_in;go_wp2_with fail;go_loopw [5,11] (fun p i wr=>∃k:Nat,k<=x.length/\i=vi k/\Own 3 w wr p (L8 x m k)/\Ext w wr) (fun _ i _=>x.length-(intOf i).toNat);exact⟨0,om,rfl,by have e:L8 x m 0=[]:=rfl;rw[e];exact O,E⟩
 clear E O;obtain⟨k,V,rfl,O,E⟩:=hrel;by_cases U:k<x.length
 . have Z:=l k _ U E;have P:=br0 x m k;have S:=R0 (a:=m) (n:=k) om;have B:=b16 (a:=m) (n:=k) om om;cases C:m.testBit k
   . rw[C]at B;have H:=zh (cj2 (xs:=x) C);go_wp2_with(first|(go_at_call 205;refine(T2 m k M om _ C).mono ?_;rintro e W⟨rfl,rfl⟩));go_roundw;exact⟨k+1,om,zg,by rw[H.o];exact O,E⟩;exact zm1
   rw[C]at B;have H:=zh (c97 (xs:=x) C);go_wp2_with(first|(go_at_call 205;refine(T2 m k M om _ C).mono ?_;rintro e W⟨rfl,rfl⟩)|(at_builtin;refine p6 slI rfl _ _ rfl w _ _ _ _ O E om rfl rfl ?_;intro v1 G T z));go_roundw;exact⟨k+1,om,zg,by rw[H.o];exact T,z⟩;exact zm1
 have K:k=x.length:=om;subst K;go_wp2_with fail;go_ret;exact⟨_,rfl,O,E⟩
theorem bv4(w:World)(h:c8 w u (b9 X))(H:m<2^24)(l:X.length<=24):Calls Tryz.prog 252 #[u,vi m] w fun e W=>∃p,e=.returned p/\Own 3 w W p (b9 (B9 X m))/\Ext w W:=by
 have:=j07 u _ m w h H (by rw[d9];exact l);rwa [d54]at this
theorem j91(w:World)(h:c8 w u x)(M:m<2^24)(L:x.length<=24):Calls Tryz.prog 222 #[u,vi m] w fun e W=>∃p,e=.returned p/\Own 3 w W p (S5 x m)/\Ext w W:=by
 have O:=l9 (TI:=3) (n:=0) om (er w) [] rfl;have E:=(er w).alloc (.cells #[] 3);obtain⟨Q,c,r,rfl,N,d,l⟩:=h.op;have I:=j2 (c:=c) elI szI d;clear d h;go_in;go_wp2_with fail;go_loopw [5,6] (fun p i wr=>∃k:Nat,k<=x.length/\i=vi k/\Own 3 w wr p (L8 x m k)/\Ext w wr) (fun _ i _=>x.length-(intOf i).toNat);exact⟨0,om,rfl,by have e:L8 x m 0=[]:=rfl;rw[e];exact O,E⟩
 clear E O;obtain⟨k,V,rfl,O,E⟩:=hrel;by_cases U:k<x.length
 . have Z:=l k _ U E;have P:=br0 x m k;have S:=R0 (a:=m) (n:=k) om;have B:=b16 (a:=m) (n:=k) om om;cases C:m.testBit k
   . rw[C]at B;have H:=zh (cj2 (xs:=x) C);go_wp2_with(first|(fail));go_roundw;exact⟨k+1,om,zg,by rw[H.o];exact O,E⟩;exact zm1
   rw[C]at B;have H:=zh (c97 (xs:=x) C);go_wp2_with(first|(fail)|(at_builtin;refine p6 slI rfl _ _ rfl w _ _ _ _ O E om rfl rfl ?_;intro v1 G T z));go_roundw;exact⟨k+1,om,zg,by rw[H.o];exact T,z⟩;exact zm1
 have K:k=x.length:=om;subst K;go_wp2_with fail;go_ret;exact⟨_,rfl,O,E⟩
theorem bm6(w:World)(h:c8 w u (b9 X))(H:m<2^24)(l:X.length<=24):Calls Tryz.prog 222 #[u,vi m] w fun e W=>∃p,e=.returned p/\Own 3 w W p (b9 (B9 X m))/\Ext w W:=by
 have:=j91 u _ m w h H (by rw[d9];exact l);rwa [d54]at this
theorem zz103{P:Prop}(h:P:=by go_wp2_with fail;go_ret;exact⟨o3 (by rw[oz]),F.trans E⟩):P:=h
theorem ba5(w:World)(h:c8 w v l)(A:c8 w u (b9 X))(R:Hid (d7 l=true))(y:Hid (∀x∈X,x<24)):Calls Tryz.prog 259 #[.agg #[v],u] w (RE w (vi (tot l X:Nat))):=by
 obtain⟨B,Z,F,C,H,E,-⟩:=m04 42 h;clear h;have N:=A.ext F;have J:X.length<=17592186044416:=by obtain⟨_,_,_,_,D,_⟩:=A;simpa[d9]using D
 obtain⟨Q,c,r,rfl,d,L⟩:=N.nats;have I:=j2 (c:=c) elI szI d;clear d A N;go_in;go_wp2_with fail;rw[<-Z.o];go_loopw [5,10] (fun s i wr=>∃k:Nat,k<=X.length/\i=vi k/\s=vi (tot l (X.take k):Nat)/\Ext B wr) (fun _ i _=>X.length-(intOf i).toNat);exact⟨0,om,rfl,rfl,E⟩
 clear E;obtain⟨k,V,rfl,rfl,E⟩:=hrel;by_cases U:k<X.length
 . have K:=y.o _ (m7 U);have G:=bo1 R.o (X.take k);have T:=zh (bl7 l (X.take k) (d5 X k));have M:=zh (K9 X k U);have f:=L k _ U E;have O:=C _ E;go_wp2_with(first|(go_at_call 271;refine cx (O7 _ _ _ _ _ (H _ E) (R) (om) (om)) E fun e E=>?_));go_wp2_with fail;go_roundw;exact⟨k+1,om,zg,by rw[M.o,T.o],E⟩;exact zm1
 have z:k=X.length:=om;subst z;exact zz103
theorem b63(w:World)(h:c8 w v l)(A:c8 w u (b9 X))(R:Hid (d7 l=true))(y:Hid (∀x∈X,x<24)):Calls Tryz.prog 116 #[.agg #[v],u] w (RE w (vi (tot l X:Nat))):=by
 obtain⟨B,Z,F,C,H,E,-⟩:=m04 42 h;clear h;have N:=A.ext F;have P:X.length<=17592186044416:=by obtain⟨_,_,_,_,G,_⟩:=A;simpa[d9]using G
 obtain⟨Q,c,S,rfl,d,L⟩:=N.nats;have Y:=j2 (c:=c) elI szI d;clear d A N;go_in;go_wp2_with fail;rw[<-Z.o];go_loopw [5,6] (fun s i wr=>∃k:Nat,k<=X.length/\i=vi k/\s=vi (tot l (X.take k):Nat)/\Ext B wr) (fun _ i _=>X.length-(intOf i).toNat);exact⟨0,om,rfl,rfl,E⟩
 clear E;obtain⟨k,V,rfl,rfl,E⟩:=hrel;by_cases U:k<X.length
 . have K:=y.o _ (m7 U);have J:=bo1 R.o (X.take k);have T:=zh (bl7 l (X.take k) (d5 X k));have M:=zh (K9 X k U);have f:=fun I=>L k _ U (E.trans (c9 wr I));have O:=fun I=>C _ (E.trans (c9 wr I));have r:=sh E H;have z:=E;clear E;have E:=er wr;go_wp2_with fail;(refine d6 (wr) (by kernel_rfl) (by kernel_rfl) E ?_);(repeat(go_big_quiet_step(first|(go_at_call 220;exact oa (G8 _ _ _ _ _ (r _ (c9 wr _)) R om om)))));(refine wpQuiet_nil ?_);(intro W e);(replace E:=j4 e);(clear e);replace E:=z.trans E;go_wp2_with fail;go_roundw;exact⟨k+1,om,zg,by rw[M.o,T.o],E⟩;exact zm1
 have D:k=X.length:=om;subst D;exact zz103
theorem j22{n:Nat}(h:n<=12):pw n<=4096:=ot (n:=2) om h
theorem bt5(k:Nat)(w:World)(h:c8 w v l)(J:c8 w u (b9 X))(S:q8 l (b9 X)=true)(hI:1<=k)(hK:k<=X.length):Calls Tryz.prog 261 #[.agg #[v],u,vi k] w fun e P=>∃p,e=.returned (.tuple #[p,.bool (bl9 l X k)])/\Own 3 w P p (b9 (d09 l X k))/\Ext w P:=by
 obtain⟨B,Z,F,C,H,E,Ha⟩:=m04 42 h;clear h;obtain⟨X',e1,-,hq,Y,hl⟩:=I9 S;obtain rfl:X=X':=by
  have:∀(A r:LN),b9 A=b9 r->A=r:=fun A r e=>by
   have:=congrArg (List.map Int.toNat) e
   simpa[b9,Function.comp_def]using this
  exact this _ _ e1
 have Hl:=zh hl;have R:=zh Y;have hp:=j22 hq;have hH:=o6 (n:=X.length) om;have Hu:Hid (∀W,Ext B W->c8 W u (b9 X)):=zh fun W D=>J.ext (F.trans D);obtain⟨Q,c,ar,rfl,hr,hf⟩:=J.nats;have hn:inB (k:Int) 1 (X.length:Int)=true:=V2.2 om;have L:=C B E;have Ht:=zh (fun (m:Nat) a b c d=>lz1 (l:=l) (X:=X) (k:=k) (m:=m) a b c d);have He:=zh (fun a=>lf1 (l:=l) (X:=X) (k:=k) a);clear hl Y e1 hr hf J;go_in;go_wp2_with fail;rw[<-Z.o];go_wp2_with(first|(go_at_call 172;refine cx (F6 _ _ _ _ _ (H _ E) (Hu.o _ E) S) E fun P E=>?_)|(go_at_call 168;refine(H8 _ _ _ _).mono ?_;rw[hn];rintro e P⟨rfl,rfl⟩));clear L S hn;go_loopw [24] (fun i wr=>∃m:Nat,m<=pw X.length/\i=vi m/\(∀j,j<m->¬(cnt j=k/\tot l (B9 X j)=0))/\Ext B wr) (fun i _=>pw X.length-(intOf i).toNat);exact⟨0,om,rfl,om,E⟩
 clear E;obtain⟨m,hm,rfl,ho,E⟩:=hrel;have N:=zh ho;clear ho;by_cases U:m<pw X.length
 . have M:m<2^24:=om;have hJ:=p8 m;have I:=sh E C;have hw:=sh E H;have Hw:Hid (∀W,Ext wr W->c8 W (.slice Q X.length c) (b9 X)):=zh fun W D=>Hu.o W (E.trans D);have z:=E;clear E;have E:=er wr;by_cases T:cnt m=k
   . have hk:((cnt m:Int) == (k:Int))=true:=(by rw[T];simp);by_cases y:tot l (B9 X m)=0
     . have f:=zh (Ht.o m U N.o T y);have hy:((tot l (B9 X m):Int) == 0)=true:=(by rw[y];simp);have L:=I wr E;clear T y;go_wp2_with fail;have hD:=(er (wr)).drew;(first|(go_region_held3 (fun W=>Ext (wr) W/\W.cell? (aD w.heap.size 0)=some v) (exact⟨xq,I _ xq⟩) (first|(go_at_call 78;((with_reducible refine od (Calls.ext_of_same (C6 _ M _)) ?_);rintro e we⟨rfl,ha⟩;have hA:=og (a:=wr) xq ha))|(go_at_call 252;((with_reducible refine od (bv4 _ _ _ _ (Hw.o _ xq) M om) ?_);rintro e wd⟨vP,rfl,hP,V⟩;have hz:=og (a:=wr) xq V))|(go_at_call 259;((with_reducible refine od (ba5 _ _ _ _ _ (hw _ xq) hP.ints R (zh fun x K=>Hl.o x (b22 K))) ?_);rintro e wa⟨rfl,he⟩;have hG:=og (a:=wr) xq he))))|(fail "the region with calls"));have G:Ext wr wa:=(by repeat(first|assumption|exact er _|(apply pA;assumption)|apply pB|apply oQ));go_wp2_with fail;refine(bv4 _ _ _ _ (Hw.o _ G) M om).mono ?_;rintro e w5⟨p5,rfl,hi,hh⟩;go_wp2_with fail;exact br (.tuple #[p5,.bool true]) ⟨_,by rw[f.o.2.1],by rw[f.o.1];exact hi.mono (F.trans (z.trans G)),F.trans (z.trans (G.trans hh))⟩
     have Hq:=zh (fun e:cnt m=k/\tot l (B9 X m)=0=>y e.2);have hy:((tot l (B9 X m):Int) == 0)=false:=zso;have L:=I wr E;clear T y;go_wp2_with fail;have hD:=(er (wr)).drew;(first|(go_region_held3 (fun W=>Ext (wr) W/\W.cell? (aD w.heap.size 0)=some v) (exact⟨xq,I _ xq⟩) (first|(go_at_call 78;((with_reducible refine od (Calls.ext_of_same (C6 _ M _)) ?_);rintro e we⟨rfl,ha⟩;have hA:=og (a:=wr) xq ha))|(go_at_call 252;((with_reducible refine od (bv4 _ _ _ _ (Hw.o _ xq) M om) ?_);rintro e wd⟨vP,rfl,hP,V⟩;have hz:=og (a:=wr) xq V))|(go_at_call 259;((with_reducible refine od (ba5 _ _ _ _ _ (hw _ xq) hP.ints R (zh fun x K=>Hl.o x (b22 K))) ?_);rintro e wa⟨rfl,he⟩;have hG:=og (a:=wr) xq he))))|(fail "the region with calls"));have G:Ext wr wa:=(by repeat(first|assumption|exact er _|(apply pA;assumption)|apply pB|apply oQ));go_wp2_with fail;go_roundw;exact⟨m+1,om,zg,fun j hj=>by by_cases e:j=m;(subst e;exact Hq.o);exact N.o j om,z.trans G⟩;exact zm1
   have Hq:=zh (fun e:cnt m=k/\tot l (B9 X m)=0=>T e.1);have hk:((cnt m:Int) == (k:Int))=false:=zso;have hL:=fun UU=>I _ (c9 wr UU);clear T;go_wp2_with fail;refine wl E ?_;(repeat(go_big_quiet_step(first|(go_at_call 78;exact oT (C6 _ (M) _)))));refine zd fun W E=>?_;go_wp2_with fail;go_roundw;exact⟨m+1,om,zg,fun j hj=>by by_cases e:j=m;(subst e;exact Hq.o);exact N.o j om,z.trans E⟩;exact zm1
 have hC:m=pw X.length:=om;subst hC;have f:=zh (He.o N.o);have O:Own 3 wr (wr.alloc (.cells #[] 3)) (.slice (some (aD wr.heap.size 0)) 0 0) (b9 []):=l9 (TI:=3) (n:=0) om (er wr) [] rfl;go_wp2_with fail;exact br (.tuple #[.slice (some (aD wr.heap.size 0)) 0 0,.bool false]) ⟨_,by rw[f.o.2.1],by rw[f.o.1];exact O.mono (F.trans E),F.trans (E.alloc _)⟩
end Go.Zz
