/- The search for a first largest set: the references. Sets without sums: both. -/
import Derived.Test.YtjhoafjeopcheaaGreatGr22
set_option linter.all false
set_option maxHeartbeats 2000000
set_option maxRecDepth 8000
namespace Go.Zz
open Go.RowKit Go.Proofs
variable(v:Value)(l:LI)(P:Nat->Bool)(b B:Nat)(a:Int)(w:World){m:Nat}
theorem dw4(N:Nat)(n:N<=24)(f b fr k:Nat)(C:b<2^24):fsK P N f b fr k<2^24:=by
 unfold fsK;have:∀(L:LN) (r:Nat),r<2^24->(∀x∈L,x<24)->L.foldl (fun (e x:Nat)=>if cnt e<cnt (fsS P N f (b ||| 2^x) (x+1))then fsS P N f (b ||| 2^x) (x+1)else e) r<2^24:=by
  intro L;induction L with
  |nil=>intro r h _;exact h
  |cons x L ih =>
   intro r h H;rw[oR];refine ih _ ?_ fun y Y=>H y (by simp[Y]);split
   . exact d36 P N n f _ _ (ox C (oJ om (H x zm)))
   . exact h
 refine this _ b C fun x K=>?_;have o:=(qK.1 K).2;have:=L7 (dc0 P N b fr) o;omega
theorem zz23{P:Prop}(h:P:=by clear p;go_wp2_with(first|(go_at_call 103;refine cm O fun G z=>?_;have S:=E.trans z)|(go_at_call 131;refine cm (c _ z) fun m I=>?_;have r:=z.trans I;have q:=E.trans r;skip)|(go_at_call 216;refine cm (K _ r) fun w3 L=>?_;have t:=q.trans L)|(go_at_call 125;with_reducible refine od (hc _) ?_;rintro A e⟨rfl,rfl⟩)|(go_at_call 125;with_reducible refine od (he _) ?_;rintro A e⟨rfl,rfl⟩));go_roundw;exact⟨k+1,om,om,zg,by rw[J.o],t⟩;exact zm1):P:=h
theorem zz81{P:Prop}(h:P:=by have u:k=ord l:=om;have J:=zh (show fsS P (ord l) (f+1) b fr=fsK P (ord l) f b fr k by rw[He.o,u]);clear u;go_wp2_with(go_at_call 103;refine cm O fun G z=>?_);go_ret;exact⟨o3 (by rw[J.o]),F.trans (E.trans z)⟩):P:=h
theorem zz155{P:Prop}(h:P:=by go_roundw;exact⟨k+1,om,om,zg,by rw[J.o],q⟩;exact zm1):P:=h
theorem ja4(R:Hid (d7 l=true))(HP:Hid (∀W b,c8 W v l->b<2^ord l->Calls Tryz.prog 131 #[.agg #[v],vi (b:Nat)] W (RE W (.bool (P b))))):∀(f b fr:Nat) (w:World),c8 w v l->ord l<fr+f->fr<=ord l->b<2^fr ->
 Calls Tryz.prog 216 #[.agg #[v],vi b,vi fr] w (RE w (vi (fsS P (ord l) f b fr:Nat))):=by
 intro f;induction f with
 |zero=>intro b fr w h hf V;omega
 | succ f ih =>
  intro b fr w h hf V hh;have X:=l8 R.o;have hj:=E7 R.o;have T:b<2^24:=nlt hh (ot om om);obtain⟨B,Z,F,C,H,E,Hz⟩:=m04 42 h;clear h;have Hh:=zh ih;clear ih;have He:Hid (fsS P (ord l) (f+1) b fr=fsK P (ord l) f b fr (ord l)):=zh (db5 X.2 f b fr);have Ht:=zh (cg7 P (ord l) f b fr);have HB:=zh (fun k=>dw4 P (ord l) X.2 f b fr k T);go_in;go_wp2_with fail;rw[<-Z.o];go_loopw [7,8] (fun bv x wr=>∃k:Nat,fr<=k/\k<=ord l/\x=vi k/\bv=vi (fsK P (ord l) f b fr k:Nat)/\Ext B wr) (fun _ x _=>ord l-(intOf x).toNat);exact⟨fr,oc _,V,rfl,by rw[Ht.o],E⟩
  case round =>
   clear E;obtain⟨k,g,hn,rfl,rfl,E⟩:=hrel;have ha:=HB.o k;have O:=o4 v l wr (H _ E) R;by_cases U:k<ord l
   . have hi:k<24:=om;have hl:=o6 (n:=k) om;have hm:=H9 T hi;have a:b ||| 2^k<2^(k+1):=ox (nlt hh (ot om om)) (oJ om om)
     have j:b ||| 2^k<2^ord l:=nlt a (ot om om)
     have c:=fun W (D:Ext wr W)=>HP.o W (b ||| 2^k) (H _ (E.trans D)) j;have K:=fun W (D:Ext wr W)=>Hh.o (b ||| 2^k) (k+1) W (H _ (E.trans D)) om om a;rw[show((k+1:Nat):Int)=(k:Int)+1 by omega]at K;obtain⟨Y,y⟩:=nq (fsS P (ord l) f (b ||| 2^k) (k+1));have hk:Y<2^24:=(by rw[y];exact d36 P (ord l) X.2 f _ _ (nlt j hj));obtain⟨s,M⟩:=nq (fsK P (ord l) f b fr k);have d:=zh (fun h=>dw5 (P:=P) (N:=ord l) (f:=f) (b:=b) (fr:=fr) (k:=k) h);have Ho:=zh (fun h=>cw5 (P:=P) (N:=ord l) (f:=f) (b:=b) (fr:=fr) (k:=k) U g h);have i:=zh (fun h=>cw4 (P:=P) (N:=ord l) (f:=f) (b:=b) (fr:=fr) (k:=k) U g h);rw[<-M,<-y]at Ho i;rw[<-M]at d ha|-;rw[<-y]at K;have hc:=fun W=>o7 Y hk W;have he:=fun W=>o7 s ha W;have hp:=p8 s;have ho:=p8 Y;clear y M a j;cases p:P (b ||| 2^k)
     . have J:=zh (d.o p);rw[p]at c;clear p;go_wp2_with(first|(go_at_call 103;refine cm O fun G z=>?_;have S:=E.trans z)|(go_at_call 131;refine cm (c _ z) fun m I=>?_;have r:=z.trans I;have q:=E.trans r;skip));exact zz155
     . rw[p]at c;by_cases Q:cnt s<cnt Y
       . have J:=zh (Ho.o p Q);exact zz23
       . have J:=zh (i.o p Q);exact zz23
   . exact zz81
theorem zz24{P:Prop}(h:P:=by clear p;go_wp2_with(first|(go_at_call 103;refine cm O fun G z=>?_;have S:=E.trans z)|(go_at_call 230;refine cm (c _ z) fun m I=>?_;have r:=z.trans I;have q:=E.trans r;skip)|(go_at_call 217;refine cm (K _ r) fun w3 L=>?_;have t:=q.trans L)|(go_at_call 125;with_reducible refine od (hc _) ?_;rintro A e⟨rfl,rfl⟩)|(go_at_call 125;with_reducible refine od (he _) ?_;rintro A e⟨rfl,rfl⟩));go_roundw;exact⟨k+1,om,om,zg,by rw[J.o],t⟩;exact zm1):P:=h
theorem jn5(R:Hid (d7 l=true))(HP:Hid (∀W b,c8 W v l->b<2^ord l->Calls Tryz.prog 230 #[.agg #[v],vi (b:Nat)] W (RE W (.bool (P b))))):∀(f b fr:Nat) (w:World),c8 w v l->ord l<fr+f->fr<=ord l->b<2^fr ->
 Calls Tryz.prog 217 #[.agg #[v],vi b,vi fr] w (RE w (vi (fsS P (ord l) f b fr:Nat))):=by
 intro f;induction f with
 |zero=>intro b fr w h hf V;omega
 | succ f ih =>
  intro b fr w h hf V hh;have X:=l8 R.o;have hj:=E7 R.o;have T:b<2^24:=nlt hh (ot om om);obtain⟨B,Z,F,C,H,E,Hz⟩:=m04 42 h;clear h;have Hh:=zh ih;clear ih;have He:Hid (fsS P (ord l) (f+1) b fr=fsK P (ord l) f b fr (ord l)):=zh (db5 X.2 f b fr);have Ht:=zh (cg7 P (ord l) f b fr);have HB:=zh (fun k=>dw4 P (ord l) X.2 f b fr k T);go_in;go_wp2_with fail;rw[<-Z.o];go_loopw [7,8] (fun bv x wr=>∃k:Nat,fr<=k/\k<=ord l/\x=vi k/\bv=vi (fsK P (ord l) f b fr k:Nat)/\Ext B wr) (fun _ x _=>ord l-(intOf x).toNat);exact⟨fr,oc _,V,rfl,by rw[Ht.o],E⟩
  case round =>
   clear E;obtain⟨k,g,hn,rfl,rfl,E⟩:=hrel;have ha:=HB.o k;have O:=o4 v l wr (H _ E) R;by_cases U:k<ord l
   . have hi:k<24:=om;have hl:=o6 (n:=k) om;have hm:=H9 T hi;have a:b ||| 2^k<2^(k+1):=ox (nlt hh (ot om om)) (oJ om om)
     have j:b ||| 2^k<2^ord l:=nlt a (ot om om)
     have c:=fun W (D:Ext wr W)=>HP.o W (b ||| 2^k) (H _ (E.trans D)) j;have K:=fun W (D:Ext wr W)=>Hh.o (b ||| 2^k) (k+1) W (H _ (E.trans D)) om om a;rw[show((k+1:Nat):Int)=(k:Int)+1 by omega]at K;obtain⟨Y,y⟩:=nq (fsS P (ord l) f (b ||| 2^k) (k+1));have hk:Y<2^24:=(by rw[y];exact d36 P (ord l) X.2 f _ _ (nlt j hj));obtain⟨s,M⟩:=nq (fsK P (ord l) f b fr k);have d:=zh (fun h=>dw5 (P:=P) (N:=ord l) (f:=f) (b:=b) (fr:=fr) (k:=k) h);have Ho:=zh (fun h=>cw5 (P:=P) (N:=ord l) (f:=f) (b:=b) (fr:=fr) (k:=k) U g h);have i:=zh (fun h=>cw4 (P:=P) (N:=ord l) (f:=f) (b:=b) (fr:=fr) (k:=k) U g h);rw[<-M,<-y]at Ho i;rw[<-M]at d ha|-;rw[<-y]at K;have hc:=fun W=>o7 Y hk W;have he:=fun W=>o7 s ha W;have hp:=p8 s;have ho:=p8 Y;clear y M a j;cases p:P (b ||| 2^k)
     . have J:=zh (d.o p);rw[p]at c;clear p;go_wp2_with(first|(go_at_call 103;refine cm O fun G z=>?_;have S:=E.trans z)|(go_at_call 230;refine cm (c _ z) fun m I=>?_;have r:=z.trans I;have q:=E.trans r;skip));exact zz155
     . rw[p]at c;by_cases Q:cnt s<cnt Y
       . have J:=zh (Ho.o p Q);exact zz24
       . have J:=zh (i.o p Q);exact zz24
   . exact zz81
theorem zz18{P:Prop}(h:P:=by clear p;go_wp2_with(first|(go_at_call 103;refine cm O fun G z=>?_;have i:=E.trans z)|(go_at_call 231;refine(c _ z).mono ?_;rintro V u⟨n,rfl,m,I⟩;have r:=z.trans I;have q:=E.trans r;simp only[Bool.not_true]at m)|(go_at_call 218;refine cm (K _ r) fun w3 L=>?_;have t:=q.trans L)|(go_at_call 125;with_reducible refine od (he _) ?_;rintro A Q⟨rfl,rfl⟩)|(go_at_call 125;with_reducible refine od (hh _) ?_;rintro A Q⟨rfl,rfl⟩));go_roundw;exact⟨k+1,om,om,zg,by rw[J.o],t⟩;exact zm1):P:=h
theorem jz4(R:Hid (d7 l=true))(HP:Hid (∀W b,c8 W v l->b<2^ord l->Calls Tryz.prog 231 #[.agg #[v],vi (b:Nat)] W fun e Q=>∃n:Int,e=.returned (vi n)/\(n != 0) = !(P b)/\Ext W Q)):∀(f b fr:Nat) (w:World),c8 w v l->ord l<fr+f->fr<=ord l->b<2^fr ->
 Calls Tryz.prog 218 #[.agg #[v],vi b,vi fr] w (RE w (vi (fsS P (ord l) f b fr:Nat))):=by
 intro f;induction f with
 |zero=>intro b fr w h hf hr;omega
 | succ f ih =>
  intro b fr w h hf hr hi;have X:=l8 R.o;have hk:=E7 R.o;have ha:b<2^24:=nlt hi (ot om om);obtain⟨B,Z,F,C,H,E,Hz⟩:=m04 42 h;clear h;have Hh:=zh ih;clear ih;have He:Hid (fsS P (ord l) (f+1) b fr=fsK P (ord l) f b fr (ord l)):=zh (db5 X.2 f b fr);have Ht:=zh (cg7 P (ord l) f b fr);have HB:=zh (fun k=>dw4 P (ord l) X.2 f b fr k ha);go_in;go_wp2_with fail;rw[<-Z.o];go_loopw [7,8] (fun bv x wr=>∃k:Nat,fr<=k/\k<=ord l/\x=vi k/\bv=vi (fsK P (ord l) f b fr k:Nat)/\Ext B wr) (fun _ x _=>ord l-(intOf x).toNat);exact⟨fr,oc _,hr,rfl,by rw[Ht.o],E⟩
  case round =>
   clear E;obtain⟨k,g,hp,rfl,rfl,E⟩:=hrel;have hc:=HB.o k;have O:=o4 v l wr (H _ E) R;by_cases U:k<ord l
   . have hj:k<24:=om;have hm:=o6 (n:=k) om;have ho:=H9 ha hj;have a:b ||| 2^k<2^(k+1):=ox (nlt hi (ot om om)) (oJ om om)
     have j:b ||| 2^k<2^ord l:=nlt a (ot om om)
     have c:=fun W (D:Ext wr W)=>HP.o W (b ||| 2^k) (H _ (E.trans D)) j;have K:=fun W (D:Ext wr W)=>Hh.o (b ||| 2^k) (k+1) W (H _ (E.trans D)) om om a;rw[show((k+1:Nat):Int)=(k:Int)+1 by omega]at K;obtain⟨Y,y⟩:=nq (fsS P (ord l) f (b ||| 2^k) (k+1));have hl:Y<2^24:=(by rw[y];exact d36 P (ord l) X.2 f _ _ (nlt j hk));obtain⟨s,M⟩:=nq (fsK P (ord l) f b fr k);have d:=zh (fun h=>dw5 (P:=P) (N:=ord l) (f:=f) (b:=b) (fr:=fr) (k:=k) h);have Ho:=zh (fun h=>cw5 (P:=P) (N:=ord l) (f:=f) (b:=b) (fr:=fr) (k:=k) U g h);have Ha:=zh (fun h=>cw4 (P:=P) (N:=ord l) (f:=f) (b:=b) (fr:=fr) (k:=k) U g h);rw[<-M,<-y]at Ho Ha;rw[<-M]at d hc|-;rw[<-y]at K;have he:=fun W=>o7 Y hl W;have hh:=fun W=>o7 s hc W;have ht:=p8 s;have hs:=p8 Y;clear y M a j;cases p:P (b ||| 2^k)
     . have J:=zh (d.o p);rw[p]at c;clear p;go_wp2_with(first|(go_at_call 103;refine cm O fun G z=>?_;have i:=E.trans z)|(go_at_call 231;refine(c _ z).mono ?_;rintro V u⟨n,rfl,m,I⟩;have r:=z.trans I;have q:=E.trans r;simp only[Bool.not_false]at m));exact zz155
     . rw[p]at c;by_cases S:cnt s<cnt Y
       . have J:=zh (Ho.o p S);exact zz18
       . have J:=zh (Ha.o p S);exact zz18
   . have T:k=ord l:=om;have J:=zh (show fsS P (ord l) (f+1) b fr=fsK P (ord l) f b fr k by rw[He.o,T]);clear T;go_wp2_with(go_at_call 103;refine cm O fun G z=>?_);go_ret;exact⟨o3 (by rw[J.o]),F.trans (E.trans z)⟩
theorem cs7(a:Nat)(w:World)(h:c8 w v l)(R:Hid (d7 l=true))(A:a<2^24):Calls Tryz.prog 131 #[.agg #[v],vi a] w (RE w (.bool (decide (j7 l a a &&& a=0)))):=by
 obtain⟨B,Z,F,C,H,E,s⟩:=m04 42 h;clear h;have b:=C B E;have S:=H7 R.o a a;have O:b13 ((j7 l a a:Nat):Int) (a:Int)=((j7 l a a &&& a:Nat):Int):=b95 om om;have c:=E6 v l a a B (H _ E) R A A;go_in;go_wp2_with fail;rw[<-Z.o];refine cm c fun G z=>?_;go_wp2_with fail;go_ret;exact⟨j1 (by rw[oA,beq_iff_eq,decide_eq_true_iff];omega),F.trans z⟩
theorem cb5(h:c8 w v l):Calls Tryz.prog 184 #[.agg #[v],vi a] w (RE w (.bool (j0 l a&&decide (j7 l a.toNat a.toNat &&& a.toNat=0)))):=by
 obtain⟨B,Z,F,C,H,E,T⟩:=m04 42 h;clear h;have b:=C B E;have c:=F9 v l a B (H _ E);cases S:j0 l a
 . rw[S]at c;go_in;go_wp2_with fail;rw[<-Z.o];refine cm c fun G z=>?_;exact zz98
 rw[S]at c;obtain⟨n,rfl,-,N,Y⟩:=l7 S;have q:=H7 Y n n;have O:b13 ((j7 l n n:Nat):Int) (n:Int)=((j7 l n n &&& n:Nat):Int):=b95 om om;have s:=fun W (D:Ext B W)=>J2 v l n n W (H _ D) (zh Y) N N;have V:Hid ((true&&decide (j7 l ((n:Nat):Int).toNat ((n:Nat):Int).toNat &&& ((n:Nat):Int).toNat=0))=(((j7 l n n &&& n:Nat):Int) == 0)):=zh (by
  rw[show((n:Nat):Int).toNat=n by omega,qe,oA,beq_iff_eq,decide_eq_true_iff];omega)
 clear S Y;go_in;go_wp2_with fail;rw[<-Z.o];refine cm c fun G z=>?_;have J:=C G z;go_wp2_with fail;refine cm (s _ z) fun m I=>?_;go_wp2_with fail;go_ret;exact⟨j1 V.o.symm,F.trans (z.trans I)⟩
noncomputable def sidP (l:LI) (b:Nat):Bool:=sidB l b
def lgB(l:LI)(m:Nat):Bool:=d7 l&&decide (ord l<=m)
def lgV(P:Nat->Bool)(l:LI)(m:Nat):Nat:=if lgB l m then fsS P (ord l) (ord l+1) 0 0 else 0
theorem bc7{P:Nat->Bool}{l:LI}(h:lgB l m=false):lgV P l m=0:=by unfold lgV;rw[h];rfl
theorem c44{P:Nat->Bool}{l:LI}(h:lgB l m=true):lgV P l m=fsS P (ord l) (ord l+1) 0 0:=by unfold lgV;rw[h];rfl
theorem zz7{P:Prop}(h:P:=by have H:Hid (M3 P (ord l) f b n fr s (k+1)=fsI P (ord l) f (b ||| 2^k) (n+1) (k+1) u):=zh (by rw[dh2 U he p,Z]);have A:=fun W (D:Ext wr W)=>HP W (b ||| 2^k) (r.trans D) a;rw[p]at A;have hR:=fun W (E:Ext wr W)=>Hh.o (b ||| 2^k) (n+1) (k+1) W u y om om a om L M (r.trans E) (X.o.ext E) (Q.o.ext E) (Y.o.ext E) (hr.ext E);rw[show((n+1:Nat):Int)=(n:Int)+1 by omega,show((k+1:Nat):Int)=(k:Int)+1 by omega]at hR;have kt:=hr.atc 0 rfl;clear Z p;go_wp2_with(first|(go_at_call 153;refine cm (p9 _ _ _ (q.o _ r) R) fun G z=>?_;have ha:=r.trans z)|(with_reducible refine cm (A _ z) fun w2 I=>?_;have t:=z.trans I)|(go_at_call 300;refine(hR _ t).mono ?_;rintro e3 w3⟨rfl,c3,hh,hm,hj,hk,hg,hi⟩));go_roundw;exact⟨k+1,c3,om,om,zg,by rw[H.o];exact hh,by rw[H.o];exact hm,hj,g.o.trans ((t.fw _).trans hk),by rw[H.o];exact hg,by rw[H.o];exact hi⟩;exact zm1):P:=h
theorem zz19{P:Prop}(h:P:=by have H:Hid (M3 P (ord l) f b n fr s (k+1)=u):=zh (by rw[dw3 p,Z]);have A:=fun W (D:Ext wr W)=>HP W (b ||| 2^k) (r.trans D) a;rw[p]at A;clear Z p;go_wp2_with(first|(go_at_call 153;refine cm (p9 _ _ _ (q.o _ r) R) fun G z=>?_;have ha:=r.trans z)|(with_reducible refine cm (A _ z) fun w2 I=>?_;have t:=z.trans I));go_roundw;exact⟨k+1,y,om,om,zg,by rw[H.o];exact X.o.ext t,by rw[H.o];exact Q.o.ext t,Y.o.ext t,g.o.trans (t.fw _),by rw[H.o];exact L,by rw[H.o];exact M⟩;exact zm1):P:=h
theorem zz50{P:Prop}(h:P:=by have hl:k=ord l:=om;have H:Hid (fsI P (ord l) (f+1) b n fr s=u):=zh (by rw[jf8 ho.2,Z,hl]);clear Z;go_wp2_with(go_at_call 153;refine cm (p9 _ _ _ (q.o _ r) R) fun G z=>?_;have ha:=r.trans z);go_end0;exact⟨rfl,y,by rw[H.o];exact X.o.ext z,by rw[H.o];exact Q.o.ext z,Y.o.ext z,g.o.trans (z.fw _),by rw[H.o];exact L,by rw[H.o];exact M⟩):P:=h
theorem jl2{fd:FuncId}(He:∀aa W,(callFunc fd aa).run Tryz.prog W=.ok (.enter fd aa) W)(v:Value)(l:LI)(P:Nat->Bool)(R:Hid (d7 l=true))(O:World)(C S B bG bI T:Nat)(hv:C≠S)(ht:C≠B)(hu:S≠B)(hJ:T≠C)(hI:T≠S)(hK:T≠B)(hL:O.heap.size<=C)(hM:O.heap.size<=S)(hH:O.heap.size<=B)
 (p1 p2:Value) (HG:∀W,Ext O W->W.cell? (aD bG 0)=some v) (HF:∀W,Ext O W->W.cell? (aD bI 0)=some (.func (.func fd) #[] #[p1])) (q:Hid (∀W,Ext O W->c8 W v l))
 (HP:∀W b,Ext O W->b<2^24->Calls Tryz.prog fd #[vi (b:Nat),p1] W (RE W (.bool (P b)))) :
 ∀(f b n fr:Nat) (w:World) (s:Nat × Int) (c:Int),ord l<fr+f->fr<=ord l->b<2^24->n<=fr -> -1<=s.2->s.2<=24->Ext O w->Blk w B 3 #[vi s.1]->Blk w S 3 #[vi s.2]->Blk w C 3 #[vi c] ->
 Blk w T 149 #[.func (.func 300) #[] #[.pointer (some (aD C 0)),.pointer (some (aD S 0)),.pointer (some (aD B 0)),.pointer (some (aD bG 0)),.pointer (some (aD bI 0)),.pointer (some (aD T 0))]] ->
 Calls Tryz.prog 300 #[vi b,vi n,vi fr,.pointer (some (aD C 0)),.pointer (some (aD S 0)),.pointer (some (aD B 0)),.pointer (some (aD bG 0)),.pointer (some (aD bI 0)),.pointer (some (aD T 0))] w fun e w' =>
  e=.returned (.tuple #[])/\∃y,Blk w' B 3 #[vi (fsI P (ord l) f b n fr s).1]/\Blk w' S 3 #[vi (fsI P (ord l) f b n fr s).2]/\Blk w' C 3 #[vi y]/\Fw (S3 C S B) w w' /\ -1<=(fsI P (ord l) f b n fr s).2/\(fsI P (ord l) f b n fr s).2<=24:=by
 intro f;induction f with
 |zero=>intro b n fr w s c hf hA;omega
 | succ f ih =>
  intro b n fr w s c hf hA hc hn hw hx F J m K hT;have ho:=l8 R.o;have Hh:=zh ih;clear ih;obtain⟨c1,hc1⟩:=nq (wrap64 (c+1));have kc:=K.cell (i:=0) (v:=vi c) rfl;have fc:=K.free 0;have V:Blk (w.setCell (aD C 0) (vi (wrap64 (c+1)))) B 3 #[vi s.1]:=J.other (by simpa using ht.symm) _;have S1:Blk (w.setCell (aD C 0) (vi (wrap64 (c+1)))) S 3 #[vi s.2]:=m.other (by simpa using hv.symm) _;have C1:Blk (w.setCell (aD C 0) (vi (wrap64 (c+1)))) C 3 #[vi (wrap64 (c+1))]:=K.set 0 _;have F1:Fw (S3 C S B) w (w.setCell (aD C 0) (vi (wrap64 (c+1)))):=bn5 (Or.inl rfl) w 0 _;have kb:=S1.cell (i:=0) (v:=vi s.2) rfl;have ka:=V.cell (i:=0) (v:=vi s.1) rfl;have fa:=V.free 0;have hs:∀k,S3 C S B k->O.heap.size<=k:=by rintro k (rfl|rfl|rfl)<;>assumption
  have hp:¬S3 C S B T:=by rintro (h|h|h)<;>contradiction
  by_cases hq:s.2<(n:Int)
  . have B2:Blk ((w.setCell (aD C 0) (vi (wrap64 (c+1)))).setCell (aD B 0) (vi b)) B 3 #[vi b]:=V.set 0 _;have S2:Blk ((w.setCell (aD C 0) (vi (wrap64 (c+1)))).setCell (aD B 0) (vi b)) S 3 #[vi s.2]:=S1.other (by simpa using hu) _;have C2:Blk ((w.setCell (aD C 0) (vi (wrap64 (c+1)))).setCell (aD B 0) (vi b)) C 3 #[vi (wrap64 (c+1))]:=C1.other (by simpa using ht) _;have kd:=S2.cell (i:=0) (v:=vi s.2) rfl;have fb:=S2.free 0;have d:=cs1 (P:=P) (N:=ord l) (f:=f) (b:=b) (n:=n) (fr:=fr) (s:=s);rw[if_pos hq]at d;have Hb:Hid (Blk (((w.setCell (aD C 0) (vi (wrap64 (c+1)))).setCell (aD B 0) (vi b)).setCell (aD S 0) (vi n)) B 3 #[vi (M3 P (ord l) f b n fr s fr).1]):=zh (by rw[d];exact B2.other (by simpa using hu.symm) _);have Hd:Hid (Blk (((w.setCell (aD C 0) (vi (wrap64 (c+1)))).setCell (aD B 0) (vi b)).setCell (aD S 0) (vi n)) S 3 #[vi (M3 P (ord l) f b n fr s fr).2]):=zh (by rw[d];exact S2.set 0 _);have Hc:Hid (Blk (((w.setCell (aD C 0) (vi (wrap64 (c+1)))).setCell (aD B 0) (vi b)).setCell (aD S 0) (vi n)) C 3 #[vi (wrap64 (c+1))]):=zh (C2.other (by simpa using hv) _);have Ha:Hid (Fw (S3 C S B) w (((w.setCell (aD C 0) (vi (wrap64 (c+1)))).setCell (aD B 0) (vi b)).setCell (aD S 0) (vi n))):=zh ((F1.trans (bn5 (Or.inr (Or.inr rfl)) _ 0 _)).trans (bn5 (Or.inr (Or.inl rfl)) _ 0 _));have j:Hid (-1<=(M3 P (ord l) f b n fr s fr).2/\(M3 P (ord l) f b n fr s fr).2<=24):=zh (by rw[d];simp only;omega);clear d V S1 C1 F1 B2 S2 C2 J m K hc1;go_in;go_wp2_with fail;clear kc fc kb ka fa kd fb hq;go_loopw [12] (fun xv wr=>∃(k:Nat) (y:Int),fr<=k/\k<=ord l/\xv=vi k/\Blk wr B 3 #[vi (M3 P (ord l) f b n fr s k).1]/\Blk wr S 3 #[vi (M3 P (ord l) f b n fr s k).2]/\Blk wr C 3 #[vi y]/\Fw (S3 C S B) w wr /\ -1<=(M3 P (ord l) f b n fr s k).2/\(M3 P (ord l) f b n fr s k).2<=24) (fun x _=>ord l-(intOf x).toNat);exact⟨fr,_,om,om,rfl,Hb.o,Hd.o,Hc.o,Ha.o,j.o.1,j.o.2⟩;case round =>
     obtain⟨k,y,he,hy,rfl,J,m,K,hF,L,M⟩:=hrel;clear Hb Hd Hc Ha j;have r:=hF.ext F hs;have hr:=hF.blk hT hp;obtain⟨u,Z⟩:=nq (M3 P (ord l) f b n fr s k);rw[<-Z]at J m L M;have X:=zh J;have Q:=zh m;have Y:=zh K;have g:=zh hF;clear J m K hF;by_cases U:k<ord l
     . have hb:k<24:=om;have hG:=o6 (n:=k) om;have hD:=H9 hc hb;have a:b ||| 2^k<2^24:=ox hc (oJ om hb)
       cases p:P (b ||| 2^k)
       . exact zz19
       . exact zz7
     . exact zz50
  . have d:=cs1 (P:=P) (N:=ord l) (f:=f) (b:=b) (n:=n) (fr:=fr) (s:=s);rw[if_neg hq]at d;have Hb:Hid (Blk (w.setCell (aD C 0) (vi (wrap64 (c+1)))) B 3 #[vi (M3 P (ord l) f b n fr s fr).1]):=zh (by rw[d];exact V);have Hd:Hid (Blk (w.setCell (aD C 0) (vi (wrap64 (c+1)))) S 3 #[vi (M3 P (ord l) f b n fr s fr).2]):=zh (by rw[d];exact S1);have Hc:=zh C1;have Ha:=zh F1;have j:Hid (-1<=(M3 P (ord l) f b n fr s fr).2/\(M3 P (ord l) f b n fr s fr).2<=24):=zh (by rw[d];exact⟨hw,hx⟩);clear d V S1 C1 F1 J m K hc1;go_in;go_wp2_with fail;clear kc fc kb ka fa hq;go_loopw [12] (fun xv wr=>∃(k:Nat) (y:Int),fr<=k/\k<=ord l/\xv=vi k/\Blk wr B 3 #[vi (M3 P (ord l) f b n fr s k).1]/\Blk wr S 3 #[vi (M3 P (ord l) f b n fr s k).2]/\Blk wr C 3 #[vi y]/\Fw (S3 C S B) w wr /\ -1<=(M3 P (ord l) f b n fr s k).2/\(M3 P (ord l) f b n fr s k).2<=24) (fun x _=>ord l-(intOf x).toNat);exact⟨fr,_,om,om,rfl,Hb.o,Hd.o,Hc.o,Ha.o,j.o.1,j.o.2⟩;case round =>
     obtain⟨k,y,he,hy,rfl,J,m,K,hF,L,M⟩:=hrel;clear Hb Hd Hc Ha j;have r:=hF.ext F hs;have hr:=hF.blk hT hp;obtain⟨u,Z⟩:=nq (M3 P (ord l) f b n fr s k);rw[<-Z]at J m L M;have X:=zh J;have Q:=zh m;have Y:=zh K;have g:=zh hF;clear J m K hF;by_cases U:k<ord l
     . have hb:k<24:=om;have hG:=o6 (n:=k) om;have hD:=H9 hc hb;have a:b ||| 2^k<2^24:=ox hc (oJ om hb)
       cases p:P (b ||| 2^k)
       . exact zz19
       . exact zz7
     . exact zz50
theorem cg6{f:FuncId}(Hn:∀K W,(callFunc f K).run Tryz.prog W=.ok (.enter f K) W)(v:Value)(l:LI)(P:Nat->Bool)(R:Hid (d7 l=true))(w:World)(h:c8 w v l)(p p2:Value)
 (B:∀W b,Ext w W->b<2^24->Calls Tryz.prog f #[vi (b:Nat),p] W (RE W (.bool (P b)))) :
 Calls Tryz.prog 245 #[.agg #[v],.func (.func f) #[] #[p]] w fun e Q=>∃c,e=.returned (.tuple #[vi (fsS P (ord l) (ord l+1) 0 0:Nat),vi c])/\Ext w Q:=by
 have ha:=l8 R.o;have hg:∀(F:Fn) (first cap:Array Value) (w:World),(Instr.makeFunc F first cap).run Tryz.prog w=.ok (.func F first cap) w:=fun _ _ _ _=>rfl;have He:=zh (lt6 P (ord l) ha.2 (ord l+1) 0 0 (0,-1) zm om);have HH:=zh h;have Ha:=zh B;clear h B;go_in;go_wp2_with fail;obtain⟨G,H⟩:=nq (w.alloc (.cells #[v] 42));obtain⟨m,r⟩:=nq (G.alloc (.cells #[.func (.func f) #[] #[p]] 77));obtain⟨w3,T⟩:=nq (m.alloc (.cells #[vi 0] 3));obtain⟨w4,d⟩:=nq (w3.alloc (.cells #[vi (-1)] 3));obtain⟨s,g⟩:=nq (w4.alloc (.cells #[vi 0] 3));obtain⟨w6,n⟩:=nq (s.alloc (.cells #[.func (.func 300) #[] #[.pointer (some (aD (w.heap.size+1+1+1+1) 0)),.pointer (some (aD (w.heap.size+1+1+1) 0)),.pointer (some (aD (w.heap.size+1+1) 0)),.pointer (some (aD w.heap.size 0)),.pointer (some (aD (w.heap.size+1) 0)),.pointer (some (aD (w.heap.size+1+1+1+1+1) 0))]] 149));rw[<-H,<-r,<-T,<-d,<-g,<-n];have S:G.heap.size=w.heap.size+1:=by rw[H];simp
 have y:m.heap.size=w.heap.size+1+1:=by rw[r];simp[S]
 have A:w3.heap.size=w.heap.size+1+1+1:=by rw[T];simp[y]
 have q:w4.heap.size=w.heap.size+1+1+1+1:=by rw[d];simp[A]
 have I:s.heap.size=w.heap.size+1+1+1+1+1:=by rw[g];simp[q]
 have eb:Ext w G:=by rw[H];exact(er _).alloc _
 have L:Ext G m:=by rw[r];exact(er _).alloc _
 have ea:Ext m w3:=by rw[T];exact(er _).alloc _
 have V:Ext w3 w4:=by rw[d];exact(er _).alloc _
 have z:Ext w4 s:=by rw[g];exact(er _).alloc _
 have j:Ext s w6:=by rw[n];exact(er _).alloc _
 have B1:Blk G w.heap.size 42 #[v]:=by rw[H];exact oq _ _ _
 have B2:Blk m (w.heap.size+1) 77 #[.func (.func f) #[] #[p]]:=by rw[r,<-S];exact oq _ _ _
 have B3:Blk w3 (w.heap.size+1+1) 3 #[vi ((0:Nat):Int)]:=by rw[T,<-y];exact oq _ _ _
 have B4:Blk w4 (w.heap.size+1+1+1) 3 #[vi (-1)]:=by rw[d,<-A];exact oq _ _ _
 have B5:Blk s (w.heap.size+1+1+1+1) 3 #[vi 0]:=by rw[g,<-q];exact oq _ _ _
 have B6:Blk w6 (w.heap.size+1+1+1+1+1) 149 #[.func (.func 300) #[] #[.pointer (some (aD (w.heap.size+1+1+1+1) 0)),.pointer (some (aD (w.heap.size+1+1+1) 0)),.pointer (some (aD (w.heap.size+1+1) 0)),.pointer (some (aD w.heap.size 0)),.pointer (some (aD (w.heap.size+1) 0)),.pointer (some (aD (w.heap.size+1+1+1+1+1) 0))]]:=by rw[n,<-I];exact oq _ _ _
 have J:=eb.trans L;have Z:=ea.trans (V.trans (z.trans j));refine(jl2 Hn v l P R m (w.heap.size+1+1+1+1) (w.heap.size+1+1+1) (w.heap.size+1+1) w.heap.size (w.heap.size+1) (w.heap.size+1+1+1+1+1) om om om om om om om om om p p2 (fun W D=>((B1.ext L).ext D).cell (i:=0) rfl) (fun W D=>(B2.ext D).cell (i:=0) rfl) (zh fun W D=>HH.o.ext (J.trans D)) (fun W b D C=>Ha.o W b (J.trans D) C) (ord l+1) 0 0 0 w6 (0,-1) 0 om om (by decide) om zm zm Z (B3.ext (V.trans (z.trans j))) (B4.ext (z.trans j)) (B5.ext j) B6).mono ?_;rintro e x⟨rfl,M,N,hh,hf,he,-,-⟩;have hc0:(cnt 0)=0:=Z1;have O:(fsI P (ord l) (ord l+1) 0 0 0 (0,-1)).1=fsS P (ord l) (ord l+1) 0 0:=by
  have:=He.o;rw[hc0]at this;rw[this,if_pos (by show(-1:Int)<_;omega)]
 rw[O]at N;have X:=N.cell (i:=0) (v:=vi (fsS P (ord l) (ord l+1) 0 0:Nat)) rfl;have Y:=hf.cell (i:=0) (v:=vi M) rfl;have hc:Ext w x:=he.ext (J.trans Z) (by rintro k (rfl|rfl|rfl)<;>omega);have kx:=fun U=>da2 X _ (c9 x U);have ky:=fun U=>da2 Y _ (c9 x U);have E:=er x;clear O hc0 X Y S y A q I;go_wp2_with fail;refine wl E ?_;(repeat(go_big_quiet_step(first|fail)));refine zd fun W E=>?_;go_wp2_with fail;exact br (.tuple #[vi (fsS P (ord l) (ord l+1) 0 0:Nat),vi M]) ⟨_,rfl,hc.trans E⟩
theorem zz90{P:Prop}(h:P:=by clear H h;go_in;go_wp2_with fail;refine cm c fun G z=>?_;go_wp2_with fail;go_ret;exact⟨rfl,z⟩):P:=h
theorem ln7(H:∀W,Ext w W->W.cell? (aD B 0)=some v)(h:c8 w v l):Calls Tryz.prog 246 #[vi b,.pointer (some (aD B 0))] w (RE w (.bool (O8 l b))):=by
 have k:=H _ (er w);have c:=cb5 v l (b:Int) w h;exact zz90
theorem zz10{P:Prop}(h:P:=by rw[<-i]at f N;clear J Y i;go_in;go_wp2_with fail;rw[<-Z.o];refine cm g fun G z=>?_;have S:=C G z;go_wp2_with(go_at_call 153;refine cm (O _ z) fun m I=>?_;have r:=z.trans I;have U:=C m r);refine(f _ r).mono ?_;rintro e w3⟨c,rfl,L⟩;go_wp2_with fail;exact br (.tuple #[vi Q,.bool true]) ⟨by rw[N.o.1,N.o.2],F.trans (r.trans L)⟩):P:=h
theorem zz13{P:Prop}(h:P:=by go_wp2_with(refine cm (O _ z) fun m I=>?_);exact br (.tuple #[vi 0,.bool false]) ⟨by rw[N.o.1,N.o.2];rfl,F.trans (z.trans I)⟩):P:=h
theorem zz31{P:Prop}(h:P:=by go_wp2_with fail;exact br (.tuple #[vi 0,.bool false]) ⟨by rw[N.o.1,N.o.2];rfl,F.trans z⟩):P:=h
theorem ce2(h:c8 w v l):Calls Tryz.prog 159 #[.agg #[v]] w (RE w (.tuple #[vi (lgV (O8 l) l 16:Nat),.bool (lgB l 16)])):=by
 obtain⟨B,Z,F,C,H,E,s⟩:=m04 42 h;clear h;have T:=C B E;have p:∀(n:Fn) (first cap:Array Value) (w:World),(Instr.makeFunc n first cap).run Tryz.prog w=.ok (.func n first cap) w:=fun _ _ _ _=>rfl;have g:=o9 v l B (H _ E);cases Y:d7 l
 . have J:lgB l 16=false:=(by unfold lgB;rw[Y];rfl);have N:=zh (And.intro J (bc7 (P:=O8 l) J));rw[Y]at g;clear J;go_in;go_wp2_with fail;rw[<-Z.o];refine cm g fun G z=>?_;exact zz31
 rw[Y]at g;have R:=zh Y;have d:=l8 Y;have O:=fun W (D:Ext B W)=>p9 v l W (H _ D) R;by_cases M:ord l<=16;rotate_left
 . have J:lgB l 16=false:=(by unfold lgB;rw[Y];simpa using M);have N:=zh (And.intro J (bc7 (P:=O8 l) J));clear J;go_in;go_wp2_with fail;rw[<-Z.o];refine cm g fun G z=>?_;have S:=C G z;exact zz13
 have J:lgB l 16=true:=by unfold lgB;rw[Y];simpa using M
 have N:=zh (And.intro J (c44 (P:=O8 l) J));have f:=fun W (D:Ext B W)=>cg6 (du3 Tryz.func246 (by kernel_rfl) rfl) v l (O8 l) R W (H W D) (.pointer (some (aD w.heap.size 0))) (.pointer none) (fun j b K k=>ln7 v l b w.heap.size j (fun X x=>C X (D.trans (K.trans x))) (H j (D.trans K)));obtain⟨Q,i⟩:=nq (fsS (O8 l) (ord l) (ord l+1) 0 0);exact zz10
theorem lo0(H:∀W,Ext w W->W.cell? (aD B 0)=some v)(h:c8 w v l):Calls Tryz.prog 247 #[vi b,.pointer (some (aD B 0))] w (RE w (.bool (sidP l b))):=by
 have k:=H _ (er w);have c:=c04 v l (b:Int) w h;exact zz90
theorem cu7(h:c8 w v l):Calls Tryz.prog 160 #[.agg #[v]] w (RE w (.tuple #[vi (lgV (sidP l) l 13:Nat),.bool (lgB l 13)])):=by
 obtain⟨B,Z,F,C,H,E,s⟩:=m04 42 h;clear h;have T:=C B E;have p:∀(n:Fn) (first cap:Array Value) (w:World),(Instr.makeFunc n first cap).run Tryz.prog w=.ok (.func n first cap) w:=fun _ _ _ _=>rfl;have g:=o9 v l B (H _ E);cases Y:d7 l
 . have J:lgB l 13=false:=(by unfold lgB;rw[Y];rfl);have N:=zh (And.intro J (bc7 (P:=sidP l) J));rw[Y]at g;clear J;go_in;go_wp2_with fail;rw[<-Z.o];refine cm g fun G z=>?_;exact zz31
 rw[Y]at g;have R:=zh Y;have d:=l8 Y;have O:=fun W (D:Ext B W)=>p9 v l W (H _ D) R;by_cases M:ord l<=13;rotate_left
 . have J:lgB l 13=false:=(by unfold lgB;rw[Y];simpa using M);have N:=zh (And.intro J (bc7 (P:=sidP l) J));clear J;go_in;go_wp2_with fail;rw[<-Z.o];refine cm g fun G z=>?_;have S:=C G z;exact zz13
 have J:lgB l 13=true:=by unfold lgB;rw[Y];simpa using M
 have N:=zh (And.intro J (c44 (P:=sidP l) J));have f:=fun W (D:Ext B W)=>cg6 (du3 Tryz.func247 (by kernel_rfl) rfl) v l (sidP l) R W (H W D) (.pointer (some (aD w.heap.size 0))) (.pointer none) (fun j b K k=>lo0 v l b w.heap.size j (fun X x=>C X (D.trans (K.trans x))) (H j (D.trans K)));obtain⟨Q,i⟩:=nq (fsS (sidP l) (ord l) (ord l+1) 0 0);exact zz10
theorem c57(h:c8 w v l):Calls Tryz.prog 231 #[.agg #[v],vi a] w fun e P=>ZN (apB l a) e/\Ext w P:=by
 obtain⟨B,Z,F,Q,H,E,Hb⟩:=m04 42 h;clear h;have hx:=Q B E;cases S:j0 l a
 . have N:=zh (jp1 S);go_in;go_wp2_with fail;rw[<-Z.o];go_wp2_with(first|(go_at_call 124;refine cx (m6 _ _ _ _ (H _ E) (S)) E fun P E=>?_));go_ret;exact⟨by rw[N.o];exact ZN.mk (by decide),F.trans E⟩
 obtain⟨n,rfl,h1,r,Y⟩:=l7 S;have N:=zh (jc1 S);have R:=zh Y;clear Y;go_in;go_wp2_with fail;rw[<-Z.o];go_wp2_with(first|(go_at_call 124;refine cx (m6 _ _ _ _ (H _ E) (S)) E fun P E=>?_)|(go_at_call 151;refine(L0 n r _).mono ?_;rintro e G⟨v1,rfl,hL,z⟩;obtain⟨aL,cL,aa,rfl,hp,f,g⟩:=hL.ints.natc;have hm:=j2 (c:=cL) elI szI f));have hk:=sh (E.trans z) Q;have ha:=sh (E.trans z) H;have eW:=F.trans (E.trans z);have p:∀y∈j3 n,y<24:=fun y hy=>J5 hy;have hn:=D0 n;clear Q H hx E z hL S;generalize j3 n=L at g hm p hn N hp f|-;have HL:=zh g;clear f g;have E:=er G;go_loopw [6,7] (fun V d wr=>∃i s:Nat,i<=L.length/\d=vi i/\V=vi s/\s<=576*i/\Hid (ZT l L (fun a b c=>a<b/\b<i/\c<L.length) s)/\Ext G wr) (fun _ d _=>L.length-(intOf d).toNat);exact⟨0,0,om,rfl,rfl,om,zh ⟨fun _ a b c hc=>om,fun _=>rfl⟩,E⟩;case round =>
  clear E;obtain⟨i,s,J,rfl,rfl,K,T,E⟩:=hrel;by_cases U:i<L.length
  . have hA:=p _ (m7 U);go_wp2_with fail;go_loopw [6,8] (fun V q wr=>∃t s:Nat,t<=i/\q=vi t/\V=vi s/\s<=576*i+24*t/\Hid (ZT l L (fun a b c=>(a<b/\b<i/\c<L.length)\/(b=i/\a<t/\c<L.length)) s)/\Ext G wr) (fun _ q _=>i-(intOf q).toNat);exact⟨0,s,om,rfl,rfl,om,zh (T.o.congr fun a b c=>om),E⟩;case round =>
     clear E K T;obtain⟨t,s,ht,rfl,rfl,K,T,E⟩:=hrel;by_cases hC:t<i
     . have he:t<L.length:=om;have hv:=p _ (m7 he);go_wp2_with fail;go_loopw [6,9] (fun V m wr=>∃j s:Nat,j<=L.length/\m=vi j/\V=vi s/\s<=576*i+24*t+j/\Hid (ZT l L (fun a b c=>(a<b/\b<i/\c<L.length)\/(b=i/\a<t/\c<L.length)\/(b=i/\a=t/\c<j)) s)/\Ext G wr) (fun _ m _=>L.length-(intOf m).toNat);exact⟨0,s,om,rfl,rfl,om,zh (T.o.congr fun a b c=>om),E⟩;case round =>
        clear E K T;obtain⟨j,s,hj,rfl,rfl,K,T,E⟩:=hrel;by_cases hf:j<L.length
        . have hw:=p _ (m7 hf);rename World=>wj;have hr:=fun u=>HL.o j _ hf (E.trans (c9 wj u));have hu:=fun u=>HL.o i _ U (E.trans (c9 wj u));have hl:=fun u=>HL.o t _ he (E.trans (c9 wj u));have hG:=fun u=>hk _ (E.trans (c9 wj u));obtain⟨X,x⟩:=nq (d5 L i);obtain⟨O,A⟩:=nq (d5 L t);obtain⟨M,D⟩:=nq (d5 L j);have hD:X<24:=(by rw[x];exact hA);have hH:O<24:=(by rw[A];exact hv);have hI:M<24:=(by rw[D];exact hw);rw[<-x]at hu;rw[<-A]at hl;rw[<-D]at hr;have cA:=fun u=>G8 v l X O (Lat wj u) (ha _ (E.trans (c9 wj u))) R om om;have cB:=fun u=>G8 v l M M (Lat wj u) (ha _ (E.trans (c9 wj u))) R om om;have Hp:Hid (apT l L t i j=(((j9 l M M:Nat):Int) == ((j9 l X O:Nat):Int))):=zh (by
           unfold apT;rw[<-x,<-A,<-D,E4 l O X,oA,beq_iff_eq,beq_iff_eq];exact eq_comm)
          have hh:=E;clear E x A D;have E:=er wj;cases hq:(((j9 l M M:Nat):Int) == ((j9 l X O:Nat):Int))
          . have Ha:Hid (apT l L t i j=false):=zh (by rw[Hp.o];exact hq);go_wp2_with fail;refine wl E ?_;(repeat(go_big_quiet_step(first|(go_at_call 220;first|with_reducible exact oa (cA _)|with_reducible exact oa (cB _)))));refine zd fun W E=>?_;go_wp2_with fail;go_roundw;exact⟨j+1,s,om,zg,rfl,om,zh (T.o.miss Ha.o fun a b c=>om),hh.trans E⟩;exact zm1
          . have Ha:Hid (apT l L t i j=true):=zh (by rw[Hp.o];exact hq);go_wp2_with fail;refine wl E ?_;(repeat(go_big_quiet_step(first|(go_at_call 220;first|with_reducible exact oa (cA _)|with_reducible exact oa (cB _)))));refine zd fun W E=>?_;go_wp2_with fail;go_roundw;exact⟨j+1,s+1,om,zg,zg,om,zh (ZT.hit (C:=fun _ _ _=>True) Ha.o om),hh.trans E⟩;exact zm1
        . have I:Hid (ZT l L (fun a b c=>(a<b/\b<i/\c<L.length)\/(b=i/\a<t+1/\c<L.length)) s):=zh (T.o.congr fun a b c=>om);have k:s<=576*i+24*(t+1):=om;go_wp2_with fail;go_roundw;exact⟨t+1,s,om,zg,rfl,k,I,E⟩;exact zm1
     . have I:Hid (ZT l L (fun a b c=>a<b/\b<i+1/\c<L.length) s):=zh (T.o.congr fun a b c=>om);have k:s<=576*(i+1):=om;go_wp2_with fail;go_roundw;exact⟨i+1,s,om,zg,rfl,k,I,E⟩;exact zm1
  . have ho:i=L.length:=om;have Hz:Hid (((s:Int) == 0)=apL l L):=zh (ZT.all (T.o.congr fun a b c=>om));clear ho;go_wp2_with fail;go_ret;exact⟨by rw[N.o];exact ZN.mk Hz.o,eW.trans E⟩
noncomputable def apP (l:LI) (b:Nat):Bool:=apB l b
theorem lh7(H:∀W,Ext w W->W.cell? (aD B 0)=some v)(h:c8 w v l):Calls Tryz.prog 248 #[vi b,.pointer (some (aD B 0))] w (RE w (.bool (apP l b))):=by
 have k:=H _ (er w);have c:=cd9 v l (b:Int) w h;exact zz90
theorem cp8(h:c8 w v l):Calls Tryz.prog 161 #[.agg #[v]] w (RE w (.tuple #[vi (lgV (apP l) l 11:Nat),.bool (lgB l 11)])):=by
 obtain⟨B,Z,F,C,H,E,s⟩:=m04 42 h;clear h;have T:=C B E;have p:∀(n:Fn) (first cap:Array Value) (w:World),(Instr.makeFunc n first cap).run Tryz.prog w=.ok (.func n first cap) w:=fun _ _ _ _=>rfl;have g:=o9 v l B (H _ E);cases Y:d7 l
 . have J:lgB l 11=false:=(by unfold lgB;rw[Y];rfl);have N:=zh (And.intro J (bc7 (P:=apP l) J));rw[Y]at g;clear J;go_in;go_wp2_with fail;rw[<-Z.o];refine cm g fun G z=>?_;exact zz31
 rw[Y]at g;have R:=zh Y;have d:=l8 Y;have O:=fun W (D:Ext B W)=>p9 v l W (H _ D) R;by_cases M:ord l<=11;rotate_left
 . have J:lgB l 11=false:=(by unfold lgB;rw[Y];simpa using M);have N:=zh (And.intro J (bc7 (P:=apP l) J));clear J;go_in;go_wp2_with fail;rw[<-Z.o];refine cm g fun G z=>?_;have S:=C G z;exact zz13
 have J:lgB l 11=true:=by unfold lgB;rw[Y];simpa using M
 have N:=zh (And.intro J (c44 (P:=apP l) J));have f:=fun W (D:Ext B W)=>cg6 (du3 Tryz.func248 (by kernel_rfl) rfl) v l (apP l) R W (H W D) (.pointer (some (aD w.heap.size 0))) (.pointer none) (fun j b K k=>lh7 v l b w.heap.size j (fun X x=>C X (D.trans (K.trans x))) (H j (D.trans K)));obtain⟨Q,i⟩:=nq (fsS (apP l) (ord l) (ord l+1) 0 0);exact zz10
theorem js9{l:LI}(H:d7 l=true):O8 l 1=false:=by
 unfold O8;have:¬(j7 l 1 1 &&& 1=0):=fun e=>by
  have h:(j7 l 1 1).testBit 0=true :=
   C7.2 ⟨0,0,om,by decide,om,by decide,C9 l (m0 H) 0 (by have:=(l8 H).1;omega)⟩
  rw[ps,decide_eq_true_iff]at h
  have:=Nat.and_one_is_mod (j7 l 1 1)
  omega
 rw[decide_eq_false this];simp
theorem zz53{P:Prop}(h:P:=by rw[<-r]at f N;clear J Y r;go_in;go_wp2_with fail;rw[<-Z.o];refine cm c fun G z=>?_;have Q:=C G z;go_wp2_with(go_at_call 103;refine cm (O _ z) fun m I=>?_;have e:=z.trans I;have S:=C m e);refine cm (f _ e) fun w3 K=>?_;go_wp2_with fail;exact br (.tuple #[vi L,.bool true]) ⟨by rw[N.o.1,N.o.2],F.trans (e.trans K)⟩):P:=h
theorem cd2(h:c8 w v l):Calls Tryz.prog 110 #[.agg #[v]] w (RE w (.tuple #[vi (lgV (O8 l) l 16:Nat),.bool (lgB l 16)])):=by
 obtain⟨B,Z,F,C,H,E,s⟩:=m04 42 h;clear h;have x:=C B E;have c:=C4 v l B (H _ E);cases Y:d7 l
 . have J:lgB l 16=false:=(by unfold lgB;rw[Y];rfl);have N:=zh (And.intro J (bc7 (P:=O8 l) J));rw[Y]at c;clear J;go_in;go_wp2_with fail;rw[<-Z.o];refine cm c fun G z=>?_;exact zz31
 rw[Y]at c;have R:=zh Y;have X:=l8 Y;have O:=fun W (D:Ext B W)=>o4 v l W (H _ D) R;by_cases M:ord l<=16;rotate_left
 . have J:lgB l 16=false:=(by unfold lgB;rw[Y];simpa using M);have N:=zh (And.intro J (bc7 (P:=O8 l) J));clear J;go_in;go_wp2_with fail;rw[<-Z.o];refine cm c fun G z=>?_;have Q:=C G z;exact zz13
 have J:lgB l 16=true:=by unfold lgB;rw[Y];simpa using M
 have N:=zh (And.intro J (c44 (P:=O8 l) J));have f:=fun W (D:Ext B W)=>(show Calls Tryz.prog 216 #[.agg #[v],vi 0,vi 1] W (RE W (vi (fsS (O8 l) (ord l) (ord l+1) 0 0:Nat)))from by have q:=ja4 v l (O8 l) R (zh fun W b d j=>by have g:=cs7 v l b W d R (nlt j (E7 R.o));unfold O8;rw[X5 R.o j,qe];exact g) (ord l+1) 0 1 W (H W D) om om (by decide);rw[<-jt3 (js9 R.o)]at q;exact q);obtain⟨L,r⟩:=nq (fsS (O8 l) (ord l) (ord l+1) 0 0);exact zz53
theorem cq6(h:c8 w v l):Calls Tryz.prog 111 #[.agg #[v]] w (RE w (.tuple #[vi (lgV (sidP l) l 13:Nat),.bool (lgB l 13)])):=by
 obtain⟨B,Z,F,C,H,E,s⟩:=m04 42 h;clear h;have x:=C B E;have c:=C4 v l B (H _ E);cases Y:d7 l
 . have J:lgB l 13=false:=(by unfold lgB;rw[Y];rfl);have N:=zh (And.intro J (bc7 (P:=sidP l) J));rw[Y]at c;clear J;go_in;go_wp2_with fail;rw[<-Z.o];refine cm c fun G z=>?_;exact zz31
 rw[Y]at c;have R:=zh Y;have X:=l8 Y;have O:=fun W (D:Ext B W)=>o4 v l W (H _ D) R;by_cases M:ord l<=13;rotate_left
 . have J:lgB l 13=false:=(by unfold lgB;rw[Y];simpa using M);have N:=zh (And.intro J (bc7 (P:=sidP l) J));clear J;go_in;go_wp2_with fail;rw[<-Z.o];refine cm c fun G z=>?_;have Q:=C G z;exact zz13
 have J:lgB l 13=true:=by unfold lgB;rw[Y];simpa using M
 have N:=zh (And.intro J (c44 (P:=sidP l) J));have f:=fun W (D:Ext B W)=>(show Calls Tryz.prog 217 #[.agg #[v],vi 0,vi 0] W (RE W (vi (fsS (sidP l) (ord l) (ord l+1) 0 0:Nat)))from by have q:=jn5 v l (sidP l) R (zh fun W b d j=>by have g:=ch8 v l b W d R (nlt j (E7 R.o));unfold sidP;rw[d01 (X5 R.o j)];exact g) (ord l+1) 0 0 W (H W D) om om (by decide);exact q);obtain⟨L,r⟩:=nq (fsS (sidP l) (ord l) (ord l+1) 0 0);exact zz53
theorem ck5(h:c8 w v l):Calls Tryz.prog 112 #[.agg #[v]] w (RE w (.tuple #[vi (lgV (apP l) l 11:Nat),.bool (lgB l 11)])):=by
 obtain⟨B,Z,F,C,H,E,s⟩:=m04 42 h;clear h;have x:=C B E;have c:=C4 v l B (H _ E);cases Y:d7 l
 . have J:lgB l 11=false:=(by unfold lgB;rw[Y];rfl);have N:=zh (And.intro J (bc7 (P:=apP l) J));rw[Y]at c;clear J;go_in;go_wp2_with fail;rw[<-Z.o];refine cm c fun G z=>?_;exact zz31
 rw[Y]at c;have R:=zh Y;have X:=l8 Y;have O:=fun W (D:Ext B W)=>o4 v l W (H _ D) R;by_cases M:ord l<=11;rotate_left
 . have J:lgB l 11=false:=(by unfold lgB;rw[Y];simpa using M);have N:=zh (And.intro J (bc7 (P:=apP l) J));clear J;go_in;go_wp2_with fail;rw[<-Z.o];refine cm c fun G z=>?_;have Q:=C G z;exact zz13
 have J:lgB l 11=true:=by unfold lgB;rw[Y];simpa using M
 have N:=zh (And.intro J (c44 (P:=apP l) J));have f:=fun W (D:Ext B W)=>(show Calls Tryz.prog 218 #[.agg #[v],vi 0,vi 0] W (RE W (vi (fsS (apP l) (ord l) (ord l+1) 0 0:Nat)))from by have q:=jz4 v l (apP l) R (zh fun W b d p=>(c57 v l b W d).mono fun e S ⟨⟨n,j,_,g⟩,k⟩=>⟨n,j,g,k⟩) (ord l+1) 0 0 W (H W D) om om (by decide);exact q);obtain⟨L,i⟩:=nq (fsS (apP l) (ord l) (ord l+1) 0 0);rw[<-i]at f N;clear J Y i;go_in;go_wp2_with fail;rw[<-Z.o];refine cm c fun G z=>?_;have Q:=C G z;go_wp2_with(go_at_call 103;refine cm (O _ z) fun m I=>?_;have r:=z.trans I;have T:=C m r);refine cm (f _ r) fun w3 K=>?_;go_wp2_with fail;exact br (.tuple #[vi L,.bool true]) ⟨by rw[N.o.1,N.o.2],F.trans (r.trans K)⟩
noncomputable def elF (l:LI):Ba:=if lzB l then(((((((⟨#[101,120,116,114,101,109,97,108,32,102,114,101,101,32]⟩:Ba)++fqF l (b9 (lzL l)))++(⟨#[32,115,117,109,102,114,101,101,32]⟩:Ba))++fsF l (lgV (O8 l) l 16:Nat))++(⟨#[32,115,105,100,111,110,32]⟩:Ba))++fsF l (lgV (sidP l) l 13:Nat))++(⟨#[32,97,112,102,114,101,101,32]⟩:Ba))++fsF l (lgV (apP l) l 11:Nat)else⟨#[]⟩
theorem cf7{l:LI}(h:lzB l=false):elF l=⟨#[]⟩:=by unfold elF;rw[h];rfl
theorem da8{l:LI}(h:lzB l=true):elF l=(((((((⟨#[101,120,116,114,101,109,97,108,32,102,114,101,101,32]⟩:Ba)++fqF l (b9 (lzL l)))++(⟨#[32,115,117,109,102,114,101,101,32]⟩:Ba))++fsF l (lgV (O8 l) l 16:Nat))++(⟨#[32,115,105,100,111,110,32]⟩:Ba))++fsF l (lgV (sidP l) l 13:Nat))++(⟨#[32,97,112,102,114,101,101,32]⟩:Ba))++fsF l (lgV (apP l) l 11:Nat):=by unfold elF;rw[h];rfl
theorem lm2{l:LI}(h:∀i,i<l.length -> -1<=nth l i/\nth l i<1000000000000)(H:l.length<=40):(H6 l).size<=560:=by
 unfold H6;split;decide;have:=b43 b11 (fun i=>j8 (nth l i)) (by decide) l.length fun i J=>m9 (h i J);omega
theorem c38:(fsF l a).size<=600:=by
 cases h:j0 l a;rw[bn4 h];decide;obtain⟨n,rfl,-,H,-⟩:=l7 h;rw[bk2 h];have:=lm2 (l:=b9 (j3 n)) (b91 n) (by rw[d9];have:=D0 n;omega);omega
theorem l62(x:LI):(fqF l x).size<=60012:=by
 cases S:q8 l x;rw[c37 S];decide;obtain⟨X,rfl,-,d,-,H⟩:=I9 S;by_cases h:X.length=0;rw[bk1 S (by rw[d9];exact h)];decide;rw[bs1 S h];have f:=bf7 X X.length;have:=cx2 sp1 (m8 (fqL X X.length)) (by decide) (fqL X X.length).length (fun i J=>by have:=bd8 (X:=X) om H X.length (oc _) _ (J8 J);omega);omega
theorem cq4(h:c8 w v l):Calls Tryz.prog 43 #[.agg #[v]] w (RE w (.string (elF l))):=by
 obtain⟨B,Z,F,C,H,E,Hz⟩:=m04 42 h;clear h;have hx:=C B E;have c:=C4 v l B (H _ E);cases Y:d7 l
 . have hB:lzB l=false:=(by unfold lzB;rw[Y];rfl);have N:=zh (cf7 hB);rw[Y]at c;clear hB;go_in;go_wp2_with fail;rw[<-Z.o];refine cm c fun G z=>?_;exact zz49
 rw[Y]at c;have R:=zh Y;have hf:=l8 Y;have X:=fun W (D:Ext B W)=>o4 v l W (H _ D) R;by_cases k:ord l<=9;rotate_left
 . have hB:lzB l=false:=(by unfold lzB;rw[Y];simpa using k);have N:=zh (cf7 hB);clear hB;go_in;go_wp2_with fail;rw[<-Z.o];refine cm c fun G z=>?_;have ha:=C G z;go_wp2_with(refine cm (X _ z) fun m I=>?_);go_ret;exact⟨j5 N.o.symm,F.trans (z.trans I)⟩
 have hB:lzB l=true:=by unfold lzB;rw[Y];simpa using k
 have N:=zh (da8 hB);have t:=fun W (D:Ext B W)=>ca6 v l W (H _ D);have S:=fun W (D:Ext B W)=>cd2 v l W (H _ D);have c3:=fun W (D:Ext B W)=>cq6 v l W (H _ D);have V:=fun W (D:Ext B W)=>ck5 v l W (H _ D);have Q:=fun W j (D:Ext B W) (p:c8 W j (b9 (lzL l)))=>bj6 v j l (b9 (lzL l)) W (H _ D) p;have b:=fun W (D:Ext B W)=>F8 v l (lgV (O8 l) l 16:Nat) W (H _ D);have K:=fun W (D:Ext B W)=>F8 v l (lgV (sidP l) l 13:Nat) W (H _ D);have d:=fun W (D:Ext B W)=>F8 v l (lgV (apP l) l 11:Nat) W (H _ D);have sA:=l62 l (b9 (lzL l));have sB:=c38 l (lgV (O8 l) l 16:Nat);have sC:=c38 l (lgV (sidP l) l 13:Nat);have sD:=c38 l (lgV (apP l) l 11:Nat);obtain⟨A,O⟩:=nq (fqF l (b9 (lzL l)));obtain⟨BB,q⟩:∃x,x=fsF l (lgV (O8 l) l 16:Nat):=⟨_,rfl⟩;obtain⟨CC,g⟩:∃x,x=fsF l (lgV (sidP l) l 13:Nat):=⟨_,rfl⟩;obtain⟨DD,f⟩:∃x,x=fsF l (lgV (apP l) l 11:Nat):=⟨_,rfl⟩;rw[<-O]at Q sA N;rw[<-q]at b sB N;rw[<-g]at K sC N;rw[<-f]at d sD N;obtain⟨n2,r⟩:=nq (lgV (O8 l) l 16);obtain⟨n3,T⟩:=nq (lgV (sidP l) l 13);obtain⟨n4,a⟩:=nq (lgV (apP l) l 11);rw[<-r]at S b;rw[<-T]at c3 K;rw[<-a]at V d;clear O q g f r T a hB Y;go_in;go_wp2_with fail;rw[<-Z.o];refine cm c fun G z=>?_;have ha:=C G z;go_wp2_with(go_at_call 103;refine cm (X _ z) fun m I=>?_;have s:=z.trans I;have he:=C m s);refine(t _ s).mono ?_;rintro e w3⟨aZ,cZ,rfl,hZ,n⟩;have y:=s.trans n;have hh:=C w3 y;go_wp2_with fail;refine cm (S _ y) fun w4 P=>?_;have M:=y.trans P;have hi:=C w4 M;go_wp2_with fail;refine cm (c3 _ M) fun w5 U=>?_;have L:=M.trans U;have hj:=C w5 L;go_wp2_with fail;refine cm (V _ L) fun w6 i=>?_;have J:=L.trans i;have hc:=hZ.ext (P.trans (U.trans i));have hk:=fun u=>C _ (J.trans (c9 w6 u));have E:=er w6;go_wp2_with fail;refine wl E ?_;(repeat(go_big_quiet_step(first|(go_at_call 113;with_reducible exact oa (Q _ _ (J.trans (c9 w6 _)) (hc.ext (c9 w6 _))))|(go_at_call 54;first|with_reducible exact oa (b _ (J.trans (c9 w6 _)))|with_reducible exact oa (K _ (J.trans (c9 w6 _)))|with_reducible exact oa (d _ (J.trans (c9 w6 _)))))));refine zd fun W E=>?_;go_wp2_with fail;go_ret;exact⟨j5 N.o.symm,F.trans (J.trans E)⟩
end Go.Zz
