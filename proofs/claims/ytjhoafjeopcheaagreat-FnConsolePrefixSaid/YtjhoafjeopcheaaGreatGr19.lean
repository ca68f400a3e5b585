/- Defects of sums, periods, lr6 differences, the case of Kemperman. -/
import Derived.Test.YtjhoafjeopcheaaGreatGr18
set_option linter.all false
set_option maxHeartbeats 1000000
set_option maxRecDepth 20000
namespace Go.Zz
open Go.RowKit Go.Proofs
variable(v:Value)(l:LI)(a b:Int)(u:Value)(M:LI)(x:Int)(w:World){c:Bool}{k n:Nat}{L:LI}
def sdF(l:LI)(a b:Int):Int:=if B8 l a b then(cnt (j7 l a.toNat b.toNat):Int)-cnt a.toNat-cnt b.toNat+1 else -100
theorem j37{l:LI}{a b:Int}(h:B8 l a b=false):sdF l a b = -100:=by unfold sdF;rw[h];rfl
theorem dd7{l:LI}{a b:Nat}(h:B8 l a b=true):sdF l a b=(cnt (j7 l a b):Int)-cnt a-cnt b+1:=by unfold sdF;rw[if_pos h];rfl
theorem jz6(h:B8 l a b=true) : -47<=sdF l a b/\sdF l a b<=25:=by
 obtain⟨m,n,rfl,rfl,-⟩:=N6 h;rw[dd7 h];have:=p8 (j7 l m n);have:=p8 m;have:=p8 n;omega
theorem ja6{l:LI}(h:d7 l=true){a:Nat}(A:a<2^ord l):j6 l a 0=a:=by
 apply oK;intro i;apply b18;rw[E8];constructor;rintro⟨y,_,H,e⟩;rw[C9 l (m0 h) y (L7 A H)]at e;subst e;exact H;intro J;have:=L7 A J;exact⟨i,nlt this (l8 h).2,J,C9 l (m0 h) i this⟩
theorem de5{l:LI}{a x:Nat}:(b25 l a k).testBit x=true↔x<k/\j6 l a x=a:=by
 unfold b25;rw[Q0];simp
theorem jn9{l:LI}(h:d7 l=true){a:Nat}(H:a<2^ord l):(F0 l a).testBit 0=true :=
 de5.2 ⟨(l8 h).1,ja6 h H⟩
theorem jk6(h:n.testBit 0=true)(H:n<2^24):1<cnt n↔1<n:=by
 rw[ps]at h;have o:n%2=1:=of_decide_eq_true h;have r:=ds2 n H;by_cases T:1<n;have:=U3 (a:=n/2) om om;omega;have e:n/2=0:=om;rw[e,Z1]at r;omega
def P8(l:LI)(a:Int):Bool:=j0 l a&&decide (1<F0 l a.toNat)
theorem jh6{l:LI}{a:Int}(h:j0 l a=false):P8 l a=false:=by unfold P8;rw[h];rfl
theorem j08{l:LI}(h:j0 l n=true):P8 l n=decide (1<F0 l n):=by unfold P8;rw[h];rfl
def ch3(M:LI)(x:Int):Int:=match(List.range M.length).find? (fun k=>decide (nth M k=x))with|some k=>(k:Int)|none=>-1
theorem lk8{M:LI}{x:Int}(V:k<M.length)(h:∀j,j<k->nth M j≠x)(e:nth M k=x):ch3 M x=k:=by
 unfold ch3;rw[bk0 V (fun j H=>decide_eq_false (h j H)) (decide_eq_true e)]
theorem dh8{M:LI}{x:Int}(h:∀j,j<M.length->nth M j≠x):ch3 M x = -1:=by
 unfold ch3;rw[bf5 (fun j H=>decide_eq_false (h j H))]
theorem jg7{M:LI}{x:Int}(h:∀j,j<M.length->nth M j≠x):x ∉ M:=fun K=>by
 obtain⟨k,V,e⟩:=bg1 K;exact h k V e
def bc1(M:LI)(x:Int):Bool:=decide (x∈M)
theorem l89:decide (0<=ch3 M x)=bc1 M x:=by
 by_cases h:∃k,k<M.length/\nth M k=x
 . have:x∈M:=(by obtain⟨k,V,e⟩:=h;rw[<-e];exact b78 V);have m:bc1 M x=true:=decide_eq_true this;rw[m,decide_eq_true_eq];unfold ch3;cases f:(List.range M.length).find? (fun k=>decide (nth M k=x))with
   |some k=>simp only[];omega
   |none =>
    rw[List.find?_eq_none]at f;obtain⟨k,V,e⟩:=h;exact absurd (decide_eq_true e) (f k (ou.2 V))
 have H:∀j,j<M.length->nth M j≠x:=fun j J e=>h ⟨j,J,e⟩;rw[dh8 H];have m:bc1 M x=false:=decide_eq_false (jg7 H);rw[m];rfl
def jk9(L M:LI):Option Nat:=(List.range L.length).find? (fun k=>bc1 M (nth L k))
def cf1(L M:LI):Int:=match jk9 L M with|some k=>nth L k|none=>0
def bu1(L M:LI):Bool:=(jk9 L M).isSome
theorem jr1{M:LI}(V:k<L.length)(h:∀j,j<k->bc1 M (nth L j)=false)(e:bc1 M (nth L k)=true):cf1 L M=nth L k/\bu1 L M=true:=by
 unfold cf1 bu1 jk9;rw[bk0 V h e];exact⟨rfl,rfl⟩
theorem ds8{M:LI}(h:∀j,j<L.length->bc1 M (nth L j)=false):cf1 L M=0/\bu1 L M=false:=by
 unfold cf1 bu1 jk9;rw[bf5 h];exact⟨rfl,rfl⟩
theorem N4(h:c8 w v l)(H:B8 l a b=c):Calls Tryz.prog 74 #[.agg #[v],vi a,vi b] w (RE w (.bool c)):=by subst H;exact c07 v l a b w h
theorem Z0(h:c8 w v l):Calls Tryz.prog 199 #[.agg #[v],vi a,vi b] w (RE w (vi (sdF l a b))):=by
 obtain⟨B,Z,F,C,H,E,s⟩:=m04 42 h;clear h;have x:=C B E;cases f:B8 l a b
 . have N:=zh (j37 f);go_in;go_wp2_with fail;rw[<-Z.o];go_wp2_with(first|(go_at_call 74;refine cx (N4 _ _ _ _ _ (H _ E) f) E fun W E=>?_));go_ret;exact zz42
 have j:=f;obtain⟨m,n,rfl,rfl,-,-,-,-,A,c,Y,-,-⟩:=N6 f;have N:=zh (dd7 j);have R:=zh Y;have q:=H7 Y m n;have d:=p8 (j7 l m n);have Q:=p8 m;have i:=p8 n;clear Y j;go_in;go_wp2_with fail;rw[<-Z.o];go_wp2_with(first|(go_at_call 74;refine cx (N4 _ _ _ _ _ (H _ E) f) E fun W E=>?_)|(go_at_call 75;refine cx (J2 _ _ _ _ _ (H _ E) (R) (A) (c)) E fun W E=>?_)|(go_at_call 78;(first|(with_reducible refine od (C6 _ q _) ?_)|(with_reducible refine od (C6 _ A _) ?_)|(with_reducible refine od (C6 _ c _) ?_));rintro e W⟨rfl,rfl⟩));go_ret;exact zz42
theorem W1(h:c8 w v l):Calls Tryz.prog 236 #[.agg #[v],vi a,vi b] w (RE w (vi (sdF l a b))):=by
 obtain⟨B,Z,F,C,H,E,s⟩:=m04 42 h;clear h;have x:=C B E;cases f:B8 l a b
 . have N:=zh (j37 f);cases U:j0 l a
   ·
      go_in
      go_wp2_with fail
      rw[<-Z.o]
      go_wp2_with(first|(go_at_call 124;refine cx (m6 _ _ _ _ (H _ E) (U)) E fun W E=>?_))
      go_ret
      exact zz42
   cases r:j0 l b
   ·
      go_in
      go_wp2_with fail
      rw[<-Z.o]
      go_wp2_with(first|(go_at_call 124;(first|(with_reducible refine od (m6 _ _ a _ (H _ E) U) ?_)|(with_reducible refine od (m6 _ _ b _ (H _ E) r) ?_));rintro e W⟨rfl,V⟩;replace E:=E.trans V;clear V))
      go_ret
      exact zz42
   cases T:(a == 0)
   . have c:(b == 0)=true:=(by unfold B8 at f;rw[U,r,T]at f;simpa using f);clear f
     ·
        go_in
        go_wp2_with fail
        rw[<-Z.o]
        go_wp2_with(first|(go_at_call 124;(first|(with_reducible refine od (m6 _ _ a _ (H _ E) U) ?_)|(with_reducible refine od (m6 _ _ b _ (H _ E) r) ?_));rintro e W⟨rfl,V⟩;replace E:=E.trans V;clear V))
        go_ret
        exact zz42
   clear f
   ·
      go_in
      go_wp2_with fail
      rw[<-Z.o]
      go_wp2_with(first|(go_at_call 124;(first|(with_reducible refine od (m6 _ _ a _ (H _ E) U) ?_)|(with_reducible refine od (m6 _ _ b _ (H _ E) r) ?_));rintro e W⟨rfl,V⟩;replace E:=E.trans V;clear V))
      go_ret
      exact zz42
 have j:=f;obtain⟨m,n,rfl,rfl,T,c,-,-,A,d,Y,U,r⟩:=N6 f;have N:=zh (dd7 j);have R:=zh Y;have q:=H7 Y m n;have g:=p8 (j7 l m n);have Q:=p8 m;have i:=p8 n;have p:((m:Int) == 0)=false:=zso;have t:((n:Int) == 0)=false:=zso;clear Y j f T c;go_in;go_wp2_with fail;rw[<-Z.o];go_wp2_with(first|(go_at_call 124;(first|(with_reducible refine od (m6 _ _ (m:Int) _ (H _ E) U) ?_)|(with_reducible refine od (m6 _ _ (n:Int) _ (H _ E) r) ?_));rintro e W⟨rfl,V⟩;replace E:=E.trans V;clear V)|(go_at_call 145;refine cx (E6 _ _ _ _ _ (H _ E) (R) (A) (d)) E fun W E=>?_)|(go_at_call 125;(first|(with_reducible refine od (o7 _ q _) ?_)|(with_reducible refine od (o7 _ A _) ?_)|(with_reducible refine od (o7 _ d _) ?_));rintro e W⟨rfl,rfl⟩));go_ret;exact zz42
theorem bj7(h:c8 w v l):Calls Tryz.prog 200 #[.agg #[v],vi a] w (RE w (.bool (P8 l a))):=by
 obtain⟨B,Z,F,C,H,E,z⟩:=m04 42 h;clear h;have b:=C B E;cases S:j0 l a
 . have N:=zh (jh6 S);go_in;go_wp2_with fail;rw[<-Z.o];go_wp2_with(first|(go_at_call 180;refine cx (q6 _ _ _ _ (H _ E) (S)) E fun W E=>?_));exact zz9
 obtain⟨n,rfl,U,r,Y⟩:=l7 S;have s:F0 l n<2^24:=nlt (be4 l _) (E7 Y);have N:Hid (P8 l n=decide ((1:Int)<(cnt (F0 l n):Int))):=zh (by
  rw[j08 S];have:=jk6 (jn9 Y U) s;by_cases e:1<F0 l n;rw[decide_eq_true e,decide_eq_true om];rw[decide_eq_false e,decide_eq_false om])
 clear Y U;go_in;go_wp2_with fail;rw[<-Z.o];go_wp2_with(first|(go_at_call 180;refine cx (q6 _ _ _ _ (H _ E) (S)) E fun W E=>?_)|(go_at_call 86;refine cx (b58 _ _ _ _ (H _ E) S) E fun W E=>?_)|(go_at_call 78;refine(C6 _ (s) _).mono ?_;rintro e W⟨rfl,rfl⟩));go_ret;exact⟨j1 (by rw[N.o]),F.trans E⟩
theorem N3(h:c8 w v l)(H:P8 l a=c):Calls Tryz.prog 200 #[.agg #[v],vi a] w (RE w (.bool c)):=by subst H;exact bj7 v l a w h
theorem bi9(h:c8 w v l):Calls Tryz.prog 226 #[.agg #[v],vi a] w (RE w (.bool (P8 l a))):=by
 obtain⟨B,Z,F,C,H,E,s⟩:=m04 42 h;clear h;have b:=C B E;cases S:j0 l a
 . have N:=zh (jh6 S);go_in;go_wp2_with fail;rw[<-Z.o];go_wp2_with(first|(go_at_call 124;refine cx (m6 _ _ _ _ (H _ E) (S)) E fun W E=>?_));exact zz9
 obtain⟨n,rfl,U,r,Y⟩:=l7 S;have R:=zh Y;have N:Hid (P8 l n=decide ((1:Int)<(F0 l n:Int))):=zh (by
  rw[j08 S];by_cases e:1<F0 l n;rw[decide_eq_true e,decide_eq_true om];rw[decide_eq_false e,decide_eq_false om])
 clear Y U;go_in;go_wp2_with fail;rw[<-Z.o];go_wp2_with(first|(go_at_call 124;refine cx (m6 _ _ _ _ (H _ E) (S)) E fun W E=>?_)|(go_at_call 127;refine cx (b08 _ _ _ _ (H _ E) (R) (r)) E fun W E=>?_));go_ret;exact⟨j1 (by rw[N.o]),F.trans E⟩
theorem M6(h:c8 w v l)(H:P8 l a=c):Calls Tryz.prog 226 #[.agg #[v],vi a] w (RE w (.bool c)):=by subst H;exact bi9 v l a w h
theorem d75(h:c8 w u M):Calls Tryz.prog 295 #[u,vi x] w fun e W=>e=.returned (vi (ch3 M x))/\w=W:=by
 obtain⟨Q,c,d,rfl,L,a,l⟩:=h.op;have I:=j2 (c:=c) elI szI a;have D:Hid (∀k,k<M.length->(∀j,j<k->nth M j≠x)->nth M k=x->ch3 M x=k):=zh fun k V h e=>lk8 V h e;clear h a;go_in;go_wp2_with fail;go_loop [8] (fun i=>∃k:Nat,k<=M.length/\i=vi k/\∀j,j<k->nth M j≠x) (fun i=>M.length-(intOf i).toNat);exact⟨0,om,rfl,om⟩
 obtain⟨k,V,rfl,N⟩:=hrel;have n:=zh N;clear N;by_cases U:k<M.length
 . have C:=l k w U (er w);by_cases e:nth M k=x
   . have H:=zh (D.o k U n.o e);have q:(x == nth M k)=true:=(by rw[e];simp);clear e;go_wp2_with fail;go_ret;exact⟨o3 H.o.symm,rfl⟩
   have O:=zh e;have q:(x == nth M k)=false:=(by simp;exact fun h=>e h.symm);clear e;go_wp2_with fail;go_round;exact⟨k+1,om,zg,fun j J=>by by_cases e:j=k;(subst e;exact O.o);exact n.o j om⟩;exact zm1
 have K:k=M.length:=om;subst K;have H:=zh (dh8 n.o);go_wp2_with fail;go_ret;exact⟨o3 H.o.symm,rfl⟩
theorem cl3(h:c8 w u M):Calls Tryz.prog 240 #[u,vi x] w fun e W=>e=.returned (.bool (bc1 M x))/\w=W:=by
 have H:=zh (l89 M x);go_in;go_wp2_with(first|(go_at_call 295;refine(d75 _ _ _ _ h).mono ?_;rintro e W⟨rfl,rfl⟩));go_ret;exact⟨j1 (by rw[H.o]),rfl⟩
theorem b24(h:c8 w u M)(H:bc1 M x=c):Calls Tryz.prog 240 #[u,vi x] w fun e W=>e=.returned (.bool c)/\w=W:=by subst H;exact cl3 u M x w h
theorem c60(h:c8 w v l):Calls Tryz.prog 198 #[.agg #[v],vi a,vi b] w (RE w (.tuple #[vi (cf1 (Q9 l a) (Q9 l b)),.bool (bu1 (Q9 l a) (Q9 l b))])):=by
 obtain⟨B,Z,F,C,H,E,T⟩:=m04 42 h;clear h;have x:=C B E;go_in;go_wp2_with fail;rw[<-Z.o];refine(bb4 _ _ _ _ (H _ E)).mono ?_;rintro e G⟨u1,rfl,O,z⟩;have y:=C _ z;go_wp2_with fail;refine(bb4 _ _ _ _ (H _ z)).mono ?_;rintro e m⟨u2,rfl,d,I⟩;have Y:=fun W (D:Ext m W)=>(O.ints.ext I).ext D;have X:=d.ints;obtain⟨M,s⟩:∃M,Hid (M=Q9 l b):=⟨_,zh rfl⟩;obtain⟨L,q⟩:∃L,Hid (L=Q9 l a):=⟨_,zh rfl⟩;have A:=z.trans I;rw[<-s.o]at Y;rw[<-q.o]at X;clear O d z I E x y;obtain⟨aL,S,aa,rfl,he,r,f⟩:=X.op;have hc:=j2 (c:=S) elI szI r;have R:=Y m (er m);clear r X Y;go_wp2_with fail;go_loop [18] (fun i=>∃k:Nat,k<=L.length/\i=vi k/\∀j,j<k->bc1 M (nth L j)=false) (fun i=>L.length-(intOf i).toNat);exact⟨0,om,rfl,om⟩
 obtain⟨k,V,rfl,J⟩:=hrel;have N:=zh J;clear J;by_cases U:k<L.length
 . have ha:=f k m U (er m);cases p:bc1 M (nth L k)
   . have Q:=zh p;go_wp2_with(first|(go_at_call 240;refine(b24 _ _ _ _ R p).mono ?_;rintro e P⟨rfl,rfl⟩));go_round;exact⟨k+1,om,zg,fun j g=>by by_cases e:j=k;(subst e;exact Q.o);exact N.o j om⟩;exact zm1
   have n:=zh (jr1 U N.o p);go_wp2_with(first|(go_at_call 240;refine(b24 _ _ _ _ R p).mono ?_;rintro e P⟨rfl,rfl⟩));exact br (.tuple #[vi (nth L k),.bool true]) ⟨by rw[<-q.o,<-s.o,n.o.1,n.o.2],F.trans A⟩
 have K:k=L.length:=om;subst K;have n:=zh (ds8 N.o);go_wp2_with fail;exact br (.tuple #[vi 0,.bool false]) ⟨by rw[<-q.o,<-s.o,n.o.1,n.o.2],F.trans A⟩
theorem c52(h:c8 w v l):Calls Tryz.prog 237 #[.agg #[v],vi a,vi b] w (RE w (.tuple #[vi (cf1 (Q9 l a) (Q9 l b)),.bool (bu1 (Q9 l a) (Q9 l b))])):=by
 obtain⟨B,Z,F,C,H,E,Hz⟩:=m04 42 h;clear h;have Q:=C B E;go_in;go_wp2_with fail;rw[<-Z.o];refine(ba3 _ _ _ _ (H _ E)).mono ?_;rintro e G⟨u1,rfl,O,z⟩;have hc:=C _ z;go_wp2_with fail;refine(ba3 _ _ _ _ (H _ z)).mono ?_;rintro e m⟨u2,rfl,d,I⟩;have X:=O.ints.ext I;have Y:=d.ints;obtain⟨M,s⟩:∃M,Hid (M=Q9 l b):=⟨_,zh rfl⟩;obtain⟨L,r⟩:∃L,Hid (L=Q9 l a):=⟨_,zh rfl⟩;have p:=z.trans I;rw[<-s.o]at Y;rw[<-r.o]at X;clear O d z I E Q hc;obtain⟨aL,R,aa,rfl,hm,A,f⟩:=X.op;have hh:=j2 (c:=R) elI szI A;obtain⟨aM,S,ab,rfl,ho,D,ha⟩:=Y.op;have hn:=j2 (c:=S) elI szI D;clear A X Y D;have E:=er m;go_wp2_with fail;go_loopw [10] (fun i wr=>∃k:Nat,k<=L.length/\i=vi k/\(∀j,j<k->bc1 M (nth L j)=false)/\Ext m wr) (fun i _=>L.length-(intOf i).toNat);exact⟨0,om,rfl,om,E⟩
 clear E;obtain⟨k,V,rfl,K,E⟩:=hrel;have N:=zh K;clear K;by_cases U:k<L.length
 . go_wp2_with fail;go_loopw [11] (fun i wr=>∃q:Nat,q<=M.length/\i=vi q/\(∀j,j<q->nth M j≠nth L k)/\Ext m wr) (fun i _=>M.length-(intOf i).toNat);exact⟨0,om,rfl,om,E⟩;case round =>
    clear E;obtain⟨q,hq,rfl,P,E⟩:=hrel;have g:=zh P;clear P;by_cases T:q<M.length
    . have hf:=fun J=>f k _ U (c9 m J);have hi:=fun J=>ha q _ T (c9 m J);by_cases e:nth L k=nth M q
      . have n:=zh (jr1 U N.o (show bc1 M (nth L k)=true from decide_eq_true (by rw[e];exact b78 T)));have he:(nth L k == nth M q)=true:=(by rw[e];simp);clear e;go_wp2_with fail;refine wl E ?_;(repeat(go_big_quiet_step(first|fail)));refine zd fun W E=>?_;have hp:=f k _ U E;go_wp2_with fail;exact br (.tuple #[vi (nth L k),.bool true]) ⟨by rw[<-r.o,<-s.o,n.o.1,n.o.2],F.trans (p.trans E)⟩
      . have Hq:=zh e;have he:(nth L k == nth M q)=false:=(by simp;exact e);clear e;go_wp2_with fail;refine wl E ?_;(repeat(go_big_quiet_step(first|fail)));refine zd fun W E=>?_;go_wp2_with fail;go_roundw;exact⟨q+1,om,zg,fun j x=>by by_cases e:j=q;(subst e;exact fun e=>Hq.o e.symm);exact g.o j om,E⟩;exact zm1
    . have hl:q=M.length:=om;subst hl;have Hm:Hid (bc1 M (nth L k)=false):=zh (decide_eq_false (jg7 g.o));go_wp2_with fail;go_roundw;exact⟨k+1,om,zg,fun j x=>by by_cases e:j=k;(subst e;exact Hm.o);exact N.o j om,E⟩;exact zm1
 have y:k=L.length:=om;subst y;have n:=zh (ds8 N.o);go_wp2_with fail;exact br (.tuple #[vi 0,.bool false]) ⟨by rw[<-r.o,<-s.o,n.o.1,n.o.2],F.trans (p.trans E)⟩
def kcF(l:LI)(a b:Int):Ba :=
 if B8 l a b then
  if 0<sdF l a b then⟨#[108,97,114,103,101]⟩else if P8 l (j7 l a.toNat b.toNat:Nat)then⟨#[112,101,114,105,111,100,105,99]⟩
  else if cnt a.toNat=1\/cnt b.toNat=1 then⟨#[111,110,101]⟩else if bu1 (Q9 l a) (Q9 l b)then⟨#[115,116,101,112,115]⟩else⟨#[111,116,104,101,114]⟩
 else⟨#[]⟩
theorem lg3{l:LI}{a b:Int}(h:B8 l a b=false):kcF l a b=⟨#[]⟩:=by unfold kcF;rw[h];rfl
theorem lt8{l:LI}{a b:Nat}(h:B8 l a b=true)(o:0<sdF l a b):kcF l a b=⟨#[108,97,114,103,101]⟩:=by unfold kcF;rw[if_pos h,if_pos o]
theorem lt9{l:LI}{a b:Nat}(h:B8 l a b=true)(o:¬0<sdF l a b)(r:P8 l (j7 l a b:Nat)=true):kcF l a b=⟨#[112,101,114,105,111,100,105,99]⟩:=by
 unfold kcF;rw[if_pos h,if_neg o];exact if_pos r
theorem lu0{l:LI}{a b:Nat}(h:B8 l a b=true)(o:¬0<sdF l a b)(r:P8 l (j7 l a b:Nat)=false)(T:cnt a=1\/cnt b=1):kcF l a b=⟨#[111,110,101]⟩:=by
 unfold kcF;rw[if_pos h,if_neg o,if_neg (by simp only[oY];rw[r];decide)];exact if_pos T
theorem lu1{l:LI}{a b:Nat}(h:B8 l a b=true)(o:¬0<sdF l a b)(r:P8 l (j7 l a b:Nat)=false)(T:¬(cnt a=1\/cnt b=1))(H:bu1 (Q9 l a) (Q9 l b)=true):kcF l a b=⟨#[115,116,101,112,115]⟩:=by
 unfold kcF;rw[if_pos h,if_neg o,if_neg (by simp only[oY];rw[r];decide),if_neg (by simpa using T)];exact if_pos H
theorem lu2{l:LI}{a b:Nat}(h:B8 l a b=true)(o:¬0<sdF l a b)(r:P8 l (j7 l a b:Nat)=false)(T:¬(cnt a=1\/cnt b=1))(H:bu1 (Q9 l a) (Q9 l b)=false):kcF l a b=⟨#[111,116,104,101,114]⟩:=by
 unfold kcF;rw[if_pos h,if_neg o,if_neg (by simp only[oY];rw[r];decide),if_neg (by simpa using T),if_neg (by rw[H];decide)]
theorem zz2{P:Prop}(h:P:=by go_in;go_wp2_with fail;rw[<-Z.o];go_wp2_with(first|(go_at_call 74;refine cx (N4 _ _ _ _ _ (H _ E) f) E fun P E=>?_)|(go_at_call 198;refine cx (O _ E) E fun P E=>?_)|(go_at_call 199;refine cx (Z0 _ _ _ _ _ (H _ E)) E fun P E=>?_));refine wl E ?_;(repeat(go_big_quiet_step(first|(go_at_call 75;exact oa (J2 _ _ _ _ _ (H _ (c9 B _)) R A c))|(go_at_call 200;exact oa (N3 _ _ _ _ (H _ (c9 B _)) S)))));refine zd fun W E=>?_;go_wp2_with(first|(go_at_call 78;(first|(with_reducible refine od (C6 _ A _) ?_)|(with_reducible refine od (C6 _ c _) ?_));rintro e P⟨rfl,rfl⟩));go_ret;exact⟨j5 z.o.symm,F.trans E⟩):P:=h
theorem zz16{P:Prop}(h:P:=by exact⟨j5 z.o.symm,F.trans E⟩):P:=h
theorem zz65{P:Prop}(h:P:=by go_ret;exact⟨j5 N.o.symm,F.trans E⟩):P:=h
theorem cp7(h:c8 w v l):Calls Tryz.prog 80 #[.agg #[v],vi a,vi b] w (RE w (.string (kcF l a b))):=by
 obtain⟨B,Z,F,C,H,E,L⟩:=m04 42 h;clear h;have M:=C B E;cases f:B8 l a b
 . have N:=zh (lg3 f);go_in;go_wp2_with fail;rw[<-Z.o];go_wp2_with(first|(go_at_call 74;refine cx (N4 _ _ _ _ _ (H _ E) f) E fun P E=>?_)|(go_at_call 199;refine(Z0 _ _ _ _ _ (H _ E)).mono ?_;try rw[hsd];rintro e P⟨rfl,V⟩;replace E:=E.trans V;clear V));exact zz65
 have k:=f;obtain⟨m,n,rfl,rfl,T,i,-,-,A,c,Y,X,r⟩:=N6 f;obtain⟨t,J⟩:∃t,Hid (t=cf1 (Q9 l m) (Q9 l n)):=⟨_,zh rfl⟩;obtain⟨s,g⟩:∃s,Hid (s=bu1 (Q9 l m) (Q9 l n)):=⟨_,zh rfl⟩;have R:=zh Y;have hc:=jz6 l m n k;have hm:=H7 Y m n;have hu:=fun I=>C _ (c9 B I);have he:(sdF l m n == -100)=false:=zso;have O:∀W,Ext B W->Calls Tryz.prog 198 #[.agg #[v],vi m,vi n] W (RE W (.tuple #[vi t,.bool s])):=fun W D=>(by rw[J.o,g.o];exact c60 _ _ _ _ _ (H _ D));have q:=zh k;have G:((cnt m:Int) == 1)=decide (cnt m=1):=(by rw[oA];simp;omega);have p:((cnt n:Int) == 1)=decide (cnt n=1):=(by rw[oA];simp;omega);clear Y T i X r k;by_cases Q:0<sdF l m n
 . have z:=zh (lt8 q.o Q);clear G p;go_in;go_wp2_with fail;rw[<-Z.o];go_wp2_with(first|(go_at_call 74;refine cx (N4 _ _ _ _ _ (H _ E) f) E fun P E=>?_)|(go_at_call 198;refine cx (O _ E) E fun P E=>?_)|(go_at_call 199;refine cx (Z0 _ _ _ _ _ (H _ E)) E fun P E=>?_));go_ret;exact zz16
 have j:=zh Q;have ca:sdF l m n<=0:=om;clear Q;cases S:P8 l (j7 l m n:Nat);have u:=zh S;by_cases c3:cnt m=1\/cnt n=1;have z:=zh (lu0 q.o j.o S c3);rcases (by omega:cnt m=1\/(¬cnt m=1/\cnt n=1))with d|⟨d,U⟩
 have K:((cnt m:Int) == 1)=true:=(by rw[G,decide_eq_true d]);clear G p c3 d;exact zz2;have K:((cnt m:Int) == 1)=false:=(by rw[G,decide_eq_false d]);have y:((cnt n:Int) == 1)=true:=(by rw[p,decide_eq_true U]);clear G p c3 d U;exact zz2;have x:=zh c3;have K:((cnt m:Int) == 1)=false:=(by rw[G,decide_eq_false (fun e=>c3 (Or.inl e))]);have y:((cnt n:Int) == 1)=false:=(by rw[p,decide_eq_false (fun e=>c3 (Or.inr e))]);clear G p c3;cases s;have z:=zh (lu2 q.o j.o u.o x.o g.o.symm);exact zz2;have z:=zh (lu1 q.o j.o u.o x.o g.o.symm);exact zz2;have z:=zh (lt9 q.o j.o S);clear G p;go_in;go_wp2_with fail;rw[<-Z.o];go_wp2_with(first|(go_at_call 74;refine cx (N4 _ _ _ _ _ (H _ E) f) E fun P E=>?_)|(go_at_call 198;refine cx (O _ E) E fun P E=>?_)|(go_at_call 199;refine cx (Z0 _ _ _ _ _ (H _ E)) E fun P E=>?_));refine wl E ?_;(repeat(go_big_quiet_step(first|(go_at_call 75;exact oa (J2 _ _ _ _ _ (H _ (c9 B _)) R A c))|(go_at_call 200;exact oa (N3 _ _ _ _ (H _ (c9 B _)) S)))));refine zd fun W E=>?_;go_wp2_with fail;go_ret;exact zz16
theorem zz3{P:Prop}(h:P:=by go_in;go_wp2_with fail;rw[<-Z.o];go_wp2_with(first|(fail)|(go_at_call 237;refine cx (O _ E) E fun P E=>?_)|(go_at_call 236;refine cx (W1 _ _ _ _ _ (H _ E)) E fun P E=>?_));refine wl E ?_;(repeat(go_big_quiet_step(first|(go_at_call 145;exact oa (E6 _ _ _ _ _ (H _ (c9 B _)) R A c))|(go_at_call 226;exact oa (M6 _ _ _ _ (H _ (c9 B _)) S)))));refine zd fun W E=>?_;go_wp2_with(first|(go_at_call 125;(first|(with_reducible refine od (o7 _ A _) ?_)|(with_reducible refine od (o7 _ c _) ?_));rintro e P⟨rfl,rfl⟩));go_ret;exact⟨j5 z.o.symm,F.trans E⟩):P:=h
theorem ck4(h:c8 w v l):Calls Tryz.prog 146 #[.agg #[v],vi a,vi b] w (RE w (.string (kcF l a b))):=by
 obtain⟨B,Z,F,C,H,E,M⟩:=m04 42 h;clear h;have hx:=C B E;cases X:B8 l a b
 . have N:=zh (lg3 X);have L:=j37 X;go_in;go_wp2_with fail;rw[<-Z.o];go_wp2_with(first|(fail)|(go_at_call 236;refine(W1 _ _ _ _ _ (H _ E)).mono ?_;try rw[L];rintro e P⟨rfl,V⟩;replace E:=E.trans V;clear V));exact zz65
 have k:=X;obtain⟨m,n,rfl,rfl,T,x,-,-,A,c,Y,i,r⟩:=N6 X;obtain⟨s,J⟩:∃s,Hid (s=cf1 (Q9 l m) (Q9 l n)):=⟨_,zh rfl⟩;obtain⟨q,g⟩:∃q,Hid (q=bu1 (Q9 l m) (Q9 l n)):=⟨_,zh rfl⟩;have R:=zh Y;have hc:=jz6 l m n k;have hm:=H7 Y m n;have hu:=fun I=>C _ (c9 B I);have he:(sdF l m n == -100)=false:=zso;have O:∀W,Ext B W->Calls Tryz.prog 237 #[.agg #[v],vi m,vi n] W (RE W (.tuple #[vi s,.bool q])):=fun W D=>(by rw[J.o,g.o];exact c52 _ _ _ _ _ (H _ D));have f:=zh k;have G:((cnt m:Int) == 1)=decide (cnt m=1):=(by rw[oA];simp;omega);have p:((cnt n:Int) == 1)=decide (cnt n=1):=(by rw[oA];simp;omega);clear Y T x i r k;by_cases Q:0<sdF l m n
 . have z:=zh (lt8 f.o Q);clear G p;go_in;go_wp2_with fail;rw[<-Z.o];go_wp2_with(first|(fail)|(go_at_call 237;refine cx (O _ E) E fun P E=>?_)|(go_at_call 236;refine cx (W1 _ _ _ _ _ (H _ E)) E fun P E=>?_));go_ret;exact zz16
 have j:=zh Q;have ca:sdF l m n<=0:=om;clear Q;cases S:P8 l (j7 l m n:Nat);have t:=zh S;by_cases c3:cnt m=1\/cnt n=1;have z:=zh (lu0 f.o j.o S c3);rcases (by omega:cnt m=1\/(¬cnt m=1/\cnt n=1))with d|⟨d,U⟩
 have K:((cnt m:Int) == 1)=true:=(by rw[G,decide_eq_true d]);clear G p c3 d;exact zz3;have K:((cnt m:Int) == 1)=false:=(by rw[G,decide_eq_false d]);have y:((cnt n:Int) == 1)=true:=(by rw[p,decide_eq_true U]);clear G p c3 d U;exact zz3;have u:=zh c3;have K:((cnt m:Int) == 1)=false:=(by rw[G,decide_eq_false (fun e=>c3 (Or.inl e))]);have y:((cnt n:Int) == 1)=false:=(by rw[p,decide_eq_false (fun e=>c3 (Or.inr e))]);clear G p c3;cases q;have z:=zh (lu2 f.o j.o t.o u.o g.o.symm);exact zz3;have z:=zh (lu1 f.o j.o t.o u.o g.o.symm);exact zz3;have z:=zh (lt9 f.o j.o S);clear G p;go_in;go_wp2_with fail;rw[<-Z.o];go_wp2_with(first|(fail)|(go_at_call 237;refine cx (O _ E) E fun P E=>?_)|(go_at_call 236;refine cx (W1 _ _ _ _ _ (H _ E)) E fun P E=>?_));refine wl E ?_;(repeat(go_big_quiet_step(first|(go_at_call 145;exact oa (E6 _ _ _ _ _ (H _ (c9 B _)) R A c))|(go_at_call 226;exact oa (M6 _ _ _ _ (H _ (c9 B _)) S)))));refine zd fun W E=>?_;go_wp2_with fail;go_ret;exact zz16
end Go.Zz
