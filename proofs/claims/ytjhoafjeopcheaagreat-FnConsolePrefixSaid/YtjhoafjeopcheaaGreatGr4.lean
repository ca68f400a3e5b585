/- Elements and sets: add, shift, sum, areSets, FullSet. -/
import Derived.Test.YtjhoafjeopcheaaGreatGr3
import Derived.Deep.RegionHeld3
import Derived.Deep.RegionWith
set_option linter.all false
set_option maxHeartbeats 400000
set_option maxRecDepth 4000
namespace Go.Zz
open Go.RowKit Go.Proofs
variable(v u:Value)(l:LI)(a b i:Nat)(L:LN)(x y:Nat)(w:World){s q t A k left n c:Nat}{f:Nat->Nat}
theorem cm2{u:Nat}(h:s+u*t=A)(H:A<24):s<24:=om
theorem cp4(n:Nat)(h:n<=9223372036854775807):wrap64 (n:Int)=(n:Int):=IntWalk.wrap64_in _ om
theorem br8{x:Nat}(K:x<=16777216):Value.int .i64 (wrap64 ((x:Int)/(q:Int)))=vi ((x/q:Nat):Int):=by
 have h:=po x q;rw[show((x:Int)/(q:Int))=((x/q:Nat):Int)from(qa x q).symm];generalize x/q=d at h|-;rw[cp4 d om]
theorem co6(u q:Nat):Value.int .i64 ((u:Int)*(q:Int))=vi ((u*q:Nat):Int):=by rw[oO]
theorem j48{x y u:Nat}(S:s<24)(h:0<=((x:Int)%(q:Int)+(y:Int)%(q:Int))%(q:Int)*(u:Int))(o:((x:Int)%(q:Int)+(y:Int)%(q:Int))%(q:Int)*(u:Int)<=331776):Value.int .i64 (wrap64 ((s:Int)+wrap64 (((x:Int)+(y:Int))%(q:Int)*(u:Int))))=vi ((s+((x%q+y%q)%q)*u:Nat):Int):=by
 have c:((((x%q+y%q)%q)*u:Nat):Int)=((x:Int)%(q:Int)+(y:Int)%(q:Int))%(q:Int)*(u:Int):=by
  rw[oO,pn,Int.natCast_add,pn,pn]
 rw[<-c]at h o;rw[show((x:Int)+(y:Int))%(q:Int)*(u:Int)=((((x%q+y%q)%q)*u:Nat):Int)from by rw[c,Int.add_emod]];generalize ((x%q+y%q)%q)*u=d at h o|-;rw[cp4 d om,<-Int.natCast_add,cp4 (s+d) om]
theorem c63{u d:Nat}(h:s+u*(d+q*t)=A):(s+d*u)+(u*q)*t=A:=by
 rw[Nat.mul_add,<-Nat.mul_assoc,qE u d]at h;omega
theorem zz125{P:Prop}(h:P:=by have z:k=l.length:=om;subst z;go_wp2_with fail;go_ret;exact⟨o3 (by have:=N.o;rw[qi]at this;simp[j9]at this;omega),F.trans E⟩):P:=h
theorem O7(h:c8 w v l)(R:Hid (d7 l=true))(K:x<16777216)(I:y<16777216):Calls Tryz.prog 271 #[.agg #[v],vi x,vi y] w (RE w (vi (j9 l x y))):=by
 obtain⟨Q,c,ar,rfl,hn,a,L⟩:=h.op;have hc:=j2 (c:=c) elI szI a;clear a h;obtain⟨B,b⟩:=nq (w.alloc (.cells #[.slice Q l.length c] 42));have F:=(er w).alloc (.cells #[.slice Q l.length c] 42);rw[<-b]at F;have E:=er B;have Z:=zh b;have A:=b14 R.o x y;have T:=E5 R.o;clear b;go_in;go_wp2_with fail;rw[<-Z.o];go_loopw [1,2,7,8,14] (fun f yv g uv i wr=>∃k X Y s u:Nat,k<=l.length/\X<=x/\Y<=y/\s+u*j9 (l.drop k) X Y=j9 l x y/\(u:Int)=C5 (l.take k)/\f=vi X/\yv=vi Y/\g=vi s/\uv=vi u/\i=vi k/\Ext B wr) (fun _ _ _ _ i _=>l.length-(intOf i).toNat);exact⟨0,x,y,0,1,om,om,om,zm,by simp[C5],rfl,rfl,rfl,rfl,rfl,E⟩
 clear E;obtain⟨k,X,Y,s,u,V,d,e,S,H,rfl,rfl,rfl,rfl,rfl,E⟩:=hrel;have J:=cm2 S A;obtain⟨hb,G⟩:=b54 k l V om (fun j hj=>G4 R.o om);rw[<-H]at hb G;have N:=zh S;have p:=zh H;clear S H A;by_cases U:k<l.length
 . have he:=L k _ U (F.trans E);obtain⟨n,r⟩:=G4 R.o U;obtain⟨q,t⟩:=pl (show 0<=nth l k by omega);have D:=zh (df0 U t X Y);have O:nth l k*C5 (l.take k)=C5 (l.take (k+1)):=(by rw[Z9 l k U,qs]);have Ha:=zh O;rw[t]at n r;have M:=zh t;have hd:(X%q+Y%q)%q<24:=nlt (pu _ om) om;have m:((X%q+Y%q)%q)*u<=24*13824:=pm om om;have ha:u*q<=13824*24:=pm om om;have P:((X%q+Y%q:Nat):Int)=(X:Int)%(q:Int)+(Y:Int)%(q:Int):=zm;have C:((((X%q+Y%q)%q)*u:Nat):Int)=((X:Int)%(q:Int)+(Y:Int)%(q:Int))%(q:Int)*(u:Int):=(by rw[oO,pn,P]);have c3:((u*q:Nat):Int)=(u:Int)*(q:Int):=oO _ _;have b1:(X:Int)%(q:Int)<24:=(by have:=pX (X:Int) (show(0:Int)<q by omega);omega);have b2:(Y:Int)%(q:Int)<24:=(by have:=pX (Y:Int) (show(0:Int)<q by omega);omega);have b3:0<=(X:Int)%(q:Int):=qw _ om;have b4:0<=(Y:Int)%(q:Int):=qw _ om;have b5:((X:Int)%(q:Int)+(Y:Int)%(q:Int))%(q:Int)*(u:Int)<=331776:=(by rw[<-C];omega);have b6:0<=((X:Int)%(q:Int)+(Y:Int)%(q:Int))%(q:Int)*(u:Int):=(by rw[<-C];omega);have b7:(u:Int)*(q:Int)<=331776:=(by rw[<-c3];omega);have b8:0<=(u:Int)*(q:Int):=(by rw[<-c3];omega);have C2:=zh C;have C3:=zh c3;clear P C c3 hd m ha O;go_wp2_with fail;refine wl E ?_;(repeat(go_big_quiet_step(first|fail)));refine zd fun W E=>?_;go_wp2_with fail;refine wl E ?_;(repeat(go_big_quiet_step(first|fail)));refine zd fun W E=>?_;go_wp2_with fail;go_roundw;case rel =>
    refine⟨k+1,X/q,Y/q,s+((X%q+Y%q)%q)*u,u*q,om,nle (po _ _) d,nle (po _ _) e,?_,?_,?_,?_,?_,?_,zg,E⟩
    . apply c63;rw[<-D.o];exact N.o
    . rw[<-Ha.o,<-p.o,M.o];push_cast;rw[qs]
    . exact br8 (nle d (qH K))
    . exact br8 (nle e (qH I))
    . exact j48 J b6 b5
    . exact co6 u q
   case measure=>exact zm1
 exact zz125
theorem G8(h:c8 w v l)(R:Hid (d7 l=true))(K:x<16777216)(I:y<16777216):Calls Tryz.prog 220 #[.agg #[v],vi x,vi y] w (RE w (vi (j9 l x y))):=by
 obtain⟨Q,c,ar,rfl,hn,d,L⟩:=h.op;have hg:=j2 (c:=c) elI szI d;clear d h;obtain⟨B,b⟩:=nq (w.alloc (.cells #[.slice Q l.length c] 42));have F:=(er w).alloc (.cells #[.slice Q l.length c] 42);have C:=d8 w (.slice Q l.length c) 42;rw[<-b]at F C;have E:=er B;have Z:=zh b;have A:=b14 R.o x y;have T:=E5 R.o;clear b;go_in;go_wp2_with fail;rw[<-Z.o];go_loopw [1,2,7,8,9] (fun g yv p uv i wr=>∃k X Y s u:Nat,k<=l.length/\X<=x/\Y<=y/\s+u*j9 (l.drop k) X Y=j9 l x y/\(u:Int)=C5 (l.take k)/\g=vi X/\yv=vi Y/\p=vi s/\uv=vi u/\i=vi k/\Ext B wr) (fun _ _ _ _ i _=>l.length-(intOf i).toNat);exact⟨0,x,y,0,1,om,om,om,zm,by simp[C5],rfl,rfl,rfl,rfl,rfl,E⟩
 clear E;obtain⟨k,X,Y,s,u,V,e,f,S,H,rfl,rfl,rfl,rfl,rfl,E⟩:=hrel;have ha:=cm2 S A;have hf:=C wr E;obtain⟨he,G⟩:=b54 k l V om (fun j hj=>G4 R.o om);rw[<-H]at he G;have N:=zh S;have r:=zh H;clear S H A;by_cases U:k<l.length
 . have hh:=L k _ U (F.trans E);obtain⟨n,J⟩:=G4 R.o U;obtain⟨q,t⟩:=pl (show 0<=nth l k by omega);have D:=zh (df0 U t X Y);have O:nth l k*C5 (l.take k)=C5 (l.take (k+1)):=(by rw[Z9 l k U,qs]);have Ha:=zh O;rw[t]at n J;have M:=zh t;have hd:(X%q+Y%q)%q<24:=nlt (pu _ om) om;have m:((X%q+Y%q)%q)*u<=24*13824:=pm om om;have hc:u*q<=13824*24:=pm om om;have P:((X%q+Y%q:Nat):Int)=(X:Int)%(q:Int)+(Y:Int)%(q:Int):=zm;have a:((((X%q+Y%q)%q)*u:Nat):Int)=((X:Int)%(q:Int)+(Y:Int)%(q:Int))%(q:Int)*(u:Int):=(by rw[oO,pn,P]);have c3:((u*q:Nat):Int)=(u:Int)*(q:Int):=oO _ _;have b1:(X:Int)%(q:Int)<24:=(by have:=pX (X:Int) (show(0:Int)<q by omega);omega);have b2:(Y:Int)%(q:Int)<24:=(by have:=pX (Y:Int) (show(0:Int)<q by omega);omega);have b3:0<=(X:Int)%(q:Int):=qw _ om;have b4:0<=(Y:Int)%(q:Int):=qw _ om;have b5:((X:Int)%(q:Int)+(Y:Int)%(q:Int))%(q:Int)*(u:Int)<=331776:=(by rw[<-a];omega);have b6:0<=((X:Int)%(q:Int)+(Y:Int)%(q:Int))%(q:Int)*(u:Int):=(by rw[<-a];omega);have b7:(u:Int)*(q:Int)<=331776:=(by rw[<-c3];omega);have b8:0<=(u:Int)*(q:Int):=(by rw[<-c3];omega);have C2:=zh a;have C3:=zh c3;clear P a c3 hd m hc O;go_wp2_with fail;refine wl E ?_;(repeat(go_big_quiet_step(first|fail)));refine zd fun W E=>?_;go_wp2_with fail;go_roundw;case rel =>
    refine⟨k+1,X/q,Y/q,s+((X%q+Y%q)%q)*u,u*q,om,nle (po _ _) e,nle (po _ _) f,?_,?_,?_,?_,?_,?_,zg,E⟩
    . apply c63;rw[<-D.o];exact N.o
    . rw[<-Ha.o,<-r.o,M.o];push_cast;rw[qs]
    . exact br8 (nle e (qH K))
    . exact br8 (nle f (qH I))
    . exact j48 ha b6 b5
    . exact co6 u q
   case measure=>exact zm1
 exact zz125
theorem c8.nats{w:World}{v:Value}{L:LN}(h:c8 w v (b9 L)):∃(Q:Option Addr) (c:Nat) (a:Nat->Addr),v=.slice Q L.length c /\
  (∀i,i<L.length->Q=some (a 0)/\a i=(a 0).add i) /\
  (∀i W,i<L.length->Ext w W->W.cell? (a i)=some (vi (d5 L i:Int))):=by
 obtain⟨Q,c,a,rfl,_,r,T⟩:=h.op;rw[d9]at r T;exact⟨Q,c,a,by rw[d9],r,fun i W J D=>by rw[T i W J D,P7]⟩
def b51(l:LI)(L:LN)(x:Nat):Nat:=B7 (L.map (fun y=>j9 l x y))
theorem ct5(x:Nat):b51 l (L++[y]) x=b51 l L x ||| 2^j9 l x y:=by
 unfold b51;rw[pF];exact bn0 _ _
theorem jn7:b51 l (j3 a) x=j6 l a x:=rfl
theorem dk3{l:LI}(h:d7 l=true)(L:LN)(x:Nat):b51 l L x<2^24:=by
 refine b77 fun y H=>?_;obtain⟨z,_,rfl⟩:=pp.1 H;exact b14 h _ _
theorem ja7(k x:Nat)(C:a.testBit k=true):b51 l (E2 a (k+1)) x=b51 l (E2 a k) x ||| 2^j9 l x k:=by
 rw[H5,C,if_pos rfl,ct5]
theorem ja8(k x:Nat)(C:a.testBit k=false):b51 l (E2 a (k+1)) x=b51 l (E2 a k) x:=by
 rw[H5,C];simp
theorem M8(h:c8 w v l)(R:Hid (d7 l=true))(A:a<2^24)(K:x<24):Calls Tryz.prog 196 #[.agg #[v],vi a,vi x] w (RE w (vi (j6 l a x))):=by
 obtain⟨B,Z,F,C,H,E,-⟩:=m04 42 h;clear h;go_in;go_wp2_with fail;rw[<-Z.o];go_loopw [7,8] (fun O Y wr=>∃k:Nat,k<=24/\Y=vi k/\O=vi ((b51 l (E2 a k) x:Nat):Int)/\Ext B wr) (fun _ y _=>24-(intOf y).toNat);exact⟨0,om,rfl,by simp[b51,E2,B7],E⟩
 clear E;obtain⟨k,V,rfl,rfl,E⟩:=hrel;have X:=C wr E;have D:=R0 (a:=a) (n:=k) om;by_cases S:shr a k=0
 . have W:=zh (T5 V (ca8.1 S));have f:((shr a k:Nat):Int)=0:=(by rw[S];rfl);clear S;go_wp2_with fail;go_ret;exact⟨o3 (by rw[W.o];rfl),F.trans E⟩
 have U:=dd8 S A;have N:=dj2 S;have t:=b16 (a:=a) (n:=k) om om;clear S;cases C:a.testBit k
 . rw[C]at t;have b:=zh (ja8 l a k x C);clear C;go_wp2_with fail;go_roundw;exact⟨k+1,om,zg,by rw[b.o],E⟩;exact zm1
 rw[C]at t;have b:=zh (ja7 l a k x C);have z:=b14 R.o x k;have s:=o6 (n:=j9 l x k) om;have q:=H9 (dk3 R.o (E2 a k) x) z;clear C;go_wp2_with(first|(go_at_call 271;refine cx (O7 _ _ _ _ _ (H _ E) (R) (om) (om)) E fun e E=>?_));go_roundw;exact⟨k+1,om,zg,by rw[b.o],E⟩;exact zm1
theorem M4(h:c8 w v l)(R:Hid (d7 l=true))(M:a<2^24)(K:x<24):Calls Tryz.prog 221 #[.agg #[v],vi a,vi x] w (RE w (vi (j6 l a x))):=by
 obtain⟨B,b⟩:=nq (w.alloc (.cells #[v] 42));have F:=(er w).alloc (.cells #[v] 42);have C:=d8 w v 42;rw[<-b]at F C;have H:∀W,Ext B W->c8 W v l:=fun W D=>h.ext (F.trans D);have Z:=zh b;clear b h;go_in;go_wp2_with fail;rw[<-Z.o];go_wp2_with(first|(go_at_call 151;refine(L0 _ (M) _).mono ?_;rintro e G⟨q,rfl,X,z⟩;obtain⟨aL,S,aa,rfl,d,f⟩:=X.ints.nats;have Q:=j2 (c:=S) elI szI d;clear d));have I:=sh z C;have g:=sh z H;have E:=er G;clear C H X;have A:∀y∈j3 a,y<24:=fun y Y=>J5 Y;have N:=D0 a;have p:=zh (jn7 l a x);generalize j3 a=L at f Q A N p|-;go_loopw [7,9] (fun O i wr=>∃k:Nat,k<=L.length/\i=vi k/\O=vi ((b51 l (L.take k) x:Nat):Int)/\Ext G wr) (fun _ i _=>L.length-(intOf i).toNat);exact⟨0,om,rfl,by simp[b51,B7],E⟩
 clear E;obtain⟨k,V,rfl,rfl,E⟩:=hrel;by_cases U:k<L.length
 . have r:=fun u=>f k _ U (c9 G u);have j:=fun u=>I _ (c9 G u);have he:=A _ (m7 U);have t:=zh (ct5 l (L.take k) (d5 L k) x);have T:=zh (K9 L k U);have P:=b14 R.o x (d5 L k);have m:=zh (E4 l (d5 L k) x);have J:=o6 (n:=j9 l (d5 L k) x) (by rw[m.o];omega);have hc:=H9 (dk3 R.o (L.take k) x) (show j9 l (d5 L k) x<24 by rw[m.o];omega);go_wp2_with fail;refine wl E ?_;(repeat(go_big_quiet_step(first|(go_at_call 220;exact oa (G8 _ _ _ _ _ (g _ (c9 G _)) (R) (om) (om))))));refine zd fun W E=>?_;go_wp2_with fail;go_roundw;exact⟨k+1,om,zg,by rw[T.o,t.o,m.o],E⟩;exact zm1
 have s:k=L.length:=om;subst s;go_wp2_with fail;go_ret;exact⟨o3 (by rw[oz,p.o]),F.trans (z.trans E)⟩
theorem zz156{P:Prop}(h:P:=by have K:k=L.length:=om;subst K;go_wp2_with fail;go_ret;exact⟨o3 (by rw[oz,n.o]),F.trans (z.trans E)⟩):P:=h
theorem J2(h:c8 w v l)(R:Hid (d7 l=true))(M:a<2^24)(g:b<2^24):Calls Tryz.prog 75 #[.agg #[v],vi a,vi b] w (RE w (vi (j7 l a b))):=by
 obtain⟨B,m⟩:=nq (w.alloc (.cells #[v] 42));have F:=(er w).alloc (.cells #[v] 42);have C:=d8 w v 42;rw[<-m]at F C;have H:∀W,Ext B W->c8 W v l:=fun W D=>h.ext (F.trans D);have Z:=zh m;clear m h;go_in;go_wp2_with fail;rw[<-Z.o];go_wp2_with(first|(go_at_call 195;refine(J1 _ (M) _).mono ?_;rintro e G⟨s,rfl,X,z⟩;obtain⟨aL,T,aa,rfl,d,f⟩:=X.ints.nats;have x:=j2 (c:=T) elI szI d;clear d));have I:=sh z C;have P:=sh z H;have E:=er G;clear C H X;have A:∀y∈j3 a,y<24:=fun y Y=>J5 Y;have N:=D0 a;have n:=zh (dl0 l a b);generalize j3 a=L at f x A N n|-;go_loopw [7,13] (fun O i wr=>∃k:Nat,k<=L.length/\i=vi k/\O=vi ((bd2 l (L.take k) b:Nat):Int)/\Ext G wr) (fun _ i _=>L.length-(intOf i).toNat);exact⟨0,om,rfl,by simp[bd2,B7],E⟩
 clear E;obtain⟨k,V,rfl,rfl,E⟩:=hrel;by_cases U:k<L.length
 . have u:=f k _ U E;have r:=I _ E;have Q:=A _ (m7 U);have t:=zh (d84 l (L.take k) (d5 L k) b);have j:=zh (K9 L k U);have S:=j55 R.o (L.take k) b;have q:=K8 R.o b (d5 L k);have J:=R5 (show bd2 l (L.take k) b<2^63 by omega) (show j6 l b (d5 L k)<2^63 by omega);go_wp2_with(first|(go_at_call 196;refine cx (M8 _ _ _ _ _ (P _ E) (R) (g) (Q)) E fun p E=>?_));go_roundw;exact⟨k+1,om,zg,by rw[j.o,t.o],E⟩;exact zm1
 exact zz156
theorem E6(h:c8 w v l)(R:Hid (d7 l=true))(M:a<2^24)(g:b<2^24):Calls Tryz.prog 145 #[.agg #[v],vi a,vi b] w (RE w (vi (j7 l a b))):=by
 obtain⟨B,m⟩:=nq (w.alloc (.cells #[v] 42));have F:=(er w).alloc (.cells #[v] 42);have C:=d8 w v 42;rw[<-m]at F C;have H:∀W,Ext B W->c8 W v l:=fun W D=>h.ext (F.trans D);have Z:=zh m;clear m h;go_in;go_wp2_with fail;rw[<-Z.o];go_wp2_with(first|(go_at_call 151;refine(L0 _ (g) _).mono ?_;rintro e G⟨r,rfl,X,z⟩;obtain⟨aL,T,aa,rfl,d,f⟩:=X.ints.nats;have x:=j2 (c:=T) elI szI d;clear d));have I:=sh z C;have P:=sh z H;have E:=er G;clear C H X;have A:∀y∈j3 b,y<24:=fun y Y=>J5 Y;have N:=D0 b;have n:Hid (bd2 l (j3 b) a=j7 l a b):=zh (by rw[dl0,bz8]);generalize j3 b=L at f x A N n|-;go_loopw [7,9] (fun O i wr=>∃k:Nat,k<=L.length/\i=vi k/\O=vi ((bd2 l (L.take k) a:Nat):Int)/\Ext G wr) (fun _ i _=>L.length-(intOf i).toNat);exact⟨0,om,rfl,by simp[bd2,B7],E⟩
 clear E;obtain⟨k,V,rfl,rfl,E⟩:=hrel;by_cases U:k<L.length
 . have s:=fun u=>f k _ U (c9 G u);have q:=fun u=>I _ (c9 G u);have Q:=A _ (m7 U);have t:=zh (d84 l (L.take k) (d5 L k) a);have j:=zh (K9 L k U);have S:=j55 R.o (L.take k) a;have p:=K8 R.o a (d5 L k);have J:=R5 (show bd2 l (L.take k) a<2^63 by omega) (show j6 l a (d5 L k)<2^63 by omega);go_wp2_with fail;refine wl E ?_;(repeat(go_big_quiet_step(first|(go_at_call 221;exact oa (M4 _ _ _ _ _ (P _ (c9 G _)) (R) (M) (Q))))));refine zd fun W E=>?_;go_wp2_with fail;go_roundw;exact⟨k+1,om,zg,by rw[j.o,t.o],E⟩;exact zm1
 exact zz156
theorem lh9{l x:LI}(V:k<x.length)(h:j0 l (nth x k)=false):S8 l x=false:=by
 unfold S8;have:x.all (j0 l)=false:=by
  cases e:x.all (j0 l);rfl;rw[oC.1 e _ (b78 V)]at h;cases h
 rw[this];rfl
theorem l34{l s:LI}(h:∀j,j<s.length->j0 l (nth s j)=true):S8 l s=d7 l:=by
 unfold S8;rw[show s.all (j0 l)=true from oC.2 fun x K=>by obtain⟨k,V,rfl⟩:=bg1 K;exact h k V];rfl
theorem zz9{P:Prop}(h:P:=by go_ret;exact⟨j1 N.o.symm,F.trans E⟩):P:=h
theorem cr3(x:LI)(w:World)(h:c8 w v l)(k:c8 w u x):Calls Tryz.prog 93 #[.agg #[v],u] w (RE w (.bool (S8 l x))):=by
 obtain⟨B,Z,F,C,H,E,-⟩:=m04 42 h;obtain⟨Q,c,D,rfl,n,a,r⟩:=k.op;have I:=j2 (c:=c) elI szI a;clear a k;clear h;go_in;go_wp2_with fail;rw[<-Z.o];go_loopw [9] (fun i wr=>∃k:Nat,k<=x.length/\i=vi k/\(∀j,j<k->j0 l (nth x j)=true)/\Ext B wr) (fun i _=>x.length-(intOf i).toNat);exact⟨0,om,rfl,om,E⟩
 clear E;obtain⟨k,V,rfl,A,E⟩:=hrel;have L:=zh A;clear A;have b:=C _ E;by_cases U:k<x.length
 . have d:=r k _ U (F.trans E);cases S:j0 l (nth x k)
   . have N:=zh (lh9 U S);go_wp2_with(first|(go_at_call 180;refine cx (F9 _ _ _ _ (H _ E)) E fun W E=>?_));exact zz9
   have N:=zh S;go_wp2_with(first|(go_at_call 180;refine cx (F9 _ _ _ _ (H _ E)) E fun W E=>?_));go_roundw;exact⟨k+1,om,zg,fun j J=>by by_cases e:j=k;(subst e;exact N.o);exact L.o j om,E⟩;exact zm1
 have K:k=x.length:=om;subst K;go_wp2_with(first|(go_at_call 92;refine cx (o9 _ _ _ (H _ E)) E fun W E=>?_));go_ret;exact⟨j1 (l34 L.o).symm,F.trans E⟩
def cn6(l:LI):Int:=if d7 l then((pw (ord l)-1:Nat):Int)else 0
theorem jg1{l:LI}(h:d7 l=true):cn6 l=((pw (ord l):Nat):Int)-1:=by
 unfold cn6;rw[if_pos h];have:=X9 (ord l);omega
theorem lk3{l:LI}(h:d7 l=false):cn6 l=0:=by unfold cn6;rw[h];rfl
theorem zz42{P:Prop}(h:P:=by exact⟨o3 N.o.symm,F.trans E⟩):P:=h
theorem cr0(h:c8 w v l):Calls Tryz.prog 202 #[.agg #[v]] w (RE w (vi (cn6 l))):=by
 have F:=(er w).alloc (.cells #[v] 42);have E:=er (w.alloc (.cells #[v] 42));have C:=d8 w v 42;have H:∀W,Ext (w.alloc (.cells #[v] 42)) W->c8 W v l:=fun W D=>h.ext (F.trans D);clear h;cases S:d7 l
 . have N:=zh (lk3 S);go_in;go_wp2_with(first|(go_at_call 92;refine cx (o9 _ _ _ (H _ E)) E fun e E=>?_));go_ret;exact zz42
 have N:=zh (jg1 S);have O:=bi6 S;have b:=l8 S;have P:=X9 (ord l);have p:=bc9 b.2;have s:=o6 (n:=ord l) om;go_in;go_wp2_with(first|(go_at_call 92;refine cx (o9 _ _ _ (H _ E)) E fun e E=>?_)|(go_at_call 153;refine cx (W2 _ _ _ (H _ E)) E fun e E=>?_));go_ret;exact zz42
def fsF(l:LI)(a:Int):Ba:=if j0 l a then H6 (b9 (j3 a.toNat))else⟨#[]⟩
theorem bn4{l:LI}{a:Int}(h:j0 l a=false):fsF l a=⟨#[]⟩:=by unfold fsF;rw[h];rfl
theorem bk2{l:LI}(h:j0 l n=true):fsF l n=H6 (b9 (j3 n)):=by unfold fsF;rw[h];rfl
theorem b91(n i:Nat)(h:i<(b9 (j3 n)).length) : -1<=nth (b9 (j3 n)) i/\nth (b9 (j3 n)) i<1000000000000:=by
 rw[d9]at h;have e:nth (b9 (j3 n)) i=((j3 n)[i]:Int):=by simp[nth,b9,List.getD,h]
 have:=J5 (qh h);rw[e];omega
theorem I7(a:Int)(w:World)(h:c8 w v l):Calls Tryz.prog 73 #[.agg #[v],vi a] w (RE w (.string (fsF l a))):=by
 have F:=(er w).alloc (.cells #[v] 42);have E:=er (w.alloc (.cells #[v] 42));have C:=d8 w v 42;have H:∀W,Ext (w.alloc (.cells #[v] 42)) W->c8 W v l:=fun W D=>h.ext (F.trans D);clear h;cases S:j0 l a
 . have p:=zh (bn4 S);go_in;go_wp2_with(first|(go_at_call 180;refine cx (F9 _ _ _ _ (H _ E)) E fun P E=>?_));go_ret;exact⟨j5 p.o.symm,F.trans E⟩
 obtain⟨n,rfl,-,N,-⟩:=l7 S;have p:=zh (bk2 S);have Q:=fun v W (i:c8 W v (b9 (j3 n)))=>cs9 v (b9 (j3 n)) W i (b91 n) (by rw[d9];have:=D0 n;omega);go_in;go_wp2_with(first|(go_at_call 180;refine cx (F9 _ _ _ _ (H _ E)) E fun P E=>?_)|(go_at_call 195;refine(J1 _ (N) _).mono ?_;rintro e G⟨V,rfl,L,z⟩;obtain⟨A,R,r,rfl,d,f⟩:=L.ints.nats;have x:=j2 (c:=R) elI szI d;clear d)|(go_at_call 165;refine cm (Q _ _ L.ints) fun m I=>?_));go_ret;exact⟨j5 p.o.symm,((F.trans E).trans z).trans I⟩
theorem b62(a b:Int)(T:TypeId):c8 (w.alloc (.cells #[vi a,vi b] T)) (.slice (some (aD w.heap.size 0)) 2 2) [a,b]:=by
 refine⟨_,2,rfl,oc _,zm,fun i J=>⟨_,rfl,?_⟩⟩;match i,J with
 |0,_=>simp[go_sem,nth,Addr.add]
 |1,_=>simp[go_sem,nth,Addr.add]
theorem bt8(a b:Int):S8 l [a,b]=(j0 l a&&j0 l b):=by
 unfold S8;cases h:j0 l a;simp[h];simp[h,bq6 h]
theorem T4(x:LI)(w:World)(h:c8 w v l)(k:c8 w u x){b:Bool}(C:S8 l x=b):Calls Tryz.prog 93 #[.agg #[v],u] w (RE w (.bool b)):=by
 subst C;exact cr3 v u l x w h k
theorem q6(a:Int)(w:World)(h:c8 w v l){b:Bool}(C:j0 l a=b):Calls Tryz.prog 180 #[.agg #[v],vi a] w (RE w (.bool b)):=by
 subst C;exact F9 v l a w h
theorem m6(a:Int)(w:World)(h:c8 w v l){b:Bool}(C:j0 l a=b):Calls Tryz.prog 124 #[.agg #[v],vi a] w (RE w (.bool b)):=by
 subst C;exact L1 v l a w h
def F3(l:LI)(a:Int):Bool:=j0 l a&&decide (a≠0)&&decide (2*cnt (j7 l a.toNat a.toNat)<3*cnt a.toNat)
theorem dk4{l:LI}{a:Int}(h:j0 l a=false):F3 l a=false:=by unfold F3;rw[h];rfl
theorem ct6:F3 l 0=false:=by unfold F3;simp
theorem d76{l:LI}(h:j0 l n=true)(H:0<n):F3 l n=decide (2*(cnt (j7 l n n):Int)<3*(cnt n:Int)):=by
 unfold F3;rw[h,oA];simp;omega
theorem bj4(a:Int)(w:World)(h:c8 w v l):Calls Tryz.prog 275 #[.agg #[v],vi a] w (RE w (.bool (F3 l a))):=by
 have F:=(er w).alloc (.cells #[v] 42);have E:=er (w.alloc (.cells #[v] 42));have C:=d8 w v 42;have H:∀W,Ext (w.alloc (.cells #[v] 42)) W->c8 W v l:=fun W D=>h.ext (F.trans D);clear h;cases S:j0 l a
 . have N:=zh (dk4 S);go_in;go_wp2_with(first|(go_at_call 180;refine cx (F9 _ _ _ _ (H _ E)) E fun P E=>?_));exact zz9
 obtain⟨n,rfl,V,r,T⟩:=l7 S;by_cases U:n=0
 . subst U;go_in;go_wp2_with(first|(go_at_call 180;refine cx (F9 _ _ _ _ (H _ E)) E fun P E=>?_));go_ret;exact⟨j1 (ct6 l).symm,F.trans E⟩
 have f:((n:Int) != 0)=true:=zso;have g:0<(n:Int):=om;have m:=zh (d76 S om);have c:=p8 (j7 l n n);have R:=p8 n;have b:=H7 T n n;have p:=zh T;clear T;go_in;go_wp2_with(first|(go_at_call 180;refine cx (F9 _ _ _ _ (H _ E)) E fun P E=>?_)|(go_at_call 75;refine cx (J2 _ _ _ _ _ (H _ E) (p) (r) (r)) E fun P E=>?_)|(go_at_call 78;first|(with_reducible refine(C6 _ b _).mono ?_;rintro e P⟨rfl,rfl⟩)|(with_reducible refine(C6 _ r _).mono ?_;rintro e P⟨rfl,rfl⟩)));go_ret;exact⟨j1 m.o.symm,F.trans E⟩
theorem bj0(a:Int)(w:World)(h:c8 w v l):Calls Tryz.prog 234 #[.agg #[v],vi a] w (RE w (.bool (F3 l a))):=by
 have F:=(er w).alloc (.cells #[v] 42);have E:=er (w.alloc (.cells #[v] 42));have C:=d8 w v 42;have H:∀W,Ext (w.alloc (.cells #[v] 42)) W->c8 W v l:=fun W D=>h.ext (F.trans D);clear h;cases S:j0 l a
 . have N:=zh (dk4 S);go_in;go_wp2_with(first|(go_at_call 124;refine cx (L1 _ _ _ _ (H _ E)) E fun P E=>?_));exact zz9
 obtain⟨n,rfl,V,r,T⟩:=l7 S;by_cases U:n=0
 . subst U;go_in;go_wp2_with(first|(go_at_call 124;refine cx (L1 _ _ _ _ (H _ E)) E fun P E=>?_));go_ret;exact⟨j1 (ct6 l).symm,F.trans E⟩
 have f:((n:Int) != 0)=true:=zso;have g:0<(n:Int):=om;have m:=zh (d76 S om);have c:=p8 (j7 l n n);have R:=p8 n;have b:=H7 T n n;have p:=zh T;clear T;go_in;go_wp2_with(first|(go_at_call 124;refine cx (L1 _ _ _ _ (H _ E)) E fun P E=>?_)|(go_at_call 145;refine cx (E6 _ _ _ _ _ (H _ E) (p) (r) (r)) E fun P E=>?_)|(go_at_call 125;first|(with_reducible refine(o7 _ b _).mono ?_;rintro e P⟨rfl,rfl⟩)|(with_reducible refine(o7 _ r _).mono ?_;rintro e P⟨rfl,rfl⟩)));go_ret;exact⟨j1 m.o.symm,F.trans E⟩
def loF(l:LI)(a:Int):LI:=if j0 l a then b9 (j3 a.toNat)else []
theorem ci0{l:LI}{a:Int}(h:j0 l a=false):loF l a=[]:=by unfold loF;rw[h];rfl
theorem bs2{l:LI}(h:j0 l n=true):loF l n=b9 (j3 n):=by unfold loF;rw[h];rfl
theorem zz163{P:Prop}(h:P:=by go_ret;have I:=F.trans E;exact⟨_,rfl,by rw[p.o];exact l9 (TI:=3) (n:=0) om I [] rfl,I.alloc _⟩):P:=h
theorem ja5(a:Int)(w:World)(h:c8 w v l):Calls Tryz.prog 143 #[.agg #[v],vi a] w fun e P=>∃u,e=.returned u/\Own 3 w P u (loF l a)/\Ext w P:=by
 have F:=(er w).alloc (.cells #[v] 42);have E:=er (w.alloc (.cells #[v] 42));have C:=d8 w v 42;have H:∀W,Ext (w.alloc (.cells #[v] 42)) W->c8 W v l:=fun W D=>h.ext (F.trans D);clear h;cases S:j0 l a
 . have p:=zh (ci0 S);go_in;go_wp2_with(first|(go_at_call 124;refine cx (L1 _ _ _ _ (H _ E)) E fun P E=>?_));exact zz163
 obtain⟨n,rfl,-,N,-⟩:=l7 S;have p:=zh (bs2 S);go_in;go_wp2_with(first|(go_at_call 124;refine cx (L1 _ _ _ _ (H _ E)) E fun P E=>?_)|(go_at_call 151;refine(L0 _ (N) _).mono ?_;rintro e G⟨V,rfl,L,z⟩;obtain⟨A,R,r,rfl,d,f⟩:=L.ints.nats;have i:=j2 (c:=R) elI szI d;clear d));go_ret;have I:=F.trans E;exact⟨_,rfl,by rw[p.o];simpa[d9]using L.mono I,I.trans z⟩
theorem jj3(a:Int)(w:World)(h:c8 w v l):Calls Tryz.prog 88 #[.agg #[v],vi a] w fun e P=>∃u,e=.returned u/\Own 3 w P u (loF l a)/\Ext w P:=by
 have F:=(er w).alloc (.cells #[v] 42);have E:=er (w.alloc (.cells #[v] 42));have C:=d8 w v 42;have H:∀W,Ext (w.alloc (.cells #[v] 42)) W->c8 W v l:=fun W D=>h.ext (F.trans D);clear h;cases S:j0 l a
 . have p:=zh (ci0 S);go_in;go_wp2_with(first|(go_at_call 180;refine cx (F9 _ _ _ _ (H _ E)) E fun P E=>?_));exact zz163
 obtain⟨n,rfl,-,N,-⟩:=l7 S;have p:=zh (bs2 S);go_in;go_wp2_with(first|(go_at_call 180;refine cx (F9 _ _ _ _ (H _ E)) E fun P E=>?_)|(go_at_call 195;refine(J1 _ (N) _).mono ?_;rintro e G⟨V,rfl,L,z⟩;obtain⟨A,R,r,rfl,d,f⟩:=L.ints.nats;have i:=j2 (c:=R) elI szI d;clear d));go_ret;have I:=F.trans E;exact⟨_,rfl,by rw[p.o];simpa[d9]using L.mono I,I.trans z⟩
theorem lu4(a:Int)(i:Nat)(h:i<(loF l a).length) : -1<=nth (loF l a) i/\nth (loF l a) i<1000000000000:=by
 cases S:j0 l a;rw[ci0 S]at h;simp at h;obtain⟨n,rfl,-,H,-⟩:=l7 S;rw[bs2 S]at h|-;exact b91 n i h
theorem jg5(a:Int):(loF l a).length<=24:=by
 unfold loF;split;rw[d9];exact D0 _;simp
theorem jt2(a:Int):fsF l a=if (loF l a).length=0 then(if j0 l a then⟨#[110,111,110,101]⟩else⟨#[]⟩)else jn b11 (fun i=>j8 (nth (loF l a) i)) (loF l a).length:=by
 cases S:j0 l a;rw[bn4 S,ci0 S];rfl;unfold fsF loF;rw[S];show H6 _=_;unfold H6;rfl
theorem F8(a:Int)(w:World)(h:c8 w v l):Calls Tryz.prog 54 #[.agg #[v],vi a] w (RE w (.string (fsF l a))):=by
 have F:=(er w).alloc (.cells #[v] 42);have E:=er (w.alloc (.cells #[v] 42));have C:=d8 w v 42;have H:∀W,Ext (w.alloc (.cells #[v] 42)) W->c8 W v l:=fun W D=>h.ext (F.trans D);clear h;have N:=lu4 l a;have hn:=jg5 l a;have f:=zh (jt2 l a);have n:=zh N;clear N;have b:=fun W (j:c8 W v l)=>ja5 v l a W j;go_in;go_wp2_with(go_at_call 143;refine(b _ (H _ E)).mono ?_;rintro e G⟨u,rfl,O,z⟩;obtain⟨aL,L,aa,rfl,hL,d,g⟩:=O.ints.op;have x:=j2 (c:=L) elI szI d);clear d O;obtain⟨m,M⟩:=nq (loF l a);rw[<-M]at hn hL g x f n|-;clear M;go_loopw [5,7] (fun s i wr=>∃(k:Nat) (t:Ba),k<=m.length/\i=vi k/\s=.string t/\Hid (t=jn b11 (fun i=>j8 (nth m i)) k)/\Ext G wr) (fun _ i _=>m.length-(intOf i).toNat);exact⟨0,_,om,rfl,rfl,zh rfl,er _⟩
 obtain⟨k,t,V,rfl,rfl,T,r⟩:=hrel;have hf:t.size<=14*k:=by rw[T.o];exact b43 _ _ (by decide) k fun i J=>m9 (n.o i om)
 by_cases U:k<m.length
 . have hj:=g k _ U r;have Y:=o8 (nth m k) (n.o k U);have hz:(j8 (nth m k)).size<=13:=m9 (n.o k U);obtain⟨u,A⟩:=nq (j8 (nth m k));rw[<-A]at hz Y;have p:=zh A;clear A;by_cases he:0<k
   . have K:(0:Int)<k:=om;go_wp2_with(refine cm (Y _) fun y I=>?_);go_roundw;exact⟨k+1,_,om,zg,rfl,zh (by rw[b42 _ _ he,<-T.o,p.o];rfl),r.trans I⟩;exact zm1
   have K:k=0:=om;subst K;have hl:∀W,(Instr.indexAt 40 (.slice aL m.length L) (vi 0)).run Tryz.prog W=.ok (.pointer (some (aa 0))) W:=fun W=>(by simpa using x 0 W U);go_wp2_with(refine cm (Y _) fun y I=>?_);go_roundw;exact⟨1,_,om,rfl,rfl,zh (by rw[b29,p.o,T.o];rfl),r.trans I⟩;exact zm1
 have B:k=m.length:=om;subst B;have R:=(F.trans z).trans r;have ha:=z.trans r;by_cases X:m.length=0
 . have hh:t=⟨#[]⟩:=(by rw[T.o,X];rfl);subst hh;have q:Hid (fsF l a=if j0 l a then⟨#[110,111,110,101]⟩else⟨#[]⟩):=zh (by rw[f.o,if_pos X]);have P:=L1 v l a _ (H _ ha);clear X hf f;cases S:j0 l a
   all_goals
    rw[S]at q P
    go_wp2_with(refine cm P fun w3 Q=>?_)
    go_ret
    exact⟨j5 q.o.symm,R.trans Q⟩
 have p:Hid (fsF l a=t):=zh (by rw[f.o,if_neg X,T.o]);have Z:=bg0 b11 (fun i=>j8 (nth m i)) m.length om fun i J=>bf6 (n.o i J);rw[<-T.o]at Z;have ho:=b32 Z;go_wp2_with fail;go_ret;exact⟨j5 p.o.symm,R⟩
def ex:Ba:=⟨#[120]⟩
def fgF(l:LI):Ba:=if d7 l then(if l.length=0 then⟨#[49]⟩else jn ex (fun i=>j8 (nth l i)) l.length)else⟨#[]⟩
theorem bn3{l:LI}(h:d7 l=false):fgF l=⟨#[]⟩:=by unfold fgF;rw[h];rfl
theorem bs0{l:LI}(h:d7 l=true):fgF l=if l.length=0 then⟨#[49]⟩else jn ex (fun i=>j8 (nth l i)) l.length:=by unfold fgF;rw[h];rfl
theorem ch2{l:LI}(h:d7 l=true)(i:Nat)(J:i<l.length) : -1<=nth l i/\nth l i<1000000000000:=by
 have:=G4 h J;omega
theorem zz131{P:Prop}(h:P:=by go_in;go_wp2_with(first|(go_at_call 92;refine cx (o9 _ _ _ (H _ E)) E fun P E=>?_));go_ret;exact⟨j5 p.o.symm,F.trans E⟩):P:=h
theorem I6(h:c8 w v l):Calls Tryz.prog 71 #[.agg #[v]] w (RE w (.string (fgF l))):=by
 have M:=h.op;have F:=(er w).alloc (.cells #[v] 42);have E:=er (w.alloc (.cells #[v] 42));have C:=d8 w v 42;have H:∀W,Ext (w.alloc (.cells #[v] 42)) W->c8 W v l:=fun W D=>h.ext (F.trans D);clear h;obtain⟨Q,c,A,rfl,n,a,L⟩:=M;have x:=j2 (c:=c) elI szI a;clear a;cases Y:d7 l;have p:=zh (bn3 Y);exact zz131;have f:=zh (bs0 Y);have R:=zh (ch2 Y);by_cases S:l.length=0;have p:Hid (fgF l=⟨#[49]⟩):=zh (f.o.trans (if_pos S));have N:((l.length:Int) == 0)=true:=(by rw[beq_iff_eq];omega);clear S f;exact zz131;have N:((l.length:Int) == 0)=false:=(by rw[beq_eq_false_iff_ne];omega);go_in;go_wp2_with(go_at_call 92;refine cm (o9 _ _ _ (H _ E)) fun q z=>?_;have b:=C _ ((E.trans z).alloc (.cells #[] 9)));have p:Hid (fgF l=jn ex (m8 (l.map j8)) l.length):=zh ((f.o.trans (if_neg S)).trans (bv0 _ _ _ _ fun i J=>(bk8 l i J).symm));have y:l.length<=3:=E5 Y;clear b;have Z:=bg3 (er q);have g:=(er q).alloc (.cells #[] 9);go_loopw [3,17] (fun v i wr=>∃k:Nat,k<=l.length/\i=vi k/\N2 q wr v ((l.take k).map j8)/\Ext q wr) (fun _ i _=>l.length-(intOf i).toNat);exact⟨0,om,rfl,Z,g⟩;case round =>
  obtain⟨k,V,rfl,O,r⟩:=hrel;by_cases U:k<l.length
  . have m:=L k _ U ((F.trans z).trans r);have I:=C0 (nth l k) (R.o k U);have u:((l.take k).map j8).length<1000000:=(by rw[oG,ol];omega);go_wp2_with(first|(go_at_call 77;with_reducible refine cm (I _) fun wc t=>?_)|(at_builtin;refine S4 rfl _ _ rfl q _ _ _ _ (O.ext t) (r.trans t) u rfl rfl ?_;intro j G X d));go_roundw;exact⟨k+1,om,zg,by rw[d08 _ _ U];exact X,d⟩;exact zm1
  . have K:k=l.length:=om;subst K;rw[oz]at O;have s:=O.strs;have T:=cg8 _ (l.map j8) ex _ s (by decide) (fun i J=>by
     rw[oG]at J
     rw[bk8 l i J];exact m9 (R.o i J))
    go_wp2_with(refine T.mono ?_;rintro e G⟨rfl,rfl⟩);go_ret;exact⟨j5 p.o.symm,(F.trans z).trans r⟩
theorem d66(h:c8 w v l)(Y:d7 l=false):Calls Tryz.prog 44 #[.agg #[v]] w (RE w (.string (fgF l))):=by
 have O:=h.op;have F:=(er w).alloc (.cells #[v] 42);have E:=er (w.alloc (.cells #[v] 42));have C:=d8 w v 42;have H:∀W,Ext (w.alloc (.cells #[v] 42)) W->c8 W v l:=fun W D=>h.ext (F.trans D);clear h;obtain⟨Q,c,a,rfl,n,-,-⟩:=O;have p:=zh (bn3 Y);have G:=fun W (D:Ext (w.alloc (.cells #[.slice Q l.length c] 42)) W)=>C4 _ l W (H W D);rw[Y]at G;go_in;go_wp2_with fail;go_loopw [3,4] (fun s i wr=>i=vi 0/\s=.string ⟨#[]⟩/\Ext (w.alloc (.cells #[.slice Q l.length c] 42)) wr) (fun _ _ _=>0);exact⟨rfl,rfl,er _⟩
 obtain⟨rfl,rfl,r⟩:=hrel;have b:=C _ r;by_cases P:0<(l.length:Int)
 . have B:decide (0<(l.length:Int))=true:=(by simpa using P);go_wp2_with(first|(refine cm (G _ (r.trans e)) fun w4 I=>?_)|(refine cm (G _ r) fun w3 e=>?_;have R:=C _ (r.trans e)));go_ret;exact⟨j5 p.o.symm,((F.trans r).trans e).trans I⟩
 have B:decide (0<(l.length:Int))=false:=(by simpa using P);go_wp2_with(refine cm (G _ r) fun w3 e=>?_);go_ret;exact⟨j5 p.o.symm,(F.trans r).trans e⟩
theorem cz4(h:c8 w v l)(Y:d7 l=true):Calls Tryz.prog 44 #[.agg #[v]] w (RE w (.string (fgF l))):=by
 have O:=h.op;have F:=(er w).alloc (.cells #[v] 42);have E:=er (w.alloc (.cells #[v] 42));have C:=d8 w v 42;have H:∀W,Ext (w.alloc (.cells #[v] 42)) W->c8 W v l:=fun W D=>h.ext (F.trans D);clear h;obtain⟨Q,c,d,rfl,N,a,L⟩:=O;have b:=j2 (c:=c) elI szI a;clear a;have f:=zh (bs0 Y);have R:=zh (ch2 Y);have G:=fun W (D:Ext (w.alloc (.cells #[.slice Q l.length c] 42)) W)=>C4 _ l W (H W D);have hc:=E5 Y;rw[Y]at G;go_in;go_wp2_with fail;go_loopw [3,4] (fun s i wr=>∃(k:Nat) (t:Ba),k<=l.length/\i=vi k/\s=.string t/\Hid (t=jn ex (fun i=>j8 (nth l i)) k)/\Ext (w.alloc (.cells #[.slice Q l.length c] 42)) wr) (fun _ i _=>l.length-(intOf i).toNat);exact⟨0,_,om,rfl,rfl,zh rfl,er _⟩
 obtain⟨k,t,V,rfl,rfl,T,r⟩:=hrel;have P:=C _ r;have j:t.size<=14*k:=by rw[T.o];exact b43 _ _ (by decide) k fun i J=>m9 (R.o i om)
 by_cases U:k<l.length
 . have X:=o8 (nth l k) (R.o k U);have z:(j8 (nth l k)).size<=13:=m9 (R.o k U);obtain⟨u,A⟩:=nq (j8 (nth l k));rw[<-A]at z X;have p:=zh A;clear A;by_cases g:0<k
   . have K:(0:Int)<k:=om;go_wp2_with(first|(go_at_call 97;refine cm (X _) fun w4 I=>?_)|(refine cm (G _ r) fun w3 e=>?_;have B:=C _ (r.trans e);have q:=L k _ U ((F.trans r).trans e)));go_roundw;exact⟨k+1,_,om,zg,rfl,zh (by rw[b42 _ _ g,<-T.o,p.o];rfl),(r.trans e).trans I⟩;exact zm1
   have K:k=0:=om;subst K;have ha:∀W,(Instr.indexAt 40 (.slice Q l.length c) (vi 0)).run Tryz.prog W=.ok (.pointer (some (d 0))) W:=fun W=>(by simpa using b 0 W U);go_wp2_with(first|(go_at_call 97;refine cm (X _) fun w4 I=>?_)|(refine cm (G _ r) fun w3 e=>?_;have B:=C _ (r.trans e);have q:=L 0 _ U ((F.trans r).trans e)));go_roundw;exact⟨1,_,om,rfl,rfl,zh (by rw[b29,p.o,T.o];rfl),(r.trans e).trans I⟩;exact zm1
 have y:k=l.length:=om;subst y;have x:=F.trans r;have M:=G _ r;by_cases S:l.length=0
 . have m:t=⟨#[]⟩:=(by rw[T.o,S];rfl);subst m;have n:Hid (fgF l=⟨#[49]⟩):=zh (by rw[f.o,if_pos S]);clear S j f;go_wp2_with(refine cm M fun w3 e=>?_);go_ret;exact⟨j5 n.o.symm,x.trans e⟩
 have p:Hid (fgF l=t):=zh (by rw[f.o,if_neg S,T.o]);have Z:=bg0 ex (fun i=>j8 (nth l i)) l.length om fun i J=>bf6 (R.o i J);rw[<-T.o]at Z;have he:=b32 Z;go_wp2_with fail;go_ret;exact⟨j5 p.o.symm,x⟩
theorem G7(h:c8 w v l):Calls Tryz.prog 44 #[.agg #[v]] w (RE w (.string (fgF l))):=by
 cases H:d7 l;exact d66 v l w h H;exact cz4 v l w h H
def G2(a b:Nat):Nat:=a ^^^ (a &&& b)
theorem S7:(G2 a b).testBit i=(a.testBit i && !b.testBit i):=by
 unfold G2;rw[Nat.testBit_xor,pC];cases a.testBit i<;>cases b.testBit i<;>rfl
theorem c27{a b:Nat}(h:a<2^n):G2 a b<2^n:=Nat.xor_lt_two_pow h (qG Nat.and_le_left h)
theorem bt7:∀(n a b:Nat),a<2^n->G2 a b+(a &&& b)=a
 |0,a,b,h=>by
  obtain rfl:a=0:=by simp at h;omega
  simp[G2]
 | n+1,a,b,h=>by
  have p:2^(n+1)=2^n*2:=pU 2 n
  have I:=bt7 n (a/2) (b/2) om
  have d:G2 a b/2=G2 (a/2) (b/2):=by
   apply oK;intro i;rw[<-pz,S7,S7,pz,pz]
  have D:(a &&& b)/2=(a/2) &&& (b/2):=by
   apply oK;intro i;rw[<-pz,pC,pC,pz,pz]
  have m:(G2 a b).testBit 0=(a.testBit 0 && !b.testBit 0):=S7 a b 0
  have M:(a &&& b).testBit 0=(a.testBit 0&&b.testBit 0):=pC a b 0
  rw[ps,ps,ps]at m M
  have e:G2 a b%2+(a &&& b)%2=a%2:=by
   rw[oA]at m M;simp only[decide_eq_true_eq,ow,Bool.not_eq_true',decide_eq_false_iff_not]at m M;omega
  omega
theorem jp0{a b:Nat}:G2 a b=0↔∀i,a.testBit i=true->b.testBit i=true:=by
 constructor;intro h i J;have:=S7 a b i;rw[h,pZ,J]at this;simpa using this.symm;intro h;apply oK;intro i;rw[S7,pZ];cases e:a.testBit i;rfl;rw[h i e];rfl
theorem dh7{a b:Nat}(h:a<2^63)(C:b<2^63):dn7 a b=((G2 a b:Nat):Int):=by
 show IntKind.i64.wrap ((BitVec.ofInt IntKind.i64.bits (a:Int) &&& ~~~ BitVec.ofInt IntKind.i64.bits (b:Int)).toNat:Int)=_;have e:(BitVec.ofInt IntKind.i64.bits (a:Int) &&& ~~~ BitVec.ofInt IntKind.i64.bits (b:Int))=(BitVec.ofInt IntKind.i64.bits (a:Int) ^^^ (BitVec.ofInt IntKind.i64.bits (a:Int) &&& BitVec.ofInt IntKind.i64.bits (b:Int))):=by
  ext i hi;simp only[BitVec.getElem_and,BitVec.getElem_xor,BitVec.getElem_not];cases (BitVec.ofInt IntKind.i64.bits (a:Int))[i]<;>cases (BitVec.ofInt IntKind.i64.bits (b:Int))[i]<;>rfl
 rw[e,BitVec.toNat_xor,BitVec.toNat_and,c29 h,c29 C];exact bl8 (c27 h)
def bm(f:Nat->Nat):Nat->Nat × Nat
 |0=>(0,0)
 |k+1=>if (bm f k).2<f k then(k,f k)else bm f k
theorem bu0(h:(bm f k).2<f k):bm f (k+1)=(k,f k):=by rw[bm,if_pos h]
theorem c69(h:¬(bm f k).2<f k):bm f (k+1)=bm f k:=by rw[bm,if_neg h]
theorem lr1(f:Nat->Nat):bm f 1=(0,f 0):=by
 by_cases h:(bm f 0).2<f 0;exact bu0 h;rw[c69 h];have:f 0=0:=(by simp[bm]at h;exact h);rw[this];rfl
theorem dq8(f:Nat->Nat):∀k j,j<k->f j<=(bm f k).2
 | k+1,j,h=>by
  by_cases e:(bm f k).2<f k
  . rw[bu0 e]
    by_cases H:j=k
    . subst H;exact oc _
    . have:=dq8 f k j om;show f j<=f k;omega
  . rw[c69 e]
    by_cases H:j=k
    . subst H;omega
    . exact dq8 f k j om
theorem jp9(f:Nat->Nat):∀k,(bm f k).2=0\/(bm f k).2=f (bm f k).1
 |0=>Or.inl rfl
 |k+1=>by
  by_cases e:(bm f k).2<f k
  . rw[bu0 e];exact Or.inr rfl
  . rw[c69 e];exact jp9 f k
theorem lf2(f:Nat->Nat):∀k,(bm f k).1<=k-1
 |0=>oc 0
 |k+1=>by
  by_cases e:(bm f k).2<f k
  . rw[bu0 e];exact oc _
  . rw[c69 e];have:=lf2 f k;omega
def b40(l:LI)(a left x:Nat):Nat:=cnt (j6 l a x &&& left)
def I8(l:LI)(a left:Nat):Nat:=(bm (b40 l a left) (ord l)).1
def b02(l:LI)(a:Nat):Nat->Nat->Nat->Nat
 |0,out,_=>out
 |n+1,out,left=>if left=0 then out else b02 l a n (out ||| 2^I8 l a left) (G2 left (j6 l a (I8 l a left)))
theorem cs4(n o:Nat):b02 l a n o 0=o:=by cases n<;>rfl
theorem cg9{l:LI}{a out:Nat}(h:left≠0):b02 l a (n+1) out left=b02 l a n (out ||| 2^I8 l a left) (G2 left (j6 l a (I8 l a left))):=by rw[b02,if_neg h]
def l6(l:LI):Nat:=pw (ord l)-1
def T1(l:LI)(a:Int):Int:=if j0 l a&&decide (a≠0)then(b02 l a.toNat (l6 l) 0 (l6 l):Int)else 0
def C8(l:LI)(a:Int):Bool:=j0 l a&&decide (a≠0)
theorem P5{l:LI}{a:Int}(h:j0 l a=false):C8 l a=false:=by unfold C8;rw[h];rfl
theorem J7:C8 l 0=false:=by unfold C8;simp
theorem Q4{l:LI}(h:j0 l n=true)(H:0<n):C8 l n=true:=by unfold C8;rw[h];simp;omega
theorem bq3{l:LI}{a:Int}(h:C8 l a=false):T1 l a=0:=by unfold T1;unfold C8 at h;rw[h];rfl
theorem cs3{l:LI}(h:C8 l n=true):T1 l n=(b02 l n (l6 l) 0 (l6 l):Int):=by unfold T1;unfold C8 at h;rw[h];rfl
theorem bu9:l6 l<2^ord l:=by unfold l6;have:=X9 (ord l);rw[<-jn2];omega
theorem by1:(l6 l).testBit i=decide (i<ord l):=by unfold l6;rw[jn2];exact Nat.testBit_two_pow_sub_one _ _
theorem df3{l:LI}(h:d7 l=true)(a left:Nat):I8 l a left<ord l:=by
 unfold I8;have:=lf2 (b40 l a left) (ord l);have:=(l8 h).1;omega
theorem jm9{a i:Nat}(h:a.testBit i=true):a≠0:=by intro e;rw[e,pZ]at h;cases h
theorem bh3{a:Nat}(h:a≠0):∃i,a.testBit i=true:=by
 refine oU fun n=>h (oK fun i=>?_);rw[pZ];cases e:a.testBit i;rfl;exact absurd ⟨i,e⟩ n
theorem ds4{a:Nat}(h:cnt a≠0):a≠0:=fun e=>h (by rw[e];exact Z1)
theorem L7{a i:Nat}(H:a<2^n)(h:a.testBit i=true):i<n:=by
 refine oU fun N=>?_;rw[W4 H om]at h;cases h
theorem lg5{l:LI}(H:d7 l=true){a:Nat}(A:a≠0)(G:a<2^ord l)(i:left≠0)(L:left<2^ord l):∃x,x<ord l/\b40 l a left x≠0:=by
 obtain⟨y,Y⟩:=bh3 A;obtain⟨z,Z⟩:=bh3 i;have D:=L7 G Y;have E:=L7 L Z;have h:=m0 H;have C:=(l8 H).2;have e:j9 l (j9 l z (q7 l y)) y=z:=by
  rw[M9 l h,E4 l (q7 l y) y,P0 l h,E4 l z 0,C9 l h z E]
 refine⟨j9 l z (q7 l y),I4 l h _ _,?_⟩;have b:(j6 l a (j9 l z (q7 l y)) &&& left).testBit z=true:=by
  rw[pC,Z,E8.2 ⟨y,om,Y,e⟩];rfl
 have p:=U3 (pW (jm9 b)) (qG Nat.and_le_right (nlt L (E7 H)));unfold b40;omega
theorem cs5{l:LI}(H:d7 l=true){a:Nat}(A:a≠0)(G:a<2^ord l)(i:left≠0)(L:left<2^ord l):G2 left (j6 l a (I8 l a left))<left:=by
 obtain⟨x,K,n⟩:=lg5 H A G i L;have o:=dq8 (b40 l a left) (ord l) x K;have r:b40 l a left (I8 l a left)≠0:=by
  unfold I8;rcases jp9 (b40 l a left) (ord l)with h|h<;>omega
 have T:j6 l a (I8 l a left) &&& left≠0:=ds4 r;have b:=bt7 (ord l) left (j6 l a (I8 l a left)) L;rw[Nat.and_comm]at T;omega
theorem jv5{l:LI}(H:d7 l=true)(a x c:Nat):G2 (j6 l a x) c=j6 l a x &&& G2 (l6 l) c:=by
 apply oK;intro i;rw[S7,pC,S7,by1];cases e:(j6 l a x).testBit i;rfl;have:=L7 (b56 (m0 H) a x) e;simp[this]
theorem jv6(s c:Nat):G2 (l6 l) (c ||| s)=G2 (G2 (l6 l) c) s:=by
 apply oK;intro i;rw[S7,S7,S7,oN];cases (l6 l).testBit i<;>cases c.testBit i<;>cases s.testBit i<;>rfl
theorem di6{l:LI}(H:c<2^ord l):G2 (l6 l) c=0↔c=l6 l:=by
 rw[jp0];constructor;intro h;apply oK;intro i;cases e:(l6 l).testBit i;rw[by1]at e;exact W4 H (by have:=of_decide_eq_false e;omega);exact h i e;rintro rfl i J;exact J
theorem d46:G2 (l6 l) 0=l6 l:=by
 apply oK;intro i;rw[S7,pZ];simp
def bmI(f:Nat->Nat)(k:Nat):Nat × Int:=if k=0 then(0,-1)else((bm f k).1,((bm f k).2:Int))
theorem dq7(f:Nat->Nat):bmI f 0=(0,-1):=rfl
theorem br6(f:Nat->Nat)(h:k≠0):bmI f k=((bm f k).1,((bm f k).2:Int)):=by unfold bmI;rw[if_neg h]
theorem li5(h:(bmI f k).2<(f k:Int)):bmI f (k+1)=(k,(f k:Int)):=by
 rw[br6 f (Nat.succ_ne_zero k)];by_cases V:k=0;subst V;rw[lr1];rw[br6 f V]at h;rw[bu0 (f:=f) (k:=k) (by have:((bm f k).2:Int)<(f k:Int):=h;omega)]
theorem lr0(h:¬(bmI f k).2<(f k:Int)):bmI f (k+1)=bmI f k:=by
 by_cases V:k=0;subst V;rw[dq7]at h;exact absurd (show(-1:Int)<(f 0:Int) by omega) h;rw[br6 f (Nat.succ_ne_zero k)];rw[br6 f V]at h|-;rw[c69 (f:=f) (k:=k) (by intro e;exact h (show((bm f k).2:Int)<(f k:Int) by omega))]
theorem jk2{f:Nat->Nat}{B:Nat}(h:∀j,f j<=B):∀k,(bm f k).2<=B
 |0=>oX _
 |k+1=>by
  by_cases e:(bm f k).2<f k
  . rw[bu0 e];exact h k
  . rw[c69 e];exact jk2 h k
theorem lq9{B:Nat}(h:∀j,f j<=B)(k:Nat) : -1<=(bmI f k).2/\(bmI f k).2<=B:=by
 by_cases V:k=0
 . subst V;rw[dq7];constructor<;>simp<;>omega
 rw[br6 f V];have:=jk2 h k;constructor<;>simp<;>omega
theorem cn7(left:Nat):∀j,b40 l a left j<=24:=fun _=>p8 _
theorem l38{l:LI}(h:d7 l=true)(a left:Nat):(bmI (b40 l a left) (ord l)).1=I8 l a left:=by
 rw[br6 _ (by have:=(l8 h).1;omega)];rfl
end Go.Zz
