/- l35Three, l35Four of the reference at any word. -/
import Derived.Test.YtjhoafjeopcheaaGreatGr37
set_option linter.all false
set_option maxHeartbeats 2000000
set_option maxRecDepth 8000
namespace Go.Zz
open Go.RowKit Go.Proofs
variable(s W:Ba)(v:Value)(l:LI)(t a b d:Ba)(w:World)
noncomputable section
theorem lv7{l:LI}{t:Ba}(h:(psV l t).2=true):∃n:Nat,(psV l t).1=n/\j0 l n=true:=by
 by_cases o:t=bc8;rw[dc7 o]at h|-;exact⟨0,rfl,X5 h (qO _)⟩;cases e:X8 l (p7 44 t) 0 with
 |none=>rw[d60 o e]at h;cases h
 | some a =>
  rw[d61 o e]at h|-;by_cases q:fsF l a=t
  . rw[if_pos q];refine⟨a,rfl,?_⟩;cases E:j0 l a
    . have Q:fsF l a=mtB:=(by unfold fsF;rw[E];rfl);rw[Q]at q;subst q;have c:p7 44 mtB=[mtB]:=rfl;rw[c]at e;have p:(pI mtB).2=false:=(by decide);simp[X8,p]at e
    . rfl
  . rw[if_neg q]at h;cases h
def j62(W:Ba)(l:LI)(t:Ba):Ba × Bool :=
 if W=U7 then(bw1 sqlF l (rnV t),rnB t)else if W=bd4 then(bw1 b85 l (rnV t),rnB t)else
 if W=bp4 then(stlF l (psV l t).1,(psV l t).2)else if W=b75 then(be6 l (psV l t).1,(psV l t).2)else
 if W=bd3 then(b86 l (psV l t).1,(psV l t).2)else if W=b74 then(b92 l (psV l t).1,(psV l t).2)else(mtB,false)
theorem j95(x y:Int)(w:World)(h:c8 w v l):Calls Tryz.prog 24 #[.string W,.agg #[v],vi x,vi y] w (RE w (.string (F2 (bx9 W l x y,decide (W=b71) || decide (W=be8) || decide (W=b09))))):=by
 unfold bx9;by_cases Q:W=b71;subst Q;exact l80 v l x y w h;by_cases q:W=be8;subst q;exact ll2 v l x y w h (fun e=>lx9 e) (fun e=>lx8 e);by_cases i:W=b09;subst i;exact jv0 v l x y w h (fun e=>lq4 e) (fun e=>lq3 e);rw[if_neg Q,if_neg q,if_neg i,decide_eq_false Q,decide_eq_false q,decide_eq_false i];exact dc1 W v l x y w h ⟨Q,q,i⟩
theorem lp1{l:LI}{x:Int}(h:ftB l x=true):¬b86 l x=mtB:=by
 have o:C8 l x=true:=by
  cases e:C8 l x;rw[(cn5 e).1]at h;cases h;rfl
 obtain⟨m,rfl,-,-,-,-⟩:=bq5 o;exact lp2 h
theorem dy3(h:c8 w v l)(H:t.size<=100000):Calls Tryz.prog 22 #[.string W,.agg #[v],.string t] w (RE w (.string (F2 (j62 W l t)))):=by
 unfold j62;by_cases o:W=U7;rw[if_pos o,o];exact dy6 v l t w h H;rw[if_neg o];by_cases r:W=bd4;rw[if_pos r,r];exact l82 v l t w h H (fun _ e=>lw3 e) (fun _ e=>lw2 e);rw[if_neg r];by_cases T:W=bp4
 . rw[if_pos T,T];exact ll1 v l t _ _ w h H rfl fun e=>by
    obtain⟨n,R,E⟩:=lv7 e
    rw[R];exact lx7 E
 rw[if_neg T];by_cases a:W=b75;rw[if_pos a,a];exact jv3 v l t _ _ w h H rfl;rw[if_neg a];by_cases c:W=bd3;rw[if_pos c,c];exact l81 v l t _ _ w h H rfl (fun e=>lp1 e) (fun e=>ly2 e);rw[if_neg c];by_cases f:W=b74;rw[if_pos f,f];exact jv1 v l t _ _ w h H rfl (fun e=>lr9 e) (fun e=>lr8 e);rw[if_neg f,P4];exact d43 W v l t w h H ⟨o,r,T,a,c,f⟩
end
theorem j97(h:p7 32 t=[a,b])(w:World)(T:t.size<=100000):Calls Tryz.prog 12 #[.string t] w (RE w (.string (F2 (c16 a b)))):=by
 have C:b.size<=100000:=by
  have:=(K6 32 t).1 b (by rw[h];simp);omega
 have z:=fun W=>bl3 t 32 W T;rw[h]at z;obtain⟨s,S⟩:=nq (F2 (c16 a b));have L:=fun W=>jm3 a b W C;rw[<-S]at L|-;clear S h;go_in;go_upto_region 3 with(go_at_call 11;refine(z _).mono ?_;rintro e G⟨v,rfl,O,B⟩;obtain⟨g,c,rfl,H,i⟩:=O.indexS zm);have f:=fun U=>(c9 G U).cell (H 0 zm);have u:=fun U=>(c9 G U).cell (H 1 zm);change ∀U,(Lat G U).cell? (aD g 0)=some (.string a)at f;change ∀U,(Lat G U).cell? (aD g 1)=some (.string b)at u;have I:=fun W=>i 0 W zm;have V:=fun W=>i 1 W zm;change ∀W,(Instr.indexAt 29 (.slice (some (aD g 0)) 2 c) (vi 0)).run Tryz.prog W=_ at I;change ∀W,(Instr.indexAt 29 (.slice (some (aD g 0)) 2 c) (vi 1)).run Tryz.prog W=_ at V;clear H i O;have E:=er G;refine wl E ?_;(repeat(go_big_quiet_step(first|(go_at_call 20;exact oa (L _)))));refine zd fun W E=>?_;go_wp2_with fail;go_ret;exact⟨rfl,B.trans E⟩
theorem lq0{a b d:Ba}(h:pgB b=true):bp3 a b d=j62 a (pgV b) d:=by
 unfold bp3 j62;rw[h];simp only[qe]
theorem le6{a b d:Ba}(h:pgB b=false):F2 (bp3 a b d)=Y8:=by
 unfold bp3;rw[h];simp only[qS];(repeat' split)<;>exact P4 _
theorem dm7(R:p7 32 t=[a,b,d])(w:World)(y:t.size<=100000):Calls Tryz.prog 12 #[.string t] w (RE w (.string (F2 (bp3 a b d)))):=by
 have C:b.size<=100000:=by
  have:=(K6 32 t).1 b (by rw[R];simp);omega
 have hd:d.size<=100000:=by
  have:=(K6 32 t).1 d (by rw[R];simp);omega
 have z:=fun W=>bl3 t 32 W y;rw[R]at z;have J:=fun W=>b88 b W C;have V:=fun h=>lq0 (a:=a) (b:=b) (d:=d) h;have S:=fun h=>le6 (a:=a) (b:=b) (d:=d) h;obtain⟨l,D⟩:=nq (pgV b);obtain⟨N,B⟩:=nq (pgB b);rw[<-D,<-B]at J;rw[<-B]at S;rw[<-D,<-B]at V;obtain⟨P,s⟩:=nq (F2 (bp3 a b d));have X:=fun v W h=>dy3 a v l d W h hd;have r:N=true->F2 (j62 a l d)=P:=fun h=>by rw[s,V h]
 rw[<-s]at S|-;clear s R D B V;cases N
 . rw[S rfl];clear S r X;go_in;go_wp2_with(first|(go_at_call 11;refine(z _).mono ?_;rintro e G⟨v,rfl,O,M⟩;obtain⟨g,c,rfl,H,x⟩:=O.indexS zm;have K:=H 1 zm;change G.cell? (aD g 1)=some (.string b)at K;have Y:=fun W=>x 1 W zm;change ∀W,(Instr.indexAt 29 (.slice (some (aD g 0)) 3 c) (vi 1)).run Tryz.prog W=_ at Y;clear H x O)|(go_at_call 21;refine(J _).mono ?_;rintro e m⟨v,rfl,I,E⟩;obtain⟨Q,L,A,rfl,-,-,-⟩:=I.op;have k:=zh (I.ext ((er m).alloc (.cells #[.slice Q l.length L] 42)));have F:=E.alloc (.cells #[.slice Q l.length L] 42);have zg:=(oq m 42 #[.slice Q l.length L]).cell (i:=0) (v:=.slice Q l.length L) rfl));go_ret;exact⟨rfl,M.trans F⟩
 rw[r rfl]at X;clear S r;go_in;go_upto_region 10 with(first|(go_at_call 11;refine(z _).mono ?_;rintro e G⟨v,rfl,O,M⟩;obtain⟨g,c,rfl,H,x⟩:=O.indexS zm;have f:=H 0 zm;have K:=H 1 zm;have Z:=H 2 zm;change G.cell? (aD g 0)=some (.string a)at f;change G.cell? (aD g 1)=some (.string b)at K;change G.cell? (aD g 2)=some (.string d)at Z;have j:=fun W=>x 0 W zm;have Y:=fun W=>x 1 W zm;have n:=fun W=>x 2 W zm;change ∀W,(Instr.indexAt 29 (.slice (some (aD g 0)) 3 c) (vi 0)).run Tryz.prog W=_ at j;change ∀W,(Instr.indexAt 29 (.slice (some (aD g 0)) 3 c) (vi 1)).run Tryz.prog W=_ at Y;change ∀W,(Instr.indexAt 29 (.slice (some (aD g 0)) 3 c) (vi 2)).run Tryz.prog W=_ at n;clear H x O)|(go_at_call 21;refine(J _).mono ?_;rintro e m⟨v,rfl,I,E⟩;obtain⟨Q,L,A,rfl,-,-,-⟩:=I.op;have k:=zh (I.ext ((er m).alloc (.cells #[.slice Q l.length L] 42)));have F:=E.alloc (.cells #[.slice Q l.length L] 42);have zg:=(oq m 42 #[.slice Q l.length L]).cell (i:=0) (v:=.slice Q l.length L) rfl));obtain⟨T,u⟩:=nq (m.alloc (.cells #[.slice Q l.length L] 42));rw[<-u]at k F zg|-;clear u;have q:=fun U=>(c9 T U).cell zg;have u0:=fun U=>(c9 T U).cell (F.cell f);have p:=fun U=>(c9 T U).cell (F.cell Z);have E:=er T;refine wl E ?_;(repeat(go_big_quiet_step(first|(go_at_call 22;exact oa (X _ _ (k.o.ext (c9 _ _)))))));refine zd fun W E=>?_;go_wp2_with fail;go_ret;exact⟨rfl,(M.trans F).trans E⟩
theorem zz121{P:Prop}(h:P:=by go_wp2_with fail;go_ret;exact⟨by simp[P4]<;>rfl,(B.trans H).trans E⟩):P:=h
theorem dy2(f:Ba)(R:p7 32 t=[a,b,d,f])(w:World)(ht:t.size<=100000):Calls Tryz.prog 12 #[.string t] w (RE w (.string (F2 (by0 a b d f)))):=by
 have C:b.size<=100000:=by
  have:=(K6 32 t).1 b (by rw[R];simp);omega
 have hd:d.size<=100000:=by
  have:=(K6 32 t).1 d (by rw[R];simp);omega
 have hf:f.size<=100000:=by
  have:=(K6 32 t).1 f (by rw[R];simp);omega
 have z:=fun W=>bl3 t 32 W ht;rw[R]at z;have J:=fun W=>b88 b W C;have s:by0 a b d f=(bx9 a (pgV b) (psV (pgV b) d).1 (psV (pgV b) f).1,(decide (a=b71) || decide (a=be8) || decide (a=b09))&&(pgB b&&(psV (pgV b) d).2&&(psV (pgV b) f).2)):=rfl;obtain⟨l,n⟩:=nq (pgV b);obtain⟨bb,D⟩:=nq (pgB b);rw[<-n,<-D]at J s;have p:=fun v W h=>Z7 v l d W h hd;have j:=fun v W h=>Z7 v l f W h hf;obtain⟨x,K⟩:=nq ((psV l d).1);obtain⟨P,F⟩:=nq ((psV l d).2);obtain⟨y,M⟩:=nq ((psV l f).1);obtain⟨T,N⟩:=nq ((psV l f).2);rw[<-K,<-F]at p s;rw[<-M,<-N]at j s;rw[s];clear s K M F N n D R;have X:=fun v W h=>j95 a v l x y W h;obtain⟨FF,hF⟩:=nq (bx9 a l x y);obtain⟨q,he⟩:=nq ((decide (a=b71) || decide (a=be8) || decide (a=b09)));rw[<-hF,<-he]at X|-;clear hF he;cases bb
 . rw[qS,qS,Bool.and_false,P4];clear X p j;go_in;go_wp2_with(first|(go_at_call 11;refine(z _).mono ?_;rintro e G⟨v,rfl,O,B⟩;obtain⟨g,c,rfl,r,I⟩:=O.indexS zm;have Y:=r 1 zm;change G.cell? (aD g 1)=some (.string b)at Y;have Z:=fun W=>I 1 W zm;change ∀W,(Instr.indexAt 29 (.slice (some (aD g 0)) 4 c) (vi 1)).run Tryz.prog W=_ at Z;clear r I O)|(go_at_call 21;refine(J _).mono ?_;rintro e m⟨v,rfl,S,E⟩;obtain⟨Q,L,ar,rfl,-,-,-⟩:=S.op;have k:=zh (S.ext ((er m).alloc (.cells #[.slice Q l.length L] 42)));have H:=E.alloc (.cells #[.slice Q l.length L] 42);have zg:=(oq m 42 #[.slice Q l.length L]).cell (i:=0) (v:=.slice Q l.length L) rfl));go_ret;exact⟨rfl,B.trans H⟩
 skip;go_in;go_upto_region 11 with(first|(go_at_call 11;refine(z _).mono ?_;rintro e G⟨v,rfl,O,B⟩;obtain⟨g,c,rfl,r,I⟩:=O.indexS zm;have k0:=r 0 zm;have Y:=r 1 zm;have u:=r 2 zm;change G.cell? (aD g 0)=some (.string a)at k0;change G.cell? (aD g 1)=some (.string b)at Y;change G.cell? (aD g 2)=some (.string d)at u;have i0:=fun W=>I 0 W zm;have Z:=fun W=>I 1 W zm;have i2:=fun W=>I 2 W zm;have A:=r 3 zm;change G.cell? (aD g 3)=some (.string f)at A;have i3:=fun W=>I 3 W zm;change ∀W,(Instr.indexAt 29 (.slice (some (aD g 0)) 4 c) (vi 3)).run Tryz.prog W=_ at i3;change ∀W,(Instr.indexAt 29 (.slice (some (aD g 0)) 4 c) (vi 0)).run Tryz.prog W=_ at i0;change ∀W,(Instr.indexAt 29 (.slice (some (aD g 0)) 4 c) (vi 1)).run Tryz.prog W=_ at Z;change ∀W,(Instr.indexAt 29 (.slice (some (aD g 0)) 4 c) (vi 2)).run Tryz.prog W=_ at i2;clear r I O)|(go_at_call 21;refine(J _).mono ?_;rintro e m⟨v,rfl,S,E⟩;obtain⟨Q,L,ar,rfl,-,-,-⟩:=S.op;have k:=zh (S.ext ((er m).alloc (.cells #[.slice Q l.length L] 42)));have H:=E.alloc (.cells #[.slice Q l.length L] 42);have zg:=(oq m 42 #[.slice Q l.length L]).cell (i:=0) (v:=.slice Q l.length L) rfl));obtain⟨V,ha⟩:=nq (m.alloc (.cells #[.slice Q l.length L] 42));rw[<-ha]at k H zg|-;clear ha;have uz:=fun U=>(c9 V U).cell zg;have u0:=fun U=>(c9 V U).cell (H.cell k0);have u2:=fun U=>(c9 V U).cell (H.cell u);have u3:=fun U=>(c9 V U).cell (H.cell A);have E:=er V;refine wl E ?_;(repeat(go_big_quiet_step(first|(go_at_call 23;exact oa (p _ _ (k.o.ext (c9 _ _)))))));refine zd fun W E=>?_;go_upto_region 12 with fail;refine wl E ?_;(repeat(go_big_quiet_step(first|(go_at_call 23;exact oa (j _ _ (k.o.ext (c9 _ _)))))));refine zd fun W E=>?_;rcases (by cases P<;>cases T<;>simp:(P=false/\T=false)\/(P=false/\T=true)\/(P=true/\T=false)\/(P=true/\T=true))with⟨rfl,rfl⟩|⟨rfl,rfl⟩|⟨rfl,rfl⟩|⟨rfl,rfl⟩
 exact zz121;exact zz121;exact zz121;go_upto_region 15 with fail;refine wl E ?_;(repeat(go_big_quiet_step(first|(go_at_call 24;exact oa (X _ _ (k.o.ext (c9 _ _)))))));refine zd fun W E=>?_;go_wp2_with fail;go_ret;exact⟨zm,(B.trans H).trans E⟩
theorem ju9(y:t.size<=100000)(h:¬(p7 32 t).length=2/\¬(p7 32 t).length=3/\¬(p7 32 t).length=4):Calls Tryz.prog 12 #[.string t] w (RE w (.string Y8)):=by
 have C:=fun W=>bl3 t 32 W y;have H:=(K6 32 t).2.2;obtain⟨L,l⟩:=nq (p7 32 t);rw[<-l]at C h H;obtain⟨r,T,a⟩:=h;obtain⟨n,N⟩:=nq (L.length);rw[<-N]at H r T a;have f:¬(n:Int)=2:=om;have q:¬(n:Int)=3:=om;have Q:¬(n:Int)=4:=om;have i:((n:Int) != 3)=true:=by simp[q]
 have R:((n:Int) != 4)=true:=by simp[Q]
 have I:=zh N;have p:=zh H;clear l N H;go_in;go_wp2_with(go_at_call 11;refine(C _).mono ?_;rintro e G⟨v,rfl,O,E⟩;obtain⟨g,c,rfl,-,-⟩:=O.indexS (by rw[<-I.o];exact p.o);rw[<-I.o]);go_ret;exact⟨rfl,E⟩
theorem j96(H:t.size<=100000):
 Calls Tryz.prog 12 #[.string t] w (RE w (.string (lineV t))):=by
 unfold lineV;have K:=ju9 t w H;match h:p7 32 t with
 |[]=>rw[h]at K;exact K zm
 |[_]=>rw[h]at K;exact K zm
 |[a,b]=>exact j97 t a b h w H
 |[a,b,d]=>exact dm7 t a b d h w H
 |[a,b,d,f]=>exact dy2 t a b d f h w H
 |_ :: _ :: _ :: _ :: _ :: _=>rw[h]at K;exact K zm
theorem dv5{r:Ba × Bool}(h:r.1.size<=4000):(F2 r).size<=4000:=by
 unfold F2;(repeat' split)<;>first|exact h|decide
theorem d73(S:s.size<=100000):
 Calls Tryz.prog 5 #[.string s] w (RE w (.string (P1 lineV s))) :=
 dd6 lineV s w fun t h _=>⟨dv5 (cv0 _),fun W=>j96 t W (by
  have:=(K6 10 s).1 t h;omega)⟩
theorem c25:
 Calls Tryz.prog 6 #[.string s] w (RE w (.string (P1 lineV s))):=by
 by_cases S:s.size<=100000;exact d96 s w S;have h:(2000:Int)<s.size:=om;have H:Hid (P1 lineV s=mtB):=zh (if_pos om);exact zz60
theorem bz4:
 Calls Tryz.prog 5 #[.string s] w (RE w (.string (P1 lineV s))):=by
 by_cases S:s.size<=100000;exact d73 s w S;have h:(2000:Int)<s.size:=om;have H:Hid (P1 lineV s=mtB):=zh (if_pos om);exact zz60
end Go.Zz
