/- Claims that are stored into a box; answer of the program: sums and maps. -/
import Derived.Test.YtjhoafjeopcheaaGreatGr36
import Derived.Test.YtjhoafjeopcheaaGreatGr32
set_option linter.all false
set_option maxHeartbeats 2000000
set_option maxRecDepth 8000
namespace Go.Zz
open Go.RowKit Go.Proofs
variable(W s:Ba)(v:Value)(S:Ba)(k:Int)(u:Value)(l:LI)(t:Ba)(x y:Int)(B:Bool)(a b:Int)(w:World){n:Nat}{X g:LI}
def ca0(W:World)(r:Nat):List Value->Nat->World
 |[],_=>W
 |x :: xs,i=>ca0 (W.setCell (aD r i) x) r xs (i+1)
theorem d62(r:Nat):∀(s:List Value) (i:Nat) (W:World),(ca0 W r s i).os=W.os/\(ca0 W r s i).tape=W.tape/\(ca0 W r s i).output=W.output/\(ca0 W r s i).heap.size=W.heap.size/\∀g,g≠r->(ca0 W r s i).heap[g]?=W.heap[g]?
 |[],_,_=>⟨rfl,rfl,rfl,rfl,fun _ _=>rfl⟩
 |x :: s,i,W=>by
  obtain⟨a,b,c,d,e⟩:=d62 r s (i+1) (W.setCell (aD r i) x)
  exact⟨a.trans rfl,b.trans rfl,c.trans rfl,d.trans zm,fun g H=>(e g H).trans (pQ _ _ _ _ (fun q=>H q))⟩
theorem j20{T:TypeId}(r:Nat):∀(s:List Value) (i:Nat) (W:World) (c:Array Value),Blk W r T c->Blk (ca0 W r s i) r T (s.foldl (fun (p:Array Value × Nat) x=>(p.1.setIfInBounds p.2 x,p.2+1)) (c,i)).1
 |[],_,_,_,h=>h
 |x :: s,i,W,c,h=>j20 r s (i+1) (W.setCell (aD r i) x) (c.setIfInBounds i x) (h.set i x)
theorem cr5{W:World}{r:Nat}{j Y n t z v I D H B:Value}(h:Blk W r 52 #[j,Y,n,t,z,v,I,D,H,B])(i X x p q s u w y A:Value):∃F,F=(World.setCell (World.setCell (World.setCell (World.setCell (World.setCell (World.setCell (World.setCell (World.setCell (World.setCell (World.setCell W (aD r 0) i) (aD r 1) X) (aD r 2) x) (aD r 3) p) (aD r 4) q) (aD r 5) s) (aD r 6) u) (aD r 7) w) (aD r 8) y) (aD r 9) A)/\Blk F r 52 #[i,X,x,p,q,s,u,w,y,A]/\(∀P,Ext P W->P.heap.size<=r->Ext P F)/\∀G,r<G.heap.size->Nwb G W F:=by
 obtain⟨a,b,c,d,e⟩:=d62 r [i,X,x,p,q,s,u,w,y,A] 0 W;have C:=j20 r [i,X,x,p,q,s,u,w,y,A] 0 W _ h;refine⟨ca0 W r [i,X,x,p,q,s,u,w,y,A] 0,rfl,?_,fun P E S=>⟨a.trans E.os,b.trans E.tape,c.trans E.output,by rw[d];exact E.size,fun k V=>(e k om).trans (E.block k V)⟩,fun G o k V _=>e k om⟩;simpa using C
theorem jj5(u:Ba)(v:Value)(w:World)(V:b04 w v [be8,s,t,u])(S:s.size<=100000)(ht:t.size<=100000)(i:u.size<=100000):Calls Tryz.prog 14 #[v] w (RE w (.tuple #[.string (bb8 (pgV s) (psV (pgV s) t).1 (psV (pgV s) u).1),.bool (pgB s&&(psV (pgV s) t).2&&(psV (pgV s) u).2)])):=by
 obtain⟨q0,q1,q2⟩:=w3 be8 false true false;obtain⟨l,D⟩:=nq (pgV s);obtain⟨B,d⟩:=nq (pgB s);have J:=fun W=>I3 s W S;rw[<-D,<-d]at J|-;have P:=fun v W h=>L5 v l t W h ht;have r:=fun v W h=>L5 v l u W h i;obtain⟨x,K⟩:=nq ((psV l t).1);obtain⟨O,M⟩:=nq ((psV l t).2);obtain⟨y,Y⟩:=nq ((psV l u).1);obtain⟨b2,N⟩:=nq ((psV l u).2);rw[<-K,<-M]at P|-;rw[<-Y,<-N]at r|-;clear K M Y N;obtain⟨T,m⟩:=nq (bb8 l x y);rw[<-m];have L:=fun v W h=>lu5 v l x y W h;rw[<-m]at L;clear m D d;obtain⟨g,c,rfl,X,k1,Z,f,i0,i1,i2,i3⟩:=jo0 V;clear V;go_in;go_upto_region 8 with(go_at_call 27;refine(J _).mono ?_;rintro e G⟨v,rfl,hI,E⟩;obtain⟨Q,cc,rfl,I,H,zg⟩:=gbx 42 hI E);obtain⟨R,A⟩:=nq (G.alloc (.cells #[.slice Q l.length cc] 42));rw[<-A]at I H zg|-;clear A;have uz:=fun U=>(c9 R U).cell zg;have u2:=fun U=>(c9 R U).cell (H.cell Z);have u3:=fun U=>(c9 R U).cell (H.cell f);have E:=er R;refine wl E ?_;(repeat(go_big_quiet_step(first|(go_at_call 28;exact oa (P _ _ (I.o.ext (c9 _ _)))))));refine zd fun W E=>?_;go_upto_region 9 with fail;refine wl E ?_;(repeat(go_big_quiet_step(first|(go_at_call 28;exact oa (r _ _ (I.o.ext (c9 _ _)))))));refine zd fun W E=>?_;have z0:=E.cell (H.cell X);have zz:=E.cell zg;have C:=(er W).alloc (.cells #[vi 0,.slice none 0 0,.slice none 0 0,vi 0,vi 0,vi 0,vi 0,.slice none 0 0,.slice none 0 0,vi 0] 52);have hC:=oq W 52 #[vi 0,.slice none 0 0,.slice none 0 0,vi 0,vi 0,vi 0,vi 0,.slice none 0 0,.slice none 0 0,vi 0];have y0:=C.cell z0;have yz:=C.cell zz;have Ha:=zh (I.o.ext (E.trans C));have hW:=(H.trans E).trans C;have he:=hW;have hl:=(H.trans E).size;clear uz u2 u3 X k1 Z f;rcases (by cases B<;>cases O<;>simp:B=false\/(B=true/\O=false)\/(B=true/\O=true))with rfl|⟨rfl,rfl⟩|⟨rfl,rfl⟩;all_goals(
  go_wp2_with(first|(go_at_call 30;refine(L _ _ Ha.o).mono ?_;rintro e w3⟨k,a,b,s',p,n,RR,g',o,q,q',a1,a2,a3,a4,c1,c2,c3,c4,rfl,F,hf⟩;have z:=hC.ext F;obtain⟨r0,r1,r2,r3,r4,r5,r6,r7,r8,r9⟩:=z.ten;have f0:=z.free_of;obtain⟨j,hF,hb,hg,hc⟩:=cr5 z (vi k) (.slice a1 g'.length c1) (.slice a2 o.length c2) (vi a) (vi b) (vi s') (vi p) (.slice a3 q.length c3) (.slice a4 q'.length c4) (vi n);have cF:=hf j (hc _ zm);have hh:=hg _ (he.trans F) hl;obtain⟨g0,g1,g2,g3,g4,g5,g6,g7,g8,g9⟩:=hb.ten;rw[hF]at g0 g1 g2 g3 g4 g5 g6 g7 g8 g9;have HF:=zh hF;clear hF)|(go_at_call 32;rw[<-HF.o];refine cm cF fun w4 ha=>?_))
  exact bodyPost_ret (v:=.tuple #[.string T,.bool _]) (by simp[results,Tryz.results14,go_sem];try rfl) rfl ⟨rfl,hh.trans ha⟩)
theorem dp3(u:Ba)(v:Value)(w:World)(V:b04 w v [b09,s,t,u])(S:s.size<=100000)(ht:t.size<=100000)(i:u.size<=100000):Calls Tryz.prog 14 #[v] w (RE w (.tuple #[.string (bb7 (pgV s) (pgV s) (psV (pgV s) t).1 (psV (pgV s) u).1),.bool (pgB s&&(psV (pgV s) t).2&&(psV (pgV s) u).2)])):=by
 obtain⟨q0,q1,q2⟩:=w3 b09 false false true;obtain⟨l,D⟩:=nq (pgV s);obtain⟨B,d⟩:=nq (pgB s);have J:=fun W=>I3 s W S;rw[<-D,<-d]at J|-;have P:=fun v W h=>L5 v l t W h ht;have r:=fun v W h=>L5 v l u W h i;obtain⟨x,K⟩:=nq ((psV l t).1);obtain⟨O,M⟩:=nq ((psV l t).2);obtain⟨y,Y⟩:=nq ((psV l u).1);obtain⟨b2,N⟩:=nq ((psV l u).2);rw[<-K,<-M]at P|-;rw[<-Y,<-N]at r|-;clear K M Y N;obtain⟨T,m⟩:=nq (bb7 l l x y);rw[<-m];have L:=fun v W h=>l91 v v l l x y W h h;rw[<-m]at L;clear m D d;obtain⟨g,c,rfl,X,k1,Z,f,i0,i1,i2,i3⟩:=jo0 V;clear V;go_in;go_upto_region 8 with(go_at_call 27;refine(J _).mono ?_;rintro e G⟨v,rfl,hI,E⟩;obtain⟨Q,cc,rfl,I,H,zg⟩:=gbx 42 hI E);obtain⟨R,A⟩:=nq (G.alloc (.cells #[.slice Q l.length cc] 42));rw[<-A]at I H zg|-;clear A;have uz:=fun U=>(c9 R U).cell zg;have u2:=fun U=>(c9 R U).cell (H.cell Z);have u3:=fun U=>(c9 R U).cell (H.cell f);have E:=er R;refine wl E ?_;(repeat(go_big_quiet_step(first|(go_at_call 28;exact oa (P _ _ (I.o.ext (c9 _ _)))))));refine zd fun W E=>?_;go_upto_region 9 with fail;refine wl E ?_;(repeat(go_big_quiet_step(first|(go_at_call 28;exact oa (r _ _ (I.o.ext (c9 _ _)))))));refine zd fun W E=>?_;have z0:=E.cell (H.cell X);have zz:=E.cell zg;have C:=(er W).alloc (.cells #[vi 0,.slice none 0 0,.slice none 0 0,vi 0,vi 0,vi 0,vi 0,.slice none 0 0,.slice none 0 0,vi 0] 52);have hC:=oq W 52 #[vi 0,.slice none 0 0,.slice none 0 0,vi 0,vi 0,vi 0,vi 0,.slice none 0 0,.slice none 0 0,vi 0];have y0:=C.cell z0;have yz:=C.cell zz;have Ha:=zh (I.o.ext (E.trans C));have hW:=(H.trans E).trans C;have he:=hW;have hl:=(H.trans E).size;clear uz u2 u3 X k1 Z f;rcases (by cases B<;>cases O<;>simp:B=false\/(B=true/\O=false)\/(B=true/\O=true))with rfl|⟨rfl,rfl⟩|⟨rfl,rfl⟩;all_goals(
  go_wp2_with(first|(go_at_call 31;refine(L _ _ Ha.o).mono ?_;rintro e w3⟨k,a,b,s',p,n,RR,g',o,q,q',a1,a2,a3,a4,c1,c2,c3,c4,rfl,F,hf⟩;have z:=hC.ext F;obtain⟨r0,r1,r2,r3,r4,r5,r6,r7,r8,r9⟩:=z.ten;have f0:=z.free_of;obtain⟨j,hF,hb,hg,hc⟩:=cr5 z (vi k) (.slice a1 g'.length c1) (.slice a2 o.length c2) (vi a) (vi b) (vi s') (vi p) (.slice a3 q.length c3) (.slice a4 q'.length c4) (vi n);have cF:=hf j (hc _ zm);have hh:=hg _ (he.trans F) hl;obtain⟨g0,g1,g2,g3,g4,g5,g6,g7,g8,g9⟩:=hb.ten;rw[hF]at g0 g1 g2 g3 g4 g5 g6 g7 g8 g9;have HF:=zh hF;clear hF)|(go_at_call 32;rw[<-HF.o];refine cm cF fun w4 ha=>?_))
  exact bodyPost_ret (v:=.tuple #[.string T,.bool _]) (by simp[results,Tryz.results14,go_sem];try rfl) rfl ⟨rfl,hh.trans ha⟩)
theorem dp4(A s t u:Ba)(v:Value)(w:World)(D:b04 w v [A,s,t,u])(h:¬A=b71/\¬A=be8/\¬A=b09)(S:s.size<=100000)(a:t.size<=100000)(N:u.size<=100000):Calls Tryz.prog 14 #[v] w (RE w (.tuple #[.string mtB,.bool false])):=by
 obtain⟨V,r,T⟩:=h;have q0:(A.toList == [112,97,105,114])=false:=I5 (A:=b71) rfl V;have q1:(A.toList == [115,117,109])=false:=I5 (A:=be8) rfl r;have q2:(A.toList == [97,108,105,107,101])=false:=I5 (A:=b09) rfl T;clear V r T;obtain⟨l,X⟩:=nq (pgV s);obtain⟨b,d⟩:=nq (pgB s);have J:=fun W=>I3 s W S;rw[<-X,<-d]at J;have P:=fun v W h=>L5 v l t W h a;have R:=fun v W h=>L5 v l u W h N;obtain⟨x,K⟩:=nq ((psV l t).1);obtain⟨O,F⟩:=nq ((psV l t).2);obtain⟨y,Y⟩:=nq ((psV l u).1);obtain⟨b2,L⟩:=nq ((psV l u).2);rw[<-K,<-F]at P;rw[<-Y,<-L]at R;clear K F Y L;clear X d;obtain⟨g,c,rfl,Z,m,k,f,i0,i1,i2,i3⟩:=jo0 D;clear D;go_in;go_upto_region 8 with(go_at_call 27;refine(J _).mono ?_;rintro e G⟨v,rfl,i,E⟩;obtain⟨Q,j,rfl,I,H,zg⟩:=gbx 42 i E);obtain⟨B,z⟩:=nq (G.alloc (.cells #[.slice Q l.length j] 42));rw[<-z]at I H zg|-;clear z;have uz:=fun U=>(c9 B U).cell zg;have p:=fun U=>(c9 B U).cell (H.cell k);have u3:=fun U=>(c9 B U).cell (H.cell f);have E:=er B;refine wl E ?_;(repeat(go_big_quiet_step(first|(go_at_call 28;exact oa (P _ _ (I.o.ext (c9 _ _)))))));refine zd fun W E=>?_;go_upto_region 9 with fail;refine wl E ?_;(repeat(go_big_quiet_step(first|(go_at_call 28;exact oa (R _ _ (I.o.ext (c9 _ _)))))));refine zd fun W E=>?_;have n:=E.cell (H.cell Z);have q:=E.cell zg;have C:=(er W).alloc (.cells #[vi 0,.slice none 0 0,.slice none 0 0,vi 0,vi 0,vi 0,vi 0,.slice none 0 0,.slice none 0 0,vi 0] 52);have hC:=oq W 52 #[vi 0,.slice none 0 0,.slice none 0 0,vi 0,vi 0,vi 0,vi 0,.slice none 0 0,.slice none 0 0,vi 0];have y0:=C.cell n;have yz:=C.cell q;have Ha:=zh (I.o.ext (E.trans C));have M:=(H.trans E).trans C;have ha:=M;have hl:=(H.trans E).size;clear uz p u3 Z m k f;rcases (by cases b<;>cases O<;>simp:b=false\/(b=true/\O=false)\/(b=true/\O=true))with rfl|⟨rfl,rfl⟩|⟨rfl,rfl⟩;all_goals(
  go_wp2_with fail
  exact bodyPost_ret (v:=.tuple #[.string mtB,.bool false]) (by simp[results,Tryz.results14,go_sem];try rfl) rfl ⟨rfl,M⟩)
noncomputable section
def c16(W s:Ba):Ba × Bool :=
 if W=ba6 then(bb9 (pgV s),pgB s)else if W=Y2 then(elF (pgV s),pgB s)else
 if W=Y1 then(bh9 (rnV s),rnB s)else if W=b52 then(bi0 (pI s).1,(pI s).2)else(mtB,false)
def bw1(f:LI->LI->Ba)(l X:LI):Ba:=if ssB l X then f l (ssV l X)else mtB
def bp3(W s t:Ba):Ba × Bool :=
 if W=U7 then(bw1 sqlF (pgV s) (rnV t),pgB s&&rnB t)else if W=bd4 then(bw1 b85 (pgV s) (rnV t),pgB s&&rnB t)else
 if W=bp4 then(stlF (pgV s) (psV (pgV s) t).1,pgB s&&(psV (pgV s) t).2)else if W=b75 then(be6 (pgV s) (psV (pgV s) t).1,pgB s&&(psV (pgV s) t).2)else
 if W=bd3 then(b86 (pgV s) (psV (pgV s) t).1,pgB s&&(psV (pgV s) t).2)else if W=b74 then(b92 (pgV s) (psV (pgV s) t).1,pgB s&&(psV (pgV s) t).2)else(mtB,false)
def bx9(W:Ba)(l:LI)(x y:Int):Ba :=
 if W=b71 then plF l x y else if W=be8 then bb8 l x y else if W=b09 then bb7 l l x y else mtB
def by0(W s t u:Ba):Ba × Bool :=
 (bx9 W (pgV s) (psV (pgV s) t).1 (psV (pgV s) u).1,(decide (W=b71) || decide (W=be8) || decide (W=b09))&&(pgB s&&(psV (pgV s) t).2&&(psV (pgV s) u).2))
def ce5:List Ba->Ba × Bool
 |[a,b]=>c16 a b
 |[a,b,c]=>bp3 a b c
 |[a,b,c,d]=>by0 a b c d
 |_=>(mtB,false)
theorem lm3(S:s.size<=100000):
 Calls Tryz.prog 25 #[.string W,.string s] w (RE w (.tuple #[.string (c16 W s).1,.bool (c16 W s).2])):=by
 unfold c16;by_cases o:W=ba6;rw[if_pos o,o];exact jw9 s w S;rw[if_neg o];by_cases r:W=Y2;rw[if_pos r,r];exact j00 s w S;rw[if_neg r];by_cases T:W=Y1;rw[if_pos T,T];exact dz9 s w S;rw[if_neg T];by_cases h:W=b52;rw[if_pos h,h];exact jm6 s w S;rw[if_neg h];exact jx0 W s w ⟨o,r,T,h⟩
theorem lp8(S:s.size<=100000)(h:t.size<=100000):
 Calls Tryz.prog 26 #[.string W,.string s,.string t] w (RE w (.tuple #[.string (bp3 W s t).1,.bool (bp3 W s t).2])):=by
 unfold bp3 bw1;by_cases o:W=U7;rw[if_pos o,o];exact j70 s t w S h;rw[if_neg o];by_cases r:W=bd4;rw[if_pos r,r];exact le7 s t w S h;rw[if_neg r];by_cases T:W=bp4;rw[if_pos T,T];exact lp9 s t w S h;rw[if_neg T];by_cases H:W=b75;rw[if_pos H,H];exact l19 s t w S h;rw[if_neg H];by_cases c:W=bd3;rw[if_pos c,c];exact le5 s t w S h;rw[if_neg c];by_cases e:W=b74;rw[if_pos e,e];exact l17 s t w S h;rw[if_neg e];exact l18 W s t w S h ⟨o,r,T,H,c,e⟩
theorem jj4(L:List Ba)(v:Value)(w:World)(h:b04 w v L)(S:∀s∈L,s.size<=100000):Calls Tryz.prog 14 #[v] w (RE w (.tuple #[.string (ce5 L).1,.bool (ce5 L).2])):=by
 match L,h,S with
 |[],h,S=>exact cv1 _ v w h zm
 |[_],h,S=>exact cv1 _ v w h zm
 |[a,b],h,S=>exact l32 a b _ _ v w h fun W=>lm3 a b W (S b zm)
 |[a,b,c],h,S=>exact l33 a b c _ _ v w h fun W=>lp8 a b c W (S b zm) (S c zm)
 |[a,b,c,d],h,S =>
  have o:=S b zm;have r:=S c zm;have T:=S d zm;show Calls _ _ _ _ fun e P=>e=.returned (.tuple #[.string (by0 a b c d).1,.bool (by0 a b c d).2])/\_;unfold by0 bx9;by_cases Q:a=b71
  . subst Q;exact j80 b c d v w h o r T
  by_cases q:a=be8
  . subst q;exact jj5 b c d v w h o r T
  by_cases i:a=b09
  . subst i;exact dp3 b c d v w h o r T
  rw[if_neg Q,if_neg q,if_neg i,decide_eq_false Q,decide_eq_false q,decide_eq_false i];exact dp4 a b c d v w h ⟨Q,q,i⟩ o r T
 |_ :: _ :: _ :: _ :: _ :: _,h,S=>exact cv1 _ v w h zm
end
theorem dx9(B:Nat)(s:Ba)(f:Nat->Ba)(S:s.size<=1):∀k,(∀i,i<k->(f i).size<=B)->(jn s f k).size<=(B+1)*k
 |0,_=>oX _
 |k+1,h=>by
  have o:=dx9 B s f S k (fun i J=>h i om)
  have r:=h k om
  have e:(B+1)*(k+1)=(B+1)*k+(B+1):=Nat.mul_succ _ _
  unfold jn
  split
  . rw[oe,oe];omega
  . rw[oe];omega
theorem jf5(x:LI):(fqF l x).size<=400:=by
 cases S:q8 l x;rw[c37 S];decide;obtain⟨X,rfl,-,d,-,H⟩:=I9 S;by_cases h:X.length=0;rw[bk1 S (by rw[d9];exact h)];decide;rw[bs1 S h];have f:=bf7 X X.length;have:=dx9 27 sp1 (m8 (fqL X X.length)) (by decide) (fqL X X.length).length (fun i J=>bd8 (X:=X) om H X.length (oc _) _ (J8 J));omega
theorem l67:(bb9 l).size<=4000:=by
 cases Y:d7 l;rw[dx0 Y];decide;rw[co0 Y];unfold c82;have h:=l8 Y;have e:=bj9 Y (oc l.length);have g:=co9 Y;have d:=cw2 Y;have c:=dr3 l;have s:=cg5 l;have B:=m9 (n:=((ord l:Nat):Int)) om;have C:=m9 (n:=((b84 l:Nat):Int)) (by unfold b84;omega);have D:=m9 (n:=(((sgL l).length:Nat):Int)) om;have E:=m9 (n:=((W3 dvT (S9 l):Nat):Int)) om;have F:=m9 (n:=caF l) om;cases decide (ord l<=9)<;>cases ba1 (ord l)<;>simp only[oe,o5,oy,oI,↓reduceIte,pb]<;>omega
theorem lc4:(stlF l a).size<=4000:=by
 cases S:j0 l a;rw[j49 S];decide;obtain⟨n,rfl,o,r,Y⟩:=l7 S;rw[cp1 S];unfold d04;have c:=p8 n;have h:=db8 l n;have p:=dy9 l n;have e:0<=enF l n n/\enF l n n<=7962624:=by
  rw[bf3 (by rw[S];rfl)];have:=bb3 Y n n (ord l);have:=l8 Y;omega
 have s:=bf8 l n;have B:=m9 (n:=((cnt n:Nat):Int)) om;have C:=d03 l n;have D:=bf8 l (F0 l n:Nat);have E:=J3 h.1 h.2;have F:=m9 (n:=enF l n n) om;have G:=m9 (n:=((lpF l n:Nat):Int)) om;cases decide (j7 l n n &&& n=0)<;>cases sidB l n<;>cases apB l n<;>cases bt9 l n<;>simp only[oe,o5,oy,oI,↓reduceIte,pb]<;>omega
theorem ln0:(plF l a b).size<=4000:=by
 cases h:B8 l a b;rw[jm7 h];decide;have f:=h;obtain⟨m,n,rfl,rfl,T,c,A,P,M,B,Y,-,-⟩:=N6 h;rw[j15 f];unfold plG;have o:=l8 Y;have d:=H7 Y m n;have x:=p8 (j7 l m n);have k:0<=knI l m n/\knI l m n<=48:=by
  rw[c42 f];have H:=co2 (b:=n) Y T A;have e:=p8 (j7 l m (F0 l (j7 l m n)));have g:=p8 (j7 l n (F0 l (j7 l m n)));refine⟨H,?_⟩;unfold knF;omega
 have N:0<=enF l m n/\enF l m n<=7962624:=by
  rw[bf3 (by have:=f;unfold B8 at this;simp only[ow]at this;rw[this.1.1.1,this.1.1.2];rfl)];have:=bb3 Y m n (ord l);omega
 have s:=J6 l (j7 l m n:Nat);have S:=m9 (n:=((cnt (j7 l m n):Nat):Int)) om;have C:=m9 (n:=knI l m n) om;have D:=cx3 l m n;have E:=m9 (n:=enF l m n) om;cases drF l m n<;>cases bc3 l m n<;>simp only[oe,o5,oy,oI,↓reduceIte,pb]<;>omega
theorem le0:(be6 l a).size<=4000:=by
 cases h:C8 l a;rw[j68 h];decide;rw[de8 h];unfold cl9;have N:=j66 l a;have M:=cx9 l a;have s:=m9 (n:=((tlN l a:Nat):Int)) om;have B:=J6 l (ftV l a);have C:=J6 l (T1 l a);have D:=m9 (n:=V4 l a) om;cases ftB l a<;>cases hpF l a (ftV l a)<;>simp only[oe,o5,oy,oI,↓reduceIte,pb]<;>omega
theorem lj3:(elF l).size<=4000:=by
 cases h:lzB l;rw[cf7 h];decide;rw[da8 h];have s:=jf5 l (b9 (lzL l));have B:=J6 l (lgV (O8 l) l 16:Nat);have C:=J6 l (lgV (sidP l) l 13:Nat);have D:=J6 l (lgV (apP l) l 11:Nat);simp only[oe,o5,oy,oI];omega
theorem db0(g o:LI)(a b s p:Int)(t q:LI)(n:Int):(fcF k g o a b s p t q n).size<=4000:=by
 have c:=fun k=>dt1 k;have C:=c 1;have R:=c 2;have c3:=c 3;have V:=c 4;have X:=c 5;have c6:=c 6;have d:=c 7;have G:=c80 g;have O:=c80 o;have T:=bm8 t;have Q:=bm8 q;have A:=J6 g a;have B:=J6 g b;have S:=J6 g s;have P:=J6 g p;have N:=m9 (b21 n);unfold fcF;(repeat' split)<;>(try rw[cond_eq_ite])<;>(repeat' split)<;>simp only[oe,o5,oy,oI]<;>omega
theorem ly2{l:LI}{a:Int}(h:ftB l a=false):b86 l a=mtB:=by
 unfold b86;rw[h];rfl
theorem zz68{P:Prop}(h:P:=by intro e;have S:=congrArg ByteArray.size e;have R:(⟨#[32]⟩:Ba).size=1:=rfl;have E:mtB.size=0:=rfl;simp only[cond_true,oe,R,E]at S;omega):P:=h
theorem lp2{l:LI}(h:ftB l n=true):¬b86 l n=mtB:=by
 have o:C8 l n=true:=by
  cases e:C8 l n;rw[(cn5 e).1]at h;cases h;rfl
 obtain⟨m,P,T,M,-,H⟩:=bq5 o;have d:n=m:=om;subst d;unfold b86;rw[h,if_pos rfl,if_pos rfl,if_pos rfl];cases W:R2 l n 1 with
 |nil=>rw[(dw6 W).1]at h;cases h
 | cons x L =>
  rw[(dw7 o W).2];have c:cnt 1=1:=by decide
  obtain⟨t,-,-⟩:=j67 H T M (ord l+1) n 1 1 M (ci6 H) (lo7 H M).symm (by rw[c,Nat.mul_one]) x (by show x∈R2 l n 1;rw[W];simp);have a:S8 l [(n:Int),(x:Int)]=true:=by
   unfold S8;simp[X5 H M,X5 H t,H]
  unfold fcF;rw[if_neg om,if_neg om,if_neg om,if_pos rfl,a];exact zz68
theorem lt7{l:LI}(h:d7 l=true):¬bb9 l=mtB:=by
 intro e;have S:=congrArg ByteArray.size e;rw[co0 h]at S;unfold c82 at S;have E:mtB.size=0:=rfl;have R:(⟨#[103,114,111,117,112,32]⟩:Ba).size=6:=rfl;revert S;cases decide (ord l<=9)<;>cases ba1 (ord l)<;>intro S<;>simp only[oe,R,E,↓reduceIte,pb]at S<;>omega
theorem lx7{l:LI}(h:j0 l n=true):¬stlF l n=mtB:=by
 intro e;have S:=congrArg ByteArray.size e;rw[cp1 h]at S;unfold d04 at S;have E:mtB.size=0:=rfl;have R:(⟨#[115,101,116,32]⟩:Ba).size=4:=rfl;revert S;cases decide (j7 l n n &&& n=0)<;>cases sidB l n<;>cases apB l n<;>cases bt9 l n<;>intro S<;>simp only[oe,R,E,↓reduceIte,pb]at S<;>omega
theorem lc2(x:LI):(sqlF l x).size<=4000:=by
 cases S:q8 l x;rw[j47 S];decide;obtain⟨H,Y,h⟩:=b55 (X:=x.map Int.toNat) (l:=l) (by
  obtain⟨X,rfl,-,-,-,-⟩:=I9 S;rw[bn1];exact S)
 obtain⟨X,rfl,-,-,-,-⟩:=I9 S;rw[bn1]at H h;rw[cp0 S];unfold bj2;have z:=j56 (l:=l) H h;have v:=cx4 l (b9 X);have t:=bo1 Y X;have s:=jf5 l (b9 X);have B:=m9 (n:=((tot l X:Nat):Int)) om;have C:=J6 l (sbs l X:Nat);have D:=J3 z.1 z.2;have E:=J3 v.1 v.2;cases szB l X<;>cases R8 l (b9 X)<;>cases b27 l (b9 X)<;>cases zfB l (b9 X)<;>simp only[oe,o5,oy,oI,↓reduceIte,pb]<;>omega
theorem lw9{l x:LI}(S:q8 l x=true):¬sqlF l x=mtB:=by
 obtain⟨X,rfl,-,-,-,-⟩:=I9 S;intro e;have h:=congrArg ByteArray.size e;rw[cp0 S]at h;unfold bj2 at h;have E:mtB.size=0:=rfl;have R:(⟨#[115,101,113,117,101,110,99,101,32]⟩:Ba).size=9:=rfl;revert h;cases szB l X<;>cases R8 l (b9 X)<;>cases b27 l (b9 X)<;>cases zfB l (b9 X)<;>intro h<;>simp only[oe,R,E,↓reduceIte,pb]at h<;>omega
theorem l51(c:LI):(bh9 c).size<=4000:=by
 cases h:eqB c;rw[du5 h];decide;rw[da9 h];unfold c10;obtain⟨L,l,v⟩:=U4 h;have H:∀i,i<c.length -> -9<=nth c i/\nth c i<1000000000000:=fun i J=>by have:=v i J;omega
 have N:E9 c 4 [] c.length []<=256:=by
  have o:=c30 c 4 [] c.length [];have T:4^c.length<=4^4:=ot om l;omega
 have r:=dc8 c;have z:=j72 c;have s:=J3 H om;have B:=m9 (n:=((E9 c 4 [] c.length []:Nat):Int)) om;have C:=J3 z.1 z.2;have D:=m9 (n:=b00 c) om;cases zcB c<;>cases decide (c.length<=3)<;>simp only[oe,o5,oy,oI,↓reduceIte,pb]<;>omega
theorem co5:mtB.size<=4000:=by decide
theorem cv0(L:List Ba):(ce5 L).1.size<=4000:=by
 unfold ce5;split
 . unfold c16;(repeat' split)<;>first|exact l67 _|exact lj3 _|exact l51 _|exact db0 _ _ _ _ _ _ _ _ _ _|exact co5
 . unfold bp3 bw1;(repeat' split)<;>first|exact lc4 _ _|exact lc2 _ _|exact le0 _ _|exact db0 _ _ _ _ _ _ _ _ _ _|exact co5
 . unfold by0 bx9;(repeat' split)<;>first|exact ln0 _ _ _|exact db0 _ _ _ _ _ _ _ _ _ _|exact co5
 exact co5
noncomputable def lineV (t:Ba):Ba:=F2 (ce5 (p7 32 t))
theorem d96(S:s.size<=100000):
 Calls Tryz.prog 6 #[.string s] w (RE w (.string (P1 lineV s))) :=
 dl8 (fun t=>ce5 (p7 32 t)) s w fun t h _=>⟨cv0 _,fun v W H=>jj4 _ v W H fun x K=>by
  have o:=(K6 10 s).1 t h
  have r:=(K6 32 t).1 x K
  omega⟩
theorem by4:
 Calls Tryz.prog 37 #[.string S] w (RE w (.string (F2 (S,true)))):=by
 by_cases h:S=mtB;subst h;rw[d35];have q:(mtB.toList == [])=true:=(by rw[pi];decide);exact zz127;rw[c36 h];have q:(S.toList == [])=false:=I5 (A:=mtB) rfl h;exact zz127
theorem b45(b:Bool)(k N a R A X x p q n:Value)(P w:World)(E:Ext P w)(o:b=true->¬S=mtB)(T:b=false->S=mtB)
 (hF:∀W,Ext P W->Calls Tryz.prog 101 #[.agg #[k,N,a,X,x,p,q,R,A,n]] W (RE W (.string S))) :
 Calls Tryz.prog 41 #[.agg #[k,N,a,X,x,p,q,R,A,n],.bool b] w (RE w (.string (F2 (S,true)))):=by
 have H:=(er w).alloc (.cells #[k,N,a,X,x,p,q,R,A,n] 52);cases b
 . rw[T rfl,d35];go_in;go_wp2_with fail;go_ret;exact⟨rfl,H⟩
 rw[c36 (o rfl)];have c:=hF _ (E.trans H);have h:=oq w 52 #[k,N,a,X,x,p,q,R,A,n];have Z:=h.cell (i:=0) rfl;have z:=h.cell (i:=1) rfl;have r:=h.cell (i:=2) rfl;have s:=h.cell (i:=3) rfl;have t:=h.cell (i:=4) rfl;have u:=h.cell (i:=5) rfl;have y:=h.cell (i:=6) rfl;have D:=h.cell (i:=7) rfl;have B:=h.cell (i:=8) rfl;have C:=h.cell (i:=9) rfl;clear T o hF;go_in;go_wp2_with(go_at_call 101;refine cm c fun l I=>?_);go_ret;exact⟨rfl,H.trans I⟩
def MkG(S:Ba)(B:Bool)(w:World)(e:Ending)(P:World):Prop :=
 ∃(k a b s p n:Int) (g d f h:Nat) (N A R T:Option Addr) (c C c3 V:Nat),e=.returned (.tuple #[.agg #[vi k,.slice N g c,.slice A d C,vi a,vi b,vi s,vi p,.slice R f c3,.slice T h V,vi n],.bool B])/\Ext w P /\
  ∀W,Ext P W->Calls Tryz.prog 41 #[.agg #[vi k,.slice N g c,.slice A d C,vi a,vi b,vi s,vi p,.slice R f c3,.slice T h V,vi n],.bool B] W (RE W (.string (F2 (S,true))))
theorem zz22{P:Prop}(h:P:=by exact⟨_,_,_,_,_,_,_,_,_,_,N,A,R,T,c,C,c3,V,rfl,E,fun W D=>b45 _ _ _ _ _ _ _ _ _ _ _ _ _ W D o H fun W D=>V9 _ _ _ _ _ _ _ _ _ _ _ _ _ _ W ⟨(O.h1.nwb D.nwb).ints,(O.h2.nwb D.nwb).ints,(O.h3.nwb D.nwb).ints,(O.h4.nwb D.nwb).ints⟩⟩):P:=h
theorem ld3(h:c8 w v l)(o:B8 l a b=true->¬bb8 l a b=mtB)(H:B8 l a b=false->bb8 l a b=mtB):Calls Tryz.prog 56 #[.agg #[v],vi a,vi b] w (MkG (bb8 l a b) (B8 l a b) w) :=
 (d64 v l a b w h).mono fun _ _ h=>by
  obtain⟨i,k,m,p,rfl,O,E⟩:=h
  obtain⟨N,c,rfl,-⟩:=O.h1.shape
  obtain⟨A,C,rfl,-⟩:=O.h2.shape
  obtain⟨R,c3,rfl,-⟩:=O.h3.shape
  obtain⟨T,V,rfl,-⟩:=O.h4.shape
  exact zz22
theorem l10(h:c8 w v l)(o:ftB l a=true->¬b86 l a=mtB)(H:ftB l a=false->b86 l a=mtB):Calls Tryz.prog 50 #[.agg #[v],vi a] w (MkG (b86 l a) (ftB l a) w) :=
 (cz3 v l a w h).mono fun _ _ h=>by
  obtain⟨i,k,m,p,rfl,O,E⟩:=h
  obtain⟨N,c,rfl,-⟩:=O.h1.shape
  obtain⟨A,C,rfl,-⟩:=O.h2.shape
  obtain⟨R,c3,rfl,-⟩:=O.h3.shape
  obtain⟨T,V,rfl,-⟩:=O.h4.shape
  exact zz22
theorem jo4(h:c8 w v l)(o:F3 l a=true->¬b92 l a=mtB)(H:F3 l a=false->b92 l a=mtB):Calls Tryz.prog 51 #[.agg #[v],vi a] w (MkG (b92 l a) (F3 l a) w) :=
 (cq2 v l a w h).mono fun _ _ h=>by
  obtain⟨i,k,m,p,rfl,O,E⟩:=h
  obtain⟨N,c,rfl,-⟩:=O.h1.shape
  obtain⟨A,C,rfl,-⟩:=O.h2.shape
  obtain⟨R,c3,rfl,-⟩:=O.h3.shape
  obtain⟨T,V,rfl,-⟩:=O.h4.shape
  exact zz22
theorem zz75{P:Prop}(h:P:=by exact⟨_,_,_,_,_,_,_,_,_,_,N,a,R,A,c,C,c3,V,rfl,E,fun W D=>b45 _ _ _ _ _ _ _ _ _ _ _ _ _ W D o H fun W D=>V9 _ _ _ _ _ _ _ _ _ _ _ _ _ _ W ⟨(O.h1.nwb D.nwb).ints,(O.h2.nwb D.nwb).ints,(O.h3.nwb D.nwb).ints,(O.h4.nwb D.nwb).ints⟩⟩):P:=h
theorem jb1(o:inB k 1 3=true->¬bi0 k=mtB)(H:inB k 1 3=false->bi0 k=mtB):Calls Tryz.prog 40 #[vi k] w (MkG (bi0 k) (inB k 1 3) w) :=
 (cj9 k w).mono fun _ _ h=>by
  obtain⟨v,l,m,p,rfl,O,E⟩:=h
  obtain⟨N,c,rfl,-⟩:=O.h1.shape
  obtain⟨a,C,rfl,-⟩:=O.h2.shape
  obtain⟨R,c3,rfl,-⟩:=O.h3.shape
  obtain⟨A,V,rfl,-⟩:=O.h4.shape
  exact zz75
theorem l11(X:LI)(w:World)(h:c8 w v l)(U:c8 w u X)(o:q8 l X=true->¬b85 l X=mtB)(H:q8 l X=false->b85 l X=mtB):Calls Tryz.prog 47 #[.agg #[v],u] w (MkG (b85 l X) (q8 l X) w) :=
 (ca2 v u l X w h U).mono fun _ _ h=>by
  obtain⟨i,k,m,p,rfl,O,E⟩:=h
  obtain⟨N,c,rfl,-⟩:=O.h1.shape
  obtain⟨a,C,rfl,-⟩:=O.h2.shape
  obtain⟨R,c3,rfl,-⟩:=O.h3.shape
  obtain⟨A,V,rfl,-⟩:=O.h4.shape
  exact zz75
theorem jo3(g h:LI)(a b:Int)(w:World)(V:c8 w v g)(U:c8 w u h)(o:ffB g h a b=true->¬bb7 g h a b=mtB)(H:ffB g h a b=false->bb7 g h a b=mtB):Calls Tryz.prog 57 #[.agg #[v],.agg #[u],vi a,vi b] w (MkG (bb7 g h a b) (ffB g h a b) w) :=
 (cq0 v u g h a b w V U).mono fun _ _ h=>by
  obtain⟨i,k,m,p,rfl,O,E⟩:=h
  obtain⟨N,c,rfl,-⟩:=O.h1.shape
  obtain⟨A,C,rfl,-⟩:=O.h2.shape
  obtain⟨R,c3,rfl,-⟩:=O.h3.shape
  obtain⟨T,X,rfl,-⟩:=O.h4.shape
  exact⟨_,_,_,_,_,_,_,_,_,_,N,A,R,T,c,C,c3,X,rfl,E,fun W D=>b45 _ _ _ _ _ _ _ _ _ _ _ _ _ W D o H fun W D=>V9 _ _ _ _ _ _ _ _ _ _ _ _ _ _ W ⟨(O.h1.nwb D.nwb).ints,(O.h2.nwb D.nwb).ints,(O.h3.nwb D.nwb).ints,(O.h4.nwb D.nwb).ints⟩⟩
theorem P4:F2 (S,false)=Y8:=if_pos rfl
theorem jx8{s:Ba}(h:pgB s=true):d7 (pgV s)=true:=by
 by_cases o:s=b66;rw[(j09 o).2];decide;by_cases r:s=mtB;rw[(do0 r).1]at h;cases h;by_cases T:fgF (pIs (p7 120 s))=s;rw[(j11 o r T).2];cases e:d7 (pIs (p7 120 s));rw[bn3 e]at T;exact absurd T.symm r;rfl;rw[(d55 o T).1]at h;cases h
theorem lr5{k:Int}(h:inB k 1 3=true):¬bi0 k=mtB:=by
 intro e;have S:=congrArg ByteArray.size e;unfold bi0 fcF at S;rw[(dr4 h).2.1]at S;have R:(⟨#[32]⟩:Ba).size=1:=rfl;have E:mtB.size=0:=rfl;rw[if_neg om,if_neg om,if_neg om,if_neg om,if_neg om,if_neg om,if_pos rfl]at S;simp only[oe,R,E]at S;omega
theorem lr4{k:Int}(h:inB k 1 3=false):bi0 k=mtB:=by
 unfold bi0;rw[(jk4 h).2.1];rfl
theorem zz104{P:Prop}(h:P:=by rw[P4];clear n;go_in;go_wp2_with(go_at_call 21;refine(C _).mono ?_;rintro e G⟨v,rfl,i,E⟩;obtain⟨Q,c,rfl,k,g,zg⟩:=gbx 42 i E);go_ret;exact⟨rfl,g⟩):P:=h
theorem jv2(S:s.size<=100000):
 Calls Tryz.prog 20 #[.string ba6,.string s] w (RE w (.string (F2 (bb9 (pgV s),pgB s)))):=by
 obtain⟨p,f,q,j⟩:=w4 ba6 true false false false;have n:=fun h=>lt7 (jx8 (s:=s) h);obtain⟨l,d⟩:=nq (pgV s);obtain⟨B,b⟩:=nq (pgB s);have C:=fun W=>b88 s W S;rw[<-d,<-b]at C|-;rw[<-d,<-b]at n;obtain⟨F,H⟩:=nq (bb9 l);rw[<-H]at n|-;have L:=fun v W h=>dd3 v l W h;rw[<-H]at L;clear H d b;cases B
 exact zz104;rw[c36 (n rfl)];clear n;go_in;go_wp2_with(first|(go_at_call 21;refine(C _).mono ?_;rintro e G⟨v,rfl,i,E⟩;obtain⟨Q,c,rfl,k,g,zg⟩:=gbx 42 i E)|(go_at_call 42;refine cm (L _ _ k.o) fun m I=>?_));go_ret;exact⟨rfl,g.trans I⟩
theorem dy5(S:s.size<=100000):
 Calls Tryz.prog 20 #[.string Y2,.string s] w (RE w (.string (F2 (elF (pgV s),pgB s)))):=by
 obtain⟨p,f,q,j⟩:=w4 Y2 false true false false;have n:=fun h=>jx8 (s:=s) h;obtain⟨l,d⟩:=nq (pgV s);obtain⟨B,b⟩:=nq (pgB s);have C:=fun W=>b88 s W S;rw[<-d,<-b]at C|-;rw[<-d,<-b]at n;obtain⟨F,H⟩:=nq (elF l);rw[<-H];have L:=fun v W h=>cq4 v l W h;rw[<-H]at L;clear H d b;cases B
 exact zz104;skip;clear n;go_in;go_wp2_with(first|(go_at_call 21;refine(C _).mono ?_;rintro e G⟨v,rfl,i,E⟩;obtain⟨Q,c,rfl,k,g,zg⟩:=gbx 42 i E)|(go_at_call 43;refine cm (L _ _ k.o) fun m I=>?_)|(go_at_call 37;refine cm (by4 F _) fun w3 J=>?_));go_ret;exact⟨rfl,g.trans (I.trans J)⟩
theorem dy4(S:s.size<=100000):
 Calls Tryz.prog 20 #[.string Y1,.string s] w (RE w (.string (F2 (bh9 (rnV s),rnB s)))):=by
 obtain⟨d,Q,q,j⟩:=w4 Y1 false false true false;have cN:=fun W=>ck6 s W S;obtain⟨X,H⟩:=nq (rnV s);obtain⟨B,b⟩:=nq (rnB s);rw[<-H,<-b]at cN|-;obtain⟨F,k⟩:=nq (bh9 X);have c:=fun v W h=>cq3 v X W h;rw[<-k]at c|-;clear k H b;cases B
 . rw[P4];go_in;go_wp2_with(go_at_call 36;refine(cN _).mono ?_;rintro e G⟨v,rfl,i,E⟩);go_ret;exact⟨rfl,E⟩
 go_in;go_wp2_with(first|(go_at_call 36;refine(cN _).mono ?_;rintro e G⟨v,rfl,i,E⟩;have l:=zh i)|(go_at_call 38;refine cm (c _ _ l.o) fun m I=>?_)|(go_at_call 37;refine cm (by4 F _) fun w3 J=>?_));go_ret;exact⟨rfl,E.trans (I.trans J)⟩
theorem jm4(S:s.size<=100000):
 Calls Tryz.prog 20 #[.string b52,.string s] w (RE w (.string (F2 (bi0 (pI s).1,(pI s).2)))):=by
 obtain⟨o,l,q,m⟩:=w4 b52 false false false true;have cN:=fun W=>bd0 s W S;obtain⟨x,K⟩:=nq ((pI s).1);obtain⟨O,D⟩:=nq ((pI s).2);rw[<-K,<-D]at cN|-;have c:=fun W=>jb1 x W (fun h=>lr5 h) (fun h=>lr4 h);obtain⟨P,H⟩:=nq (bi0 x);rw[<-H]at c|-;obtain⟨Q,B⟩:=nq (inB x 1 3);rw[<-B]at c;clear H K D B;cases O
 . rw[P4];go_in;go_wp2_with(go_at_call 39;refine cm (cN _) fun G E=>?_);go_ret;exact⟨rfl,E⟩
 go_in;go_wp2_with(first|(go_at_call 39;refine cm (cN _) fun G E=>?_)|(go_at_call 40;refine(c _).mono ?_;rintro e w3⟨k,a,b,L,p,n,g,d,f,j,N,A,U,T,C,R,c3,V,rfl,F,hF⟩;have I:=(er w3).alloc (.cells #[vi k,.slice N g C,.slice A d R,vi a,vi b,vi L,vi p,.slice U f c3,.slice T j V,vi n] 52);have J:=hF _ I;have Z:=oq w3 52 #[vi k,.slice N g C,.slice A d R,vi a,vi b,vi L,vi p,.slice U f c3,.slice T j V,vi n];have za:=Z.cell (i:=0) rfl;have t:=Z.cell (i:=1) rfl;have X:=Z.cell (i:=2) rfl;have v:=Z.cell (i:=3) rfl;have z:=Z.cell (i:=4) rfl;have Y:=Z.cell (i:=5) rfl;have y:=Z.cell (i:=6) rfl;have r:=Z.cell (i:=7) rfl;have u:=Z.cell (i:=8) rfl;have zb:=Z.cell (i:=9) rfl)|(go_at_call 41;refine cm J fun w4 M=>?_));go_ret;exact⟨rfl,E.trans (F.trans (I.trans M))⟩
theorem dm8(h:¬W=ba6/\¬W=Y2/\¬W=Y1/\¬W=b52):
 Calls Tryz.prog 20 #[.string W,.string s] w (RE w (.string Y8)):=by
 obtain⟨o,r,T,H⟩:=h;have b:(W.toList == [103,114,111,117,112])=false:=I5 (A:=ba6) rfl o;have Q:(W.toList == [101,120,116,114,101,109,97,108])=false:=I5 (A:=Y2) rfl r;have q:(W.toList == [101,113,117,97,116,105,111,110])=false:=I5 (A:=Y1) rfl T;have i:(W.toList == [99,111,108,111,114,115])=false:=I5 (A:=b52) rfl H;clear o r T H;go_in;go_wp2_with fail;exact bodyPost_ret (v:=.string Y8) (by simp[results,Tryz.results20,go_sem];try rfl) rfl ⟨rfl,er w⟩
theorem jm3(S:s.size<=100000):
 Calls Tryz.prog 20 #[.string W,.string s] w (RE w (.string (F2 (c16 W s)))):=by
 unfold c16;by_cases o:W=ba6;rw[if_pos o,o];exact jv2 s w S;rw[if_neg o];by_cases r:W=Y2;rw[if_pos r,r];exact dy5 s w S;rw[if_neg r];by_cases T:W=Y1;rw[if_pos T,T];exact dy4 s w S;rw[if_neg T];by_cases h:W=b52;rw[if_pos h,h];exact jm4 s w S;rw[if_neg h,P4];exact dm8 W s w ⟨o,r,T,h⟩
theorem l80(h:c8 w v l):Calls Tryz.prog 24 #[.string b71,.agg #[v],vi x,vi y] w (RE w (.string (F2 (plF l x y,true)))):=by
 obtain⟨b,d,q⟩:=w3 b71 true false false;have L:=fun v W h=>dn3 v l x y W h;obtain⟨s,S⟩:=nq (plF l x y);rw[<-S]at L|-;clear S;obtain⟨Q,c,rfl,H,g,zg⟩:=gbx 42 h (er w);clear h;go_in;go_wp2_with(first|(go_at_call 55;refine cm (L _ _ H.o) fun m I=>?_)|(go_at_call 37;refine cm (by4 s _) fun w3 E=>?_));go_ret;exact⟨rfl,g.trans (I.trans E)⟩
theorem ll2(h:c8 w v l)(H:B8 l x y=true->¬bb8 l x y=mtB)(S:B8 l x y=false->bb8 l x y=mtB):Calls Tryz.prog 24 #[.string be8,.agg #[v],vi x,vi y] w (RE w (.string (F2 (bb8 l x y,true)))):=by
 obtain⟨r,m,q⟩:=w3 be8 false true false;have L:=fun v W h=>ld3 v l x y W h H S;obtain⟨K,s⟩:=nq (bb8 l x y);rw[<-s]at L|-;clear S H;obtain⟨P,B⟩:=nq (B8 l x y);rw[<-B]at L;clear B;clear s;obtain⟨Q,c,rfl,I,J,zg⟩:=gbx 42 h (er w);clear h;go_in;go_wp2_with(first|(go_at_call 56;refine(L _ _ I.o).mono ?_;rintro e w3⟨k,a,b,M,p,n,g,d,f,j,N,A,U,T,C,R,c3,V,rfl,F,hF⟩;have E:=(er w3).alloc (.cells #[vi k,.slice N g C,.slice A d R,vi a,vi b,vi M,vi p,.slice U f c3,.slice T j V,vi n] 52);have G:=hF _ E;have Z:=oq w3 52 #[vi k,.slice N g C,.slice A d R,vi a,vi b,vi M,vi p,.slice U f c3,.slice T j V,vi n];have zc:=Z.cell (i:=0) rfl;have D:=Z.cell (i:=1) rfl;have za:=Z.cell (i:=2) rfl;have X:=Z.cell (i:=3) rfl;have z:=Z.cell (i:=4) rfl;have zb:=Z.cell (i:=5) rfl;have Y:=Z.cell (i:=6) rfl;have t:=Z.cell (i:=7) rfl;have u:=Z.cell (i:=8) rfl;have ze:=Z.cell (i:=9) rfl)|(go_at_call 41;refine cm G fun w4 O=>?_));go_ret;exact⟨rfl,J.trans (F.trans (E.trans O))⟩
theorem jv0(h:c8 w v l)(H:ffB l l x y=true->¬bb7 l l x y=mtB)(S:ffB l l x y=false->bb7 l l x y=mtB):Calls Tryz.prog 24 #[.string b09,.agg #[v],vi x,vi y] w (RE w (.string (F2 (bb7 l l x y,true)))):=by
 obtain⟨r,m,q⟩:=w3 b09 false false true;have L:=fun v W h=>jo3 v v l l x y W h h H S;obtain⟨K,s⟩:=nq (bb7 l l x y);rw[<-s]at L|-;clear S H;obtain⟨P,B⟩:=nq (ffB l l x y);rw[<-B]at L;clear B;clear s;obtain⟨Q,c,rfl,I,J,zg⟩:=gbx 42 h (er w);clear h;go_in;go_wp2_with(first|(go_at_call 57;refine(L _ _ I.o).mono ?_;rintro e w3⟨k,a,b,M,p,n,g,d,f,j,N,A,U,T,C,R,c3,V,rfl,F,hF⟩;have E:=(er w3).alloc (.cells #[vi k,.slice N g C,.slice A d R,vi a,vi b,vi M,vi p,.slice U f c3,.slice T j V,vi n] 52);have G:=hF _ E;have Z:=oq w3 52 #[vi k,.slice N g C,.slice A d R,vi a,vi b,vi M,vi p,.slice U f c3,.slice T j V,vi n];have zc:=Z.cell (i:=0) rfl;have D:=Z.cell (i:=1) rfl;have za:=Z.cell (i:=2) rfl;have X:=Z.cell (i:=3) rfl;have z:=Z.cell (i:=4) rfl;have zb:=Z.cell (i:=5) rfl;have Y:=Z.cell (i:=6) rfl;have t:=Z.cell (i:=7) rfl;have u:=Z.cell (i:=8) rfl;have ze:=Z.cell (i:=9) rfl)|(go_at_call 41;refine cm G fun w4 O=>?_));go_ret;exact⟨rfl,J.trans (F.trans (E.trans O))⟩
theorem dc1(h:c8 w v l)(D:¬W=b71/\¬W=be8/\¬W=b09):Calls Tryz.prog 24 #[.string W,.agg #[v],vi x,vi y] w (RE w (.string Y8)):=by
 obtain⟨o,r,T⟩:=D;have b:(W.toList == [112,97,105,114])=false:=I5 (A:=b71) rfl o;have d:(W.toList == [115,117,109])=false:=I5 (A:=be8) rfl r;have q:(W.toList == [97,108,105,107,101])=false:=I5 (A:=b09) rfl T;clear o r T;obtain⟨Q,c,rfl,H,E,zg⟩:=gbx 42 h (er w);clear h;go_in;go_wp2_with fail;exact bodyPost_ret (v:=.string Y8) (by simp[results,Tryz.results24,go_sem];try rfl) rfl ⟨rfl,E⟩
theorem zz106{P:Prop}(h:P:=by rw[P4];go_in;go_wp2_with(go_at_call 23;refine cm (P _ _ H.o) fun m I=>?_;have i:=zh (H.o.ext I);have E:=g.trans I;have z:=I.cell zg);go_ret;exact⟨rfl,E⟩):P:=h
theorem ll1(b:Bool)(w:World)(h:c8 w v l)(T:t.size<=100000)(p:psV l t=(x,b))(U:b=true->¬stlF l x=mtB):Calls Tryz.prog 22 #[.string bp4,.agg #[v],.string t] w (RE w (.string (F2 (stlF l x,b)))):=by
 obtain⟨f,d,q,j,k,n⟩:=w6 bp4 false false true false false false;have P:=fun v W h=>Z7 v l t W h T;rw[p]at P;have L:=fun v W h=>j34 v l x W h;obtain⟨s,S⟩:=nq (stlF l x);rw[<-S]at L U|-;clear S p;obtain⟨Q,c,rfl,H,g,zg⟩:=gbx 42 h (er w);clear h;cases b
 exact zz106;rw[c36 (U rfl)];clear U;go_in;go_wp2_with(first|(go_at_call 23;refine cm (P _ _ H.o) fun m I=>?_;have i:=zh (H.o.ext I);have E:=g.trans I;have z:=I.cell zg)|(go_at_call 48;refine cm (L _ _ i.o) fun w3 e=>?_));go_ret;exact⟨rfl,E.trans e⟩
theorem jv3(b:Bool)(w:World)(h:c8 w v l)(T:t.size<=100000)(p:psV l t=(x,b)):Calls Tryz.prog 22 #[.string b75,.agg #[v],.string t] w (RE w (.string (F2 (be6 l x,b)))):=by
 obtain⟨f,d,q,j,k,n⟩:=w6 b75 false false false true false false;have P:=fun v W h=>Z7 v l t W h T;rw[p]at P;have L:=fun v W h=>dn5 v l x W h;obtain⟨s,S⟩:=nq (be6 l x);rw[<-S]at L|-;clear S p;obtain⟨Q,c,rfl,H,g,zg⟩:=gbx 42 h (er w);clear h;cases b
 exact zz106;skip;go_in;go_wp2_with(first|(go_at_call 23;refine cm (P _ _ H.o) fun m I=>?_;have i:=zh (H.o.ext I);have E:=g.trans I;have z:=I.cell zg)|(go_at_call 49;refine cm (L _ _ i.o) fun w3 e=>?_)|(go_at_call 37;refine cm (by4 s _) fun r M=>?_));go_ret;exact⟨rfl,E.trans (e.trans M)⟩
theorem zz107{P:Prop}(h:P:=by rw[P4];go_in;go_wp2_with(go_at_call 23;refine cm (P _ _ H.o) fun u I=>?_;have f:=zh (H.o.ext I);have E:=g.trans I;have Y:=I.cell zg);go_ret;exact⟨rfl,E⟩):P:=h
theorem l81(h:c8 w v l)(z:t.size<=100000)(q:psV l t=(x,B))(U:ftB l x=true->¬b86 l x=mtB)(S:ftB l x=false->b86 l x=mtB):Calls Tryz.prog 22 #[.string bd3,.agg #[v],.string t] w (RE w (.string (F2 (b86 l x,B)))):=by
 obtain⟨q0,q1,D,q3,q4,q5⟩:=w6 bd3 false false false false true false;have P:=fun v W h=>Z7 v l t W h z;rw[q]at P;have L:=fun v W h=>l10 v l x W h U S;obtain⟨K,s⟩:=nq (b86 l x);rw[<-s]at L|-;clear S U;obtain⟨bb,y⟩:=nq (ftB l x);rw[<-y]at L;clear y;clear s q;obtain⟨Q,c,rfl,H,g,zg⟩:=gbx 42 h (er w);clear h;cases B
 exact zz107;skip;go_in;go_wp2_with(first|(go_at_call 23;refine cm (P _ _ H.o) fun u I=>?_;have f:=zh (H.o.ext I);have E:=g.trans I;have Y:=I.cell zg)|(go_at_call 50;refine(L _ _ f.o).mono ?_;rintro e w3⟨k,a,b,M,p,n,m,d,j,r,N,A,X,T,C,R,c3,V,rfl,F,hF⟩;have J:=(er w3).alloc (.cells #[vi k,.slice N m C,.slice A d R,vi a,vi b,vi M,vi p,.slice X j c3,.slice T r V,vi n] 52);have G:=hF _ J;have Z:=oq w3 52 #[vi k,.slice N m C,.slice A d R,vi a,vi b,vi M,vi p,.slice X j c3,.slice T r V,vi n];have zl:=Z.cell (i:=0) rfl;have ze:=Z.cell (i:=1) rfl;have zj:=Z.cell (i:=2) rfl;have zf:=Z.cell (i:=3) rfl;have za:=Z.cell (i:=4) rfl;have zk:=Z.cell (i:=5) rfl;have zi:=Z.cell (i:=6) rfl;have zc:=Z.cell (i:=7) rfl;have zb:=Z.cell (i:=8) rfl;have zn:=Z.cell (i:=9) rfl)|(go_at_call 41;refine cm G fun w4 O=>?_));go_ret;exact⟨rfl,E.trans (F.trans (J.trans O))⟩
theorem jv1(h:c8 w v l)(z:t.size<=100000)(q:psV l t=(x,B))(U:F3 l x=true->¬b92 l x=mtB)(S:F3 l x=false->b92 l x=mtB):Calls Tryz.prog 22 #[.string b74,.agg #[v],.string t] w (RE w (.string (F2 (b92 l x,B)))):=by
 obtain⟨q0,q1,D,q3,q4,q5⟩:=w6 b74 false false false false false true;have P:=fun v W h=>Z7 v l t W h z;rw[q]at P;have L:=fun v W h=>jo4 v l x W h U S;obtain⟨K,s⟩:=nq (b92 l x);rw[<-s]at L|-;clear S U;obtain⟨bb,y⟩:=nq (F3 l x);rw[<-y]at L;clear y;clear s q;obtain⟨Q,c,rfl,H,g,zg⟩:=gbx 42 h (er w);clear h;cases B
 exact zz107;skip;go_in;go_wp2_with(first|(go_at_call 23;refine cm (P _ _ H.o) fun u I=>?_;have f:=zh (H.o.ext I);have E:=g.trans I;have Y:=I.cell zg)|(go_at_call 51;refine(L _ _ f.o).mono ?_;rintro e w3⟨k,a,b,M,p,n,m,d,j,r,N,A,X,T,C,R,c3,V,rfl,F,hF⟩;have J:=(er w3).alloc (.cells #[vi k,.slice N m C,.slice A d R,vi a,vi b,vi M,vi p,.slice X j c3,.slice T r V,vi n] 52);have G:=hF _ J;have Z:=oq w3 52 #[vi k,.slice N m C,.slice A d R,vi a,vi b,vi M,vi p,.slice X j c3,.slice T r V,vi n];have zl:=Z.cell (i:=0) rfl;have ze:=Z.cell (i:=1) rfl;have zj:=Z.cell (i:=2) rfl;have zf:=Z.cell (i:=3) rfl;have za:=Z.cell (i:=4) rfl;have zk:=Z.cell (i:=5) rfl;have zi:=Z.cell (i:=6) rfl;have zc:=Z.cell (i:=7) rfl;have zb:=Z.cell (i:=8) rfl;have zn:=Z.cell (i:=9) rfl)|(go_at_call 41;refine cm G fun w4 O=>?_));go_ret;exact⟨rfl,E.trans (F.trans (J.trans O))⟩
theorem dy6(h:c8 w v l)(B:t.size<=100000):Calls Tryz.prog 22 #[.string U7,.agg #[v],.string t] w (RE w (.string (F2 (bw1 sqlF l (rnV t),rnB t)))):=by
 unfold bw1;obtain⟨V,p,q,D,q4,q5⟩:=w6 U7 true false false false false false;have cN:=fun W=>ck6 t W B;obtain⟨X,x⟩:=nq (rnV t);obtain⟨N,b⟩:=nq (rnB t);rw[<-x,<-b]at cN|-;have S:=fun v u W h U=>bp6 v u l X W h U;have n:ssB l X=true->¬sqlF l (ssV l X)=mtB:=fun h=>by rw[(d80 (l:=l) (X:=X) h).2];exact lw9 h
 obtain⟨Y,A⟩:=nq (ssV l X);rw[<-A]at S n|-;have L:=fun v u W h U=>cq8 v u l Y W h U;obtain⟨G,k⟩:=nq (sqlF l Y);rw[<-k]at L n|-;clear k x b A;obtain⟨Q,c,rfl,i,g,zg⟩:=gbx 42 h (er w);clear h;cases N
 . rw[P4];clear n;go_in;go_wp2_with(go_at_call 36;refine(cN _).mono ?_;rintro e m⟨u,rfl,J,I⟩;obtain⟨a,F,d,rfl,-,-,-⟩:=J.op;have j:=zh J;have H:=zh (i.o.ext I);have T:=g.trans I;have z:=I.cell zg);go_ret;exact⟨rfl,T⟩
 cases C:ssB l X
 . rw[C]at S;simp only[if_false,pb];rw[d35];clear n C;go_in;go_wp2_with(first|(go_at_call 36;refine(cN _).mono ?_;rintro e m⟨u,rfl,J,I⟩;obtain⟨a,F,d,rfl,-,-,-⟩:=J.op;have j:=zh J;have H:=zh (i.o.ext I);have T:=g.trans I;have z:=I.cell zg)|(go_at_call 45;refine(S _ _ _ H.o j.o).mono ?_;rintro e w3⟨y,rfl,K,E⟩;obtain⟨O,P,r,rfl,-,-,-⟩:=K.op;have R:=zh K;have f:=zh (H.o.ext E);have s:=T.trans E;have Z:=E.cell z));go_ret;exact⟨rfl,s⟩
 rw[C]at S;simp only[if_true];rw[c36 (n C)];clear n C;go_in;go_wp2_with(first|(go_at_call 36;refine(cN _).mono ?_;rintro e m⟨u,rfl,J,I⟩;obtain⟨a,F,d,rfl,-,-,-⟩:=J.op;have j:=zh J;have H:=zh (i.o.ext I);have T:=g.trans I;have z:=I.cell zg)|(go_at_call 45;refine(S _ _ _ H.o j.o).mono ?_;rintro e w3⟨y,rfl,K,E⟩;obtain⟨O,P,r,rfl,-,-,-⟩:=K.op;have R:=zh K;have f:=zh (H.o.ext E);have s:=T.trans E;have Z:=E.cell z)|(go_at_call 46;refine cm (L _ _ _ f.o R.o) fun w4 M=>?_));go_ret;exact⟨rfl,s.trans M⟩
theorem l82(h:c8 w v l)(ht:t.size<=100000)(U:∀Y,q8 l Y=true->¬b85 l Y=mtB)(V:∀Y,q8 l Y=false->b85 l Y=mtB):Calls Tryz.prog 22 #[.string bd4,.agg #[v],.string t] w (RE w (.string (F2 (bw1 b85 l (rnV t),rnB t)))):=by
 unfold bw1;obtain⟨q0,q1,q2,q3,q4,q5⟩:=w6 bd4 false true false false false false;have cN:=fun W=>ck6 t W ht;obtain⟨X,x⟩:=nq (rnV t);obtain⟨b0,ha⟩:=nq (rnB t);rw[<-x,<-ha]at cN|-;have S:=fun v u W h A=>bp6 v u l X W h A;have N:ssB l X=true->¬b85 l (ssV l X)=mtB:=fun h=>U _ (by rw[(d80 (l:=l) (X:=X) h).2];exact h);obtain⟨Y,B⟩:=nq (ssV l X);rw[<-B]at S N|-;have L:=fun v u W h A=>l11 v u l Y W h A (U Y) (V Y);obtain⟨SS,r⟩:=nq (b85 l Y);rw[<-r]at L N|-;clear r x ha B;clear V U;obtain⟨bb,hc⟩:=nq (q8 l Y);rw[<-hc]at L;clear hc;obtain⟨Q,c,rfl,m,g,zg⟩:=gbx 42 h (er w);clear h;cases b0
 . rw[P4];clear N;go_in;go_wp2_with(go_at_call 36;refine(cN _).mono ?_;rintro e q⟨u,rfl,J,I⟩;obtain⟨aa,ca,ab,rfl,-,-,-⟩:=J.op;have j:=zh J;have H:=zh (m.o.ext I);have T:=g.trans I;have z:=I.cell zg);go_ret;exact⟨rfl,T⟩
 cases C:ssB l X
 . rw[C]at S;simp only[if_false,pb];rw[d35];clear N C;go_in;go_wp2_with(first|(go_at_call 36;refine(cN _).mono ?_;rintro e q⟨u,rfl,J,I⟩;obtain⟨aa,ca,ab,rfl,-,-,-⟩:=J.op;have j:=zh J;have H:=zh (m.o.ext I);have T:=g.trans I;have z:=I.cell zg)|(go_at_call 45;refine(S _ _ _ H.o j.o).mono ?_;rintro e w3⟨y,rfl,K,E⟩;obtain⟨ac,cb,ad,rfl,-,-,-⟩:=K.op;have HY:=zh K;have G:=zh (H.o.ext E);have s:=T.trans E;have zt:=E.cell z));go_ret;exact⟨rfl,s⟩
 skip;rw[C]at S;simp only[if_true];clear N C;go_in;go_wp2_with(first|(go_at_call 36;refine(cN _).mono ?_;rintro e q⟨u,rfl,J,I⟩;obtain⟨aa,ca,ab,rfl,-,-,-⟩:=J.op;have j:=zh J;have H:=zh (m.o.ext I);have T:=g.trans I;have z:=I.cell zg)|(go_at_call 45;refine(S _ _ _ H.o j.o).mono ?_;rintro e w3⟨y,rfl,K,E⟩;obtain⟨ac,cb,ad,rfl,-,-,-⟩:=K.op;have HY:=zh K;have G:=zh (H.o.ext E);have s:=T.trans E;have zt:=E.cell z)|(go_at_call 47;refine(L _ _ _ G.o HY.o).mono ?_;rintro e w3⟨k,a,b,s',p,n,n1,n2,n3,n4,O,f,F,D,P,R,c3,d,rfl,E,hF⟩;have M:=(er w3).alloc (.cells #[vi k,.slice O n1 P,.slice f n2 R,vi a,vi b,vi s',vi p,.slice F n3 c3,.slice D n4 d,vi n] 52);have cF:=hF _ M;have Z:=oq w3 52 #[vi k,.slice O n1 P,.slice f n2 R,vi a,vi b,vi s',vi p,.slice F n3 c3,.slice D n4 d,vi n];have zl:=Z.cell (i:=0) rfl;have ze:=Z.cell (i:=1) rfl;have zj:=Z.cell (i:=2) rfl;have zf:=Z.cell (i:=3) rfl;have za:=Z.cell (i:=4) rfl;have zk:=Z.cell (i:=5) rfl;have zi:=Z.cell (i:=6) rfl;have zc:=Z.cell (i:=7) rfl;have zb:=Z.cell (i:=8) rfl;have zn:=Z.cell (i:=9) rfl)|(go_at_call 41;refine cm cF fun w4 he=>?_));go_ret;exact⟨rfl,s.trans (E.trans (M.trans he))⟩
theorem d43(h:c8 w v l)(y:t.size<=100000)(D:¬W=U7/\¬W=bd4/\¬W=bp4/\¬W=b75/\¬W=bd3/\¬W=b74):Calls Tryz.prog 22 #[.string W,.agg #[v],.string t] w (RE w (.string Y8)):=by
 obtain⟨H,r,T,a,d,e⟩:=D;have k:(W.toList == [115,101,113,117,101,110,99,101])=false:=I5 (A:=U7) rfl H;have f:(W.toList == [122,101,114,111])=false:=I5 (A:=bd4) rfl r;have q:(W.toList == [115,101,116])=false:=I5 (A:=bp4) rfl T;have j:(W.toList == [116,105,108,101,115])=false:=I5 (A:=b75) rfl a;have p:(W.toList == [116,105,108,101])=false:=I5 (A:=bd3) rfl d;have s:(W.toList == [99,111,115,101,116])=false:=I5 (A:=b74) rfl e;clear H r T a d e;have P:=fun v W h=>Z7 v l t W h y;obtain⟨x,K⟩:=nq ((psV l t).1);obtain⟨B,b⟩:=nq ((psV l t).2);rw[<-K,<-b]at P;clear K b;obtain⟨Q,c,rfl,i,g,zg⟩:=gbx 42 h (er w);clear h;cases B;all_goals(
  go_in
  go_wp2_with(go_at_call 23;refine cm (P _ _ i.o) fun m I=>?_;have n:=zh (i.o.ext I);have E:=g.trans I;have z:=I.cell zg)
  exact bodyPost_ret (v:=.string Y8) (by simp[results,Tryz.results22,go_sem];try rfl) rfl ⟨rfl,E⟩)
theorem lx8{l:LI}{a b:Int}(h:B8 l a b=false):bb8 l a b=mtB:=by
 unfold bb8 csK;rw[h];rfl
theorem lr8{l:LI}{a:Int}(h:F3 l a=false):b92 l a=mtB:=by
 unfold b92;rw[h];rfl
theorem lw2{l:LI}(h:q8 l X=false):b85 l X=mtB:=by
 unfold b85 cqK;rw[h];rfl
theorem lq3{h:LI}{a b:Int}(e:ffB g h a b=false):bb7 g h a b=mtB:=by
 unfold bb7 caK;rw[e];rfl
theorem lx9{l:LI}{a b:Int}(h:B8 l a b=true):¬bb8 l a b=mtB:=by
 have f:=h;obtain⟨m,n,rfl,rfl,T,c,N,A,H,B,Y,s,i⟩:=N6 h;have H:S8 l [(m:Int),(n:Int),csS l m n,csP l m n]=true:=by
  unfold S8 csS csP kpH;rw[f,if_pos rfl,if_pos rfl];simp only[List.all_cons,List.all_nil,s,i,Y,oY,X5 Y (bg8 (m0 Y) m n),X5 Y (be4 l _),Bool.and_true]
 unfold bb8 csK csA csB csG;rw[f];simp only[if_true];unfold fcF;rw[if_pos rfl,H];exact zz68
theorem lr9{l:LI}{a:Int}(h:F3 l a=true):¬b92 l a=mtB:=by
 have f:=h;obtain⟨n,rfl,T,b,Y,s⟩:=ca9 h;have H:S8 l [(n:Int),scS l n,scD l n]=true:=by
  unfold S8;rw[(d74 f).1,(d74 f).2];simp only[List.all_cons,List.all_nil,s,Y,X5 Y (bg8 (m0 Y) _ _),Bool.and_true]
 unfold b92;rw[f];simp only[if_true];unfold fcF;rw[if_neg om,if_neg om,if_neg om,if_neg om,if_neg om,if_pos rfl,H];exact zz68
theorem lw3{l:LI}(h:q8 l X=true):¬b85 l X=mtB:=by
 obtain⟨x,rfl,-,-,Y,-⟩:=I9 h;unfold b85 cqK cqG;rw[h];simp only[if_true];intro e;have S:=congrArg ByteArray.size e;have R:(⟨#[32]⟩:Ba).size=1:=rfl;have E:mtB.size=0:=rfl;revert S;cases szB l (cqX (b9 x))<;>intro S<;>simp only[if_true,if_false,pb]at S<;>unfold fcF at S;rw[if_neg om,if_neg om,if_pos rfl,Y]at S;simp only[cond_true,oe,R,E]at S;omega;rw[if_neg om,if_pos rfl,Y]at S;simp only[cond_true,oe,R,E]at S;omega
theorem lq4{a b:Int}(h:ffB g g a b=true):¬bb7 g g a b=mtB:=by
 have Y:d7 g=true:=bq6 (db2 h);unfold bb7 caK caG caO;rw[h];simp only[if_true];unfold fcF;rw[if_neg om,if_neg om,if_neg om,if_neg om,if_pos rfl,Y];intro e;have S:=congrArg ByteArray.size e;have R:(⟨#[32]⟩:Ba).size=1:=rfl;have E:mtB.size=0:=rfl;simp only[Bool.and_true,cond_true,oe,R,E]at S;omega
end Go.Zz
