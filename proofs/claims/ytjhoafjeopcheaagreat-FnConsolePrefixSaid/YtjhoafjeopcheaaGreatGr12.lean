/- The shortest part with the sum 0; claims of sequences. -/
import Derived.Test.YtjhoafjeopcheaaGreatGr11
set_option linter.all false
set_option maxHeartbeats 2000000
set_option maxRecDepth 20000
namespace Go.Zz
open Go.RowKit Go.Proofs
variable(v:Value)(k:Int)(u:Value)(l:LI)(X:LN)(c x:LI)(w:World){T:TypeId}{P e:World}{b:Nat}
theorem jq5:∀{A B:LN},b9 A=b9 B->A=B:=fun {A B} e=>by
 have:=congrArg (List.map Int.toNat) e
 simpa[b9,Function.comp_def]using this
theorem bn1:(b9 X).map Int.toNat=X:=by simp[b9,Function.comp_def]
theorem b55{l:LI}{X:LN}(h:q8 l (b9 X)=true):X.length<=12/\d7 l=true/\∀x∈X,x<24:=by
 obtain⟨k,e,-,H,Y,a⟩:=I9 h;obtain rfl:=jq5 e;exact⟨H,Y,a⟩
theorem bd5(h:c8 w v l)(A:c8 w u (b9 X))(S:q8 l (b9 X)=true):Calls Tryz.prog 175 #[.agg #[v],u] w fun e P=>∃p,e=.returned (.tuple #[p,.bool (szB l X)])/\Own 3 w P p (b9 (szR l X))/\Ext w P:=by
 obtain⟨B,Z,F,C,H,E,s⟩:=m04 42 h;clear h;obtain⟨R,Y,q⟩:=b55 S;have g:Hid (∀W,Ext B W->c8 W u (b9 X)):=zh fun W D=>A.ext (F.trans D);obtain⟨Q,c,y,rfl,r,L⟩:=A.nats;have T:=zh (fun (k:Nat) a b c=>m02 (l:=l) R (k:=k) a b c);have m:=zh (fun a=>lo9 (l:=l) R a);clear q Y r L A;go_in;go_wp2_with fail;rw[<-Z.o];go_loopw [6] (fun i wr=>∃k:Nat,1<=k/\k<=X.length+1/\i=vi k/\(∀j,1<=j->j<k->bl9 l X j=false)/\Ext B wr) (fun i _=>X.length+1-(intOf i).toNat);exact⟨1,om,om,rfl,om,E⟩
 clear E;obtain⟨k,f,G,rfl,I,E⟩:=hrel;have N:=zh I;have x:=C _ E;clear I;by_cases U:k<=X.length
 . cases K:bl9 l X k
   . have z:=zh K;go_wp2_with(first|(go_at_call 172;refine cx (F6 _ _ _ _ _ (H _ E) (g.o _ E) S) E fun P E=>?_)|(go_at_call 261;refine(bt5 _ _ _ _ _ _ (H _ E) (g.o _ E) S f U).mono ?_;rw[K];rintro e P⟨p,rfl,O,V⟩;replace E:=E.trans V;clear V));go_roundw;exact⟨k+1,om,om,zg,fun j d J=>by by_cases e:j=k;(subst e;exact z.o);exact N.o j d om,E⟩;exact zm1
   have z:=zh (T.o k f N.o K);go_wp2_with(first|(go_at_call 172;refine cx (F6 _ _ _ _ _ (H _ E) (g.o _ E) S) E fun P E=>?_)|(go_at_call 261;refine(bt5 _ _ _ _ _ _ (H _ E) (g.o _ E) S f U).mono ?_;rw[K];rintro e P⟨p,rfl,O,V⟩;replace O:=O.mono E;replace E:=E.trans V;clear V));exact br (.tuple #[p,.bool true]) ⟨_,by rw[z.o.2],by rw[z.o.1];exact O.mono F,F.trans E⟩
 have z:=zh (m.o fun j d J=>N.o j d om);have O:Own 3 wr (wr.alloc (.cells #[] 3)) (.slice (some (aD wr.heap.size 0)) 0 0) (b9 []):=l9 (TI:=3) (n:=0) om (er wr) [] rfl;go_wp2_with fail;exact br (.tuple #[.slice (some (aD wr.heap.size 0)) 0 0,.bool false]) ⟨_,by rw[z.o.2],by rw[z.o.1];exact O.mono (F.trans E),F.trans (E.alloc _)⟩
theorem zz12{P:Prop}(h:P:=by clear r;go_wp2_with(first|(go_at_call 115;refine cm (F5 _ _ _ _ _ (H _ E) (q.o _ E) S) fun P V=>?_;replace O:=O.ext V;replace E:=E.trans V;clear V)|(go_at_call 222;refine(bm6 _ _ _ _ (q.o _ E) M om).mono ?_;rintro e G⟨x1,rfl,f,z⟩;obtain⟨aa,c1,g⟩:=f.nshape;rw[<-A.o]at g;subst g;replace f:=f.mono E;replace O:=O.ext z;replace E:=E.trans z;clear z)|(go_at_call 116;refine cm (b63 _ _ _ _ _ (H _ E) f.ints R (zh fun x K=>J.o x (b22 K))) fun P V=>?_;replace O:=O.ext V;replace f:=f.ext V;replace E:=E.trans V;clear V));go_roundw;exact⟨y+1,om,om,zg,by rw[I.o];unfold bp2;rw[if_neg om];exact f,E⟩;exact zm1):P:=h
theorem bc2(h:c8 w v l)(hu:c8 w u (b9 X))(S:q8 l (b9 X)=true):Calls Tryz.prog 118 #[.agg #[v],u] w fun e P=>∃p,e=.returned (.tuple #[p,.bool (szB l X)])/\Own 3 w P p (b9 (szR l X))/\Ext w P:=by
 obtain⟨B,Z,F,C,H,E,Hd⟩:=m04 42 h;clear h;obtain⟨ha,Y,hl⟩:=b55 S;have J:=zh hl;have R:=zh Y;have hp:=j22 ha;have hj:=X9 X.length;have hh:=o6 (n:=X.length) om;have q:Hid (∀W,Ext B W->c8 W u (b9 X)):=zh fun W D=>hu.ext (F.trans D);obtain⟨Q,c,ar,rfl,hr,hf⟩:=hu.nats;have Hf:=zh (ld1 l X);have Hg:=zh (c01 l X);have Hs:=zh (fun (c:Nat) a b d=>j57 (l:=l) (X:=X) (c:=c) a b d);have Ho:=zh (fun (c:Nat) a=>lo8 (l:=l) (X:=X) (c:=c) a);have He:=zh (fun (b:Nat) a=>ld0 ha (b:=b) a);have Hh:=zh (fun (b:Nat) a=>dj9 (X:=X) om (m:=b) a);have O:Own 3 B (B.alloc (.cells #[] 3)) (.slice (some (aD B.heap.size 0)) 0 0) (b9 (bp2 X (N9 l X 1))):=by
  rw[Hf.o];exact l9 (TI:=3) (n:=0) om (er B) [] rfl
 have he:=E.alloc (.cells #[] 3);clear hl Y hr hf hu;go_in;go_wp2_with fail;rw[<-Z.o];rw[Hd.o];go_loopw [6,7] (fun p i wr=>∃c:Nat,1<=c/\c<=pw X.length/\i=vi c/\Own 3 B wr p (b9 (bp2 X (N9 l X c)))/\Ext B wr) (fun _ i _=>pw X.length-(intOf i).toNat);exact⟨1,om,om,rfl,O,he⟩
 clear E he O;obtain⟨y,hc1,hc2,rfl,O,E⟩:=hrel;obtain⟨N,j⟩:∃BB,Hid (BB=N9 l X y):=⟨_,zh rfl⟩;rw[<-j.o]at O;have Hl:Hid (N<pw X.length):=zh (by
  rcases Hg.o y with⟨h,_⟩|⟨_,h,_⟩;rw[j.o,h];omega;rw[j.o];omega)
 obtain⟨k,Hb⟩:∃k,Hid (k=(bp2 X N).length):=⟨_,zh rfl⟩;obtain⟨ab,c2,e2⟩:=O.nshape;rw[<-Hb.o]at e2;subst e2;have L:Hid (k=cnt N):=zh (by rw[Hb.o];exact He.o N (by have:=Hl.o;unfold pw at this;exact this));have hk:k<=24:=by rw[L.o];exact p8 _
 by_cases U:y<pw X.length
 . have M:y<2^24:=om;obtain⟨s,A⟩:∃s,Hid (s=(B9 X y).length):=⟨_,zh rfl⟩;have Ha:Hid (s=cnt y):=zh (by rw[A.o];exact Hh.o y (by unfold pw at U;exact U));have hi:s<=24:=(by rw[Ha.o];exact p8 _);have H0:Hid (cnt N=0↔N=0):=zh ⟨fun e=>by
    by_cases h:N=0
    exact h
    have:=U3 (a:=N) om (by have:=Hl.o;omega);omega,fun e=>by rw[e];exact Z1⟩
   by_cases t:tot l (B9 X y)=0
   . have hq:((tot l (B9 X y):Int) == 0)=true:=(by rw[t];simp);have Ht:=zh t;clear t;by_cases r:k=0
     have I:Hid (N9 l X (y+1)=y):=zh (Hs.o y om Ht.o (Or.inl (by rw[<-j.o];exact H0.o.1 (by rw[<-L.o];exact r))));have hz:((k:Int) == 0)=true:=(by rw[r];rfl);exact zz12
     have hz:((k:Int) == 0)=false:=zso;by_cases T:s<k
     have I:Hid (N9 l X (y+1)=y):=zh (Hs.o y om Ht.o (Or.inr (by rw[<-j.o,<-Ha.o,<-L.o];exact T)));exact zz12
     have I:Hid (N9 l X (y+1)=N):=zh ((Ho.o y (by
      rintro⟨_,e|e⟩;exact r (by rw[L.o];exact H0.o.2 (by rw[j.o];exact e));rw[<-j.o,<-Ha.o,<-L.o]at e;exact T e)).trans j.o.symm)
     clear r
     go_wp2_with(first|(go_at_call 115;refine cm (F5 _ _ _ _ _ (H _ E) (q.o _ E) S) fun P V=>?_;replace O:=O.ext V;replace E:=E.trans V;clear V)|(go_at_call 222;refine(bm6 _ _ _ _ (q.o _ E) M om).mono ?_;rintro e G⟨x1,rfl,f,z⟩;obtain⟨aa,c1,g⟩:=f.nshape;rw[<-A.o]at g;subst g;replace f:=f.mono E;replace O:=O.ext z;replace E:=E.trans z;clear z)|(go_at_call 116;refine cm (b63 _ _ _ _ _ (H _ E) f.ints R (zh fun x K=>J.o x (b22 K))) fun P V=>?_;replace O:=O.ext V;replace f:=f.ext V;replace E:=E.trans V;clear V))
     go_roundw
     case rel=>exact⟨y+1,om,om,zg,by rw[I.o];exact O,E⟩
     case measure=>exact zm1
   have hq:((tot l (B9 X y):Int) == 0)=false:=zso;have I:Hid (N9 l X (y+1)=N):=zh ((Ho.o y (fun e=>t e.1)).trans j.o.symm);clear t;go_wp2_with(first|(go_at_call 115;refine cm (F5 _ _ _ _ _ (H _ E) (q.o _ E) S) fun P V=>?_;replace O:=O.ext V;replace E:=E.trans V;clear V)|(go_at_call 222;refine(bm6 _ _ _ _ (q.o _ E) M om).mono ?_;rintro e G⟨x1,rfl,f,z⟩;obtain⟨aa,c1,g⟩:=f.nshape;rw[<-A.o]at g;subst g;replace f:=f.mono E;replace O:=O.ext z;replace E:=E.trans z;clear z)|(go_at_call 116;refine cm (b63 _ _ _ _ _ (H _ E) f.ints R (zh fun x K=>J.o x (b22 K))) fun P V=>?_;replace O:=O.ext V;replace f:=f.ext V;replace E:=E.trans V;clear V));go_roundw;exact⟨y+1,om,om,zg,by rw[I.o];exact O,E⟩;exact zm1
 have hc:y=pw X.length:=om;have Hc:Hid (N=szN l X):=zh (by rw[j.o,hc];rfl);have Hz:Hid (decide ((0:Int)<(k:Int))=szB l X):=zh (by
  unfold szB;rw[<-Hc.o,L.o];by_cases h:N=0;rw[h,Z1];rfl;have:=U3 (a:=N) om (by have:=Hl.o;omega);rw[decide_eq_true (show(0:Int)<(cnt N:Int) by omega),decide_eq_true h])
 clear hc;go_wp2_with fail;exact bodyPost_ret (v:=.tuple #[.slice ab k c2,.bool (szB l X)]) (by simp[results,Tryz.results118,go_sem,<-Hz.o]) rfl ⟨_,rfl,by unfold szR;rw[<-Hc.o];exact O.mono F,F.trans E⟩
def cqX(x:LI):LN:=x.map Int.toNat
def cqK(l x:LI):Int:=if q8 l x then if szB l (cqX x)then 2 else 3 else 0
def cqG(l x:LI):LI:=if q8 l x then l else []
def cqT(l x:LI):LI:=if q8 l x then x else []
def cqP(l x:LI):LI:=if q8 l x then b9 (szR l (cqX x))else []
theorem lf7{l x:LI}(h:q8 l x=false):cqK l x=0/\cqG l x=[]/\cqT l x=[]/\cqP l x=[]:=by unfold cqK cqG cqT cqP;rw[h];exact⟨rfl,rfl,rfl,rfl⟩
theorem jr3{l:LI}{X:LN}(h:q8 l (b9 X)=true)(z:szB l X=true):cqK l (b9 X)=2/\cqG l (b9 X)=l/\cqT l (b9 X)=b9 X/\cqP l (b9 X)=b9 (szR l X):=by
 have e:cqX (b9 X)=X:=bn1 X;unfold cqK cqG cqT cqP;rw[h,e,z];exact⟨rfl,rfl,rfl,rfl⟩
theorem ly0{l:LI}{X:LN}(h:szB l X=false):szR l X=[]:=by
 unfold szB at h;have:szN l X=0:=by simpa using h
 unfold szR bp2;rw[if_pos this]
theorem je3{l:LI}{X:LN}(h:q8 l (b9 X)=true)(z:szB l X=false):cqK l (b9 X)=3/\cqG l (b9 X)=l/\cqT l (b9 X)=b9 X/\cqP l (b9 X)=[]:=by
 have e:cqX (b9 X)=X:=bn1 X;unfold cqK cqG cqT cqP;rw[h,e,z,ly0 z];exact⟨rfl,rfl,rfl,rfl⟩
theorem jh3{w:World}{v:Value}{x:LI}(h:Own T P w v ([]++x)):Own T P w v x:=h
theorem ca2(h:c8 w v l)(hu:c8 w u x):Calls Tryz.prog 47 #[.agg #[v],u] w fun e k=>∃j v2 v3 v4,e=.returned (.tuple #[CV (cqK l x) j v2 0 0 0 0 v3 v4 0,.bool (q8 l x)])/\Own4 w k j v2 v3 v4 (cqG l x) [] (cqT l x) (cqP l x)/\Ext w k:=by
 obtain⟨B,Z,F,C,H,E,s⟩:=m04 42 h;clear h;obtain⟨wc,q⟩:=nq (B.alloc (.cells #[vi 0,.slice none 0 0,.slice none 0 0,vi 0,vi 0,vi 0,vi 0,.slice none 0 0,.slice none 0 0,vi 0] 52));have hc:Blk wc B.heap.size 52 #[vi 0,.slice none 0 0,.slice none 0 0,vi 0,vi 0,vi 0,vi 0,.slice none 0 0,.slice none 0 0,vi 0]:=by rw[q];exact oq _ _ _
 have b:Res wc B.heap.size 10:=hc.res zm;have A:Ext B wc:=by rw[q];exact E.alloc _
 replace E:=er wc;have Ha:Hid (B.heap.size+1=wc.heap.size):=zh (by rw[q];simp[go_sem]);have Y:=zh q;clear q hc;have g:=sh A H;have hf:=sh A C;have q:B.heap.size<wc.heap.size:=by have:=Ha.o;omega
 have U:Hid (∀W,Ext wc W->c8 W u x):=zh fun W D=>hu.ext (F.trans (A.trans D));cases S:q8 l x
 . have N:=zh (lf7 S);go_in;go_wp2_with fail;rw[<-Z.o,<-Y.o];rw[s.o];refine cm (F5 _ _ _ _ _ (g _ E) (U.o _ E) S) fun G z=>?_;have r:=b.ext z;unfold Res at r;go_wp2_with fail;exact bodyPost_ret (v:=.tuple #[CV 0 (.slice none 0 0) (.slice none 0 0) 0 0 0 0 (.slice none 0 0) (.slice none 0 0) 0,.bool false]) (by simp[results,Tryz.results47,go_sem,r,CV]) rfl ⟨_,_,_,_,by rw[N.o.1],by rw[N.o.2.1,N.o.2.2.1,N.o.2.2.2];exact⟨oL _ _ _,oL _ _ _,oL _ _ _,oL _ _ _,l5.nil_left _,l5.nil_left _,l5.nil_left _,l5.nil_left _,l5.nil_left _,l5.nil_left _⟩,F.trans (by(repeat(refine oZ ?_ (oc _) _));exact A.trans z)⟩
 obtain⟨X,rfl,-,-,-,-⟩:=I9 S;have hn:X.length<=17592186044416:=(by have:=(b55 S).1;omega);have Hn:Hid ((b9 X).length<=17592186044416):=zh (by rw[d9];exact hn);cases K:szB l X
 . have N:=zh (je3 S K);go_in;go_wp2_with fail;rw[<-Z.o,<-Y.o];rw[s.o];refine cm (F5 _ _ _ _ _ (g _ E) (U.o _ E) S) fun G z=>?_;go_wp2_with fail;refine(bc2 _ _ _ _ _ (g _ z) (U.o _ z) S).mono ?_;rw[K];rintro e m⟨p,rfl,-,V⟩;replace z:=z.trans V;clear V;go_wp2_with fail;refine(b07 _ _ _ (g _ z)).mono ?_;rintro e w3⟨t,M,rfl,i,V⟩;have J:=z;replace z:=z.trans V;clear V;have O:Own 3 w3 (w3.alloc (.cells #[] 3)) (.slice (some (aD w3.heap.size 0)) 0 0) []:=l9 (TI:=3) (n:=0) om (er w3) [] rfl;have L:=(er w3).alloc (.cells #[] 3);have R:=U.o _ (z.trans L);go_wp2_with(at_builtin;refine F7 slI rfl _ _ rfl w3 _ _ _ _ _ O R L (by simpa using Hn.o) rfl rfl ?_;intro j w4 T I;replace T:=jh3 T;obtain⟨Q,c,rfl,-⟩:=T.shape;have r:=b.ext (z.trans I);unfold Res at r);have f:=i.ext I;have a:=G3 i T (oc _);have y:B.heap.size<m.heap.size:=nlt q J.size;have d:B.heap.size<w3.heap.size:=nlt q z.size;exact bodyPost_ret (v:=.tuple #[CV 3 (.slice t l.length M) (.slice none 0 0) 0 0 0 0 (.slice Q (b9 X).length c) (.slice none 0 0) 0,.bool true]) (by simp[results,Tryz.results47,go_sem,r,CV]) rfl ⟨_,_,_,_,by rw[N.o.1],by
    rw[N.o.2.1,N.o.2.2.1,N.o.2.2.2]
    exact⟨(show Own 3 m _ _ _ by(repeat(refine oV ?_ y _));exact f).mono (F.trans (A.trans J)),oL _ _ _,(show Own 3 w3 _ _ _ by(repeat(refine oV ?_ d _));exact T).mono (F.trans (A.trans z)),oL _ _ _,l5.nil_right _,a,l5.nil_right _,l5.nil_left _,l5.nil_left _,l5.nil_right _⟩,
    F.trans (by(repeat(refine oZ ?_ (oc _) _));exact A.trans (z.trans I))⟩
 have N:=zh (jr3 S K);go_in;go_wp2_with fail;rw[<-Z.o,<-Y.o];rw[s.o];refine cm (F5 _ _ _ _ _ (g _ E) (U.o _ E) S) fun G z=>?_;go_wp2_with fail;refine(bc2 _ _ _ _ _ (g _ z) (U.o _ z) S).mono ?_;rw[K];rintro e m⟨p,rfl,P,V⟩;obtain⟨aP,cP,rfl,-⟩:=P.shape;have ha:=z;replace z:=z.trans V;clear V;go_wp2_with fail;refine(b07 _ _ _ (g _ z)).mono ?_;rintro e w3⟨t,M,rfl,i,V⟩;have J:=z;have hG:=G3 P i (oc _);replace P:=P.ext V;replace z:=z.trans V;clear V;have O:Own 3 w3 (w3.alloc (.cells #[] 3)) (.slice (some (aD w3.heap.size 0)) 0 0) []:=l9 (TI:=3) (n:=0) om (er w3) [] rfl;have L:=(er w3).alloc (.cells #[] 3);have R:=U.o _ (z.trans L);go_wp2_with(at_builtin;refine F7 slI rfl _ _ rfl w3 _ _ _ _ _ O R L (by simpa using Hn.o) rfl rfl ?_;intro j w4 T I;replace T:=jh3 T;obtain⟨Q,c,rfl,-⟩:=T.shape;have r:=b.ext (z.trans I);unfold Res at r);have f:=i.ext I;have hw:=P.ext I;have a:=G3 i T (oc _);have hB:=G3 P T (oc _);have he:B.heap.size<G.heap.size:=nlt q ha.size;have y:B.heap.size<m.heap.size:=nlt q J.size;have d:B.heap.size<w3.heap.size:=nlt q z.size;exact bodyPost_ret (v:=.tuple #[CV 2 (.slice t l.length M) (.slice none 0 0) 0 0 0 0 (.slice Q (b9 X).length c) (.slice aP (b9 (szR l X)).length cP) 0,.bool true]) (by simp[results,Tryz.results47,go_sem,r,CV]) rfl ⟨_,_,_,_,by rw[N.o.1],by
  rw[N.o.2.1,N.o.2.2.1,N.o.2.2.2]
  exact⟨(show Own 3 m _ _ _ by(repeat(refine oV ?_ y _));exact f).mono (F.trans (A.trans J)),oL _ _ _,(show Own 3 w3 _ _ _ by(repeat(refine oV ?_ d _));exact T).mono (F.trans (A.trans z)),(show Own 3 G _ _ _ by(repeat(refine oV ?_ he _));exact hw).mono (F.trans (A.trans ha)),l5.nil_right _,a,hG.symm,l5.nil_left _,l5.nil_left _,hB.symm⟩,
  F.trans (by(repeat(refine oZ ?_ (oc _) _));exact A.trans (z.trans I))⟩
theorem cc4(h:c8 w v l)(hu:c8 w u x):Calls Tryz.prog 66 #[.agg #[v],u] w fun e w'=>∃v1 v2 v3 v4,e=.returned (.tuple #[CV (cqK l x) v1 v2 0 0 0 0 v3 v4 0,.bool (q8 l x)])/\Own4 w w' v1 v2 v3 v4 (cqG l x) [] (cqT l x) (cqP l x)/\Ext w w':=by
 obtain⟨B,Z,F,C,H,E,y⟩:=m04 42 h;clear h;obtain⟨wc,c⟩:=nq (B.alloc (.cells #[vi 0,.slice none 0 0,.slice none 0 0,vi 0,vi 0,vi 0,vi 0,.slice none 0 0,.slice none 0 0,vi 0] 52));have hh:Blk wc B.heap.size 52 #[vi 0,.slice none 0 0,.slice none 0 0,vi 0,vi 0,vi 0,vi 0,.slice none 0 0,.slice none 0 0,vi 0]:=by rw[c];exact oq _ _ _
 have hc:Res wc B.heap.size 10:=hh.res zm;have A:Ext B wc:=by rw[c];exact E.alloc _
 replace E:=er wc;have Ha:Hid (B.heap.size+1=wc.heap.size):=zh (by rw[c];simp[go_sem]);have R:=zh c;clear c hh;have J:=sh A H;have hi:=sh A C;have c:B.heap.size<wc.heap.size:=by have:=Ha.o;omega
 have U:Hid (∀W,Ext wc W->c8 W u x):=zh fun W D=>hu.ext (F.trans (A.trans D));cases S:q8 l x
 . have N:=zh (lf7 S);go_in;go_wp2_with fail;rw[<-Z.o,<-R.o];rw[y.o];refine cm (F6 _ _ _ _ _ (J _ E) (U.o _ E) S) fun G z=>?_;have r:=hc.ext z;unfold Res at r;go_wp2_with fail;exact bodyPost_ret (v:=.tuple #[CV 0 (.slice none 0 0) (.slice none 0 0) 0 0 0 0 (.slice none 0 0) (.slice none 0 0) 0,.bool false]) (by simp[results,Tryz.results66,go_sem,r,CV]) rfl ⟨_,_,_,_,by rw[N.o.1],by rw[N.o.2.1,N.o.2.2.1,N.o.2.2.2];exact⟨oL _ _ _,oL _ _ _,oL _ _ _,oL _ _ _,l5.nil_left _,l5.nil_left _,l5.nil_left _,l5.nil_left _,l5.nil_left _,l5.nil_left _⟩,F.trans (by(repeat(refine oZ ?_ (oc _) _));exact A.trans z)⟩
 obtain⟨X,rfl,-,-,-,-⟩:=I9 S;cases M:szB l X
 . have N:=zh (je3 S M);go_in;go_wp2_with fail;rw[<-Z.o,<-R.o];rw[y.o];refine cm (F6 _ _ _ _ _ (J _ E) (U.o _ E) S) fun G z=>?_;go_wp2_with fail;refine(Z2 _ _ _ (J _ z)).mono ?_;rintro e m⟨a,g,rfl,O,V⟩;have L:=z;replace z:=z.trans V;clear V;go_wp2_with fail;refine(Calls.sh (E3 _ _ _ (U.o _ z))).mono ?_;rintro e w3⟨f,t,rfl,T,V⟩;have n:=z;have Q:=G3 O T (oc _);replace O:=O.ext V;replace z:=z.trans V;clear V;have q:=O.ne_of (b:=w3.heap.size) (Or.inr (oc _));have s:=T.ne_of (b:=w3.heap.size) (Or.inr (oc _));have HT:=zh (And.intro q s);clear q s;obtain⟨Y,I⟩:=nq (w3.alloc (.cells #[vi 3,.slice a l.length g,.slice none 0 0,vi 0,vi 0,vi 0,vi 0,.slice f (b9 X).length t,.slice none 0 0,vi 0] 52));have K:Ext w3 Y:=(by rw[I];exact(er _).alloc _);have d:Blk Y w3.heap.size 52 #[vi 3,.slice a l.length g,.slice none 0 0,vi 0,vi 0,vi 0,vi 0,.slice f (b9 X).length t,.slice none 0 0,vi 0]:=(by rw[I];exact oq _ _ _);have j:=zh I;clear I;replace O:=O.ext K;replace T:=T.ext K;replace z:=z.trans K;have k:=hi _ z;rw[j.o]at k;go_wp2_with fail;rw[<-j.o];clear k;refine(bd5 _ _ _ _ _ (J _ z) (U.o _ z) S).mono ?_;rw[M];rintro e w4⟨p,rfl,-,V⟩;replace O:=O.ext V;replace T:=T.ext V;replace d:=d.ext V;replace z:=z.trans V;clear V;have r:=hc.ext z;unfold Res at r;have z0:=d.cell (i:=0) rfl;have z1:=d.cell (i:=1) rfl;have z2:=d.cell (i:=2) rfl;have z3:=d.cell (i:=3) rfl;have z4:=d.cell (i:=4) rfl;have z5:=d.cell (i:=5) rfl;have z6:=d.cell (i:=6) rfl;have z7:=d.cell (i:=7) rfl;have z8:=d.cell (i:=8) rfl;have z9:=d.cell (i:=9) rfl;go_wp2_with fail;have ha:B.heap.size<G.heap.size:=nlt c L.size;have he:B.heap.size<m.heap.size:=nlt c n.size;exact bodyPost_ret (v:=.tuple #[CV 3 (.slice a l.length g) (.slice none 0 0) 0 0 0 0 (.slice f (b9 X).length t) (.slice none 0 0) 0,.bool true]) (by simp[results,Tryz.results66,go_sem,r,CV]) rfl ⟨_,_,_,_,by rw[N.o.1],by
    rw[N.o.2.1,N.o.2.2.1,N.o.2.2.2]
    exact⟨(show Own 3 G _ _ _ by(repeat(refine oV ?_ ha _));exact O).mono (F.trans (A.trans L)),oL _ _ _,(show Own 3 m _ _ _ by(repeat(refine oV ?_ he _));exact T).mono (F.trans (A.trans n)),oL _ _ _,l5.nil_right _,Q,l5.nil_right _,l5.nil_left _,l5.nil_left _,l5.nil_right _⟩,
    F.trans (by(repeat(refine oZ ?_ (oc _) _));exact A.trans z)⟩
 have N:=zh (jr3 S M);go_in;go_wp2_with fail;rw[<-Z.o,<-R.o];rw[y.o];refine cm (F6 _ _ _ _ _ (J _ E) (U.o _ E) S) fun G z=>?_;go_wp2_with fail;refine(Z2 _ _ _ (J _ z)).mono ?_;rintro e m⟨a,g,rfl,O,V⟩;have L:=z;replace z:=z.trans V;clear V;go_wp2_with fail;refine(Calls.sh (E3 _ _ _ (U.o _ z))).mono ?_;rintro e w3⟨f,t,rfl,T,V⟩;have n:=z;have Q:=G3 O T (oc _);replace O:=O.ext V;replace z:=z.trans V;clear V;have q:=O.ne_of (b:=w3.heap.size) (Or.inr (oc _));have s:=T.ne_of (b:=w3.heap.size) (Or.inr (oc _));have HT:=zh (And.intro q s);clear q s;obtain⟨Y,I⟩:=nq (w3.alloc (.cells #[vi 3,.slice a l.length g,.slice none 0 0,vi 0,vi 0,vi 0,vi 0,.slice f (b9 X).length t,.slice none 0 0,vi 0] 52));have K:Ext w3 Y:=(by rw[I];exact(er _).alloc _);have d:Blk Y w3.heap.size 52 #[vi 3,.slice a l.length g,.slice none 0 0,vi 0,vi 0,vi 0,vi 0,.slice f (b9 X).length t,.slice none 0 0,vi 0]:=(by rw[I];exact oq _ _ _);have j:=zh I;clear I;have hf:=z;replace O:=O.ext K;replace T:=T.ext K;replace z:=z.trans K;have k:=hi _ z;rw[j.o]at k;go_wp2_with fail;rw[<-j.o];clear k;refine(bd5 _ _ _ _ _ (J _ z) (U.o _ z) S).mono ?_;rw[M];rintro e w4⟨p,rfl,P,V⟩;obtain⟨aP,cP,rfl,-⟩:=P.shape;have hj:=z;have hP:=G3 O P (oc _);have hk:=G3 T P (oc _);replace O:=O.ext V;replace T:=T.ext V;replace d:=d.ext V;replace z:=z.trans V;clear V;have r:=hc.ext z;unfold Res at r;have z0:=d.cell (i:=0) rfl;have z1:=d.cell (i:=1) rfl;have z2:=d.cell (i:=2) rfl;have z3:=d.cell (i:=3) rfl;have z4:=d.cell (i:=4) rfl;have z5:=d.cell (i:=5) rfl;have z6:=d.cell (i:=6) rfl;have z7:=d.cell (i:=7) rfl;have z8:=d.cell (i:=8) rfl;have z9:=d.cell (i:=9) rfl;have f0:=d.free 0;have f8:=d.free 8;have hl:¬B.heap.size=w3.heap.size:=(by have:=hf.size;omega);have hm:¬w3.heap.size=B.heap.size:=om;go_wp2_with fail;have ha:B.heap.size<G.heap.size:=nlt c L.size;have he:B.heap.size<m.heap.size:=nlt c n.size;have I:B.heap.size<Y.heap.size:=nlt c hj.size;have hD:w3.heap.size<Y.heap.size:=(by rw[j.o];simp);have nP:=P.ne_of (b:=w3.heap.size) (Or.inl hD);exact bodyPost_ret (v:=.tuple #[CV 2 (.slice a l.length g) (.slice none 0 0) 0 0 0 0 (.slice f (b9 X).length t) (.slice aP (b9 (szR l X)).length cP) 0,.bool true]) (by simp[results,Tryz.results66,go_sem,r,CV]) rfl ⟨_,_,_,_,by rw[N.o.1],by
  rw[N.o.2.1,N.o.2.2.1,N.o.2.2.2]
  exact⟨(show Own 3 G _ _ _ by(repeat(first|refine oV ?_ ha _|refine Own.setCell_ne ?_ HT.o.1 _));exact O).mono (F.trans (A.trans L)),oL _ _ _,(show Own 3 m _ _ _ by(repeat(first|refine oV ?_ he _|refine Own.setCell_ne ?_ HT.o.2 _));exact T).mono (F.trans (A.trans n)),(show Own 3 Y _ _ _ by(repeat(first|refine oV ?_ I _|refine Own.setCell_ne ?_ nP _));exact P).mono (F.trans (A.trans hj)),l5.nil_right _,Q,hP,l5.nil_left _,l5.nil_left _,hk⟩,
  F.trans (by(repeat(refine oZ ?_ (by first|exact oc _|(simp only[];have:=hf.size;omega)) _));exact A.trans z)⟩
theorem zz11{P:Prop}(h:P:=by go_wp2_with fail;refine wl E ?_;(repeat(go_big_quiet_step(first|fail)));refine zd fun W E=>?_;go_wp2_with fail;go_roundw;exact⟨x+1,om,om,zg,fun y Y D=>by by_cases e:y=x;(subst e;exact H.o);exact A.o y Y om,E⟩;exact zm1):P:=h
theorem zz87{P:Prop}(h:P:=by have H:=zh (dq5 hx1 U ((bx7 R).trans T));go_wp2_with fail;refine wl E ?_;(repeat(go_big_quiet_step(first|fail)));refine zd fun W E=>?_;go_wp2_with fail;go_ret;exact⟨j1 (by rw[H.o];rfl),E⟩):P:=h
theorem zz153{P:Prop}(h:P:=by have H:=zh (jc6 (c:=c) (n:=x) om A.o);clear I C;go_wp2_with fail;go_ret;exact⟨j1 (by rw[H.o];rfl),E⟩):P:=h
theorem c81(h:c8 w v c)(N:c.length<=1000):Calls Tryz.prog 255 #[v] w (RE w (.bool (! (b38 c)))):=by
 obtain⟨Q,k,a,rfl,z,d,C⟩:=h.op;have I:=j2 (c:=k) elI szI d;clear d h;go_in;go_wp2_with fail;go_loopw [4] (fun i wr=>∃x:Nat,1<=x/\2*x<=c.length+2/\i=vi x/\(∀y,1<=y->y<x->c79 c y=false)/\Ext w wr) (fun i _=>c.length+2-(intOf i).toNat);exact⟨1,om,om,rfl,om,er _⟩
 obtain⟨x,hx1,hx2,rfl,L,E⟩:=hrel;have A:=zh L;clear L;by_cases U:2*x<=c.length;have hc1:=fun u=>C (x-1) _ om (c9 w u);have hc2:=fun u=>C (c.length-1) _ om (c9 w u);have O:=fun u=>C (c.length-x-1) _ om (c9 w u);have X:∀W,(Instr.indexAt 40 (.slice Q c.length k) (vi ((x:Int)-1))).run Tryz.prog W=.ok (.pointer (some (a (x-1)))) W:=fun W=>(by rw[show((x:Int)-1)=((x-1:Nat):Int) by omega];exact I _ W om);have B:∀W,(Instr.indexAt 40 (.slice Q c.length k) (vi ((c.length:Int)-1))).run Tryz.prog W=.ok (.pointer (some (a (c.length-1)))) W:=fun W=>(by rw[show((c.length:Int)-1)=((c.length-1:Nat):Int) by omega];exact I _ W om);have F:∀W,(Instr.indexAt 40 (.slice Q c.length k) (vi ((c.length:Int)-(x:Int)-1))).run Tryz.prog W=.ok (.pointer (some (a (c.length-x-1)))) W:=fun W=>(by rw[show((c.length:Int)-(x:Int)-1)=((c.length-x-1:Nat):Int) by omega];exact I _ W om);have g:(1:Int)<=(c.length:Int)-(x:Int):=om;have G:(x:Int)<(c.length:Int):=om;have V:(2:Int)*(x:Int)<=(c.length:Int):=om;clear I C;cases R:(nth c (x-1) == nth c (c.length-1));have H:=zh (du4 R);exact zz11;cases T:(nth c (c.length-x-1) == nth c (c.length-1));have H:=zh ((bx7 R).trans T);exact zz11;exact zz87;exact zz153
theorem j29(h:c8 w v c)(N:c.length<=1000):Calls Tryz.prog 279 #[v] w (RE w (.bool (id (b38 c)))):=by
 obtain⟨Q,k,a,rfl,z,d,C⟩:=h.op;have I:=j2 (c:=k) elI szI d;clear d h;go_in;go_wp2_with fail;go_loopw [4] (fun i wr=>∃x:Nat,1<=x/\2*x<=c.length+2/\i=vi x/\(∀y,1<=y->y<x->c79 c y=false)/\Ext w wr) (fun i _=>c.length+2-(intOf i).toNat);exact⟨1,om,om,rfl,om,er _⟩
 obtain⟨x,hx1,hx2,rfl,L,E⟩:=hrel;have A:=zh L;clear L;by_cases U:2*x<=c.length;have hc1:=fun u=>C (x-1) _ om (c9 w u);have hc2:=fun u=>C (c.length-1) _ om (c9 w u);have O:=fun u=>C (c.length-x-1) _ om (c9 w u);have X:∀W,(Instr.indexAt 40 (.slice Q c.length k) (vi ((x:Int)-1))).run Tryz.prog W=.ok (.pointer (some (a (x-1)))) W:=fun W=>(by rw[show((x:Int)-1)=((x-1:Nat):Int) by omega];exact I _ W om);have B:∀W,(Instr.indexAt 40 (.slice Q c.length k) (vi ((c.length:Int)-1))).run Tryz.prog W=.ok (.pointer (some (a (c.length-1)))) W:=fun W=>(by rw[show((c.length:Int)-1)=((c.length-1:Nat):Int) by omega];exact I _ W om);have F:∀W,(Instr.indexAt 40 (.slice Q c.length k) (vi ((c.length:Int)-(x:Int)-1))).run Tryz.prog W=.ok (.pointer (some (a (c.length-x-1)))) W:=fun W=>(by rw[show((c.length:Int)-(x:Int)-1)=((c.length-x-1:Nat):Int) by omega];exact I _ W om);have g:(1:Int)<=(c.length:Int)-(x:Int):=om;have G:(x:Int)<(c.length:Int):=om;have V:(2:Int)*(x:Int)<=(c.length:Int):=om;clear I C;cases R:(nth c (x-1) == nth c (c.length-1));have H:=zh (du4 R);exact zz11;cases T:(nth c (c.length-x-1) == nth c (c.length-1));have H:=zh ((bx7 R).trans T);exact zz11;exact zz87;exact zz153
theorem zz154{P:Prop}(h:P:=by exact⟨n+1,om,om,zg,by rw[Hs.o q];exact y.o.ext (I.trans (H.trans J)),R.trans (I.trans (H.trans J))⟩):P:=h
theorem jz5(k:Nat)(V:k<=3):∀(f:Nat) (c:LI) (u:Nat) (v:Value) (B w:World),c75 f k c u=true->u<=3->c.length+f<=20->Own 3 B w v c->Ext B w ->
 Calls Tryz.prog 208 #[v,vi k,vi u] w fun e P=>∃S,e=.returned S/\Own 3 B P S (bh6 f k c u)/\Ext w P:=by
 intro f;induction f with
 |zero=>intro c u v B w h;exact absurd h (by simp[c75])
 | succ f ih =>
  intro c u v B w hT hu hl hc F;obtain⟨Q,cc,rfl,-⟩:=hc.shape;have HT:=zh hT;have Hh:=zh ih;clear hT ih;go_in;go_wp2_with fail;go_loopw [7,8] (fun bv xv wr=>∃n:Nat,n<=k/\n<=u+1/\xv=vi n/\Own 3 B wr bv (W7 f k c u n)/\Ext w wr) (fun _ x _=>k-(intOf x).toNat);exact⟨0,om,om,rfl,hc,er _⟩
  case round =>
   obtain⟨n,hg,hh,rfl,O,R⟩:=hrel;obtain⟨ab,cb,rfl,-⟩:=O.shape;have y:=zh O;by_cases U:n<k/\n<=u
   . obtain⟨U,hf⟩:=U;have hI:=(hc.ext R).ints;have Z:=l9 (TI:=3) (n:=0) om (er wr) [] rfl;have g:=(er wr).alloc (.cells #[] 3);have i:=hI.ext g;have l:c.length<17592186044416:=om;have N:([]:LI).length+c.length<=17592186044416:=zso;have hi:(c++[(n:Int)]).length=c.length+1:=zm;clear hI O;obtain⟨p,D⟩:=nq (W7 f k c u n);rw[<-D]at y|-;cases C:b38 (c++[(n:Int)])
     . have he:=cf0 HT.o U hf C;obtain⟨Y,A⟩:∃Y,Y=bh6 f k (c++[(n:Int)]) (max u (n+1)):=⟨_,rfl⟩;have K:=fun v W (M:c8 W v (c++[(n:Int)]))=>j29 v _ W M om;rw[C]at K;have ha:=fun v W O E=>Hh.o (c++[(n:Int)]) (max u (n+1)) v B W he om om O E;rw[<-A]at ha;have Ha:Hid (p.length<Y.length->W7 f k c u (n+1)=Y):=zh fun h=>(by rw[D,A]at h;rw[A];exact j86 C h);have Hs:Hid (¬p.length<Y.length->W7 f k c u (n+1)=p):=zh fun h=>(by rw[D,A]at h;rw[D];exact j85 C h);clear D A C he;have L:∀(v:Value) (W:World),Own 3 B W v (c++[(n:Int)])->Ext B W->Calls Tryz.prog 208 #[v,vi k,vi (if (u:Int)<(n:Int)+1 then(n:Int)+1 else u)] W fun e P=>∃S,e=.returned S/\Own 3 B P S Y/\Ext W P:=by
        intro v W a b;have:=ha v W a b;split
        . rw[show max u (n+1)=n+1 by omega]at this;exact this
        . rw[show max u (n+1)=u by omega]at this;exact this
       clear ha;by_cases hm:(u:Int)<(n:Int)+1
       . rw[if_pos hm]at L;by_cases q:p.length<Y.length
         ·
            go_wp2_with(first
             |(at_builtin;refine p6 slI rfl _ _ rfl wr _ _ _ _ T z l rfl rfl ?_;intro t m X I)
             |(at_builtin;refine F7 slI rfl _ _ rfl wr _ _ _ _ _ Z i g N rfl rfl ?_;intro j G T z;simp only[pq]at T)
             |(go_at_call 279;refine cm (K _ _ X.ints) fun w3 H=>?_)
             |(go_at_call 208;refine(L _ _ ((X.ext H).mono (F.trans R)) ((F.trans R).trans (I.trans H))).mono ?_;rintro e w4⟨v4,rfl,d,J⟩;obtain⟨a4,c4,rfl,-⟩:=d.shape))
            go_roundw
            case rel=>exact⟨n+1,om,om,zg,by rw[Ha.o q];exact d,R.trans (I.trans (H.trans J))⟩
            case measure=>exact zm1
         ·
            go_wp2_with(first
             |(at_builtin;refine p6 slI rfl _ _ rfl wr _ _ _ _ T z l rfl rfl ?_;intro t m X I)
             |(at_builtin;refine F7 slI rfl _ _ rfl wr _ _ _ _ _ Z i g N rfl rfl ?_;intro j G T z;simp only[pq]at T)
             |(go_at_call 279;refine cm (K _ _ X.ints) fun w3 H=>?_)
             |(go_at_call 208;refine(L _ _ ((X.ext H).mono (F.trans R)) ((F.trans R).trans (I.trans H))).mono ?_;rintro e w4⟨v4,rfl,d,J⟩;obtain⟨a4,c4,rfl,-⟩:=d.shape))
            go_roundw
            case rel=>exact zz154
            case measure=>exact zm1
       . rw[if_neg hm]at L;by_cases q:p.length<Y.length
         ·
            go_wp2_with(first
             |(at_builtin;refine p6 slI rfl _ _ rfl wr _ _ _ _ T z l rfl rfl ?_;intro t m X I)
             |(at_builtin;refine F7 slI rfl _ _ rfl wr _ _ _ _ _ Z i g N rfl rfl ?_;intro j G T z;simp only[pq]at T)
             |(go_at_call 279;refine cm (K _ _ X.ints) fun w3 H=>?_)
             |(go_at_call 208;refine(L _ _ ((X.ext H).mono (F.trans R)) ((F.trans R).trans (I.trans H))).mono ?_;rintro e w4⟨v4,rfl,d,J⟩;obtain⟨a4,c4,rfl,-⟩:=d.shape))
            go_roundw
            case rel=>exact⟨n+1,om,om,zg,by rw[Ha.o q];exact d,R.trans (I.trans (H.trans J))⟩
            case measure=>exact zm1
         ·
            go_wp2_with(first
             |(at_builtin;refine p6 slI rfl _ _ rfl wr _ _ _ _ T z l rfl rfl ?_;intro t m X I)
             |(at_builtin;refine F7 slI rfl _ _ rfl wr _ _ _ _ _ Z i g N rfl rfl ?_;intro j G T z;simp only[pq]at T)
             |(go_at_call 279;refine cm (K _ _ X.ints) fun w3 H=>?_)
             |(go_at_call 208;refine(L _ _ ((X.ext H).mono (F.trans R)) ((F.trans R).trans (I.trans H))).mono ?_;rintro e w4⟨v4,rfl,d,J⟩;obtain⟨a4,c4,rfl,-⟩:=d.shape))
            go_roundw
            case rel=>exact zz154
            case measure=>exact zm1
     . have K:=fun v W (M:c8 W v (c++[(n:Int)]))=>j29 v _ W M om;rw[C]at K;have s:Hid (W7 f k c u (n+1)=p):=zh (by rw[D];exact jk8 C);clear D C
       go_wp2_with(first
        |(at_builtin;refine p6 slI rfl _ _ rfl wr _ _ _ _ T z l rfl rfl ?_;intro t m X I)
        |(at_builtin;refine F7 slI rfl _ _ rfl wr _ _ _ _ _ Z i g N rfl rfl ?_;intro j G T z;simp only[pq]at T)
        |(go_at_call 279;refine cm (K _ _ X.ints) fun w3 H=>?_))
       go_roundw;exact⟨n+1,om,om,zg,by rw[s.o];exact y.o.ext (I.trans H),R.trans (I.trans H)⟩;exact zm1
   . have s:Hid (bh6 (f+1) k c u=W7 f k c u n):=zh (by rw[jr0,show min k (u+1)=n by omega]);clear O;by_cases h1:n<k
     . have r:¬n<=u:=om;clear U;go_wp2_with fail;go_ret;exact⟨_,rfl,by rw[s.o];exact y.o,R⟩
     . clear U;go_wp2_with fail;go_ret;exact⟨_,rfl,by rw[s.o];exact y.o,R⟩
theorem Ext.grow{w:World}(h:Ext w e)(b:Option Nat):w.grownBy e b:=⟨h.os,h.tape,h.output,h.size,fun k V _=>h.block k V⟩
theorem l70(b i:Nat)(v:Value):w.grownBy (w.setCell (aD b i) v) (some b) :=
 ⟨rfl,rfl,rfl,zm,fun k V h=>pQ _ _ _ _ (fun e=>h (by rw[e]))⟩
theorem Own.kept_ne{w:World}{v:Value}{l:LI}(h:Own T P w v l)(H:w.grownBy e (some b))(n:v.ownBlock≠some b):Own T P e v l:=h.kept H (Or.inr n)
theorem jx4{w:World}{v:Value}{l:LI}(h:Own T P w v l)(C:b<P.heap.size):v.ownBlock≠some b:=fun e=>by have:=(h.blk b e).1;omega
theorem Blk.grown_ne{w:World}{B:Nat}{c:Array Value}(h:Blk w B T c)(H:w.grownBy e (some b))(n:b≠B):Blk e B T c:=h.grown H (fun k V=>by cases V;exact n)
theorem zz147{P:Prop}(h:P:=by go_roundw;exact⟨n+1,d,om,om,zg,Hb.o.ext E,by rw[q.o];exact A.o.ext E,N.o,b15 HG.o (E.grow _)⟩;exact zm1):P:=h
theorem lp6(k:Nat)(V:k<=3)(B P t:Nat)(hE:B≠P)(hD:B≠t):∀(f:Nat) (c:LI) (u:Nat) (v:Value) (D w:World) (b:LI) (d:Value),c75 f k c u=true->u<=3->c.length+f<=20->Own 3 D w v c->v.ownBlock≠some B ->
 Blk w B 40 #[d]->Own 3 D w d b->d.ownBlock≠some B->Blk w P 3 #[vi k]->Blk w t 134 #[.func (.func 254) #[] #[.pointer (some (aD B 0)),.pointer (some (aD P 0)),.pointer (some (aD t 0))]]->D.heap.size<=B->Ext D w ->
 Calls Tryz.prog 254 #[v,vi u,.pointer (some (aD B 0)),.pointer (some (aD P 0)),.pointer (some (aD t 0))] w fun e R=>e=.returned (.tuple #[])/\∃S,Blk R B 40 #[S]/\Own 3 D R S (bo6 f k c u b)/\S.ownBlock≠some B/\w.grownBy R (some B):=by
 intro f;induction f with
 |zero=>intro c u v D w b d h;exact absurd h (by simp[c75])
 | succ f ih =>
  intro c u v D w b d hT hu hl hr hp H hs hQ hH hJ ho F;obtain⟨Q,cc,rfl,-⟩:=hr.shape;obtain⟨ab,cb,rfl,-⟩:=hs.shape;have HT:=zh hT;have Hh:=zh ih;have K:=H.cell (i:=0) (v:=.slice ab b.length cb) rfl;have hf:=H.free 0;clear hT ih;by_cases hq:b.length<c.length
  . have hA:=l70 w B 0 (.slice Q c.length cc);have Ha:Hid (Blk (w.setCell (aD B 0) (.slice Q c.length cc)) B 40 #[.slice Q c.length cc]):=zh (H.set 0 _);have Hd:Hid (Own 3 D (w.setCell (aD B 0) (.slice Q c.length cc)) (.slice Q c.length cc) (W6 f k c u b 0)):=zh (by rw[dm2 hq];exact hr.kept_ne hA hp);have Hc:=zh hp;have Hf:=zh hA;clear hA H hs;go_in;go_wp2_with fail;clear K hf;go_loopw [7] (fun xv wr=>∃(n:Nat) (d:Value),n<=k/\n<=u+1/\xv=vi n/\Blk wr B 40 #[d]/\Own 3 D wr d (W6 f k c u b n)/\d.ownBlock≠some B/\w.grownBy wr (some B)) (fun x _=>k-(intOf x).toNat);exact⟨0,.slice Q c.length cc,om,om,rfl,Ha.o,Hd.o,Hc.o,Hf.o⟩;case round =>
     obtain⟨n,d,hK,hM,rfl,H,O,hN,g⟩:=hrel;clear Ha Hd Hc Hf;have ha:=hr.kept_ne g hp;have hh:=hH.grown_ne g hE;have hg:=hJ.grown_ne g hD;have hi:Ext D wr:=F.grown g (fun j hj=>by cases hj;exact ho);have hC:=H.lt;have ck:=hh.cell (i:=0) (v:=vi k) rfl;have A:=zh O;have Hb:=zh H;have N:=zh hN;have HG:=zh g;clear O H hN g;by_cases U:n<k/\n<=u
     . obtain⟨U,hw⟩:=U;have hI:=ha.ints;have hn:c.length<17592186044416:=om;have hP:(c++[(n:Int)]).length=c.length+1:=zm;clear ha;cases C:b38 (c++[(n:Int)])
       . have he:=cf0 HT.o U hw C;have J:=fun v W (M:c8 W v (c++[(n:Int)]))=>c81 v _ W M om;rw[C]at J;have q:=zh (cr7 (f:=f) (k:=k) (u:=u) (b:=b) C);have hc:=fun v W y p (X:Own 3 D W v (c++[(n:Int)])) (r:v.ownBlock≠some B) (T:Blk W B 40 #[p]) (a:Own 3 D W p y) (l:p.ownBlock≠some B) (m:Blk W P 3 #[vi k]) (s:Blk W t 134 #[.func (.func 254) #[] #[.pointer (some (aD B 0)),.pointer (some (aD P 0)),.pointer (some (aD t 0))]]) (h8:Ext D W)=>Hh.o (c++[(n:Int)]) (max u (n+1)) v D W y p he om om X r T a l m s ho h8;have hL:∀(v:Value) (W:World) (y:LI) (p:Value),Own 3 D W v (c++[(n:Int)])->v.ownBlock≠some B->Blk W B 40 #[p]->Own 3 D W p y->p.ownBlock≠some B->Blk W P 3 #[vi k]->Blk W t 134 #[.func (.func 254) #[] #[.pointer (some (aD B 0)),.pointer (some (aD P 0)),.pointer (some (aD t 0))]]->Ext D W ->
          Calls Tryz.prog 254 #[v,vi (if (u:Int)<(n:Int)+1 then(n:Int)+1 else u),.pointer (some (aD B 0)),.pointer (some (aD P 0)),.pointer (some (aD t 0))] W fun e R=>e=.returned (.tuple #[])/\∃S,Blk R B 40 #[S]/\Own 3 D R S (bo6 f k (c++[(n:Int)]) (max u (n+1)) y)/\S.ownBlock≠some B/\W.grownBy R (some B):=by
          intro v W y p X r T a l m s h8;have:=hc v W y p X r T a l m s h8;split
          . rw[show max u (n+1)=n+1 by omega]at this|-;exact this
          . rw[show max u (n+1)=u by omega]at this|-;exact this
         have kt:=hg.atc 0 rfl;clear hc C he;by_cases hm:(u:Int)<(n:Int)+1
         all_goals
          first|rw[if_pos hm]at hL|rw[if_neg hm]at hL
          go_wp2_with(first
           |(go_at_call 170;refine(Calls.sh (E3 _ _ _ hI)).mono ?_;rintro e G⟨aa,c1,rfl,Z,z⟩)
           |(at_builtin;refine p6 slI rfl _ _ rfl wr _ _ _ _ Z z hn rfl rfl ?_;intro v2 w2 Y I)
           |(go_at_call 255;refine cm (J _ _ Y.ints) fun w3 L=>?_;have E:=I.trans L)
           |(go_at_call 254;refine(hL _ _ _ d ((Y.ext L).mono hi) (jx4 Y hC) (Hb.o.ext E) (A.o.ext E) N.o (hh.ext E) (hg.ext E) (hi.trans E)).mono ?_;rintro e w4⟨rfl,v4,hz,ht,hB,hy⟩))
          go_roundw
          case rel=>exact⟨n+1,v4,om,om,zg,hz,by rw[q.o];exact ht,hB,b15 (b15 HG.o (E.grow _)) hy⟩
          case measure=>exact zm1
       . have J:=fun v W (M:c8 W v (c++[(n:Int)]))=>c81 v _ W M om;rw[C]at J;have q:=zh (d29 (f:=f) (k:=k) (u:=u) (b:=b) C);clear C
         go_wp2_with(first
          |(go_at_call 170;refine(Calls.sh (E3 _ _ _ hI)).mono ?_;rintro e G⟨aa,c1,rfl,Z,z⟩)
          |(at_builtin;refine p6 slI rfl _ _ rfl wr _ _ _ _ Z z hn rfl rfl ?_;intro v2 w2 Y I)
          |(go_at_call 255;refine cm (J _ _ Y.ints) fun w3 L=>?_;have E:=I.trans L))
         exact zz147
     . have q:Hid (bo6 (f+1) k c u b=W6 f k c u b n):=zh (by rw[df8,show min k (u+1)=n by omega]);clear ha;by_cases X:n<k
       all_goals
        have r:n<k->¬n<=u:=om
        try replace r:=r X
        clear U
        go_wp2_with fail
        all_goals(go_end0;exact⟨rfl,d,Hb.o,by rw[q.o];exact A.o,N.o,HG.o⟩)
  . have Ha:=zh H;have Hd:Hid (Own 3 D w (.slice ab b.length cb) (W6 f k c u b 0)):=zh (by rw[dm1 hq];exact hs);have Hc:=zh hQ;have Hf:=zh (World.grownBy.refl w (some B));clear H hs;go_in;go_wp2_with fail;clear K hf;go_loopw [7] (fun xv wr=>∃(n:Nat) (d:Value),n<=k/\n<=u+1/\xv=vi n/\Blk wr B 40 #[d]/\Own 3 D wr d (W6 f k c u b n)/\d.ownBlock≠some B/\w.grownBy wr (some B)) (fun x _=>k-(intOf x).toNat);exact⟨0,.slice ab b.length cb,om,om,rfl,Ha.o,Hd.o,Hc.o,Hf.o⟩;case round =>
     obtain⟨n,d,hK,hM,rfl,H,O,hN,g⟩:=hrel;clear Ha Hd Hc Hf;have ha:=hr.kept_ne g hp;have hh:=hH.grown_ne g hE;have hg:=hJ.grown_ne g hD;have hi:Ext D wr:=F.grown g (fun j hj=>by cases hj;exact ho);have hC:=H.lt;have ck:=hh.cell (i:=0) (v:=vi k) rfl;have A:=zh O;have Hb:=zh H;have N:=zh hN;have HG:=zh g;clear O H hN g;by_cases U:n<k/\n<=u
     . obtain⟨U,hw⟩:=U;have hI:=ha.ints;have hn:c.length<17592186044416:=om;have hP:(c++[(n:Int)]).length=c.length+1:=zm;clear ha;cases C:b38 (c++[(n:Int)])
       . have he:=cf0 HT.o U hw C;have J:=fun v W (M:c8 W v (c++[(n:Int)]))=>c81 v _ W M om;rw[C]at J;have q:=zh (cr7 (f:=f) (k:=k) (u:=u) (b:=b) C);have hc:=fun v W y p (X:Own 3 D W v (c++[(n:Int)])) (r:v.ownBlock≠some B) (T:Blk W B 40 #[p]) (a:Own 3 D W p y) (l:p.ownBlock≠some B) (m:Blk W P 3 #[vi k]) (s:Blk W t 134 #[.func (.func 254) #[] #[.pointer (some (aD B 0)),.pointer (some (aD P 0)),.pointer (some (aD t 0))]]) (h8:Ext D W)=>Hh.o (c++[(n:Int)]) (max u (n+1)) v D W y p he om om X r T a l m s ho h8;have hL:∀(v:Value) (W:World) (y:LI) (p:Value),Own 3 D W v (c++[(n:Int)])->v.ownBlock≠some B->Blk W B 40 #[p]->Own 3 D W p y->p.ownBlock≠some B->Blk W P 3 #[vi k]->Blk W t 134 #[.func (.func 254) #[] #[.pointer (some (aD B 0)),.pointer (some (aD P 0)),.pointer (some (aD t 0))]]->Ext D W ->
          Calls Tryz.prog 254 #[v,vi (if (u:Int)<(n:Int)+1 then(n:Int)+1 else u),.pointer (some (aD B 0)),.pointer (some (aD P 0)),.pointer (some (aD t 0))] W fun e R=>e=.returned (.tuple #[])/\∃S,Blk R B 40 #[S]/\Own 3 D R S (bo6 f k (c++[(n:Int)]) (max u (n+1)) y)/\S.ownBlock≠some B/\W.grownBy R (some B):=by
          intro v W y p X r T a l m s h8;have:=hc v W y p X r T a l m s h8;split
          . rw[show max u (n+1)=n+1 by omega]at this|-;exact this
          . rw[show max u (n+1)=u by omega]at this|-;exact this
         have kt:=hg.atc 0 rfl;clear hc C he;by_cases hm:(u:Int)<(n:Int)+1
         all_goals
          first|rw[if_pos hm]at hL|rw[if_neg hm]at hL
          go_wp2_with(first
           |(go_at_call 170;refine(Calls.sh (E3 _ _ _ hI)).mono ?_;rintro e G⟨aa,c1,rfl,Z,z⟩)
           |(at_builtin;refine p6 slI rfl _ _ rfl wr _ _ _ _ Z z hn rfl rfl ?_;intro v2 w2 Y I)
           |(go_at_call 255;refine cm (J _ _ Y.ints) fun w3 L=>?_;have E:=I.trans L)
           |(go_at_call 254;refine(hL _ _ _ d ((Y.ext L).mono hi) (jx4 Y hC) (Hb.o.ext E) (A.o.ext E) N.o (hh.ext E) (hg.ext E) (hi.trans E)).mono ?_;rintro e w4⟨rfl,v4,hz,ht,hB,hy⟩))
          go_roundw
          case rel=>exact⟨n+1,v4,om,om,zg,hz,by rw[q.o];exact ht,hB,b15 (b15 HG.o (E.grow _)) hy⟩
          case measure=>exact zm1
       . have J:=fun v W (M:c8 W v (c++[(n:Int)]))=>c81 v _ W M om;rw[C]at J;have q:=zh (d29 (f:=f) (k:=k) (u:=u) (b:=b) C);clear C
         go_wp2_with(first
          |(go_at_call 170;refine(Calls.sh (E3 _ _ _ hI)).mono ?_;rintro e G⟨aa,c1,rfl,Z,z⟩)
          |(at_builtin;refine p6 slI rfl _ _ rfl wr _ _ _ _ Z z hn rfl rfl ?_;intro v2 w2 Y I)
          |(go_at_call 255;refine cm (J _ _ Y.ints) fun w3 L=>?_;have E:=I.trans L))
         exact zz147
     . have q:Hid (bo6 (f+1) k c u b=W6 f k c u b n):=zh (by rw[df8,show min k (u+1)=n by omega]);clear ha;by_cases X:n<k
       all_goals
        have r:n<k->¬n<=u:=om
        try replace r:=r X
        clear U
        go_wp2_with fail
        all_goals(go_end0;exact⟨rfl,d,Hb.o,by rw[q.o];exact A.o,N.o,HG.o⟩)
theorem ca5:
 Calls Tryz.prog 100 #[vi k] w fun e W=>∃O,e=.returned (.tuple #[O,.bool (inB k 1 3)])/\Own 3 w W O (c08 k)/\Ext w W:=by
 cases V:inB k 1 3
 . have H:=zh (je2 V);have h:=P6 k 1 3;rw[V]at h;go_in;go_wp2_with(refine cm (h _) fun G z=>?_;subst z);exact br (.tuple #[.slice (some (aD w.heap.size 0)) 0 0,.bool false]) ⟨_,rfl,by rw[H.o];exact l9 (TI:=3) (n:=0) om (er w) [] rfl,(er w).alloc _⟩
 have K:=V2.1 V;obtain⟨k,rfl⟩:∃n:Nat,k=n:=⟨k.toNat,om⟩;have H:=zh (ds6 V);have h:=P6 k 1 3;rw[V]at h;have Q:=l9 (TI:=3) (n:=0) om (er w) [] rfl;have F:=(er w).alloc (.cells #[] 3);have c:=jz5 k om 15 [] 0 _ w _ (ds7 om om) om zm Q F;go_in;go_wp2_with(first|(go_at_call 141;refine cm (h _) fun G z=>?_;subst z)|(go_at_call 208;refine c.mono ?_;rintro e m⟨l,rfl,X,I⟩));exact br (.tuple #[l,.bool true]) ⟨_,rfl,by rw[H.o];exact X,F.trans I⟩
theorem cc7:
 Calls Tryz.prog 169 #[vi k] w fun e P=>∃O,e=.returned (.tuple #[O,.bool (inB k 1 3)])/\Own 3 w P O (c08 k)/\Ext w P:=by
 cases V:inB k 1 3
 . have p:=zh (je2 V);have h:=H8 k 1 3;rw[V]at h;have F:=(er w).alloc (.cells #[vi k] 3);go_in;go_wp2_with(refine cm (h _) fun G z=>?_;subst z);exact br (.tuple #[.slice (some (aD (w.heap.size+1) 0)) 0 0,.bool false]) ⟨_,rfl,by rw[p.o];simpa using l9 (TI:=3) (n:=0) om F [] rfl,F.alloc _⟩
 have R:=V2.1 V;obtain⟨k,rfl⟩:∃n:Nat,k=n:=⟨k.toNat,om⟩;have p:=zh ((ds6 V).trans (l44 (k:=k) om om).symm);have h:=H8 k 1 3;rw[V]at h;have U:∀(f:Fn) (first cap:Array Value) (w:World),(Instr.makeFunc f first cap).run Tryz.prog w=.ok (.func f first cap) w:=fun _ _ _ _=>rfl;have F:=(er w).alloc (.cells #[vi k] 3);go_in;go_wp2_with(first|(go_at_call 168;refine cm (h _) fun G z=>?_;subst z));obtain⟨G,H⟩:∃x,x=w.alloc (.cells #[vi (k:Int)] 3):=⟨_,rfl⟩;obtain⟨W,r⟩:=nq (G.alloc (.cells #[] 3));obtain⟨w3,T⟩:=nq (W.alloc (.cells #[.slice (some (aD (w.heap.size+1) 0)) 0 0] 40));obtain⟨w4,b⟩:=nq (w3.alloc (.cells #[.func (.func 254) #[] #[.pointer (some (aD (w.heap.size+1+1) 0)),.pointer (some (aD w.heap.size 0)),.pointer (some (aD (w.heap.size+1+1+1) 0))]] 134));obtain⟨s,c⟩:=nq (w4.alloc (.cells #[] 3));rw[<-H,<-r,<-T,<-b,<-c];have S:G.heap.size=w.heap.size+1:=(by rw[H];simp);have l:W.heap.size=w.heap.size+1+1:=(by rw[r];simp[S]);have q:w3.heap.size=w.heap.size+1+1+1:=(by rw[T];simp[l]);have y:w4.heap.size=w.heap.size+1+1+1+1:=(by rw[b];simp[q]);have I:Ext w G:=(by rw[H];exact(er _).alloc _);have L:Ext G W:=(by rw[r];exact(er _).alloc _);have E:Ext W w3:=(by rw[T];exact(er _).alloc _);have X:Ext w3 w4:=(by rw[b];exact(er _).alloc _);have d:Ext w4 s:=(by rw[c];exact(er _).alloc _);have B:Blk G w.heap.size 3 #[vi (k:Int)]:=(by rw[H];exact oq _ _ _);have D:Blk w3 (w.heap.size+1+1) 40 #[.slice (some (aD (w.heap.size+1) 0)) 0 0]:=(by rw[T,<-l];exact oq _ _ _);have C:Blk w4 (w.heap.size+1+1+1) 134 #[.func (.func 254) #[] #[.pointer (some (aD (w.heap.size+1+1) 0)),.pointer (some (aD w.heap.size 0)),.pointer (some (aD (w.heap.size+1+1+1) 0))]]:=(by rw[b,<-q];exact oq _ _ _);have M:Own 3 G W (.slice (some (aD (w.heap.size+1) 0)) 0 0) []:=(by rw[r,<-S];exact l9 (TI:=3) (n:=0) om (er G) [] rfl);have N:Own 3 G s (.slice (some (aD (w.heap.size+1+1+1+1) 0)) 0 0) []:=(by rw[c,<-y];exact l9 (TI:=3) (n:=0) om (L.trans (E.trans X)) [] rfl);have Y:=X.trans d;refine(lp6 k om (w.heap.size+1+1) w.heap.size (w.heap.size+1+1+1) om om 15 [] 0 _ G s [] _ (ds7 om om) om zm N (by simp[Value.ownBlock]<;>omega) (D.ext Y) (M.ext (E.trans Y)) (by simp[Value.ownBlock]<;>omega) (B.ext (L.trans (E.trans Y))) (C.ext d) om (L.trans (E.trans Y))).mono ?_;rintro e w6⟨rfl,Z,K,m,-,g⟩;obtain⟨A,c6,rfl,-⟩:=m.shape;have hx6:=K.cell (i:=0) (v:=.slice A (bo6 15 k [] 0 []).length c6) rfl;have Q:Ext w w6:=(I.trans (L.trans (E.trans Y))).grown g (fun j J=>by cases J;omega);go_wp2_with fail;exact br (.tuple #[.slice A (bo6 15 k [] 0 []).length c6,.bool true]) ⟨_,rfl,by rw[p.o];exact m.mono I,Q⟩
def ccT(k:Int):LI:=if inB k 1 3 then c08 k else []
def ccK(k:Int):Int:=if inB k 1 3 then 6 else 0
def ccN(k:Int):Int:=if inB k 1 3 then k else 0
theorem jk4{k:Int}(h:inB k 1 3=false):ccT k=[]/\ccK k=0/\ccN k=0:=by unfold ccT ccK ccN;rw[h];exact⟨rfl,rfl,rfl⟩
theorem dr4{k:Int}(h:inB k 1 3=true):ccT k=c08 k/\ccK k=6/\ccN k=k:=by unfold ccT ccK ccN;rw[h];exact⟨rfl,rfl,rfl⟩
theorem cp5:
 Calls Tryz.prog 63 #[vi k] w fun e W=>∃V l m p,e=.returned (.tuple #[CV (ccK k) V l 0 0 0 0 m p (ccN k),.bool (inB k 1 3)])/\Own4 w W V l m p [] [] (ccT k) []/\Ext w W:=by
 obtain⟨B,n⟩:=nq (w);have E:=er B;obtain⟨wc,h⟩:=nq (B.alloc (.cells #[vi 0,.slice none 0 0,.slice none 0 0,vi 0,vi 0,vi 0,vi 0,.slice none 0 0,.slice none 0 0,vi 0] 52));have b:Blk wc B.heap.size 52 #[vi 0,.slice none 0 0,.slice none 0 0,vi 0,vi 0,vi 0,vi 0,.slice none 0 0,.slice none 0 0,vi 0]:=by rw[h];exact oq _ _ _
 have R:Res wc B.heap.size 10:=b.res zm;have A:Ext B wc:=by rw[h];exact E.alloc _
 replace E:=er wc;have s:Hid (B.heap.size+1=wc.heap.size):=zh (by rw[h];simp[go_sem]);have H:=zh h;clear h b;subst n;have h:B.heap.size<wc.heap.size:=by have:=s.o;omega
 have c:=cc7 k wc;cases S:inB k 1 3
 . have N:=zh (jk4 S);rw[S]at c;go_in;go_wp2_with fail;rw[<-H.o];refine c.mono ?_;rintro e G⟨V,rfl,O,z⟩;obtain⟨a,C,rfl,-⟩:=O.shape;have r:=R.ext z;unfold Res at r;go_wp2_with fail;exact bodyPost_ret (v:=.tuple #[CV 0 (.slice none 0 0) (.slice none 0 0) 0 0 0 0 (.slice none 0 0) (.slice none 0 0) 0,.bool false]) (by simp[results,Tryz.results63,go_sem,r,CV]) rfl ⟨_,_,_,_,by rw[N.o.2.1,N.o.2.2],by rw[N.o.1];exact⟨oL _ _ _,oL _ _ _,oL _ _ _,oL _ _ _,l5.nil_left _,l5.nil_left _,l5.nil_left _,l5.nil_left _,l5.nil_left _,l5.nil_left _⟩,by(repeat(refine oZ ?_ (oc _) _));exact A.trans z⟩
 have N:=zh (dr4 S);rw[S]at c;go_in;go_wp2_with fail;rw[<-H.o];refine c.mono ?_;rintro e G⟨V,rfl,O,z⟩;obtain⟨a,C,rfl,-⟩:=O.shape;have r:=R.ext z;unfold Res at r;go_wp2_with fail;exact bodyPost_ret (v:=.tuple #[CV 6 (.slice none 0 0) (.slice none 0 0) 0 0 0 0 (.slice a (c08 k).length C) (.slice none 0 0) k,.bool true]) (by simp[results,Tryz.results63,go_sem,r,CV]) rfl ⟨_,_,_,_,by rw[N.o.2.1,N.o.2.2],by rw[N.o.1];exact⟨oL _ _ _,oL _ _ _,(show Own 3 wc _ _ _ by(repeat(refine oV ?_ h _));exact O).mono A,oL _ _ _,l5.nil_left _,l5.nil_left _,l5.nil_left _,l5.nil_left _,l5.nil_left _,l5.nil_right _⟩,by(repeat(refine oZ ?_ (oc _) _));exact A.trans z⟩
theorem cj9:
 Calls Tryz.prog 40 #[vi k] w fun e W=>∃V l m p,e=.returned (.tuple #[CV (ccK k) V l 0 0 0 0 m p (ccN k),.bool (inB k 1 3)])/\Own4 w W V l m p [] [] (ccT k) []/\Ext w W:=by
 obtain⟨B,n⟩:=nq (w);have E:=er B;obtain⟨wc,h⟩:=nq (B.alloc (.cells #[vi 0,.slice none 0 0,.slice none 0 0,vi 0,vi 0,vi 0,vi 0,.slice none 0 0,.slice none 0 0,vi 0] 52));have b:Blk wc B.heap.size 52 #[vi 0,.slice none 0 0,.slice none 0 0,vi 0,vi 0,vi 0,vi 0,.slice none 0 0,.slice none 0 0,vi 0]:=by rw[h];exact oq _ _ _
 have R:Res wc B.heap.size 10:=b.res zm;have A:Ext B wc:=by rw[h];exact E.alloc _
 replace E:=er wc;have s:Hid (B.heap.size+1=wc.heap.size):=zh (by rw[h];simp[go_sem]);have H:=zh h;clear h b;subst n;have h:B.heap.size<wc.heap.size:=by have:=s.o;omega
 have c:=ca5 k wc;cases S:inB k 1 3
 . have N:=zh (jk4 S);rw[S]at c;go_in;go_wp2_with fail;rw[<-H.o];refine c.mono ?_;rintro e G⟨V,rfl,O,z⟩;obtain⟨a,C,rfl,-⟩:=O.shape;have r:=R.ext z;unfold Res at r;go_wp2_with fail;exact bodyPost_ret (v:=.tuple #[CV 0 (.slice none 0 0) (.slice none 0 0) 0 0 0 0 (.slice none 0 0) (.slice none 0 0) 0,.bool false]) (by simp[results,Tryz.results40,go_sem,r,CV]) rfl ⟨_,_,_,_,by rw[N.o.2.1,N.o.2.2],by rw[N.o.1];exact⟨oL _ _ _,oL _ _ _,oL _ _ _,oL _ _ _,l5.nil_left _,l5.nil_left _,l5.nil_left _,l5.nil_left _,l5.nil_left _,l5.nil_left _⟩,by(repeat(refine oZ ?_ (oc _) _));exact A.trans z⟩
 have N:=zh (dr4 S);rw[S]at c;go_in;go_wp2_with fail;rw[<-H.o];refine c.mono ?_;rintro e G⟨V,rfl,O,z⟩;obtain⟨a,C,rfl,-⟩:=O.shape;have r:=R.ext z;unfold Res at r;go_wp2_with fail;exact bodyPost_ret (v:=.tuple #[CV 6 (.slice none 0 0) (.slice none 0 0) 0 0 0 0 (.slice a (c08 k).length C) (.slice none 0 0) k,.bool true]) (by simp[results,Tryz.results40,go_sem,r,CV]) rfl ⟨_,_,_,_,by rw[N.o.2.1,N.o.2.2],by rw[N.o.1];exact⟨oL _ _ _,oL _ _ _,(show Own 3 wc _ _ _ by(repeat(refine oV ?_ h _));exact O).mono A,oL _ _ _,l5.nil_left _,l5.nil_left _,l5.nil_left _,l5.nil_left _,l5.nil_left _,l5.nil_right _⟩,by(repeat(refine oZ ?_ (oc _) _));exact A.trans z⟩
end Go.Zz
