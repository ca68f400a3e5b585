/- ExtremalLine of the program. -/
import Derived.Test.YtjhoafjeopcheaaGreatGr23
set_option linter.all false
set_option maxHeartbeats 4000000
set_option maxRecDepth 20000
namespace Go.Zz
open Go.RowKit Go.Proofs
variable(u:Value)(l:LI)(vs:Value)(c s:LI)(n m:Nat)(w:World){i:Nat}{b:Bool}
theorem lg2(s:Ba)(f:Nat->Ba)(S:s.size<=1):∀k,(∀i,i<k->(f i).size<=27)->(jn s f k).size<=28*k
 |0,_=>oc _
 |1,h=>by
  have:=h 0 om
  rw[b29,oe]
  have e:(⟨#[]⟩:Ba).size=0:=rfl
  omega
 |k+2,h=>by
  have I:=lg2 s f S (k+1) fun i J=>h i om
  have:=h (k+1) om
  rw[b42 s f om,oe,oe];omega
theorem lt5(x:LI):(fqF l x).size<=400:=by
 cases S:q8 l x;rw[c37 S];decide;obtain⟨X,rfl,-,d,-,H⟩:=I9 S;by_cases h:X.length=0;rw[bk1 S (by rw[d9];exact h)];decide;rw[bs1 S h];have f:=bf7 X X.length;have:=lg2 sp1 (m8 (fqL X X.length)) (by decide) (fqL X X.length).length (fun i J=>bd8 (X:=X) om H X.length (oc _) _ (J8 J));omega
theorem lj4(A B C D:Ba):F4 [(⟨#[101,120,116,114,101,109,97,108,32,102,114,101,101]⟩:Ba),A,(⟨#[115,117,109,102,114,101,101]⟩:Ba),B,(⟨#[115,105,100,111,110]⟩:Ba),C,(⟨#[97,112,102,114,101,101]⟩:Ba),D]=(((((((⟨#[101,120,116,114,101,109,97,108,32,102,114,101,101,32]⟩:Ba)++A)++(⟨#[32,115,117,109,102,114,101,101,32]⟩:Ba))++B)++(⟨#[32,115,105,100,111,110,32]⟩:Ba))++C)++(⟨#[32,97,112,102,114,101,101,32]⟩:Ba))++D:=by
 exact zz166
theorem cu5(v:Value)(l:LI)(w:World)(h:c8 w v l):Calls Tryz.prog 59 #[.agg #[v]] w (RE w (.string (elF l))):=by
 obtain⟨B,Z,F,C,H,E,Hz⟩:=m04 42 h;clear h;have hx:=C B E;have g:=o9 v l B (H _ E);cases Y:d7 l
 . have b:lzB l=false:=(by unfold lzB;rw[Y];rfl);have N:=zh (cf7 b);rw[Y]at g;clear b;go_in;go_wp2_with fail;rw[<-Z.o];refine cm g fun G z=>?_;exact zz49
 rw[Y]at g;have R:=zh Y;have ho:=l8 Y;have t:=fun W (D:Ext B W)=>p9 v l W (H _ D) R;by_cases k:ord l<=9;rotate_left
 . have b:lzB l=false:=(by unfold lzB;rw[Y];simpa using k);have N:=zh (cf7 b);clear b;go_in;go_wp2_with fail;rw[<-Z.o];refine cm g fun G z=>?_;have hh:=C G z;go_wp2_with(refine cm (t _ z) fun m I=>?_);go_ret;exact⟨j5 N.o.symm,F.trans (z.trans I)⟩
 have b:lzB l=true:=by unfold lzB;rw[Y];simpa using k
 have N:=zh (da8 b);have c1:=fun W (D:Ext B W)=>cc8 v l W (H _ D);have V:=fun W (D:Ext B W)=>ce2 v l W (H _ D);have c3:=fun W (D:Ext B W)=>cu7 v l W (H _ D);have q:=fun W (D:Ext B W)=>cp8 v l W (H _ D);have n:=fun W vZ (D:Ext B W) (hI:c8 W vZ (b9 (lzL l)))=>bm9 v vZ l (b9 (lzL l)) W (H _ D) hI;have y:=fun W (D:Ext B W)=>I7 v l (lgV (O8 l) l 16:Nat) W (H _ D);have L:=fun W (D:Ext B W)=>I7 v l (lgV (sidP l) l 13:Nat) W (H _ D);have O:=fun W (D:Ext B W)=>I7 v l (lgV (apP l) l 11:Nat) W (H _ D);have sA:=lt5 l (b9 (lzL l));have sB:=c38 l (lgV (O8 l) l 16:Nat);have sC:=c38 l (lgV (sidP l) l 13:Nat);have sD:=c38 l (lgV (apP l) l 11:Nat);obtain⟨A,U⟩:=nq (fqF l (b9 (lzL l)));obtain⟨p,he⟩:∃x,x=fsF l (lgV (O8 l) l 16:Nat):=⟨_,rfl⟩;obtain⟨c,hC⟩:∃x,x=fsF l (lgV (sidP l) l 13:Nat):=⟨_,rfl⟩;obtain⟨d,M⟩:∃x,x=fsF l (lgV (apP l) l 11:Nat):=⟨_,rfl⟩;rw[<-U]at n sA N;rw[<-he]at y sB N;rw[<-hC]at L sC N;rw[<-M]at O sD N;obtain⟨n2,r⟩:=nq (lgV (O8 l) l 16);obtain⟨n3,T⟩:=nq (lgV (sidP l) l 13);obtain⟨n4,f⟩:=nq (lgV (apP l) l 11);rw[<-r]at V y;rw[<-T]at c3 L;rw[<-f]at q O;have hn:∀i,i<([(⟨#[101,120,116,114,101,109,97,108,32,102,114,101,101]⟩:Ba),A,(⟨#[115,117,109,102,114,101,101]⟩:Ba),p,(⟨#[115,105,100,111,110]⟩:Ba),c,(⟨#[97,112,102,114,101,101]⟩:Ba),d]:List Ba).length->(m8 [(⟨#[101,120,116,114,101,109,97,108,32,102,114,101,101]⟩:Ba),A,(⟨#[115,117,109,102,114,101,101]⟩:Ba),p,(⟨#[115,105,100,111,110]⟩:Ba),c,(⟨#[97,112,102,114,101,101]⟩:Ba),d] i).size<=5000:=by
  intro i J;match i,J with
  |0,_=>exact(by decide:((⟨#[101,120,116,114,101,109,97,108,32,102,114,101,101]⟩:Ba):Ba).size<=5000)
  |1,_=>exact nle sA (by decide)
  |2,_=>exact(by decide:((⟨#[115,117,109,102,114,101,101]⟩:Ba):Ba).size<=5000)
  |3,_=>exact nle sB (by decide)
  |4,_=>exact(by decide:((⟨#[115,105,100,111,110]⟩:Ba):Ba).size<=5000)
  |5,_=>exact nle sC (by decide)
  |6,_=>exact(by decide:((⟨#[97,112,102,114,101,101]⟩:Ba):Ba).size<=5000)
  |7,_=>exact nle sD (by decide)
 obtain⟨X,u⟩:∃x,x=F4 [(⟨#[101,120,116,114,101,109,97,108,32,102,114,101,101]⟩:Ba),A,(⟨#[115,117,109,102,114,101,101]⟩:Ba),p,(⟨#[115,105,100,111,110]⟩:Ba),c,(⟨#[97,112,102,114,101,101]⟩:Ba),d]:=⟨_,rfl⟩;have hL:∀(W:World),Calls Tryz.prog 76 #[.slice (some (aD W.heap.size 0)) 8 8] (W.alloc (.cells #[.string (⟨#[101,120,116,114,101,109,97,108,32,102,114,101,101]⟩:Ba),.string A,.string (⟨#[115,117,109,102,114,101,101]⟩:Ba),.string p,.string (⟨#[115,105,100,111,110]⟩:Ba),.string c,.string (⟨#[97,112,102,114,101,101]⟩:Ba),.string d] 9)) (RE (W.alloc (.cells #[.string (⟨#[101,120,116,114,101,109,97,108,32,102,114,101,101]⟩:Ba),.string A,.string (⟨#[115,117,109,102,114,101,101]⟩:Ba),.string p,.string (⟨#[115,105,100,111,110]⟩:Ba),.string c,.string (⟨#[97,112,102,114,101,101]⟩:Ba),.string d] 9)) (.string X)):=fun W =>
  (cx6 _ _ _ (d05 W [(⟨#[101,120,116,114,101,109,97,108,32,102,114,101,101]⟩:Ba),A,(⟨#[115,117,109,102,114,101,101]⟩:Ba),p,(⟨#[115,105,100,111,110]⟩:Ba),c,(⟨#[97,112,102,114,101,101]⟩:Ba),d] 9 zm) hn zm).mono fun e w' ⟨h1,r⟩=>⟨by rw[h1,u],by rw[<-r];exact er _⟩
 have Hn:Hid (elF l=X):=zh (by rw[u,N.o];exact(lj4 A p c d).symm);clear hn u;clear U he hC M r T f b Y;go_in;go_wp2_with fail;rw[<-Z.o];refine cm g fun G z=>?_;have hh:=C G z;go_wp2_with(go_at_call 153;refine cm (t _ z) fun m I=>?_;have s:=z.trans I;have hl:=C m s);refine(c1 _ s).mono ?_;rintro e w3⟨aZ,cZ,rfl,hZ,hf⟩;have Q:=s.trans hf;have hp:=C w3 Q;go_wp2_with fail;refine cm (V _ Q) fun w4 j=>?_;have S:=Q.trans j;have hq:=C w4 S;go_wp2_with fail;refine cm (c3 _ S) fun w5 ha=>?_;have P:=S.trans ha;have hr:=C w5 P;go_wp2_with fail;refine cm (q _ P) fun w6 hc=>?_;have K:=P.trans hc;have hk:=hZ.ext (j.trans (ha.trans hc));have kb:=sh K C;have M:=(er w6).drew;have E:=er w6;go_wp2_with fail;first|(go_region_held3 (fun W=>Ext w6 W/\W.cell? (aD w.heap.size 0)=some v) (exact⟨xq,kb _ xq⟩) (first|(go_at_call 162;((with_reducible refine od (n _ _ (K.trans xq) (hk.ext xq)) ?_);rintro e wH⟨rfl,u⟩;have hH:=og (a:=w6) xq u))|(go_at_call 73;((first|(with_reducible refine od (y _ (K.trans xq)) ?_)|(with_reducible refine od (L _ (K.trans xq)) ?_)|(with_reducible refine od (O _ (K.trans xq)) ?_));rintro e wH⟨rfl,u⟩;have hH:=og (a:=w6) xq u))|(go_at_call 76;((with_reducible refine od (hL _) ?_);rintro e wL⟨rfl,u⟩;have hj:=og (a:=w6) xq u))))|(fail "the region")
 all_goals
  go_wp2_with fail
  go_ret
  exact⟨j5 Hn.o.symm,F.trans (K.trans hj)⟩
theorem lo3(V:Hid (eqB c=true))(hn:n<=12)(L bK bX bN m b:Nat)(aC:Option Addr)(I:Nat)(p1 p2:Value)(B:Nat)
 (S:Nat->World->Prop) (Fin:World->Prop) (s:LN->Bool)
 (l:∀k w,S k w->w.cell? (aD L 0)=some (.slice aC c.length I)/\w.cell? (aD bK 0)=some (.func (.func 302) #[] #[p1,p2])/\w.cell? (aD bX 0)=some (.slice (some (aD b 0)) c.length c.length)/\w.cell? (aD bN 0)=some (vi n)/\w.cell? (aD m 0)=some (.func (.func 301) #[] #[.pointer (some (aD L 0)),.pointer (some (aD bK 0)),.pointer (some (aD bX 0)),.pointer (some (aD bN 0)),.pointer (some (aD m 0))])/\c8 w (.slice aC c.length I) c)
 (hB:∀k w i v,S k w->S k (w.setCell (aD b i) v)) (hK:∀k w W,S k w->Ext w W->S k W)
 (E:∀k w X,k<B->S k w->R7 b c.length X w->X.length=c.length->(∀x∈X,1<=x/\x<=n)->Calls Tryz.prog 302 #[.slice (some (aD b 0)) c.length c.length,p1,p2] w fun e P=>e=.returned (.bool (s X))/\R7 b c.length X P/\(s X=false->S (k+1) P)/\(s X=true->Fin P)) :
 ∀R X k w,X.length+R=c.length->(∀x∈X,1<=x/\x<=n)->k+E9 c n [] R X<=B->S k w->R7 b c.length X w ->
 Calls Tryz.prog 301 #[vi X.length,vi (V7 c X),.pointer (some (aD L 0)),.pointer (some (aD bK 0)),.pointer (some (aD bX 0)),.pointer (some (aD bN 0)),.pointer (some (aD m 0))] w fun e P =>
  e=.returned (.bool (L6 s c n R X))/\R7 b c.length X P/\(L6 s c n R X=false->S (k+E9 c n [] R X) P)/\(L6 s c n R X=true->Fin P):=by
 have h4:=(U4 V.o).2.1;intro R;induction R with
 |zero =>
  intro X k w hr u z t H;obtain⟨Z,f,p,k4,k5,-⟩:=l k w t;have hq:(((X.length:Nat):Int) == ((c.length:Nat):Int))=true:=by rw[beq_iff_eq];omega
  by_cases hd:V7 c X=0
  . have A:Hid (L6 s c n 0 X=s X):=zh (by rw[be9,decide_eq_true hd,qe]);have N:Hid (E9 c n [] 0 X=1):=zh (c71 hd);have cT:=E k w X (by rw[N.o]at z;omega) t H om u;rw[hd];clear hd E;go_in;go_wp2_with(go_at_call 302;refine cT.mono ?_;rintro e G⟨rfl,hw,hy,hv⟩);go_ret;exact⟨j1 A.o.symm,hw,by rw[A.o,N.o];exact hy,by rw[A.o];exact hv⟩
  . have A:Hid (L6 s c n 0 X=false):=zh (by rw[be9,decide_eq_false hd,qS]);have N:Hid (E9 c n [] 0 X=0):=zh (cm6 hd);have hV:(V7 c X == 0)=false:=(by rw[beq_eq_false_iff_ne];exact hd);clear hd E;go_in;go_wp2_with fail;go_ret;exact⟨j1 A.o.symm,H,fun _=>by rw[N.o];exact t,fun e=>by rw[A.o]at e;cases e⟩
 | succ R ih =>
  intro X k w hr u z t H;have HK:=zh z;clear z;have Hh:=zh ih;clear ih E;have U:X.length<c.length:=om;obtain⟨Z,f,p,k4,k5,-⟩:=l k w t;have hq:(((X.length:Nat):Int) == ((c.length:Nat):Int))=false:=by rw[beq_eq_false_iff_ne];omega
  have hu:∀x∈X,x<=12:=fun x K=>by have:=u x K;omega
  have hE:=c76 V.o hu X.length (oc _);have hH : -432<=V7 c X/\V7 c X<=432:=by unfold V7;omega
  have O:=zh (fun y=>dg4 c X y);obtain⟨d,hb⟩:=nq (V7 c X);rw[<-hb]at hH O;rw[<-hb];have hY:=c31 V.o X.length;obtain⟨Y,hh⟩:=nq (nth c X.length);rw[<-hh]at hY O;have Hb:=zh hh;clear hb hh hE;have hR:∀W,(Instr.indexAt 40 (.slice (some (aD b 0)) c.length c.length) (vi ((X.length:Nat):Int))).run Tryz.prog W=.ok (.pointer (some (aD b X.length))) W:=fun W=>by
   rw[run_indexAt_slice (h:=elI),if_pos om,szI]
   simp[Result.andThen,pe]
  have HS:=zh l;have HR:=zh H;have HT:=zh t;clear l H t;go_in;go_wp2_with fail;clear Z f p k4 k5;go_loopw [10] (fun sq wr=>∃q:Nat,1<=q/\q<=n+1/\sq=vi q/\R7 b c.length X wr/\S (k+Q8 c n [] R X (q-1)) wr/\Hid (∀j,j+1<q->L6 s c n R (X++[j+1])=false)) (fun sq _=>n+1-(intOf sq).toNat);exact⟨1,om,om,rfl,HR.o,HT.o,zh om⟩
  case round =>
   clear HR HT;rename World=>wr;obtain⟨q,hs,hL,rfl,H,t,HN⟩:=hrel;obtain⟨Z,f,p,k4,k5,hI⟩:=HS.o _ _ t;by_cases ht:q<=n
   . have hG:(q:Int)<=(n:Int):=om;obtain⟨vz,kz⟩:=H.has U;have hO:=H.free X.length;have ho:=H.set U q;have hg:=hB _ _ X.length (vi (q:Int)) t;obtain⟨m1,m2,m3,m4,m5,he⟩:=HS.o _ _ hg;obtain⟨G,J⟩:∃G,G=wr.setCell (aD b X.length) (vi (q:Int)):=⟨_,rfl⟩;rw[<-J]at ho hg m1 m2 m3 m4 m5 he;obtain⟨aI,cI,ar,hp,-,hk,hl⟩:=he.op;simp only[Value.slice.injEq]at hp;obtain⟨rfl,-,rfl⟩:=hp;have hU:=j2 (c:=I) elI szI hk X.length;have hi:=fun W (D:Ext G W)=>hl X.length W U D;rw[<-Hb.o]at hi;have hz:=d48 (a:=Y) (y:=q) om om om;have M:Y*(q:Int)=(q:Int)*Y:=qs _ _;rw[M]at hz;have hP:IntKind.i64.wrap ((q:Int)*Y)=(q:Int)*Y:=oD _ om;have hT:IntKind.i64.wrap (d+(q:Int)*Y)=d+(q:Int)*Y:=oD _ om;have hm:V7 c (X++[q])=d+(q:Int)*Y:=(by rw[O.o,M]);have hQ:IntKind.i64.wrap (((X.length:Nat):Int)+1)=((X.length:Nat):Int)+1:=oD _ om;have Hy:Hid (Q8 c n [] R X q=Q8 c n [] R X (q-1)+E9 c n [] R (X++[q])):=zh (by
      have:=c72 (c:=c) (n:=n) (cs:=[]) (r:=R) (X:=X) (k:=q-1) rfl;rw[show q-1+1=q by omega]at this;exact this)
     have Hq:k+Q8 c n [] R X (q-1)+E9 c n [] R (X++[q])<=B:=by
      exact zz140
     have C:=fun W (D:Ext G W)=>Hh.o (X++[q]) _ W (by rw[oh,oo];omega) (fun x K=>by
      rw[oP,oE]at K
      rcases K with K|rfl
      . exact u x K
      . exact⟨hs,ht⟩) Hq (hK _ _ _ hg D) (ho.ext D)
     rw[hm]at C;rw[show(((X++[q]).length:Nat):Int)=((X.length:Nat):Int)+1 by rw[oh,oo];omega]at C;obtain⟨SS,hf⟩:=nq (k+Q8 c n [] R X (q-1));rw[<-hf]at C;have Hd:=zh hf;clear hf hm M hk hl hI he H t;have Ha:=zh J;have hM:=hi G (er _);clear J hi;cases Q:L6 s c n R (X++[q])
     . exact zz27
     . exact zz30
   . exact zz59
theorem lw8(A:Hid (eqB c=true))(hn:n<=12)(p P:Value)(w:World)(hu:c8 w u c)
 (I:Nat->Nat->World->Prop) (Fin:World->Prop) (s:LN->Bool)
 (ha:∀J W,Ext w W->w.heap.size<=J->J<=W.heap.size->I J 0 W) (hf:∀J k W,I J k W->c8 W u c) (hx:∀J k W j,I J k W->Ext W j->I J k j)
 (hb:∀J k W b i v,w.heap.size<=b->b<J->I J k W->I J k (W.setCell (aD b i) v))
 (he:∀J k W X vx,k<E9 c n [] c.length []->I J k W->c8 W vx (b9 X)->X.length=c.length->(∀x∈X,1<=x/\x<=n)->Calls Tryz.prog 302 #[vx,p,P] W fun e j=>e=.returned (.bool (s X))/\(s X=false->I J (k+1) j)/\(s X=true->Fin j)/\(∀b K y,w.heap.size<=b->b<J->Blk W b K y->Blk j b K y)) :
 Calls Tryz.prog 250 #[u,vi n,.func (.func 302) #[] #[p,P]] w fun e j=>e=.returned (.bool (L6 s c n c.length []))/\(L6 s c n c.length []=false->∃J,I J (E9 c n [] c.length []) j)/\(L6 s c n c.length []=true->Fin j):=by
 have h4:=U4 A.o;have hh:∀(F:Fn) (first cap:Array Value) (w:World),(Instr.makeFunc F first cap).run Tryz.prog w=.ok (.func F first cap) w:=fun _ _ _ _=>rfl;obtain⟨a,C,rfl,-⟩:=hu;obtain⟨G,H⟩:=nq (w.alloc (.cells #[.slice a c.length C] 40));obtain⟨l,r⟩:=nq (G.alloc (.cells #[vi n] 3));obtain⟨w3,T⟩:=nq (l.alloc (.cells #[.func (.func 302) #[] #[p,P]] 91));have N:G.heap.size=w.heap.size+1:=by rw[H];simp
 have s2:l.heap.size=w.heap.size+1+1:=by rw[r];simp[N]
 have s3:w3.heap.size=w.heap.size+1+1+1:=by rw[T];simp[s2]
 have ef:Ext w G:=by rw[H];exact(er _).alloc _
 have ea:Ext G l:=by rw[r];exact(er _).alloc _
 have Q:Ext l w3:=by rw[T];exact(er _).alloc _
 have B1:Blk G w.heap.size 40 #[.slice a c.length C]:=by rw[H];exact oq _ _ _
 have B2:Blk l (w.heap.size+1) 3 #[vi n]:=by rw[r,<-N];exact oq _ _ _
 have B3:Blk w3 (w.heap.size+1+1) 91 #[.func (.func 302) #[] #[p,P]]:=by rw[T,<-s2];exact oq _ _ _
 have Hc:=zh hf;have Hx:=zh hx;have Hs:=zh hb;have Hk:=zh he;have Hb:=zh ha;have Ha:=zh (show((w.alloc (.cells #[.slice a c.length C] 40)).alloc (.cells #[vi n] 3)).alloc (.cells #[.func (.func 302) #[] #[p,P]] 91)=w3 by rw[<-H,<-r,<-T]);clear hf hx hb he ha H r T;go_in;go_wp2_with(at_make;refine b10 slI rfl _ _ rfl _ _ c.length rfl rfl om (er _) ?_;intro w4 q L;rw[Ha.o]at q L;have ec:=L;rw[Ha.o]);obtain⟨t,d⟩:=nq (w4.alloc (.cells #[.slice (some (aD (w.heap.size+1+1+1) 0)) c.length c.length] 40));obtain⟨w6,f⟩:=nq (t.alloc (.cells #[.func (.func 301) #[] #[.pointer (some (aD w.heap.size 0)),.pointer (some (aD (w.heap.size+1+1) 0)),.pointer (some (aD w4.heap.size 0)),.pointer (some (aD (w.heap.size+1) 0)),.pointer (some (aD (w4.heap.size+1) 0))]] 123));rw[<-d,<-f];rw[s3]at q;have s5:t.heap.size=w4.heap.size+1:=by rw[d];simp
 have s6:w6.heap.size=w4.heap.size+1+1:=by rw[f];simp[s5]
 have ee:Ext w4 t:=by rw[d];exact(er _).alloc _
 have eb:Ext t w6:=by rw[f];exact(er _).alloc _
 have B4:=jh4 q zm om;have B5:Blk t w4.heap.size 40 #[.slice (some (aD (w.heap.size+1+1+1) 0)) c.length c.length]:=by rw[d];exact oq _ _ _
 have B6:Blk w6 (w4.heap.size+1) 123 #[.func (.func 301) #[] #[.pointer (some (aD w.heap.size 0)),.pointer (some (aD (w.heap.size+1+1) 0)),.pointer (some (aD w4.heap.size 0)),.pointer (some (aD (w.heap.size+1) 0)),.pointer (some (aD (w4.heap.size+1) 0))]]:=by rw[f,<-s5];exact oq _ _ _
 have hj:=B4.lt;have ed:=ee.trans eb;have g:=ec.trans ed;have eg:=(ef.trans (ea.trans Q)).trans g;have s4:=ec.size;clear d f
 have m:=lo3 c n A hn w.heap.size (w.heap.size+1+1) w4.heap.size (w.heap.size+1) (w4.heap.size+1) (w.heap.size+1+1+1) a C p P (E9 c n [] c.length [])
  (fun k W=>I (w4.heap.size+2) k W/\Blk W w.heap.size 40 #[.slice a c.length C]/\Blk W (w.heap.size+1) 3 #[vi n]/\Blk W (w.heap.size+1+1) 91 #[.func (.func 302) #[] #[p,P]]/\Blk W w4.heap.size 40 #[.slice (some (aD (w.heap.size+1+1+1) 0)) c.length c.length]/\Blk W (w4.heap.size+1) 123 #[.func (.func 301) #[] #[.pointer (some (aD w.heap.size 0)),.pointer (some (aD (w.heap.size+1+1) 0)),.pointer (some (aD w4.heap.size 0)),.pointer (some (aD (w.heap.size+1) 0)),.pointer (some (aD (w4.heap.size+1) 0))]])
  Fin s
  (fun k W ⟨U,O,B,V,Z,Y⟩=>⟨O.cell (i:=0) rfl,V.cell (i:=0) rfl,Z.cell (i:=0) rfl,B.cell (i:=0) rfl,Y.cell (i:=0) rfl,Hc.o _ _ _ U⟩)
  (fun k W i v ⟨U,O,B,V,Z,Y⟩=>⟨Hs.o _ _ _ _ _ _ om om U,O.other zso _,B.other zm _,V.other zm _,Z.other zso _,Y.other zso _⟩)
  (fun k W j ⟨U,O,B,V,Z,Y⟩ E=>⟨Hx.o _ _ _ _ U E,O.ext E,B.ext E,V.ext E,Z.ext E,Y.ext E⟩)
  (fun k W X hK ⟨U,O,B,V,Z,Y⟩ D z hg=>(Hk.o _ _ _ X _ hK U (D.ints z om) z hg).mono fun e j ⟨r1,r2,r3,R⟩=>⟨r1,by obtain⟨ZZ,z1,z2,z3⟩:=D;exact⟨ZZ,z1,z2,R _ _ _ om om z3⟩,fun S=>⟨r2 S,R _ _ _ om om O,R _ _ _ om om B,R _ _ _ om om V,R _ _ _ om om Z,R _ _ _ om om Y⟩,r3⟩)
  c.length [] 0 w6 zm zm om
  ⟨Hb.o _ _ eg om om,B1.ext ((ea.trans Q).trans g),B2.ext (Q.trans g),B3.ext g,B5.ext eb,B6⟩ ((cz2 B4).ext ed)
 exact zz97
theorem l06(vx vs:Value)(X:LN)(s:LI)(f b:Nat)(w:World)(aa:Option Addr)(n0 d:Nat)(I:c8 w vx (b9 X))(Y:c8 w vs s)(m:∀W,Ext w W->W.cell? (aD f 0)=some vs)(hB:Blk w b 40 #[.slice aa n0 d])(A:∀x∈X,1<=x/\x<=s.length)(hv:s.length<=12)(hw:X.length<=4):Calls Tryz.prog 302 #[vx,.pointer (some (aD f 0)),.pointer (some (aD b 0))] w fun e R=>e=.returned (.bool (b12 s X))/\(b12 s X=false->Ext w R)/\(b12 s X=true->Fr b none w R/\∃Q n c,Blk R b 40 #[.slice Q n c]):=by
 have HI:=zh (fun W (D:Ext w W)=>I.ext D);obtain⟨aX,r,ab,rfl,ha,hb⟩:=I.nats;have ho:=j2 (c:=r) elI szI ha;obtain⟨aS,cS,ac,rfl,-,hg,hf⟩:=Y.op;have y:=j2 (c:=cS) elI szI hg;have T:=zh hb;have Hc:=zh hf;have HB:=zh hB;have HS:=zh m;have E:=er w;clear ha hg hb hf I Y hB m;go_in;go_wp2_with fail;go_loopw [9] (fun q wr=>∃k:Nat,k<=X.length/\q=vi k/\Ext w wr/\Hid (bw0 s X k)) (fun q _=>X.length-(intOf q).toNat);exact⟨0,om,rfl,E,zh fun j J=>absurd J om⟩
 clear E;rename World=>wr;obtain⟨k,V,rfl,E,g⟩:=hrel;by_cases U:k<X.length
 . have hy:=A _ (m7 U);have hz:=A _ (m7 (L:=X) (k:=0) om);have hs:0<X.length:=om;have hi:=T.o k wr U E;have hU:=fun u=>T.o k (Lat wr u) U (E.trans (c9 wr u));have hr:=fun u=>T.o 0 (Lat wr u) hs (E.trans (c9 wr u));have hx:∀W,(Instr.indexAt 40 (.slice aX X.length r) (vi 0)).run Tryz.prog W=.ok (.pointer (some (ab 0))) W:=fun W=>ho 0 W om;obtain⟨p,P⟩:∃p,d5 X k=p+1:=⟨d5 X k-1,om⟩;obtain⟨Z,M⟩:∃Z,d5 X 0=Z+1:=⟨d5 X 0-1,om⟩;have hn:p<s.length:=om;have hm:Z<s.length:=om;have ht:=fun u=>Hc.o p (Lat wr u) hn (E.trans (c9 wr u));have hu:=fun u=>Hc.o Z (Lat wr u) hm (E.trans (c9 wr u));have hH:=fun u=>HS.o (Lat wr u) (E.trans (c9 wr u));rw[P]at hi hU;rw[M]at hr;have hK:IntKind.i64.wrap (((p+1:Nat):Int)-1)=(p:Int):=(by rw[show(((p+1:Nat):Int)-1)=(p:Int) by omega];exact oD _ om);have hG:IntKind.i64.wrap (((Z+1:Nat):Int)-1)=(Z:Int):=(by rw[show(((Z+1:Nat):Int)-1)=(Z:Int) by omega];exact oD _ om);have t:Hid (∀j,j<k+1->nth s p=nth s Z->bw0 s X (k+1)):=zh fun _ _ e j J=>by
    by_cases e2:j=k
    subst e2;rw[P,M];exact e
    exact g.o j om
   have O:Hid (nth s p≠nth s Z->b12 s X=false):=zh fun e=>j36 U (by rw[P,M];exact e);obtain⟨C,hc⟩:=nq (nth s p);obtain⟨S,he⟩:=nq (nth s Z);rw[<-hc]at ht t O;rw[<-he]at hu t O;have hJ:=y p;have hD:=y Z;have z:=E;clear E hc he P M hy hz y;have E:=er wr;by_cases e:C=S
   . have H:Hid (bw0 s X (k+1)):=zh (t.o k om e);have hq:(C != S)=false:=(by rw[e];simp);clear e;go_wp2_with fail;refine wl E ?_;(repeat(go_big_quiet_step(first|(fail "no call"))));refine zd fun W E=>?_;go_wp2_with fail;go_roundw;exact⟨k+1,om,zg,z.trans E,H⟩;exact zm1
   have H:Hid (b12 s X=false):=zh (O.o e);have hq:(C != S)=true:=(by rw[bne_iff_ne];exact e);clear e;go_wp2_with fail;refine wl E ?_;(repeat(go_big_quiet_step(first|(fail "no call"))));refine zd fun W E=>?_;go_wp2_with fail;go_ret;exact⟨j1 H.o.symm,fun _=>z.trans E,fun h=>by rw[H.o]at h;cases h⟩
 have F:k=X.length:=om;have N:Hid (b12 s X=true):=zh (ck9 (by rw[<-F];exact g.o));have cC:=E3 _ _ wr (HI.o wr E);clear F;go_wp2_with(go_at_call 170;refine cC.mono ?_;rintro e G⟨v1,rfl,hh,z⟩;have B:=HB.o.ext (E.trans z);have hc1:=B.cell (i:=0) (v:=.slice aa n0 d) rfl;have hA:=B.free 0;obtain⟨a,K,rfl,-⟩:=hh.shape);have hl:Blk (G.setCell (aD b 0) (.slice a (b9 X).length K)) b 40 #[.slice a (b9 X).length K]:=B.set 0 _;have hF:=((E.trans z).fr b none).trans (Nw.refl _ _) (b39 b none G 0 (.slice a (b9 X).length K));go_wp2_with fail;go_ret;exact⟨j1 N.o.symm,fun h=>(by rw[N.o]at h;cases h),fun _=>⟨hF,_,_,_,hl⟩⟩
theorem c06(A:c8 w u c)(hv:c8 w vs s)(V:eqB c=true)(U:1<=s.length)(ha:s.length<=12):Calls Tryz.prog 253 #[u,vs] w fun e Y=>∃v',e=.returned (.tuple #[v',.bool (O9 c s)])/\Ext w Y:=by
 have L:=fun W (D:Ext w W)=>b41 u c W (A.ext D);rw[V]at L;have y:inB (s.length:Int) 1 12=true:=V2.2 om;have cW:=fun W=>H8 (s.length:Int) 1 12 W;rw[y]at cW;have hj:∀(z:Fn) (first cap:Array Value) (w:World),(Instr.makeFunc z first cap).run Tryz.prog w=.ok (.func z first cap) w:=fun _ _ _ _=>rfl;have K:=zh A;have HV:=zh hv;have q:=zh V;obtain⟨O,f,rfl,-⟩:=hv;obtain⟨P,T⟩:=nq (w.alloc (.cells #[.slice O s.length f] 40));obtain⟨G,j⟩:∃x,x=P.alloc (.cells #[] 3):=⟨_,rfl⟩;obtain⟨l,r⟩:=nq (G.alloc (.cells #[.slice (some (aD (w.heap.size+1) 0)) 0 0] 40));have s0:P.heap.size=w.heap.size+1:=by rw[T];simp
 have Z:G.heap.size=w.heap.size+1+1:=by rw[j];simp[s0]
 have s2:l.heap.size=w.heap.size+1+1+1:=by rw[r];simp[Z]
 have F:Ext w P:=by rw[T];exact(er _).alloc _
 have ec:Ext P G:=by rw[j];exact(er _).alloc _
 have eb:Ext G l:=by rw[r];exact(er _).alloc _
 have B0:Blk P w.heap.size 40 #[.slice O s.length f]:=by rw[T];exact oq _ _ _
 have B2:Blk l (w.heap.size+1+1) 40 #[.slice (some (aD (w.heap.size+1) 0)) 0 0]:=by rw[r,<-Z];exact oq _ _ _
 have ea:=ec.trans eb;have Ha:=zh (show((w.alloc (.cells #[.slice O s.length f] 40)).alloc (.cells #[] 3)).alloc (.cells #[.slice (some (aD (w.heap.size+1) 0)) 0 0] 40)=l by rw[<-T,<-j,<-r]);have kS:=B0.atc 0 rfl;clear T j r A V y;go_in;go_wp2_with fail;rw[Ha.o];refine cm (L _ (F.trans ea)) fun w3 I=>?_;have M:=ea.trans I;have ka:=kS _ M;go_wp2_with(refine(cW _).mono ?_;rintro e Y⟨rfl,rfl⟩);have s3:=I.size
 have C:=lw8 u c s.length q ha (.pointer (some (aD w.heap.size 0))) (.pointer (some (aD (w.heap.size+1+1) 0))) w3 (K.o.ext (F.trans M))
  (fun J k W=>Ext P W/\(∃Q n c,Blk W (w.heap.size+1+1) 40 #[.slice Q n c])/\J<=W.heap.size)
  (fun W=>Ext P W/\∃Q n c,Blk W (w.heap.size+1+1) 40 #[.slice Q n c]) (b12 s)
  (fun J W E U r=>⟨M.trans E,⟨_,_,_,(B2.ext I).ext E⟩,r⟩)
  (fun J k W ⟨U,_,_⟩=>K.o.ext (F.trans U))
  (fun J k W m ⟨U,⟨Q,n,c,r⟩,d⟩ E=>⟨U.trans E,⟨Q,n,c,r.ext E⟩,nle d E.size⟩)
  (fun J k W b i v hb hc ⟨U,⟨Q,n,c,r⟩,d⟩=>⟨U.setCell (by show P.heap.size<=b;omega) _,⟨Q,n,c,r.other (by show w.heap.size+1+1≠b;omega) _⟩,by simpa using d⟩)
  (fun J k W X vx hK ⟨U,⟨Q,n,c,r⟩,d⟩ hI hX hf=>(l06 vx _ X s w.heap.size (w.heap.size+1+1) W Q n c hI (HV.o.ext (F.trans U)) (fun m hh=>kS m (U.trans hh)) r hf ha (by rw[hX];exact(U4 q.o).2.1)).mono fun e m ⟨r1,R,p⟩=>
   ⟨r1,fun h=>⟨U.trans (R h),⟨Q,n,c,r.ext (R h)⟩,nle d (R h).size⟩,fun h=>⟨(p h).1.ext U om (fun g H=>by cases H),(p h).2⟩,fun b TT ca hb hc B=>by
    cases S:b12 s X
    . exact B.ext (R S)
    . exact(p S).1.blk B om zm⟩)
 have Hm:Hid (L6 (b12 s) c s.length c.length []=O9 c s):=zh rfl;rw[Hm.o]at C;obtain⟨RR,hR⟩:=nq (O9 c s);rw[<-hR]at C;refine C.mono ?_;rintro e w4⟨rfl,hF,N⟩;have hn:Ext P w4/\∃Q n c,Blk w4 (w.heap.size+1+1) 40 #[.slice Q n c]:=by
  cases RR;obtain⟨J,U,r,-⟩:=hF rfl;exact⟨U,r⟩;exact N rfl
 obtain⟨U,Q,n,k,r⟩:=hn;have k4:=r.cell (i:=0) (v:=.slice Q n k) rfl;have kU:=fun UU=>da2 k4 _ (c9 w4 UU);have E:=er w4;clear C hF N;go_wp2_with fail;exact br (.tuple #[.slice Q n k,.bool (O9 c s)]) ⟨.slice Q n k,rfl,F.trans U⟩
theorem li4{a n:Nat}(h:a<2^24)(C:a.testBit n=b):b13 ((shr a n:Nat):Int) 1=if b then 1 else 0:=by
 have o:=cl2 a n;rw[Z5 om];have:a.testBit n=decide (shr a n%2=1):=by rw[pR,<-pD];rfl
 rw[C]at this;cases b;have r:=of_decide_eq_false this.symm;have:shr a n%2=0:=om;rw[this];rfl;have r:=of_decide_eq_true this.symm;rw[r];rfl
def flI(n m i:Nat):LI:=(List.range n).map (fun j=>if j<i then((m.testBit j).toNat:Int)else 0)
theorem ba7(i:Nat):(flI n m i).length=n:=by simp[flI]
theorem cn4{n m j:Nat}(h:j<n):nth (flI n m i) j=if j<i then((m.testBit j).toNat:Int)else 0:=by simp[flI,nth,List.getD,h]
theorem l60:flI n m 0=List.replicate n 0:=by
 refine cn3 (by simp[ba7]) fun j h=>?_;rw[ba7]at h;rw[cn4 h,dj5];rfl
theorem lk0:flI n m n=b17 n m:=by
 refine cn3 (by rw[ba7,bw8]) fun j h=>?_;rw[ba7]at h;rw[cn4 h,if_pos h];simp[b17,nth,List.getD,h]
theorem lk1{n m:Nat}(h:i<n):(flI n m i).set i ((m.testBit i).toNat:Int)=flI n m (i+1):=by
 refine cn3 (by simp[ba7]) fun j H=>?_;rw[ql,ba7]at H;rw[cn4 H];have e:nth ((flI n m i).set i ((m.testBit i).toNat:Int)) j=if j=i then((m.testBit i).toNat:Int)else nth (flI n m i) j:=by
  unfold nth;simp only[List.getD_eq_getElem?_getD,List.getElem?_set];by_cases q:j=i;subst q;simp[ba7,h];have J:¬i=j:=fun e=>q e.symm;simp[q,J]
 rw[e];by_cases q:j=i;subst q;simp;rw[if_neg q,cn4 H];by_cases Q:j<i;rw[if_pos Q,if_pos om];rw[if_neg Q,if_neg om]
theorem zz149{P:Prop}(h:P:=by go_in;go_wp2_with fail;refine cm (F _ (er _)) fun G z=>?_;go_wp2_with fail;go_ret;exact⟨o3 r.o.symm,z⟩):P:=h
theorem d95(A:c8 w u c):Calls Tryz.prog 167 #[u,vi 2] w (RE w (vi (b00 c))):=by
 have F:=fun W (D:Ext w W)=>b41 u c W (A.ext D);have HU:=zh A;obtain⟨Q,co,rfl,-⟩:=A;cases U:eqB c;have r:=zh (d63 (c:=c) (Or.inl U));rw[U]at F;exact zz149;rw[U]at F;have hh:=U4 U;by_cases T:c.length<=3;rotate_left;have r:=zh (d63 (c:=c) (Or.inr T));have y:((c.length:Int) == 4)=true:=(by rw[beq_iff_eq];omega);exact zz149;have y:((c.length:Int) == 4)=false:=(by rw[beq_eq_false_iff_ne];omega);have N:inB (2:Int) 1 2=true:=(by decide);have t:=fun W=>H8 (2:Int) 1 2 W;rw[N]at t;have s:=zh U;have P:=zh T;have cM:=fun (n m:Nat) (f:1<=n) (k:n<=9) (l:Value) (W:World) (D:Ext w W) (hv:c8 W l (b17 n m))=>c06 (.slice Q c.length co) l c (b17 n m) W (HU.o.ext D) hv s.o (by rw[bw8];exact f) (by rw[bw8];omega);clear U hh T;go_in;go_wp2_with fail;refine cm (F _ (er _)) fun G z=>?_;go_wp2_with(refine(t _).mono ?_;rintro e w'⟨rfl,rfl⟩);clear F t N y;go_loopw [5] (fun S wr=>∃n:Nat,1<=n/\n<=10/\S=vi n/\Ext w wr/\Hid (∀j,j+1<n->bh2 c (j+1)=false)) (fun S _=>10-(intOf S).toNat);exact⟨1,om,om,rfl,z,zh fun j H=>absurd H om⟩;case round =>
  clear z;rename World=>wr;obtain⟨n,hg,hs,rfl,E,v⟩:=hrel;by_cases k:n<=9
  . have hI:(n:Int)<=9:=om;have hy:pw n<=512:=by
     have:pw n<=2^9:=ot om k;omega
    have ho:=o6 (n:=n) om;go_wp2_with fail;go_loopw [6,7] (fun sa M K=>∃(b:Bool) (m:Nat),m<=pw n/\sa=.bool b/\M=vi m/\Ext w K/\Hid ((b=true->∀j,j<m->O9 c (b17 n j)=true)/\(b=false->∃j,j<pw n/\O9 c (b17 n j)=false))) (fun _ M _=>pw n-(intOf M).toNat);exact⟨true,0,om,rfl,rfl,E,zh ⟨fun _ j H=>absurd H om,fun h=>by cases h⟩⟩;case round =>
     clear E;rename World=>K;obtain⟨b,m,hm,rfl,rfl,E,B⟩:=hrel;cases b
     . obtain⟨j,X,Y⟩:=B.o.2 rfl;have Hf:=zh (jb9 X Y);clear X Y B;go_wp2_with fail;go_roundw;exact⟨n+1,om,om,zg,E,zh fun i J=>by by_cases q:i+1=n;(rw[q];exact Hf.o);exact v.o i om⟩;exact zm1
     . by_cases hp:m<pw n
       . have hn:(m:Int)<((pw n:Nat):Int):=om;have Hb:=zh (B.o.1 rfl);clear B;go_wp2_with(at_make;refine b10 slI rfl _ _ rfl w _ n rfl rfl om E ?_;intro w2 O I);obtain⟨g,R⟩:=nq (K.heap.size);rw[<-R]at O|-;clear R;rw[<-l60 n m]at O;have hk:=ba2 g n n;clear E;go_loopw [9,40] (fun s9 d Z=>∃i:Nat,i<=n/\d=vi i/\Own 3 w Z (.slice (some (aD g 0)) n n) (flI n m i)/\Ext w Z) (fun _ d _=>n-(intOf d).toNat);exact⟨0,om,rfl,O,I⟩;case round =>
          clear O I;rename World=>Z;obtain⟨i,J,rfl,O,E⟩:=hrel;by_cases N:i<n
          . have hx:(i:Int)<(n:Int):=om;obtain⟨hc1,ht⟩:=O.cellAt (ba7 n m i) N;have hr:=R0 (a:=m) (n:=i) om;have hc:b13 ((shr m i:Nat):Int) 1=((m.testBit i).toNat:Int):=by
             rw[li4 (b:=m.testBit i) om rfl];cases m.testBit i<;>rfl
            obtain⟨V,-⟩:=O.stored_grown (ba7 n m i) i ((m.testBit i).toNat:Int);rw[lk1 N]at V;have hf:=(O.blk g rfl).1;have z:=E.setCell (p:=(aD g i)) hf (vi ((m.testBit i).toNat:Int));obtain⟨bt,L⟩:∃x:Int,x=((m.testBit i).toNat:Int):=⟨_,rfl⟩;rw[<-L]at hc V z;have hw:=hk i;clear L;go_wp2_with fail;go_roundw;exact⟨i+1,om,zg,V,z⟩;exact zm1
          . have hl:i=n:=om;subst hl;rw[lk0]at O;go_wp2_with(go_at_call 253;refine(cM i m hg k _ _ E O.ints).mono ?_;rintro e w5⟨v5,rfl,ha⟩);go_roundw;exact⟨O9 c (b17 i m),m+1,om,rfl,zg,E.trans ha,zh ⟨fun C j H=>by by_cases q:j=m;(rw[q];exact C);exact Hb.o j om,fun C=>⟨m,hp,C⟩⟩⟩;exact zm1
       . have hn:¬(m:Int)<((pw n:Nat):Int):=om;have Ha:=zh (l30 (c:=c) (n:=n) fun j H=>B.o.1 rfl j om);have r:Hid (b00 c=(n:Int)):=zh (by
          have:=jy5 s.o P.o (n:=n-1) om (fun j H=>v.o j om) (by rw[show n-1+1=n by omega];exact Ha.o);rw[this];omega)
         go_wp2_with fail;go_ret;exact⟨o3 r.o.symm,E⟩
  . have hI:¬(n:Int)<=9:=om;have r:=zh (j23 s.o P.o fun j H=>v.o j om);go_wp2_with fail;go_ret;exact⟨o3 r.o.symm,E⟩
theorem cz8(A:c8 w u c):Calls Tryz.prog 98 #[u] w fun e R=>∃O,e=.returned (.tuple #[O,.bool (zcB c)])/\Own 3 w R O (b9 (zcL c))/\Ext w R:=by
 have F:=fun W (D:Ext w W)=>bc4 u c W (A.ext D);obtain⟨Q,cc,ar,rfl,hi,d,L⟩:=A.op;have hx:=j2 (c:=cc) elI szI d;have Hl:=zh L;clear d A L;have E:=er w;cases X:eqB c
 . have H:=zh (lh3 X);rw[X]at F;have HW:∀(wr:World),wr=w->True:=fun _ _=>trivial;go_in;go_wp2_with fail;go_loopw [4] (fun s wr=>s=vi 1/\Ext w wr) (fun _ _=>0);exact⟨rfl,E⟩;case round =>
    clear E;rename World=>wr;obtain⟨rfl,E⟩:=hrel;by_cases U:(1:Int)<jm1 1 (c.length:Int)
    . go_wp2_with(refine cm (F _ E) fun l I=>?_);have f:=E.trans I;rw[H.o.1,H.o.2];exact br (.tuple #[.slice (some (aD l.heap.size 0)) 0 0,.bool false]) ⟨_,rfl,l9 (TI:=3) (n:=0) om f [] rfl,oQ f _⟩
    . exact zz63
 have g:=U4 X;have i:c.length<=4:=g.2.1;have hr:pw c.length<=16:=ot (n:=2) om i;have hp:=X9 c.length;have hj:=o6 (n:=c.length) om;have p:=zh X;rw[X]at F;clear X g;go_in;go_wp2_with fail;go_loopw [4] (fun s wr=>∃m:Nat,1<=m/\m<=pw c.length/\s=vi m/\Hid (∀j,1<=j->j<m->¬P9 (S5 c j)=0)/\Ext w wr) (fun s _=>pw c.length-(intOf s).toNat);exact⟨1,om,om,rfl,zh om,E⟩
 clear E;rename World=>wr;obtain⟨m,hf,ho,rfl,x,E⟩:=hrel;by_cases U:m<pw c.length
 . have hI:(m:Int)<(pw c.length:Int):=om;have hg:m<2^24:=om;go_wp2_with(refine cm (F _ E) fun l I=>?_);have G:=E.trans I;clear F;go_loopw [5,6] (fun ss K J=>∃k:Nat,k<=c.length/\K=vi k/\ss=vi (P9 (L8 c m k))/\Ext l J) (fun _ K _=>c.length-(intOf K).toNat);exact⟨0,om,rfl,rfl,er _⟩;case round =>
    rename World=>J;obtain⟨k,V,rfl,rfl,q⟩:=hrel;have C:=lo6 p.o m k om;by_cases hl:k<c.length
    . have ha:=Hl.o k J hl (G.trans q);have Z:=c31 p.o k;have hm:=R0 (a:=m) (n:=k) om;have T:=b16 (a:=m) (n:=k) om om;cases b:m.testBit k
      . have N:Hid (P9 (L8 c m (k+1))=P9 (L8 c m k)):=zh (by rw[cj2 b]);rw[b]at T;obtain⟨S,h⟩:=nq (P9 (L8 c m k));rw[<-h]at C N;rw[<-h];clear h b;go_wp2_with fail;go_roundw;exact⟨k+1,om,zg,by rw[N.o],q⟩;exact zm1
      . have N:Hid (P9 (L8 c m (k+1))=P9 (L8 c m k)+nth c k):=zh (by rw[c97 b,dk7]);rw[b]at T;obtain⟨y,B⟩:=nq (nth c k);obtain⟨S,h⟩:=nq (P9 (L8 c m k));rw[<-B]at ha Z N;rw[<-h]at C N;rw[<-h];have hw:IntKind.i64.wrap (S+y)=S+y:=oD _ om;clear B h b;go_wp2_with fail;go_roundw;exact⟨k+1,om,zg,by rw[N.o],q⟩;exact zm1
    . have hh:k=c.length:=om;subst hh;have f:=G.trans q;have P:L8 c m c.length=S5 c m:=rfl;rw[P]at C;rw[P];clear P;by_cases z:P9 (S5 c m)=0
      . have H:=zh (lh2 p.o U hf x.o z);rw[z];clear z;go_wp2_with(go_at_call 151;refine(L0 m hg _).mono ?_;rintro e w3⟨v3,rfl,hc,M⟩);rw[H.o.1,H.o.2];exact br (.tuple #[v3,.bool true]) ⟨_,rfl,hc.mono f,f.trans M⟩
      . have hq:(P9 (S5 c m) == 0)=false:=(by rw[beq_eq_false_iff_ne];exact z);have H:Hid (¬P9 (S5 c m)=0):=zh z;clear z;exact zz124
 have H:=zh (ji8 p.o fun j Y r=>x.o j Y om);have hI:¬(m:Int)<(pw c.length:Int):=om;exact zz63
theorem zz88{P:Prop}(h:P:=by exact⟨q+1,a6,c6,om,om,zg,by rw[show q+1-1=q by omega],by rw[show q+1-1=q by omega];exact i,f⟩):P:=h
theorem cs8(He:Hid (eqB c=true))(hn:n<=12)(hv:s=[]\/n<=s.length):∀r (X:LN) (m:Nat) (w:World) (vc vs vx:Value),c8 w vc c->c8 w vs s->c8 w vx (b9 X)->X.length+r=c.length->(∀x∈X,1<=x/\x<=n)->1<=m->m<=10000 ->
 Calls Tryz.prog 206 #[vc,vi n,vs,vx,vi m] w fun e w'=>∃v',e=.returned v'/\I2 w w' v' (min (E9 c n s r X) m)/\Ext w w':=by
 have h4:=(U4 He.o).2.1;intro r;induction r with
 | zero =>
  intro X m w vc vs vx C S K hr v hS hT;have hU:∀x∈X,x<=12:=fun x K=>by have:=v x K;omega
  obtain⟨ah,cc,aI,rfl,-,hH,hL⟩:=C.op;obtain⟨ax,cx,aa,rfl,hf,hg⟩:=K.nats;obtain⟨ab,ca,rfl,-⟩:=S;have al:=j2 (c:=cc) elI szI hH;have hi:=j2 (c:=cx) elI szI hf;have Hc:=zh hL;have Hx:=zh hg;have hq:((X.length:Int) == (c.length:Int))=true:=by rw[beq_iff_eq];omega
  clear hH hL hf hg C K;have Hr:=zh hr;have p:=zh v;clear v;go_in;go_wp2_with fail;go_loopw [11,12] (fun ss si wr=>∃k:Nat,k<=c.length/\si=vi k/\ss=vi (b59 c X k)/\Ext w wr) (fun _ si _=>c.length-(intOf si).toNat);exact⟨0,om,rfl,rfl,er _⟩
  case round =>
   rename World=>wr;obtain⟨k,V,rfl,rfl,F⟩:=hrel;by_cases U:k<c.length
   . have hR:(k:Int)<(c.length:Int):=om;have hJ:k<X.length:=om;have ad:=fun u=>Hc.o k (Lat wr u) U (F.trans (c9 wr u));have ar:=fun u=>Hx.o k (Lat wr u) hJ (F.trans (c9 wr u));have ac:=p.o _ (m7 hJ);have hm:=c31 He.o k;have hp:=d48 (a:=nth c k) (y:=d5 X k) hm.1 hm.2 om;have hW:=c76 He.o hU k om;have J:Hid (b59 c X (k+1)=b59 c X k+nth c k*(d5 X k:Int)):=zh rfl;obtain⟨D,hD⟩:=nq (b59 c X k);obtain⟨A,hA⟩:=nq (nth c k);obtain⟨YY,hY⟩:∃D:Int,D=(d5 X k:Int):=⟨_,rfl⟩;obtain⟨PP,hP⟩:∃D:Int,D=A*YY:=⟨_,rfl⟩;rw[<-hD]at hW J|-;rw[<-hA]at ad hp J;rw[<-hY]at ar hp J;rw[<-hP]at hp J;have au:IntKind.i64.wrap (A*YY)=PP:=(by rw[<-hP];exact oD _ om);have aA:IntKind.i64.wrap (D+PP)=D+PP:=oD _ om;have aJ:=al k;have aH:=hi k;clear hD hA hY hP ac hm;have Hg:=zh F;clear F;have E:=er wr;go_wp2_with fail;refine wl E ?_;(repeat(go_big_quiet_step(first|(fail "no call"))));refine zd fun W E=>?_;go_wp2_with fail;go_roundw;exact⟨k+1,om,zg,by rw[J.o],Hg.o.trans E⟩;exact zm1
   . have hQ:k=X.length:=om;subst hQ;have hR:¬((X.length:Nat):Int)<(c.length:Int):=om;by_cases Z:V7 c X=0
     . have hy:b59 c X X.length=0:=Z;have J:Hid (min (E9 c n s 0 X) m=1):=zh (by rw[c71 Z];omega);rw[hy];clear Z hy;go_wp2_with fail;go_ret;exact⟨_,rfl,by rw[J.o];exact la2 F _ _ _,F.alloc _⟩
     . have aC:(b59 c X X.length == 0)=false:=(by rw[beq_eq_false_iff_ne];exact Z);have J:Hid (min (E9 c n s 0 X) m=0):=zh (by rw[cm6 Z];omega);clear Z;go_wp2_with fail;go_ret;exact⟨_,rfl,by rw[J.o];exact bn8 F,F.alloc _⟩
 | succ r ih =>
  intro X m w vc vs vx C S K hr v hS hT;have HC:=zh C;have HS:=zh S;have Hi:=zh K;obtain⟨ah,cc,rfl,-⟩:=C;obtain⟨ax,cx,aa,rfl,hf,hg⟩:=K.nats;obtain⟨ab,ca,aG,rfl,-,hN,hK⟩:=S.op;have hh:=j2 (c:=ca) elI szI hN;have hi:=j2 (c:=cx) elI szI hf;have N:=zh hK;have Hx:=zh hg;have hq:((X.length:Int) == (c.length:Int))=false:=by rw[beq_eq_false_iff_ne];omega
  clear hN hK hf hg S;have Hr:=zh hr;have p:=zh v;have Hh:=zh ih;clear v ih K;have R:I2 w (w.alloc (.cells #[] 40)) (.slice (some (aD w.heap.size 0)) 0 0) 0:=bn8 (er w);have F:=(er w).alloc (.cells #[] 40);go_in;go_wp2_with fail;go_loopw [13,14] (fun so sy wr=>∃(q:Nat) (Q:Option Addr) (co:Nat),1<=q/\q<=n+1/\sy=vi q/\so=.slice Q (min (Q8 c n s r X (q-1)) m) co/\I2 w wr (.slice Q (min (Q8 c n s r X (q-1)) m) co) (min (Q8 c n s r X (q-1)) m)/\Ext w wr) (fun _ sy _=>n+1-(intOf sy).toNat);exact⟨1,some (aD w.heap.size 0),0,om,om,rfl,by rw[show 1-1=0 from rfl,ce9];simp,by rw[show 1-1=0 from rfl,ce9];simpa using R,F⟩
  case round =>
   clear R F;rename World=>wr;obtain⟨q,Q,co,av,aw,rfl,rfl,O,E⟩:=hrel;have HK:=zh (fun d=>bx1 c n s r X (q-1) d);obtain⟨b,ht⟩:=nq (Q8 c n s r X (q-1));rw[<-ht]at O HK|-;have Hb:=zh ht;clear ht;obtain⟨M,hj⟩:=nq (min b m);rw[<-hj]at O|-;have aK:M<=m:=om;have Hd:=zh hj;clear hj;by_cases az:q<=n
   . have hZ:(q:Int)<=(n:Int):=om;by_cases aB:M<m
     . have ag:(M:Int)<(m:Int):=om;have HM:Hid (b=M):=zh (by have:=Hd.o;omega);have aL:IntKind.i64.wrap ((q:Int)-1)=((q-1:Nat):Int):=(by rw[show(q:Int)-1=((q-1:Nat):Int) by omega];exact oD _ om);have HO:=zh O;clear O;cases B:okC s X q
       ·
          have P:Hid (Q8 c n s r X q=b):=zh (by
           have:=jd9 (c:=c) (n:=n) (cs:=s) (r:=r) (X:=X) (k:=q-1) (by rw[show q-1+1=q by omega];exact B);rw[show q-1+1=q by omega]at this;rw[this,Hb.o])
          have ak:s≠[]/\X≠[]/\nth s (q-1)≠nth s (d5 X 0-1):=by
           unfold okC at B;rw[qU,qU,decide_eq_false_iff_not]at B;exact⟨fun e=>by rw[e]at B;simp at B,fun e=>by rw[e]at B;simp at B,B.2⟩
          obtain⟨ho,hC,hu⟩:=ak
          have ay:0<s.length:=qN.2 ho
          have hl:0<X.length:=qN.2 hC
          have aj:n<=s.length:=by rcases hv with h|h;exact absurd h ho;exact h
          have h0:=p.o _ (m7 hl)
          have hI:(0:Int)<(s.length:Int):=om
          have hM:(0:Int)<(X.length:Int):=om
          have af:=fun u=>N.o (q-1) (Lat wr u) om (E.trans (c9 wr u))
          have an:=fun u=>N.o (d5 X 0-1) (Lat wr u) om (E.trans (c9 wr u))
          have ai:=fun u=>Hx.o 0 (Lat wr u) hl (E.trans (c9 wr u))
          have hV:∀W,(Instr.indexAt 40 (.slice ax X.length cx) (vi 0)).run Tryz.prog W=.ok (.pointer (some (aa 0))) W:=fun W=>hi 0 W hl
          have ap:IntKind.i64.wrap ((d5 X 0:Int)-1)=((d5 X 0-1:Nat):Int):=by rw[show(d5 X 0:Int)-1=((d5 X 0-1:Nat):Int) by omega];exact oD _ om
          have am:=fun W=>hh (q-1) W om
          have ae:=fun W=>hh (d5 X 0-1) W om
          have aq:(nth s (q-1) != nth s (d5 X 0-1))=true:=by rw[bne_iff_ne];exact hu
          have H:=zh E
          clear E B hu ho hC
          have E:=er wr
          go_wp2_with fail
          refine wl E ?_;(repeat(go_big_quiet_step(first|(fail "no call"))));refine zd fun W E=>?_
          go_wp2_with fail
          go_roundw
          case rel=>exact⟨q+1,Q,co,om,om,zg,by rw[show q+1-1=q by omega,P.o,<-Hd.o],by rw[show q+1-1=q by omega,P.o,<-Hd.o];exact HO.o.ext E,H.o.trans E⟩
          case measure=>exact zm1
       . have P:Hid (Q8 c n s r X q=b+E9 c n s r (X++[q])):=zh (by
          have:=c72 (c:=c) (n:=n) (cs:=s) (r:=r) (X:=X) (k:=q-1) (by rw[show q-1+1=q by omega];exact B);rw[show q-1+1=q by omega]at this;rw[this,Hb.o])
         have Hk:=zh B
         clear B
         have aE:IntKind.i64.wrap ((m:Int)-(M:Int))=((m-M:Nat):Int):=by rw[show(m:Int)-(M:Int)=((m-M:Nat):Int) by omega];exact oD _ om
         have aF:X.length<=4:=om
         have hG:∀x∈X++[q],1<=x/\x<=n:=fun x K=>by
          rw[oP,oE]at K
          rcases K with K|K
          . exact p.o x K
          . omega
         have Ha:=zh hG
         have Hl:Hid ((X++[q]).length+r=c.length):=zh (by rw[oh,oo];omega)
         have Hf:Hid (M+min (E9 c n s r (X++[q])) (m-M)=min (b+E9 c n s r (X++[q])) m):=zh (by have:=HM.o;omega)
         clear hG
         by_cases hc0:0<s.length
         . have hI:(0:Int)<(s.length:Int):=by omega
           by_cases j:0<X.length
           . have hM:(0:Int)<(X.length:Int):=by omega
             have aj:n<=s.length:=by rcases hv with h|h;(rw[h]at hc0;simp at hc0);exact h
             have h0:=p.o _ (m7 j)
             have hw:nth s (q-1)=nth s (d5 X 0-1):=by
              have:=Hk.o;unfold okC at this;rw[pG,pG,decide_eq_true_iff]at this;rcases this with(h|h)|h
              . rw[List.isEmpty_iff]at h;rw[h]at hc0;simp at hc0
              . rw[List.isEmpty_iff]at h;rw[h]at j;simp at j
              . exact h
             have af:=fun u=>N.o (q-1) (Lat wr u) om (E.trans (c9 wr u))
             have an:=fun u=>N.o (d5 X 0-1) (Lat wr u) om (E.trans (c9 wr u))
             have ai:=fun u=>Hx.o 0 (Lat wr u) j (E.trans (c9 wr u))
             have hV:∀W,(Instr.indexAt 40 (.slice ax X.length cx) (vi 0)).run Tryz.prog W=.ok (.pointer (some (aa 0))) W:=fun W=>hi 0 W j
             have ap:IntKind.i64.wrap ((d5 X 0:Int)-1)=((d5 X 0-1:Nat):Int):=by rw[show(d5 X 0:Int)-1=((d5 X 0-1:Nat):Int) by omega];exact oD _ om
             have am:=fun W=>hh (q-1) W om
             have ae:=fun W=>hh (d5 X 0-1) W om
             have aq:(nth s (q-1) != nth s (d5 X 0-1))=false:=by rw[hw];simp
             have H:=zh E
             clear E hw
             have E:=er wr
             go_wp2_with fail
             refine wl E ?_;(repeat(go_big_quiet_step(first|(fail "no call"))));refine zd fun W E=>?_
             have R:Own 3 wr (W.alloc (.cells #[] 3)) (.slice (some (aD W.heap.size 0)) 0 0) []:=l9 (TI:=3) (n:=0) om E [] rfl
             have g:=E.alloc (.cells #[] 3)
             have ha:=Hi.o.ext (H.o.trans g)
             have hb:([]:LI).length+(b9 X).length<=17592186044416:=by rw[d9];simp;omega
             have he:(b9 X).length<17592186044416:=by rw[d9];omega
             go_wp2_with(first
              |(at_builtin;refine p6 slI rfl _ _ rfl wr _ _ _ _ T z he rfl rfl ?_;intro v2 w2 Y I;rw[<-G6]at Y)
              |(at_builtin;refine F7 slI rfl _ _ rfl wr _ _ _ _ _ R ha g hb rfl rfl ?_;intro v1 G T z;simp only[pq]at T)
              |(go_at_call 206;refine(Hh.o _ (m-M) _ _ _ _ (HC.o.ext (H.o.trans I)) (HS.o.ext (H.o.trans I)) Y.ints Hl.o Ha.o om om).mono ?_;rintro e w5⟨v5,rfl,t,L⟩)
              |(at_builtin;refine c21 rfl _ _ rfl w _ _ _ _ _ _ (HO.o.ext (I.trans L)) t (H.o.trans (I.trans L)) om rfl rfl ?_;intro v6 w6 i f;rw[Hf.o,<-P.o]at i;obtain⟨a6,c6,rfl,-⟩:=i.shape))
             go_roundw
             case rel=>exact zz88
             case measure=>exact zm1
           . have hM:¬(0:Int)<(X.length:Int):=by omega
             have H:=zh E
             clear E
             have E:=er wr
             go_wp2_with fail
             refine wl E ?_;(repeat(go_big_quiet_step(first|(fail "no call"))));refine zd fun W E=>?_
             have R:Own 3 wr (W.alloc (.cells #[] 3)) (.slice (some (aD W.heap.size 0)) 0 0) []:=l9 (TI:=3) (n:=0) om E [] rfl
             have g:=E.alloc (.cells #[] 3)
             have ha:=Hi.o.ext (H.o.trans g)
             have hb:([]:LI).length+(b9 X).length<=17592186044416:=by rw[d9];simp;omega
             have he:(b9 X).length<17592186044416:=by rw[d9];omega
             go_wp2_with(first
              |(at_builtin;refine p6 slI rfl _ _ rfl wr _ _ _ _ T z he rfl rfl ?_;intro v2 w2 Y I;rw[<-G6]at Y)
              |(at_builtin;refine F7 slI rfl _ _ rfl wr _ _ _ _ _ R ha g hb rfl rfl ?_;intro v1 G T z;simp only[pq]at T)
              |(go_at_call 206;refine(Hh.o _ (m-M) _ _ _ _ (HC.o.ext (H.o.trans I)) (HS.o.ext (H.o.trans I)) Y.ints Hl.o Ha.o om om).mono ?_;rintro e w5⟨v5,rfl,t,L⟩)
              |(at_builtin;refine c21 rfl _ _ rfl w _ _ _ _ _ _ (HO.o.ext (I.trans L)) t (H.o.trans (I.trans L)) om rfl rfl ?_;intro v6 w6 i f;rw[Hf.o,<-P.o]at i;obtain⟨a6,c6,rfl,-⟩:=i.shape))
             go_roundw
             case rel=>exact zz88
             case measure=>exact zm1
         . have hI:¬(0:Int)<(s.length:Int):=by omega
           have H:=zh E
           clear E
           have E:=er wr
           ·
              go_wp2_with fail
              refine wl E ?_;(repeat(go_big_quiet_step(first|(fail "no call"))));refine zd fun W E=>?_
              have R:Own 3 wr (W.alloc (.cells #[] 3)) (.slice (some (aD W.heap.size 0)) 0 0) []:=l9 (TI:=3) (n:=0) om E [] rfl
              have g:=E.alloc (.cells #[] 3)
              have ha:=Hi.o.ext (H.o.trans g)
              have hb:([]:LI).length+(b9 X).length<=17592186044416:=by rw[d9];simp;omega
              have he:(b9 X).length<17592186044416:=by rw[d9];omega
              go_wp2_with(first
               |(at_builtin;refine p6 slI rfl _ _ rfl wr _ _ _ _ T z he rfl rfl ?_;intro v2 w2 Y I;rw[<-G6]at Y)
               |(at_builtin;refine F7 slI rfl _ _ rfl wr _ _ _ _ _ R ha g hb rfl rfl ?_;intro v1 G T z;simp only[pq]at T)
               |(go_at_call 206;refine(Hh.o _ (m-M) _ _ _ _ (HC.o.ext (H.o.trans I)) (HS.o.ext (H.o.trans I)) Y.ints Hl.o Ha.o om om).mono ?_;rintro e w5⟨v5,rfl,t,L⟩)
               |(at_builtin;refine c21 rfl _ _ rfl w _ _ _ _ _ _ (HO.o.ext (I.trans L)) t (H.o.trans (I.trans L)) om rfl rfl ?_;intro v6 w6 i f;rw[Hf.o,<-P.o]at i;obtain⟨a6,c6,rfl,-⟩:=i.shape))
              go_roundw
              case rel=>exact zz88
              case measure=>exact zm1
     . have ag:¬(M:Int)<(m:Int):=om;have J:Hid (min (E9 c n s (r+1) X) m=M):=zh (by
        have:=HK.o (n-(q-1));rw[show q-1+(n-(q-1))=n by omega]at this;have:=Hd.o;rw[b90];omega)
       go_wp2_with fail;go_ret;exact⟨_,rfl,by rw[J.o];exact O,E⟩
   . have hZ:¬(q:Int)<=(n:Int):=om;have J:Hid (min (E9 c n s (r+1) X) m=M):=zh (by
      have:=Hb.o;rw[show q-1=n by omega]at this;rw[b90,<-this,Hd.o])
     go_wp2_with fail;go_ret;exact⟨_,rfl,by rw[J.o];exact O,E⟩
theorem cz5(H:c8 w u c)(h:eqB c=true)(s:n<=8):Calls Tryz.prog 95 #[u,vi n] w fun e P=>∃V,e=.returned (.tuple #[V,.bool true])/\I2 w P V (E9 c n [] c.length [])/\Ext w P:=by
 have C:=fun W (D:Ext w W)=>bc4 u c W (H.ext D);rw[h]at C;have N:inB (n:Int) 0 8=true:=V2.2 om;have q:=fun W=>P6 (n:Int) 0 8 W;rw[N]at q;have y:E9 c n [] c.length []<=4096:=by
  have U:=c30 c n [] c.length [];have r:n^c.length<=8^c.length:=Nat.pow_le_pow_left s _;have T:8^c.length<=8^4:=ot om (U4 h).2.1;omega
 have K:=zh H;have x:=zh h;have m:min (E9 c n [] c.length []) 10000=E9 c n [] c.length []:=om;have F:=fun (W:World) (D:Ext w W) (i k:Value) (U:c8 W i []) (r:c8 W k (b9 []))=>cs8 c [] n x om (Or.inl rfl) c.length [] 10000 W u i k (K.o.ext D) U r zm zm om om;simp only[m,show((10000:Nat):Int)=10000 from rfl]at F;clear m H h N;go_in;go_wp2_with fail;refine cm (C _ (er _)) fun G z=>?_;have Q:Own 3 w (G.alloc (.cells #[] 3)) (.slice (some (aD G.heap.size 0)) 0 0) []:=l9 (TI:=3) (n:=0) om z [] rfl;have I:=z.alloc (.cells #[] 3);have X:Own 3 w ((G.alloc (.cells #[] 3)).alloc (.cells #[] 3)) (.slice (some (aD (G.heap.size+1) 0)) 0 0) (b9 []):=by
  have:=l9 (TI:=3) (n:=0) om I [] rfl;simpa[b9]using this
 have E:=I.alloc (.cells #[] 3);have f:=F _ E _ _ (Q.ints.ext ((er _).alloc _)) X.ints;clear F C;go_wp2_with(first|(refine(q _).mono ?_;rintro e P⟨rfl,rfl⟩)|(refine f.mono ?_;rintro e w4⟨p,rfl,O,J⟩)|(go_at_call 206;refine f.mono ?_;rintro e w4⟨p,rfl,O,J⟩));exact br (.tuple #[p,.bool true]) ⟨_,rfl,O.mono E,E.trans J⟩
theorem bw6(S:Value)(c s:LI)(w:World)(A:c8 w u c)(hv:c8 w S s)(X:eqB c=true)(U:1<=s.length)(j:s.length<=12):Calls Tryz.prog 278 #[u,S] w fun e R=>∃Z,e=.returned (.tuple #[Z,.bool (O9 c s)])/\Ext w R:=by
 have H:=fun W (D:Ext w W)=>bc4 u c W (A.ext D);rw[X]at H;have K:=zh A;have L:=zh hv;have q:=zh X;have N:s≠[]:=fun e=>by rw[e]at U;simp at U
 have hf:((s.length:Int) == 0)=false:=by rw[beq_eq_false_iff_ne];omega
 have hg:¬(12:Int)<(s.length:Int):=om;obtain⟨aa,ca,rfl,-⟩:=hv;have F:=fun (W:World) (D:Ext w W) (k:Value) (r:c8 W k (b9 []))=>cs8 c s s.length q j (Or.inr (oc _)) c.length [] 1 W u (.slice aa s.length ca) k (K.o.ext D) (L.o.ext D) r zm zm om om;obtain⟨m,M⟩:=nq (min (E9 c s.length s c.length []) 1);simp only[<-M,show((1:Nat):Int)=1 from rfl]at F;have Y:Hid ((O9 c s=true->m=1)/\(O9 c s=false->m=0)):=zh (by
  have:=l93 (c:=c) N;constructor;intro h;have:=this.2 h;omega;intro h;have h0:¬0<E9 c s.length s c.length []:=fun e=>(by rw[this.1 e]at h;cases h);omega)
 clear M A X N U;cases C:O9 c s
 . have ha:=Y.o.2 C;subst ha;have B:=zh C;have hc:(((0:Nat):Int) == 0)=true:=rfl;clear C;go_in;go_wp2_with fail;refine cm (H _ (er _)) fun G z=>?_;have Q:Own 3 w (G.alloc (.cells #[] 3)) (.slice (some (aD G.heap.size 0)) 0 0) (b9 []):=l9 (TI:=3) (n:=0) om z (b9 []) rfl;have I:=z.alloc (.cells #[] 3);have f:=F _ I _ Q.ints;clear F H;go_wp2_with(first|(refine f.mono ?_;rintro e w4⟨p,rfl,O,E⟩;obtain⟨T,V,rfl,-,l⟩:=O.shape;have y:=I.trans E)|(go_at_call 206;refine f.mono ?_;rintro e w4⟨p,rfl,O,E⟩;obtain⟨T,V,rfl,-,l⟩:=O.shape;have y:=I.trans E));exact br (.tuple #[.slice (some (aD w4.heap.size 0)) 0 0,.bool false]) ⟨_,rfl,y.alloc _⟩
 have d:=Y.o.1 C;subst d;have B:=zh C;have hc:(((1:Nat):Int) == 0)=false:=rfl;clear C;have J:∀(g V:Nat) W,(Instr.indexAt 92 (.slice (some (aD g 0)) 1 V) (vi 0)).run Tryz.prog W=.ok (.pointer (some (aD g 0))) W:=fun g V W=>by
  have:=j2 (P:=Tryz.prog) (ao:=some (aD g 0)) (n:=1) (c:=V) (adr:=fun i=>(aD g i)) elV szV (fun i _=>⟨rfl,by simp[Addr.add]⟩) 0 W om
  exact this
 go_in;go_wp2_with fail;refine cm (H _ (er _)) fun G z=>?_;have Q:Own 3 w (G.alloc (.cells #[] 3)) (.slice (some (aD G.heap.size 0)) 0 0) (b9 []):=l9 (TI:=3) (n:=0) om z (b9 []) rfl;have I:=z.alloc (.cells #[] 3);have f:=F _ I _ Q.ints;clear F H;go_wp2_with(first|(refine f.mono ?_;rintro e w4⟨p,rfl,O,E⟩;obtain⟨T,V,rfl,-,l⟩:=O.shape;have y:=I.trans E;obtain⟨g,x,rfl,hx⟩:=l 0 om;have b:=J g V)|(go_at_call 206;refine f.mono ?_;rintro e w4⟨p,rfl,O,E⟩;obtain⟨T,V,rfl,-,l⟩:=O.shape;have y:=I.trans E;obtain⟨g,x,rfl,hx⟩:=l 0 om;have b:=J g V));exact br (.tuple #[x,.bool true]) ⟨_,rfl,y⟩
end Go.Zz
