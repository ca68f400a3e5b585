/- Solutions of an equation: the program's closure try. -/
import Derived.Test.YtjhoafjeopcheaaGreatGr17
import Derived.Deep.AppendLies
set_option linter.all false
set_option maxHeartbeats 4000000
set_option maxRecDepth 20000
namespace Go.Zz
open Go.RowKit Go.Proofs
variable(u:Value)(c:LI)(n:Nat)(v:Value)(l:LI)(a:Int){X:LN}{g G k i b m I B:Nat}{W P w:World}
def R7(b m:Nat)(X:LN)(w:World):Prop:=∃Z:LI,Z.length=m/\Z.take X.length=b9 X/\Blk w b 3 (Z.map (Value.int .i64)).toArray
theorem R7.ext{e:World}(h:R7 b m X w)(E:Ext w e):R7 b m X e:=by
 obtain⟨Z,o,r,T⟩:=h;exact⟨Z,o,r,T.ext E⟩
theorem R7.free(h:R7 b m X w)(i:Nat):w.frozen? (aD b i)=false:=by
 obtain⟨Z,o,r,T⟩:=h;exact T.free i
theorem R7.has(h:R7 b m X w)(J:i<m):∃v,w.cell? (aD b i)=some v:=by
 obtain⟨Z,o,r,T⟩:=h;exact⟨vi (nth Z i),T.cell (i:=i) (by simp[nth,List.getD,show i<Z.length by omega])⟩
theorem R7.set(h:R7 b m X w)(H:X.length<m)(y:Nat):R7 b m (X++[y]) (w.setCell (aD b X.length) (vi (y:Int))):=by
 obtain⟨Z,o,r,T⟩:=h;refine⟨Z.set X.length (y:Int),by simpa using o,?_,?_⟩;rw[oh,oo,G6,<-r,pa zso];simp[List.take_set_of_le];have:=T.set X.length (vi (y:Int));simpa[List.map_set]using this
theorem R7.back{y:Nat}(h:R7 b m (X++[y]) w):R7 b m X w:=by
 obtain⟨Z,o,r,T⟩:=h;refine⟨Z,o,?_,T⟩;have:=congrArg (List.take X.length) r;rw[qR,G6]at this;simp at this;rw[this];have e:(b9 X).length=X.length:=d9 X;rw[<-e];simp
theorem R7.ints(h:R7 b m X w)(H:X.length=m)(M:m<=1000):c8 w (.slice (some (aD b 0)) m m) (b9 X):=by
 obtain⟨z,o,r,T⟩:=h;have Z:z=b9 X:=by rw[<-r,pE om]
 subst Z;refine⟨_,m,by rw[o],om,om,fun i J=>⟨_,rfl,?_⟩⟩;rw[pe,oM];exact T.cell (i:=i) (by simp[nth,List.getD,J])
theorem zz27{P:Prop}(h:P:=by rw[Q]at C;have Hc:=zh Q;clear Q;go_wp2_with fail;rw[<-Ha.o];go_still_tail 11,(by kernel_rfl);change wpList _ _ _ _ _ (World.drew _);go_wp2_with(go_at_call 301;refine(C _ ((er G).drew)).mono ?_;rintro e w2⟨rfl,ha,F,g⟩;replace F:=F (by trivial);clear g);have hJ:=F;go_roundw;exact⟨q+1,om,om,zg,ha.back,by rw[show q+1-1=q by omega,Hy.o,<-qb,<-Hd.o];exact hJ,zh fun j hj=>by by_cases e:j+1=q;(rw[e];exact Hc.o);exact HN.o j om⟩;exact zm1):P:=h
theorem zz30{P:Prop}(h:P:=by rw[Q]at C;have HA:Hid (L6 s c n (R+1) X=true):=zh (cv2 (k:=q-1) om (by rw[show q-1+1=q by omega];exact Q));clear Q;go_wp2_with fail;rw[<-Ha.o];go_still_tail 11,(by kernel_rfl);change wpList _ _ _ _ _ (World.drew _);go_wp2_with(go_at_call 301;refine(C _ ((er G).drew)).mono ?_;rintro e w2⟨rfl,ha,F,g⟩;replace g:=g (by trivial);clear F);go_ret;exact⟨j1 HA.o.symm,ha.back,(fun e=>by rw[HA.o]at e;cases e),fun _=>g⟩):P:=h
theorem zz59{P:Prop}(h:P:=by have hD:q=n+1:=om;have A:Hid (L6 s c n (R+1) X=false):=zh (df1 fun j hj=>HN.o j om);have hC:Hid (E9 c n [] (R+1) X=Q8 c n [] R X (q-1)):=zh (by rw[b90,hD];rfl);have hG:¬(q:Int)<=(n:Int):=om;go_wp2_with fail;go_ret;exact⟨j1 A.o.symm,H,fun _=>by rw[hC.o];exact t,fun e=>by rw[A.o]at e;cases e⟩):P:=h
theorem zz140{P:Prop}(h:P:=by have h1:=HK.o;rw[b90]at h1;have r:=bx1 c n [] R X q (n-q);rw[show q+(n-q)=n by omega]at r;have T:=Hy.o;omega):P:=h
theorem lo2(V:Hid (eqB c=true))(hn:n<=12)(L bK bX bN m b:Nat)(aC:Option Addr)(I:Nat)(p1 p2:Value)(B:Nat)
 (S:Nat->World->Prop) (Fin:World->Prop) (s:LN->Bool)
 (l:∀k w,S k w->w.cell? (aD L 0)=some (.slice aC c.length I)/\w.cell? (aD bK 0)=some (.func (.func 251) #[] #[p1])/\w.cell? (aD bX 0)=some (.slice (some (aD b 0)) c.length c.length)/\w.cell? (aD bN 0)=some (vi n)/\w.cell? (aD m 0)=some (.func (.func 301) #[] #[.pointer (some (aD L 0)),.pointer (some (aD bK 0)),.pointer (some (aD bX 0)),.pointer (some (aD bN 0)),.pointer (some (aD m 0))])/\c8 w (.slice aC c.length I) c)
 (hB:∀k w i v,S k w->S k (w.setCell (aD b i) v)) (hK:∀k w W,S k w->Ext w W->S k W)
 (E:∀k w X,k<B->S k w->R7 b c.length X w->X.length=c.length->(∀x∈X,1<=x/\x<=n)->Calls Tryz.prog 251 #[.slice (some (aD b 0)) c.length c.length,p1] w fun e P=>e=.returned (.bool (s X))/\R7 b c.length X P/\(s X=false->S (k+1) P)/\(s X=true->Fin P)) :
 ∀R X k w,X.length+R=c.length->(∀x∈X,1<=x/\x<=n)->k+E9 c n [] R X<=B->S k w->R7 b c.length X w ->
 Calls Tryz.prog 301 #[vi X.length,vi (V7 c X),.pointer (some (aD L 0)),.pointer (some (aD bK 0)),.pointer (some (aD bX 0)),.pointer (some (aD bN 0)),.pointer (some (aD m 0))] w fun e P =>
  e=.returned (.bool (L6 s c n R X))/\R7 b c.length X P/\(L6 s c n R X=false->S (k+E9 c n [] R X) P)/\(L6 s c n R X=true->Fin P):=by
 have h4:=(U4 V.o).2.1;intro R;induction R with
 |zero =>
  intro X k w hr u z t H;obtain⟨Z,f,p,k4,k5,-⟩:=l k w t;have hq:(((X.length:Nat):Int) == ((c.length:Nat):Int))=true:=by rw[beq_iff_eq];omega
  by_cases hd:V7 c X=0
  . have A:Hid (L6 s c n 0 X=s X):=zh (by rw[be9,decide_eq_true hd,qe]);have N:Hid (E9 c n [] 0 X=1):=zh (c71 hd);have cT:=E k w X (by rw[N.o]at z;omega) t H om u;rw[hd];clear hd E;go_in;go_wp2_with(go_at_call 251;refine cT.mono ?_;rintro e G⟨rfl,hw,hy,hv⟩);go_ret;exact⟨j1 A.o.symm,hw,by rw[A.o,N.o];exact hy,by rw[A.o];exact hv⟩
  . have A:Hid (L6 s c n 0 X=false):=zh (by rw[be9,decide_eq_false hd,qS]);have N:Hid (E9 c n [] 0 X=0):=zh (cm6 hd);have hV:(V7 c X == 0)=false:=(by rw[beq_eq_false_iff_ne];exact hd);clear hd E;go_in;go_wp2_with fail;go_ret;exact⟨j1 A.o.symm,H,fun _=>by rw[N.o];exact t,fun e=>by rw[A.o]at e;cases e⟩
 | succ R ih =>
  intro X k w hr u z t H;have HK:=zh z;clear z;have Hh:=zh ih;clear ih E;have U:X.length<c.length:=om;obtain⟨Z,f,p,k4,k5,-⟩:=l k w t;have hq:(((X.length:Nat):Int) == ((c.length:Nat):Int))=false:=by rw[beq_eq_false_iff_ne];omega
  have hu:∀x∈X,x<=12:=fun x K=>by have:=u x K;omega
  have hE:=c76 V.o hu X.length (oc _);have hH : -432<=V7 c X/\V7 c X<=432:=by unfold V7;omega
  have O:=zh (fun y=>dg4 c X y);obtain⟨d,hb⟩:=nq (V7 c X);rw[<-hb]at hH O;rw[<-hb];have hY:=c31 V.o X.length;obtain⟨Y,hh⟩:=nq (nth c X.length);rw[<-hh]at hY O;have Hb:=zh hh;clear hb hh hE;have hR:∀W,(Instr.indexAt 40 (.slice (some (aD b 0)) c.length c.length) (vi ((X.length:Nat):Int))).run Tryz.prog W=.ok (.pointer (some (aD b X.length))) W:=fun W=>by
   rw[run_indexAt_slice (h:=elI),if_pos om,szI]
   simp[Result.andThen,pe]
  have HS:=zh l;have HR:=zh H;have HT:=zh t;clear l H t;go_in;go_wp2_with fail;clear Z f p k4 k5;go_loopw [10] (fun sq wr=>∃q:Nat,1<=q/\q<=n+1/\sq=vi q/\R7 b c.length X wr/\S (k+Q8 c n [] R X (q-1)) wr/\Hid (∀j,j+1<q->L6 s c n R (X++[j+1])=false)) (fun sq _=>n+1-(intOf sq).toNat);exact⟨1,om,om,rfl,HR.o,HT.o,zh om⟩
  case round =>
   clear HR HT;rename World=>wr;obtain⟨q,hs,hL,rfl,H,t,HN⟩:=hrel;obtain⟨Z,f,p,k4,k5,hI⟩:=HS.o _ _ t;by_cases ht:q<=n
   . have hG:(q:Int)<=(n:Int):=om;obtain⟨vz,kz⟩:=H.has U;have hO:=H.free X.length;have ho:=H.set U q;have hg:=hB _ _ X.length (vi (q:Int)) t;obtain⟨m1,m2,m3,m4,m5,he⟩:=HS.o _ _ hg;obtain⟨G,J⟩:∃G,G=wr.setCell (aD b X.length) (vi (q:Int)):=⟨_,rfl⟩;rw[<-J]at ho hg m1 m2 m3 m4 m5 he;obtain⟨aI,cI,ar,hp,-,hk,hl⟩:=he.op;simp only[Value.slice.injEq]at hp;obtain⟨rfl,-,rfl⟩:=hp;have hU:=j2 (c:=I) elI szI hk X.length;have hi:=fun W (D:Ext G W)=>hl X.length W U D;rw[<-Hb.o]at hi;have hz:=d48 (a:=Y) (y:=q) om om om;have M:Y*(q:Int)=(q:Int)*Y:=qs _ _;rw[M]at hz;have hP:IntKind.i64.wrap ((q:Int)*Y)=(q:Int)*Y:=oD _ om;have hT:IntKind.i64.wrap (d+(q:Int)*Y)=d+(q:Int)*Y:=oD _ om;have hm:V7 c (X++[q])=d+(q:Int)*Y:=(by rw[O.o,M]);have hQ:IntKind.i64.wrap (((X.length:Nat):Int)+1)=((X.length:Nat):Int)+1:=oD _ om;have Hy:Hid (Q8 c n [] R X q=Q8 c n [] R X (q-1)+E9 c n [] R (X++[q])):=zh (by
      have:=c72 (c:=c) (n:=n) (cs:=[]) (r:=R) (X:=X) (k:=q-1) rfl;rw[show q-1+1=q by omega]at this;exact this)
     have Hq:k+Q8 c n [] R X (q-1)+E9 c n [] R (X++[q])<=B:=by
      exact zz140
     have C:=fun W (D:Ext G W)=>Hh.o (X++[q]) _ W (by rw[oh,oo];omega) (fun x K=>by
      rw[oP,oE]at K
      rcases K with K|rfl
      . exact u x K
      . exact⟨hs,ht⟩) Hq (hK _ _ _ hg D) (ho.ext D)
     rw[hm]at C;rw[show(((X++[q]).length:Nat):Int)=((X.length:Nat):Int)+1 by rw[oh,oo];omega]at C;obtain⟨SS,hf⟩:=nq (k+Q8 c n [] R X (q-1));rw[<-hf]at C;have Hd:=zh hf;clear hf hm M hk hl hI he H t;have Ha:=zh J;have hM:=hi G (er _);clear J hi;cases Q:L6 s c n R (X++[q])
     . exact zz27
     . exact zz30
   . exact zz59
theorem I2.set_ne{v:Value}{n:Nat}(h:I2 P w v n)(p:v.ownBlock≠some b)(u:Value):I2 P (w.setCell (aD b i) u) v n:=by
 obtain⟨L,o,r,T,a⟩:=h;refine⟨L,o,r,⟨T.1,?_⟩,a⟩;rcases T.2 with h|⟨g,cap,C,rfl,H,c,rest⟩;exact Or.inl h;refine Or.inr ⟨g,cap,C,rfl,H,?_,rest⟩;simp[Value.ownBlock]at p;rw[pQ _ _ _ _ (fun e=>p e)];exact c
theorem I2.not{T:TypeId}{v:Value}{n:Nat}(h:I2 P w v n){c:Array Value}(B:Blk w g T c)(t:T≠40):v.ownBlock≠some g:=fun e=>by
 obtain⟨L,-,-,o,-⟩:=h
 rcases o.2 with⟨rfl,_⟩|⟨G,cap,u,rfl,_,H,_⟩
 . cases e
 . simp[Value.ownBlock]at e
   subst e
   have b:w.heap[G]?=some (.cells c T (0,0)):=B
   rw[b]at H
   simp at H
   exact t H.2
theorem cm1{G:World}{o:Option Nat}(e:Ext w G)(H:G.grownBy W o):w.grownBy W o:=by
 exact⟨H.os.trans e.os,H.tape.trans e.tape,H.output.trans e.output,nle e.size H.size,fun i J h=>by rw[H.block i (nlt J e.size) h];exact e.block i J⟩
theorem l05(U:Value)(x:LI)(b:Nat)(B w:World)(G:Value)(n:Nat)(I:c8 w U x)(h:Blk w b 92 #[G])(O:I2 B w G n)(E:Ext B w)(N:n<1000000):Calls Tryz.prog 251 #[U,.pointer (some (aD b 0))] w fun e P=>e=.returned (.bool false)/\∃R,Blk P b 92 #[R]/\I2 B P R (n+1)/\Fr b G.ownBlock w P/\Nw G.ownBlock w R.ownBlock:=by
 have Y:=O.not h (by decide);obtain⟨Q,C,rfl,-⟩:=O.shape;have f:∀k,(Value.slice Q n C).ownBlock=some k->k≠b:=fun k V e=>Y (by rw[V,e]);have kb:=h.atc 0 rfl;have z:=fun W (D:Ext w W)=>E3 U x W (I.ext D);have Z:=zh h;have J:=zh O;have F:=er w;have hD:=(er w).drew;clear h O I;go_in;go_wp2_with fail;first|(go_region_law (first|((refine dn6 rfl _ _ rfl B ?_ n ?_ ?_ ?_ ?_ ?_ ?_ ?_ ?_ ?_ N ?_);(rotate_left 5);rfl;rfl;(focus(repeat(first|(with_reducible assumption)|(with_reducible exact oq _ _ _)|((with_reducible refine Blk.new' ?_);simp[go_sem];done)|(with_reducible apply qp)|(with_reducible apply qD))));(focus(refine I2.ext J.o ?_;repeat(first|assumption|exact er _|(apply pA;assumption)|apply pB|apply oQ)));(focus(refine og E ?_;repeat(first|assumption|exact er _|(apply pA;assumption)|apply pB|apply oQ)));(intro v2 l X g q;have d:=oQ p (.cells #[.slice y x.length K] 40);have M:=cm1 d g;have H:=Z.o.grown M f;have hc2:=H.cell (i:=0) (v:=.slice Q n C) rfl;have ha:=H.free 0;obtain⟨A,c,rfl,-⟩:=X.shape))|(go_simp;go_at_call 170;((with_reducible refine od (z _ xq) ?_);rintro e T⟨vC,rfl,j,u⟩;have p:=og (a:=w) xq u;obtain⟨y,K,rfl,-⟩:=j.shape;have t:=oQ p (.cells #[.slice y x.length K] 40);have hc:=t.drew;have hb:=p.drew))))|(fail "the region")
 all_goals
  have s:Nw (Value.slice Q n C).ownBlock (T.alloc (.cells #[.slice y x.length K] 40)) (Value.slice A (n+1) c).ownBlock:=q
  have r:(T.alloc (.cells #[.slice y x.length K] 40)).grownBy l (Value.slice Q n C).ownBlock:=g
  have L:Blk (l.setCell (aD b 0) (.slice A (n+1) c)) b 92 #[.slice A (n+1) c]:=H.set 0 _
  have m:=X.set_ne (i:=0) (X.not H (by decide)) (.slice A (n+1) c)
  have S:=((d.fr b (Value.slice Q n C).ownBlock).trans (Nw.refl _ _) (bu8 r)).trans (Nw.refl _ _) (b39 b _ l 0 (.slice A (n+1) c))
  go_wp2_with fail
  go_ret
  exact⟨rfl,_,L,m,S,(Nw.refl _ _).trans d.size s⟩
theorem jh4{n:Nat}{l:LI}(h:Own 3 P w (.slice (some (aD g 0)) n n) l)(N:l.length=n)(S:0<n):Blk w g 3 (l.map (Value.int .i64)).toArray:=by
 obtain⟨⟨o,r⟩,-⟩:=h;rcases r with⟨v,-⟩|⟨G,cap,c,v,H,a,C,m,s,t⟩;simp at v;simp only[Value.slice.injEq,Option.some.injEq,Addr.mk.injEq,and_true]at v;obtain⟨rfl,-,rfl⟩:=v;have e:c=(l.map (Value.int .i64)).toArray:=by
  apply Array.toList_inj.1;rw[<-t,pE (by simp[s];omega)]
 rw[<-e];exact a
theorem cz2(h:Blk w g 3 ((List.replicate m (0:Int)).map (Value.int .i64)).toArray):R7 g m [] w:=⟨List.replicate m 0,zm,by simp[b9],h⟩
theorem zz97{P:Prop}(h:P:=by rw[oM]at m;refine od m ?_;rintro e w7⟨rfl,-,hF,M⟩;have HF:=zh hF;have HG:=zh M;clear hF M m;go_wp2_with fail;go_ret;exact⟨rfl,fun h=>⟨_,(HF.o h).1⟩,HG.o⟩):P:=h
theorem lw7(A:Hid (eqB c=true))(hn:n<=12)(p p2:Value)(w:World)(hu:c8 w u c)
 (I:Nat->Nat->World->Prop) (Fin:World->Prop) (s:LN->Bool)
 (ha:∀J W,Ext w W->w.heap.size<=J->J<=W.heap.size->I J 0 W) (hf:∀J k W,I J k W->c8 W u c) (hx:∀J k W j,I J k W->Ext W j->I J k j)
 (hb:∀J k W b i v,w.heap.size<=b->b<J->I J k W->I J k (W.setCell (aD b i) v))
 (he:∀J k W X vx,k<E9 c n [] c.length []->I J k W->c8 W vx (b9 X)->X.length=c.length->(∀x∈X,1<=x/\x<=n)->Calls Tryz.prog 251 #[vx,p] W fun e j=>e=.returned (.bool (s X))/\(s X=false->I J (k+1) j)/\(s X=true->Fin j)/\(∀b K y,w.heap.size<=b->b<J->Blk W b K y->Blk j b K y)) :
 Calls Tryz.prog 250 #[u,vi n,.func (.func 251) #[] #[p]] w fun e j=>e=.returned (.bool (L6 s c n c.length []))/\(L6 s c n c.length []=false->∃J,I J (E9 c n [] c.length []) j)/\(L6 s c n c.length []=true->Fin j):=by
 have h4:=U4 A.o;have hh:∀(F:Fn) (first cap:Array Value) (w:World),(Instr.makeFunc F first cap).run Tryz.prog w=.ok (.func F first cap) w:=fun _ _ _ _=>rfl;obtain⟨a,C,rfl,-⟩:=hu;obtain⟨G,H⟩:=nq (w.alloc (.cells #[.slice a c.length C] 40));obtain⟨l,r⟩:=nq (G.alloc (.cells #[vi n] 3));obtain⟨w3,T⟩:=nq (l.alloc (.cells #[.func (.func 251) #[] #[p]] 91));have N:G.heap.size=w.heap.size+1:=by rw[H];simp
 have P:l.heap.size=w.heap.size+1+1:=by rw[r];simp[N]
 have s3:w3.heap.size=w.heap.size+1+1+1:=by rw[T];simp[P]
 have ef:Ext w G:=by rw[H];exact(er _).alloc _
 have ea:Ext G l:=by rw[r];exact(er _).alloc _
 have Q:Ext l w3:=by rw[T];exact(er _).alloc _
 have B1:Blk G w.heap.size 40 #[.slice a c.length C]:=by rw[H];exact oq _ _ _
 have B2:Blk l (w.heap.size+1) 3 #[vi n]:=by rw[r,<-N];exact oq _ _ _
 have B3:Blk w3 (w.heap.size+1+1) 91 #[.func (.func 251) #[] #[p]]:=by rw[T,<-P];exact oq _ _ _
 have Hc:=zh hf;have Hx:=zh hx;have Hs:=zh hb;have Hk:=zh he;have Hb:=zh ha;have Ha:=zh (show((w.alloc (.cells #[.slice a c.length C] 40)).alloc (.cells #[vi n] 3)).alloc (.cells #[.func (.func 251) #[] #[p]] 91)=w3 by rw[<-H,<-r,<-T]);clear hf hx hb he ha H r T;go_in;go_wp2_with(at_make;refine b10 slI rfl _ _ rfl _ _ c.length rfl rfl om (er _) ?_;intro w4 q L;rw[Ha.o]at q L;have ec:=L;rw[Ha.o]);obtain⟨t,d⟩:=nq (w4.alloc (.cells #[.slice (some (aD (w.heap.size+1+1+1) 0)) c.length c.length] 40));obtain⟨w6,f⟩:=nq (t.alloc (.cells #[.func (.func 301) #[] #[.pointer (some (aD w.heap.size 0)),.pointer (some (aD (w.heap.size+1+1) 0)),.pointer (some (aD w4.heap.size 0)),.pointer (some (aD (w.heap.size+1) 0)),.pointer (some (aD (w4.heap.size+1) 0))]] 123));rw[<-d,<-f];rw[s3]at q;have s5:t.heap.size=w4.heap.size+1:=by rw[d];simp
 have s6:w6.heap.size=w4.heap.size+1+1:=by rw[f];simp[s5]
 have ee:Ext w4 t:=by rw[d];exact(er _).alloc _
 have eb:Ext t w6:=by rw[f];exact(er _).alloc _
 have B4:=jh4 q zm om;have B5:Blk t w4.heap.size 40 #[.slice (some (aD (w.heap.size+1+1+1) 0)) c.length c.length]:=by rw[d];exact oq _ _ _
 have B6:Blk w6 (w4.heap.size+1) 123 #[.func (.func 301) #[] #[.pointer (some (aD w.heap.size 0)),.pointer (some (aD (w.heap.size+1+1) 0)),.pointer (some (aD w4.heap.size 0)),.pointer (some (aD (w.heap.size+1) 0)),.pointer (some (aD (w4.heap.size+1) 0))]]:=by rw[f,<-s5];exact oq _ _ _
 have hj:=B4.lt;have ed:=ee.trans eb;have g:=ec.trans ed;have eg:=(ef.trans (ea.trans Q)).trans g;have s4:=ec.size;clear d f
 have m:=lo2 c n A hn w.heap.size (w.heap.size+1+1) w4.heap.size (w.heap.size+1) (w4.heap.size+1) (w.heap.size+1+1+1) a C p p2 (E9 c n [] c.length [])
  (fun k W=>I (w4.heap.size+2) k W/\Blk W w.heap.size 40 #[.slice a c.length C]/\Blk W (w.heap.size+1) 3 #[vi n]/\Blk W (w.heap.size+1+1) 91 #[.func (.func 251) #[] #[p]]/\Blk W w4.heap.size 40 #[.slice (some (aD (w.heap.size+1+1+1) 0)) c.length c.length]/\Blk W (w4.heap.size+1) 123 #[.func (.func 301) #[] #[.pointer (some (aD w.heap.size 0)),.pointer (some (aD (w.heap.size+1+1) 0)),.pointer (some (aD w4.heap.size 0)),.pointer (some (aD (w.heap.size+1) 0)),.pointer (some (aD (w4.heap.size+1) 0))]])
  Fin s
  (fun k W ⟨U,O,B,V,Z,Y⟩=>⟨O.cell (i:=0) rfl,V.cell (i:=0) rfl,Z.cell (i:=0) rfl,B.cell (i:=0) rfl,Y.cell (i:=0) rfl,Hc.o _ _ _ U⟩)
  (fun k W i v ⟨U,O,B,V,Z,Y⟩=>⟨Hs.o _ _ _ _ _ _ om om U,O.other zso _,B.other zm _,V.other zm _,Z.other zso _,Y.other zso _⟩)
  (fun k W j ⟨U,O,B,V,Z,Y⟩ E=>⟨Hx.o _ _ _ _ U E,O.ext E,B.ext E,V.ext E,Z.ext E,Y.ext E⟩)
  (fun k W X hK ⟨U,O,B,V,Z,Y⟩ D z hg=>(Hk.o _ _ _ X _ hK U (D.ints z om) z hg).mono fun e j ⟨r1,r2,r3,R⟩=>⟨r1,by obtain⟨ZZ,z1,z2,z3⟩:=D;exact⟨ZZ,z1,z2,R _ _ _ om om z3⟩,fun S=>⟨r2 S,R _ _ _ om om O,R _ _ _ om om B,R _ _ _ om om V,R _ _ _ om om Z,R _ _ _ om om Y⟩,r3⟩)
  c.length [] 0 w6 zm zm om
  ⟨Hb.o _ _ eg om om,B1.ext ((ea.trans Q).trans g),B2.ext (Q.trans g),B3.ext g,B5.ext eb,B6⟩ ((cz2 B4).ext ed)
 exact zz97
theorem d18(w:World)(A:c8 w u c)(Y:eqB c=true)(z:n<=8):Calls Tryz.prog 164 #[u,vi n] w fun e P=>∃O,e=.returned (.tuple #[O,.bool true])/\I2 w P O (E9 c n [] c.length [])/\Ext w P:=by
 have C:=fun W (D:Ext w W)=>b41 u c W (A.ext D);rw[Y]at C;have N:inB (n:Int) 0 8=true:=V2.2 om;have q:=fun W=>H8 (n:Int) 0 8 W;rw[N]at q;have hN:E9 c n [] c.length []<=4096:=by
  have U:=c30 c n [] c.length [];have r:n^c.length<=8^c.length:=Nat.pow_le_pow_left z _;have T:8^c.length<=8^4:=ot om (U4 Y).2.1;omega
 have hf:∀(p:Fn) (first cap:Array Value) (w:World),(Instr.makeFunc p first cap).run Tryz.prog w=.ok (.func p first cap) w:=fun _ _ _ _=>rfl;have I:=zh A;have He:=zh Y;obtain⟨G,U⟩:=nq (w.alloc (.cells #[] 40));obtain⟨l,r⟩:=nq (G.alloc (.cells #[.slice (some (aD w.heap.size 0)) 0 0] 92));have s:G.heap.size=w.heap.size+1:=by rw[U];simp
 have s2:l.heap.size=w.heap.size+1+1:=by rw[r];simp[s]
 have ea:Ext w G:=by rw[U];exact(er _).alloc _
 have L:Ext G l:=by rw[r];exact(er _).alloc _
 have y:I2 w G (.slice (some (aD w.heap.size 0)) 0 0) 0:=by rw[U];exact bn8 (er w)
 have B2:Blk l (w.heap.size+1) 92 #[.slice (some (aD w.heap.size 0)) 0 0]:=by rw[r,<-s];exact oq _ _ _
 have x:=y.ext L;have K:=ea.trans L;have Ha:=zh (show(w.alloc (.cells #[] 40)).alloc (.cells #[.slice (some (aD w.heap.size 0)) 0 0] 92)=l by rw[<-U,<-r]);have hh:=er l;clear U r y A Y N;go_in;go_wp2_with fail;rw[Ha.o];refine cm (C _ K) fun w3 F=>?_;go_wp2_with(refine(q _).mono ?_;rintro e P⟨rfl,rfl⟩);have s3:=F.size;have M:=K.trans F
 have S:=lw7 u c n He om (.pointer (some (aD (w.heap.size+1) 0))) (.pointer none) w3 (I.o.ext M)
  (fun J k W=>Ext w W/\(∃V,Blk W (w.heap.size+1) 92 #[V]/\I2 w W V k/\(∀g,V.ownBlock=some g->g<w3.heap.size\/J<=g))/\J<=W.heap.size)
  (fun _=>True) (fun _=>false)
  (fun J W E U r=>⟨M.trans E,⟨_,(B2.ext F).ext E,(x.ext F).ext E,fun g H=>Or.inl (by have:=(x.blk g H).2;omega)⟩,r⟩)
  (fun J k W ⟨U,_,_⟩=>I.o.ext U)
  (fun J k W W' ⟨U,⟨V,r,T,d⟩,f⟩ E=>⟨U.trans E,⟨V,r.ext E,T.ext E,d⟩,nle f E.size⟩)
  (fun J k W b i v ha hb ⟨U,⟨V,r,T,d⟩,f⟩=>⟨U.setCell (by show w.heap.size<=b;omega) _,⟨V,r.other (by show w.heap.size+1≠b;omega) _,T.set_ne (fun e=>by have:=d b e;omega) _,d⟩,by simpa using f⟩)
  (fun J k W X vx hK ⟨U,⟨V,r,T,d⟩,f⟩ Z hX hc=>(l05 vx (b9 X) (w.heap.size+1) w W V k Z r T U om).mono fun e W' ⟨r1,va,r2,r3,m,R⟩=>
   ⟨r1,fun _=>⟨m.ext U om (fun g H=>(T.blk g H).1),⟨va,r2,r3,fun g H=>by
    rcases R with R|R
    . exact d g (by rw[<-R];exact H)
    . have:=R g H;omega⟩,nle f m.size⟩,(fun h=>by cases h),fun b TT cs ha hb B=>m.blk B om (fun e=>by have:=d b e;omega)⟩)
 have hy:L6 (fun _=>false) c n c.length []=false:=by
  rw[<-pg,cv3];rintro⟨YY,-,-,-,h⟩;cases h
 rw[hy]at S;refine S.mono ?_;rintro e w4⟨rfl,hF,-⟩;obtain⟨J,U,⟨V,r,T,-⟩,-⟩:=hF rfl;obtain⟨Q,j,rfl,-⟩:=T.shape;have k4:=r.cell (i:=0) (v:=.slice Q (E9 c n [] c.length []) j) rfl;clear S hF;go_wp2_with fail;exact br (.tuple #[.slice Q (E9 c n [] c.length []) j,.bool true]) ⟨_,rfl,T,U⟩
theorem lw1(h:R7 b m X w)(H:X.length=m)(J:i<m):∀W,Ext w W->W.cell? (aD b i)=some (vi (d5 X i)):=by
 intro W D;obtain⟨z,o,r,T⟩:=h.ext D;have Z:z=b9 X:=by rw[<-r,pE om]
 subst Z;refine T.cell (i:=i) ?_;rw[<-P7];simp[nth,List.getD,show i<(b9 X).length by omega]
theorem jz0(b m:Nat):∀(i:Nat) W,i<m->(Instr.indexAt 40 (.slice (some (aD b 0)) m m) (vi (i:Int))).run Tryz.prog W=.ok (.pointer (some (aD b i))) W:=fun i W J=>by
 rw[run_indexAt_slice (h:=elI),if_pos om,szI]
 simp[Result.andThen,pe]
def bo2(P:World)(m b G T O k:Nat)(R:Nat)(w:World):Prop :=
 Ext P w/\Blk w b 40 #[.slice (some (aD R 0)) m m]/\Blk w T 148 #[.func (.func 296) #[] #[.pointer (some (aD b 0)),.pointer (some (aD G 0)),.pointer (some (aD T 0)),.pointer (some (aD O 0))]] /\
  ∃v,Blk w O 92 #[v]/\I2 P w v k/\(∀g,v.ownBlock=some g->g≠b)
theorem bo2.ext{R:Nat}(h:bo2 P m I G B b k R w)(E:Ext w W):bo2 P m I G B b k R W:=by
 obtain⟨o,r,T,v,H,c,e⟩:=h;exact⟨o.trans E,r.ext E,T.ext E,v,H.ext E,c.ext E,e⟩
theorem bo2.set{t:Nat}{Z:Array Value}(h:bo2 P m I G t B k b w)(R:Blk w b 3 Z)(S:P.heap.size<=b)(Q:I≠b)(n:t≠b)(O:B≠b)(i:Nat)(v:Value):bo2 P m I G t B k b (w.setCell (aD b i) v):=by
 obtain⟨o,r,T,V,a,H,e⟩:=h;exact⟨o.setCell S _,r.other Q _,T.other n _,V,a.other O _,H.set_ne (H.not R (by decide)) _,e⟩
theorem j81(R:Hid (d7 l=true))(P:World)(Z M T b B:Nat)(HG:∀W,Ext P W->W.cell? (aD M 0)=some v)(HI:∀W,Ext P W->c8 W v l)(h0:P.heap.size<=b)(ab:B≠b)(ac:Z≠b)(hU:T≠b)
 (X:LN) (k:Nat) (w:World) (hX:X.length=l.length) (ho:∀x∈X,x<ord l) (V:k<1000000) (ht:bo2 P l.length Z M T b k B w) (hw:R7 B l.length X w) :
 Calls Tryz.prog 296 #[vi X.length,.pointer (some (aD Z 0)),.pointer (some (aD M 0)),.pointer (some (aD T 0)),.pointer (some (aD b 0))] w fun e w' =>
  e=.returned (.tuple #[])/\R7 B l.length X w'/\bo2 P l.length Z M T b (k+Q1 l 0 X) B w':=by
 have Hw:=zh (fun i (J:i<l.length)=>lw1 hw hX J);have al:=jz0 B l.length;have HS:=zh ht;have HR:=zh hw;obtain⟨hm,hu,-,-⟩:=ht;have hI:=hu.atc 0 rfl;have m:=sh hm HG;have H:=sh hm HI;have hb:((X.length:Nat):Int)=((l.length:Nat):Int):=om;have Hf:=zh hb;have Y:=l8 R.o;have aj:=E5 R.o;have Ho:=zh (fun i (J:i<l.length)=>ho _ (m7 (by omega:i<X.length)));have He:=zh (du6 l X);have Hd:=zh (je8 R.o X);have Hx:Hid (b60 l X=(List.range (ord l)).map (exV l X)):=zh rfl;have HA:Hid (Q1 l 0 X=if b28 l (b60 l X)then 1 else 0):=zh rfl;rw[hb];clear hb hX ho hw hu HG HI;have hQ:=hI w (er w);have O:Own 3 w (w.alloc (.cells #[] 3)) (.slice (some (aD w.heap.size 0)) 0 0) []:=l9 om (er w) [] rfl;have E:Ext w (w.alloc (.cells #[] 3)):=(er w).alloc _;have ah:=m _ E;have cO:=fun W (D:Ext w W)=>p9 v l W (H W D) R;go_in;go_wp2_with(go_at_call 153;refine cm (cO _ E) fun G z=>?_);replace O:=O.ext z;replace E:=E.trans z;clear z ah hQ;go_loopw [7,33] (fun sv sx wr=>∃x:Nat,x<=ord l/\sx=vi x/\Own 3 w wr sv (b9 ((List.range x).map (exV l X)))/\Ext w wr) (fun _ sx _=>ord l-(intOf sx).toNat);exact⟨0,om,rfl,O,E⟩
 case round =>
  clear E O;obtain⟨x,K,rfl,O,E⟩:=hrel;have ag:=m _ E;have hf:(b9 ((List.range x).map (exV l X))).length<17592186044416:=by rw[d9,oG,List.length_range];omega
  by_cases U:x<ord l
  . have hJ:(x:Int)<(ord l:Int):=om;have he:=bs6 l x l.length;have Hb:=zh (fun i (J:i<l.length)=>d56 l x J);have Hv:Hid (exV l X x=lcT l X (plP l x l.length) l.length):=zh rfl;have cP:=fun W (D:Ext w W)=>jm8 v l x W (H W D) R om;obtain⟨p,j⟩:=nq (plP l x l.length);rw[<-j]at he Hv;simp only[<-j]at cP Hb;have Hl:=zh he;clear j he;have N:Hid ((List.range (x+1)).map (exV l X)=(List.range x).map (exV l X)++[exV l X x]):=zh (dg7 l X);obtain⟨A,hA⟩:=nq ((List.range x).map (exV l X));rw[<-hA]at O hf N;clear hA;go_wp2_with(go_at_call 297;refine(cP _ E).mono ?_;rintro e w2⟨vp,rfl,hr,I⟩;obtain⟨aP,ca,am,rfl,hq,aa⟩:=hr.ints.nats;have ak:=j2 (c:=ca) elI szI hq;clear hq);have q:=E.trans I;have hD:=O.ext I;clear E O ag hr I;have h:=er w2;go_loopw [9,40] (fun sz si wq=>∃i:Nat,i<=l.length/\si=vi i/\sz=vi (lcT l X p i:Nat)/\Ext w2 wq) (fun _ si _=>p.length-(intOf si).toNat);exact⟨0,om,rfl,rfl,h⟩;case round =>
     clear h;obtain⟨i,J,rfl,rfl,h⟩:=hrel;by_cases hs:i<p.length
     . have t:(i:Int)<(p.length:Int):=om;have hit:i<l.length:=(by have:=Hl.o;omega);have kR:=fun u=>Hw.o i hit _ (q.trans (h.trans (c9 wr u)));have kI:=fun u=>hI _ (q.trans (h.trans (c9 wr u)));have kP:=aa i _ hs h;have kb:=fun u=>m _ (q.trans (h.trans (c9 wr u)));have aq:=Ho.o i hit;have ap:=Hb.o i hit;have hT:=d45 R.o X p i;have hM:=c45 R.o (d5 X i) (d5 p i);have m1:=fun u=>l12 v l (d5 X i) (d5 p i) _ (H _ (q.trans (h.trans (c9 wr u)))) R om om;have a1:=fun u=>O7 v l (lcT l X p i) (U1 l (d5 X i) (d5 p i)) _ (H _ (q.trans (h.trans (c9 wr u)))) R om om;have Hn:Hid (lcT l X p (i+1)=j9 l (lcT l X p i) (U1 l (d5 X i) (d5 p i))):=zh rfl;have hK:=h;clear h;have E:=er wr;go_wp2_with fail;refine wl E ?_;(repeat(go_big_quiet_step(first|(go_at_call 298;with_reducible exact oa (m1 _))|(go_at_call 271;with_reducible exact oa (a1 _)))));refine zd fun W E=>?_;go_wp2_with fail;go_roundw;exact⟨i+1,om,zg,by rw[Hn.o],hK.trans E⟩;exact zm1
     . have hl:i=l.length:=(by have:=Hl.o;omega);have t:¬(i:Int)<(p.length:Int):=om;have hL:=hD.ext h;have hy:=q.trans h;have Hc:=zh t;clear t hs;rw[hl,<-Hv.o];rw[hl]at Hc;have t:=Hc.o;clear hl J;obtain⟨zz,hz⟩:=nq (exV l X x);rw[<-hz]at N|-;clear hz;go_wp2_with(at_builtin;refine p6 slI rfl _ _ rfl w _ _ _ _ hL hy hf rfl rfl ?_;intro v1 G hC z);go_roundw;exact⟨x+1,om,zg,by rw[N.o,G6];exact hC,z⟩;exact zm1
  . have hJ:¬(x:Int)<(ord l:Int):=om;have hp:x=ord l:=om;rw[hp,<-Hx.o]at O;clear hf hp K U;obtain⟨F,hF⟩:=nq (b60 l X);rw[<-hF]at O He Hd HA;clear hF;have C:=cc6 _ l _ F wr (H _ E) O.ints R He.o Hd.o;obtain⟨aF,cF,rfl,-⟩:=O.shape;have hS:=HS.o.ext E;have hh:=HR.o.ext E;cases a:b28 l F
    . have Ha:Hid (Q1 l 0 X=0):=zh (by rw[HA.o,a];rfl);rw[a]at C;clear a;go_wp2_with(go_at_call 299;refine cm C fun w5 L=>?_);go_end0;exact⟨rfl,hh.ext L,by rw[Ha.o];exact hS.ext L⟩
    . have Ha:Hid (Q1 l 0 X=1):=zh (by rw[HA.o,a];rfl);rw[a]at C;clear a;obtain⟨s1,s2,s3,vo,s4,s,s6⟩:=hS;obtain⟨Q,f,rfl,-⟩:=s.shape;have Y:=s.not s4 (by decide);have hv:=s.not s3 (by decide);have hH:∀g,(Value.slice Q k f).ownBlock=some g->g≠b:=fun g H e=>Y (by rw[H,e]);have ae:∀g,(Value.slice Q k f).ownBlock=some g->g≠T:=fun g H e=>hv (by rw[H,e]);have af:∀g,(Value.slice Q k f).ownBlock=some g->g≠B:=fun g H e=>by
       obtain⟨ZZ,-,-,y⟩:=hh
       exact s.not y (by decide) (by rw[H,e])
      have kO:=s4.atc 0 rfl;have Hg:=zh Y;clear Y hv;go_wp2_with(first|(go_at_call 299;refine cm C fun w5 L=>?_;have ka:=kO _ L;have hj:=s.ext L;have hR:=s4.ext L;have hn:=s1.trans L;have kc:=kO _ (L.alloc (.cells #[.slice aF (b9 F).length cF] 40)))|(at_builtin;refine cu1 rfl _ _ rfl P _ _ k _ _ _ hj hn V rfl rfl ?_;intro v6 w6 hc S hV;obtain⟨a6,c6,rfl,-⟩:=hc.shape;have d:=hR.grown S hH;have an:=d.cell (i:=0) (v:=.slice Q k f) rfl;have ao:=d.free 0));go_end0;have hY:Ext P w6:=hn.grown S (fun g H=>(hj.blk g H).1);have ai:=(s2.ext L).grown S s6;have ad:=(s3.ext L).grown S ae;refine⟨rfl,?_,?_⟩
      . obtain⟨ZZ,z1,z2,y⟩:=hh.ext L;exact⟨ZZ,z1,z2,(y.grown S af).other (by simpa using ab) _⟩
      . rw[Ha.o];refine⟨hY.setCell h0 _,ai.other (by simpa using ac) _,ad.other (by simpa using hU) _,_,d.set 0 _,hc.set_ne (hc.not d (by decide)) _,?_⟩;intro g H;rcases hV with n|n
        . exact s6 g (by rw[<-n];exact H)
        . have h1:=n g H;have r:=(s2.ext L).lt;omega
theorem jj9(R:Hid (d7 l=true))(P:World)(I g B O b:Nat)(j:∀W,Ext P W->W.cell? (aD g 0)=some v)(n:∀W,Ext P W->c8 W v l)(f:P.heap.size<=O)(hi:P.heap.size<=b)(L:b≠O)(hf:I≠O)(hO:B≠O)(hR:I≠b)(hh:B≠b):∀m X k w,X.length+m=l.length->(∀x∈X,x<ord l)->k+Q1 l m X<=729->bo2 P l.length I g B O k b w->R7 b l.length X w ->
 Calls Tryz.prog 296 #[vi X.length,.pointer (some (aD I 0)),.pointer (some (aD g 0)),.pointer (some (aD B 0)),.pointer (some (aD O 0))] w fun e Q =>
  e=.returned (.tuple #[])/\R7 b l.length X Q/\bo2 P l.length I g B O (k+Q1 l m X) b Q:=by
 intro m;induction m with
 |zero =>
  intro X k w y u A h Y;exact j81 v l R P I g B O b j n f L hf hO X k w om u om h Y
 | succ m ih =>
  intro X k w y u A h Y;have HK:=zh A;have F:=zh ih;have E:=zh u;have hk:=l8 R.o;have hm:=E5 R.o;have U:X.length<l.length:=om;have hc:=zh y;have a:Hid (Q1 l (m+1) X=Q7 (fun x=>Q1 l m (X++[x])) (ord l)):=zh rfl;clear A ih u y;have H:=sh h.1 n;have hG:=j w h.1;have C:w.cell? (aD I 0)=some (.slice (some (aD b 0)) l.length l.length):=h.2.1.cell (i:=0) rfl;have p:=p9 v l w (n w h.1) R;have hl:((X.length:Nat):Int)<((l.length:Nat):Int):=om;have he:=jz0 b l.length;have HS:=zh h;have M:=zh Y;clear h Y;go_in;go_wp2_with(go_at_call 153;refine cm p fun G z=>?_);have S:=HS.o.ext z;have Z:=M.o.ext z;clear hG C;go_loopw [18] (fun s wr=>∃q:Nat,q<=ord l/\s=vi q/\R7 b l.length X wr/\bo2 P l.length I g B O (k+Q7 (fun x=>Q1 l m (X++[x])) q) b wr) (fun s _=>ord l-(intOf s).toNat);exact⟨0,om,rfl,Z,S⟩
  case round =>
   clear S Z;obtain⟨q,hq,rfl,Y,h⟩:=hrel;by_cases ht:q<ord l
   . have hI:(q:Int)<(ord l:Int):=om;have C:wr.cell? (aD I 0)=some (.slice (some (aD b 0)) l.length l.length):=h.2.1.cell (i:=0) rfl;obtain⟨vz,kz⟩:=Y.has U;have hz:=Y.free X.length;have J:=Y.set U q;have t:bo2 P l.length I g B O (k+Q7 (fun x=>Q1 l m (X++[x])) q) b (wr.setCell (aD b X.length) (vi (q:Int))):=by
      obtain⟨ZZ,-,-,D⟩:=Y;exact h.set D hi hR hh (fun e=>L e.symm) _ _
     have hT:(wr.setCell (aD b X.length) (vi (q:Int))).cell? (aD B 0)=some (.func (.func 296) #[] #[.pointer (some (aD I 0)),.pointer (some (aD g 0)),.pointer (some (aD B 0)),.pointer (some (aD O 0))]):=t.2.2.1.cell (i:=0) rfl;have hj:=he X.length wr U;have ho:IntKind.i64.wrap (((X.length:Nat):Int)+1)=((X.length:Nat):Int)+1:=oD _ om;have V:k+Q7 (fun x=>Q1 l m (X++[x])) q+Q1 l m (X++[q])<=729:=by
      have d:=HK.o;rw[a.o]at d;have r:=dk9 (fun x=>Q1 l m (X++[x])) (q+1) (ord l-(q+1));rw[show q+1+(ord l-(q+1))=ord l by omega]at r;have T:Q7 (fun x=>Q1 l m (X++[x])) (q+1)=Q7 (fun x=>Q1 l m (X++[x])) q+Q1 l m (X++[q]):=rfl;omega
     have c:=F.o (X++[q]) _ _ (by rw[oh,oo];have:=hc.o;omega) (fun x K=>by
      rw[oP,oE]at K
      rcases K with K|rfl
      . exact E.o x K
      . exact ht) V t J
     rw[show(((X++[q]).length:Nat):Int)=((X.length:Nat):Int)+1 by rw[oh,oo];omega]at c;have N:Hid (k+Q7 (fun x=>Q1 l m (X++[x])) (q+1)=k+Q7 (fun x=>Q1 l m (X++[x])) q+Q1 l m (X++[q])):=zh (by rw[qb];rfl);clear h Y t J V;go_wp2_with(go_at_call 296;refine c.mono ?_;rintro e w2⟨rfl,hb,ha⟩);go_roundw;exact⟨q+1,om,zg,hb.back,by rw[N.o];exact ha⟩;exact zm1
   . have hn:q=ord l:=om;have hI:¬(q:Int)<(ord l:Int):=om;go_wp2_with fail;exact bodyPost_ret (v:=.tuple #[]) (by simp[results,Tryz.results296,go_sem]) rfl ⟨rfl,Y,by rw[a.o,<-hn];exact h⟩
theorem j04{n:Nat}{l:LI}(h:Own 3 P w (.slice (some (aD g 0)) n n) l)(N:l.length=n):Blk w g 3 (l.map (Value.int .i64)).toArray:=by
 obtain⟨⟨o,r⟩,-⟩:=h;rcases r with⟨v,-⟩|⟨G,cap,c,v,H,a,C,m,s,t⟩;simp at v;simp only[Value.slice.injEq,Option.some.injEq,Addr.mk.injEq,and_true]at v;obtain⟨rfl,-,rfl⟩:=v;have e:c=(l.map (Value.int .i64)).toArray:=by
  apply Array.toList_inj.1;rw[<-t,pE (by simp[s];omega)]
 rw[<-e];exact a
theorem zz38{P:Prop}(h:P:=by have X:=fun W (D:Ext B W)=>p9 v l W (H W D) R;clear Y n;go_in;go_wp2_with fail;rw[<-Z.o];rw[s.o];rw[<-K.o];go_wp2_with(first|(go_at_call 92;refine cm (c _ z) fun G I=>?_;have r:=z.trans I;have L:=C _ r)|(go_at_call 153;refine cm (X _ r) fun w3 J=>?_;have d:=O _ (I.trans J)));exact br (.tuple #[.slice (some (aD B.heap.size 0)) 0 0,.bool false]) ⟨_,rfl,F.trans (r.trans J)⟩):P:=h
theorem cd4(w:World)(h:c8 w v l)(n:auB l=false):Calls Tryz.prog 242 #[.agg #[v]] w fun e P=>∃V,e=.returned (.tuple #[V,.bool false])/\Ext w P:=by
 have g:=h;obtain⟨B,Z,F,C,H,E,s⟩:=m04 42 h;clear h;have c:=fun W (D:Ext B W)=>o9 v l W (H W D);have z:=(E.alloc (.cells #[] 40)).alloc (.cells #[.slice (some (aD B.heap.size 0)) 0 0] 92);have b:=C _ z;have k:((B.alloc (.cells #[] 40)).alloc (.cells #[.slice (some (aD B.heap.size 0)) 0 0] 92)).cell? (aD ((B.alloc (.cells #[] 40)).heap.size) 0)=some (.slice (some (aD B.heap.size 0)) 0 0):=(oq _ _ _).cell (i:=0) rfl;have S:(B.alloc (.cells #[] 40)).heap.size=B.heap.size+1:=zm;rw[S]at k;clear S;obtain⟨wc,p⟩:=nq ((B.alloc (.cells #[] 40)).alloc (.cells #[.slice (some (aD B.heap.size 0)) 0 0] 92));rw[<-p]at z b k;have K:=zh p;clear p;have O:=fun W (D:Ext wc W)=>D.cell k;cases Y:d7 l
 . rw[Y]at c;go_in;go_wp2_with fail;rw[<-Z.o];rw[s.o];rw[<-K.o];go_wp2_with(go_at_call 92;refine cm (c _ z) fun G I=>?_;have L:=C _ (z.trans I);have d:=O _ I);exact zz64
 rw[Y]at c;have R:=zh Y;have m:¬(ord l<=9):=by
  intro m;unfold auB at n;rw[Y,decide_eq_true m]at n;cases n
 have x:(9:Int)<(ord l:Int):=om;exact zz38
theorem cc1(w:World)(h:c8 w v l)(n:auB l=true):Calls Tryz.prog 242 #[.agg #[v]] w fun e P=>∃V,e=.returned (.tuple #[V,.bool true])/\I2 w P V (Q1 l l.length [])/\Ext w P:=by
 have hp:=h.op;have hm:=h;obtain⟨B,Z,F,C,H,E,Hz⟩:=m04 42 h;clear h;obtain⟨Q,c,ar,rfl,hf,hr,hl⟩:=hp;clear hr hl;obtain⟨Y,h9⟩:d7 l=true/\ord l<=9:=by unfold auB at n;simpa using n
 have R:=zh Y;have he:=E5 Y;have hi:=l8 Y;have He:Hid (Q1 l l.length []<=729):=zh (nle (da0 l l.length []) (cy7 h9 he));have M:=fun W (D:Ext B W)=>o9 _ l W (H W D);rw[Y]at M;clear Y n;have cO:=fun W (D:Ext B W)=>p9 _ l W (H W D) R;have hI:¬(9:Int)<(ord l:Int):=om;have U:I2 B (B.alloc (.cells #[] 40)) (.slice (some (aD B.heap.size 0)) 0 0) 0:=bn8 E;have z:=(E.alloc (.cells #[] 40)).alloc (.cells #[.slice (some (aD B.heap.size 0)) 0 0] 92);have ha:=C _ z;have q:(B.alloc (.cells #[] 40)).heap.size=B.heap.size+1:=zm;have b:Blk ((B.alloc (.cells #[] 40)).alloc (.cells #[.slice (some (aD B.heap.size 0)) 0 0] 92)) (B.heap.size+1) 92 #[.slice (some (aD B.heap.size 0)) 0 0]:=by rw[<-q];exact oq _ _ _
 have O:=U.ext ((er _).alloc (.cells #[.slice (some (aD B.heap.size 0)) 0 0] 92));obtain⟨wc,p⟩:=nq ((B.alloc (.cells #[] 40)).alloc (.cells #[.slice (some (aD B.heap.size 0)) 0 0] 92));rw[<-p]at z ha b O;have Hc:=zh p;clear p U q;have hk:∀(N:Fn) (first cap:Array Value) (w:World),(Instr.makeFunc N first cap).run Tryz.prog w=.ok (.func N first cap) w:=fun _ _ _ _=>rfl;go_in;go_wp2_with fail;rw[<-Z.o];rw[Hz.o];rw[<-Hc.o];go_wp2_with(first|(go_at_call 92;refine cm (M _ z) fun G I=>?_;have s:=z.trans I;have hh:=C _ s)|(go_at_call 153;refine cm (cO _ s) fun w3 J=>?_;have x:=s.trans J;have hj:=C _ x)|(at_make;refine b10 slI rfl _ _ rfl _ _ l.length rfl rfl om (er _) ?_;intro w4 hc L));obtain⟨r,d⟩:=nq (w4.alloc (.cells #[.slice (some (aD w3.heap.size 0)) l.length l.length] 40));obtain⟨w6,f⟩:=nq (r.alloc (.cells #[.func (.func 296) #[] #[.pointer (some (aD w4.heap.size 0)),.pointer (some (aD w.heap.size 0)),.pointer (some (aD (w4.heap.size+1) 0)),.pointer (some (aD (B.heap.size+1) 0))]] 148));rw[<-d,<-f];have s5:r.heap.size=w4.heap.size+1:=by rw[d];simp
 have ea:Ext w4 r:=by rw[d];exact(er _).alloc _
 have k:Ext r w6:=by rw[f];exact(er _).alloc _
 have y:=j04 hc zm;have B5:Blk r w4.heap.size 40 #[.slice (some (aD w3.heap.size 0)) l.length l.length]:=by rw[d];exact oq _ _ _
 have B6:Blk w6 (w4.heap.size+1) 148 #[.func (.func 296) #[] #[.pointer (some (aD w4.heap.size 0)),.pointer (some (aD w.heap.size 0)),.pointer (some (aD (w4.heap.size+1) 0)),.pointer (some (aD (B.heap.size+1) 0))]]:=by rw[f,<-s5];exact oq _ _ _
 have z3:=x.size;have za:=(I.trans J).size;have z4:=y.lt;have z1:=b.lt;have j:=ea.trans k;have eb:=x.trans (L.trans j);clear d f
 have T:=jj9 _ l R B w4.heap.size w.heap.size (w4.heap.size+1) (B.heap.size+1) w3.heap.size C (fun W D=>H W D) om om om om om om om
  l.length [] 0 w6 zm zm (by have:=He.o;omega)
  ⟨eb,B5.ext k,B6,_,b.ext ((I.trans J).trans (L.trans j)),O.ext ((I.trans J).trans (L.trans j)),fun g H=>by have:=(O.blk g H).2;omega⟩ ((cz2 y).ext j)
 rw[oM]at T;refine od T ?_;rintro e w7⟨rfl,-,hS⟩;obtain⟨s1,-,-,vo,s4,S,-⟩:=hS;obtain⟨X,m,rfl,-⟩:=S.shape;have k7:=s4.cell (i:=0) (v:=.slice X (Q1 l l.length []) m) rfl;obtain⟨A,K⟩:=nq (Q1 l l.length []);rw[<-K]at k7 S;have HA:=zh K;clear K T;go_wp2_with fail;exact br (.tuple #[.slice X A m,.bool true]) ⟨_,rfl,by rw[<-HA.o];exact S.mono F,F.trans s1⟩
theorem c02(w:World)(h:c8 w v l):Calls Tryz.prog 156 #[.agg #[v]] w (RE w (vi (if auB l then(Q1 l l.length []:Int)else -1))):=by
 obtain⟨B,Z,F,C,H,E,s⟩:=m04 42 h;clear h;have x:=C _ E;cases n:auB l
 . have c:=cd4 v l B (H _ E) n;clear n;go_in;go_wp2_with fail;rw[<-Z.o];go_wp2_with(go_at_call 242;refine c.mono ?_;rintro e w3⟨V,rfl,G⟩);go_ret;exact⟨rfl,F.trans G⟩
 have c:=cc1 v l B (H _ E) n;have L:Hid (Q1 l l.length []<=729):=zh (by
  have b:d7 l=true/\ord l<=9:=(by unfold auB at n;simpa using n);exact nle (da0 l _ _) (cy7 b.2 (E5 b.1)))
 clear n;obtain⟨A,a⟩:=nq (Q1 l l.length []);rw[<-a]at c|-;clear a;go_in;go_wp2_with fail;rw[<-Z.o];go_wp2_with(go_at_call 242;refine c.mono ?_;rintro e w3⟨V,rfl,O,G⟩;obtain⟨f,c3,rfl,-⟩:=O.shape);go_ret;exact⟨rfl,F.trans G⟩
theorem zz145{P:Prop}(h:P:=by go_ret;exact⟨_,rfl,by rw[N.o];exact O.mono F,F.trans E⟩):P:=h
theorem zz158{P:Prop}(h:P:=by go_ret;exact⟨_,rfl,by have:=N.o;rw[show((0:Nat):Int)=0 from rfl,this];exact O.mono F,F.trans E⟩):P:=h
theorem bb4(w:World)(h:c8 w v l):Calls Tryz.prog 277 #[.agg #[v],vi a] w fun e P=>∃u,e=.returned u/\Own 3 w P u (Q9 l a)/\Ext w P:=by
 obtain⟨B,Z,F,C,H,E,s⟩:=m04 42 h;clear h;obtain⟨wc,p⟩:=nq (B.alloc (.cells #[] 3));have O:Own 3 B wc (.slice (some (aD B.heap.size 0)) 0 0) []:=by rw[p];exact l9 om E [] rfl
 replace E:Ext B wc:=by rw[p];exact E.alloc _
 have K:Hid (B.heap.size+1=wc.heap.size):=zh (by rw[p];simp[go_sem]);have J:=zh p;clear p;cases S:j0 l a
 . have N:=zh (cm8 (P5 S));go_in;go_wp2_with fail;rw[<-Z.o,<-J.o];rw[s.o];try rw[K.o]
   go_wp2_with(first|(go_at_call 180;refine cm (q6 _ _ _ _ (H _ xq) S) fun P X=>?_;replace O:=O.ext (og xq X);replace E:=E.trans (og xq X);clear X));exact zz145
 obtain⟨n,rfl,h1,r,Y⟩:=l7 S;by_cases T:n=0
 . subst T;have N:=zh (cm8 (J7 l));go_in;go_wp2_with fail;rw[<-Z.o,<-J.o];rw[s.o];try rw[K.o]
   go_wp2_with(first|(go_at_call 180;refine cm (q6 _ _ _ _ (H _ xq) S) fun P X=>?_;replace O:=O.ext (og xq X);replace E:=E.trans (og xq X);clear X));exact zz158
 have N:=zh (dt5 (Q4 S om));have hi:((n:Int) == 0)=false:=zso;have R:=zh Y;have ht:=l8 Y;have hn:=p8 n;clear Y T;go_in;go_wp2_with fail;rw[<-Z.o,<-J.o];rw[s.o];try rw[K.o]
 go_wp2_with(first|(go_at_call 180;refine cm (q6 _ _ _ _ (H _ xq) S) fun P X=>?_;replace O:=O.ext (og xq X);replace E:=E.trans (og xq X);clear X)|(go_at_call 153;refine cm (p9 _ _ _ (H _ E) R) fun P X=>?_;replace O:=O.ext X;replace E:=E.trans X;clear X));clear S hi;go_loopw [5,21] (fun u x wr=>∃k:Nat,k<=ord l/\x=vi k/\Own 3 B wr u (b9 (b35 l n k))/\Ext B wr) (fun _ x _=>ord l-(intOf x).toNat);exact⟨0,om,rfl,O,E⟩;case round =>
  clear E O;obtain⟨k,V,rfl,O,E⟩:=hrel;by_cases U:k<ord l
  . have hu:(b9 (b35 l n k)).length<=24:=(by rw[d9];have:=dg0 l n k;omega);go_wp2_with(first|(go_at_call 195;refine(J1 n r _).mono ?_;rintro e G⟨v1,rfl,f,z⟩;obtain⟨aL,cL,aa,rfl,ha,hc⟩:=f.ints.nats;have hh:=j2 (c:=cL) elI szI ha;clear ha));replace O:=O.ext z;replace E:=E.trans z;have M:∀y∈j3 n,y<24:=fun y hy=>J5 hy;have hf:=D0 n;have d:Hid (d30 l n k=bx3 l n k (j3 n)):=zh rfl;clear f z;generalize j3 n=L at hc hh M hf d|-;have D:=er G;go_loopw [5,27] (fun u i m=>∃j:Nat,j<=L.length/\i=vi j/\(∀q,q<j->N1 l (d5 L q) k (cnt n)≠n)/\Own 3 B m u (b9 (b35 l n k))/\Ext G m) (fun _ i _=>L.length-(intOf i).toNat);exact⟨0,om,rfl,om,O,D⟩;case round =>
     clear O D;obtain⟨j,hj,rfl,ho,O,D⟩:=hrel;have g:=zh ho;clear ho;have b:=E.trans D;have hx:=bk5 (C _ b);by_cases t:j<L.length
     . have hr:=hc j _ t D;have A:=M _ (m7 t);have hv:=ba0 R.o A k (cnt n);by_cases Q:N1 l (d5 L j) k (cnt n)=n
       . have I:=zh (dg1 (by rw[d.o];exact dt7 t Q));have hp:((N1 l (d5 L j) k (cnt n):Int) == (n:Int))=true:=(by rw[Q];simp);clear Q;clear E;have E:=er wr;go_wp2_with fail;refine wl E ?_;(repeat(go_big_quiet_step(first|(go_at_call 78;exact oT (C6 _ r _))|(go_at_call 323;exact oa (bi7 _ _ _ _ _ _ (H _ (b.trans (c9 wr _))) R A om hn)))));refine zd fun W E=>?_;replace O:=O.ext E;replace b:=b.trans E;replace D:=D.trans E;go_wp2_with(at_builtin;refine p6 slI rfl _ _ rfl B _ _ _ _ O b om rfl rfl ?_;intro v1 G he z);go_roundw;exact⟨k+1,om,zg,by rw[I.o];simpa[G6]using he,z⟩;exact zm1
       . have hp:((N1 l (d5 L j) k (cnt n):Int) == (n:Int))=false:=zso;have Hq:=zh Q;clear Q;clear E;have E:=er wr;go_wp2_with fail;refine wl E ?_;(repeat(go_big_quiet_step(first|(go_at_call 78;exact oT (C6 _ r _))|(go_at_call 323;exact oa (bi7 _ _ _ _ _ _ (H _ (b.trans (c9 wr _))) R A om hn)))));refine zd fun W E=>?_;replace O:=O.ext E;replace b:=b.trans E;replace D:=D.trans E;go_wp2_with fail;go_roundw;exact⟨j+1,om,zg,fun q Q=>by by_cases e:q=j;(subst e;exact Hq.o);exact g.o q om,O,D⟩;exact zm1
     . have hm:j=L.length:=om;subst hm;have I:=zh (dt6 (by rw[d.o];exact d31 g.o));go_wp2_with fail;go_roundw;exact⟨k+1,om,zg,by rw[I.o];exact O,b⟩;exact zm1
  . have hl:k=ord l:=om;subst hl;go_wp2_with fail;exact zz145
theorem ba3(w:World)(h:c8 w v l):Calls Tryz.prog 288 #[.agg #[v],vi a] w fun e P=>∃u,e=.returned u/\Own 3 w P u (Q9 l a)/\Ext w P:=by
 obtain⟨B,Z,F,C,H,E,s⟩:=m04 42 h;clear h;obtain⟨wc,p⟩:=nq (B.alloc (.cells #[] 3));have O:Own 3 B wc (.slice (some (aD B.heap.size 0)) 0 0) []:=by rw[p];exact l9 om E [] rfl
 have hc:Blk wc B.heap.size 3 #[]:=by rw[p];exact oq _ _ _
 replace E:Ext B wc:=by rw[p];exact E.alloc _
 have A:=er wc;have T:Hid (B.heap.size+1=wc.heap.size):=zh (by rw[p];simp[go_sem]);have M:=zh p;clear p;cases S:j0 l a
 . have N:=zh (cm8 (P5 S));go_in;go_wp2_with fail;rw[<-Z.o,<-M.o];rw[s.o];try rw[T.o]
   go_wp2_with(first|(go_at_call 124;refine cm (m6 _ _ _ _ (H _ xq) S) fun P X=>?_;replace O:=O.ext (og xq X);replace E:=E.trans (og xq X);clear X));exact zz145
 obtain⟨n,rfl,h1,r,Y⟩:=l7 S;by_cases h0:n=0
 . subst h0;have N:=zh (cm8 (J7 l));go_in;go_wp2_with fail;rw[<-Z.o,<-M.o];rw[s.o];try rw[T.o]
   go_wp2_with(first|(go_at_call 124;refine cm (m6 _ _ _ _ (H _ xq) S) fun P X=>?_;replace O:=O.ext (og xq X);replace E:=E.trans (og xq X);clear X));exact zz158
 have N:=zh (dt5 (Q4 S om));have ht:((n:Int) == 0)=false:=zso;have R:=zh Y;have hw:=l8 Y;have hn:=p8 n;clear Y h0;go_in;go_wp2_with fail;rw[<-Z.o,<-M.o];rw[s.o];try rw[T.o]
 go_wp2_with(first|(go_at_call 124;refine cm (m6 _ _ _ _ (H _ xq) S) fun P X=>?_;replace A:=A.trans (og xq X);replace E:=E.trans (og xq X);clear X)|(go_at_call 125;refine(o7 _ r _).mono ?_;rintro e P⟨rfl,rfl⟩)|(go_at_call 151;refine(L0 n r _).mono ?_;rintro e G⟨v1,rfl,hL,z⟩;obtain⟨aL,cL,aa,rfl,ha,m⟩:=hL.ints.nats;have hr:=j2 (c:=cL) elI szI ha;clear ha));replace O:=N7.start G hc (A.trans z);replace E:=E.trans z;have I:=sh E C;have g:=sh E H;have he:=E;clear S ht hL z E hc A;have hl:∀y∈j3 n,y<24:=fun y hy=>J5 hy;have hp:=D0 n;have d:Hid (∀k,d30 l n k=bx3 l n k (j3 n)):=zh (fun _=>rfl);generalize j3 n=L at m hr hl hp d|-;have E:=er G;go_loopw [5,8] (fun u x wr=>∃k:Nat,k<=ord l/\x=vi k/\N7 3 B G wr u (b9 (b35 l n k))/\Ext G wr) (fun _ x _=>ord l-(intOf x).toNat);exact⟨0,om,rfl,O,E⟩;case round =>
  clear E O;obtain⟨k,V,rfl,O,E⟩:=hrel;by_cases U:k<ord l
  . have hx:(b9 (b35 l n k)).length<=24:=(by rw[d9];have:=dg0 l n k;omega);have b:=I _ E;go_wp2_with(first|(go_at_call 103;refine cm (o4 _ _ _ (g _ E) R) fun P X=>?_;replace O:=O.ext X;replace E:=E.trans X;clear X));clear b;go_loopw [9,10] (fun fv i wq=>∃(j:Nat) (f:Bool),j<=L.length/\i=vi j/\fv=.bool f/\(f=true->bx3 l n k L=true)/\(f=false->∀q,q<j->N1 l (d5 L q) k (cnt n)≠n)/\N7 3 B G wq u5 (b9 (b35 l n k))/\Ext G wq) (fun fv i _=>L.length-(intOf i).toNat);exact⟨0,false,om,rfl,rfl,zm,om,O,E⟩;case round =>
     clear O E;obtain⟨j,f,hj,rfl,rfl,hf,ho,O,E⟩:=hrel;have Ha:=zh hf;have Ho:=zh ho;clear hf ho;cases f
     . by_cases t:j<L.length
       . have D:=hl _ (m7 t);have hz:=ba0 R.o D k (cnt n);by_cases Q:N1 l (d5 L j) k (cnt n)=n
         . have Ht:=zh (dt7 t Q);have hv:((N1 l (d5 L j) k (cnt n):Int) == (n:Int))=true:=(by rw[Q];simp);clear Q;have hm:=fun J=>m j _ t (E.trans (c9 wr J));have b:=bk5 (I _ E);have hW:=sh E g;have z:=E;clear E;have E:=er wr;go_wp2_with fail;refine wl E ?_;(repeat(go_big_quiet_step(first|(go_at_call 328;exact oa (b96 _ _ _ _ _ _ (hW _ (c9 wr _)) R D om hn)))));refine zd fun W E=>?_;replace O:=O.ext E;replace E:=z.trans E;go_wp2_with fail;go_roundw;exact⟨j+1,true,om,zg,rfl,fun _=>Ht.o,zm,O,E⟩;exact zm1
         . have hv:((N1 l (d5 L j) k (cnt n):Int) == (n:Int))=false:=zso;have Hq:=zh Q;clear Q;have hm:=fun J=>m j _ t (E.trans (c9 wr J));have b:=bk5 (I _ E);have hW:=sh E g;have z:=E;clear E;have E:=er wr;go_wp2_with fail;refine wl E ?_;(repeat(go_big_quiet_step(first|(go_at_call 328;exact oa (b96 _ _ _ _ _ _ (hW _ (c9 wr _)) R D om hn)))));refine zd fun W E=>?_;replace O:=O.ext E;replace E:=z.trans E;go_wp2_with fail;go_roundw;exact⟨j+1,false,om,zg,rfl,zm,fun _ q Q=>by by_cases e:q=j;(subst e;exact Hq.o);exact Ho.o zm q om,O,E⟩;exact zm1
       . have hu:j=L.length:=om;subst hu;have K:=zh (dt6 (by rw[d.o];exact d31 (Ho.o rfl)));go_wp2_with fail;go_roundw;exact⟨k+1,om,zg,by rw[K.o];exact O,E⟩;exact zm1
     . have K:=zh (dg1 (by rw[d.o];exact Ha.o rfl));by_cases t:j<L.length
       all_goals
        go_wp2_with(at_builtin;refine jb5 slI rfl _ _ rfl B G _ _ _ _ O E om rfl rfl ?_;intro v1 wa hh z)
        go_roundw
        case rel=>exact⟨k+1,om,zg,by rw[K.o,G6];exact Or.inr hh,z⟩
        case measure=>exact zm1
  . have hi:k=ord l:=om;subst hi;have b:=I _ E;go_wp2_with(first|(go_at_call 103;refine cm (o4 _ _ _ (g _ E) R) fun P X=>?_;replace O:=O.ext X;replace E:=E.trans X;clear X));go_ret;exact⟨_,rfl,by rw[N.o];exact(O.own he).mono F,F.trans (he.trans E)⟩
end Go.Zz
