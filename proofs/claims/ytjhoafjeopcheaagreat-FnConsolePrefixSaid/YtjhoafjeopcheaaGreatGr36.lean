/- FactorizationsOf of the program. -/
import Derived.Test.YtjhoafjeopcheaaGreatGr35
import Derived.Test.YtjhoafjeopcheaaGreatGr34
set_option linter.all false
set_option maxHeartbeats 4000000
set_option maxRecDepth 20000
namespace Go.Zz
open Go.RowKit Go.Proofs
variable(v u:Value)(l R:LI)(W s t:Ba)(X:LN)(xs:LI)(w:World){n j:Nat}
theorem I1.keep{P w W:World}{v:Value}{A:List (LN)}(h:I1 P w v A)(V:∀k t c,Blk w k t c->(t=3\/t=40)->Blk W k t c):∃L:List Value,L.length=A.length/\E0 40 P W v L/\∀i,i<A.length->R6 w (L.getD i (.slice none 0 0)) (A.getD i [])/\R6 W (L.getD i (.slice none 0 0)) (A.getD i []):=by
 obtain⟨L,o,⟨r,T,a⟩,d⟩:=h;refine⟨L,o,⟨r,⟨T.1,?_⟩,a⟩,fun i J=>?_⟩
 rcases T.2 with h|⟨g,cap,u,rfl,H,b,rest⟩;exact Or.inl h;exact Or.inr ⟨g,cap,u,rfl,H,V g _ u b (Or.inr rfl),rest⟩;have h:=d i J;obtain⟨X,g,cap,c,K,Z,e,f⟩:=id h;exact⟨h,X,g,cap,c,K,Z,V g _ c e (Or.inl rfl),f⟩
theorem lj8{N G w:World}{a v:Nat}{A:List (LN)}{u d V y l o:Nat}{F M va:Value}{ca:Array Value}{CC:LI}
 (O:I1 N G (.slice (some (aD a 0)) A.length v) A) (E:Ext G w) (hL:G.heap.size<=l)
 (B:Blk w d 116 #[va]) (X:Blk w o 92 ca) (R:W5 w l CC)
 (p:Blk w u 92 #[.slice (some (aD a 0)) A.length v]) (hA:o≠u) (Z:Blk w V 40 #[.slice (some (aD l 0)) n n])
 (t:Blk w j 132 #[F]) (Y:Blk w y 143 #[M]) :
 ∃YY:Nat->Value,∀W,Fr2 d l (some o) w W->FacS N a v YY A n u V l j y F M W:=by
 obtain⟨L,h1,r,T⟩:=O;refine⟨fun i=>L.getD i (.slice none 0 0),fun W hF=>?_⟩;have keep:∀k I s,Blk G k I s->(I=3\/I=40)->Blk W k I s:=fun k I s D t=>by
  have P:=D.ext E
  have U:=D.lt
  refine hF.blk P (R3 P B ?_) om (fun e=>?_)
  . rcases t with rfl|rfl<;>decide
  cases e
  refine R3 P X ?_ rfl
  rcases t with rfl|rfl<;>decide
 obtain⟨L2,k1,K,x⟩:=I1.keep ⟨L,h1,r,T⟩ keep;have S:∀i,i<A.length->L2.getD i (.slice none 0 0)=L.getD i (.slice none 0 0):=fun i J=>by
  obtain⟨Q,c,h,-,C⟩:=r.shape
  obtain⟨aa,c2,z,-,hc2⟩:=K.shape
  simp only[Value.slice.injEq]at h z
  obtain⟨rfl,-,rfl⟩:=h
  obtain⟨rfl,-,rfl⟩:=z
  obtain⟨g,H,b⟩:=C i om
  obtain⟨g2,hb,he⟩:=hc2 i om
  cases H
  cases hb
  obtain⟨a1,a2,a3⟩:=r
  rcases a2.2 with⟨h,-⟩|⟨g',cap,f,h,hf,ha,-⟩
  cases h
  simp only[Value.slice.injEq,Option.some.injEq,Addr.mk.injEq,and_true]at h
  obtain⟨rfl,-,rfl⟩:=h
  have q:=keep a 40 f ha (Or.inr rfl)
  have e1:G.cell? (aD a i)=W.cell? (aD a i):=by
   unfold World.cell?;have q':W.heap[a]?=some (.cells f 40 (0,0)):=q;simp only[ha,q']
  rw[e1,he]at b
  exact(Option.some.inj b)
 refine⟨hF.blk p (R3 p B (by decide)) (R3 p R (by decide)) (fun e=>hA (by cases e;rfl)),⟨L2,k1,K,fun i J=>(x i J).2⟩,fun i J=>?_,hF.blk Z (R3 Z B (by decide)) (R3 Z R (by decide)) (fun e=>by cases e;exact R3 Z X (by decide) rfl),?_,?_⟩;obtain⟨Q,c,h,-,C⟩:=K.shape;simp only[Value.slice.injEq]at h;obtain⟨rfl,-,rfl⟩:=h;obtain⟨g,H,b⟩:=C i om;cases H;rw[S i J]at b;have m:=x i J;rw[S i J]at m;refine⟨b,m.2,fun e=>?_⟩;obtain⟨-,g,cap,s,q1,-,q3,-⟩:=m.1;rw[q1]at e;have e2:g=l:=(by simpa[Value.ownBlock]using e);have:=q3.lt;omega
 exact(hF.blk t (R3 t B (by decide)) (R3 t R (by decide)) (fun e=>by cases e;exact R3 t X (by decide) rfl)).cell (i:=0) rfl;exact(hF.blk Y (R3 Y B (by decide)) (R3 Y R (by decide)) (fun e=>by cases e;exact R3 Y X (by decide) rfl)).cell (i:=0) rfl
theorem l42(n:Nat):bm0 n (List.replicate n 0) (b9 []):=⟨zm,fun x K=>by simp[nth,List.getD,K,b9]⟩
theorem l43{C:LI}{X:LN}(h:bm0 n C (b9 (X.take j)))(J:j<X.length)(K:d5 X j<n):bm0 n (C.set (d5 X j) (nth C (d5 X j)+1)) (b9 (X.take (j+1))):=by
 refine⟨by rw[ql];exact h.1,fun y Y=>?_⟩;rw[cy5 (by rw[h.1];exact K),K9 X j J,bm1,List.count_append,List.count_singleton];have H:=h.2 y Y;rw[bm1]at H;by_cases e:d5 X j=y;subst e;rw[if_pos rfl,H];simp;have:(d5 X j == y)=false:=(by simpa using e);rw[if_neg e,H,this];simp
theorem zz25{P:Prop}(h:P:=by go_in;go_wp2_with fail;rw[<-Z.o];rw[s.o];rw[<-N.o];go_wp2_with(first|(go_at_call 262;refine K.mono ?_;rintro e G⟨n,rfl,g,I⟩;obtain⟨O,P,rfl,-⟩:=g.shape;have J:=I.alloc (.cells #[.slice O (atS l).length P] 92);have x:=z.trans J;have q:=C _ x)|(go_at_call 263;refine cm (c _ x) fun m M=>?_;have L:=J.trans M;have d:=b _ L));exact br (.tuple #[.slice (some (aD B.heap.size 0)) 0 0,.bool false]) ⟨⟨_,rfl,(T.ext L).mono F⟩,F.trans (z.trans L)⟩):P:=h
theorem cc5(h:c8 w v l)(U:c8 w u R)(f:R8 l R=false):Calls Tryz.prog 176 #[.agg #[v],u] w fun e Q=>(∃V,e=.returned (.tuple #[V,.bool false])/\G5 w Q V [])/\Ext w Q:=by
 obtain⟨B,Z,F,C,H,E,s⟩:=m04 42 h;clear h;have r:∀W,Ext B W->c8 W u R:=fun W D=>U.ext (F.trans D);obtain⟨aU,cU,aa,rfl,hc,hU,ha⟩:=U.op;clear hU ha U;have X:G5 B (B.alloc (.cells #[] 92)) (.slice (some (aD B.heap.size 0)) 0 0) []:=bg2 E;have z:=(E.alloc (.cells #[] 92)).alloc (.cells #[.slice (some (aD B.heap.size 0)) 0 0] 116);have Y:=C _ z;have k:((B.alloc (.cells #[] 92)).alloc (.cells #[.slice (some (aD B.heap.size 0)) 0 0] 116)).cell? (aD ((B.alloc (.cells #[] 92)).heap.size) 0)=some (.slice (some (aD B.heap.size 0)) 0 0):=(oq _ _ _).cell (i:=0) rfl;have S:(B.alloc (.cells #[] 92)).heap.size=B.heap.size+1:=zm;rw[S]at k;have T:=X.ext ((er _).alloc (.cells #[.slice (some (aD B.heap.size 0)) 0 0] 116));clear S X;obtain⟨wc,p⟩:=nq ((B.alloc (.cells #[] 92)).alloc (.cells #[.slice (some (aD B.heap.size 0)) 0 0] 116));rw[<-p]at z Y k T;have N:=zh p;clear p;have b:=fun W (D:Ext wc W)=>D.cell k;have c:=fun W (D:Ext B W)=>bo4 v _ l R W (H W D) (r W D);cases A:atB l
 . have K:=jj2 v l wc (H _ z) A;clear A f c;go_in;go_wp2_with fail;rw[<-Z.o];rw[s.o];rw[<-N.o];go_wp2_with(go_at_call 262;refine K.mono ?_;rintro e G⟨O,rfl,I⟩;have d:=b (G.alloc (.cells #[.slice O 0 0] 92)) (I.alloc _));have J:=I.alloc (.cells #[.slice O 0 0] 92);exact br (.tuple #[.slice (some (aD B.heap.size 0)) 0 0,.bool false]) ⟨⟨_,rfl,(T.ext J).mono F⟩,F.trans (z.trans J)⟩
 have K:=cq9 v l wc (H _ z) A;cases y:zsB l R;rw[y]at c;clear A f y;exact zz25;rw[y]at c;have j:¬R.length<=10:=fun j=>(by unfold R8 at f;rw[A,y,decide_eq_true j]at f;cases f);have hI:(10:Int)<(R.length:Int):=om;clear A f y j;exact zz25
theorem c61(r:LI)(w:World)(h:c8 w v l)(hu:c8 w u r)(hf:R8 l r=true):Calls Tryz.prog 176 #[.agg #[v],u] w fun e w'=>(∃v',e=.returned (.tuple #[v',.bool true])/\G5 w w' v' (U8 (atS l) (r.length+1) 0 r))/\Ext w w':=by
 obtain⟨B,Z,F,C,H,E,Hz⟩:=m04 42 h;clear h;have ak:∀W,Ext B W->c8 W u r:=fun W D=>hu.ext (F.trans D);obtain⟨hA,S,hl⟩:atB l=true/\zsB l r=true/\r.length<=10:=by unfold R8 at hf;simpa using hf
 obtain⟨Y,m⟩:d7 l=true/\ord l<=7:=by unfold atB at hA;simpa using hA
 have R:=zh Y;have cZ:=fun W (D:Ext B W)=>bo4 v _ l r W (H W D) (ak W D);have cO:=fun W (D:Ext B W)=>p9 v l W (H W D) R;simp only[S]at cZ;have hU:(atS l).length<=48:=by rw[br5];exact ce8 Y m
 have hz:∀a∈atS l,1<=a.length:=fun a ha=>(c66 Y m (cm4 ha)).1;have ho:∀a∈atS l,a.length<=50/\∀x∈a,x<ord l:=fun a ha=>by have:=c66 Y m (cm4 ha);exact⟨om,this.2.2⟩
 have hO:0<(atS l).length:=by rw[br5];rw[<-br5];exact(dx2 (cw8 Y m)).one
 have Hd:=zh (dv4 Y m (r.length+1) 0 hl);have ac:q8 l r=true:=by unfold zsB at S;simp only[ow]at S;exact S.1
 have av:¬(10:Int)<(r.length:Int):=om;obtain⟨X,rfl,hy,-,-,-⟩:=I9 ac;rw[d9]at hl av Hd|-;obtain⟨aU,cU,aB,rfl,hX,aa⟩:=hu.nats;have aE:=j2 (c:=cU) elI szI hX;have HU:=zh (fun W (D:Ext B W) i J=>aa i W J (F.trans D));have hK:G5 B (B.alloc (.cells #[] 92)) (.slice (some (aD B.heap.size 0)) 0 0) []:=bg2 E;have af:Blk (B.alloc (.cells #[] 92)) B.heap.size 92 #[]:=oq _ _ _;have z:=(E.alloc (.cells #[] 92)).alloc (.cells #[.slice (some (aD B.heap.size 0)) 0 0] 116);have ag:=C _ z;have hJ:(B.alloc (.cells #[] 92)).heap.size=B.heap.size+1:=zm;have BO:Blk ((B.alloc (.cells #[] 92)).alloc (.cells #[.slice (some (aD B.heap.size 0)) 0 0] 116)) (B.heap.size+1) 116 #[.slice (some (aD B.heap.size 0)) 0 0]:=by rw[<-hJ];exact oq _ _ _
 have eE:=(er (B.alloc (.cells #[] 92))).alloc (.cells #[.slice (some (aD B.heap.size 0)) 0 0] 116);have hr:=hK.ext eE;have Bo:=af.ext eE;obtain⟨wc,hs⟩:=nq ((B.alloc (.cells #[] 92)).alloc (.cells #[.slice (some (aD B.heap.size 0)) 0 0] 116));rw[<-hs]at z ag hr BO Bo;have Hc:=zh hs;have cA:=cq9 v l wc (H _ z) hA;obtain⟨A,ab⟩:=nq (atS l);rw[<-ab]at hU hz ho hO Hd cA|-;obtain⟨n,hT⟩:=nq (ord l);simp only[<-hT]at cO m ho hy;have He:=zh hz;have Hn:=zh ho;have Hh:=zh hy;have aA:∀(fn:Fn) (first cap:Array Value) (w:World),(Instr.makeFunc fn first cap).run Tryz.prog w=.ok (.func fn first cap) w:=fun _ _ _ _=>rfl;clear hs hK hJ eE af hA S hf Y ac hX aa hu ab hT hz ho hy;go_in;go_wp2_with fail;rw[<-Z.o];rw[Hz.o];rw[<-Hc.o];go_wp2_with(first|(go_at_call 262;refine cA.mono ?_;rintro e G⟨v1,rfl,hm,I⟩;obtain⟨az,P,rfl,-,aq⟩:=hm.shape;obtain⟨N,-,rfl,-,-⟩:=aq 0 hO;have hH:=I.alloc (.cells #[.slice (some (aD N 0)) A.length P] 92);have hn:=z.trans hH;have ai:=C _ hn)|(go_at_call 263;refine cm (cZ _ hn) fun w2 hc=>?_;have he:=hn.trans hc;have al:=C _ he)|(go_at_call 153;refine cm (cO _ he) fun w3 hh=>?_;have am:=he.trans hh)|(at_make;refine b10 slI rfl _ _ rfl _ _ n rfl rfl om (er _) ?_;intro w4 hM hw));obtain⟨s,d⟩:=nq (w4.alloc (.cells #[.slice (some (aD w3.heap.size 0)) n n] 40));rw[<-d];have s5:s.heap.size=w4.heap.size+1:=by rw[d];simp
 have eb:Ext w4 s:=by rw[d];exact(er _).alloc _
 have R4:W5 w4 w3.heap.size (List.replicate n 0):=j04 hM zm;have BL:Blk s w4.heap.size 40 #[.slice (some (aD w3.heap.size 0)) n n]:=by rw[d];exact oq _ _ _
 have s1:=(hm.ext ((er G).alloc (.cells #[.slice (some (aD N 0)) A.length P] 92)));have BA:Blk (G.alloc (.cells #[.slice (some (aD N 0)) A.length P] 92)) G.heap.size 92 #[.slice (some (aD N 0)) A.length P]:=oq _ _ _;have ee:=(er G).alloc (.cells #[.slice (some (aD N 0)) A.length P] 92);have f:Ext G s:=ee.trans (hc.trans (hh.trans (hw.trans eb)));have ec:Ext (G.alloc (.cells #[.slice (some (aD N 0)) A.length P] 92)) s:=hc.trans (hh.trans (hw.trans eb));have ea:Ext wc s:=I.trans f;have z1:G.heap.size<w3.heap.size:=nlt BA.lt (hc.trans hh).size;have za:w3.heap.size<w4.heap.size:=R4.lt;have hB:W5 s w3.heap.size (List.replicate n 0):=R4.ext eb;have Be:=BA.ext ec;have Bd:=BO.ext ea;have Bc:=Bo.ext ea;have ae:=hr.ext ea;have zo:B.heap.size<G.heap.size:=by have:=BO.lt;have:=I.size;omega
 have ef:Ext B s:=z.trans ea;have Hk:=zh hm;have Hg:=zh hB;have Hi:=zh f;have HA:=zh Be;have HO:=zh Bd;have Ho:=zh Bc;have HL:=zh BL;have Hj:=zh ae;have Hb:=zh ef;have ay:=bd6 w3.heap.size n n;clear d hM BL R4 s1 BA ee f ec ea eb hm Be Bd Bc ae hr BO Bo hw ai al hn he hH am cA cZ cO ef;go_loopw [11,39] (fun _ sj wr=>∃(j:Nat) (p:LI),j<=X.length/\sj=vi j/\bm0 n p (b9 (X.take j))/\W5 wr w3.heap.size p/\s.grownBy wr (some w3.heap.size)) (fun _ sj _=>X.length-(RowKit.intOf sj).toNat);exact⟨0,_,om,rfl,l42 n,hB,bq4 _ _⟩
 clear hB;obtain⟨j,p,hj,rfl,M,Q,T⟩:=hrel;have ah:Ext B wr:=Hb.o.grown T (fun g H=>by cases H;have:=Hb.o.size;have:=zo;have:=z1;omega);have kL:wr.cell? (aD w4.heap.size 0)=some (.slice (some (aD w3.heap.size 0)) n n):=(HL.o.grown T (fun g H e=>by cases H;omega)).cell (i:=0) rfl;by_cases U:j<X.length
 . have aj:(j:Int)<(X.length:Int):=om;have ap:=HU.o wr ah j U;have K:=Hh.o _ (m7 U);have hI:p.length=n:=M.1;have ht:=l43 M U K;have hS:=Q.cell (i:=d5 X j) om;have hL:0<=nth p (d5 X j)/\nth p (d5 X j)<=10:=dr8 M (by rw[d9,ol];omega) _;have ao:=Q.fr (d5 X j);have hp:=Q.set (d5 X j) (nth p (d5 X j)+1);have hq:=c11 T (Nw.refl _ _) (dh5 wr w3.heap.size (d5 X j) (vi (nth p (d5 X j)+1)));obtain⟨x,hQ⟩:=nq (d5 X j);rw[<-hQ]at ap K ht hS hL ao hp hq;obtain⟨y,hV⟩:=nq (nth p x);rw[<-hV]at ht hS hL hp hq;have aC:IntKind.i64.wrap (y+1)=y+1:=oD _ om;have Ht:=zh ht;have Ha:=zh hp;have Hf:=zh hq;have Hl:=zh hI;clear hQ hV M Q ht hp hq hI;go_wp2_with fail;go_roundw;exact⟨j+1,_,om,zg,Ht.o,Ha.o,Hf.o⟩;(simp[RowKit.intOf];omega)
 have aj:¬(j:Int)<(X.length:Int):=om;have an:j=X.length:=om;subst an;rw[oz]at M;have HC:=zh M;have HR:=zh Q;have O:=zh T;clear M Q T;go_wp2_with fail;obtain⟨b,m⟩:=nq (wr.alloc (.cells #[.func (.func 264) #[] #[.pointer (some (aD w4.heap.size 0))]] 132));rw[<-m];obtain⟨w8,h8⟩:=nq (b.alloc (.cells #[.func (.func 265) #[] #[.pointer (some (aD G.heap.size 0)),.pointer (some (aD (B.heap.size+1) 0)),.pointer (some (aD wr.heap.size 0)),.pointer (some (aD (wr.heap.size+1) 0))]] 143));rw[<-h8];have ax:b.heap.size=wr.heap.size+1:=(by rw[m];simp);have BT:Blk b wr.heap.size 132 #[.func (.func 264) #[] #[.pointer (some (aD w4.heap.size 0))]]:=(by rw[m];exact oq _ _ _);have BY:Blk w8 (wr.heap.size+1) 143 #[.func (.func 265) #[] #[.pointer (some (aD G.heap.size 0)),.pointer (some (aD (B.heap.size+1) 0)),.pointer (some (aD wr.heap.size 0)),.pointer (some (aD (wr.heap.size+1) 0))]]:=(by rw[h8,<-ax];exact oq _ _ _);have e7:Ext wr b:=(by rw[m];exact(er _).alloc _);have e8:Ext b w8:=(by rw[h8];exact(er _).alloc _);obtain⟨w9,h9⟩:=nq (w8.alloc (.cells #[] 3));rw[<-h9];have e9:Ext w8 w9:=(by rw[h9];exact(er _).alloc _);clear m h8 h9;have L:=e7.trans (e8.trans e9);have f:=(Hi.o.grown O.o (fun g H=>by cases H;omega)).trans L;have Bg:=(HA.o.grown O.o (fun g H e=>by cases H;omega)).ext L;have Bb:=(HO.o.grown O.o (fun g H e=>by cases H;omega)).ext L;have Bh:=(Ho.o.grown O.o (fun g H e=>by cases H;omega)).ext L;have Bf:=(HL.o.grown O.o (fun g H e=>by cases H;omega)).ext L;have aw:=((Hj.o.row Hg.o O.o).ext L).mono F;have hD:=HR.o.ext L;have ed:Ext w w9:=F.trans ((Hb.o.grown O.o (fun g H=>by cases H;omega)).trans L);have zw:=F.size;obtain⟨YY,hY⟩:=lj8 Hk.o f om Bb Bh hD Bg om Bf ((BT.ext e8).ext e9) (BY.ext e9);have ad:∀k,some B.heap.size=some k->w.heap.size<=k:=fun k V=>by cases V;omega
 have q:=le3 N P YY A n G.heap.size (B.heap.size+1) w4.heap.size wr.heap.size (wr.heap.size+1) w3.heap.size (some B.heap.size) wc w w9 hU He.o Hn.o (zh hY) ed om om ad hD.lt
  (X.length+1) 0 (b9 X) [] [] p (.slice (some (aD (wr.heap.size+1+1) 0)) 0 0) (.slice (some (aD B.heap.size 0)) 0 0) w9 (by rw[d9];omega) (by rw[d9];simp;omega) om (Fr2.refl _ _ _ _) (Or.inl rfl) (Or.inl ⟨rfl,_,_,rfl⟩) zm Bb aw hD HC.o (by have:=Hd.o;simp;omega)
 rw[d9,show((0:Nat):Int)=0 from rfl]at q;have eF:([]:LN)++(U8 A (X.length+1) 0 (b9 X)).map (([]:LN).length + ·)=U8 A (X.length+1) 0 (b9 X):=zm;rw[eF]at q;obtain⟨FF,hF⟩:=nq (U8 A (X.length+1) 0 (b9 X));rw[<-hF]at q;have HF:=zh hF;refine od q ?_;rintro e wz⟨rfl,vF,hP⟩;obtain⟨ar,hN,-,au,-⟩:=hP;obtain⟨aF,cF,rfl,-⟩:=hN.shape;have kF:=ar.cell (i:=0) (v:=.slice aF FF.length cF) rfl;have ez:=au.ext ed om om ad;clear q eF hF;go_wp2_with fail;exact br (.tuple #[.slice aF FF.length cF,.bool true]) ⟨⟨_,rfl,by rw[<-HF.o];exact hN⟩,ez⟩
theorem bg9(h:c8 w v l)(H:c8 w u R):Calls Tryz.prog 176 #[.agg #[v],u] w fun e W=>(∃V,e=.returned (.tuple #[V,.bool (R8 l R)])/\G5 w W V (P3 l R))/\Ext w W:=by
 cases f:R8 l R;rw[c35 f];exact cc5 v u l R w h H f;have e:P3 l R=U8 (atS l) (R.length+1) 0 R:=(by unfold P3;rw[f];rfl);rw[e];exact c61 v u l R w h H f
theorem dl7(h:c8 w v l)(H:c8 w u R):Calls Tryz.prog 177 #[.agg #[v],u] w fun e P=>(∃V,e=.returned V/\Own 3 w P V (b9 (V3 (P3 l R))))/\Ext w P :=
 do7 v u l R w h H fun W o r=>bg9 v u l R W o r
theorem dp8:∀(L:LN) (m n:Nat),L.Pairwise (· < ·)->(∀x∈L,m<=x/\x<=n)->L.length<=n+1-m
 |[],_,_,_,_=>oX _
 |x :: L,m,n,h,hb=>by
  rw[qj]at h
  have o:=hb x zm
  have:=dp8 L (x+1) n h.2 fun y H=>⟨h.1 y H,(hb y (by simp[H])).2⟩
  rw[oy];omega
theorem cx4:(∀i,i<(b9 (V3 (P3 l R))).length -> -9<=nth (b9 (V3 (P3 l R))) i/\nth (b9 (V3 (P3 l R))) i<1000000000000)/\(b9 (V3 (P3 l R))).length<=40:=by
 have C:∀x∈V3 (P3 l R),0<=x/\x<=10:=fun x K=>⟨oX _,dg9 x ((cx5 _ x).1 K)⟩;constructor;intro i J;rw[d9]at J;rw[P7];have:=C _ (m7 J);omega;rw[d9];have:=dp8 _ 0 10 (dy7 (P3 l R)) C;omega
theorem j56{l:LI}{X:LN}(H:X.length<=12)(h:∀x∈X,x<24):(∀i,i<(b9 (szR l X)).length -> -9<=nth (b9 (szR l X)) i/\nth (b9 (szR l X)) i<1000000000000)/\(b9 (szR l X)).length<=40:=by
 have k:(∀x∈szR l X,x<24)/\(szR l X).length<=36:=by
  unfold szR bp2;split;simp;have:=la6 X (szN l X);exact⟨fun x K=>h x (b22 K),om⟩
 constructor;intro i J;rw[d9]at J;rw[P7];have:=k.1 _ (m7 J);omega;rw[d9];omega
theorem ju6(s:Ba)(f:Nat->Ba)(S:s.size<=1):∀k,(∀i,i<k->(f i).size<=27)->(jn s f k).size<=28*k
 |0,_=>oc _
 |1,h=>by
  have:=h 0 om
  rw[b29,oe]
  have e:(⟨#[]⟩:Ba).size=0:=rfl
  omega
 |k+2,h=>by
  have I:=ju6 s f S (k+1) fun i J=>h i om
  have:=h (k+1) om
  rw[b42 s f om,oe,oe];omega
theorem jf6(x:LI):(fqF l x).size<=400:=by
 cases S:q8 l x;rw[c37 S];decide;obtain⟨X,rfl,-,d,-,H⟩:=I9 S;by_cases h:X.length=0;rw[bk1 S (by rw[d9];exact h)];decide;rw[bs1 S h];have f:=bf7 X X.length;have:=ju6 sp1 (m8 (fqL X X.length)) (by decide) (fqL X X.length).length (fun i J=>bd8 (X:=X) om H X.length (oc _) _ (J8 J));omega
theorem jf7(a:Int):(fsF l a).size<=560:=by
 cases h:j0 l a;rw[bn4 h];decide;exact zz142
theorem cp9(h:c8 w v l)(U:c8 w u (b9 X))(S:q8 l (b9 X)=true):Calls Tryz.prog 173 #[.agg #[v],u] w (RE w (vi (tot l X:Nat))):=by
 obtain⟨B,Z,F,C,H,E,T⟩:=m04 42 h;clear h;obtain⟨-,Y,x⟩:=b55 S;have y:∀W,Ext B W->c8 W u (b9 X):=fun W D=>U.ext (F.trans D);have s:=fun W (D:Ext B W)=>F6 v u l (b9 X) W (H W D) (y W D) S;have c:=fun W (D:Ext B W)=>ba5 v u l X W (H W D) (y W D) (zh Y) (zh x);have b:=C B E;obtain⟨n,N⟩:=nq (tot l X);simp only[<-N]at c|-;clear x Y S U N;go_in;go_wp2_with fail;rw[<-Z.o];go_wp2_with(first|(go_at_call 172;refine cm (s _ E) fun G z=>?_;have J:=C _ z)|(go_at_call 259;refine cm (c _ z) fun m I=>?_));go_ret;exact⟨rfl,F.trans (z.trans I)⟩
theorem dl9(h:c8 w v l)(U:c8 w u (b9 X))(S:q8 l (b9 X)=true):Calls Tryz.prog 174 #[.agg #[v],u] w (RE w (vi (sbs l X:Nat))):=by
 obtain⟨B,Z,F,C,H,E,T⟩:=m04 42 h;clear h;obtain⟨-,Y,x⟩:=b55 S;have y:∀W,Ext B W->c8 W u (b9 X):=fun W D=>U.ext (F.trans D);have s:=fun W (D:Ext B W)=>F6 v u l (b9 X) W (H W D) (y W D) S;have c:=fun W (D:Ext B W)=>ct8 v u l X W (H W D) (y W D) (zh Y) (zh x);have b:=C B E;obtain⟨n,N⟩:=nq (sbs l X);simp only[<-N]at c|-;clear x Y S U N;go_in;go_wp2_with fail;rw[<-Z.o];go_wp2_with(first|(go_at_call 172;refine cm (s _ E) fun G z=>?_;have J:=C _ z)|(go_at_call 260;refine cm (c _ z) fun m I=>?_));go_ret;exact⟨rfl,F.trans (z.trans I)⟩
def bj2(A B C D E:Ba)(b Q S U:Bool):Ba:=(((if Q then(((if b then((((((((⟨#[115,101,113,117,101,110,99,101,32]⟩:Ba)++A)++(⟨#[32,115,117,109,32]⟩:Ba))++B)++(⟨#[32,115,117,98,115,117,109,115,32]⟩:Ba))++C)++(⟨#[32,115,104,111,114,116,101,115,116,32]⟩:Ba))++D)else((((((⟨#[115,101,113,117,101,110,99,101,32]⟩:Ba)++A)++(⟨#[32,115,117,109,32]⟩:Ba))++B)++(⟨#[32,115,117,98,115,117,109,115,32]⟩:Ba))++C))++(⟨#[32,108,101,110,103,116,104,115,32]⟩:Ba))++E)else(if b then((((((((⟨#[115,101,113,117,101,110,99,101,32]⟩:Ba)++A)++(⟨#[32,115,117,109,32]⟩:Ba))++B)++(⟨#[32,115,117,98,115,117,109,115,32]⟩:Ba))++C)++(⟨#[32,115,104,111,114,116,101,115,116,32]⟩:Ba))++D)else((((((⟨#[115,101,113,117,101,110,99,101,32]⟩:Ba)++A)++(⟨#[32,115,117,109,32]⟩:Ba))++B)++(⟨#[32,115,117,98,115,117,109,115,32]⟩:Ba))++C)))++(if S then(⟨#[32,97,116,111,109]⟩:Ba)else(⟨#[]⟩:Ba)))++(if U then(⟨#[32,102,114,101,101]⟩:Ba)else(⟨#[]⟩:Ba)))
noncomputable def sqlF (l xs:LI):Ba :=
 if q8 l xs then
  bj2 (fqF l xs) (j8 (tot l (xs.map Int.toNat):Nat)) (fsF l (sbs l (xs.map Int.toNat):Nat)) (H6 (b9 (szR l (xs.map Int.toNat)))) (H6 (b9 (V3 (P3 l xs)))) (szB l (xs.map Int.toNat)) (R8 l xs) (b27 l xs) (zfB l xs)
 else⟨#[]⟩
theorem j47{l x:LI}(h:q8 l x=false):sqlF l x=⟨#[]⟩:=by unfold sqlF;rw[h];rfl
theorem cp0{l:LI}{X:LN}(h:q8 l (b9 X)=true):sqlF l (b9 X)=bj2 (fqF l (b9 X)) (j8 (tot l X:Nat)) (fsF l (sbs l X:Nat)) (H6 (b9 (szR l X))) (H6 (b9 (V3 (P3 l (b9 X))))) (szB l X) (R8 l (b9 X)) (b27 l (b9 X)) (zfB l (b9 X)):=by
 unfold sqlF;rw[if_pos h,bn1]
theorem lc3(A B C D E:Ba)(b Q:Bool):(if Q then F4 [(if b then F4 [F4 [(⟨#[115,101,113,117,101,110,99,101]⟩:Ba),A,(⟨#[115,117,109]⟩:Ba),B,(⟨#[115,117,98,115,117,109,115]⟩:Ba),C],(⟨#[115,104,111,114,116,101,115,116]⟩:Ba),D]else F4 [(⟨#[115,101,113,117,101,110,99,101]⟩:Ba),A,(⟨#[115,117,109]⟩:Ba),B,(⟨#[115,117,98,115,117,109,115]⟩:Ba),C]),(⟨#[108,101,110,103,116,104,115]⟩:Ba),E]else(if b then F4 [F4 [(⟨#[115,101,113,117,101,110,99,101]⟩:Ba),A,(⟨#[115,117,109]⟩:Ba),B,(⟨#[115,117,98,115,117,109,115]⟩:Ba),C],(⟨#[115,104,111,114,116,101,115,116]⟩:Ba),D]else F4 [(⟨#[115,101,113,117,101,110,99,101]⟩:Ba),A,(⟨#[115,117,109]⟩:Ba),B,(⟨#[115,117,98,115,117,109,115]⟩:Ba),C]))=(if Q then(((if b then((((((((⟨#[115,101,113,117,101,110,99,101,32]⟩:Ba)++A)++(⟨#[32,115,117,109,32]⟩:Ba))++B)++(⟨#[32,115,117,98,115,117,109,115,32]⟩:Ba))++C)++(⟨#[32,115,104,111,114,116,101,115,116,32]⟩:Ba))++D)else((((((⟨#[115,101,113,117,101,110,99,101,32]⟩:Ba)++A)++(⟨#[32,115,117,109,32]⟩:Ba))++B)++(⟨#[32,115,117,98,115,117,109,115,32]⟩:Ba))++C))++(⟨#[32,108,101,110,103,116,104,115,32]⟩:Ba))++E)else(if b then((((((((⟨#[115,101,113,117,101,110,99,101,32]⟩:Ba)++A)++(⟨#[32,115,117,109,32]⟩:Ba))++B)++(⟨#[32,115,117,98,115,117,109,115,32]⟩:Ba))++C)++(⟨#[32,115,104,111,114,116,101,115,116,32]⟩:Ba))++D)else((((((⟨#[115,101,113,117,101,110,99,101,32]⟩:Ba)++A)++(⟨#[32,115,117,109,32]⟩:Ba))++B)++(⟨#[32,115,117,98,115,117,109,115,32]⟩:Ba))++C))):=by
 apply b20;cases b<;>cases Q<;>simp[F4,jn,m8,spB,List.getD]
theorem cu9(h:c8 w v l)(J:c8 w u xs):Calls Tryz.prog 65 #[.agg #[v],u] w (RE w (.string (sqlF l xs))):=by
 obtain⟨B,Z,F,C,H,E,Hz⟩:=m04 42 h;clear h;have ah:=C B E;have g:∀W,Ext B W->c8 W u xs:=fun W D=>J.ext (F.trans D);cases S:q8 l xs
 . have c:=fun W (D:Ext B W)=>F6 v u l xs W (H W D) (g W D) S;have N:=zh (j47 S);clear g J;go_in;go_wp2_with fail;rw[<-Z.o];refine cm (c _ E) fun G z=>?_;exact zz49
 obtain⟨X,rfl,-,-,-,-⟩:=I9 S;obtain⟨hy,Y,y⟩:=b55 S;have U:=g;have hI:=bj1 Y X y;have ab:=bo1 Y X;have R:=j56 (l:=l) hy y;have L:=cx4 l (b9 X);have N:=zh (cp0 S);have sA:=jf6 l (b9 X);have sB:=m9 (n:=((tot l X:Nat):Int)) om;have sC:=jf7 l (sbs l X:Nat);have sD:=J3 R.1 R.2;have sE:=J3 L.1 L.2;have c:=fun W (D:Ext B W)=>F6 v u l (b9 X) W (H W D) (U W D) S;have cA:=fun W (D:Ext B W)=>bm9 v u l (b9 X) W (H W D) (U W D);have cd:=fun W (D:Ext B W)=>cp9 v u l X W (H W D) (U W D) S;have j:=fun W=>C0 ((tot l X:Nat):Int) om W;have ce:=fun W (D:Ext B W)=>dl9 v u l X W (H W D) (U W D) S;have T:=fun W (D:Ext B W)=>I7 v l (sbs l X:Nat) W (H W D);have cZ:=fun W (D:Ext B W)=>bd5 v u l X W (H W D) (U W D) S;have cD:=fun p W (P:c8 W p (b9 (szR l X)))=>b97 p (b9 (szR l X)) W P R.1 om;have cL:=fun W (D:Ext B W)=>dl7 v u l (b9 X) W (H W D) (U W D);have t:=fun p W (P:c8 W p (b9 (V3 (P3 l (b9 X)))))=>b97 p (b9 (V3 (P3 l (b9 X)))) W P L.1 om;have c3:=fun W (D:Ext B W)=>d11 v u l (b9 X) W (H W D) (U W D);have c4:=fun W (D:Ext B W)=>d92 v u l (b9 X) W (H W D) (U W D);have M:=fun W (D:Ext B W)=>bg9 v u l (b9 X) W (H W D) (U W D);obtain⟨b2,i⟩:=nq (R8 l (b9 X));rw[<-i]at N;simp only[<-i]at M;obtain⟨fv,hv⟩:=nq (P3 l (b9 X));simp only[<-hv]at M;clear hv;obtain⟨b3,hf⟩:=nq (b27 l (b9 X));obtain⟨b4,hh⟩:=nq (zfB l (b9 X));rw[<-hf,<-hh]at N;simp only[<-hf]at c3;simp only[<-hh]at c4;obtain⟨b1,Q⟩:=nq (szB l X);rw[<-Q]at N;simp only[<-Q]at cZ;obtain⟨A,K⟩:=nq (fqF l (b9 X));obtain⟨BB,b⟩:∃x,x=j8 ((tot l X:Nat):Int):=⟨_,rfl⟩;obtain⟨CC,k⟩:∃x,x=fsF l (sbs l X:Nat):=⟨_,rfl⟩;obtain⟨DD,d⟩:=nq (H6 (b9 (szR l X)));obtain⟨EE,V⟩:∃x,x=H6 (b9 (V3 (P3 l (b9 X)))):=⟨_,rfl⟩;rw[<-K,<-b,<-k,<-d,<-V]at N;simp only[<-K]at cA sA;simp only[<-b]at j sB;simp only[<-k]at T sC;simp only[<-d]at cD sD;simp only[<-V]at t sE;obtain⟨tn,ht⟩:=nq (tot l X);obtain⟨sn,hq⟩:=nq (sbs l X);obtain⟨zl,hl⟩:=nq (b9 (szR l X));obtain⟨ll,hm⟩:=nq (b9 (V3 (P3 l (b9 X))));simp only[<-ht]at cd j;simp only[<-hq]at ce T;simp only[<-hl]at cZ cD;simp only[<-hm]at cL t;obtain⟨aU,cU,ai,rfl,hV,hY⟩:=(U _ E).nats;clear hV hY;clear Q i hf hh K b k d V ht hq hl hm hI ab R L S y Y g U J;obtain⟨X0,ha,cc⟩:=be1 [(⟨#[115,101,113,117,101,110,99,101]⟩:Ba),A,(⟨#[115,117,109]⟩:Ba),BB,(⟨#[115,117,98,115,117,109,115]⟩:Ba),CC] (by simp[o5];omega);have z0:X0.size<=1200:=ha ▸ nle (b64 _) (by simp[K3,o5];omega);simp only[ph,pj,oy,oI,Nat.reduceAdd,oM]at cc;obtain⟨X1,hj,q,ca⟩:=N8 X0 b1 [(⟨#[115,104,111,114,116,101,115,116]⟩:Ba),DD] _ z0 (by simp[o5];omega) (by simp[K3,o5];omega);replace q:X1.size<=1800:=nle q (by simp[K3,o5];omega);simp only[ph,pj,oy,oI,Nat.reduceAdd,oM]at ca;obtain⟨X2,hk,r,cb⟩:=N8 X1 b2 [(⟨#[108,101,110,103,116,104,115]⟩:Ba),EE] _ q (by simp[o5];omega) (by simp[K3,o5];omega);replace r:X2.size<=2400:=nle r (by simp[K3,o5];omega);simp only[ph,pj,oy,oI,Nat.reduceAdd,oM]at cb;obtain⟨X3,hr,z3,ch⟩:=N8 X2 b3 [(⟨#[97,116,111,109]⟩:Ba)] _ r (by simp[o5]) (by simp[K3,o5]);simp only[ph,pj,oy,oI,Nat.reduceAdd,oM]at ch;obtain⟨X4,ho,-,cg⟩:=N8 X3 b4 [(⟨#[102,114,101,101]⟩:Ba)] _ z3 (by simp[o5]) (by simp[K3,o5]);simp only[ph,pj,oy,oI,Nat.reduceAdd,oM]at cg;have Hn:Hid (sqlF l (b9 X)=X4):=zh (by
  rw[ho,b98 X3 b4 (⟨#[102,114,101,101]⟩:Ba) (⟨#[32,102,114,101,101]⟩:Ba) rfl,hr,b98 X2 b3 (⟨#[97,116,111,109]⟩:Ba) (⟨#[32,97,116,111,109]⟩:Ba) rfl,hk,hj,ha,lc3,N.o,bj2])
 clear ha hj hk hr ho z0 q r z3 sA sB sC sD sE N;go_in;go_wp2_with fail;rw[<-Z.o];refine cm (c _ E) fun m V=>?_;replace E:=E.trans V;clear V c;have kb:=sh E C;go_wp2_with fail;have d:=(er m).drew;first|(go_region_held3 (fun W=>Ext m W/\W.cell? (aD w.heap.size 0)=some v) (exact⟨xq,kb _ xq⟩) (first|(go_at_call 162;((first|(with_reducible refine od (cA _ (E.trans xq)) ?_));rintro e f⟨rfl,y⟩;have O:=og (a:=m) xq y))|(go_at_call 173;((first|(with_reducible refine od (cd _ (E.trans xq)) ?_));rintro e f⟨rfl,y⟩;have O:=og (a:=m) xq y))|(go_at_call 77;((first|(with_reducible refine od (j _) ?_));rintro e f⟨rfl,y⟩;have O:=og (a:=m) xq y))|(go_at_call 174;((first|(with_reducible refine od (ce _ (E.trans xq)) ?_));rintro e f⟨rfl,y⟩;have O:=og (a:=m) xq y))|(go_at_call 73;((first|(with_reducible refine od (T _ (E.trans xq)) ?_));rintro e f⟨rfl,y⟩;have O:=og (a:=m) xq y))|(go_at_call 76;((with_reducible refine od (cc _) ?_);rintro e wL⟨rfl,y⟩;have hR:=og (a:=m) xq y))))|(fail "the region")
 have I:=E.trans hR;have kd:=C _ I
 go_wp2_with(first
  |(go_at_call 175;refine(cZ _ I).mono ?_;rintro e w6⟨p,rfl,hP,hO⟩;obtain⟨aP,cP,rfl,-⟩:=hP.shape;have hw:=I.trans hO)
  |(go_at_call 165;with_reducible refine cm (cD _ _ hP.ints) fun w7 ae=>?_;have hz:=hw.trans ae)
  |(go_at_call 82;with_reducible refine cm (ca _) fun w8 hZ=>?_;have he:=hz.trans (og ((er _).alloc _) hZ);have kc:=C _ he)
  |(go_at_call 176;refine(M _ he).mono ?_;rintro e w9⟨⟨vF,rfl,hJ⟩,hN⟩;obtain⟨aF,ci,rfl,-⟩:=hJ.shape;have hc:=he.trans hN;have ka:=C _ hc)
  |(go_at_call 177;refine(cL _ hc).mono ?_;rintro e wa⟨⟨vL,rfl,hL⟩,hS⟩;obtain⟨aL,cv,rfl,-⟩:=hL.shape;have hx:=hc.trans hS)
  |(go_at_call 165;with_reducible refine cm (t _ _ hL.ints) fun we aa=>?_;have hT:=hx.trans aa)
  |(go_at_call 82;with_reducible refine cm (cb _) fun wd hM=>?_;have s:=hT.trans (og ((er _).alloc _) hM);have ke:=C _ s)
  |(go_at_call 178;refine cm (c3 _ s) fun wh ag=>?_;have hK:=s.trans ag)
  |(go_at_call 82;with_reducible refine cm (ch _) fun wg ac=>?_;have hi:=hK.trans (og ((er _).alloc _) ac);have kf:=C _ hi)
  |(go_at_call 179;refine cm (c4 _ hi) fun wf af=>?_;have hG:=hi.trans af)
  |(go_at_call 82;with_reducible refine cm (cg _) fun wi ad=>?_;have hQ:=hG.trans (og ((er _).alloc _) ad)))
 go_ret;exact⟨j5 Hn.o.symm,F.trans hQ⟩
theorem zz4{P:Prop}(h:P:=by refine wl E ?_;(repeat(go_big_quiet_step(first|(go_at_call 121;with_reducible exact oa (c3 _ (j.trans (c9 b _))))|(go_at_call 122;with_reducible exact oa (f _ (j.trans (c9 b _))))|(go_at_call 107;first|with_reducible exact oT (i _)|with_reducible exact oT (y _)))));refine zd fun W E=>?_;go_wp2_with fail;go_ret;exact⟨j5 (by rw[N.o,Hc.o,Ha.o,d.o,bj2];rfl),F.trans (j.trans E)⟩):P:=h
theorem zz36{P:Prop}(h:P:=by refine wl E ?_;(repeat(go_big_quiet_step(first|(go_at_call 121;with_reducible exact oa (c3 _ (a.trans (c9 K _))))|(go_at_call 122;with_reducible exact oa (f _ (a.trans (c9 K _))))|(go_at_call 107;first|with_reducible exact oT (i _)|with_reducible exact oT (y _)))));refine zd fun W E=>?_;go_wp2_with fail;go_ret;exact⟨j5 (by rw[N.o,Hc.o,Ha.o,d.o,bj2];rfl),F.trans (a.trans E)⟩):P:=h
theorem zz37{P:Prop}(h:P:=by refine wl E ?_;(repeat(go_big_quiet_step(first|(go_at_call 121;with_reducible exact oa (c3 _ (r.trans (c9 m _))))|(go_at_call 122;with_reducible exact oa (f _ (r.trans (c9 m _))))|(go_at_call 107;first|with_reducible exact oT (i _)|with_reducible exact oT (y _)))));refine zd fun W E=>?_;go_wp2_with fail;go_ret;exact⟨j5 (by rw[N.o,Hc.o,Ha.o,d.o,bj2];rfl),F.trans (r.trans E)⟩):P:=h
theorem cq8(h:c8 w v l)(hu:c8 w u xs):Calls Tryz.prog 46 #[.agg #[v],u] w (RE w (.string (sqlF l xs))):=by
 obtain⟨B,Z,F,C,H,E,Hz⟩:=m04 42 h;clear h;have hQ:=C B E;have he:∀W,Ext B W->c8 W u xs:=fun W D=>hu.ext (F.trans D);cases S:q8 l xs
 . have cQ:=fun W (D:Ext B W)=>F5 v u l xs W (H W D) (he W D) S;have N:=zh (j47 S);clear he hu;go_in;go_wp2_with fail;rw[<-Z.o];refine cm (cQ _ E) fun G z=>?_;exact zz49
 obtain⟨X,rfl,-,-,-,-⟩:=I9 S;obtain⟨hK,Y,hX⟩:=b55 S;have q:=he;have hM:=bj1 Y X hX;have hP:=bo1 Y X;have hr:=j56 (l:=l) hK hX;have hv:=cx4 l (b9 X);have N:=zh (cp0 S);have sA:=jf6 l (b9 X);have sB:=m9 (n:=((tot l X:Nat):Int)) om;have sC:=jf7 l (sbs l X:Nat);have sD:=J3 hr.1 hr.2;have sE:=J3 hv.1 hv.2;have cQ:=fun W (D:Ext B W)=>F5 v u l (b9 X) W (H W D) (q W D) S;have cA:=fun W (D:Ext B W)=>bj6 v u l (b9 X) W (H W D) (q W D);have ca:=fun W (D:Ext B W)=>b63 v u l X W (H W D) (q W D) (zh Y) (zh hX);have cB:=fun W=>o8 ((tot l X:Nat):Int) om W;have cb:=fun W (D:Ext B W)=>bb0 v u l X W (H W D) (q W D) (zh Y) (zh hX);have cC:=fun W (D:Ext B W)=>F8 v l (sbs l X:Nat) W (H W D);have t:=fun W (D:Ext B W)=>bc2 v u l X W (H W D) (q W D) S;have cD:=fun p W (hp:c8 W p (b9 (szR l X)))=>b72 p (b9 (szR l X)) W hp hr.1 om;have cL:=fun W (D:Ext B W)=>dd5 v u l (b9 X) W (H W D) (q W D);have cE:=fun p W (hp:c8 W p (b9 (V3 (P3 l (b9 X)))))=>b72 p (b9 (V3 (P3 l (b9 X)))) W hp hv.1 om;have c3:=fun W (D:Ext B W)=>ja3 v u l (b9 X) W (H W D) (q W D);have f:=fun W (D:Ext B W)=>d69 v u l (b9 X) W (H W D) (q W D);have s:=fun W (D:Ext B W)=>bl4 v u l (b9 X) W (H W D) (q W D);have cO:=fun W (D:Ext B W)=>o4 v l W (H W D) (zh Y);obtain⟨R,hi⟩:=nq (R8 l (b9 X));have hc:R=(decide (ord l<=7)&&(zsB l (b9 X)&&decide (X.length<=10))):=by rw[hi];unfold R8 atB;rw[Y,d9,qe]
 rw[<-hi]at N;obtain⟨zb,ho⟩:=nq (zsB l (b9 X));simp only[<-ho]at s;rw[<-ho]at hc;have hJ:=l8 Y;obtain⟨on,hw⟩:=nq (ord l);simp only[<-hw]at cO;rw[<-hw]at hc hJ;clear ho hw;obtain⟨b3,hj⟩:=nq (b27 l (b9 X));obtain⟨b4,hk⟩:=nq (zfB l (b9 X));rw[<-hj,<-hk]at N;simp only[<-hj]at c3;simp only[<-hk]at f;obtain⟨b1,hh⟩:=nq (szB l X);rw[<-hh]at N;simp only[<-hh]at t;obtain⟨A,hA⟩:=nq (fqF l (b9 X));obtain⟨BB,hB⟩:∃x,x=j8 ((tot l X:Nat):Int):=⟨_,rfl⟩;obtain⟨CC,hC⟩:∃x,x=fsF l (sbs l X:Nat):=⟨_,rfl⟩;obtain⟨DD,hD⟩:=nq (H6 (b9 (szR l X)));obtain⟨EE,hf⟩:∃x,x=H6 (b9 (V3 (P3 l (b9 X)))):=⟨_,rfl⟩;rw[<-hA,<-hB,<-hC,<-hD,<-hf]at N;simp only[<-hA]at cA sA;simp only[<-hB]at cB sB;simp only[<-hC]at cC sC;simp only[<-hD]at cD sD;simp only[<-hf]at cE sE;obtain⟨tn,hH⟩:=nq (tot l X);obtain⟨sn,hG⟩:=nq (sbs l X);obtain⟨zl,hy⟩:=nq (b9 (szR l X));obtain⟨ll,hz⟩:=nq (b9 (V3 (P3 l (b9 X))));simp only[<-hH]at ca cB;simp only[<-hG]at cb cC;simp only[<-hy]at t cD;simp only[<-hz]at cL cE;obtain⟨aU,cU,aa,rfl,hN,hO⟩:=(q _ E).nats;clear hN hO;clear hh hi hj hk hA hB hC hD hf hH hG hy hz hM hP hr hv S hX Y he q hu;have i:=fun W=>bt1 b3 (⟨#[32,97,116,111,109]⟩:Ba) W;have zc:(if b3 then(⟨#[32,97,116,111,109]⟩:Ba)else(⟨#[]⟩:Ba)).size<=20:=by cases b3<;>decide
 obtain⟨y0,hq⟩:∃x,x=(if b3 then(⟨#[32,97,116,111,109]⟩:Ba)else(⟨#[]⟩:Ba)):=⟨_,rfl⟩;rw[<-hq]at i zc;have Hc:=zh hq;clear hq;have y:=fun W=>bt1 b4 (⟨#[32,102,114,101,101]⟩:Ba) W;have za:(if b4 then(⟨#[32,102,114,101,101]⟩:Ba)else(⟨#[]⟩:Ba)).size<=20:=by cases b4<;>decide
 obtain⟨y1,hl⟩:∃x,x=(if b4 then(⟨#[32,102,114,101,101]⟩:Ba)else(⟨#[]⟩:Ba)):=⟨_,rfl⟩;rw[<-hl]at y za;have Ha:=zh hl;clear hl;have Hw:∀(c:Bool),c=b1->True:=fun _ _=>trivial;clear Hw;go_in;go_wp2_with fail;rw[<-Z.o];refine cm (cQ _ E) fun w2 I=>?_;clear cQ;have kd:=fun J=>C _ (I.trans (c9 w2 J));replace E:=er w2;go_wp2_with fail;refine wl E ?_;(repeat(go_big_quiet_step(first|(go_at_call 113;with_reducible exact oa (cA _ (I.trans (c9 w2 _))))|(go_at_call 116;with_reducible exact oa (ca _ (I.trans (c9 w2 _))))|(go_at_call 97;with_reducible exact oa (cB _))|(go_at_call 117;with_reducible exact oa (cb _ (I.trans (c9 w2 _))))|(go_at_call 54;with_reducible exact oa (cC _ (I.trans (c9 w2 _)))))));refine zd fun W E=>?_;rename World=>w3;have L:=I.trans E;have kf:=C _ L;clear kd E cA ca cB cb cC;cases b1
 . have Hb:=zh hc;clear hc;rcases zb with _|_
   . have d:Hid (R=false):=zh (by rw[Hb.o];simp)
     go_wp2_with(first
      |(go_at_call 118;refine(t _ L).mono ?_;rintro e w6⟨p,rfl,O,Q⟩;obtain⟨aP,cP,rfl,-⟩:=O.shape;have P:=L.trans Q;have U:=P;have kb:=C _ U;have a:=U;have wX:=w6)
      |(go_at_call 119;refine cm (s _ U) fun K M=>?_;have a:=U.trans M;have ka:=C _ a;have k:=fun J=>C _ (a.trans (c9 K J));have E:=er K))
     exact zz36
   by_cases g:on<=7
   . by_cases T:X.length<=10
     . have d:Hid (R=true):=zh (by rw[Hb.o,decide_eq_true g,decide_eq_true T];rfl);have hI:((on:Nat):Int)<=7:=om;have hx:((X.length:Nat):Int)<=10:=om;clear g;clear T
       go_wp2_with(first
        |(go_at_call 118;refine(t _ L).mono ?_;rintro e w6⟨p,rfl,O,Q⟩;obtain⟨aP,cP,rfl,-⟩:=O.shape;have P:=L.trans Q;have U:=P;have kb:=C _ U;have a:=U;have wX:=w6)
        |(go_at_call 119;refine cm (s _ U) fun K M=>?_;have a:=U.trans M;have ka:=C _ a;have k:=fun J=>C _ (a.trans (c9 K J));have E:=er K)
        |(go_at_call 103;refine cm (cO _ a) fun b V=>?_;have j:=a.trans V;have kc:=C _ j;have k:=fun J=>C _ (j.trans (c9 b J));replace E:=er b)
        |(go_at_call 120;refine(cL _ j).mono ?_;rintro e wa⟨⟨vL,rfl,hL⟩,ht⟩;obtain⟨aL,cv,rfl,-⟩:=hL.shape;have hn:=j.trans ht)
        |(go_at_call 96;with_reducible refine cm (cE _ _ hL.ints) fun m hm=>?_;have r:=hn.trans hm;have ke:=C _ r;have k:=fun J=>C _ (r.trans (c9 m J));replace E:=er m))
       exact zz37
     have d:Hid (R=false):=zh (by rw[Hb.o,decide_eq_false T];simp);have hI:((on:Nat):Int)<=7:=om;have hx:¬((X.length:Nat):Int)<=10:=om;clear g;clear T
     go_wp2_with(first
      |(go_at_call 118;refine(t _ L).mono ?_;rintro e w6⟨p,rfl,O,Q⟩;obtain⟨aP,cP,rfl,-⟩:=O.shape;have P:=L.trans Q;have U:=P;have kb:=C _ U;have a:=U;have wX:=w6)
      |(go_at_call 119;refine cm (s _ U) fun K M=>?_;have a:=U.trans M;have ka:=C _ a;have k:=fun J=>C _ (a.trans (c9 K J));have E:=er K)
      |(go_at_call 103;refine cm (cO _ a) fun b V=>?_;have j:=a.trans V;have kc:=C _ j;have k:=fun J=>C _ (j.trans (c9 b J));replace E:=er b))
     exact zz4
   have d:Hid (R=false):=zh (by rw[Hb.o,decide_eq_false g];rfl);have hI:¬((on:Nat):Int)<=7:=om;clear g
   go_wp2_with(first
    |(go_at_call 118;refine(t _ L).mono ?_;rintro e w6⟨p,rfl,O,Q⟩;obtain⟨aP,cP,rfl,-⟩:=O.shape;have P:=L.trans Q;have U:=P;have kb:=C _ U;have a:=U;have wX:=w6)
    |(go_at_call 119;refine cm (s _ U) fun K M=>?_;have a:=U.trans M;have ka:=C _ a;have k:=fun J=>C _ (a.trans (c9 K J));have E:=er K)
    |(go_at_call 103;refine cm (cO _ a) fun b V=>?_;have j:=a.trans V;have kc:=C _ j;have k:=fun J=>C _ (j.trans (c9 b J));replace E:=er b))
   exact zz4
 have Hb:=zh hc;clear hc;rcases zb with _|_
 . have d:Hid (R=false):=zh (by rw[Hb.o];simp)
   go_wp2_with(first
    |(go_at_call 118;refine(t _ L).mono ?_;rintro e w6⟨p,rfl,O,Q⟩;obtain⟨aP,cP,rfl,-⟩:=O.shape;have P:=L.trans Q)
    |(go_at_call 96;with_reducible refine cm (cD _ _ O.ints) fun w8 ha=>?_;have U:=P.trans ha;have kb:=C _ U)
    |(go_at_call 119;refine cm (s _ U) fun K M=>?_;have a:=U.trans M;have ka:=C _ a;have k:=fun J=>C _ (a.trans (c9 K J));have E:=er K))
   exact zz36
 by_cases g:on<=7
 . by_cases T:X.length<=10
   . have d:Hid (R=true):=zh (by rw[Hb.o,decide_eq_true g,decide_eq_true T];rfl);have hI:((on:Nat):Int)<=7:=om;have hx:((X.length:Nat):Int)<=10:=om;clear g;clear T
     go_wp2_with(first
      |(go_at_call 118;refine(t _ L).mono ?_;rintro e w6⟨p,rfl,O,Q⟩;obtain⟨aP,cP,rfl,-⟩:=O.shape;have P:=L.trans Q)
      |(go_at_call 96;with_reducible refine cm (cD _ _ O.ints) fun w8 ha=>?_;have U:=P.trans ha;have kb:=C _ U)
      |(go_at_call 119;refine cm (s _ U) fun K M=>?_;have a:=U.trans M;have ka:=C _ a;have k:=fun J=>C _ (a.trans (c9 K J));have E:=er K)
      |(go_at_call 103;refine cm (cO _ a) fun b V=>?_;have j:=a.trans V;have kc:=C _ j;have k:=fun J=>C _ (j.trans (c9 b J));replace E:=er b)
      |(go_at_call 120;refine(cL _ j).mono ?_;rintro e wa⟨⟨vL,rfl,hL⟩,ht⟩;obtain⟨aL,cv,rfl,-⟩:=hL.shape;have hn:=j.trans ht)
      |(go_at_call 96;with_reducible refine cm (cE _ _ hL.ints) fun m hm=>?_;have r:=hn.trans hm;have ke:=C _ r;have k:=fun J=>C _ (r.trans (c9 m J));replace E:=er m))
     exact zz37
   have d:Hid (R=false):=zh (by rw[Hb.o,decide_eq_false T];simp);have hI:((on:Nat):Int)<=7:=om;have hx:¬((X.length:Nat):Int)<=10:=om;clear g;clear T
   go_wp2_with(first
    |(go_at_call 118;refine(t _ L).mono ?_;rintro e w6⟨p,rfl,O,Q⟩;obtain⟨aP,cP,rfl,-⟩:=O.shape;have P:=L.trans Q)
    |(go_at_call 96;with_reducible refine cm (cD _ _ O.ints) fun w8 ha=>?_;have U:=P.trans ha;have kb:=C _ U)
    |(go_at_call 119;refine cm (s _ U) fun K M=>?_;have a:=U.trans M;have ka:=C _ a;have k:=fun J=>C _ (a.trans (c9 K J));have E:=er K)
    |(go_at_call 103;refine cm (cO _ a) fun b V=>?_;have j:=a.trans V;have kc:=C _ j;have k:=fun J=>C _ (j.trans (c9 b J));replace E:=er b))
   exact zz4
 have d:Hid (R=false):=zh (by rw[Hb.o,decide_eq_false g];rfl);have hI:¬((on:Nat):Int)<=7:=om;clear g
 go_wp2_with(first
  |(go_at_call 118;refine(t _ L).mono ?_;rintro e w6⟨p,rfl,O,Q⟩;obtain⟨aP,cP,rfl,-⟩:=O.shape;have P:=L.trans Q)
  |(go_at_call 96;with_reducible refine cm (cD _ _ O.ints) fun w8 ha=>?_;have U:=P.trans ha;have kb:=C _ U)
  |(go_at_call 119;refine cm (s _ U) fun K M=>?_;have a:=U.trans M;have ka:=C _ a;have k:=fun J=>C _ (a.trans (c9 K J));have E:=er K)
  |(go_at_call 103;refine cm (cO _ a) fun b V=>?_;have j:=a.trans V;have kc:=C _ j;have k:=fun J=>C _ (j.trans (c9 b J));replace E:=er b))
 exact zz4
theorem I5{W A:Ba}{L:List UInt8}(H:A.data.toList=L)(h:¬W=A):(W.toList == L)=false:=by
 rw[beq_eq_false_iff_ne];intro q;apply h;rw[pi,<-H]at q;exact pH (Array.ext' q)
theorem jy7{t:Ba}(h:t.size<=100000):(rnV t).length<=1000000:=by
 obtain⟨o,r,T⟩:=K6 44 t;unfold rnV pIs;split<;>simp<;>omega
theorem dz9(S:s.size<=100000):
 Calls Tryz.prog 25 #[.string Y1,.string s] w (RE w (.tuple #[.string (bh9 (rnV s)),.bool (rnB s)])):=by
 obtain⟨g,f,q,j⟩:=w4 Y1 false false true false;have cN:=fun W=>bi8 s W S;obtain⟨X,H⟩:=nq (rnV s);obtain⟨B,b⟩:=nq (rnB s);rw[<-H,<-b]at cN;rw[<-H,<-b];obtain⟨F,k⟩:=nq (bh9 X);have L:=fun v W h=>cu4 v X W h;rw[<-k]at L|-;clear k H b;go_in;go_wp2_with(first|(go_at_call 60;refine(cN _).mono ?_;rintro e G⟨v,rfl,i,E⟩;obtain⟨Q,c,d,rfl,-,-,-⟩:=i.op;have l:=zh i)|(go_at_call 61;refine cm (L _ _ l.o) fun m I=>?_));exact br (.tuple #[.string F,.bool B]) ⟨rfl,E.trans I⟩
theorem jm6(S:s.size<=100000):
 Calls Tryz.prog 25 #[.string b52,.string s] w (RE w (.tuple #[.string (bi0 (pI s).1),.bool (pI s).2])):=by
 obtain⟨f,d,Q,i⟩:=w4 b52 false false false true;have cN:=fun W=>bh0 s W S;obtain⟨x,K⟩:=nq ((pI s).1);obtain⟨B,H⟩:=nq ((pI s).2);rw[<-K,<-H]at cN|-;obtain⟨F,h⟩:=nq (bi0 x);have c:=fun W=>jv9 x W;rw[<-h]at c|-;clear h K H;go_in;go_wp2_with(first|(go_at_call 62;refine cm (cN _) fun G E=>?_)|(go_at_call 63;refine(c _).mono ?_;rintro e w3⟨k,a,b,O,p,n,R,g,o,q,M,N,A,X,U,P,T,c3,V,rfl,I,hF⟩;obtain⟨J,C,Y,j,m,l,z,D,y,r,Z,za⟩:=bs3 hF)|(go_at_call 32;refine cm C fun w4 L=>?_));exact br (.tuple #[.string F,.bool B]) ⟨rfl,E.trans (I.trans (J.trans L))⟩
theorem jx0(h:¬W=ba6/\¬W=Y2/\¬W=Y1/\¬W=b52):
 Calls Tryz.prog 25 #[.string W,.string s] w (RE w (.tuple #[.string mtB,.bool false])):=by
 obtain⟨o,r,T,H⟩:=h;have b:(W.toList == [103,114,111,117,112])=false:=I5 (A:=ba6) rfl o;have Q:(W.toList == [101,120,116,114,101,109,97,108])=false:=I5 (A:=Y2) rfl r;have q:(W.toList == [101,113,117,97,116,105,111,110])=false:=I5 (A:=Y1) rfl T;have i:(W.toList == [99,111,108,111,114,115])=false:=I5 (A:=b52) rfl H;clear o r T H;go_in;go_wp2_with fail;exact bodyPost_ret (v:=.tuple #[.string mtB,.bool false]) (by simp[results,Tryz.results25,go_sem];try rfl) rfl ⟨rfl,er w⟩
theorem j70(S:s.size<=100000)(A:t.size<=100000):
 Calls Tryz.prog 26 #[.string U7,.string s,.string t] w (RE w (.tuple #[.string (if ssB (pgV s) (rnV t)then sqlF (pgV s) (ssV (pgV s) (rnV t))else mtB),.bool (pgB s&&rnB t)])):=by
 obtain⟨q0,q1,q2,q3,q4,q5⟩:=w6 U7 true false false false false false;have L:(rnV t).length<=1000000:=jy7 A;obtain⟨l,D⟩:=nq (pgV s);obtain⟨M,d⟩:=nq (pgB s);have g:=fun W=>I3 s W S;rw[<-D,<-d]at g|-;have cN:=fun W=>bi8 t W A;obtain⟨X,x⟩:=nq (rnV t);obtain⟨b0,b⟩:=nq (rnB t);rw[<-x,<-b]at cN;rw[<-x]at L;rw[<-x,<-b];have f:=fun v u W h U=>bt4 v u l X W h U L;obtain⟨Y,B⟩:=nq (ssV l X);rw[<-B]at f|-;obtain⟨N,m⟩:=nq (sqlF l Y);have V:=fun v u W h U=>cu9 v u l Y W h U;rw[<-m]at V|-;clear m D d x b B;have HX:=zh L;clear L;cases C:ssB l X
 . rw[C]at f;simp only[if_false,pb];cases M;all_goals(
    go_in
    go_wp2_with(first|(go_at_call 27;refine(g _).mono ?_;rintro e G⟨v,rfl,R,E⟩;obtain⟨Q,c,rfl,k,F,zg⟩:=gbx 42 R E)|(go_at_call 60;refine(cN _).mono ?_;rintro e q⟨u,rfl,J,I⟩;obtain⟨a,ca,r,rfl,-,-,-⟩:=J.op;have j:=zh J;have i:=zh (k.o.ext I);have T:=F.trans I;have z:=I.cell zg)|(go_at_call 64;refine(f _ _ _ i.o j.o).mono ?_;rintro e w3⟨y,rfl,K,H⟩;obtain⟨P,cb,aa,rfl,-,-,-⟩:=K.op;have Z:=zh K;have n:=zh (i.o.ext H);have p:=T.trans H;have zt:=H.cell z))
    exact bodyPost_ret (v:=.tuple #[.string mtB,.bool _]) (by simp[results,Tryz.results26,go_sem];try rfl) rfl ⟨rfl,p⟩)
 rw[C]at f;simp only[if_true];cases M;all_goals(
  go_in
  go_wp2_with(first|(go_at_call 27;refine(g _).mono ?_;rintro e G⟨v,rfl,R,E⟩;obtain⟨Q,c,rfl,k,F,zg⟩:=gbx 42 R E)|(go_at_call 60;refine(cN _).mono ?_;rintro e q⟨u,rfl,J,I⟩;obtain⟨a,ca,r,rfl,-,-,-⟩:=J.op;have j:=zh J;have i:=zh (k.o.ext I);have T:=F.trans I;have z:=I.cell zg)|(go_at_call 64;refine(f _ _ _ i.o j.o).mono ?_;rintro e w3⟨y,rfl,K,H⟩;obtain⟨P,cb,aa,rfl,-,-,-⟩:=K.op;have Z:=zh K;have n:=zh (i.o.ext H);have p:=T.trans H;have zt:=H.cell z)|(go_at_call 65;refine cm (V _ _ _ n.o Z.o) fun w4 O=>?_))
  exact bodyPost_ret (v:=.tuple #[.string N,.bool _]) (by simp[results,Tryz.results26,go_sem];try rfl) rfl ⟨rfl,p.trans O⟩)
theorem le7(S:s.size<=100000)(D:t.size<=100000):
 Calls Tryz.prog 26 #[.string bd4,.string s,.string t] w (RE w (.tuple #[.string (if ssB (pgV s) (rnV t)then b85 (pgV s) (ssV (pgV s) (rnV t))else mtB),.bool (pgB s&&rnB t)])):=by
 obtain⟨q0,q1,q2,q3,q4,q5⟩:=w6 bd4 false true false false false false;have L:(rnV t).length<=1000000:=jy7 D;obtain⟨l,Z⟩:=nq (pgV s);obtain⟨O,d⟩:=nq (pgB s);have M:=fun W=>I3 s W S;rw[<-Z,<-d]at M|-;have cN:=fun W=>bi8 t W D;obtain⟨X,x⟩:=nq (rnV t);obtain⟨b0,B⟩:=nq (rnB t);rw[<-x,<-B]at cN;rw[<-x]at L;rw[<-x,<-B];have f:=fun v u W h U=>bt4 v u l X W h U L;obtain⟨Y,N⟩:=nq (ssV l X);rw[<-N]at f|-;obtain⟨SS,A⟩:=nq (b85 l Y);have V:=fun v u W h U=>ll8 v u l Y W h U;rw[<-A]at V|-;clear A Z d x B N;have HX:=zh L;clear L;cases C:ssB l X
 . rw[C]at f;simp only[if_false,pb];cases O;all_goals(
    go_in
    go_wp2_with(first|(go_at_call 27;refine(M _).mono ?_;rintro e G⟨v,rfl,R,E⟩;obtain⟨Q,c,rfl,m,F,zg⟩:=gbx 42 R E)|(go_at_call 60;refine(cN _).mono ?_;rintro e w2⟨u,rfl,J,I⟩;obtain⟨aa,ca,ab,rfl,-,-,-⟩:=J.op;have j:=zh J;have i:=zh (m.o.ext I);have T:=F.trans I;have z:=I.cell zg)|(go_at_call 64;refine(f _ _ _ i.o j.o).mono ?_;rintro e w3⟨y,rfl,K,H⟩;obtain⟨ac,cb,ad,rfl,-,-,-⟩:=K.op;have HY:=zh K;have P:=zh (i.o.ext H);have r:=T.trans H;have zt:=H.cell z))
    exact bodyPost_ret (v:=.tuple #[.string mtB,.bool _]) (by simp[results,Tryz.results26,go_sem];try rfl) rfl ⟨rfl,r⟩)
 rw[C]at f;simp only[if_true];cases O;all_goals(
  go_in
  go_wp2_with(first|(go_at_call 27;refine(M _).mono ?_;rintro e G⟨v,rfl,R,E⟩;obtain⟨Q,c,rfl,m,F,zg⟩:=gbx 42 R E)|(go_at_call 60;refine(cN _).mono ?_;rintro e w2⟨u,rfl,J,I⟩;obtain⟨aa,ca,ab,rfl,-,-,-⟩:=J.op;have j:=zh J;have i:=zh (m.o.ext I);have T:=F.trans I;have z:=I.cell zg)|(go_at_call 64;refine(f _ _ _ i.o j.o).mono ?_;rintro e w3⟨y,rfl,K,H⟩;obtain⟨ac,cb,ad,rfl,-,-,-⟩:=K.op;have HY:=zh K;have P:=zh (i.o.ext H);have r:=T.trans H;have zt:=H.cell z)|(go_at_call 66;refine(V _ _ _ P.o HY.o).mono ?_;rintro e w3⟨k,a,b,s',p,n,RR,g,o,q,q',a1,a2,a3,a4,c1,c2,c3,c4,rfl,H,hF⟩;obtain⟨ha,cF,zl,ze,zj,zf,za,zk,zi,zc,zb,zn⟩:=bs3 hF)|(go_at_call 32;refine cm cF fun w4 hc=>?_))
  exact bodyPost_ret (v:=.tuple #[.string SS,.bool _]) (by simp[results,Tryz.results26,go_sem];try rfl) rfl ⟨rfl,r.trans (H.trans (ha.trans hc))⟩)
theorem l18(S:s.size<=100000)(y:t.size<=100000)(h:¬W=U7/\¬W=bd4/\¬W=bp4/\¬W=b75/\¬W=bd3/\¬W=b74):
 Calls Tryz.prog 26 #[.string W,.string s,.string t] w (RE w (.tuple #[.string mtB,.bool false])):=by
 obtain⟨H,r,T,a,d,f⟩:=h;have n:(W.toList == [115,101,113,117,101,110,99,101])=false:=I5 (A:=U7) rfl H;have j:(W.toList == [122,101,114,111])=false:=I5 (A:=bd4) rfl r;have q:(W.toList == [115,101,116])=false:=I5 (A:=bp4) rfl T;have k:(W.toList == [116,105,108,101,115])=false:=I5 (A:=b75) rfl a;have D:(W.toList == [116,105,108,101])=false:=I5 (A:=bd3) rfl d;have F:(W.toList == [99,111,115,101,116])=false:=I5 (A:=b74) rfl f;clear H r T a d f;obtain⟨l,L⟩:=nq (pgV s);obtain⟨J,B⟩:=nq (pgB s);have C:=fun W=>I3 s W S;rw[<-L,<-B]at C;have P:=fun v W h=>L5 v l t W h y;obtain⟨x,K⟩:=nq ((psV l t).1);obtain⟨U,b⟩:=nq ((psV l t).2);rw[<-K,<-b]at P;clear K b L B;cases J;all_goals(
  go_in
  go_wp2_with(first|(go_at_call 27;refine(C _).mono ?_;rintro e G⟨v,rfl,R,E⟩;obtain⟨Q,c,rfl,i,g,zg⟩:=gbx 42 R E)|(go_at_call 28;refine cm (P _ _ i.o) fun m I=>?_;have u:=zh (i.o.ext I);have p:=g.trans I;have z:=I.cell zg))
  exact bodyPost_ret (v:=.tuple #[.string mtB,.bool false]) (by simp[results,Tryz.results26,go_sem];try rfl) rfl ⟨rfl,p⟩)
end Go.Zz
