/- Rows of rows of rows: what each row is long. -/
import Derived.Test.YtjhoafjeopcheaaGreatGr30
set_option linter.all false
set_option maxHeartbeats 2000000
set_option maxRecDepth 8000
namespace Go.Zz
open Go.RowKit Go.Proofs
variable(v:Value)(c:Int)(l:LI)(s:Ba)(i:Nat){A:LN}{P e W w:World}{L M:List Value}{n g a k:Nat}{t:TypeId}{x:Ba}{u:Value}{R:LI}
def Y9(w:World)(u:Value)(n:Nat):Prop:=n<=1000/\∃M:List Value,M.length=n/\(∀x∈M,x.oneCell'=true)/\((n=0/\u=.slice none 0 0)\/∃(g cap:Nat) (c:Array Value),u=.slice (some (aD g 0)) n cap/\n<=cap/\Blk w g 40 c/\∀(i:Nat) x,M[i]?=some x->c[i]?=some x)
theorem Y9.ext(h:Y9 w u n)(E:Ext w e):Y9 e u n:=by
 obtain⟨H,M,o,r,T⟩:=h;refine⟨H,M,o,r,?_⟩;rcases T with T|⟨g,cap,c,T,a,d,f⟩;exact Or.inl T;exact Or.inr ⟨g,cap,c,T,a,d.ext E,f⟩
theorem Y9.one(h:Y9 w u n):u.oneCell'=true:=by
 obtain⟨H,M,o,r,⟨-,rfl⟩|⟨g,cap,c,rfl,-⟩⟩:=h<;>rfl
theorem Y9.shape(h:Y9 w u n):∃Q c,u=.slice Q n c:=by
 obtain⟨H,M,o,r,⟨rfl,rfl⟩|⟨g,cap,s,rfl,-⟩⟩:=h;exact⟨_,_,rfl⟩;exact⟨_,_,rfl⟩
theorem Y9.cells(h:Y9 w u n):∃M:List Value,M.length=n/\(∀x∈M,x.oneCell'=true)/\Y3 w u M:=by
 obtain⟨S,M,o,r,⟨rfl,rfl⟩|⟨g,cap,c,rfl,a,H,e⟩⟩:=h;exact⟨[],rfl,zm,Or.inl ⟨rfl,rfl⟩⟩;refine⟨M,o,r,Or.inr ⟨(aD g 0),cap,by rw[o],fun j x K=>?_⟩⟩;rw[pe,oM];exact H.cell (i:=j) (e j x K)
theorem jy9(h:Blk w g 40 #[]):Y9 w (.slice (some (aD g 0)) 0 0) 0:=⟨om,[],rfl,zm,Or.inr ⟨g,0,_,rfl,om,h,fun i x K=>by simp at K⟩⟩
theorem j25(h:E0 40 P w u M)(o:M.length<=1000):Y9 w u M.length:=by
 obtain⟨k,Z,-⟩:=h;refine⟨o,M,rfl,k,?_⟩;rcases Z.2 with⟨rfl,l⟩|⟨g,cap,c,rfl,H,a,n,m,s,t⟩;exact Or.inl ⟨l,rfl⟩;refine Or.inr ⟨g,cap,c,rfl,n,a,fun i x K=>?_⟩;have J:i<M.length:=(List.getElem?_eq_some_iff.1 K).1;rw[<-t,List.getElem?_take_of_lt om]at K;simpa using K
theorem Y9.grown{v:Value}{E:TypeId}(h:Y9 w u n)(O:E0 E P w v L)(t:40≠E)(H:w.grownBy W v.ownBlock):Y9 W u n:=by
 obtain⟨S,M,o,r,T⟩:=h;refine⟨S,M,o,r,?_⟩;rcases T with T|⟨g,cap,s,T,a,c,f⟩;exact Or.inl T;exact Or.inr ⟨g,cap,s,T,a,c.grown H fun k V e=>O.not c t (by rw[V,e]),f⟩
theorem Y9.other{b:Nat}{s:Array Value}(h:Y9 w u n)(C:Blk w b t s)(m:t≠40)(i:Nat)(x:Value):Y9 (w.setCell (aD b i) x) u n:=by
 obtain⟨S,M,o,r,T⟩:=h;refine⟨S,M,o,r,?_⟩;rcases T with T|⟨g,cap,c,T,a,H,f⟩;exact Or.inl T;refine Or.inr ⟨g,cap,c,T,a,H.other (fun e=>?_) _,f⟩;have E:g=b:=e;subst E;have B:w.heap[g]?=some (.cells s t (0,0)):=C;have l:w.heap[g]?=some (.cells c 40 (0,0)):=H;rw[l]at B;simp at B;exact m B.2.symm
def G5(P w:World)(v:Value)(A:LN):Prop:=∃L:List Value,L.length=A.length/\E0 92 P w v L/\∀i,i<A.length->Y9 w (L.getD i (.slice none 0 0)) (A.getD i 0)
theorem G5.ext{v:Value}(h:G5 P w v A)(E:Ext w e):G5 P e v A:=by
 obtain⟨L,o,r,T⟩:=h;exact⟨L,o,r.ext E,fun i J=>(T i J).ext E⟩
theorem G5.mono{G:World}{v:Value}(h:G5 G w v A)(E:Ext P G):G5 P w v A:=by
 obtain⟨L,o,r,T⟩:=h;exact⟨L,o,r.mono E,T⟩
theorem bg2(E:Ext P w):G5 P (w.alloc (.cells #[] 92)) (.slice (some (aD w.heap.size 0)) 0 0) []:=⟨[],rfl,by9 E,fun i J=>by simp at J⟩
theorem G5.blk{v:Value}(h:G5 P w v A):∀k,v.ownBlock=some k->P.heap.size<=k/\k<w.heap.size:=by
 obtain⟨L,o,r,T⟩:=h;exact r.blk
theorem G5.not{v:Value}(h:G5 P w v A){c:Array Value}(B:Blk w g t c)(H:t≠92):v.ownBlock≠some g:=by
 obtain⟨L,o,r,T⟩:=h;exact r.not B H
theorem G5.more{v V y:Value}(o:L.length=A.length)(r:E0 92 P W v L)(T:∀i,i<A.length->Y9 W (L.getD i (.slice none 0 0)) (A.getD i 0))(Y:Y9 W y a)(O:E0 92 P w V (L++[y]))(h:W.grownBy w v.ownBlock):G5 P w V (A++[a]):=by
 refine⟨L++[y],by simp[o],O,fun i J=>?_⟩;by_cases e:i<A.length;have R:(L++[y]).getD i (.slice none 0 0)=L.getD i (.slice none 0 0):=(by simp[List.getD,List.getElem?_append_left (show i<L.length by omega)]);have E:(A++[a]).getD i 0=A.getD i 0:=(by simp[List.getD,List.getElem?_append_left e]);rw[R,E];exact(T i e).grown r (by decide) h;have H:i=A.length:=(by simp at J;omega);have R:(L++[y]).getD i (.slice none 0 0)=y:=(by rw[H,<-o];simp[List.getD]);have E:(A++[a]).getD i 0=a:=(by rw[H];simp[List.getD]);rw[R,E];exact Y.grown r (by decide) h
theorem G5.shape{v:Value}(h:G5 P w v A):∃(Q:Option Addr) (c:Nat),v=.slice Q A.length c/\A.length<=c/\(∀i,i<A.length->∃g u,Q=some (aD g 0)/\w.cell? (aD g i)=some u/\Y9 w u (A.getD i 0)):=by
 obtain⟨L,o,r,T⟩:=h;obtain⟨Q,c,rfl,C,e⟩:=r.shape;rw[o]at C e|-;exact⟨Q,c,rfl,C,fun i J=>by obtain⟨g,H,a⟩:=e i J;exact⟨g,_,H,a,T i J⟩⟩
def Y5(w:World)(L:List Value)(A:LN):Prop:=L.length=A.length/\∀i,i<A.length->Y9 w (L.getD i (.slice none 0 0)) (A.getD i 0)
theorem Y5.ext(h:Y5 w L A)(E:Ext w e):Y5 e L A:=⟨h.1,fun i J=>(h.2 i J).ext E⟩
theorem Y5.one(h:Y9 w u a):Y5 w [u] [a]:=⟨rfl,fun i J=>by
 have:i=0:=by simp at J;omega
 subst this;exact h⟩
theorem Y5.append{B:LN}(h:Y5 w L A)(k:Y5 w M B):Y5 w (L++M) (A++B):=by
 refine⟨by rw[oh,oh,h.1,k.1],fun i J=>?_⟩;have l:=h.1;by_cases e:i<A.length;have R:(L++M).getD i (.slice none 0 0)=L.getD i (.slice none 0 0):=(by simp[List.getD,List.getElem?_append_left (show i<L.length by omega)]);have E:(A++B).getD i 0=A.getD i 0:=(by simp[List.getD,List.getElem?_append_left e]);rw[R,E];exact h.2 i e;have R:(L++M).getD i (.slice none 0 0)=M.getD (i-A.length) (.slice none 0 0):=(by simp[List.getD,List.getElem?_append_right (show L.length<=i by omega),l]);have E:(A++B).getD i 0=B.getD (i-A.length) 0:=(by simp[List.getD,List.getElem?_append_right (show A.length<=i by omega)]);rw[R,E];exact k.2 _ (by rw[oh]at J;omega)
theorem Y5.take(h:Y5 w L A)(k:Nat):Y5 w (L.take k) (A.take k):=by
 refine⟨by rw[ol,ol,h.1],fun i J=>?_⟩;rw[ol]at J;have E:(L.take k).getD i (.slice none 0 0)=L.getD i (.slice none 0 0):=by simp[List.getD,List.getElem?_take_of_lt (show i<k by omega)]
 have e:(A.take k).getD i 0=A.getD i 0:=by simp[List.getD,List.getElem?_take_of_lt (show i<k by omega)]
 rw[E,e];exact h.2 i om
theorem Y5.drop(h:Y5 w L A)(k:Nat):Y5 w (L.drop k) (A.drop k):=by
 refine⟨by rw[pc,pc,h.1],fun i J=>?_⟩;rw[pc]at J;have E:(L.drop k).getD i (.slice none 0 0)=L.getD (k+i) (.slice none 0 0):=by simp[List.getD,List.getElem?_drop]
 have e:(A.drop k).getD i 0=A.getD (k+i) 0:=by simp[List.getD,List.getElem?_drop]
 rw[E,e];exact h.2 _ om
theorem Y5.all(h:Y5 w L A):∀u∈L,u.oneCell'=true:=fun u H=>by
 obtain⟨i,J,rfl⟩:=px H
 have:=h.2 i (by rw[<-h.1];exact J)
 simpa[List.getD,J]using this.one
theorem G5.rows{v:Value}(h:G5 P w v A):∃L,E0 92 P w v L/\Y5 w L A:=by
 obtain⟨L,o,r,T⟩:=h;exact⟨L,r,o,T⟩
theorem lm6{v:Value}(h:E0 92 P w v L)(k:Y5 w L A):G5 P w v A:=⟨L,k.1,h,k.2⟩
theorem G5.kept{z:World}{v:Value}(h:G5 P w v A)(O:E0 92 z w u L)(n:∀g,v.ownBlock=some g->u.ownBlock≠some g)(H:w.grownBy W u.ownBlock):G5 P W v A:=by
 obtain⟨M,o,⟨r,T,a⟩,c⟩:=h;refine⟨M,o,⟨r,T.kept H ?_,a⟩,fun i J=>(c i J).grown O (by decide) H⟩;cases V:v.ownBlock with
 |none=>simp
 |some g=>have:=n g V;simp;exact fun e=>this e.symm
theorem lj7{F:LN}{j:Nat}(h:j<F.length):(F.take (j+1)).map (· + 1)=(F.take j).map (· + 1)++[F.getD j 0+1]:=by
 rw[pa h,pF];simp[List.getD,h]
theorem ja2(va:Value)(A:List (LN))(wa P:World)(HA:Hid (I1 wa P va A))(aJ:A.length<=48)(hM:∀a∈A,1<=a.length)(am:Hid (∀f T (R:LI),R.length<=10->(U8 A f T R).length<=254803968)):∀(f T:Nat) (R:LI) (vR:Value) (w:World),Ext P w->c8 w vR R->R.length<f->R.length<=10->T<=A.length ->
 Calls Tryz.prog 284 #[va,vR,vi T] w fun e w'=>∃v',e=.returned v'/\G5 w w' v' (U8 A f T R)/\Ext w w':=by
 intro f;induction f with
 |zero=>intro T R vR w Q l hf;omega
 | succ f ih =>
  intro T R vR w Q l hf au aw;obtain⟨aR,cR,aX,rfl,aA,aC,az⟩:=l.op;have HR:=zh l;clear aC az aA;by_cases r:R.length=0
  . have Hz:=zh (bx8 (A:=A) (f:=f) (i0:=T) r);have hq:(((R.length:Nat):Int) == 0)=true:=(by rw[r];rfl);clear r ih l;have K:=er w;have ah:E0 40 w (w.alloc (.cells #[] 40)) (.slice (some (aD w.heap.size 0)) 0 0) []:=by9 K;have hO:Blk (w.alloc (.cells #[] 40)) w.heap.size 40 #[]:=oq _ _ _;have ae:=K.alloc (.cells #[] 40);have h:E0 92 w ((w.alloc (.cells #[] 40)).alloc (.cells #[.slice (some (aD w.heap.size 0)) 0 0] 92)) (.slice (some (aD ((w.alloc (.cells #[] 40)).heap.size) 0)) 1 1) [.slice (some (aD w.heap.size 0)) 0 0]:=j03 ae rfl;have hY:=jy9 (hO.ext ((er _).alloc (.cells #[.slice (some (aD w.heap.size 0)) 0 0] 92)));have hU:=lm6 h (Y5.one hY);rw[show(w.alloc (.cells #[] 40)).heap.size=w.heap.size+1 by simp]at hU;clear h hY hO ah;go_in;go_wp2_with fail;go_ret;exact⟨_,rfl,by rw[Hz.o];exact hU,ae.alloc _⟩
  . have He:=zh (bu7 (A:=A) (f:=f) (i0:=T) r);have Hm:=zh (b61 A f T R T (oc _));have hq:(((R.length:Nat):Int) == 0)=false:=(by rw[beq_eq_false_iff_ne];omega);have hH:G5 w (w.alloc (.cells #[] 92)) (.slice (some (aD w.heap.size 0)) 0 0) []:=bg2 (er w);have hG:=(er w).alloc (.cells #[] 92);have Ho:=zh ih;have aK:=r;obtain⟨aP,cA,rfl,aV,hK⟩:=HA.o.shape;have Hp:=zh hK;have Hq:=zh (am.o (f+1) T R au);clear r ih l hK;go_in;go_wp2_with fail;go_loopw [7,8] (fun u si wr=>∃k:Nat,T<=k/\k<=A.length/\si=vi k/\G5 w wr u (U9 A f T R k)/\Ext w wr) (fun _ si _=>A.length-(intOf si).toNat);exact⟨T,oc _,aw,rfl,by rw[Hm.o];exact hH,hG⟩;case round =>
     clear hH hG;obtain⟨k,aj,V,rfl,hF,E⟩:=hrel;obtain⟨aO,cO,rfl,-⟩:=hF.shape;have p:=zh hF;have HE:=zh E;clear hF;by_cases U:k<A.length
     . have ai:(k:Int)<(A.length:Int):=om;obtain⟨gA,y,rfl,hy,hN⟩:=Hp.o k U;have aN:=bg5 elV szV gA A.length cA;have hC:=Q.trans E;have aY:=hC.cell hy;have Hb:=zh (fun W (D:Ext P W)=>(hN.ext D).ints);have ar:=hM _ (cn9 U);obtain⟨a,ha⟩:=nq (A.getD k []);rw[<-ha]at Hb ar;have m:=zh (jf0 (A:=A) (f:=f) (i0:=T) (R:=R) (k:=k));have v:=zh (du8 (A:=A) (f:=f) (R:=R) aj);rw[<-ha]at m v;have C:=fun W (D:Ext w W)=>dy1 _ _ R (b9 a) W (HR.o.ext D) (Hb.o W (Q.trans D));have Hl:=zh hy;clear ha hN hy;cases S:T0 R (b9 a)
       . have n:=zh (m.o S);simp only[S]at C;clear S m v;go_wp2_with(go_at_call 327;refine(C _ E).mono ?_;rintro e G⟨⟨v1,rfl,-⟩,z⟩);go_roundw;exact⟨k+1,om,om,zg,by rw[n.o];exact p.o.ext z,HE.o.trans z⟩;exact zm1
       . have t:=zh (v.o S);simp only[S]at C;have av:=bs8 a R S;have ho:=cg4 A f T R (k+1) (A.length-(k+1));rw[show k+1+(A.length-(k+1))=A.length by omega,<-He.o,t.o]at ho;have Ha:=zh (nle ho Hq.o);have hZ:∀x∈U8 A f k (S0 R a),x<=10:=fun x K=>nle (dg8 A hM f k (S0 R a) x K) om;have cF:=fun vN W (D:Ext P W) (hI:c8 W vN (S0 R a))=>Ho.o k (S0 R a) vN W D hI om om om;have aL:=V;obtain⟨F,hA⟩:=nq (U8 A f k (S0 R a));have Hu:=zh (jy6 R a);simp only[<-hA]at cF hZ Ha t;obtain⟨B,b⟩:=nq (U9 A f T R k);have HB:=zh b;rw[<-b]at Ha t;have Hi:Hid (G5 w wr (.slice aO B.length cO) B):=zh (by rw[b];exact p.o);have hQ:(U9 A f T R k).length=B.length:=(by rw[b]);rw[hQ];clear S m v av ho hA b p hQ;go_wp2_with(first|(go_at_call 327;refine(C _ E).mono ?_;rintro e G⟨⟨v1,rfl,h⟩,z⟩;have hn:=h trivial;rw[Hu.o]at hn;have al:=hC.trans z)|(go_at_call 284;refine(cF _ _ al hn.ints).mono ?_;rintro e w2⟨v2,rfl,s,I⟩;obtain⟨aa,Y,rfl,-⟩:=s.shape));have hr:=z.trans I;have Hf:=zh (Hi.o.ext hr);have ac:∀g,(Value.slice aa F.length Y).ownBlock=some g->(Value.slice aO B.length cO).ownBlock≠some g:=fun g H e=>by
          have q1:=(s.blk g H).1
          have q2:=(Hi.o.blk g e).2
          have q3:=z.size
          omega
         have ab:=HE.o.trans hr;have Hj:=zh (show B.length+F.length<=254803968 by have:=Ha.o;simpa using this);clear C cF h hn;go_loopw [7,12] (fun u sj q=>∃j:Nat,j<=F.length/\sj=vi j/\G5 w q u (B++(F.take j).map (· + 1))/\G5 G q (.slice aa F.length Y) F/\Ext w q/\(∀g,(Value.slice aa F.length Y).ownBlock=some g->u.ownBlock≠some g)) (fun _ sj _=>F.length-(intOf sj).toNat);exact⟨0,om,rfl,by simpa using Hf.o,s,ab,ac⟩;case round =>
          clear s ac ab Hf;rename World=>q;obtain⟨j,hj,rfl,hh,he,E,af⟩:=hrel;have Hd:=zh hh;have Hk:=zh he;have Hc:=zh af;have HEq:=zh E;obtain⟨aQ,cQ,rfl,-⟩:=hh.shape;have ag:(B++(F.take j).map (· + 1)).length=B.length+j:=(by rw[oh,oG,ol];omega);rw[ag]at Hd Hc|-;clear hh af E ag;by_cases hb:j<F.length
          . have ap:(j:Int)<(F.length:Int):=om;obtain⟨aI,c3,hV,-,hL⟩:=he.shape;simp only[Value.slice.injEq]at hV;obtain⟨rfl,-,rfl⟩:=hV;obtain⟨gF,uF,rfl,aq,hu⟩:=hL j hb;have aM:=bg5 elW szW gF F.length Y;have aW:F.length<=254803968:=(by have:=Hj.o;omega);have aF:=hZ _ (show F.getD j 0∈F by simp[List.getD,hb]);have Ht:=zh (lj7 hb);obtain⟨d,hd⟩:=nq (F.getD j 0);rw[<-hd]at hu aF Ht;obtain⟨aU,cU,rfl⟩:=hu.shape;obtain⟨M,ht,ao,hS⟩:=hu.cells;have Hs:=zh hS;have Hh:=zh ht;clear ht;have hm:=Q.trans HEq.o;have kA:=hm.cell Hl.o;have ka:=(hm.trans ((er q).alloc (.cells #[] 3))).cell Hl.o;have hT:Own 3 q (q.alloc (.cells #[] 3)) (.slice (some (aD q.heap.size 0)) 0 0) []:=l9 om (er q) [] rfl;have hl:=(er q).alloc (.cells #[] 3);have hX:=Hb.o _ (hm.trans hl);have an:(b9 a).length<=17592186044416:=(by obtain⟨_,_,_,_,h',_⟩:=hX;exact h');obtain⟨L,hJ,Z,hP⟩:=Hd.o;have Hg:=zh hJ;have Hr:=zh hP;clear he hL hd hu hS hJ hP;go_upto_region 13 with fail;go_upto_region 14 with(first|(at_builtin;refine F7 slI rfl _ _ rfl q _ _ _ _ _ hT hX hl (by simpa using an) rfl rfl ?_;intro v1 wA h z;rw[pq]at h;obtain⟨O,c,rfl,-⟩:=h.shape));have aE:E0 40 q (wA.alloc (.cells #[.slice O (b9 a).length c] 40)) (.slice (some (aD wA.heap.size 0)) 1 1) [.slice O (b9 a).length c]:=j03 z rfl;have hB:=z.alloc (.cells #[.slice O (b9 a).length c] 40);have aB:=Hs.o.ext hB;have kF:=hB.cell aq;have aG:[(Value.slice O (b9 a).length c)].length+M.length<=1000000000000:=(by rw[Hh.o,oo];omega);have ay:L.length<1000000000000:=(by rw[Hg.o,oh,oG,ol];have:=Hj.o;omega);clear hT hX hl kA ka;go_wp2_with(first|(at_builtin;refine b80 slW rfl _ _ rfl w wD (.slice aQ (B.length+j) cQ) L (.slice ax ([(Value.slice O (b9 a).length c)]++M).length cD) rfl (Z.ext X) (HEq.o.trans X) ay rfl rfl ?_;intro v5 w5 ak hc N)|(at_builtin;refine jb6 slV rfl _ _ rfl q _ _ _ _ M aE aB ao hB aG rfl rfl ?_;intro vD wD hD aT aS X;obtain⟨ax,cD,rfl,-⟩:=hD.shape));have ad:([(Value.slice O (b9 a).length c)]++M).length=d+1:=(by rw[oh,oo,Hh.o];omega);have aH:=j25 hD (by rw[ad];omega);have hv:=G5.more Hg.o (Z.ext X) (fun i J=>(Hr.o i J).ext X) aH ak hc;rw[ad]at hv;go_roundw;case rel =>
             refine⟨j+1,om,zg,by rw[Ht.o,<-pr];exact hv,(Hk.o.ext X).kept (Z.ext X) Hc.o hc,(HEq.o.trans X).grown hc (fun g H=>(Z.blk g H).1),fun g H e=>?_⟩;rcases N with N|N
             . exact Hc.o g H (by rw[<-N];exact e)
             . have q1:=N g e;have q2:=(Hk.o.blk g H).2;have q3:=X.size;omega
            case measure=>exact zm1
          . have ap:¬(j:Int)<(F.length:Int):=om;have hz:j=F.length:=om;have n:Hid (U9 A f T R (k+1)=B++(F.take j).map (· + 1)):=zh (by rw[t.o,hz,oz]);clear hz;go_wp2_with fail;go_roundw;exact⟨k+1,om,om,zg,by rw[n.o];exact Hd.o,HEq.o⟩;exact zm1
     . have ai:¬(k:Int)<(A.length:Int):=om;have hp:k=A.length:=om;have n:=zh (show U8 A (f+1) T R=U9 A f T R k by rw[He.o,hp]);clear hp;go_wp2_with fail;go_ret;exact⟨_,rfl,by rw[n.o];exact p.o,HE.o⟩
def R8(l R:LI):Bool:=atB l&&(zsB l R&&decide (R.length<=10))
def P3(l R:LI):LN:=if R8 l R then U8 (atS l) (R.length+1) 0 R else []
theorem c35{l:LI}(h:R8 l R=false):P3 l R=[]:=by unfold P3;rw[h];rfl
theorem zz55{P:Prop}(h:P:=by go_in;go_wp2_with fail;rw[<-Z.o];go_wp2_with(first|(go_at_call 283;refine c.mono ?_;rintro e G⟨V,rfl,-,z⟩;have b:=C _ z)|(go_at_call 119;refine cm (x _ z) fun m I=>?_));have K:=F.trans (z.trans I);exact br (.tuple #[.slice (some (aD m.heap.size 0)) 0 0,.bool false]) ⟨⟨_,rfl,bg2 K⟩,K.alloc _⟩):P:=h
theorem c53(u:Value)(l R:LI)(w:World)(h:c8 w v l)(U:c8 w u R):Calls Tryz.prog 223 #[.agg #[v],u] w fun e P=>(∃Q,e=.returned (.tuple #[Q,.bool (R8 l R)])/\G5 w P Q (P3 l R))/\Ext w P:=by
 obtain⟨B,Z,F,C,H,E,Hz⟩:=m04 42 h;clear h;have N:∀W,Ext B W->c8 W u R:=fun W D=>U.ext (F.trans D);obtain⟨aU,cU,ab,rfl,hk,hU,he⟩:=U.op;have hj:=C _ E;clear hU he U;have x:=fun W (D:Ext B W)=>bl4 v _ l R W (H W D) (N W D);cases J:atB l
 . have c:=j99 v l B (H _ E) J;have X:R8 l R=false:=(by unfold R8;rw[J];rfl);rw[X,c35 X];clear J X x;go_in;go_wp2_with fail;rw[<-Z.o];go_wp2_with(go_at_call 283;refine c.mono ?_;rintro e G⟨V,rfl,z⟩);exact br (.tuple #[.slice (some (aD G.heap.size 0)) 0 0,.bool false]) ⟨⟨_,rfl,bg2 (F.trans z)⟩,(F.trans z).alloc _⟩
 have c:=j28 v l B (H _ E) J;cases y:zsB l R;rw[y]at x;have X:R8 l R=false:=(by unfold R8;rw[J,y];rfl);rw[X,c35 X];clear J X y;exact zz55;rw[y]at x;by_cases L:R.length<=10
 . have X:R8 l R=true:=(by unfold R8;rw[J,y,decide_eq_true L];rfl);obtain⟨Y,g⟩:d7 l=true/\ord l<=7:=(by unfold atB at J;simpa using J);have hh:¬(10:Int)<(R.length:Int):=om;have n:(atS l).length<=48:=(by rw[br5];exact ce8 Y g);have S:∀a∈atS l,1<=a.length:=fun a k=>(c66 Y g (cm4 k)).1;have d:=zh (fun f i0 (R:LI) (hR:R.length<=10)=>dv4 Y g f i0 hR);have q:P3 l R=U8 (atS l) (R.length+1) 0 R:=(by unfold P3;rw[X];rfl);rw[X,q];have hi:=L;obtain⟨A,p⟩:=nq (atS l);rw[<-p]at n S d c|-;have cF:=fun j G (O:I1 B G j A) T W (D:Ext G W) (s:c8 W T R)=>ja2 j A B G (zh O) n S d (R.length+1) 0 R T W D s om hi om;clear J X y q Y g p L d;go_in;go_wp2_with fail;rw[<-Z.o];go_wp2_with(first|(go_at_call 283;refine c.mono ?_;rintro e G⟨V,rfl,hc,z⟩;have b:=C _ z)|(go_at_call 119;refine cm (x _ z) fun m I=>?_;have r:=z.trans I)|(go_at_call 284;refine(cF _ _ hc _ _ I (N _ r)).mono ?_;rintro e w3⟨v3,rfl,i,K⟩;obtain⟨aa,c3,rfl,-⟩:=i.shape));have M:=F.trans r;exact br (.tuple #[_,.bool true]) ⟨⟨_,rfl,i.mono M⟩,M.trans K⟩
 have X:R8 l R=false:=(by unfold R8;rw[decide_eq_false L,Bool.and_false,Bool.and_false]);rw[X,c35 X];have hh:(10:Int)<(R.length:Int):=om;clear J X y L;exact zz55
theorem jc2(n:Nat):∀(L:LN) (m:Nat),L.Pairwise (· < ·)->(∀x∈L,m<=x/\x<n)->L.length<=n-m
 |[],_,_,_=>by simp
 |a :: L,m,h,k=>by
  rw[qj]at h
  have H:=k a zm
  have:=jc2 n L (a+1) h.2 (fun x K=>⟨h.1 x K,(k x (by simp[K])).2⟩)
  rw[oy];omega
theorem dg9{l:LI}:∀x∈P3 l R,x<=10:=fun x K=>by
 unfold P3 at K
 cases h:R8 l R
 . rw[h]at K;simp at K
 . rw[h]at K
   unfold R8 at h
   rw[ow,ow,decide_eq_true_iff]at h
   obtain⟨Y,g⟩:d7 l=true/\ord l<=7:=by have:=h.1;unfold atB at this;simpa using this
   exact nle (dg8 (atS l) (fun a H=>(c66 Y g (cm4 H)).1) _ _ _ x K) h.2.2
theorem du9{l:LI}:(P3 l R).length<=254803968:=by
 unfold P3;cases h:R8 l R;simp;unfold R8 at h;rw[ow,ow,decide_eq_true_iff]at h;obtain⟨Y,H⟩:d7 l=true/\ord l<=7:=(by have:=h.1;unfold atB at this;simpa using this);exact dv4 Y H _ _ h.2.2
theorem j98{T:LN}(h:∀x∈T,x<=10)(V:k<=T.length):(M5 T k).length<=11:=by
 have p:=br1 T k V;have:=jc2 11 (M5 T k) 0 p.1 (fun x K=>⟨oX _,by have:=h x (pJ ((p.2 x).1 K));omega⟩);omega
theorem dd5(u:Value)(l R:LI)(w:World)(h:c8 w v l)(M:c8 w u R):Calls Tryz.prog 120 #[.agg #[v],u] w fun e P=>(∃Q,e=.returned Q/\Own 3 w P Q (b9 (V3 (P3 l R))))/\Ext w P:=by
 obtain⟨B,Z,F,C,H,E,Y⟩:=m04 42 h;clear h;have ha:∀W,Ext B W->c8 W u R:=fun W D=>M.ext (F.trans D);have S:Own 3 B (B.alloc (.cells #[] 3)) (.slice (some (aD B.heap.size 0)) 0 0) []:=l9 om E [] rfl;have z:=E.alloc (.cells #[] 3);have he:=C _ z;have c:=fun W (D:Ext B W)=>c53 v u l R W (H W D) (ha W D);have hc:=du9 (l:=l) (R:=R);have J:=dg9 (l:=l) (R:=R);obtain⟨f,y⟩:=nq (P3 l R);have t:Hid (0<f.length->R8 l R=true):=zh (fun p=>by
  cases a:R8 l R
  rw[y,c35 a]at p;simp at p
  rfl)
 rw[<-y]at hc J|-;simp only[<-y]at c;obtain⟨b,L⟩:=nq (R8 l R);simp only[<-L]at c t;have HP:=zh (fun k=>j98 J (k:=k));clear y L J;go_in;go_wp2_with fail;rw[<-Z.o];rw[Y.o];go_wp2_with(go_at_call 223;refine(c _ z).mono ?_;rintro e G⟨⟨v1,rfl,hF⟩,I⟩;obtain⟨aF,ca,rfl,-⟩:=hF.shape);have T:=S.ext I;have K:=z.trans I;clear S;go_loopw [5,8] (fun so s wr=>∃j:Nat,j<=f.length/\s=vi j/\Own 3 B wr so (b9 (M5 f j))/\Ext G wr) (fun _ s _=>f.length-(intOf s).toNat);exact⟨0,om,rfl,T,er _⟩
 clear T;obtain⟨j,g,rfl,O,r⟩:=hrel;obtain⟨aO,cO,rfl,-⟩:=O.shape;by_cases U:j<f.length
 . have x:(j:Int)<(f.length:Int):=om;have hT:=t.o om;subst hT;obtain⟨aa,c3,A,-,X⟩:=(hF.ext r).shape;simp only[Value.slice.injEq]at A;obtain⟨rfl,-,rfl⟩:=A;obtain⟨gF,uF,rfl,hh,V⟩:=X j U;have hi:=bg5 elW szW gF f.length ca;obtain⟨d,hd⟩:=nq (f.getD j 0);rw[<-hd]at V;obtain⟨aU,cU,rfl⟩:=V.shape;have N:Hid (M5 f (j+1)=Q5 (M5 f j) d):=zh (by rw[hd];rfl);have n:=by5 _ (M5 f j) d B wr O (by have:=K.size;have:=r.size;omega) (by have:=HP.o j g;omega);clear hd X V;go_wp2_with(go_at_call 211;refine n.mono ?_;rintro e w2⟨v2,rfl,m,i⟩);go_roundw;exact⟨j+1,om,zg,by rw[N.o];exact m,r.trans i⟩;exact zm1
 have x:¬(j:Int)<(f.length:Int):=om;have q:j=f.length:=om;have Hl:Hid (V3 f=M5 f j):=zh (by rw[q];rfl);clear q;go_wp2_with fail;go_ret;exact⟨⟨_,rfl,by rw[Hl.o];exact O.mono F⟩,F.trans (K.trans r)⟩
def noC(c:Int)(x:Ba):Prop:=∀b∈x.data.toList,¬(b.toNat:Int)=c
def cv7(c:Int):List UInt8->Ba->List Ba
 |[],p=>[p]
 |b :: r,p=>if (b.toNat:Int)=c then p :: cv7 c r ⟨#[]⟩else cv7 c r (p++⟨#[b]⟩)
theorem je9(h:i<s.size):s.extract i (i+1)=⟨#[s[i]'h]⟩:=by
 apply pH;apply Array.ext;simp;have:s.data.size=s.size:=rfl;omega;intro j o r;have:j=0:=(by simp at r;omega);subst this;simp;rfl
theorem jr7:∀n i p,s.size-i=n->i<=s.size->Z3 c s i p=cv7 c (s.data.toList.drop i) p:=by
 intro n;induction n with
 |zero =>
  intro i p h J;rw[bu2 c s i p om,List.drop_of_length_le (by rw[pS];show s.size<=i;omega)];rfl
 |succ n ih =>
  intro i p h J;have U:i<s.size:=om;have l:i<s.data.toList.length:=by rw[pS];exact U
  have C:(s.data.toList[i].toNat:Int)=bt s i:=by rw[<-b19 s i U];rfl
  rw[qf l];show _=if _ then _ else _;by_cases H:(bt s i:Int)=c
  . rw[bu3 c s i p U H,if_pos (by rw[C];exact H),ih (i+1) _ om om]
  . rw[bn2 c s i p U H,if_neg (by rw[C];exact H),ih (i+1) _ om om,je9 s i U];rfl
theorem cf2:p7 c s=cv7 c s.data.toList ⟨#[]⟩:=by
 have:=jr7 c s s.size 0 ⟨#[]⟩ om om;rw[List.drop_zero]at this;exact this
theorem lq5(p:Ba)(b:UInt8)(r:List UInt8):(p++⟨#[b]⟩)++(⟨r.toArray⟩:Ba)=p++⟨(b :: r).toArray⟩:=by
 apply pH;simp
theorem cf3(c:Int):∀(s:List UInt8) (p:Ba),(∀b∈s,¬(b.toNat:Int)=c)->cv7 c s p=[p++⟨s.toArray⟩]
 |[],p,_=>by
  show [p]=_
  congr 1
  apply pH;simp
 |b :: r,p,h=>by
  show(if _ then _ else _)=_
  rw[if_neg (h b zm),cf3 c r _ (fun x K=>h x (by simp[K])),lq5]
theorem cf4(c:Int)(d:UInt8)(hd:(d.toNat:Int)=c)(y:List UInt8)(h:∀b∈y,¬(b.toNat:Int)=c):∀(x:List UInt8) (p:Ba),cv7 c (x++d :: y) p=cv7 c x p++[⟨y.toArray⟩]
 |[],p=>by
  show(if _ then _ else _)=[p]++_
  rw[if_pos hd,cf3 c y _ h]
  have e:(⟨#[]⟩:Ba)++⟨y.toArray⟩=⟨y.toArray⟩:=by apply pH;simp
  rw[e];rfl
 | b :: r,p=>by
  show(if _ then _ else _)=(if _ then _ else _)++_
  split
  . rw[List.cons_append]
    exact congrArg _ (cf4 c d hd y h r ⟨#[]⟩)
  . exact cf4 c d hd y h r _
theorem ll6(x:Ba):(⟨#[]⟩:Ba)++⟨x.data.toList.toArray⟩=x:=by
 apply pH;simp
theorem l47{c:Int}(h:noC c x):p7 c x=[x]:=by
 rw[cf2,cf3 c _ _ h,ll6]
theorem jr5{c:Int}{y:Ba}{d:UInt8}(hd:(d.toNat:Int)=c)(h:noC c y):p7 c (x++⟨#[d]⟩++y)=p7 c x++[y]:=by
 rw[cf2,cf2];have e:(x++⟨#[d]⟩++y).data.toList=x.data.toList++d :: y.data.toList:=zm;rw[e,cf4 c d hd _ h]
theorem c36{S:Ba}(h:¬S=mtB):F2 (S,true)=S:=by unfold F2;rw[if_neg zm,if_neg h]
theorem d35:F2 (mtB,true)=wNo:=by unfold F2;rw[if_neg zm,if_pos rfl]
theorem zz54{P:Prop}(h:P:=by rw[<-n]at hc f;have hb:(u++S).size=u.size+S.size:=oe;have F:(u++S++nlB).size=u.size+S.size+1:=(by rw[oe,hb];rfl);clear n m;go_wp2_with(go_at_call 12;refine cm (f _) fun w3 Q=>?_);go_roundw;exact⟨k+1,_,om,zg,rfl,by(first|(rw[F];omega)|(have:=F;unfold nlB at this;rw[this];omega)),E.trans Q,Hv⟩;exact zm1):P:=h
theorem dd6(v:Ba->Ba)(s:Ba)(w:World)
 (hF:∀t,t∈p7 10 s->¬t=mtB->(v t).size<=4000/\∀W,Calls Tryz.prog 12 #[.string t] W (RE W (.string (v t)))) :
 Calls Tryz.prog 5 #[.string s] w (RE w (.string (P1 v s))):=by
 by_cases r:2000<s.size;have ho:(2000:Int)<s.size:=om;have q:Hid (P1 v s=mtB):=zh (if_pos r);exact zz152;have ho:¬(2000:Int)<s.size:=by omega
 have hm:=True.intro;have q:Hid (P1 v s=if 20<(lnL s).length then mtB else J9 v (lnL s) (lnL s).length):=zh (if_neg r);obtain⟨ha,hg,hj⟩:=K6 10 s;have hcut:=bl3 s 10 w om;have b:Hid (lnL s=if m8 (p7 10 s) ((p7 10 s).length-1)=mtB then(p7 10 s).take ((p7 10 s).length-1)else p7 10 s):=zh rfl;obtain⟨L,hh⟩:=nq (p7 10 s);rw[<-hh]at ha hg hj hcut b hF;obtain⟨M,d⟩:=nq (L.length);rw[<-d]at hg hj b;obtain⟨P,hP⟩:=nq (M-1);rw[<-hP]at b;have hw:P+1=M:=om;have hu:IntKind.i64.wrap ((M:Int)-1)=(P:Int):=(by rw[oD _ om];omega);have HF:=zh hF;have Hr:=zh ha;have H:=zh d;have ht:P<=L.length:=om;clear hm hh hF ha hP d;by_cases p:m8 L P=mtB
 . have hq:(m8 L P).toList.isEmpty=true:=bm5 p;have a:Hid (lnL s=L.take P/\(L.take P).length=P):=zh ⟨by rw[b.o,if_pos p],by rw[ol];omega⟩;clear p;by_cases O:20<P
   . have he:(20:Int)<P:=om;have Z:Hid (P1 v s=mtB):=zh (by rw[q.o,a.o.1,a.o.2,if_pos O]);go_in;go_wp2_with(go_at_call 11;refine hcut.mono ?_;rintro e G⟨R,rfl,X,z⟩;obtain⟨g,c,C,l,I⟩:=X.indexS (by rw[<-H.o];omega);rw[<-H.o]at C l I;subst C;have hp:=X.cap;have A:=l P om;have hr:=U6 elS szS (some (aD g 0)) M c (P:Int) om om;clear l);go_ret;exact⟨j5 Z.o.symm,z⟩
   have he:¬(20:Int)<P:=om;have Z:Hid (P1 v s=J9 v (L.take P) P):=zh (by rw[q.o,a.o.1,a.o.2,if_neg O]);go_in;go_wp2_with(go_at_call 11;refine hcut.mono ?_;rintro e G⟨R,rfl,X,z⟩;obtain⟨g,c,C,l,I⟩:=X.indexS (by rw[<-H.o];omega);rw[<-H.o]at C l I;subst C;have hp:=X.cap;have A:=l P om;have hr:=U6 elS szS (some (aD g 0)) M c (P:Int) om om;have Hl:=zh l;clear l);have hn:∀(i:Nat) W,i<P->(Instr.indexAt 29 (.slice (some (aD g 0)) P c) (vi (i:Int))).run Tryz.prog W=.ok (.pointer (some (aD g i))) W:=by
    intro i W J;exact zz32
   clear A I hcut;go_loopw [4,5] (fun ov D wr=>∃(k:Nat) (u:Ba),k<=P/\D=vi k/\ov=.string u/\u.size<=k*4005/\Ext G wr/\Hid (u=J9 v (L.take P) k)) (fun _ D _=>P-(intOf D).toNat);exact⟨0,_,om,rfl,rfl,oX _,er _,zh rfl⟩;case round =>
    obtain⟨k,u,V,rfl,rfl,hs,E,Y⟩:=hrel;by_cases U:k<P
    . have T:=E.cell (Hl.o k om);have hz:(m8 L k).size<=100000:=(by have:=Hr.o _ (J8 (L:=L) (i:=k) (by rw[<-H.o];omega));omega);have y:=zh (HF.o (m8 L k) (J8 (by rw[<-H.o];omega)));obtain⟨x,K⟩:=nq (m8 L k);have j:Hid (m8 (L.take P) k=x):=zh ((ci5 L P k U:m8 (L.take P) k=m8 L k).trans K.symm);rw[<-K]at T hz y;clear K;by_cases m:x=mtB
      . have N:Hid (u=J9 v (L.take P) (k+1)):=zh (by rw[Y.o,bs5];rw[j.o];exact m);have hf:x.toList.isEmpty=true:=bm5 m;exact zz62
      . have hf:=b65 m;obtain⟨hc,f⟩:=y.o m;obtain⟨S,n⟩:=nq (v x);have Hv:Hid (u++S++nlB=J9 v (L.take P) (k+1)):=zh (by rw[Y.o,bs4 (by rw[j.o];exact m),j.o,n]);exact zz54
    . have B:k=P:=om;subst B;go_wp2_with fail;go_ret;exact⟨j5 (by rw[Z.o,Y.o]),z.trans E⟩
 have hq:(m8 L P).toList.isEmpty=false:=b65 p;have a:Hid (lnL s=L/\L.length=M):=zh ⟨by rw[b.o,if_neg p],H.o.symm⟩;clear p;by_cases O:20<M
 . have he:(20:Int)<M:=om;have Z:Hid (P1 v s=mtB):=zh (by rw[q.o,a.o.1,a.o.2,if_pos O]);go_in;go_wp2_with(go_at_call 11;refine hcut.mono ?_;rintro e G⟨R,rfl,X,z⟩;obtain⟨g,c,C,l,I⟩:=X.indexS (by rw[<-H.o];omega);rw[<-H.o]at C l I;subst C;have hp:=X.cap;have A:=l P om;skip;clear l);go_ret;exact⟨j5 Z.o.symm,z⟩
 have he:¬(20:Int)<M:=om;have Z:Hid (P1 v s=J9 v L M):=zh (by rw[q.o,a.o.1,a.o.2,if_neg O]);go_in;go_wp2_with(go_at_call 11;refine hcut.mono ?_;rintro e G⟨R,rfl,X,z⟩;obtain⟨g,c,C,l,I⟩:=X.indexS (by rw[<-H.o];omega);rw[<-H.o]at C l I;subst C;have hp:=X.cap;have A:=l P om;skip;have Hl:=zh l;clear l);have hn:∀(i:Nat) W,i<M->(Instr.indexAt 29 (.slice (some (aD g 0)) M c) (vi (i:Int))).run Tryz.prog W=.ok (.pointer (some (aD g i))) W:=by
  intro i W J;exact zz32
 clear A I hcut;go_loopw [4,5] (fun ov D wr=>∃(k:Nat) (u:Ba),k<=M/\D=vi k/\ov=.string u/\u.size<=k*4005/\Ext G wr/\Hid (u=J9 v L k)) (fun _ D _=>M-(intOf D).toNat);exact⟨0,_,om,rfl,rfl,oX _,er _,zh rfl⟩;case round =>
  obtain⟨k,u,V,rfl,rfl,hs,E,Y⟩:=hrel;by_cases U:k<M
  . have T:=E.cell (Hl.o k om);have hz:(m8 L k).size<=100000:=(by have:=Hr.o _ (J8 (L:=L) (i:=k) (by rw[<-H.o];omega));omega);have y:=zh (HF.o (m8 L k) (J8 (by rw[<-H.o];omega)));obtain⟨x,K⟩:=nq (m8 L k);have j:Hid (m8 L k=x):=zh ((rfl:m8 L k=m8 L k).trans K.symm);rw[<-K]at T hz y;clear K;by_cases m:x=mtB
    . have N:Hid (u=J9 v L (k+1)):=zh (by rw[Y.o,bs5];rw[j.o];exact m);have hf:x.toList.isEmpty=true:=bm5 m;exact zz62
    . have hf:=b65 m;obtain⟨hc,f⟩:=y.o m;obtain⟨S,n⟩:=nq (v x);have Hv:Hid (u++S++nlB=J9 v L (k+1)):=zh (by rw[Y.o,bs4 (by rw[j.o];exact m),j.o,n]);exact zz54
  . have B:k=M:=om;subst B;go_wp2_with fail;go_ret;exact⟨j5 (by rw[Z.o,Y.o]),z.trans E⟩
theorem Z7(w:World)(h:c8 w v l)(S:s.size<=100000):Calls Tryz.prog 23 #[.agg #[v],.string s] w (RE w (.tuple #[vi (psV l s).1,.bool (psV l s).2])):=by
 obtain⟨B,Z,F,C,H,E,Hg⟩:=m04 42 h;clear h;by_cases m:s=bc8
 . have Hv:=zh (dc7 (l:=l) m);have g:=bn6 s bc8 (decide_eq_true m);change (s.toList == [110,111,110,101])=true at g;have c:=fun W h=>C4 v l W h;obtain⟨b,hl⟩:=nq (d7 l);rw[<-hl]at c Hv;clear hl m;go_in;go_wp2_with(go_at_call 52;rw[<-Z.o];refine cm (c _ (H _ E)) fun D I=>?_);exact br (.tuple #[vi 0,.bool b]) ⟨by rw[Hv.o],F.trans I⟩
 have g:=bn6 s bc8 (decide_eq_false m);change (s.toList == [110,111,110,101])=false at g;by_cases ht:80<s.size
 . have f:=zh (ln2 (l:=l) ht);have hC:¬(s.size:Int)<=80:=om;have c:=fun W h=>F8 v l 0 W h;have hf:=jt0 l 0;obtain⟨u,G⟩:=nq (fsF l 0);rw[<-G]at c hf;have hi:=(b05 (x:=u) (y:=s)).trans (decide_eq_false (fun e=>by rw[e]at hf;omega));clear m G ht;go_in;go_wp2_with fail;rw[<-Z.o];go_loop [6,7,8] (fun av pv J=>av=vi 0/\pv=.string mtB/\J=vi 0) (fun _ _ _=>0);exact⟨rfl,rfl,rfl⟩;case round =>
    obtain⟨rfl,rfl,rfl⟩:=hrel;have kb:=C _ E;go_wp2_with(go_at_call 54;refine cm (c _ (H _ E)) fun D I=>?_);exact br (.tuple #[vi 0,.bool false]) ⟨by rw[f.o],F.trans I⟩
 have hC:(s.size:Int)<=80:=om;have Hd:=zh (fun r=>d60 (l:=l) m r);have Hb:=zh (fun a r=>d61 (l:=l) (a:=a) m r);obtain⟨T,hT⟩:=nq (X8 l (p7 44 s) 0);rw[<-hT]at Hd Hb;have HT:=zh hT;clear m hT;go_in;go_wp2_with fail;rw[<-Z.o];go_loopw [6,7,8] (fun av pv J wr=>∃(k a:Nat) (p:Ba),av=vi a/\pv=.string p/\J=vi k/\a<2^24/\p.size<=s.size/\p.size<=k/\Ext B wr/\Hid ((k<=s.size/\T=X8 l (Z3 44 s k p) a)\/(k=s.size+1/\T=some a))) (fun _ _ J _=>s.size+1-(intOf J).toNat);exact⟨0,0,_,rfl,rfl,rfl,by decide,oX _,oX _,E,zh (Or.inl ⟨oX _,HT.o⟩)⟩;case round =>
  clear E;obtain⟨k,a,p,rfl,rfl,rfl,ha,hL,hJ,E,HH⟩:=hrel;have kb:=C _ E;by_cases V:k<=s.size
  . have hw:(k:Int)<=s.size:=om;have O:Hid (T=X8 l (Z3 44 s k p) a):=zh (by rcases HH.o with q|q;exact q.2;exact absurd q.1 om);clear HH;by_cases M:k<s.size/\¬(bt s k:Int)=44
    . obtain⟨U,Q⟩:=M;have N:Hid (T=X8 l (Z3 44 s (k+1) (p++s.extract k (k+1))) a):=zh (by rw[O.o,bn2 44 s k p U Q]);obtain⟨b,he⟩:∃b,b=bt s k:=⟨_,rfl⟩;have K:(s[k]'U).toNat=b:=(by rw[b19,he]);rw[<-he]at Q;have hI:((b:Int) != 44)=true:=(by simp;exact Q);have h1:(s.extract k (k+1)).size=1:=(by rw[pP];omega);have r:(p++s.extract k (k+1)).size=p.size+1:=(by rw[oe,h1]);clear Q he;go_wp2_with fail;go_roundw;exact⟨k+1,a,_,rfl,rfl,zg,ha,om,om,E,zh (Or.inl ⟨om,N.o⟩)⟩;exact zm1
    . have hz:∃X,T=X8 l (p :: X) a/\(∀L:Nat,T=X8 l X L->(k+1<=s.size/\T=X8 l (Z3 44 s (k+1) ⟨#[]⟩) L)\/(k+1=s.size+1/\T=some L)):=by
       by_cases U:k<s.size
       . have Q:(bt s k:Int)=44:=oU fun q=>M ⟨U,q⟩;exact⟨_,by rw[O.o,bu3 44 s k p U Q],fun L h=>Or.inl ⟨U,h⟩⟩
       . exact⟨[],by rw[O.o,bu2 44 s k p om],fun L h=>Or.inr ⟨om,h⟩⟩
      obtain⟨X,ho,hm⟩:=hz
      have Ha:=zh ho
      have Hf:=zh hm
      have hB:p.size<=100000:=om
      have P:=fun W=>bd0 p W hB
      have hj:(∃(U:k<s.size),(s[k]'U).toNat=44)\/¬(k:Int)<s.size:=by
       by_cases U:k<s.size
       . have Q:(bt s k:Int)=44:=oU fun q=>M ⟨U,q⟩;exact Or.inl ⟨U,by rw[b19];omega⟩
       . exact Or.inr om
      clear ho hm M O
      cases A:(pI p).2
      . rw[A]at P
        have f:=zh (Hd.o (by rw[Ha.o];exact c50 (by rw[A];simp)))
        obtain⟨n,m⟩:=nq ((pI p).1)
        rw[<-m]at P
        clear m A
        rcases hj with⟨U,K⟩|U
        all_goals(
         go_wp2_with(go_at_call 39;refine cm (P _) fun D I=>?_)
         exact br (.tuple #[vi 0,.bool false]) ⟨by rw[f.o],F.trans (E.trans I)⟩)
      . rw[A]at P
        have i:=fun W h=>c89 v l (pI p).1 W h
        cases d:M7 l (pI p).1
        . rw[d]at i
          have f:=zh (Hd.o (by rw[Ha.o];exact c50 (by rw[d];simp)))
          obtain⟨n,m⟩:=nq ((pI p).1)
          rw[<-m]at P i
          clear m A d
          rcases hj with⟨U,K⟩|U
          all_goals(
           go_wp2_with(first|(go_at_call 39;refine cm (P _) fun D I=>?_;have ka:=C _ (E.trans I))|(go_at_call 53;refine cm (i _ (H _ (E.trans I))) fun w3 R=>?_))
           exact br (.tuple #[vi 0,.bool false]) ⟨by rw[f.o],F.trans (E.trans (I.trans R))⟩)
        . rw[d]at i
          obtain⟨n,m,hH,Y⟩:=b94 d
          have hG:=l8 Y
          have Hn:=zh (Hf.o (a ||| 2^n) (by rw[Ha.o,jh7 A d m]))
          rw[m]at i P
          have hD:=o6 (n:=n) om
          have hK:=H9 (o:=a) (z:=n) ha om
          have hy:a ||| 2^n<2^24:=ox ha (oJ om om)
          clear m A d Y
          rcases hj with⟨U,K⟩|U
          all_goals(
           go_wp2_with(first|(go_at_call 39;refine cm (P _) fun D I=>?_;have ka:=C _ (E.trans I))|(go_at_call 53;refine cm (i _ (H _ (E.trans I))) fun w3 R=>?_))
           go_roundw
           case rel=>exact⟨k+1,a ||| 2^n,_,rfl,rfl,zg,hy,oX _,oX _,E.trans (I.trans R),Hn⟩
           case measure=>exact zm1)
  . have hw:¬(k:Int)<=s.size:=om;have hr:T=some a:=(by rcases HH.o with q|q;exact absurd q.1 V;exact q.2);have He:=zh (Hb.o a hr);have c:=fun W h=>F8 v l a W h;obtain⟨u,G⟩:=nq (fsF l a);rw[<-G]at c He;have hi:=b05 (x:=u) (y:=s);clear G hr;by_cases j:u=s
    . rw[decide_eq_true j]at hi;have f:=zh (He.o.trans (if_pos j));clear j;go_wp2_with(go_at_call 54;refine cm (c _ (H _ E)) fun D I=>?_);exact br (.tuple #[vi a,.bool true]) ⟨by rw[f.o],F.trans (E.trans I)⟩
    . rw[decide_eq_false j]at hi;have f:=zh (He.o.trans (if_neg j));clear j;go_wp2_with(go_at_call 54;refine cm (c _ (H _ E)) fun D I=>?_);exact br (.tuple #[vi 0,.bool false]) ⟨by rw[f.o],F.trans (E.trans I)⟩
end Go.Zz
