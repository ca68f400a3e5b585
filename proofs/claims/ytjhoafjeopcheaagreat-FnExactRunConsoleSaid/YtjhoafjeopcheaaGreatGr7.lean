/- Plain laws: what the table of sums holds, and how it changes. -/
import Derived.Test.YtjhoafjeopcheaaGreatGr6
import Derived.Deep.DeepCutAuto
set_option linter.all false
set_option maxHeartbeats 2000000
set_option maxRecDepth 20000
namespace Go.Zz
open Go.RowKit Go.Proofs
variable(v:Value)(t:LI)(L:LN)(l:LI){W e G R w:World}{V p c y x u m:Value}{g q:LI}{n:Int}{b:Nat}
def bc6(t:LI)(S:LN):LI:=S.foldl bump t
theorem df4:∀(S:LN) (t:LI),(bc6 t S).length=t.length
 |[],_=>rfl
 |z :: S,t=>by show(bc6 (bump t z) S).length=_;rw[df4 S,c70]
theorem dj4:∀(S:LN) (t:LI) (z:Nat),(∀x∈S,x<t.length)->nth (bc6 t S) z=nth t z+(S.count z:Int)
 |[],t,z,_=>by simp[bc6]
 | x :: S,t,z,h=>by
  show nth (bc6 (bump t x) S) z=_
  rw[dj4 S _ z (fun y H=>by rw[c70];exact h y (by simp[H])),dz7 t x z (h x zm),qt]
  by_cases e:z=x
  . subst e;simp;omega
  . have E:¬x=z:=fun h=>e h.symm
    simp[e,E]
def c00(l:LI)(L M:LN):LN:=L.flatMap (fun x=>M.map (fun y=>j9 l x y))
theorem dr1(A B:LN):bc6 t (A++B)=bc6 (bc6 t A) B:=by unfold bc6;rw[oH]
theorem jb0(x:Nat)(t:LI)(L:LN):T3 l x t L=bc6 t (L.map (fun y=>j9 l x y)):=by
 unfold T3 bc6;rw[List.foldl_map]
theorem bw3(l:LI)(b:Nat):∀(L:LN) (t:LI),L9 l b t L=bc6 t (c00 l L (j3 b))
 |[],_=>rfl
 |x :: L,t=>by
  show L9 l b (T3 l x t (j3 b)) L=_
  rw[bw3 l b L,jb0]
  unfold c00;rw[List.flatMap_cons,dr1]
def be5(l:LI)(a b:Nat):LI:=L9 l b (List.replicate (ord l) 0) (j3 a)
theorem j58(a b:Nat):(be5 l a b).length=ord l:=by unfold be5;rw[bw3,df4];simp
theorem lc7{l:LI}(h:d7 l=true){L M:LN}:∀x∈c00 l L M,x<ord l:=by
 intro x K;obtain⟨u,_,v⟩:=List.mem_flatMap.1 K;obtain⟨y,_,rfl⟩:=pp.1 v;exact I4 l (m0 h) _ _
theorem dj5(n i:Nat):nth (List.replicate n 0) i=0:=by
 unfold nth;simp only[List.getD_eq_getElem?_getD,List.getElem?_replicate];split<;>simp
theorem la0{l:LI}(h:d7 l=true)(a b z:Nat):nth (be5 l a b) z=((c00 l (j3 a) (j3 b)).count z:Int):=by
 unfold be5;rw[bw3,dj4 _ _ _ (by intro x K;rw[List.length_replicate];exact lc7 h x K),dj5];simp
def cN(l:LI)(L M:LN)(z:Nat):Nat:=(c00 l L M).count z
def c20(t:LI):Nat->Int
 |0=>0
 |k+1=>c20 t k+nth t k*nth t k
theorem cl5(k:Nat):c20 t (k+1)=c20 t k+nth t k*nth t k:=rfl
theorem lc8(M:LN)(l:LI):(c00 l L M).length=L.length*M.length:=by
 unfold c00;induction L with
 |nil=>simp
 |cons x L ih=>rw[List.flatMap_cons,oh,ih,oG,oy,Nat.succ_mul];omega
theorem de4{l:LI}(h:d7 l=true)(a b z:Nat):0<=nth (be5 l a b) z/\nth (be5 l a b) z<=576:=by
 rw[la0 h];have H:=qu (a:=z) (l:=c00 l (j3 a) (j3 b));rw[lc8]at H;have r:(j3 a).length*(j3 b).length<=24*24:=pm (D0 a) (D0 b);omega
theorem jn8{x:Int}(H:0<=x)(h:x<=576):0<=x*x/\x*x<=331776:=
 ⟨Int.mul_nonneg H H,by have:=qC h h H (by omega:(0:Int)<=576);omega⟩
theorem bb3{l:LI}(h:d7 l=true)(a b:Nat):∀k,0<=c20 (be5 l a b) k/\c20 (be5 l a b) k<=331776*k
 |0=>by simp[c20]
 |k+1=>by
  have i:=bb3 h a b k
  obtain⟨H,r⟩:=de4 h a b k
  have:=jn8 H r
  rw[cl5];push_cast;omega
theorem l08{l:LI}{a:Nat}(h:(j0 l a&&j0 l b)=true):cb1 l a b=be5 l a b:=d07 h
theorem bk5{p:Addr}(h:w.cell? p=some x)(U:World):(Lat w U).cell? p=some x:=(c9 w U).cell h
theorem cc0(a b:Int)(w:World)(h:c8 w v l):Calls Tryz.prog 229 #[.agg #[v],vi a,vi b] w fun e c=>∃u,e=.returned u/\Own 3 w c u (cb1 l a b)/\Ext w c:=by
 obtain⟨B,Z,F,C,H,E,n⟩:=m04 42 h;clear h;have p:=C B E;cases S:(j0 l a&&j0 l b)
 . have N:=zh (ji6 S);cases d:j0 l a
   . go_in;go_wp2_with fail;rw[<-Z.o];try rw[n.o]
     go_wp2_with(first|(go_at_call 124;refine cx (m6 _ _ _ _ (H _ E) (d)) E fun c E=>?_));exact zz101
   have r:j0 l b=false:=(by simpa[d]using S);clear S;go_in;go_wp2_with fail;rw[<-Z.o];try rw[n.o]
   go_wp2_with(first|(go_at_call 124;(first|(with_reducible refine od (m6 _ _ a _ (H _ E) d) ?_)|(with_reducible refine od (m6 _ _ b _ (H _ E) r) ?_));rintro e c⟨rfl,f⟩;replace E:=E.trans f;clear f));exact zz101
 obtain⟨d,r⟩:=pO.1 S;obtain⟨a,rfl,-,ha,Y⟩:=l7 d;obtain⟨b,rfl,-,hq,-⟩:=l7 r;have N:=zh (d07 S);have R:=zh Y;have hG:=l8 Y;clear S Y;go_in;go_wp2_with fail;rw[<-Z.o];try rw[n.o]
 go_wp2_with(first|(go_at_call 124;(first|(with_reducible refine od (m6 _ _ (a:Int) _ (H _ E) d) ?_)|(with_reducible refine od (m6 _ _ (b:Int) _ (H _ E) r) ?_));rintro e c⟨rfl,f⟩;replace E:=E.trans f;clear f)|(go_at_call 103;refine cx (o4 _ _ _ (H _ E) (R)) E fun c E=>?_)|(at_make;refine b10 slI rfl _ _ rfl B _ (ord l) rfl rfl om E ?_;intro w2 O I));rename_i hf;refine(L0 a ha _).mono ?_;rintro e G⟨v1,rfl,X,z⟩;obtain⟨aL,A,rfl⟩:=X.nshape;go_wp2_with fail;refine(L0 b hq _).mono ?_;rintro e w3⟨v3,rfl,m,J⟩;obtain⟨aM,cM,rfl⟩:=m.nshape;obtain⟨g,hf⟩:=nq (c.heap.size);rw[<-hf]at O|-;clear hf;obtain⟨_,hi,hr,hm⟩:=O.row zm om;simp only[Option.some.injEq,Addr.mk.injEq,and_true]at hi;subst hi;have hx:g<G.heap.size:=nlt hm z.size;replace O:=(O.ext z).ext J;replace X:=X.ext J;replace E:=I.trans (z.trans J);have hK:=ba2 g (ord l) (ord l);have hl:∀y∈j3 a,y<24:=fun y K=>J5 K;have hp:=D0 a;have hn:∀y∈j3 b,y<24:=fun y K=>J5 K;have hw:=D0 b;clear z I J d r p;obtain⟨M,hc⟩:=nq (j3 b);rw[<-hc]at m hn hw|-;have Hd:=zh hc;clear hc;generalize j3 a=L at X hl hp N|-;go_wp2_with fail;go_loopw [10] (fun i wr=>∃k:Nat,k<=L.length/\i=vi k/\Own 3 B wr (.slice (some (aD g 0)) (ord l) (ord l)) (L9 l b (List.replicate (ord l) 0) (L.take k))/\Own 3 w2 wr (.slice aL L.length A) (b9 L)/\Own 3 G wr (.slice aM M.length cM) (b9 M)/\Ext B wr) (fun i _=>L.length-(intOf i).toNat);exact⟨0,om,rfl,O,X,m,E⟩;case round =>
  clear E O X m;obtain⟨k,V,rfl,O,X,m,E⟩:=hrel;by_cases U:k<L.length
  . have hH:=hl _ (m7 U);have Hn:=zh (ct9 l b (List.replicate (ord l) 0) (L.take k) (d5 L k));have Hk:=zh (K9 L k U);have hD:(L.take k).length<=24:=(by rw[ol];omega);go_wp2_with fail;go_loopw [11] (fun i q=>∃j:Nat,j<=M.length/\i=vi j/\Own 3 B q (.slice (some (aD g 0)) (ord l) (ord l)) (T3 l (d5 L k) (L9 l b (List.replicate (ord l) 0) (L.take k)) (M.take j))/\Own 3 w2 q (.slice aL L.length A) (b9 L)/\Own 3 G q (.slice aM M.length cM) (b9 M)/\Ext B q) (fun i _=>M.length-(intOf i).toNat);exact⟨0,om,rfl,O,X,m,E⟩;case round =>
     clear E O X m;obtain⟨j,hj,rfl,O,X,m,E⟩:=hrel;by_cases he:j<M.length
     . obtain⟨gL,rfl,-,-⟩:=X.row (d9 L) om;have hh:=bk5 (X.cellAt (d9 L) U).1;rw[bx0]at hh;have ht:=ba2 gL L.length A;obtain⟨gM,rfl,-,-⟩:=m.row (d9 M) om;have ho:=bk5 (m.cellAt (d9 M) he).1;rw[bx0]at ho;have hv:=ba2 gM M.length cM;have p:=bk5 (C _ E);have hI:=hn _ (m7 he);have Ha:=zh (d86 l (d5 L k) (L9 l b (List.replicate (ord l) 0) (L.take k)) (M.take j) (d5 M j));have Hb:=zh (K9 M j he);have hz:(M.take j).length<=24:=(by rw[ol];omega);have hC:=j59 R.o (b:=b) (x:=d5 L k) hD hz (j9 l (d5 L k) (d5 M j));have hA:=I4 l (m0 R.o) (d5 L k) (d5 M j);have D:Hid ((T3 l (d5 L k) (L9 l b (List.replicate (ord l) 0) (L.take k)) (M.take j)).length=ord l):=zh (by rw[bo0,br3];simp);generalize T3 l (d5 L k) (L9 l b (List.replicate (ord l) 0) (L.take k)) (M.take j)=T at O hC Ha D;have s:=E;clear E;have E:=er wr;go_wp2_with fail;refine wl E ?_;(repeat(go_big_quiet_step(first|(go_at_call 220;exact oa (G8 _ _ _ _ _ ((H _ (s.trans (c9 wr _)))) (R) (om) (om))))));refine zd fun W E=>?_;replace O:=O.ext E;replace X:=X.ext E;replace m:=m.ext E;replace s:=s.trans E;obtain⟨hJ,hN⟩:=O.cellAt D.o hA;clear E hh ho p ht hv;go_wp2_with fail;go_roundw;case rel =>
        refine⟨j+1,om,zg,?_,X.setCell_below hm _,m.setCell_below hx _,s.setCell hr _⟩;rw[Hb.o,Ha.o];exact(O.stored_grown D.o _ _).1
       case measure=>exact zm1
     . have t:j=M.length:=om;subst t;have hu:Own 3 B wr (.slice (some (aD g 0)) (ord l) (ord l)) (L9 l b (List.replicate (ord l) 0) (L.take (k+1))):=by
        rw[Hk.o,Hn.o,<-Hd.o];rw[oz]at O;exact O
       go_wp2_with fail;go_roundw;exact⟨k+1,om,zg,hu,X,m,E⟩;exact zm1
  . have t:k=L.length:=om;subst t;rw[oz,<-N.o]at O;exact zz82
theorem Own.kept{TI:TypeId}{v:Value}{l:LI}{row:Option Nat}(h:Own TI W w v l)(H:w.grownBy e row)(n:v.ownBlock=none\/v.ownBlock≠row):Own TI W e v l :=
 ⟨h.1.kept H n,h.2⟩
def bp7(W w:World)(c:Value)(l:LI)(n:Int)(m:LI):Prop :=
 ∃v u,c=.agg #[v,vi n,u]/\Own 3 W w v l/\Own 3 W w u m/\(v.ownBlock=none\/v.ownBlock≠u.ownBlock)
theorem bp7.mono{l m:LI}(h:bp7 G w c l n m)(E:Ext W G):bp7 W w c l n m:=by
 obtain⟨v,u,rfl,H,r,Y⟩:=h;exact⟨v,u,rfl,H.mono E,r.mono E,Y⟩
theorem bp7.ext{l m:LI}(h:bp7 W w c l n m)(E:Ext w e):bp7 W e c l n m:=by
 obtain⟨v,u,rfl,H,r,Y⟩:=h;exact⟨v,u,rfl,H.ext E,r.ext E,Y⟩
theorem E3(w:World)(h:c8 w v l):Calls Tryz.prog 170 #[v] w fun e W=>∃V,e=.returned V/\Own 3 w W V l/\Ext w W:=by
 have O:=l9 (TI:=3) (n:=0) om (er w) [] rfl;have E:=(er w).alloc (.cells #[] 3);have I:=h.ext E;obtain⟨A,c,rfl,C,L,-⟩:=h;go_in;go_wp2_with(at_builtin;refine F7 slI rfl _ _ rfl w _ _ _ _ _ O I E (by simpa using L) rfl rfl ?_;intro i G H z);go_ret;exact⟨_,rfl,by simpa using H,z⟩
theorem Blk.grown{T:TypeId}{c:Array Value}{row:Option Nat}(h:Blk w b T c)(H:w.grownBy W row)(n:∀k,row=some k->k≠b):Blk W b T c:=by
 unfold Blk;rw[H.block b h.lt (by
  cases row with
  |none=>simp
  |some k=>simp;exact fun e=>n k rfl (by first|exact e|exact e.symm))]
 exact h
theorem bp7.kept{l m:LI}{row:Option Nat}(h:bp7 W w c l n m)(H:w.grownBy R row)(r:∀k,row=some k->k<W.heap.size):bp7 W R c l n m:=by
 obtain⟨v,u,rfl,V,U,hd⟩:=h;have y:∀{x:Value} {L:LI},Own 3 W w x L->Own 3 W R x L:=fun {x L} K=>K.kept H (by
  cases q:x.ownBlock with
  |none=>exact Or.inl rfl
  |some k=>exact Or.inr fun e=>by have:=r k e.symm;have:=(K.blk k q).1;omega)
 exact⟨v,u,rfl,y V,y U,hd⟩
def Oth(TI:TypeId)(w e:World):Prop:=∀b T c,T≠TI->Blk w b T c->Blk e b T c
theorem Oth.refl(TI:TypeId)(w:World):Oth TI w w:=fun _ _ _ _ h=>h
theorem Oth.trans{TI:TypeId}{a b c:World}(h:Oth TI a b)(k:Oth TI b c):Oth TI a c:=fun b T s H B=>k b T s H (h b T s H B)
theorem Ext.oth(h:Ext w e)(TI:TypeId):Oth TI w e:=fun _ _ _ _ B=>B.ext h
theorem b47{TI T:TypeId}{v:Value}{l:LI}(h:Own TI W w v l){g:Nat}{c:Array Value}(B:Blk w g T c)(t:T≠TI):v.ownBlock≠some g:=fun e=>by
 obtain⟨U,r⟩:=h
 rcases U.2 with⟨rfl,_⟩|⟨G,cap,u,rfl,_,H,_⟩
 . cases e
 . simp[Value.ownBlock]at e
   subst e
   have b:w.heap[G]?=some (.cells c T (0,0)):=B
   rw[b]at H
   simp at H
   exact t H.2
theorem jx1{TI:TypeId}{i:World}{v:Value}{l:LI}(h:Own TI i w v l)(H:w.grownBy W v.ownBlock):Oth TI w W:=fun b T c t B =>
 B.grown H fun k V e=>b47 h B t (by rw[V,e])
theorem cj7{P:Program}{T TI:TypeId}(H:IntSl P T TI)(t:TypeId)(B n w:World)(v u:Value)(l m:LI)(O:N7 TI B n w v l)(X:c8 w u m)(E:Ext n w)(K:l.length+m.length<=17592186044416):∃R W,(Builtin.append_ #[T,T] t #[v,u]).run P w=.ok R W/\N7 TI B n W R (l++m)/\Ext n W/\Oth TI w W:=by
 obtain⟨i,J,z,s,Y⟩:=H.info;obtain⟨A,c,rfl,ha,L,C⟩:=X;cases A with
 | none =>
  have M:m=[]:=by
   cases m with
   |nil=>rfl
   |cons y m=>obtain⟨_,h,_⟩:=C 0 zm;cases h
  subst M;refine⟨v,w,?_,by simpa using O,E,Oth.refl _ _⟩;rcases O with⟨g,-,rfl,rfl,b⟩|O
  . simp[Builtin.append_,run_underlying H.und,sizeOf,typeInfo,J,Builtin.lenOf,Builtin.firstCells,storeCells,Result.andThen]
  . rcases O.1.2 with⟨rfl,_⟩|⟨g,cap,cr,rfl,_,_,d,_⟩
    . simp[Builtin.append_,run_underlying H.und,sizeOf,typeInfo,J,Builtin.lenOf,Builtin.firstCells]
    . simp[Builtin.append_,run_underlying H.und,sizeOf,typeInfo,J,Builtin.lenOf,Builtin.firstCells,d,storeCells,Result.andThen]
 | some ad =>
  have N:∀j u,(m.map (Value.int .i64))[j]?=some u->w.cell? (ad.add j)=some u:=by
   intro j u U;have f:j<m.length:=(by have:=(List.getElem?_eq_some_iff.1 U).1;simpa using this);obtain⟨a',F,D⟩:=C j f;cases F;rw[D,<-U,bk9 _ _ f];simp[f]
  rcases O with⟨g,S,rfl,rfl,b⟩|O
  . by_cases M:m=[]
    . subst M;have G:w.ownsRow B.heap.size TI 1 (.slice (some (aD g 0)) 0 0) 0 []:=by
       have Z:w.heap[g]?=some (.cells #[] TI (0,0)):=b;exact⟨zm,Or.inr ⟨g,0,#[],rfl,S,Z,oc _,oX _,zm,zm⟩⟩
      refine⟨_,w,?_,Or.inl ⟨g,S,rfl,rfl,b⟩,E,Oth.refl _ _⟩;have r:=run_append_owned_none (P:=P) w B.heap.size T t TI i 1 H.und J (.slice (some (aD g 0)) 0 0) 0 [] G;rw[<-r];simp[Builtin.append_,run_underlying H.und,sizeOf,typeInfo,J,Builtin.lenOf,Builtin.firstCells,go_sem]
    . have hs:0<m.length:=pW (fun e=>M (oF e));obtain⟨R,W,r,q,p⟩:=run_append_arg_grows (P:=P) (w:=w) T t TI i (vi 0) 1 8 H.und J z s Y rfl om (aD g 0) 0 0 [] zm zm ad m.length c (m.map (Value.int .i64)) zm N om (by unfold maxLen;omega) om;have x:Own TI w W R m:=⟨by simpa using q,L⟩;have I:Ext w W:=(er w).grown p zm;exact⟨R,W,r,Or.inr (by simpa using x.mono E),E.trans I,I.oth TI⟩
  . obtain⟨R,W,r,q,p,-⟩:=run_append_own (P:=P) w n.heap.size T t TI i (vi 0) 1 8 H.und J z s Y rfl om v l.length _ O.1 ad m.length c (m.map (Value.int .i64)) zm N (ints_oneCell _ _) (by unfold maxLen;omega) om E.size;exact⟨R,W,r,Or.inr ⟨by simpa using q,by simp;omega⟩,E.grown p fun k V=>(O.blk k V).1,jx1 O p⟩
theorem q9{P:Program}{ops:Array Oper}{o:Oper}{a:Act}{k:Act->World->Prop}{Q:Exit->Act->World->Prop}{y:Prop}{T TI:TypeId}(t:IntSl P T TI)
 (H:o.guard=none) (s x:Operand) (p:o.op=Op.call { callee:=Callee.builtin Builtin.append,args:=#[s,x],argTypes:=#[T,T] })
 (B W:World) (v u:Value) (l m:LI) (O:N7 TI B W w v l) (I:c8 w u m) (E:Ext W w) (n:l.length+m.length<=17592186044416) (S:a.eval s=v) (K:a.eval x=u)
 (U:∀V e,N7 TI B W e V (l++m)->Ext W e->Oth TI w e->k (a.put o.dst V) e) :
 if Region.wanted o (yielded ops a.tmps)=true then Oper.wp P o a w k Q else y:=by
 have F:Region.wanted o (yielded ops a.tmps)=true:=by simp[Region.wanted,H]
 rw[if_pos F];obtain⟨V,e,R,h,r,Y⟩:=cj7 t o.type B W w v u l m O I E n;unfold Oper.wp;simp[execOp,p,resolve,invoke,builtin,S,K,R,Result.andThen];exact U V e h r Y
section
variable {P:Program} {ops:Array Oper} {rest:List Oper} {o:Oper} {a:Act} {Q:Exit->Act->World->Prop} {T TI:TypeId}
end
def l5(x y:Value):Prop:=∀k,x.ownBlock=some k->y.ownBlock≠some k
theorem l5.symm(h:l5 x y):l5 y x:=fun k V e=>h k e V
theorem l5.or(h:l5 x y):x.ownBlock=none\/x.ownBlock≠y.ownBlock:=by
 cases K:x.ownBlock with
 |none=>exact Or.inl rfl
 |some k=>exact Or.inr fun e=>h k K e.symm
theorem l5.nil_left(y:Value):l5 (.slice none 0 0) y:=fun k V=>by cases V
theorem l5.nil_right(x:Value):l5 x (.slice none 0 0):=fun k _ h=>by cases h
theorem G3{TI:TypeId}{a b c d:World}{v:Value}{l m:LI}(h:Own TI a b u l)(k:Own TI c d v m)(S:b.heap.size<=c.heap.size):l5 u v:=fun i J e=>by
 have H:=(h.blk i J).2
 have r:=(k.blk i e).1
 omega
structure Own4(w0 w:World)(v1 v2 v3 v4:Value)(g o t q:LI):Prop where
 h1:Own 3 w0 w v1 g
 h2:Own 3 w0 w v2 o
 h3:Own 3 w0 w v3 t
 h4:Own 3 w0 w v4 q
 d12:l5 v1 v2
 d13:l5 v1 v3
 d14:l5 v1 v4
 d23:l5 v2 v3
 d24:l5 v2 v4
 d34:l5 v3 v4
theorem Own4.ext{v:Value}{o t:LI}(h:Own4 W w v V m p g o t q)(E:Ext w e):Own4 W e v V m p g o t q :=
 ⟨h.h1.ext E,h.h2.ext E,h.h3.ext E,h.h4.ext E,h.d12,h.d13,h.d14,h.d23,h.d24,h.d34⟩
theorem Own4.mono{v:Value}{o t:LI}(h:Own4 G w v V m p g o t q)(E:Ext W G):Own4 W w v V m p g o t q :=
 ⟨h.h1.mono E,h.h2.mono E,h.h3.mono E,h.h4.mono E,h.d12,h.d13,h.d14,h.d23,h.d24,h.d34⟩
structure Ints4(w:World)(v1 v2 v3 v4:Value)(g o t q:LI):Prop where
 g:c8 w v1 g
 o:c8 w v2 o
 t:c8 w v3 t
 q:c8 w v4 q
theorem Ints4.ext{v:Value}{o t:LI}(h:Ints4 w v V m p g o t q)(E:Ext w e):Ints4 e v V m p g o t q :=
 ⟨h.g.ext E,h.o.ext E,h.t.ext E,h.q.ext E⟩
theorem Own4.ints{v:Value}{o t:LI}(h:Own4 W w v V m p g o t q):Ints4 w v V m p g o t q:=⟨h.h1.ints,h.h2.ints,h.h3.ints,h.h4.ints⟩
theorem Own.kept_low{TI:TypeId}{v:Value}{l:LI}{row:Option Nat}(h:Own TI W w v l)(H:w.grownBy R row)(r:∀k,row=some k->k<W.heap.size):Own TI W R v l :=
 h.kept H (by
  cases q:v.ownBlock with
  |none=>exact Or.inl rfl
  |some k=>exact Or.inr fun e=>by have:=r k e.symm;have:=(h.blk k q).1;omega)
theorem Own4.kept{v:Value}{o t:LI}{row:Option Nat}(h:Own4 W w v V m p g o t q)(H:w.grownBy e row)(r:∀k,row=some k->k<W.heap.size):Own4 W e v V m p g o t q :=
 ⟨h.h1.kept_low H r,h.h2.kept_low H r,h.h3.kept_low H r,h.h4.kept_low H r,h.d12,h.d13,h.d14,h.d23,h.d24,h.d34⟩
def CV(k:Int)(v V:Value)(a b s p:Int)(m q:Value)(n:Int):Value:=.agg #[vi k,v,V,vi a,vi b,vi s,vi p,m,q,vi n]
def scD(l:LI)(a:Int):Int:=if F3 l a then(j7 l a.toNat (V0 l a.toNat):Int)else 0
def scS(l:LI)(a:Int):Int:=if F3 l a then(j7 l a.toNat (j7 l a.toNat (V0 l a.toNat)):Int)else 0
theorem do2{l:LI}{a:Int}(h:F3 l a=false):scD l a=0/\scS l a=0:=by unfold scD scS;rw[h];exact⟨rfl,rfl⟩
theorem d74{l:LI}{n:Nat}(h:F3 l n=true):scD l n=(j7 l n (V0 l n):Int)/\scS l n=(j7 l n (j7 l n (V0 l n)):Int):=by unfold scD scS;rw[h];exact⟨rfl,rfl⟩
theorem ca9{l:LI}{a:Int}(h:F3 l a=true):∃n:Nat,a=n/\n<2^ord l/\n<2^24/\d7 l=true/\j0 l a=true:=by
 unfold F3 at h;have H:=(pO.1 (pO.1 h).1).1;obtain⟨n,rfl,a,b,c⟩:=l7 H;exact⟨n,rfl,a,b,c,H⟩
theorem b81(a:Int)(w:World)(h:c8 w v l){b:Bool}(C:F3 l a=b):Calls Tryz.prog 275 #[.agg #[v],vi a] w (RE w (.bool b)):=by
 subst C;exact bj4 v l a w h
theorem b69(a:Int)(w:World)(h:c8 w v l){b:Bool}(C:F3 l a=b):Calls Tryz.prog 234 #[.agg #[v],vi a] w (RE w (.bool b)):=by
 subst C;exact bj0 v l a w h
theorem bg6(a b:Nat)(w:World)(h:c8 w v l)(A:j0 l a=true)(c:j0 l b=true):Calls Tryz.prog 235 #[.agg #[v],vi a,vi b] w (RE w (vi (j7 l a (V0 l b)))):=by
 obtain⟨B,Z,F,C,H,E,s⟩:=m04 42 h;clear h;obtain⟨t,S,-,G,Y⟩:=l7 A;obtain⟨u,X,-,I,-⟩:=l7 c;obtain rfl:a=t:=om;obtain rfl:b=u:=om;have x:=fun U=>C _ (c9 B U);have y:=C B E;have R:=zh Y;have O:=dc4 Y b;clear Y S X;go_in;go_wp2_with fail;rw[<-Z.o];go_wp2_with(first|(go_at_call 124;(first|(with_reducible refine od (m6 _ _ (a:Int) _ (H _ E) A) ?_)|(with_reducible refine od (m6 _ _ (b:Int) _ (H _ E) c) ?_));rintro e d⟨rfl,V⟩;replace E:=E.trans V;clear V));refine wl E ?_;(repeat(go_big_quiet_step(first|(go_at_call 290;exact oa (ch9 _ _ _ _ (H _ (c9 B _)) (R) (I)))|(go_at_call 145;exact oa (E6 _ _ _ _ _ (H _ (c9 B _)) (R) (G) (O))))));refine zd fun W E=>?_;exact zz41
theorem c26(a:Int)(w:World)(h:c8 w v l):Calls Tryz.prog 193 #[.agg #[v],vi a] w (RE w (.tuple #[vi (scD l a),vi (scS l a),.bool (F3 l a)])):=by
 obtain⟨B,Z,F,C,H,E,s⟩:=m04 42 h;clear h;have b:=C B E;cases S:F3 l a
 . have N:=zh (do2 S);go_in;go_wp2_with fail;rw[<-Z.o];go_wp2_with(first|(go_at_call 275;refine cx (b81 _ _ _ _ (H _ E) (S)) E fun U E=>?_));refine bodyPost_ret (v:=.tuple #[vi 0,vi 0,.bool false]) (by simp[results,Tryz.results193,go_sem]) rfl ⟨by rw[N.o.1,N.o.2],F.trans E⟩
 have N:Hid (∀n:Nat,a=n->scD l a=(j7 l n (V0 l n):Int)/\scS l a=(j7 l n (j7 l n (V0 l n)):Int)):=zh (fun n e=>by subst e;exact d74 S);obtain⟨n,m,V,r,Y,-⟩:=ca9 S;subst m;have R:=zh Y;have hd:=H7 Y n (V0 l n);clear Y;go_in;go_wp2_with fail;rw[<-Z.o];go_wp2_with(first|(go_at_call 275;refine cx (b81 _ _ _ _ (H _ E) (S)) E fun U E=>?_)|(go_at_call 276;refine cx (c32 _ _ _ _ _ (H _ E) (R) (r) (r)) E fun U E=>?_));replace b:=fun u=>C _ (c9 B u);(try refine wl E ?_;(repeat(go_big_quiet_step(first|(go_at_call 75;exact oa (J2 _ _ _ _ _ (H _ (c9 B _)) (R) (r) (hd))))));refine zd fun W E=>?_);go_wp2_with(first|(go_at_call 75;refine cx (J2 _ _ _ _ _ (H _ E) (R) (r) (hd)) E fun U E=>?_));refine bodyPost_ret (v:=.tuple #[vi (j7 l n (V0 l n):Int),vi (j7 l n (j7 l n (V0 l n)):Int),.bool true]) (by simp[results,Tryz.results193,go_sem]) rfl ⟨by rw[(N.o n rfl).1,(N.o n rfl).2],F.trans E⟩
theorem bz5(a:Int)(w:World)(h:c8 w v l):Calls Tryz.prog 140 #[.agg #[v],vi a] w (RE w (.tuple #[vi (scD l a),vi (scS l a),.bool (F3 l a)])):=by
 obtain⟨B,Z,F,C,H,E,z⟩:=m04 42 h;clear h;have b:=C B E;cases S:F3 l a
 . have N:=zh (do2 S);go_in;go_wp2_with fail;rw[<-Z.o];go_wp2_with(first|(go_at_call 234;refine cx (b69 _ _ _ _ (H _ E) (S)) E fun U E=>?_));refine bodyPost_ret (v:=.tuple #[vi 0,vi 0,.bool false]) (by simp[results,Tryz.results140,go_sem]) rfl ⟨by rw[N.o.1,N.o.2],F.trans E⟩
 have N:Hid (∀n:Nat,a=n->scD l a=(j7 l n (V0 l n):Int)/\scS l a=(j7 l n (j7 l n (V0 l n)):Int)):=zh (fun n e=>by subst e;exact d74 S);obtain⟨n,m,V,r,Y,s⟩:=ca9 S;subst m;have R:=zh Y;have hd:=H7 Y n (V0 l n);clear Y;go_in;go_wp2_with fail;rw[<-Z.o];go_wp2_with(first|(go_at_call 234;refine cx (b69 _ _ _ _ (H _ E) (S)) E fun U E=>?_)|(go_at_call 235;refine cx (bg6 _ _ _ _ _ (H _ E) (s) (s)) E fun U E=>?_));replace b:=fun u=>C _ (c9 B u);(try refine wl E ?_;(repeat(go_big_quiet_step(first|(go_at_call 145;exact oa (E6 _ _ _ _ _ (H _ (c9 B _)) (R) (r) (hd))))));refine zd fun W E=>?_);go_wp2_with(first|(go_at_call 145;refine cx (E6 _ _ _ _ _ (H _ E) (R) (r) (hd)) E fun U E=>?_));refine bodyPost_ret (v:=.tuple #[vi (j7 l n (V0 l n):Int),vi (j7 l n (j7 l n (V0 l n)):Int),.bool true]) (by simp[results,Tryz.results140,go_sem]) rfl ⟨by rw[(N.o n rfl).1,(N.o n rfl).2],F.trans E⟩
theorem Z2(w:World)(h:c8 w v l):Calls Tryz.prog 85 #[.agg #[v]] w fun e R=>∃A c,e=.returned (.agg #[.slice A l.length c])/\Own 3 w R (.slice A l.length c) l/\Ext w R:=by
 obtain⟨B,Z,F,C,H,E,s⟩:=m04 42 h;clear h;obtain⟨wc,W⟩:=nq (B.alloc (.cells #[.slice none 0 0] 42));have b:Blk wc B.heap.size 42 #[.slice none 0 0]:=by rw[W];exact oq _ _ _
 have U:Res wc B.heap.size 1:=b.res zm;have m:Ext B wc:=by rw[W];exact E.alloc _
 replace E:=er wc;have S:Hid (B.heap.size+1=wc.heap.size):=zh (by rw[W];simp[go_sem]);have J:=zh W;clear W b;have g:=sh m H;have D:=sh m C;go_in;go_wp2_with fail;rw[<-Z.o,<-J.o];rw[s.o];refine(Calls.sh (E3 _ _ _ (g _ E))).mono ?_;rintro e G⟨A,c,rfl,O,z⟩;have r:=U.ext z;unfold Res at r;have W:B.heap.size<wc.heap.size:=by have:=S.o;omega
 go_wp2_with fail;exact bodyPost_ret (v:=.agg #[.slice A l.length c]) (by simp[results,Tryz.results85,go_sem,r]) rfl ⟨_,_,rfl,(O.setCell_below W _).mono (F.trans m),F.trans (oZ (m.trans z) (oc _) _)⟩
theorem b07(w:World)(h:c8 w v l):Calls Tryz.prog 123 #[.agg #[v]] w fun e R=>∃A c,e=.returned (.agg #[.slice A l.length c])/\Own 3 w R (.slice A l.length c) l/\Ext w R:=by
 obtain⟨B,Z,F,C,H,E,s⟩:=m04 42 h;clear h;obtain⟨wc,W⟩:=nq (B.alloc (.cells #[.slice none 0 0] 42));have b:Blk wc B.heap.size 42 #[.slice none 0 0]:=by rw[W];exact oq _ _ _
 have V:Res wc B.heap.size 1:=b.res zm;have m:Ext B wc:=by rw[W];exact E.alloc _
 replace E:=er wc;have S:Hid (B.heap.size+1=wc.heap.size):=zh (by rw[W];simp[go_sem]);have K:=zh W;clear W b;have g:=sh m H;have M:=sh m C;have O:Own 3 wc (wc.alloc (.cells #[] 3)) (.slice (some (aD wc.heap.size 0)) 0 0) []:=l9 (TI:=3) (n:=0) om (er wc) [] rfl;have L:=(er wc).alloc (.cells #[] 3);have i:=g _ L;have k:=M _ L;have N:l.length<=17592186044416:=by obtain⟨_,_,_,_,D,_⟩:=g _ E;exact D
 have W:B.heap.size<wc.heap.size:=by have:=S.o;omega
 have J:wc.heap.size=w.heap.size+1+1:=by have:=s.o;have:=S.o;omega
 rw[J]at O;have I:wc=(w.alloc (.cells #[v] 42)).alloc (.cells #[.slice none 0 0] 42):=by rw[K.o,Z.o]
 have Y:=zh I;rw[I]at O i L k;clear I J;go_in;go_wp2_with(at_builtin;refine F7 slI rfl _ _ rfl _ _ _ _ _ _ O i L (by simpa using N) rfl rfl ?_;intro j G U z;rw[<-Y.o]at U z;obtain⟨A,c,rfl,-⟩:=U.shape;have r:=V.ext z;unfold Res at r;rw[<-s.o]at r);exact bodyPost_ret (v:=.agg #[.slice A ([]++l).length c]) (by simp[results,Tryz.results123,go_sem,r]) rfl ⟨A,c,zm,(by simpa using(oV U (show w.heap.size+1<wc.heap.size by rw[s.o];exact W) _).mono (F.trans m)),F.trans (oZ (m.trans z) (Nat.le_of_eq s.o.symm) _)⟩
theorem cu3(a:Int)(w:World)(h:c8 w v l):Calls Tryz.prog 70 #[.agg #[v],vi a] w fun e R=>∃V k m p,e=.returned (.tuple #[CV (if F3 l a then 7 else 0) V k (if F3 l a then a else 0) 0 (scS l a) (scD l a) m p 0,.bool (F3 l a)])/\Own4 w R V k m p (if F3 l a then l else []) [] [] []/\Ext w R:=by
 obtain⟨B,Z,F,C,H,E,s⟩:=m04 42 h;clear h;obtain⟨wc,W⟩:=nq (B.alloc (.cells #[vi 0,.slice none 0 0,.slice none 0 0,vi 0,vi 0,vi 0,vi 0,.slice none 0 0,.slice none 0 0,vi 0] 52));have b:Blk wc B.heap.size 52 #[vi 0,.slice none 0 0,.slice none 0 0,vi 0,vi 0,vi 0,vi 0,.slice none 0 0,.slice none 0 0,vi 0]:=by rw[W];exact oq _ _ _
 have U:Res wc B.heap.size 10:=b.res zm;have A:Ext B wc:=by rw[W];exact E.alloc _
 replace E:=er wc;have K:Hid (B.heap.size+1=wc.heap.size):=zh (by rw[W];simp[go_sem]);have J:=zh W;clear W b;have g:=sh A H;have D:=sh A C;have W:B.heap.size<wc.heap.size:=by have:=K.o;omega
 cases S:F3 l a
 . have N:=zh (do2 S);go_in;go_wp2_with fail;rw[<-Z.o,<-J.o];rw[s.o];refine(c26 _ _ _ _ (g _ E)).mono ?_;rw[N.o.1,N.o.2,S];rintro e G⟨rfl,z⟩;have r:=U.ext z;unfold Res at r;go_wp2_with fail;exact bodyPost_ret (v:=.tuple #[CV 0 (.slice none 0 0) (.slice none 0 0) 0 0 0 0 (.slice none 0 0) (.slice none 0 0) 0,.bool false]) (by simp[results,Tryz.results70,go_sem,r,CV]) rfl ⟨_,_,_,_,by simp[N.o.1,N.o.2],⟨oL _ _ _,oL _ _ _,oL _ _ _,oL _ _ _,l5.nil_left _,l5.nil_left _,l5.nil_left _,l5.nil_left _,l5.nil_left _,l5.nil_left _⟩,F.trans (by(repeat(refine oZ ?_ (oc _) _));exact A.trans z)⟩
 go_in;go_wp2_with fail;rw[<-Z.o,<-J.o];rw[s.o];refine(c26 _ _ _ _ (g _ E)).mono ?_;rw[S];rintro e G⟨rfl,z⟩;have X:=D _ z;go_wp2_with fail;refine(Z2 _ _ _ (g _ z)).mono ?_;rintro e n⟨i,c,rfl,O,I⟩;have r:=U.ext (z.trans I);unfold Res at r;have x:B.heap.size<G.heap.size:=nlt W z.size;go_wp2_with fail;exact bodyPost_ret (v:=.tuple #[CV 7 (.slice i l.length c) (.slice none 0 0) a 0 (scS l a) (scD l a) (.slice none 0 0) (.slice none 0 0) 0,.bool true]) (by simp[results,Tryz.results70,go_sem,r,CV]) rfl ⟨_,_,_,_,by simp;rfl,⟨(show Own 3 G _ _ _ by(repeat(refine oV ?_ x _));exact O).mono (F.trans (A.trans z)),oL _ _ _,oL _ _ _,oL _ _ _,l5.nil_right _,l5.nil_right _,l5.nil_right _,l5.nil_left _,l5.nil_left _,l5.nil_left _⟩,F.trans (by(repeat(refine oZ ?_ (oc _) _));exact A.trans (z.trans I))⟩
theorem cq2(a:Int)(w:World)(h:c8 w v l):Calls Tryz.prog 51 #[.agg #[v],vi a] w fun e R=>∃V k m p,e=.returned (.tuple #[CV (if F3 l a then 7 else 0) V k (if F3 l a then a else 0) 0 (scS l a) (scD l a) m p 0,.bool (F3 l a)])/\Own4 w R V k m p (if F3 l a then l else []) [] [] []/\Ext w R:=by
 obtain⟨B,Z,F,C,H,E,s⟩:=m04 42 h;clear h;obtain⟨wc,W⟩:=nq (B.alloc (.cells #[vi 0,.slice none 0 0,.slice none 0 0,vi 0,vi 0,vi 0,vi 0,.slice none 0 0,.slice none 0 0,vi 0] 52));have b:Blk wc B.heap.size 52 #[vi 0,.slice none 0 0,.slice none 0 0,vi 0,vi 0,vi 0,vi 0,.slice none 0 0,.slice none 0 0,vi 0]:=by rw[W];exact oq _ _ _
 have U:Res wc B.heap.size 10:=b.res zm;have A:Ext B wc:=by rw[W];exact E.alloc _
 replace E:=er wc;have K:Hid (B.heap.size+1=wc.heap.size):=zh (by rw[W];simp[go_sem]);have J:=zh W;clear W b;have g:=sh A H;have D:=sh A C;have W:B.heap.size<wc.heap.size:=by have:=K.o;omega
 cases S:F3 l a
 . have N:=zh (do2 S);go_in;go_wp2_with fail;rw[<-Z.o,<-J.o];rw[s.o];refine(bz5 _ _ _ _ (g _ E)).mono ?_;rw[N.o.1,N.o.2,S];rintro e G⟨rfl,z⟩;have r:=U.ext z;unfold Res at r;go_wp2_with fail;exact bodyPost_ret (v:=.tuple #[CV 0 (.slice none 0 0) (.slice none 0 0) 0 0 0 0 (.slice none 0 0) (.slice none 0 0) 0,.bool false]) (by simp[results,Tryz.results51,go_sem,r,CV]) rfl ⟨_,_,_,_,by simp[N.o.1,N.o.2],⟨oL _ _ _,oL _ _ _,oL _ _ _,oL _ _ _,l5.nil_left _,l5.nil_left _,l5.nil_left _,l5.nil_left _,l5.nil_left _,l5.nil_left _⟩,F.trans (by(repeat(refine oZ ?_ (oc _) _));exact A.trans z)⟩
 go_in;go_wp2_with fail;rw[<-Z.o,<-J.o];rw[s.o];refine(bz5 _ _ _ _ (g _ E)).mono ?_;rw[S];rintro e G⟨rfl,z⟩;have X:=D _ z;go_wp2_with fail;refine(b07 _ _ _ (g _ z)).mono ?_;rintro e n⟨i,c,rfl,O,I⟩;have r:=U.ext (z.trans I);unfold Res at r;have x:B.heap.size<G.heap.size:=nlt W z.size;go_wp2_with fail;exact bodyPost_ret (v:=.tuple #[CV 7 (.slice i l.length c) (.slice none 0 0) a 0 (scS l a) (scD l a) (.slice none 0 0) (.slice none 0 0) 0,.bool true]) (by simp[results,Tryz.results51,go_sem,r,CV]) rfl ⟨_,_,_,_,by simp;rfl,⟨(show Own 3 G _ _ _ by(repeat(refine oV ?_ x _));exact O).mono (F.trans (A.trans z)),oL _ _ _,oL _ _ _,oL _ _ _,l5.nil_right _,l5.nil_right _,l5.nil_right _,l5.nil_left _,l5.nil_left _,l5.nil_left _⟩,F.trans (by(repeat(refine oZ ?_ (oc _) _));exact A.trans (z.trans I))⟩
theorem Q6{P:Program}{ops:Array Oper}{o:Oper}{a:Act}{y:Act->World->Prop}{Q:Exit->Act->World->Prop}{D:Prop}{T TI:TypeId}(t:IntSl P T TI)
 (H:o.guard=none) (s x:Operand) (p:o.op=Op.call { callee:=Callee.builtin Builtin.append,args:=#[s,x],argTypes:=#[T,T] })
 (g:Nat) (u:Value) (m:LI) (S:a.eval s=.slice (some (aD g 0)) 0 0) (K:a.eval x=u) (B:Blk w g TI #[]) (I:c8 w u m) (l:World) (Y:l.heap.size<=g) (E:Ext l w)
 (X:∀A c W,Own TI l W (.slice A m.length c) m->(∀k,(Value.slice A m.length c).ownBlock=some k->k=g\/w.heap.size<=k)->Ext w W->y (a.put o.dst (.slice A m.length c)) W) :
 if Region.wanted o (yielded ops a.tmps)=true then Oper.wp P o a w y Q else D:=by
 have L:Region.wanted o (yielded ops a.tmps)=true:=by simp[Region.wanted,H]
 rw[if_pos L];obtain⟨i,J,z,q,b⟩:=t.info;have n:w.ownsRow l.heap.size TI 1 (.slice (some (aD g 0)) 0 0) 0 []:=by
  have d:w.heap[g]?=some (.cells #[] TI (0,0)):=B;exact⟨zm,Or.inr ⟨g,0,#[],rfl,Y,d,oc _,oX _,zm,zm⟩⟩
 obtain⟨A,c,rfl,hf,hl,C⟩:=I;have Z:m=[]->Oper.wp P o a w y Q:=by
  intro M;subst M;have he:(Builtin.append_ #[T,T] o.type #[.slice (some (aD g 0)) 0 0,.slice A 0 c]).run P w=.ok (.slice (some (aD g 0)) 0 0) w:=by
   have r:=run_append_owned_none (P:=P) w l.heap.size T o.type TI i 1 t.und J (.slice (some (aD g 0)) 0 0) 0 [] n;rw[<-r];cases A<;>simp[Builtin.append_,run_underlying t.und,sizeOf,typeInfo,J,Builtin.lenOf,Builtin.firstCells,go_sem]
  unfold Oper.wp;simp[execOp,p,resolve,invoke,builtin,S,K,he,Result.andThen];exact X (some (aD g 0)) 0 _ ⟨by simpa using n,zm⟩ (fun k V=>by simp[Value.ownBlock]at V;exact Or.inl V.symm) (er w)
 by_cases M:m=[];exact Z M;have N:0<m.length:=pW (fun e=>M (oF e));cases A with
 |none=>obtain⟨_,h,_⟩:=C 0 N;cases h
 | some ad =>
  obtain⟨v,W,r,G,R⟩:=run_append_arg_grows (P:=P) (w:=w) T o.type TI i (vi 0) 1 8 t.und J z q b rfl om (aD g 0) 0 0 [] zm zm ad m.length c (m.map (Value.int .i64)) zm (by
   intro j u U;have f:j<m.length:=(by have:=(List.getElem?_eq_some_iff.1 U).1;simpa using this);obtain⟨a',hb,ha⟩:=C j f;cases hb;rw[ha,<-U,bk9 _ _ f];simp[f]) om (by unfold maxLen;omega) om
  unfold Oper.wp;simp[execOp,p,resolve,invoke,builtin,S,K,r,Result.andThen];have O:Own TI w W v m:=⟨by simpa using G,hl⟩;obtain⟨aa,F,rfl,-⟩:=O.shape;exact X aa F W (O.mono E) (fun k V=>Or.inr (O.blk k V).1) ((er w).grown R zm)
theorem dm5(w:World)(a:Addr)(u:Value):w.grownBy (w.setCell a u) (some a.block) :=
 ⟨rfl,rfl,rfl,zm,fun k _ V=>pQ _ _ _ _ (fun e=>V (by rw[e]))⟩
theorem Own.setCell_ne{TI:TypeId}{v:Value}{l:LI}(h:Own TI W w v l){p:Addr}(H:v.ownBlock≠some p.block)(u:Value):Own TI W (w.setCell p u) v l :=
 h.kept (dm5 w p u) (Or.inr H)
theorem Own.ne_of{TI:TypeId}{v:Value}{l:LI}(h:Own TI W w v l)(C:b<W.heap.size\/w.heap.size<=b):v.ownBlock≠some b:=fun e=>by
 have:=h.blk b e;omega
theorem Own.ne_blk{TI T:TypeId}{v:Value}{l:LI}(h:Own TI W w v l){g:Nat}{c:Array Value}(B:Blk w g T c)(t:T≠TI):v.ownBlock≠some g:=fun e=>by
 obtain⟨U,r⟩:=h
 rcases U.2 with⟨rfl,_⟩|⟨G,cap,u,rfl,_,H,_⟩
 . cases e
 . simp[Value.ownBlock]at e
   subst e
   have b:w.heap[G]?=some (.cells c T (0,0)):=B
   rw[b]at H
   simp at H
   exact t H.2
end Go.Zz
