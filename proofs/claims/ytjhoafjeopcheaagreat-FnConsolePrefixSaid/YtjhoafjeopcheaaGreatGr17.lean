/- Maps that images of generators give: l27Extend of the reference. -/
import Derived.Test.YtjhoafjeopcheaaGreatGr16
set_option linter.all false
set_option maxHeartbeats 4000000
set_option maxRecDepth 8000
namespace Go.Zz
open Go.RowKit Go.Proofs
variable(t:TypeId)(W G:World)(v:Value)(l:LI)(u:Value)(c:LI)(w:World)(n:Nat)(s:LI)(r:Nat){I X:LN}{f m k y:Nat}{cs:LI}{x:Int}{P:World}
theorem ja1(vI:Value)(L:LN)(w:World)(h:c8 w v l)(b:c8 w vI (b9 L))(R:Hid (d7 l=true))(hh:L.length=l.length)(ho:∀y∈L,y<ord l):Calls Tryz.prog 281 #[.agg #[v],vI] w fun e T=>∃V,e=.returned V/\Own 3 w T V (b9 (b60 l L))/\Ext w T:=by
 obtain⟨aI,cI,ab,rfl,hc,hC⟩:=b.nats;have hK:=j2 (c:=cI) elI szI hc;clear hc b;obtain⟨B,Z,F,C,H,E,Hz⟩:=m04 42 h;clear h;obtain⟨wc,p⟩:=nq (B.alloc (.cells #[] 3));have O:Own 3 B wc (.slice (some (aD B.heap.size 0)) 0 0) []:=by rw[p];exact l9 om E [] rfl
 replace E:Ext B wc:=by rw[p];exact E.alloc _
 have Hd:Hid (B.heap.size+1=wc.heap.size):=zh (by rw[p];simp[go_sem]);have Hc:=zh p;clear p;have hD:=l8 R.o;have hG:=E5 R.o;have HI:=zh (fun i (J:i<L.length)=>ho _ (m7 J));have HL:=zh hh;have He:=zh (fun y (hy:y<ord l)=>bk3 R.o hy);have Hx:Hid (b60 l L=(List.range (ord l)).map (exV l L)):=zh rfl;clear ho hh;go_in;go_wp2_with fail;rw[<-Z.o,<-Hc.o];rw[Hz.o];try rw[Hd.o]
 go_loopw [5,6] (fun sv X wr=>∃x:Nat,x<=ord l/\X=vi x/\Own 3 B wr sv (b9 ((List.range x).map (exV l L)))/\Ext B wr) (fun _ X _=>ord l-(intOf X).toNat);exact⟨0,om,rfl,O,E⟩
 clear E O;obtain⟨x,K,rfl,O,E⟩:=hrel;have hm:=C _ E;have hl:(b9 ((List.range x).map (exV l L))).length<17592186044416:=by rw[d9,oG,List.length_range];omega
 have g:=fun W (D:Ext B W)=>o4 v l W (H W D) R;by_cases U:x<ord l
 . have hr:(x:Int)<(ord l:Int):=om;have M:=bs6 l x l.length;have Ha:=zh (fun i (J:i<l.length)=>d56 l x J);have n:Hid (exV l L x=lcT l L (plP l x l.length) l.length):=zh rfl;have j:=fun W (D:Ext B W)=>dn4 v l x W (H W D) R U;obtain⟨P,f⟩:=nq (plP l x l.length);rw[<-f]at M n;simp only[<-f]at j Ha;have Hl:=zh M;clear f M;have N:Hid ((List.range (x+1)).map (exV l L)=(List.range x).map (exV l L)++[exV l L x]):=zh (dg7 l L);obtain⟨A,d⟩:=nq ((List.range x).map (exV l L));rw[<-d]at O hl N;clear d;go_wp2_with(first|(go_at_call 103;refine cm (g _ E) fun G z=>?_;have k:=E.trans z;have hn:=C _ k)|(go_at_call 324;refine(j _ k).mono ?_;rintro e m⟨vp,rfl,hp,I⟩;obtain⟨aP,ca,aa,rfl,ha,hv⟩:=hp.ints.nats;have hH:=j2 (c:=ca) elI szI ha;clear ha));have q:=k.trans I;have hq:=O.ext (z.trans I);clear E k O hm hn hp z I;have s:=er m;go_loopw [8,9] (fun sz S wq=>∃i:Nat,i<=l.length/\S=vi i/\sz=vi (lcT l L P i:Nat)/\Ext m wq) (fun _ S _=>P.length-(intOf S).toNat);exact⟨0,om,rfl,rfl,s⟩;case round =>
    clear s;obtain⟨i,J,rfl,rfl,s⟩:=hrel;by_cases he:i<P.length
    . have t:(i:Int)<(P.length:Int):=om;have hit:i<l.length:=(by have:=Hl.o;omega);have hf:i<L.length:=(by have:=HL.o;omega);have kI:=fun u=>hC i _ hf (F.trans (q.trans (s.trans (c9 wr u))));have kP:=fun u=>hv i _ he (s.trans (c9 wr u));have kb:=fun u=>C _ (q.trans (s.trans (c9 wr u)));have hw:=HI.o i hf;have hJ:=Ha.o i hit;have hT:=d45 R.o L P i;have hM:=c45 R.o (d5 L i) (d5 P i);have m1:=fun u=>c56 v l (d5 L i) (d5 P i) _ (H _ (q.trans (s.trans (c9 wr u)))) R (He.o _ hw) om om;have a1:=fun u=>G8 v l (lcT l L P i) (U1 l (d5 L i) (d5 P i)) _ (H _ (q.trans (s.trans (c9 wr u)))) R om om;have Hn:Hid (lcT l L P (i+1)=j9 l (lcT l L P i) (U1 l (d5 L i) (d5 P i))):=zh rfl;have hs:=s;clear s;have E:=er wr;go_wp2_with fail;refine wl E ?_;(repeat(go_big_quiet_step(first|(go_at_call 280;with_reducible exact oa (m1 _))|(go_at_call 220;with_reducible exact oa (a1 _)))));refine zd fun W E=>?_;go_wp2_with fail;go_roundw;exact⟨i+1,om,zg,by rw[Hn.o],hs.trans E⟩;exact zm1
    . have r:i=l.length:=(by have:=Hl.o;omega);have t:¬(i:Int)<(P.length:Int):=om;have ht:=hq.ext s;have hj:=q.trans s;have Hb:=zh t;clear t he;rw[r,<-n.o];rw[r]at Hb;have t:=Hb.o;clear r J;obtain⟨zz,Y⟩:=nq (exV l L x);rw[<-Y]at N|-;clear Y;go_wp2_with(at_builtin;refine p6 slI rfl _ _ rfl B _ _ _ _ ht hj hl rfl rfl ?_;intro v1 G hk z);go_roundw;exact⟨x+1,om,zg,by rw[N.o,G6];exact hk,z⟩;exact zm1
 have hr:¬(x:Int)<(ord l:Int):=om;have hu:x=ord l:=om;rw[hu,<-Hx.o]at O;go_wp2_with(go_at_call 103;refine cm (g _ E) fun G z=>?_);go_ret;exact⟨_,rfl,(O.ext z).mono F,F.trans (E.trans z)⟩
theorem jl7:(Tryz.prog.info? 40).map (fun i=>(i.zero,i.size,i.bytes))=some (some (.slice none 0 0),1,24):=by kernel_rfl
theorem j71:Tryz.prog.underlying 92=some (.slice 40):=by kernel_rfl
theorem elV:Tryz.prog.underlying 92=some (.slice (Tryz.prog.elem 92)):=by kernel_rfl
theorem szV:∀w,(Go.sizeOf (Tryz.prog.elem 92)).run Tryz.prog w=.ok 1 w:=fun w=>by kernel_rfl
def I2(P w:World)(v:Value)(n:Nat):Prop :=
 ∃L:List Value,L.length=n/\(∀u∈L,u.oneCell'=true)/\w.ownsRow P.heap.size 40 1 v n L/\n<=1000000
theorem I2.blk{w:World}{v:Value}{n:Nat}(h:I2 P w v n):∀k,v.ownBlock=some k->P.heap.size<=k/\k<w.heap.size:=by
 obtain⟨L,-,-,h,-⟩:=h;exact h.lt
theorem I2.ext{w e:World}{v:Value}{n:Nat}(h:I2 P w v n)(E:Ext w e):I2 P e v n:=by
 obtain⟨L,H,r,T,b⟩:=h;refine⟨L,H,r,T.kept (row:=none) ⟨E.os,E.tape,E.output,E.size,fun k V _=>E.block k V⟩ ?_,b⟩;cases C:v.ownBlock<;>simp
theorem I2.mono{G w:World}{v:Value}{n:Nat}(h:I2 G w v n)(E:Ext P G):I2 P w v n:=by
 obtain⟨L,H,r,T,b⟩:=h;exact⟨L,H,r,X7 T E.size,b⟩
theorem I2.le{w:World}{v:Value}{n:Nat}(h:I2 P w v n):n<=1000000:=by obtain⟨_,_,_,_,h⟩:=h;exact h
theorem bn8{w:World}(E:Ext P w):I2 P (w.alloc (.cells #[] 40)) (.slice (some (aD w.heap.size 0)) 0 0) 0:=by
 have:=qk (base:=P.heap.size) (e:=40) (size:=1) w #[] 0 E.size (by unfold maxLen;omega) zm;exact⟨[],rfl,zm,by simpa using this,om⟩
theorem la2{w:World}(E:Ext P w)(A:Option Addr)(n c:Nat):I2 P (w.alloc (.cells #[.slice A n c] 40)) (.slice (some (aD w.heap.size 0)) 1 1) 1:=by
 have:=qk (base:=P.heap.size) (e:=40) (size:=1) w #[.slice A n c] 1 E.size (by unfold maxLen;omega) zm;exact⟨[.slice A n c],rfl,by simp[Value.oneCell'],by simpa using this,om⟩
theorem I2.shape{w:World}{v:Value}{n:Nat}(h:I2 P w v n):∃(A:Option Addr) (c:Nat),v=.slice A n c/\n<=c/\(∀i,i<n->∃g u,A=some (aD g 0)/\w.cell? (aD g i)=some u):=by
 obtain⟨L,W,-,U,-⟩:=h;have r:=U.2;rcases r with⟨rfl,l⟩|⟨g,cap,Z,rfl,H,b,C,R⟩;exact⟨none,0,by rw[l],om,om⟩;refine⟨some (aD g 0),cap,rfl,C,fun i J=>⟨g,L[i]'om,rfl,?_⟩⟩;rw[World.ownsRow.cellAt U i om];simp[show i<L.length by omega]
theorem c17(v:Value)(n m c:Nat)(d:Addr)(M:List Value)(O:I2 W w v n)(F:M.length=m)(T:∀u∈M,u.oneCell'=true)(N:∀j x,M[j]?=some x->w.cell? (d.add j)=some x)(E:Ext W w)(B:n+m<=1000000):∃S e,(Builtin.append_ #[92,92] t #[v,.slice (some d) m c]).run Tryz.prog w=.ok S e/\I2 W e S (n+m)/\w.grownBy e v.ownBlock/\Nw v.ownBlock w S.ownBlock/\Ext W e:=by
 obtain⟨i,J,z,s,b⟩:=info_parts jl7;obtain⟨L,X,Y,l,-⟩:=O;have hb:=l.lt;have A:∀u∈L++M,u.oneCell'=true:=fun u h=>by
  rw[oP]at h
  rcases h with h|h
  exact Y u h
  exact T u h
 have r:=l.2;rcases r with⟨rfl,p⟩|⟨g,cap,G,rfl,H,D,hc,K,I,ha⟩
 subst p;have q:L=[]:=oF X;subst q;obtain⟨S,e,U,f,R,-⟩:=run_append_own (P:=Tryz.prog) w w.heap.size 92 t 40 i (.slice none 0 0) 1 24 j71 J z s b rfl om (.slice none 0 0) 0 [] (World.ownsRow_nil _ _ _ _) d m c M om N T (by unfold maxLen;omega) om (oc _);have y:=f.lt;exact⟨S,e,U,⟨M,om,T,X7 (by simpa using f) E.size,om⟩,R,Or.inr fun k V=>(y k V).1,E.grown R fun k V=>by simp[Value.ownBlock]at V⟩;by_cases Z:n+m<=cap;obtain⟨e,U,f,R⟩:=run_append_fits (P:=Tryz.prog) w W.heap.size 92 t 40 i 1 j71 J s g n cap _ l d m c M om N T Z;exact⟨_,e,U,⟨L++M,by rw[oh];omega,A,f,om⟩,R,Or.inl rfl,E.grown R fun k V=>by cases V;exact H⟩
 obtain⟨S,e,U,f,R⟩:=run_append_arg_grows (P:=Tryz.prog) (w:=w) 92 t 40 i (.slice none 0 0) 1 24 j71 J z s b rfl om (aD g 0) n cap L om (by
  intro j u h;have C:j<L.length:=(List.getElem?_eq_some_iff.1 h).1;rw[pe,oM,World.ownsRow.cellAt l j om];exact h) d m c M om N om (by unfold maxLen;omega) om
 have y:=f.lt;exact⟨S,e,U,⟨L++M,by rw[oh];omega,A,X7 f E.size,om⟩,⟨R.os,R.tape,R.output,R.size,fun k V _=>R.block k V zm⟩,Or.inr fun k V=>(y k V).1,E.grown R zm⟩
theorem j27(v u:Value)(n m:Nat)(O:I2 W w v n)(I:I2 G w u m)(E:Ext W w)(N:n+m<=1000000):∃V e,(Builtin.append_ #[92,92] t #[v,u]).run Tryz.prog w=.ok V e/\I2 W e V (n+m)/\w.grownBy e v.ownBlock/\Nw v.ownBlock w V.ownBlock/\Ext W e:=by
 have h:=O;obtain⟨i,J,z,s,y⟩:=info_parts jl7;obtain⟨L,Z,-,R,-⟩:=O;obtain⟨M,Y,T,S,-⟩:=I;have X:=S.2;rcases X with⟨rfl,l⟩|⟨g,cap,C,rfl,H,b,c,k⟩
 subst l;have r:=run_append_owned_none (P:=Tryz.prog) w W.heap.size 92 t 40 i 1 j71 J v n L R;exact⟨v,w,r,h,⟨rfl,rfl,rfl,oc _,fun _ _ _=>rfl⟩,Or.inl rfl,E⟩;exact c17 t W w v n m cap (aD g 0) M h Y T (fun j x K=>by
  have f:j<M.length:=(List.getElem?_eq_some_iff.1 K).1
  rw[pe,oM,World.ownsRow.cellAt S j om];exact K) E N
section
variable {ops:Array Oper} {rest:List Oper} {o:Oper} {a:Act} {Q:Exit->Act->World->Prop}
theorem c21(H:o.guard=none)(s x:Operand)(p:o.op=Op.call { callee:=Callee.builtin Builtin.append,args:=#[s,x],argTypes:=#[92,92] })
 (P G w:World) (v u:Value) (n m:Nat) (O:I2 P w v n) (I:I2 G w u m) (E:Ext P w) (N:n+m<=1000000) (S:a.eval s=v) (K:a.eval x=u)
 (k:∀V e,I2 P e V (n+m)->Ext P e->wpList Tryz.prog ops Q rest (a.put o.dst V) e) :
 wpList Tryz.prog ops Q (o :: rest) a w:=by
 obtain⟨V,e,R,h,-,-,r⟩:=j27 o.type P G w v u n m O I E N;refine wpList_plain H fun y i=>?_;unfold Oper.wp;simp[execOp,p,resolve,invoke,builtin,S,K,R,Result.andThen];exact i _ _ (k V e h r)
theorem cu1(H:o.guard=none)(s x:Operand)(p:o.op=Op.call { callee:=Callee.builtin Builtin.append,args:=#[s,x],argTypes:=#[92,92] })
 (P W:World) (v:Value) (n:Nat) (A:Option Addr) (k c:Nat) (O:I2 P W v n) (E:Ext P W) (m:n<1000000) (S:a.eval s=v) (K:a.eval x=.slice (some (aD W.heap.size 0)) 1 1)
 (U:∀R w,I2 P w R (n+1)->W.grownBy w v.ownBlock->Nw v.ownBlock W R.ownBlock->wpList Tryz.prog ops Q rest (a.put o.dst R) w) :
 wpList Tryz.prog ops Q (o :: rest) a (W.alloc (.cells #[.slice A k c] 40)):=by
 have e:Ext W (W.alloc (.cells #[.slice A k c] 40)):=(er W).alloc _;obtain⟨R,w,u,h,r,T,-⟩:=c17 o.type P (W.alloc (.cells #[.slice A k c] 40)) v n 1 1 (aD W.heap.size 0) [.slice A k c] (O.ext e) rfl (by simp[Value.oneCell']) (cell_one_new _ _ _) (E.alloc _) om;refine wpList_plain H fun y i=>?_;unfold Oper.wp;simp[execOp,p,resolve,invoke,builtin,S,K,u,Result.andThen];refine i _ _ (U R w h ⟨r.os.trans e.os,r.tape.trans e.tape,r.output.trans e.output,nle e.size r.size,fun k V N=>?_⟩ ?_);rw[r.block k (nlt V e.size) N];exact e.block k V;rcases T with T|T;exact Or.inl T;exact Or.inr fun k V=>nle e.size (T k V)
theorem dn6{y:Act->World->Prop}{t:Prop}{w:World}(H:o.guard=none)(s x:Operand)(p:o.op=Op.call { callee:=Callee.builtin Builtin.append,args:=#[s,x],argTypes:=#[92,92] })
 (P:World) (v:Value) (n g:Nat) (A:Option Addr) (k c:Nat) (S:a.eval s=v) (K:a.eval x=.slice (some (aD g 0)) 1 1) (B:Blk w g 40 #[.slice A k c]) (O:I2 P w v n) (E:Ext P w) (N:n<1000000)
 (W:∀V e,I2 P e V (n+1)->w.grownBy e v.ownBlock->Nw v.ownBlock w V.ownBlock->y (a.put o.dst V) e) :
 if Region.wanted o (yielded ops a.tmps)=true then Oper.wp Tryz.prog o a w y Q else t:=by
 have F:Region.wanted o (yielded ops a.tmps)=true:=by simp[Region.wanted,H]
 rw[if_pos F];obtain⟨V,e,R,U,r,T,-⟩:=c17 o.type P w v n 1 1 (aD g 0) [.slice A k c] O rfl (by simp[Value.oneCell']) (fun j u h=>by
  have J:j<1:=by have:=(List.getElem?_eq_some_iff.1 h).1;simpa using this
  have X:j=0:=om
  subst X
  rw[pe,oM]
  exact B.cell (i:=0) (by simpa using h)) E om
 unfold Oper.wp;simp[execOp,p,resolve,invoke,builtin,S,K,R,Result.andThen];exact W V e U r T
end
def auB(l:LI):Bool:=d7 l&&decide (ord l<=9)
theorem cy7{n:Nat}(h:n<=9)(V:k<=3):n^k<=729 :=
 nle (Nat.pow_le_pow_left h k) (ot (n:=9) om V)
theorem jp7(K:Nat):bb6 l (K+1)=bb6 l K+b89 l (Z4 (ord l) K l.length):=rfl
theorem jp6{l:LI}(h:b37 l I l.length=false):b89 l I=0:=by unfold b89;rw[h];rfl
theorem jj7{l:LI}(h:b28 l (b60 l I)=false):b89 l I=0:=by unfold b89;rw[h];simp
theorem jj8{l:LI}(h:b37 l I l.length=true)(r:b28 l (b60 l I)=true):b89 l I=1:=by unfold b89;rw[h,r];rfl
theorem zz46{P:Prop}(h:P:=by have O:=fun W (D:Ext B W)=>o4 v l W (H W D) R;clear Y n;go_in;go_wp2_with fail;rw[<-Z.o];rw[s.o];go_wp2_with(first|(go_at_call 52;refine cm (c _ z) fun G I=>?_;have r:=z.trans I;have b:=C _ r)|(go_at_call 103;refine cm (O _ r) fun w3 J=>?_));exact br (.tuple #[.slice (some (aD B.heap.size 0)) 0 0,.bool false]) ⟨_,rfl,F.trans (r.trans J)⟩):P:=h
theorem zz64{P:Prop}(h:P:=by exact br (.tuple #[.slice (some (aD B.heap.size 0)) 0 0,.bool false]) ⟨_,rfl,F.trans (z.trans I)⟩):P:=h
theorem cc9(h:c8 w v l)(n:auB l=false):Calls Tryz.prog 214 #[.agg #[v]] w fun e P=>∃V,e=.returned (.tuple #[V,.bool false])/\Ext w P:=by
 obtain⟨B,Z,F,C,H,E,s⟩:=m04 42 h;clear h;have c:=fun W (D:Ext B W)=>C4 v l W (H W D);have z:=E.alloc (.cells #[] 40);have K:=C _ z;cases Y:d7 l
 . rw[Y]at c;go_in;go_wp2_with fail;rw[<-Z.o];rw[s.o];go_wp2_with(go_at_call 52;refine cm (c _ z) fun G I=>?_;have b:=C _ (z.trans I));exact zz64
 rw[Y]at c;have R:=zh Y;have k:¬(ord l<=9):=by
  intro k;unfold auB at n;rw[Y,decide_eq_true k]at n;cases n
 have i:(9:Int)<(ord l:Int):=om;exact zz46
theorem zz76{P:Prop}(h:P:=by clear f b;go_wp2_with fail;refine wl E ?_;(repeat(go_big_quiet_step(first|(go_at_call 280;with_reducible exact oa (m1 _)))));refine zd fun W E=>?_;go_wp2_with fail;go_roundw;exact⟨i+1,om,zg,by rw[Hd.o],hK.trans E⟩;exact zm1):P:=h
theorem ca1(h:c8 w v l)(hn:auB l=true):Calls Tryz.prog 214 #[.agg #[v]] w fun e w'=>∃v',e=.returned (.tuple #[v',.bool true])/\I2 w w' v' (bb6 l (ord l^l.length))/\Ext w w':=by
 have ag:=h.op;obtain⟨B,Z,F,C,H,E,Hz⟩:=m04 42 h;clear h;obtain⟨ao,c,aC,rfl,aB,hJ,hY⟩:=ag;have aA:=j2 (c:=c) elI szI hJ;clear hJ;obtain⟨Y,h9⟩:d7 l=true/\ord l<=9:=by unfold auB at hn;simpa using hn
 have R:=zh Y;have cG:=fun W (D:Ext B W)=>C4 _ l W (H W D);rw[Y]at cG;clear Y hn;have cO:=fun W (D:Ext B W)=>o4 _ l W (H W D) R;have aK:=E5 R.o;have aE:=l8 R.o;have aG:¬(9:Int)<(ord l:Int):=om;have z:=E.alloc (.cells #[] 40);have hw:I2 B (B.alloc (.cells #[] 40)) (.slice (some (aD B.heap.size 0)) 0 0) 0:=bn8 E;obtain⟨wc,hu⟩:=nq (B.alloc (.cells #[] 40));rw[<-hu]at z hw;have ab:=C _ z;have Hj:=zh hu;clear hu;go_in;go_wp2_with fail;rw[<-Z.o];rw[Hz.o];rw[<-Hj.o];go_wp2_with(first|(go_at_call 52;refine cm (cG _ z) fun G I=>?_;have g:=z.trans I;have ad:=C _ g)|(go_at_call 103;refine cm (cO _ g) fun w3 P=>?_;replace g:=g.trans P;replace I:=I.trans P;have hN:=C _ g));have O:=hw.ext I;clear hw I z ab ad E P;have E:=g;clear g;try clear hN
 go_loopw [6,7] (fun sc S wr=>∃k:Nat,k<=l.length/\S=vi k/\sc=vi (ord l^k:Nat)/\I2 B wr (.slice (some (aD B.heap.size 0)) 0 0) 0/\Ext B wr) (fun _ S _=>l.length-(intOf S).toNat);exact⟨0,om,rfl,rfl,O,E⟩
 clear E O;obtain⟨k,V,rfl,rfl,O,E⟩:=hrel;have aa:=C _ E;by_cases U:k<l.length
 . have ae:(k:Int)<(l.length:Int):=om;have hp:=cy7 h9 (show k<=3 by omega);have ap:=cy7 h9 (show k+1<=3 by omega);have N:Hid (((ord l^(k+1):Nat):Int)=((ord l^k:Nat):Int)*(ord l:Int)):=zh (by rw[pU,oO]);have hm:0<=((ord l^k:Nat):Int)*(ord l:Int)/\((ord l^k:Nat):Int)*(ord l:Int)<=729:=by
    rw[<-N.o];omega
   clear ap;obtain⟨M,hM⟩:∃M:Nat,M=ord l^k:=⟨_,rfl⟩;rw[<-hM]at hp N hm|-;clear hM;go_wp2_with fail;go_roundw;exact⟨k+1,om,zg,by rw[N.o],O,E⟩;exact zm1
 have ae:¬(k:Int)<(l.length:Int):=om;have ht:k=l.length:=om;have hC:=cy7 h9 (show k<=3 by omega);have HC:Hid (ord l^l.length=ord l^k):=zh (by rw[ht]);obtain⟨CC,hS⟩:=nq (ord l^k);rw[<-hS]at HC hC|-;have HL:=zh ht;clear hS ht;go_wp2_with fail;go_loopw [4,8] (fun sv sc wr=>∃q:Nat,q<=CC/\sc=vi q/\I2 B wr sv (bb6 l q)/\Ext B wr) (fun _ sc _=>CC-(intOf sc).toNat);exact⟨0,om,rfl,O,E⟩;case round =>
  clear E O aa;obtain⟨q,hq,rfl,O,E⟩:=hrel;have ak:=d99 l q;have Ha:=zh (jp7 l q);obtain⟨A,hA⟩:=nq (bb6 l q);rw[<-hA]at O ak Ha;by_cases aM:q<CC
  . have au:(q:Int)<(CC:Int):=om;clear hA;obtain⟨wd,hs⟩:=nq (wr.alloc (.cells #[] 3));have hO:Own 3 wr wd (.slice (some (aD wr.heap.size 0)) 0 0) []:=(by rw[hs];exact l9 om (er wr) [] rfl);have hH:Ext wr wd:=(by rw[hs];exact(er wr).alloc _);have Hp:=zh hs;clear hs;have ay:=O.ext hH;go_wp2_with fail;rw[<-Hp.o];go_loopw [9,10,11] (fun sm sx S wq=>∃i:Nat,i<=l.length/\S=vi i/\sx=vi (bu4 (ord l) q i:Nat)/\Own 3 wr wq sm (b9 (Z4 (ord l) q i))/\Ext wr wq) (fun _ _ S _=>l.length-(intOf S).toNat);exact⟨0,om,rfl,rfl,hO,hH⟩;case round =>
     clear hH hO ay;obtain⟨i,J,rfl,rfl,m,hc⟩:=hrel;have av:=C _ (E.trans hc);have hX:=li9 (ord l) q i;have Hc:Hid (Z4 (ord l) q (i+1)=(bu4 (ord l) q i%ord l) :: Z4 (ord l) q i):=zh rfl;have He:Hid (bu4 (ord l) q (i+1)=bu4 (ord l) q i/ord l):=zh rfl;have hl:=cw0 (ord l) q i;by_cases hit:i<l.length
     . have hr:(i:Int)<(l.length:Int):=om;have ax:(b9 (Z4 (ord l) q i)).length<=3:=(by rw[d9];omega);obtain⟨T,hU⟩:=nq (Z4 (ord l) q i);obtain⟨x,K⟩:=nq (bu4 (ord l) q i);rw[<-hU]at m Hc ax;rw[<-K]at hX Hc He|-;clear hU K hl;have aI:(((ord l:Nat):Int) == 0)=false:=zso;have DD:Hid (((x/ord l:Nat):Int)=(x:Int)/((ord l:Nat):Int)):=zh (qa x (ord l));have Mo:Hid (((x%ord l:Nat):Int)=(x:Int)%((ord l:Nat):Int)):=zh (pn x (ord l));have m1:x%ord l<16777216:=(by have:=Nat.mod_le x (ord l);omega);have m2:x/ord l<16777216:=(by have:=po x (ord l);omega);have aJ:(0:Int)<=(x:Int)%((ord l:Nat):Int)/\(x:Int)%((ord l:Nat):Int)<16777216:=(by rw[<-Mo.o];exact⟨pK _,Int.ofNat_lt.2 m1⟩);have aL:(0:Int)<=(x:Int)/((ord l:Nat):Int)/\(x:Int)/((ord l:Nat):Int)<16777216:=(by rw[<-DD.o];exact⟨pK _,Int.ofNat_lt.2 m2⟩);clear m1 m2;rename World=>wm;have az:=hc.alloc (.cells #[vi ((x:Int)%((ord l:Nat):Int))] 3);have hZ:Own 3 wr (wm.alloc (.cells #[vi ((x:Int)%((ord l:Nat):Int))] 3)) (.slice (some (aD wm.heap.size 0)) 1 1) [(x:Int)%((ord l:Nat):Int)]:=l9 om hc _ rfl;have an:=(m.ext ((er wm).alloc (.cells #[vi ((x:Int)%((ord l:Nat):Int))] 3))).ints;go_wp2_with(at_builtin;refine F7 slI rfl _ _ rfl wr _ _ _ _ _ hZ an az zso rfl rfl ?_;intro v1 w2 ac I);go_roundw;exact⟨i+1,om,zg,by rw[He.o,DD.o],by rw[Hc.o];show Own _ _ _ _ (((x%ord l:Nat):Int) :: b9 T);rw[Mo.o];exact ac,I⟩;exact zm1
     . have hr:¬(i:Int)<(l.length:Int):=om;have p:i=l.length:=om;rw[p]at m hl;have Ho:=zh (da6 (n:=ord l) om q l.length);clear Hc He hX p J hit;obtain⟨L,hI⟩:=nq (Z4 (ord l) q l.length);rw[<-hI]at m hl Ho Ha;have Hl:=zh hl;clear hI hl;have Hg:=zh (du6 l L);have Hh:=zh (je8 R.o L);have Hm:=zh (fun h=>jp6 (l:=l) (I:=L) h);have Hk:=zh (fun h=>jj7 (l:=l) (I:=L) h);have Hy:=zh (fun h r=>jj8 (l:=l) (I:=L) h r);rename World=>wm;obtain⟨aO,cI,aP,rfl,hP,ar⟩:=m.ints.nats;have aQ:=j2 (c:=cI) elI szI hP;have Hi:=zh (fun j (hj:j<L.length)=>Ho.o _ (m7 hj));clear hP Ho;have s:=er wm;have I:=E.trans hc;have hT:=O.ext hc;clear O E hc;go_wp2_with fail;clear hr;go_loopw [12,13] (fun sf S wq=>∃i:Nat,i<=l.length/\S=vi i/\sf=.bool (b37 l L i)/\Ext wm wq) (fun _ S _=>l.length-(intOf S).toNat);exact⟨0,om,rfl,rfl,s⟩;case round =>
        clear s av;obtain⟨i,J,rfl,rfl,s⟩:=hrel;have b:Hid (b37 l L (i+1)=(b37 l L i&&decide (U1 l (d5 L i) (nth l i).toNat=0))):=zh rfl;by_cases hit:i<L.length
        . have hr:(i:Int)<(L.length:Int):=om;have p:i<l.length:=(by have:=Hl.o;omega);have aw:=G4 R.o p;obtain⟨o,ho⟩:∃o:Nat,nth l i=(o:Int):=⟨(nth l i).toNat,om⟩;rw[ho,oY]at b;rw[ho]at aw;have kI:=fun T=>ar i _ hit (s.trans (c9 wr T));have kb:=fun T=>C _ (I.trans (s.trans (c9 wr T)));have kG:=fun T=>hY i _ p (F.trans (I.trans (s.trans (c9 wr T))));simp only[ho]at kG;have aq:=Hi.o i hit;have hM:=c45 R.o (d5 L i) o;have m1:=fun T=>c56 _ l (d5 L i) o _ (H _ (I.trans (s.trans (c9 wr T)))) R (bk3 R.o aq) om om;have hQ:(((U1 l (d5 L i) o:Nat):Int) == 0)=decide (U1 l (d5 L i) o=0):=by
           rw[oA,beq_iff_eq,decide_eq_true_iff];omega
          obtain⟨M,hD⟩:=nq (U1 l (d5 L i) o);rw[<-hD]at b hM hQ;simp only[<-hD]at m1;clear hD ho;obtain⟨d,hd⟩:=nq (decide (M=0));rw[<-hd]at b hQ;clear hd;have hK:=s;clear s;have E:=er wr;cases f:b37 l L i
          . have Hd:Hid (b37 l L (i+1)=false):=zh (by rw[b.o,f];rfl);exact zz76
          . have Hd:Hid (b37 l L (i+1)=d):=zh (by rw[b.o,f];rfl);exact zz76
        . have hr:¬(i:Int)<(L.length:Int):=om;have p:i=l.length:=(by have:=Hl.o;omega);have P:=I.trans s;have hz:=hT.ext s;have am:=m.ints.ext s;have hN:=C _ P;clear b I hT m J hit;cases f:b37 l L i
          . have Hb:Hid (bb6 l (q+1)=A):=zh (by rw[Ha.o,Hm.o (by rw[<-p];exact f)];omega);clear p f;go_wp2_with fail;go_roundw;exact⟨q+1,om,zg,by rw[Hb.o];exact hz,P⟩;exact zm1
          . have Hf:Hid (b37 l L l.length=true):=zh (by rw[<-p];exact f);have cX:=ja1 _ l _ L wr (H _ P) am R Hl.o (fun y hy=>by obtain⟨j,hj,rfl⟩:=px hy;have:=Hi.o j hj;simpa[d5,List.getD,hj]using this);obtain⟨FF,hF⟩:=nq (b60 l L);rw[<-hF]at cX Hg Hh;have HF:=zh hF;clear p hF;have cA:=fun W vf (D:Ext wr W) (f:c8 W vf (b9 FF))=>ca3 _ l vf FF W (H _ (P.trans D)) f R Hg.o Hh.o;cases ha:b28 l FF
            . have Hb:Hid (bb6 l (q+1)=A):=zh (by rw[Ha.o,Hk.o (by rw[<-HF.o];exact ha)];omega);rw[ha]at cA;clear ha f;go_wp2_with(first|(go_at_call 281;refine cX.mono ?_;rintro e w4⟨vf,rfl,hh,X⟩;have aj:=C _ (P.trans X);have hG:=hh.ints)|(go_at_call 282;refine cm (cA _ _ X hG) fun w5 he=>?_));go_roundw;exact⟨q+1,om,zg,by rw[Hb.o];exact hz.ext (X.trans he),P.trans (X.trans he)⟩;exact zm1
            . have Hb:Hid (bb6 l (q+1)=A+1):=zh (by rw[Ha.o,Hy.o Hf.o (by rw[<-HF.o];exact ha)]);rw[ha]at cA;clear ha f;go_wp2_with(first|(go_at_call 281;refine cX.mono ?_;rintro e w4⟨vf,rfl,hh,X⟩;have aj:=C _ (P.trans X);have hG:=hh.ints;obtain⟨aH,cF,rfl,-⟩:=hh.shape)|(go_at_call 282;refine cm (cA _ _ X hG) fun w5 he=>?_;have hL:=hz.ext (X.trans he);have hR:=P.trans (X.trans he))|(at_builtin;refine cu1 rfl _ _ rfl B _ _ A _ _ _ hL hR om rfl rfl ?_;intro v6 w6 ah al aN;have af:=hR.grown al (fun k V=>(hL.blk k V).1)));go_roundw;exact⟨q+1,om,zg,by rw[Hb.o];exact ah,af⟩;exact zm1
  . have au:¬(q:Int)<(CC:Int):=om;have hV:q=CC:=om;rw[hV]at hA;have HA:=zh hA;clear hA hV;have aF:=C _ E;obtain⟨ai,c2,rfl,-⟩:=O.shape;go_wp2_with fail;exact br (.tuple #[.slice ai A c2,.bool true]) ⟨_,rfl,by rw[HC.o,<-HA.o];exact O.mono F,F.trans E⟩
theorem bw4(h:c8 w v l):Calls Tryz.prog 106 #[.agg #[v]] w (RE w (vi (if auB l then(bb6 l (ord l^l.length):Int)else -1))):=by
 obtain⟨B,Z,F,C,H,E,s⟩:=m04 42 h;clear h;have x:=C _ E;cases n:auB l
 . have c:=cc9 v l B (H _ E) n;clear n;go_in;go_wp2_with fail;rw[<-Z.o];go_wp2_with(go_at_call 214;refine c.mono ?_;rintro e w3⟨V,rfl,G⟩);go_ret;exact⟨rfl,F.trans G⟩
 have c:=ca1 v l B (H _ E) n;have L:Hid (bb6 l (ord l^l.length)<=729):=zh (by
  have b:d7 l=true/\ord l<=9:=(by unfold auB at n;simpa using n);exact nle (d99 l _) (cy7 b.2 (E5 b.1)))
 clear n;obtain⟨A,D⟩:=nq (bb6 l (ord l^l.length));rw[<-D]at c|-;clear D;go_in;go_wp2_with fail;rw[<-Z.o];go_wp2_with(go_at_call 214;refine c.mono ?_;rintro e w3⟨V,rfl,O,G⟩;obtain⟨f,c3,rfl,-⟩:=O.shape);go_ret;exact⟨rfl,F.trans G⟩
def bh5(x:Int):Bool:=inB x (-9) 9&&decide (x≠0)
def eqB(c:LI):Bool:=c.all bh5&&inB c.length 2 4
theorem cn0{c:LI}(V:k<c.length)(h:bh5 (nth c k)=false):eqB c=false:=by
 unfold eqB;rw[Bool.and_eq_false_iff];refine Or.inl (pg _ ▸ fun e=>?_);rw[oC]at e;rw[e _ (b78 V)]at h;cases h
theorem je7{c:LI}(h:∀j,j<c.length->bh5 (nth c j)=true):eqB c=inB c.length 2 4:=by
 unfold eqB;have:c.all bh5=true:=by
  rw[oC];intro x K;obtain⟨k,V,rfl⟩:=bg1 K;exact h k V
 rw[this];rfl
theorem U4{c:LI}(h:eqB c=true):2<=c.length/\c.length<=4/\∀j,j<c.length -> -9<=nth c j/\nth c j<=9/\nth c j≠0:=by
 unfold eqB at h;rw[ow,V2]at h;refine⟨om,om,fun j H=>?_⟩;have:=oC.1 h.1 _ (b78 H);unfold bh5 at this;rw[ow,V2,decide_eq_true_iff]at this;exact⟨this.1.1,this.1.2,this.2⟩
theorem c31{c:LI}(h:eqB c=true)(j:Nat) : -9<=nth c j/\nth c j<=9:=by
 by_cases H:j<c.length;have:=(U4 h).2.2 j H;omega;have:nth c j=0:=(by simp[nth,List.getD,List.getElem?_eq_none (Nat.le_of_not_lt H)]);omega
def P9(l:LI):Int:=l.foldl (fun s x=>s+x) 0
theorem dk7(x:Int):P9 (l++[x])=P9 l+x:=by unfold P9;rw[oH];rfl
theorem dk8(k:Nat)(V:k<l.length):P9 (l.take (k+1))=P9 (l.take k)+nth l k:=by rw[j60 l k V,dk7]
theorem de2(l:LI)(h:∀x∈l,-9<=x/\x<=9):∀k,k<=l.length -> -9*(k:Int)<=P9 (l.take k)/\P9 (l.take k)<=9*(k:Int)
 |0,_=>by simp[P9]
 |k+1,hk=>by
  have i:=de2 l h k om
  have:=h _ (b78 (l:=l) (k:=k) om)
  rw[dk8 l k om];omega
theorem cj1{c:LI}(h:eqB c=true)(m k:Nat):∀x∈L8 c m k,-9<=x/\x<=9:=fun x K=>by
 unfold L8 at K
 rw[pp]at K
 obtain⟨j,-,rfl⟩:=K
 exact c31 h j
theorem lo6{c:LI}(h:eqB c=true)(m k:Nat)(V:k<=4) : -36<=P9 (L8 c m k)/\P9 (L8 c m k)<=36:=by
 have H:=de2 _ (cj1 h m k) (L8 c m k).length (oc _);rw[oz]at H;have:=br0 c m k;omega
def zcF(c:LI):Option Nat:=if eqB c then(List.range (pw c.length)).find? (fun m=>decide (1<=m)&&decide (P9 (S5 c m)=0))else none
def zcB(c:LI):Bool:=(zcF c).isSome
def zcL(c:LI):LN:=match zcF c with|some m=>j3 m|none=>[]
theorem lh3{c:LI}(h:eqB c=false):zcB c=false/\zcL c=[]:=by
 have:zcF c=none:=by unfold zcF;rw[h];rfl
 unfold zcB zcL;rw[this];exact⟨rfl,rfl⟩
theorem lh2{c:LI}(h:eqB c=true)(M:m<pw c.length)(H:1<=m)(S:∀j,1<=j->j<m->¬P9 (S5 c j)=0)(z:P9 (S5 c m)=0):zcB c=true/\zcL c=j3 m:=by
 have:zcF c=some m:=by
  unfold zcF;rw[if_pos h];exact bk0 M (fun j J=>by
   by_cases e:1<=j
   rw[decide_eq_false (S j e J)];simp
   rw[decide_eq_false e];rfl) (by rw[decide_eq_true H,decide_eq_true z];rfl)
 unfold zcB zcL;rw[this];exact⟨rfl,rfl⟩
theorem ji8{c:LI}(h:eqB c=true)(H:∀j,1<=j->j<pw c.length->¬P9 (S5 c j)=0):zcB c=false/\zcL c=[]:=by
 have:zcF c=none:=by
  unfold zcF;rw[if_pos h];exact bf5 (fun j J=>by
   by_cases e:1<=j
   rw[decide_eq_false (H j e J)];simp
   rw[decide_eq_false e];rfl)
 unfold zcB zcL;rw[this];exact⟨rfl,rfl⟩
def b59(c:LI)(X:LN):Nat->Int
 |0=>0
 |k+1=>b59 c X k+nth c k*(d5 X k:Int)
theorem bq0(X:LN)(k:Nat):b59 c X (k+1)=b59 c X k+nth c k*(d5 X k:Int):=rfl
theorem cy3(V:k<X.length):d5 (X++[y]) k=d5 X k:=by simp[d5,List.getD,V,List.getElem?_append_left V]
theorem dz6(X:LN)(y:Nat):d5 (X++[y]) X.length=y:=by simp[d5,List.getD]
theorem dg5(c:LI)(X:LN)(y:Nat):∀k,k<=X.length->b59 c (X++[y]) k=b59 c X k
 |0,_=>rfl
 |k+1,h=>by rw[bq0,bq0,dg5 c X y k om,cy3 om]
def V7(c:LI)(X:LN):Int:=b59 c X X.length
theorem dg4(X:LN)(y:Nat):V7 c (X++[y])=V7 c X+nth c X.length*(y:Int):=by
 unfold V7;rw[oh,oo,bq0,dg5 c X y X.length (oc _),dz6]
theorem d48{a:Int}(h: -9<=a)(r:a<=9)(H:y<=12) : -108<=a*(y:Int)/\a*(y:Int)<=108:=by
 have T:(0:Int)<=y:=om;have b:a*(y:Int)<=9*(y:Int):=pL r T;have c : -9*(y:Int)<=a*(y:Int):=pL h T;omega
theorem c76{c:LI}(h:eqB c=true){X:LN}(u:∀x∈X,x<=12):∀k,k<=X.length -> -108*(k:Int)<=b59 c X k/\b59 c X k<=108*(k:Int)
 |0,_=>by simp[b59]
 |k+1,hk=>by
  have i:=c76 h u k om
  have H:=c31 h k
  have r:=d48 H.1 H.2 (u _ (m7 (L:=X) (k:=k) om))
  rw[bq0];omega
def okC(c:LI)(X:LN)(y:Nat):Bool:=c.isEmpty || X.isEmpty || decide (nth c (y-1)=nth c (d5 X 0-1))
def E9(c:LI)(n:Nat)(C:LI):Nat->LN->Nat
 |0,X=>if V7 c X=0 then 1 else 0
 |r+1,X=>(List.range n).foldl (fun s y=>s+if okC C X (y+1)then E9 c n C r (X++[y+1])else 0) 0
def Q8(c:LI)(n:Nat)(C:LI)(r:Nat)(X:LN)(k:Nat):Nat:=(List.range k).foldl (fun s y=>s+if okC C X (y+1)then E9 c n C r (X++[y+1])else 0) 0
theorem ce9(X:LN):Q8 c n s r X 0=0:=rfl
theorem bx2(X:LN)(k:Nat):Q8 c n s r X (k+1)=Q8 c n s r X k+if okC s X (k+1)then E9 c n s r (X++[k+1])else 0:=by
 unfold Q8;rw[oW,oH];rfl
theorem jd9{c:LI}{n:Nat}{r:Nat}(h:okC cs X (k+1)=false):Q8 c n cs r X (k+1)=Q8 c n cs r X k:=by rw[bx2,h];rfl
theorem c72{c:LI}{n:Nat}{r:Nat}(h:okC cs X (k+1)=true):Q8 c n cs r X (k+1)=Q8 c n cs r X k+E9 c n cs r (X++[k+1]):=by rw[bx2,h];rfl
theorem bx1(c:LI)(n:Nat)(s:LI)(r:Nat)(X:LN)(k:Nat):∀d,Q8 c n s r X k<=Q8 c n s r X (k+d)
 |0=>oc _
 |d+1=>by have:=bx1 c n s r X k d;rw[<-qb,bx2];omega
theorem b90(X:LN):E9 c n s (r+1) X=Q8 c n s r X n:=rfl
theorem c71{c:LI}{n:Nat}{s:LI}(h:V7 c X=0):E9 c n s 0 X=1:=by unfold E9;rw[if_pos h]
theorem cm6{c:LI}{n:Nat}{s:LI}(h:¬V7 c X=0):E9 c n s 0 X=0:=by unfold E9;rw[if_neg h]
theorem c30:∀r X,E9 c n s r X<=n^r:=by
 intro r;induction r with
 |zero=>intro X;unfold E9;split<;>simp
 | succ r ih =>
  intro X;rw[b90,pU,qE];have:∀k,Q8 c n s r X k<=k*n^r:=by
   intro k;induction k with
   |zero=>simp[Q8]
   |succ k ik =>
    rw[bx2,Nat.succ_mul];have:=ih (X++[k+1]);split<;>omega
  exact this n
def L6(s:LN->Bool)(c:LI)(n:Nat):Nat->LN->Bool
 |0,X=>decide (V7 c X=0)&&s X
 |r+1,X=>(List.range n).any (fun y=>L6 s c n r (X++[y+1]))
theorem be9{s:LN->Bool}{c:LI}{n:Nat}:L6 s c n 0 X=(decide (V7 c X=0)&&s X):=rfl
theorem cv2{s:LN->Bool}{c:LI}{n r:Nat}(V:k<n)(h:L6 s c n r (X++[k+1])=true):L6 s c n (r+1) X=true:=by
 unfold L6;rw[pt];exact⟨k,ou.2 V,h⟩
theorem df1{s:LN->Bool}{c:LI}{n r:Nat}(h:∀k,k<n->L6 s c n r (X++[k+1])=false):L6 s c n (r+1) X=false:=by
 unfold L6;rw[List.any_eq_false];intro k V;rw[h k (ou.1 V)];simp
theorem cv3(s:LN->Bool)(c:LI)(n:Nat):∀R X,L6 s c n R X=true↔∃Y:LN,Y.length=R/\(∀y∈Y,1<=y/\y<=n)/\V7 c (X++Y)=0/\s (X++Y)=true:=by
 intro R;induction R with
 |zero =>
  intro X;rw[be9,ow,decide_eq_true_iff];constructor
  . rintro⟨H,r⟩;exact⟨[],rfl,zm,by simpa using H,by simpa using r⟩
  . rintro⟨Y,w,-,H,r⟩;have:=oF w;subst this;rw[pV]at H r;exact⟨H,r⟩
 | succ R ih =>
  intro X;unfold L6;rw[pt];constructor
  . rintro⟨k,V,h⟩;obtain⟨Y,H,r,T,b⟩:=(ih _).1 h;have:=ou.1 V;refine⟨(k+1) :: Y,by simp[H],fun y I=>?_,by simpa using T,by simpa using b⟩;rw[pM]at I;rcases I with rfl|I
    . omega
    . exact r y I
  . rintro⟨Y,H,r,T,b⟩;cases Y with
    |nil=>simp at H
    |cons y Y =>
     have I:=r y zm;refine⟨y-1,ou.2 om,(ih _).2 ⟨Y,by simpa using H,fun z Z=>r z (by simp[Z]),?_,?_⟩⟩
     . rw[show y-1+1=y by omega];simpa using T
     . rw[show y-1+1=y by omega];simpa using b
def b12(c:LI)(X:LN):Bool:=X.all (fun x=>decide (nth c (x-1)=nth c (d5 X 0-1)))
def bw0(c:LI)(X:LN)(k:Nat):Prop:=∀j,j<k->nth c (d5 X j-1)=nth c (d5 X 0-1)
theorem l90{x:Nat}(h:x∈X):∃k,k<X.length/\d5 X k=x:=by
 obtain⟨k,V,rfl⟩:=px h;exact⟨k,V,by simp[d5,List.getD,V]⟩
theorem ck9{c:LI}(h:bw0 c X X.length):b12 c X=true:=by
 unfold b12;rw[oC];intro x K;obtain⟨k,V,rfl⟩:=l90 K;exact decide_eq_true (h k V)
theorem j36{c:LI}(V:k<X.length)(h:¬nth c (d5 X k-1)=nth c (d5 X 0-1)):b12 c X=false:=by
 rw[<-pg];intro e;unfold b12 at e;rw[oC]at e;exact h (of_decide_eq_true (e _ (m7 V)))
theorem dk2{c:LI}:b12 c X=true↔bw0 c X X.length:=by
 constructor;intro h j H;refine oU fun n=>?_;rw[j36 H n]at h;cases h
 exact ck9
theorem jk5(C:s≠[]):∀R X,bw0 s X X.length->(0<E9 c n s R X↔L6 (b12 s) c n R X=true):=by
 have E:s.isEmpty=false:=by cases s with|nil=>exact absurd rfl C|cons=>rfl
 intro R;induction R with
 |zero =>
  intro X u;rw[be9,ck9 u];by_cases h:V7 c X=0
  . rw[c71 h,decide_eq_true h];simp
  . rw[cm6 h,decide_eq_false h];simp
 | succ R ih =>
  intro X u;have z:∀y,okC s X y=true->bw0 s (X++[y]) (X++[y]).length:=fun y H j J=>by
   unfold okC at H
   rw[E,Bool.false_or,pG,decide_eq_true_iff]at H
   rw[oh,oo]at J
   cases X with
   | nil=>have:j=0:=by simpa using J
          subst this;rfl
   | cons x X =>
    rcases H with H|H
    . cases H
    . have P:d5 ((x :: X)++[y]) 0=d5 (x :: X) 0:=cy3 zm
      by_cases Z:j<(x :: X).length
      . rw[cy3 Z,P];exact u j Z
      . have:j=(x :: X).length:=by omega
        subst this
        rw[dz6,P];exact H
  have N:∀y,okC s X y=false->L6 (b12 s) c n R (X++[y])=false:=fun y H=>by
   rw[<-pg,cv3]
   rintro⟨Y,-,-,-,b⟩
   rw[dk2]at b
   unfold okC at H
   rw[E,Bool.false_or,qU,decide_eq_false_iff_not]at H
   cases X with
   |nil=>simp at H
   |cons x X =>
    have:=b (x :: X).length zm
    apply H.2
    have S:d5 ((x :: X)++[y]++Y) (x :: X).length=y:=by simp[d5,List.getD]
    have V:d5 ((x :: X)++[y]++Y) 0=d5 (x :: X) 0:=by simp[d5,List.getD]
    rw[S,V]at this;exact this
  rw[b90];have K:∀k,0<Q8 c n s R X k↔∃y,y<k/\L6 (b12 s) c n R (X++[y+1])=true:=by
   intro k;induction k with
   |zero=>rw[ce9];exact⟨fun h=>absurd h om,fun⟨y,h,_⟩=>absurd h om⟩
   | succ k ik =>
    cases O:okC s X (k+1)
    . rw[jd9 O,ik];constructor
      . rintro⟨y,U,r⟩;exact⟨y,om,r⟩
      . rintro⟨y,U,r⟩;by_cases e:y=k
        . subst e;rw[N _ O]at r;cases r
        . exact⟨y,om,r⟩
    . rw[c72 O];have T:=ih _ (z _ O);constructor
      . intro h;by_cases b:0<Q8 c n s R X k
        . obtain⟨y,U,r⟩:=ik.1 b;exact⟨y,om,r⟩
        . exact⟨k,om,T.1 om⟩
      . rintro⟨y,U,r⟩;by_cases e:y=k
        . subst e;have:=T.2 r;omega
        . have:=ik.2 ⟨y,om,r⟩;omega
  rw[K n];constructor
  . rintro⟨y,U,r⟩;exact cv2 U r
  . intro h;unfold L6 at h;rw[pt]at h;obtain⟨y,U,r⟩:=h;exact⟨y,ou.1 U,r⟩
def O9(c s:LI):Bool:=L6 (b12 s) c s.length c.length []
theorem l93{c s:LI}(H:s≠[]):(0<E9 c s.length s c.length [])↔O9 c s=true:=jk5 c s.length s H _ [] (fun j h=>absurd h zm)
theorem l94{c s:LI}(d:LI)(C:0<c.length)(h:O9 c s=true):O9 c (s++d)=true:=by
 unfold O9 at h|-;rw[cv3]at h|-;obtain⟨Y,U,r,T,b⟩:=h;refine⟨Y,U,fun y I=>?_,T,?_⟩;have:=r y I;rw[oh];omega;rw[pq]at b|-;rw[dk2]at b|-;intro j H;have e:∀j,j<Y.length->nth (s++d) (d5 Y j-1)=nth s (d5 Y j-1):=fun j H=>by
  have:=r _ (m7 H)
  simp only[nth,List.getD]
  rw[List.getElem?_append_left om]
 rw[e j H,e 0 om];exact b j H
def avF(c:LI)(k n:Nat):Nat->LI->Bool
 |0,_=>false
 |f+1,cs=>if decide (cs≠[])&&O9 c cs then false else if cs.length=n then true else(List.range k).any (fun x=>avF c k n f (cs++[(x:Int)]))
theorem dq4{c:LI}{n:Nat}{s:LI}(H:s≠[])(h:O9 c s=true):avF c k n (f+1) s=false:=by unfold avF;rw[h,decide_eq_true H];rfl
theorem dq3{c:LI}{n:Nat}{s:LI}(h:(decide (s≠[])&&O9 c s)=false)(H:s.length=n):avF c k n (f+1) s=true:=by unfold avF;rw[h,if_pos H];rfl
theorem cv4{c:LI}{n:Nat}{s:LI}(h:(decide (s≠[])&&O9 c s)=false)(H:¬s.length=n):avF c k n (f+1) s=(List.range k).any (fun x=>avF c k n f (s++[(x:Int)])):=by
 conv=>lhs;unfold avF
 rw[h,if_neg H];rfl
def b17(n m:Nat):LI:=(List.range n).map (fun i=>((m.testBit i).toNat:Int))
theorem bw8(m:Nat):(b17 n m).length=n:=by simp[b17]
theorem li2{c:LI}(C:0<c.length){n:Nat}(N:1<=n):∀f s,s.length<=n->n<s.length+f->(avF c 2 n f s=true↔∃D:LI,s.length+D.length=n/\(∀d∈D,d=0\/d=1)/\O9 c (s++D)=false):=by
 intro f;induction f with
 |zero=>intro s H r;omega
 | succ f ih =>
  intro s H r;cases m:(decide (s≠[])&&O9 c s)
  . by_cases l:s.length=n
    . rw[dq3 m l];have S:s≠[]:=(by intro e;subst e;simp at l;omega);rw[decide_eq_true S,qe]at m;exact⟨fun _=>⟨[],by simpa using l,zm,by simpa using m⟩,fun _=>rfl⟩
    . rw[cv4 m l,pt];constructor
      . rintro⟨x,K,h⟩;have hx2:=ou.1 K;obtain⟨D,R,T,E⟩:=(ih _ zso zso).1 h;refine⟨(x:Int) :: D,by simp at R|-;omega,fun d hd=>?_,by simpa using E⟩;rw[pM]at hd;rcases hd with rfl|hd
        . omega
        . exact T d hd
      . rintro⟨D,R,T,E⟩;cases D with
        |nil=>simp at R;omega
        |cons d D =>
         have hd:=T d zm;refine⟨d.toNat,ou.2 om,(ih _ zso zso).2 ⟨D,by simp at R|-;omega,fun z Z=>T z (by simp[Z]),?_⟩⟩;rw[show((d.toNat:Nat):Int)=d by omega];simpa using E
  . rw[ow,decide_eq_true_iff]at m;rw[dq4 m.1 m.2];constructor
    . intro h;cases h
    . rintro⟨D,-,-,E⟩;rw[l94 D C m.2]at E;cases E
theorem jp8:∀(s:LI),(∀d∈s,d=0\/d=1)->∃m,m<2^s.length/\b17 s.length m=s:=by
 intro s;induction s with
 |nil=>intro _;exact⟨0,zm,rfl⟩
 | cons d s ih =>
  intro h;obtain⟨m,H,r⟩:=ih (fun x K=>h x (by simp[K]))
  have hd:=h d zm;refine⟨d.toNat+2*m,by rw[oy,pU];omega,?_⟩;unfold b17 at r|-;rw[oy,List.range_succ_eq_map,ph,qQ];congr 1
  . rw[ps];rcases hd with rfl|rfl
    . simp
    . have:(Int.toNat 1+2*m)%2=1:=(by simp);rw[this];rfl
  . conv=>rhs;rw[<-r]
    apply qA;intro i _;show(((d.toNat+2*m).testBit (i+1)).toNat:Int)=_;rw[pz,show(d.toNat+2*m)/2=m by omega]
theorem df2{c:LI}(C:0<c.length){n:Nat}(H:1<=n):avF c 2 n (n+1) []=true↔∃m,m<2^n/\O9 c (b17 n m)=false:=by
 rw[li2 C H _ _ zm zm];constructor;rintro⟨s,h,r,T⟩;simp at h;obtain⟨m,E,e⟩:=jp8 s r;rw[h]at E e;exact⟨m,E,by rw[e];simpa using T⟩;rintro⟨m,h,r⟩;refine⟨b17 n m,by simp[bw8],fun d hd=>?_,by simpa using r⟩;unfold b17 at hd;rw[pp]at hd;obtain⟨i,-,rfl⟩:=hd;cases m.testBit i
 exact Or.inl rfl;exact Or.inr rfl
def bh2(c:LI)(n:Nat):Bool:=(List.range (pw n)).all (fun m=>O9 c (b17 n m))
theorem jb9{c:LI}{n:Nat}(H:m<pw n)(h:O9 c (b17 n m)=false):bh2 c n=false:=by
 rw[<-pg];intro e;unfold bh2 at e;rw[oC]at e;rw[e m (ou.2 H)]at h;cases h
theorem l30{c:LI}{n:Nat}(h:∀m,m<pw n->O9 c (b17 n m)=true):bh2 c n=true:=by
 unfold bh2;rw[oC];intro m H;exact h m (ou.1 H)
theorem lh6{c:LI}(C:0<c.length){n:Nat}(N:1<=n):avF c 2 n (n+1) [] = !bh2 c n:=by
 cases h:bh2 c n;rw[Bool.not_false,df2 C N];unfold bh2 at h;rw[List.all_eq_false]at h;obtain⟨m,H,r⟩:=h;exact⟨m,ou.1 H,by simpa using r⟩;rw[Bool.not_true,<-pg,df2 C N];rintro⟨m,H,r⟩;rw[jb9 H r]at h;cases h
def lb4(c:LI):Option Nat:=(List.range 9).find? (fun n=>bh2 c (n+1))
def b00(c:LI):Int:=if eqB c&&decide (c.length<=3)then(match lb4 c with|some n=>(n:Int)+1|none=>0)else -1
theorem jy5{c:LI}(h:eqB c=true)(T:c.length<=3){n:Nat}(N:n<9)(S:∀j,j<n->bh2 c (j+1)=false)(H:bh2 c (n+1)=true):b00 c=(n:Int)+1:=by
 unfold b00 lb4;rw[h,decide_eq_true T,bk0 N S H];rfl
theorem j23{c:LI}(h:eqB c=true)(T:c.length<=3)(H:∀j,j<9->bh2 c (j+1)=false):b00 c=0:=by
 unfold b00 lb4;rw[h,decide_eq_true T,bf5 H];rfl
theorem d63{c:LI}(h:eqB c=false\/¬c.length<=3):b00 c = -1:=by
 unfold b00;rcases h with h|h
 rw[h];rfl;rw[decide_eq_false h,Bool.and_false];rfl
theorem ds5:bh5 0=false:=by decide
theorem je1(h:inB x (-9) 9=false):bh5 x=false:=by unfold bh5;rw[h];rfl
theorem jq9(h:inB x (-9) 9=true)(H:¬x=0):bh5 x=true:=by unfold bh5;rw[h];simp[H]
theorem zz137{P:Prop}(h:P:=by go_ret;exact⟨j1 N.o.symm,E⟩):P:=h
theorem zz148{P:Prop}(h:P:=by go_roundw;exact⟨k+1,om,zg,zh fun j f=>by by_cases e:j=k;(subst e;exact n.o);exact v.o j om,E⟩;exact zm1):P:=h
theorem b41(H:c8 w u c):Calls Tryz.prog 163 #[u] w (RE w (.bool (eqB c))):=by
 obtain⟨A,M,r,rfl,z,d,l⟩:=H.op;have i:=j2 (c:=M) elI szI d;have O:=zh l;have E:=er w;clear d H l;go_in;go_wp2_with fail;go_loopw [7] (fun s wr=>∃k:Nat,k<=c.length/\s=vi k/\Hid (∀j,j<k->bh5 (nth c j)=true)/\Ext w wr) (fun s _=>c.length-(intOf s).toNat);exact⟨0,om,rfl,zh om,E⟩
 clear E;rename World=>wr;obtain⟨k,V,rfl,v,E⟩:=hrel;by_cases U:k<c.length
 . have K:=O.o k wr U E;obtain⟨y,Y⟩:=nq (nth c k);rw[<-Y]at K;have C:=fun W=>H8 y (-9) 9 W;by_cases h:y=0
   . have N:Hid (eqB c=false):=zh (cn0 U (by rw[<-Y,h];exact ds5));rw[h]at K C;clear Y h;have b:∀W,Calls Tryz.prog 168 #[vi 0,vi (-9),vi 9] W fun e P=>e=.returned (.bool true)/\W=P:=C;clear C;go_wp2_with(go_at_call 168;refine(b _).mono ?_;rintro x P⟨rfl,rfl⟩);exact zz137
   have q:(y == 0)=false:=(by rw[beq_eq_false_iff_ne];exact h);cases J:inB y (-9) 9
   . have N:Hid (eqB c=false):=zh (cn0 U (by rw[<-Y];exact je1 J));rw[J]at C;clear Y h J;go_wp2_with(go_at_call 168;refine(C _).mono ?_;rintro x P⟨rfl,rfl⟩);exact zz137
   have n:Hid (bh5 (nth c k)=true):=zh (by rw[<-Y];exact jq9 J h);rw[J]at C;clear Y h J;go_wp2_with(go_at_call 168;refine(C _).mono ?_;rintro x P⟨rfl,rfl⟩);exact zz148
 have L:k=c.length:=om;have N:Hid (eqB c=inB c.length 2 4):=zh (je7 fun j f=>v.o j om);have C:=fun W=>H8 (c.length:Nat) 2 4 W;clear L;go_wp2_with(go_at_call 168;refine(C _).mono ?_;rintro x P⟨rfl,rfl⟩);exact zz137
theorem bc4(H:c8 w u c):Calls Tryz.prog 94 #[u] w (RE w (.bool (eqB c))):=by
 obtain⟨A,M,r,rfl,z,d,l⟩:=H.op;have i:=j2 (c:=M) elI szI d;have O:=zh l;have E:=er w;clear d H l;go_in;go_wp2_with fail;go_loopw [3] (fun s wr=>∃k:Nat,k<=c.length/\s=vi k/\Hid (∀j,j<k->bh5 (nth c j)=true)/\Ext w wr) (fun s _=>c.length-(intOf s).toNat);exact⟨0,om,rfl,zh om,E⟩
 clear E;rename World=>wr;obtain⟨k,V,rfl,v,E⟩:=hrel;by_cases U:k<c.length
 . have K:=O.o k wr U E;obtain⟨y,Y⟩:=nq (nth c k);rw[<-Y]at K;have C:=fun W=>P6 y (-9) 9 W;by_cases h:y=0
   . have N:Hid (eqB c=false):=zh (cn0 U (by rw[<-Y,h];exact ds5));rw[h]at K C;clear Y h;have b:∀W,Calls Tryz.prog 141 #[vi 0,vi (-9),vi 9] W fun e P=>e=.returned (.bool true)/\W=P:=C;clear C;go_wp2_with(go_at_call 141;refine(b _).mono ?_;rintro x P⟨rfl,rfl⟩);exact zz137
   have q:(y == 0)=false:=(by rw[beq_eq_false_iff_ne];exact h);cases J:inB y (-9) 9
   . have N:Hid (eqB c=false):=zh (cn0 U (by rw[<-Y];exact je1 J));rw[J]at C;clear Y h J;go_wp2_with(go_at_call 141;refine(C _).mono ?_;rintro x P⟨rfl,rfl⟩);exact zz137
   have n:Hid (bh5 (nth c k)=true):=zh (by rw[<-Y];exact jq9 J h);rw[J]at C;clear Y h J;go_wp2_with(go_at_call 141;refine(C _).mono ?_;rintro x P⟨rfl,rfl⟩);exact zz148
 have L:k=c.length:=om;have N:Hid (eqB c=inB c.length 2 4):=zh (je7 fun j f=>v.o j om);have C:=fun W=>P6 (c.length:Nat) 2 4 W;clear L;go_wp2_with(go_at_call 141;refine(C _).mono ?_;rintro x P⟨rfl,rfl⟩);exact zz137
theorem zz63{P:Prop}(h:P:=by go_wp2_with fail;rw[H.o.1,H.o.2];exact br (.tuple #[.slice (some (aD wr.heap.size 0)) 0 0,.bool false]) ⟨_,rfl,l9 (TI:=3) (n:=0) om E [] rfl,oQ E _⟩):P:=h
theorem zz124{P:Prop}(h:P:=by go_wp2_with fail;go_roundw;exact⟨m+1,om,om,zg,zh fun j Y r=>by by_cases e:j=m;(subst e;exact H.o);exact x.o j Y om,f⟩;exact zm1):P:=h
theorem d20(A:c8 w u c):Calls Tryz.prog 166 #[u] w fun e R=>∃T,e=.returned (.tuple #[T,.bool (zcB c)])/\Own 3 w R T (b9 (zcL c))/\Ext w R:=by
 have F:=b41 u c w A;have HU:=zh (fun W (D:Ext w W)=>A.ext D);obtain⟨ao,cc,rfl,-⟩:=A;cases X:eqB c
 . have H:=zh (lh3 X);rw[X]at F;go_in;go_wp2_with fail;refine cm F fun G z=>?_;go_wp2_with fail;rw[H.o.1,H.o.2];exact br (.tuple #[.slice (some (aD G.heap.size 0)) 0 0,.bool false]) ⟨_,rfl,l9 (TI:=3) (n:=0) om z [] rfl,oQ z _⟩
 have hl:=U4 X;have i:c.length<=4:=hl.2.1;have hs:=bc9 (n:=c.length) om;have hA:pw c.length<=16:=ot (n:=2) om i;have hx:=X9 c.length;have hq:=o6 (n:=c.length) om;have q:=zh X;rw[X]at F;clear X hl;go_in;go_wp2_with fail;refine cm F fun G z=>?_;go_wp2_with fail;go_loopw [4] (fun M wr=>∃m:Nat,1<=m/\m<=pw c.length/\M=vi m/\Hid (∀j,1<=j->j<m->¬P9 (S5 c j)=0)/\Ext w wr) (fun M _=>pw c.length-(intOf M).toNat);exact⟨1,om,om,rfl,zh om,z⟩
 clear z;rename World=>wr;obtain⟨m,hm,hr,rfl,x,E⟩:=hrel;by_cases U:m<pw c.length
 . have ha:=j07 _ c m wr (HU.o wr E) om om;go_wp2_with(go_at_call 252;refine ha.mono ?_;rintro e w2⟨vP,rfl,O,I⟩;obtain⟨aP,cP,aa,rfl,hp,d,hf⟩:=O.ints.op);have ho:=j2 (c:=cP) elI szI d;have Ha:=zh hf;have hj:=E.trans I;have g:=br0 c m c.length;have b:∀k,k<=(S5 c m).length -> -36<=P9 ((S5 c m).take k)/\P9 ((S5 c m).take k)<=36:=fun k V=>by
    have h6:=de2 (S5 c m) (cj1 q.o m c.length) k V
    have h5:(S5 c m).length<=c.length:=g
    omega
   have Z:∀k,-9<=nth (S5 c m) k/\nth (S5 c m) k<=9:=fun k=>by
    by_cases V:k<(S5 c m).length
    exact cj1 q.o m c.length _ (b78 V)
    have:nth (S5 c m) k=0:=by simp[nth,List.getD,List.getElem?_eq_none (Nat.le_of_not_lt V)]
    omega
   obtain⟨P,p⟩:=nq (S5 c m);have HP:=zh p;rw[<-p]at hp d Ha ho b Z;have hC:P.length<=4:=(by rw[p];exact nle g i);have Hc:=zh b;have Hb:=zh Z;rw[<-p];clear ha hf d O p b Z g;go_loopw [5,23] (fun ss s J=>∃k:Nat,k<=P.length/\s=vi k/\ss=vi (P9 (P.take k))/\Ext w2 J) (fun _ s _=>P.length-(intOf s).toNat);exact⟨0,om,rfl,rfl,er _⟩;case round =>
    rename World=>J;obtain⟨k,V,rfl,rfl,l⟩:=hrel;have C:=Hc.o k V;by_cases L:k<P.length
    . have hh:=Ha.o k J L l;have hy:=Hb.o k;have N:Hid (P9 (P.take (k+1))=P9 (P.take k)+nth P k):=zh (dk8 P k L);obtain⟨y,B⟩:=nq (nth P k);obtain⟨K,S⟩:=nq (P9 (P.take k));rw[<-B]at hh hy N;rw[<-S]at C N;rw[<-S];have hw:IntKind.i64.wrap (K+y)=K+y:=oD _ om;clear B S;go_wp2_with fail;go_roundw;exact⟨k+1,om,zg,by rw[N.o],l⟩;exact zm1
    . have hc:P.take k=P:=pE om;have hB:((P.take k).length=(P.take k).length):=rfl;rw[hc]at C;rw[hc];have f:=hj.trans l;by_cases h:P9 P=0
      . have H:=zh (lh2 q.o U hm x.o (by rw[<-HP.o];exact h));rw[h];clear h;go_wp2_with(go_at_call 195;refine(J1 m om _).mono ?_;rintro e w3⟨v3,rfl,hi,hg⟩);rw[H.o.1,H.o.2];exact br (.tuple #[v3,.bool true]) ⟨_,rfl,hi.mono f,f.trans hg⟩
      . have ht:(P9 P == 0)=false:=(by rw[beq_eq_false_iff_ne];exact h);have H:Hid (¬P9 (S5 c m)=0):=zh (by rw[<-HP.o];exact h);clear h;exact zz124
 have H:=zh (ji8 q.o fun j Y r=>x.o j Y om);exact zz63
end Go.Zz
