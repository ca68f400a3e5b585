/- The drawing of arguments: a cursor on bytes, what it leaves, numbers below a bound. -/
import Derived.Test.YtjhoafjeopcheaaGreatGr17
import Derived.Test.YtjhoafjeopcheaaGreatOp
set_option linter.all false
set_option maxHeartbeats 2000000
set_option maxRecDepth 8000
namespace Go.Zz
open Go.RowKit Go.Proofs
variable{e W:World}{l:LI}{b p:Nat}{T:TypeId}{v:Value}
def bo3(w:World)(v:Value)(l:LI):Prop :=
 ∃(Q:Option Addr) (c:Nat),v=.slice Q l.length c/\l.length<=140737488355328/\(∀i,0<=nth l i/\nth l i<=255) /\
  ∀i,i<l.length->∃a,Q=some a/\w.cell? (a.add i)=some (.int .u8 (nth l i))
theorem bo3.ext{w:World}(h:bo3 w v l)(E:Ext w e):bo3 e v l:=by
 obtain⟨Q,c,rfl,o,r,T⟩:=h;refine⟨Q,c,rfl,o,r,fun i J=>?_⟩;obtain⟨a,rfl,C⟩:=T i J;exact⟨a,rfl,E.cell C⟩
theorem bo3.op{w:World}(h:bo3 w v l):∃(Q:Option Addr) (c:Nat) (d:Nat->Addr),v=.slice Q l.length c/\l.length<=140737488355328/\(∀i,0<=nth l i/\nth l i<=255) /\
  (∀i,i<l.length->Q=some (d 0)/\d i=(d 0).add i) /\
  (∀i W,i<l.length->Ext w W->W.cell? (d i)=some (.int .u8 (nth l i))):=by
 obtain⟨Q,c,rfl,o,r,T⟩:=h;refine⟨Q,c,fun i=>(Q.getD default).add i,rfl,om,r,fun i J=>?_,fun i W J D=>?_⟩
 . obtain⟨a,rfl,C⟩:=T i J;exact⟨by simp[Addr.add],by simp[Addr.add]⟩
 . obtain⟨a,rfl,C⟩:=T i J;exact D.cell (by simpa using C)
theorem elY:Tryz.prog.underlying 24=some (.slice (Tryz.prog.elem 24)):=by kernel_rfl
theorem szY:∀w,(Go.sizeOf (Tryz.prog.elem 24)).run Tryz.prog w=.ok 1 w:=fun w=>by kernel_rfl
def Cur(W w:World)(p:Nat):Prop :=
 ∃(Q:Option Addr) (l:LI) (c:Nat) (i:Nat) (h:Int),Blk w p 59 #[.slice Q l.length c,vi i,vi h]/\i<=l.length/\W.heap.size<=p/\bo3 W (.slice Q l.length c) l/\Ext W w
theorem Cur.lt{w:World}(h:Cur W w p):W.heap.size<=p/\p<w.heap.size:=by
 obtain⟨_,_,_,_,_,o,_,r,_⟩:=h;exact⟨r,o.lt⟩
theorem Cur.ext{w:World}(h:Cur W w p)(E:Ext w e):Cur W e p:=by
 obtain⟨Q,l,c,i,n,o,r,T,a,d⟩:=h;exact⟨Q,l,c,i,n,o.ext E,r,T,a,d.trans E⟩
theorem Cur.base{w:World}(h:Cur W w p):Ext W w:=by obtain⟨_,_,_,_,_,_,_,_,_,h⟩:=h;exact h
theorem Cur.other{w:World}(h:Cur W w p){i:Nat}(o:p≠b)(r:W.heap.size<=b)(v:Value):Cur W (w.setCell (aD b i) v) p:=by
 obtain⟨Q,l,c,k,n,T,g,G,Z,d⟩:=h;exact⟨Q,l,c,k,n,T.other o v,g,G,Z,d.setCell r v⟩
def Drw(p:Nat)(w e:World):Prop:=Fr p none w e
theorem Drw.blk{w:World}(h:Drw p w e){c:Nat}{s:Array Value}(B:Blk w c T s)(C:c≠p):Blk e c T s:=Fr.blk h B C zm
theorem Drw.own{w:World}(h:Drw p w e){w0:World}(O:Own T w0 w v l)(q:p<w0.heap.size):Own T w0 e v l:=by
 refine Fr.own h O (jx3 O q) ?_;cases V:v.ownBlock<;>simp
theorem Drw.trans{w G:World}(h:Drw p w G)(k:Drw p G W):Drw p w W:=Fr.trans h (Nw.refl _ _) k
theorem Drw.alloc{w:World}(h:Drw p w e)(o:Obj):Drw p w (e.alloc o):=Fr.trans h (Nw.refl _ _) (((er e).alloc o).fr p none)
theorem Cur.alloc{w:World}(h:Cur W w p)(o:Obj):Cur W (w.alloc o) p:=h.ext ((er w).alloc o)
theorem Drw.set{w:World}(h:Drw p w e)(C:w.heap.size<=b)(i:Nat)(v:Value):Drw p w (e.setCell (aD b i) v) :=
 ⟨h.os,h.tape,h.output,by simpa using h.size,fun k V o r=>by rw[pQ _ _ _ _ (by show k≠b;omega)];exact Fr.block h k V o r⟩
theorem Drw.refl(p:Nat)(w:World):Drw p w w:=Fr.refl _ _ _
theorem Drw.size{w:World}(h:Drw p w e):w.heap.size<=e.heap.size:=Fr.size h
theorem Ext.drw{w:World}(h:Ext w e)(p:Nat):Drw p w e:=h.fr p none
def cx1(x y:Int):Int:=bits .xor .i64 x y
@[go_sem high] theorem intBits_xor_i (x y:Int):Op.intBits .xor .i64 x y=pure (vi (cx1 x y)):=rfl
theorem dx4(x:Int):0<=b13 x 255/\b13 x 255<=255:=by
 have h:b13 x 255=((((BitVec.ofInt IntKind.i64.bits x).toNat &&& 255:Nat)):Int):=by
  show IntKind.i64.wrap ((BitVec.ofInt IntKind.i64.bits x &&& BitVec.ofInt IntKind.i64.bits 255).toNat:Int)=_;rw[BitVec.toNat_and];have e:(BitVec.ofInt IntKind.i64.bits (255:Int)).toNat=255:=by decide
  rw[e,bl8];exact qG Nat.and_le_right (by decide)
 have r:(BitVec.ofInt IntKind.i64.bits x).toNat &&& 255<=255:=Nat.and_le_right;omega
theorem zz122{P:Prop}(h:P:=by go_wp2_with fail;go_ret;exact⟨_,rfl,⟨Q,l,c,0,_,oq _ _ _,oX _,nle R.o.size E.size,B.o,R.o.trans (E.alloc _)⟩,E.alloc _,E.size⟩):P:=h
theorem ju8(v:Value)(l:LI)(W w:World)(S:bo3 W v l)(F:Ext W w):Calls Tryz.prog 15 #[v] w fun e T=>∃p,e=.returned (.pointer (some (aD p 0)))/\Cur W T p/\Ext w T/\w.heap.size<=p:=by
 have h:=S.ext F;have B:=zh S;have R:=zh F;clear S F;obtain⟨Q,c,r,rfl,i,C,a,L⟩:=h.op;have I:=j2 (c:=c) elY szY a;have M:=zh L;clear a L h;go_in;go_wp2_with fail;go_loopw [3,4] (fun sh s wr=>∃(k:Nat) (h:Int),k<=l.length/\s=vi k/\sh=vi h/\Ext w wr) (fun _ s _=>l.length-(intOf s).toNat);exact⟨0,_,om,rfl,rfl,er _⟩
 rename World=>wr;obtain⟨k,h,V,rfl,rfl,E⟩:=hrel;by_cases U:k<l.length
 . have Z:=M.o k wr U E;have b:=C k;obtain⟨x,K⟩:=nq (nth l k);rw[<-K]at Z b;clear K;have t:(k:Int)<(l.length:Int):=om;by_cases d:(k:Int)<4000
   . go_wp2_with fail;go_roundw;exact⟨k+1,_,om,zg,rfl,E⟩;exact zm1
   exact zz122
 have t:¬(k:Int)<(l.length:Int):=om;exact zz122
theorem d42(j w:World)(p:Nat)(h:Cur j w p):Calls Tryz.prog 33 #[.pointer (some (aD p 0))] w fun e R=>∃x,e=.returned (vi x)/\0<=x/\x<=255/\Cur j R p/\Drw p w R:=by
 obtain⟨Q,l,c,i,V,hB,J,q,Y,F⟩:=h;have S:=zh Y;obtain⟨aa,c',ar,O,hl,C,a,L⟩:=Y.op;simp only[Value.slice.injEq]at O;obtain⟨rfl,-,rfl⟩:=O;have Z:=j2 (c:=c) elY szY a;have g:=zh L;clear a L Y;have k:=hB.cell (i:=2) (v:=vi V) rfl;have G:=hB.free 2;have d:=zh hB;have t:=zh F;clear hB F;have M:∀(W:World) (u:Value) (A:Int),Blk W p 59 #[u,vi i,vi A]->∀U,(Lat W U).cell? (aD p 0)=some u/\(Lat W U).cell? (aD p 1)=some (vi i)/\(Lat W U).cell? (aD p 2)=some (vi A):=fun W u A hB U =>
  ⟨(hB.ext (c9 W U)).cell rfl,(hB.ext (c9 W U)).cell rfl,(hB.ext (c9 W U)).cell rfl⟩
 have n:=zh M;clear M;go_in;go_wp2_with fail;generalize wrap64 (wrap64 (V*6364136223846793005)+1442695040888963407)=h1;have B:Blk (w.setCell (aD p 2) (vi h1)) p 59 #[.slice Q l.length c,vi i,vi h1]:=d.o.set 2 _;have m:Ext j (w.setCell (aD p 2) (vi h1)):=t.o.setCell q _;have f:Drw p w (w.setCell (aD p 2) (vi h1)):=b39 _ _ _ _ _;generalize w.setCell (aD p 2) (vi h1)=w1 at B m f|-;have N:=zh B;have T:=zh m;have X:=zh f;have r:=n.o w1 _ _ B;have ca:=fun U=>(r U).1;have cU:=fun U=>(r U).2.1;have cb:=fun U=>(r U).2.2;clear r B m f k G;have E:=er w1;by_cases s:i<l.length
 . have hI:(i:Int)<(l.length:Int):=om;have z:=C i;have D:=fun U=>g.o i (Lat w1 U) s (T.o.trans (c9 w1 U));obtain⟨y,I⟩:=nq (nth l i);rw[<-I]at z D;clear I;have ha:=Z i;refine wl E ?_;(repeat(go_big_quiet_step(first|(fail "no call"))));refine zd fun W E=>?_;go_wp2_with fail;refine wl E ?_;(repeat(go_big_quiet_step(first|(fail "no call"))));refine zd fun W E=>?_;go_wp2_with fail;refine wl E ?_;(repeat(go_big_quiet_step(first|(fail "no call"))));refine zd fun W E=>?_;rename World=>w2;have b:=N.o.ext E;have k1:=b.cell (i:=1) (v:=vi i) rfl;have f1:=b.free 1;have hc:IntKind.i64.wrap ((i:Int)+1)=((i+1:Nat):Int):=(by rw[show(i:Int)+1=((i+1:Nat):Int) by omega];exact bl8 (qG (show i+1<=140737488355329 by omega) (by decide)));go_wp2_with fail;go_ret;have K:=dx4 (wrap64 (b13 (cx1 (c12 h1 33) (c12 h1 45)) 255+y));refine⟨_,rfl,K.1,K.2,⟨Q,l,c,i+1,h1,?_,om,q,S.o,(T.o.trans E).setCell q _⟩,X.o.trans ((E.drw p).trans (b39 _ _ _ _ _))⟩;exact b.set 1 _
 have hI:¬(i:Int)<(l.length:Int):=om;refine wl E ?_;(repeat(go_big_quiet_step(first|(fail "no call"))));refine zd fun W E=>?_;go_wp2_with fail;refine wl E ?_;(repeat(go_big_quiet_step(first|(fail "no call"))));refine zd fun W E=>?_;rename World=>w2;go_wp2_with fail;go_ret;have K:=dx4 (cx1 (c12 h1 33) (c12 h1 45));exact⟨_,rfl,K.1,K.2,⟨Q,l,c,i,h1,N.o.ext E,J,q,S.o,T.o.trans E⟩,X.o.trans (E.drw p)⟩
def Bel(n x:Int):Prop:=(n<=0->x=0)/\(0<n->0<=x/\x<n)
theorem b31(W w:World)(p:Nat)(n:Int)(N:n<=256)(h:Cur W w p):Calls Tryz.prog 16 #[.pointer (some (aD p 0)),vi n] w fun e Q=>∃x,e=.returned (vi x)/\Bel n x/\Cur W Q p/\Drw p w Q:=by
 by_cases S:n<=0
 . have b:Hid (Bel n 0):=zh ⟨fun _=>rfl,fun e=>om⟩;go_in;go_wp2_with fail;go_ret;exact⟨0,rfl,b.o,h,Drw.refl p w⟩
 have q:0<n:=om;go_in;go_wp2_with fail;refine(d42 W w p h).mono ?_;rintro e G⟨x,rfl,X,hx1,C,hF⟩;have m:0<=x%n:=qw _ om;have M:x%n<n:=pX _ q;have b:Hid (Bel n (x%n)):=zh ⟨fun e=>om,fun _=>⟨m,M⟩⟩;have a:¬n=0:=om;have t:x.tmod n=x%n:=Int.tmod_eq_emod_of_nonneg X;go_wp2_with fail;go_ret;exact⟨_,rfl,b.o,C,hF⟩
theorem jm2(W w:World)(p:Nat)(n:Int)(N:n<=256)(h:Cur W w p):Calls Tryz.prog 18 #[.pointer (some (aD p 0)),vi n] w fun e Q=>∃b,e=.returned (.bool b)/\Cur W Q p/\Drw p w Q:=by
 go_in;go_wp2_with fail;refine(b31 W w p n N h).mono ?_;rintro e G⟨x,rfl,-,C,hF⟩;go_wp2_with fail;go_ret;exact⟨_,rfl,C,hF⟩
open Go.ChangeShapes Go.WideShapes Go.ChangeAt Go.RowKit Go.Joins Go.Deep
section
variable {H:Type} {enc:TypeId × Value->H} {P:Program} {w:World} {held:Bool}
theorem byt_arg{t:TypeId}{r:Reach}{d:DataW H}{p:List MemPlace}(y:P.underlying t=some (.slice T))(E:P.underlying T=some (.int .u8))(Q:P.cellsOf T=1)(C:P.bytesOf T=1)
 (V:Value.okWide P w r b t v) (h:DataW.Trod enc P w 0 (fun _=>true) held t v d p) (W:∀k∈d.weights P t,k<=reachBytes):∃l,bo3 w v l:=by
 obtain⟨a,len,cap,rfl⟩:=okWide_slice y V;obtain⟨u,f⟩:=h;rcases open_ints y E Q f with⟨c,_⟩|⟨a,len,cap,z,c,_,j,_,Z,K,e,G⟩;simp[Value.cells]at c;obtain⟨rfl,rfl,rfl⟩:=c;exact⟨[],none,0,rfl,zm,fun i=>by simp[nth],zm⟩;simp[Value.cells]at c;obtain⟨rfl,rfl,rfl⟩:=c;simp at Z;have L:(z.take len).length=len:=zso;simp only[Prod.mk.injEq]at K;have:=W (((lits (H:=H) .u8 (z.take len)).length+(lits (H:=H) .u8 (z.drop len)).length)*P.bytesOf T) (by rw[K.1];simp[DataW.weights,y]);rw[C]at this;simp only[lits,oG,ol,pc,reachBytes]at this;refine⟨z.take len,some a,cap,by rw[L],om,fun i=>?_,fun i J=>⟨a,rfl,?_⟩⟩;have:=range_u8 (zs:=z.take len) (fun n N=>G n (pJ N)) i;simpa[nth,List.getD_eq_getElem?_getD]using this;rw[e i om];simp only[nth];rw[List.getD_eq_getElem?_getD,List.getD_eq_getElem?_getD,List.getElem?_take_of_lt om]
end
end Go.Zz
