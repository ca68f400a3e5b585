/- The words of the walks: later worlds, slices of ints, boxes, bit operations behind names. -/
import Derived.WalkKit
import Derived.ProofKit
import Derived.OpenShut
import Derived.WalkSpells
import Derived.BigQuiet
import Derived.Deep.QuietTactic
import Derived.Outline
import Derived.Lib.Hide
import Derived.Laws.AppendOwnNone
import Derived.OneCell
import Derived.Test.YtjhoafjeopcheaaGreatGr1
set_option linter.all false
namespace Go.Zz
open Go.RowKit
variable{b n i s:Nat}{c r:Array Value}{p:Addr}{e U W w:World}{f:FuncId}{x:List Value}{v:Value}{l:LI}
abbrev vi(n:Int):Value:=.int .i64 n
abbrev aD(g i:Nat):Addr:=⟨g,i,none⟩
def Ext(w e:World):Prop:=Below w.heap.size w e
theorem Ext.refl(w:World):Ext w w:=Below.refl _ _
theorem Ext.trans{a b c:World}(h:Ext a b)(k:Ext b c):Ext a c:=Below.trans h (Below.mono k h.size)
theorem Ext.alloc{a:World}(h:Ext a w)(o:Obj):Ext a (w.alloc o):=Below.alloc h h.size o
theorem Ext.drew{a:World}(h:Ext a w):Ext a w.drew:=Below.drew h
theorem Ext.cell{a:World}(h:Ext a w)(H:a.cell? p=some v):w.cell? p=some v:=by
 rw[Below.cell h (World.block_lt_of_cell? a p H),H]
theorem Ext.size{a:World}(h:Ext a w):a.heap.size<=w.heap.size:=Below.size h
theorem Ext.setCell{a:World}(h:Ext a w)(H:a.heap.size<=p.block)(u:Value):Ext a (w.setCell p u):=Below.setCell h H u
def c8(w:World)(v:Value)(l:LI):Prop :=
 ∃(A:Option Addr) (c:Nat),v=.slice A l.length c/\l.length<=c/\l.length<=17592186044416 /\
  ∀i,i<l.length->∃a,A=some a/\w.cell? (a.add i)=some (vi (nth l i))
theorem c8.ext(h:c8 w v l)(E:Ext w e):c8 e v l:=by
 obtain⟨A,c,rfl,H,r,Y⟩:=h;refine⟨A,c,rfl,H,r,fun i J=>?_⟩;obtain⟨a,rfl,C⟩:=Y i J;exact⟨a,rfl,E.cell C⟩
theorem c8.nil(w:World):c8 w (.slice none 0 0) []:=⟨none,0,rfl,by simp,by simp,by simp⟩
theorem c8.op(h:c8 w v l):∃(A:Option Addr) (c:Nat) (d:Nat->Addr),v=.slice A l.length c/\l.length<=17592186044416 /\
  (∀i,i<l.length->A=some (d 0)/\d i=(d 0).add i) /\
  (∀i W,i<l.length->Ext w W->W.cell? (d i)=some (vi (nth l i))):=by
 obtain⟨A,c,rfl,U,r,H⟩:=h;refine⟨A,c,fun i=>(A.getD default).add i,rfl,by omega,fun i J=>?_,fun i W J D=>?_⟩
 . obtain⟨a,rfl,C⟩:=H i J;exact⟨by simp[Addr.add],by simp[Addr.add]⟩
 . obtain⟨a,rfl,C⟩:=H i J;exact D.cell (by simpa using C)
theorem j2{P:Program}{t:TypeId}{ao:Option Addr}{c:Nat}{adr:Nat->Addr}(H:P.underlying t=some (.slice (P.elem t)))(S:∀w,(sizeOf (P.elem t)).run P w=.ok 1 w)
 (h:∀i,i<n->ao=some (adr 0)/\adr i=(adr 0).add i) :
 ∀(i:Nat) W,i<n->(Instr.indexAt t (.slice ao n c) (vi (i:Int))).run P W=.ok (.pointer (some (adr i))) W:=by
 intro i W J;obtain⟨rfl,e⟩:=h i J;rw[run_indexAt_slice (h:=H),if_pos (by omega),S];simp[Result.andThen,e]
theorem d8(w:World)(v:Value)(T:TypeId):∀W,Ext (w.alloc (.cells #[v] T)) W->W.cell? (aD w.heap.size 0)=some v:=by
 intro W h;exact h.cell (by simp[go_sem])
def Blk(w:World)(b:Nat)(T:TypeId)(c:Array Value):Prop:=w.heap[b]?=some (.cells c T (0,0))
theorem Blk.lt{T:TypeId}(h:Blk w b T c):b<w.heap.size:=(Array.getElem?_eq_some_iff.1 h).1
theorem Blk.cell{T:TypeId}(h:Blk w b T c)(J:c[i]?=some v):w.cell? (aD b i)=some v:=by
 have H:w.heap[b]?=some (.cells c T (0,0)):=h;simp[World.cell?,H,J]
theorem Blk.free{T:TypeId}(h:Blk w b T c)(i:Nat):w.frozen? (aD b i)=false:=by
 have H:w.heap[b]?=some (.cells c T (0,0)):=h;simp[World.frozen?,H]
theorem Blk.ext{T:TypeId}(h:Blk w b T c)(E:Ext w e):Blk e b T c:=by
 unfold Blk;rw[E.block b h.lt];exact h
theorem Blk.new(w:World)(T:TypeId)(c:Array Value):Blk (w.alloc (.cells c T)) w.heap.size T c:=by
 show(w.heap.push (Obj.cells c T))[w.heap.size]?=_;rw[Array.getElem?_push_size]
theorem Blk.alloc{T:TypeId}(h:Blk w b T c)(o:Obj):Blk (w.alloc o) b T c:=h.ext ((Ext.refl w).alloc o)
theorem Blk.set{T:TypeId}(h:Blk w b T c)(i:Nat)(v:Value):Blk (w.setCell (aD b i) v) b T (c.setIfInBounds i v):=by
 have U:=h.lt;have H:w.heap[b]=.cells c T (0,0):=by have:=h;unfold Blk at this;simpa[Array.getElem?_eq_getElem U]using this
 show(w.heap.modify b _)[b]?=_;rw[Array.getElem?_eq_getElem (by simpa using U),Array.getElem_modify_self,H];rfl
theorem Blk.other{T:TypeId}(h:Blk w b T c)(H:b≠p.block)(v:Value):Blk (w.setCell p v) b T c:=by
 unfold Blk;rw[Below.heap_setCell _ _ _ _ H];exact h
theorem Blk.drew{T:TypeId}(h:Blk w b T c):Blk w.drew b T c:=h
theorem da2(h:w.cell? p=some v):∀W,Ext w W->W.cell? p=some v:=fun _ D=>D.cell h
structure IntSl(P:Program)(T TI:TypeId):Prop where
 und:P.underlying T=some (.slice TI)
 info:∃i,P.info? TI=some i/\i.zero=some (vi 0)/\i.size=1/\i.bytes=8
def Own(TI:TypeId)(W w:World)(v:Value)(l:LI):Prop :=
 w.ownsRow W.heap.size TI 1 v l.length (l.map (Value.int .i64))/\l.length<=17592186044416
theorem X7{B:Nat}{e:TypeId}(h:w.ownsRow B e s v n x)(C:b<=B):w.ownsRow b e s v n x:=by
 obtain⟨U,r⟩:=h;refine⟨U,?_⟩;rcases r with r|⟨g,cap,c,V,H,R⟩;exact Or.inl r;exact Or.inr ⟨g,cap,c,V,Nat.le_trans C H,R⟩
theorem Own.mono{TI:TypeId}{G:World}(h:Own TI G w v l)(E:Ext W G):Own TI W w v l:=⟨X7 h.1 E.size,h.2⟩
theorem Own.nil(TI:TypeId)(W w:World):Own TI W w (.slice none 0 0) []:=⟨World.ownsRow_nil _ _ _ _,by simp⟩
theorem Own.alloc{TI:TypeId}(h:Own TI W w v l)(o:Obj):Own TI W (w.alloc o) v l:=⟨h.1.alloc o,h.2⟩
theorem Own.drew{TI:TypeId}(h:Own TI W w v l):Own TI W w.drew v l:=h
theorem Own.blk{TI:TypeId}(h:Own TI W w v l):∀k,v.ownBlock=some k->W.heap.size<=k/\k<w.heap.size:=h.1.lt
theorem zz134{P:Prop}(h:P:=by refine⟨h.1.kept (row:=none) ⟨E.os,E.tape,E.output,E.size,fun k V _=>E.block k V⟩ ?_,h.2⟩;cases H:v.ownBlock<;>simp):P:=h
theorem Own.ext{TI:TypeId}(h:Own TI W w v l)(E:Ext w e):Own TI W e v l:=by
 exact zz134
theorem Ext.grown{a:World}{row:Option Nat}(h:Ext a w)(H:w.grownBy e row)(r:∀k,row=some k->a.heap.size<=k):Ext a e:=Below.grown h H h.size r
theorem Own.shape{TI:TypeId}(h:Own TI W w v l):∃(A:Option Addr) (c:Nat),v=.slice A l.length c/\l.length<=c/\(∀a,A=some a->∃g,a=(aD g 0)/\W.heap.size<=g/\g<w.heap.size) /\
  (∀i,i<l.length->∃g,A=some (aD g 0)/\w.cell? (aD g i)=some (vi (nth l i))/\w.frozen? (aD g i)=false):=by
 obtain⟨U,r⟩:=h;rcases U.2 with⟨rfl,L⟩|⟨g,cap,u,rfl,H,b,C,R⟩
 . exact⟨none,0,by rw[L],by omega,by simp,by omega⟩
 . refine⟨some (aD g 0),cap,rfl,C,fun a M=>⟨g,by simpa using M.symm,H,(Array.getElem?_eq_some_iff.1 b).1⟩,fun i J=>⟨g,rfl,?_,World.ownsRow.frozenAt U i⟩⟩;rw[World.ownsRow.cellAt U i (by omega)];simp[nth,List.getD,J]
theorem Own.ints{TI:TypeId}(h:Own TI W w v l):c8 w v l:=by
 obtain⟨A,c,rfl,H,_,r⟩:=h.shape;refine⟨A,c,rfl,H,h.2,fun i J=>?_⟩;obtain⟨g,rfl,C,_⟩:=r i J;exact⟨_,rfl,by rw[Addr.add_lit];simpa using C⟩
theorem l9{TI:TypeId}(h:n<=17592186044416)(E:Ext W w)(l:LI)(H:l.length=n):Own TI W (w.alloc (.cells (l.map (Value.int .i64)).toArray TI)) (.slice (some (aD w.heap.size 0)) n n) l:=by
 subst H;have:=World.ownsRow_lit (base:=W.heap.size) (e:=TI) (size:=1) w (l.map (Value.int .i64)).toArray l.length E.size (by unfold maxLen;omega) (by simp);exact⟨by simpa using this,h⟩
section
variable {P:Program} {ops:Array Oper} {rest:List Oper} {o:Oper} {a:Act} {Q:Exit->Act->World->Prop} {T TI:TypeId}
theorem p6(h:IntSl P T TI)(H:o.guard=none)(s x:Operand)(p:o.op=Op.call { callee:=Callee.builtin Builtin.append,args:=#[s,x],argTypes:=#[T,T] })
 (w W:World) (v:Value) (l:LI) (y:Int) (O:Own TI w W v l) (E:Ext w W) (N:l.length<17592186044416) (S:a.eval s=v) (K:a.eval x=.slice (some (aD W.heap.size 0)) 1 1)
 (X:∀R e,Own TI w e R (l++[y])->Ext w e->wpList P ops Q rest (a.put o.dst R) e) :
 wpList P ops Q (o :: rest) a (W.alloc (.cells #[vi y] TI)):=by
 obtain⟨i,J,Z,n,b⟩:=h.info;refine wpList_append_own _ H s x T p w.heap.size TI i (vi 0) 1 8 h.und J Z n b rfl (by omega) v l.length _ S (O.alloc _).1 (aD W.heap.size 0) 1 1 [vi y] K rfl ?_ (by simp[Value.oneCell']) (by unfold maxLen;omega) (by omega) (by have:=E.size;simp;omega) ?_;exact cell_one_new _ _ _;intro R e U g _;have z:=E.alloc (.cells #[vi y] TI);refine X R e ⟨by simpa using U,by simp;omega⟩ (z.grown g fun k V=>(O.blk k V).1)
theorem F7(t:IntSl P T TI)(H:o.guard=none)(s x:Operand)(p:o.op=Op.call { callee:=Callee.builtin Builtin.append,args:=#[s,x],argTypes:=#[T,T] })
 (W w:World) (v u:Value) (l m:LI) (O:Own TI W w v l) (I:c8 w u m) (E:Ext W w) (F:l.length+m.length<=17592186044416) (S:a.eval s=v) (K:a.eval x=u)
 (U:∀R e,Own TI W e R (l++m)->Ext W e->wpList P ops Q rest (a.put o.dst R) e) :
 wpList P ops Q (o :: rest) a w:=by
 obtain⟨i,J,z,q,b⟩:=t.info;obtain⟨n,c,rfl,ha,_,C⟩:=I;cases n with
 |some ad =>
  refine wpList_append_own _ H s x T p W.heap.size TI i (vi 0) 1 8 t.und J z q b rfl (by omega) v l.length _ S O.1 ad m.length c (m.map (Value.int .i64)) K (by simp) ?_ (ints_oneCell _ _) (by unfold maxLen;omega) (by omega) E.size ?_
  . intro j u A;have f:j<m.length:=(by have:=(List.getElem?_eq_some_iff.1 A).1;simpa using this);obtain⟨a',D,d⟩:=C j f;cases D;rw[d,<-A,bk9 _ _ f];simp[f]
  . intro R e X G _;refine U R e ⟨by simpa using X,by simp;omega⟩ (E.grown G fun k V=>(O.blk k V).1)
 | none =>
  have M:m=[]:=by
   cases m with
   |nil=>rfl
   |cons y m=>obtain⟨_,h,_⟩:=C 0 (by simp);cases h
  subst M;by_cases Y:c=0
  . subst Y;refine wpList_append_own_none H s x T p W.heap.size TI i 1 t.und J v l.length _ S O.1 K ?_;exact U _ _ (by simpa using O) E
  . refine wpList_plain H fun L B=>?_;have N:(Builtin.append_ #[T,T] o.type #[v,.slice none 0 c]).run P w=.ok v w:=by
     have r:=run_append_owned_none (P:=P) w W.heap.size T o.type TI i 1 t.und J v l.length _ O.1;rw[<-r];rcases O.1.2 with⟨rfl,_⟩|⟨g,cap,cr,rfl,_,_,Z,_⟩
     . simp[Builtin.append_,run_underlying t.und,sizeOf,typeInfo,J,Builtin.lenOf,Builtin.firstCells]
     . simp[Builtin.append_,run_underlying t.und,sizeOf,typeInfo,J,Builtin.lenOf,Builtin.firstCells,Z]
    unfold Oper.wp;simp[execOp,p,resolve,invoke,builtin,S,K,N,Result.andThen];exact B _ _ (U _ _ (by simpa using O) E)
theorem b10(t:IntSl P T TI)(H:o.guard=none)(x y:Operand)(p:o.op=Op.makeSlice T x y)
 (h w:World) (n:Nat) (K:a.eval x=vi n) (Y:a.eval y=vi n) (N:n<=17592186044416) (E:Ext h w)
 (V:∀W,Own TI h W (.slice (some (aD w.heap.size 0)) n n) (List.replicate n 0)->Ext h W->wpList P ops Q rest (a.put o.dst (.slice (some (aD w.heap.size 0)) n n)) W) :
 wpList P ops Q (o :: rest) a w:=by
 obtain⟨i,J,z,s,b⟩:=t.info;refine wpList_make_full _ H x y T p h.heap.size TI i (vi 0) 1 t.und J z s .i64 .i64 n n n K Y rfl rfl (by rw[b];omega) (by unfold maxLen;omega) E.size ?_;intro W U g;refine V W ⟨?_,by simpa using N⟩ (E.grown g (by simp));have e:(madeCells (Value.int IntKind.i64 0).cells (n*1)).toList=(List.replicate n (0:Int)).map (Value.int .i64):=by
  simp[madeCells,Value.cells];apply List.ext_getElem;simp;intro k U r;simp[Nat.mod_one]
 rw[e]at U;simpa using U
end
theorem Own.stored{TI:TypeId}{g c:Nat}(h:Own TI W w (.slice (some (aD g 0)) l.length c) l)(j:Nat)(y:Int):Own TI W (w.setCell (aD g j) (vi y)) (.slice (some (aD g 0)) l.length c) (l.set j y):=by
 have H:=(World.ownsRow.stored h.1 j (vi y)).1;refine⟨?_,by simpa using h.2⟩;simpa[List.map_set]using H
theorem Own.setCell_below{TI:TypeId}(h:Own TI W w v l)(H:p.block<W.heap.size)(u:Value):Own TI W (w.setCell p u) v l :=
 ⟨ownsRow_setCell_below h.1 H u,h.2⟩
open Classical in
noncomputable def Lat (w0 U:World):World:=if Ext w0 U then U else w0
theorem c9(w U:World):Ext w (Lat w U):=by
 unfold Lat;split;assumption;exact Ext.refl _
theorem Ext.lat(h:Ext w U):U=Lat w U:=by unfold Lat;rw[if_pos h]
theorem d6{P:Program}{d:Nat}{Q:Exit->Act->World->Prop}{a:Act}{l:List Oper}(i:World)(m:P.follows .mixedOrders=true)(B:Region.lexB .any l.toArray=true)(E:Ext i w)
 (h:wpQuiet P l.toArray (fun W=>∃U,W=Lat i U) (fun A=>∀e,(∃U,e=Lat i U)->Q .normal A e) l a):(Code.region d l.toArray true).wp P Q a w :=
 wp_region_quiet (C:=fun W=>∃U,W=Lat i U) m B ⟨_,(E.drew).lat⟩ (by simpa using h)
theorem Calls.lat{P:Program}
 (h:Calls P f r (Lat w U) fun e W=>e=.returned v/\Ext (Lat w U) W):Calls P f r (Lat w U) fun e W=>e=.returned v/\∃u,W=Lat w u :=
 h.mono fun _ _ ⟨H,E⟩=>⟨H,_,((c9 w U).trans E).lat⟩
theorem Calls.lat_same{P:Program}
 (h:Calls P f r (Lat w U) fun e W=>e=.returned v/\Lat w U=W):Calls P f r (Lat w U) fun e W=>e=.returned v/\∃u,W=Lat w u :=
 h.mono fun _ _ ⟨H,E⟩=>⟨H,U,E.symm⟩
theorem j4(h:∃U,w=Lat W U):Ext W w:=by obtain⟨U,rfl⟩:=h;exact c9 _ _
def jm1(x y:Int):Int:=IntKind.i64.wrap (x*2^min y.toNat 64)
def c12(x y:Int):Int:=x/2^min y.toNat 64
def b13(x y:Int):Int:=bits .and .i64 x y
def ior(x y:Int):Int:=bits .or .i64 x y
def dn7(x y:Int):Int:=bits .andNot .i64 x y
@[go_sem high] theorem intBits_and_i (x y:Int):Op.intBits .and .i64 x y=pure (vi (b13 x y)):=rfl
@[go_sem high] theorem intBits_or_i (x y:Int):Op.intBits .or .i64 x y=pure (vi (ior x y)):=rfl
@[go_sem high] theorem intBits_andn_i (x y:Int):Op.intBits .andNot .i64 x y=pure (vi (dn7 x y)):=rfl
@[go_sem ↓ high] theorem shift_shl_i (k:IntKind) (x y:Int) (h:0<=y):Op.shift .shl .i64 x k y=pure (vi (jm1 x y)):=shift_shl_any .i64 k x y h
@[go_sem ↓ high] theorem shift_shr_i (k:IntKind) (x y:Int) (h:0<=y):Op.shift .shr .i64 x k y=pure (vi (c12 x y)):=shift_shr_any .i64 k x y h
theorem bl8(h:n<2^63):IntKind.i64.wrap (n:Int)=n:=by
 apply IntWalk.i64_in;have:(2:Nat)^63=9223372036854775808:=by decide
 omega
theorem c29{a:Nat}(h:a<2^63):(BitVec.ofInt IntKind.i64.bits (a:Int)).toNat=a:=by
 have:(2:Nat)^63=9223372036854775808:=by decide
 show(BitVec.ofInt 64 (a:Int)).toNat=a;rw[BitVec.ofInt_natCast,BitVec.toNat_ofNat];exact qn (by omega)
theorem b95{a:Nat}(h:a<2^63)(C:b<2^63):b13 a b=((a &&& b:Nat):Int):=by
 show IntKind.i64.wrap ((BitVec.ofInt IntKind.i64.bits (a:Int) &&& BitVec.ofInt IntKind.i64.bits (b:Int)).toNat:Int)=_;rw[BitVec.toNat_and,c29 h,c29 C,bl8 (Nat.and_lt_two_pow _ C)]
theorem R5{a:Nat}(h:a<2^63)(C:b<2^63):ior a b=((a ||| b:Nat):Int):=by
 show IntKind.i64.wrap ((BitVec.ofInt IntKind.i64.bits (a:Int) ||| BitVec.ofInt IntKind.i64.bits (b:Int)).toNat:Int)=_;rw[BitVec.toNat_or,c29 h,c29 C,bl8 (ox h C)]
theorem o6(h:n<=62):jm1 1 n=((pw n:Nat):Int):=by
 unfold jm1 pw;have H:min (n:Int).toNat 64=n:=by rw[oY];omega
 have r:(2:Nat)^n<2^63:=oJ (by omega) (by omega);rw[H,Int.one_mul,show((2:Int)^n)=((2^n:Nat):Int) by simp,bl8 r]
theorem R0{a:Nat}(h:n<=64):c12 a n=((shr a n:Nat):Int):=by
 unfold c12 shr;have H:min (n:Int).toNat 64=n:=by rw[oY];omega
 rw[H,pD,qa];simp
theorem Z5{a:Nat}(h:a<2^63):b13 a 1=((a%2:Nat):Int):=by
 rw[show(1:Int)=((1:Nat):Int)from rfl,b95 h (by decide),Nat.and_one_is_mod]
theorem l39{a:Nat}(A:a<2^63)(h:n<=64):(b13 (c12 a n) 1 == 1)=a.testBit n:=by
 have H:shr a n<2^63:=qG (cl2 _ _) A;rw[R0 h,Z5 H,pR,<-pD];unfold shr;by_cases h:a >>> n%2=1;rw[h];simp;have:a >>> n%2=0:=(by omega);rw[this];simp
theorem b16{a:Nat}(H:a<2^63)(h:n<=64):(b13 ((shr a n:Nat):Int) 1 == 1)=a.testBit n:=by
 rw[<-R0 h];exact l39 H h
theorem H9{o z:Nat}(H:o<2^24)(h:z<24):ior (o:Int) ((pw z:Nat):Int)=((o ||| 2^z:Nat):Int):=by
 have:pw z<2^24:=oJ (by omega) h;rw[R5 (by omega) (by omega)];rfl
theorem dj2(h:¬n=0):((n:Int) != 0)=true:=by simp;omega
theorem j1{a b:Bool}(h:a=b):Ending.returned (.bool a)=Ending.returned (.bool b):=by rw[h]
theorem o3{a b:Int}(h:a=b):Ending.returned (vi a)=Ending.returned (vi b):=by rw[h]
theorem j5{a b:Ba}(h:a=b):Ending.returned (.string a)=Ending.returned (.string b):=by rw[h]
end Go.Zz
