/- The words of the walks: later worlds, slices of ints, boxes, bit operations behind names. -/
import Derived.WalkKit
import Derived.ProofKit
import Derived.OpenShut
import Derived.WalkSpells
import Derived.BigQuiet
import Derived.Deep.QuietTactic
import Derived.Outline
import Derived.Lib.Hide
import Derived.Laws.AppendOwnNone
import Derived.OneCell
import Derived.Test.YtnnbhcalddkmmaaGreatGr1
set_option linter.unusedSimpArgs false
set_option linter.unusedVariables false
set_option linter.unnecessarySimpa false
namespace Go.Zz
open Go.RowKit
def Ext(w w':World):Prop:=Below w.heap.size w w'
theorem Ext.refl(w:World):Ext w w:=Below.refl _ _
theorem Ext.trans{a b c:World}(h:Ext a b)(k:Ext b c):Ext a c:=Below.trans h (Below.mono k h.size)
theorem Ext.alloc{a w:World}(h:Ext a w)(o:Obj):Ext a (w.alloc o):=Below.alloc h h.size o
theorem Ext.drew{a w:World}(h:Ext a w):Ext a w.drew:=Below.drew h
theorem Ext.cell{a w:World}(h:Ext a w){p:Addr}{v:Value}(hp:a.cell? p=some v):w.cell? p=some v:=by
 rw[Below.cell h (World.block_lt_of_cell? a p hp),hp]
theorem Ext.size{a w:World}(h:Ext a w):a.heap.size<=w.heap.size:=Below.size h
theorem Ext.setCell{a w:World}(h:Ext a w){p:Addr}(hp:a.heap.size<=p.block)(u:Value):Ext a (w.setCell p u):=Below.setCell h hp u
def c9(w:World)(v:Value)(l:List Int):Prop :=
 ∃(ao:Option Addr) (c:Nat),v=.slice ao l.length c∧l.length<=c∧l.length<=17592186044416 ∧
  ∀i,i<l.length->∃a,ao=some a∧w.cell? (a.add i)=some (.int .i64 (nth l i))
theorem zz153{P:Prop}(h:P:=by obtain⟨ao,c,rfl,h1,h2,h3⟩:=h;refine⟨ao,c,rfl,h1,h2,fun i hi=>?_⟩;obtain⟨a,rfl,hc⟩:=h3 i hi;exact⟨a,rfl,hE.cell hc⟩):P:=h
theorem c9.ext{w w':World}{v:Value}{l:List Int}(h:c9 w v l)(hE:Ext w w'):c9 w' v l:=by
 exact zz153
theorem c9.nil(w:World):c9 w (.slice none 0 0) []:=⟨none,0,rfl,by simp,by simp,by simp⟩
theorem c9.op{w:World}{v:Value}{l:List Int}(h:c9 w v l) :
 ∃(ao:Option Addr) (c:Nat) (adr:Nat->Addr),v=.slice ao l.length c∧l.length<=17592186044416 ∧
  (∀i,i<l.length->ao=some (adr 0)∧adr i=(adr 0).add i) ∧
  (∀i W,i<l.length->Ext w W->W.cell? (adr i)=some (.int .i64 (nth l i))):=by
 obtain⟨ao,c,rfl,h1,h2,h3⟩:=h
 refine⟨ao,c,fun i=>(ao.getD default).add i,rfl,by omega,fun i hi=>?_,fun i W hi hW=>?_⟩
 . obtain⟨a,rfl,hc⟩:=h3 i hi
   exact⟨by simp[Addr.add],by simp[Addr.add]⟩
 . obtain⟨a,rfl,hc⟩:=h3 i hi
   exact hW.cell (by simpa using hc)
theorem j3{P:Program}{t:TypeId}{ao:Option Addr}{n c:Nat}{adr:Nat->Addr}(ht:P.underlying t=some (.slice (P.elem t)))(hs:∀w,(sizeOf (P.elem t)).run P w=.ok 1 w)
 (h:∀i,i<n->ao=some (adr 0)∧adr i=(adr 0).add i) :
 ∀(i:Nat) W,i<n->(Instr.indexAt t (.slice ao n c) (.int .i64 (i:Int))).run P W=.ok (.pointer (some (adr i))) W:=by
 intro i W hi;obtain⟨rfl,e⟩:=h i hi;rw[run_indexAt_slice (h:=ht),if_pos (by omega),hs];simp[Result.andThen,e]
theorem j0(w:World)(v:Value)(T:TypeId):∀W,Ext (w.alloc (.cells #[v] T)) W->W.cell? ⟨w.heap.size,0,none⟩=some v:=by
 intro W h;exact h.cell (by simp[go_sem])
def Blk(w:World)(b:Nat)(T:TypeId)(cs:Array Value):Prop:=w.heap[b]?=some (.cells cs T (0,0))
theorem Blk.lt{w:World}{b:Nat}{T:TypeId}{cs:Array Value}(h:Blk w b T cs):b<w.heap.size:=(Array.getElem?_eq_some_iff.1 h).1
theorem Blk.cell{w:World}{b:Nat}{T:TypeId}{cs:Array Value}(h:Blk w b T cs){i:Nat}{v:Value}(hi:cs[i]?=some v):w.cell? ⟨b,i,none⟩=some v:=by
 have h':w.heap[b]?=some (.cells cs T (0,0)):=h;simp[World.cell?,h',hi]
theorem Blk.free{w:World}{b:Nat}{T:TypeId}{cs:Array Value}(h:Blk w b T cs)(i:Nat):w.frozen? ⟨b,i,none⟩=false:=by
 have h':w.heap[b]?=some (.cells cs T (0,0)):=h;simp[World.frozen?,h']
theorem Blk.ext{w w':World}{b:Nat}{T:TypeId}{cs:Array Value}(h:Blk w b T cs)(hE:Ext w w'):Blk w' b T cs:=by
 unfold Blk;rw[hE.block b h.lt];exact h
theorem Blk.new(w:World)(T:TypeId)(cs:Array Value):Blk (w.alloc (.cells cs T)) w.heap.size T cs:=by
 show (w.heap.push (Obj.cells cs T))[w.heap.size]?=_;rw[Array.getElem?_push_size]
theorem Blk.alloc{w:World}{b:Nat}{T:TypeId}{cs:Array Value}(h:Blk w b T cs)(o:Obj):Blk (w.alloc o) b T cs:=h.ext ((Ext.refl w).alloc o)
theorem Blk.set{w:World}{b:Nat}{T:TypeId}{cs:Array Value}(h:Blk w b T cs)(i:Nat)(v:Value):Blk (w.setCell ⟨b,i,none⟩ v) b T (cs.setIfInBounds i v):=by
 have hlt:=h.lt;have h':w.heap[b]=.cells cs T (0,0):=by have:=h;unfold Blk at this;simpa[Array.getElem?_eq_getElem hlt] using this
 show (w.heap.modify b _)[b]?=_;rw[Array.getElem?_eq_getElem (by simpa using hlt),Array.getElem_modify_self,h'];rfl
theorem Blk.other{w:World}{b:Nat}{T:TypeId}{cs:Array Value}(h:Blk w b T cs){p:Addr}(hp:b≠p.block)(v:Value):Blk (w.setCell p v) b T cs:=by
 unfold Blk;rw[Below.heap_setCell _ _ _ _ hp];exact h
theorem Blk.drew{w:World}{b:Nat}{T:TypeId}{cs:Array Value}(h:Blk w b T cs):Blk w.drew b T cs:=h
theorem cr2{w:World}{p:Addr}{v:Value}(h:w.cell? p=some v):∀W,Ext w W->W.cell? p=some v:=fun _ hW=>hW.cell h
structure IntSl(P:Program)(T TI:TypeId):Prop where
 und:P.underlying T=some (.slice TI)
 info:∃i,P.info? TI=some i∧i.zero=some (.int .i64 0)∧i.size=1∧i.bytes=8
def Own(TI:TypeId)(w0 w:World)(v:Value)(l:List Int):Prop :=
 w.ownsRow w0.heap.size TI 1 v l.length (l.map (Value.int .i64))∧l.length<=17592186044416
theorem R0{w:World}{B B':Nat}{e:TypeId}{s:Nat}{v:Value}{n:Nat}{xs:List Value}(h:w.ownsRow B e s v n xs)(hB:B'<=B):w.ownsRow B' e s v n xs:=by
 obtain⟨h1,h2⟩:=h;refine⟨h1,?_⟩;rcases h2 with h2 | ⟨g,cap,cur,hv,hg,r⟩
 . exact Or.inl h2
 . exact Or.inr ⟨g,cap,cur,hv,Nat.le_trans hB hg,r⟩
theorem Own.mono{TI:TypeId}{w0 w1 w:World}{v:Value}{l:List Int}(h:Own TI w1 w v l)(hE:Ext w0 w1):Own TI w0 w v l:=⟨R0 h.1 hE.size,h.2⟩
theorem Own.nil(TI:TypeId)(w0 w:World):Own TI w0 w (.slice none 0 0) []:=⟨World.ownsRow_nil _ _ _ _,by simp⟩
theorem Own.alloc{TI:TypeId}{w0 w:World}{v:Value}{l:List Int}(h:Own TI w0 w v l)(o:Obj):Own TI w0 (w.alloc o) v l:=⟨h.1.alloc o,h.2⟩
theorem Own.drew{TI:TypeId}{w0 w:World}{v:Value}{l:List Int}(h:Own TI w0 w v l):Own TI w0 w.drew v l:=h
theorem Own.blk{TI:TypeId}{w0 w:World}{v:Value}{l:List Int}(h:Own TI w0 w v l):∀k,v.ownBlock=some k->w0.heap.size<=k∧k<w.heap.size:=h.1.lt
theorem zz152{P:Prop}(h:P:=by refine⟨h.1.kept (row:=none) ⟨hE.os,hE.tape,hE.output,hE.size,fun k hk _=>hE.block k hk⟩ ?_,h.2⟩;cases hv:v.ownBlock<;>simp):P:=h
theorem Own.ext{TI:TypeId}{w0 w w':World}{v:Value}{l:List Int}(h:Own TI w0 w v l)(hE:Ext w w'):Own TI w0 w' v l:=by
 exact zz152
theorem Ext.grown{a w w':World}{row:Option Nat}(h:Ext a w)(hg:w.grownBy w' row)(hr:∀k,row=some k->a.heap.size<=k):Ext a w':=Below.grown h hg h.size hr
theorem Own.shape{TI:TypeId}{w0 w:World}{v:Value}{l:List Int}(h:Own TI w0 w v l) :
 ∃(ao:Option Addr) (c:Nat),v=.slice ao l.length c∧l.length<=c∧(∀a,ao=some a->∃g,a=⟨g,0,none⟩∧w0.heap.size<=g∧g<w.heap.size) ∧
  (∀i,i<l.length->∃g,ao=some ⟨g,0,none⟩∧w.cell? ⟨g,i,none⟩=some (.int .i64 (nth l i))∧w.frozen? ⟨g,i,none⟩=false):=by
 obtain⟨h1,h2⟩:=h
 rcases h1.2 with ⟨rfl,hl⟩ | ⟨g,cap,cur,rfl,hg,hh,hc,r⟩
 . exact⟨none,0,by rw[hl],by omega,by simp,by omega⟩
 . refine⟨some ⟨g,0,none⟩,cap,rfl,hc,fun a ha=>⟨g,by simpa using ha.symm,hg,(Array.getElem?_eq_some_iff.1 hh).1⟩,fun i hi=>⟨g,rfl,?_,World.ownsRow.frozenAt h1 i⟩⟩
   rw[World.ownsRow.cellAt h1 i (by omega)]
   simp[nth,List.getD,hi]
theorem Own.ints{TI:TypeId}{w0 w:World}{v:Value}{l:List Int}(h:Own TI w0 w v l):c9 w v l:=by
 obtain⟨ao,c,rfl,h1,_,h2⟩:=h.shape;refine⟨ao,c,rfl,h1,h.2,fun i hi=>?_⟩;obtain⟨g,rfl,hc,_⟩:=h2 i hi;exact⟨_,rfl,by rw[Addr.add_lit];simpa using hc⟩
theorem m7{TI:TypeId}{w0 w:World}{n:Nat}(hn:n<=17592186044416)(hE:Ext w0 w)(l:List Int)(hl:l.length=n) :
 Own TI w0 (w.alloc (.cells (l.map (Value.int .i64)).toArray TI)) (.slice (some ⟨w.heap.size,0,none⟩) n n) l:=by
 subst hl;have:=World.ownsRow_lit (base:=w0.heap.size) (e:=TI) (size:=1) w (l.map (Value.int .i64)).toArray l.length hE.size (by unfold maxLen;omega) (by simp);exact⟨by simpa using this,hn⟩
section
variable {P:Program} {ops:Array Oper} {rest:List Oper} {o:Oper} {a:Act} {Q:Exit->Act->World->Prop} {T TI:TypeId}
theorem zz109{P:Prop}(h:P:=by refine hK v' w' ⟨by simpa using h1,by simp;omega⟩ (hE1.grown hg' fun k hk=>(hO.blk k hk).1)):P:=h
theorem A6(hT:IntSl P T TI)(hg:o.guard=none)(s x:Operand)(hop:o.op=Op.call { callee:=Callee.builtin Builtin.append,args:=#[s,x],argTypes:=#[T,T] })
 (w0 W:World) (v:Value) (l:List Int) (y:Int) (hO:Own TI w0 W v l) (hE:Ext w0 W) (hn:l.length<17592186044416) (hs:a.eval s=v) (hx:a.eval x=.slice (some ⟨W.heap.size,0,none⟩) 1 1)
 (hK:∀v' w',Own TI w0 w' v' (l++[y])->Ext w0 w'->wpList P ops Q rest (a.put o.dst v') w') :
 wpList P ops Q (o :: rest) a (W.alloc (.cells #[.int .i64 y] TI)):=by
 obtain⟨i,hi,hz,hs1,hby⟩:=hT.info;refine wpList_append_own _ hg s x T hop w0.heap.size TI i (.int .i64 0) 1 8 hT.und hi hz hs1 hby rfl (by omega) v l.length _ hs (hO.alloc _).1 ⟨W.heap.size,0,none⟩ 1 1 [.int .i64 y] hx rfl ?_ (by simp[Value.oneCell']) (by unfold maxLen;omega) (by omega) (by have:=hE.size;simp;omega) ?_
 . exact cell_one_new _ _ _
 . intro v' w' h1 hg' _;have hE1:=hE.alloc (.cells #[.int .i64 y] TI);exact zz109
theorem zz116{P:Prop}(h:P:=by intro j u hu;have hj:j<m.length:=(by have:=(List.getElem?_eq_some_iff.1 hu).1;simpa using this);obtain⟨a',ha',hc'⟩:=hc j hj;cases ha';rw[hc',<-hu,bc2 _ _ hj];simp[hj]):P:=h
theorem zz186{P:Prop}(h:P:=by simp[Builtin.append_,run_underlying hT.und,sizeOf,typeInfo,hi,Builtin.lenOf,Builtin.firstCells]):P:=h
theorem I2(hT:IntSl P T TI)(hg:o.guard=none)(s x:Operand)(hop:o.op=Op.call { callee:=Callee.builtin Builtin.append,args:=#[s,x],argTypes:=#[T,T] })
 (w0 w:World) (v u:Value) (l m:List Int) (hO:Own TI w0 w v l) (hI:c9 w u m) (hE:Ext w0 w) (hn:l.length+m.length<=17592186044416) (hs:a.eval s=v) (hx:a.eval x=u)
 (hK:∀v' w',Own TI w0 w' v' (l++m)->Ext w0 w'->wpList P ops Q rest (a.put o.dst v') w') :
 wpList P ops Q (o :: rest) a w:=by
 obtain⟨i,hi,hz,hs1,hby⟩:=hT.info;obtain⟨ao,c,rfl,hmc,_,hc⟩:=hI;cases ao with
 | some ad =>
  refine wpList_append_own _ hg s x T hop w0.heap.size TI i (.int .i64 0) 1 8 hT.und hi hz hs1 hby rfl (by omega) v l.length _ hs hO.1 ad m.length c (m.map (Value.int .i64)) hx (by simp) ?_ (ints_oneCell _ _) (by unfold maxLen;omega) (by omega) hE.size ?_
  . exact zz116
  . intro v' w' h1 hg' _;refine hK v' w' ⟨by simpa using h1,by simp;omega⟩ (hE.grown hg' fun k hk=>(hO.blk k hk).1)
 | none =>
  have hm:m=[]:=by
   cases m with
   | nil=>rfl
   | cons y m=>obtain⟨_,h,_⟩:=hc 0 (by simp);cases h
  subst hm;by_cases h0:c=0
  . subst h0;refine wpList_append_own_none hg s x T hop w0.heap.size TI i 1 hT.und hi v l.length _ hs hO.1 hx ?_;exact hK _ _ (by simpa using hO) hE
  . refine wpList_plain hg fun K hK'=>?_;have hrun:(Builtin.append_ #[T,T] o.type #[v,.slice none 0 c]).run P w=.ok v w:=by
     have h2:=run_append_owned_none (P:=P) w w0.heap.size T o.type TI i 1 hT.und hi v l.length _ hO.1;rw[<-h2];rcases hO.1.2 with ⟨rfl,_⟩ | ⟨g,cap,cur,rfl,_,_,hnc,_⟩
     . exact zz186
     . simp[Builtin.append_,run_underlying hT.und,sizeOf,typeInfo,hi,Builtin.lenOf,Builtin.firstCells,hnc]
    unfold Oper.wp;simp[execOp,hop,resolve,invoke,builtin,hs,hx,hrun,Result.andThen];exact hK' _ _ (hK _ _ (by simpa using hO) hE)
theorem X5(hT:IntSl P T TI)(hg:o.guard=none)(x y:Operand)(hop:o.op=Op.makeSlice T x y)
 (w0 w:World) (n:Nat) (hx:a.eval x=.int .i64 n) (hy:a.eval y=.int .i64 n) (hn:n<=17592186044416) (hE:Ext w0 w)
 (hK:∀w',Own TI w0 w' (.slice (some ⟨w.heap.size,0,none⟩) n n) (List.replicate n 0)->Ext w0 w'->wpList P ops Q rest (a.put o.dst (.slice (some ⟨w.heap.size,0,none⟩) n n)) w') :
 wpList P ops Q (o :: rest) a w:=by
 obtain⟨i,hi,hz,hs1,hby⟩:=hT.info;refine wpList_make_full _ hg x y T hop w0.heap.size TI i (.int .i64 0) 1 hT.und hi hz hs1 .i64 .i64 n n n hx hy rfl rfl (by rw[hby];omega) (by unfold maxLen;omega) hE.size ?_;intro w' h1 hg';refine hK w' ⟨?_,by simpa using hn⟩ (hE.grown hg' (by simp));have e:(madeCells (Value.int IntKind.i64 0).cells (n*1)).toList=(List.replicate n (0:Int)).map (Value.int .i64):=by
  simp[madeCells,Value.cells];apply List.ext_getElem
  . simp
  . intro k h1 h2;simp[Nat.mod_one]
 rw[e] at h1;simpa using h1
end
theorem Own.stored{TI:TypeId}{w0 w:World}{g c:Nat}{l:List Int}(h:Own TI w0 w (.slice (some ⟨g,0,none⟩) l.length c) l)(j:Nat)(y:Int) :
 Own TI w0 (w.setCell ⟨g,j,none⟩ (.int .i64 y)) (.slice (some ⟨g,0,none⟩) l.length c) (l.set j y):=by
 have h1:=(World.ownsRow.stored h.1 j (.int .i64 y)).1;refine⟨?_,by simpa using h.2⟩;simpa[List.map_set] using h1
theorem Own.setCell_below{TI:TypeId}{w0 w:World}{v:Value}{l:List Int}(h:Own TI w0 w v l){p:Addr}(hp:p.block<w0.heap.size)(u:Value):Own TI w0 (w.setCell p u) v l :=
 ⟨ownsRow_setCell_below h.1 hp u,h.2⟩
open Classical in
noncomputable def Lat (w0 U:World):World:=if Ext w0 U then U else w0
theorem d5(w0 U:World):Ext w0 (Lat w0 U):=by
 unfold Lat;split
 . assumption
 . exact Ext.refl _
theorem Ext.lat{w0 U:World}(h:Ext w0 U):U=Lat w0 U:=by unfold Lat;rw[if_pos h]
theorem d9{P:Program}{id:Nat}{Q:Exit->Act->World->Prop}{a:Act}{w:World}{l:List Oper}(w0:World)(hm:P.follows .mixedOrders=true)(hB:Region.lexB .any l.toArray=true)(hE:Ext w0 w)
 (h:wpQuiet P l.toArray (fun W=>∃U,W=Lat w0 U) (fun a'=>∀w',(∃U,w'=Lat w0 U)->Q .normal a' w') l a):(Code.region id l.toArray true).wp P Q a w :=
 wp_region_quiet (C:=fun W=>∃U,W=Lat w0 U) hm hB ⟨_,(hE.drew).lat⟩ (by simpa using h)
theorem Calls.lat{P:Program}{f:FuncId}{args:Array Value}{w0 U:World}{v:Value}
 (h:Calls P f args (Lat w0 U) fun e w'=>e=.returned v∧Ext (Lat w0 U) w'):Calls P f args (Lat w0 U) fun e w'=>e=.returned v∧∃U',w'=Lat w0 U' :=
 h.mono fun _ _ ⟨he,hE⟩=>⟨he,_,((d5 w0 U).trans hE).lat⟩
theorem Calls.lat_same{P:Program}{f:FuncId}{args:Array Value}{w0 U:World}{v:Value}
 (h:Calls P f args (Lat w0 U) fun e w'=>e=.returned v∧Lat w0 U=w'):Calls P f args (Lat w0 U) fun e w'=>e=.returned v∧∃U',w'=Lat w0 U' :=
 h.mono fun _ _ ⟨he,hE⟩=>⟨he,U,hE.symm⟩
theorem j8{w0 w:World}(h:∃U,w=Lat w0 U):Ext w0 w:=by obtain⟨U,rfl⟩:=h;exact d5 _ _
def db6(x y:Int):Int:=IntKind.i64.wrap (x*2 ^ min y.toNat 64)
def bp2(x y:Int):Int:=x / 2 ^ min y.toNat 64
def W1(x y:Int):Int:=bits .and .i64 x y
def ior(x y:Int):Int:=bits .or .i64 x y
def dv6(x y:Int):Int:=bits .andNot .i64 x y
@[go_sem high] theorem intBits_and_i (x y:Int):Op.intBits .and .i64 x y=pure (.int .i64 (W1 x y)):=rfl
@[go_sem high] theorem intBits_or_i (x y:Int):Op.intBits .or .i64 x y=pure (.int .i64 (ior x y)):=rfl
@[go_sem high] theorem intBits_andn_i (x y:Int):Op.intBits .andNot .i64 x y=pure (.int .i64 (dv6 x y)):=rfl
@[go_sem ↓ high] theorem shift_shl_i (yk:IntKind) (x y:Int) (h:0<=y):Op.shift .shl .i64 x yk y=pure (.int .i64 (db6 x y)):=shift_shl_any .i64 yk x y h
@[go_sem ↓ high] theorem shift_shr_i (yk:IntKind) (x y:Int) (h:0<=y):Op.shift .shr .i64 x yk y=pure (.int .i64 (bp2 x y)):=shift_shr_any .i64 yk x y h
theorem bd2{n:Nat}(h:n<2 ^ 63):IntKind.i64.wrap (n:Int)=n:=by
 apply IntWalk.i64_in;have:(2:Nat)^63=9223372036854775808:=by decide
 omega
theorem bq4{a:Nat}(h:a<2 ^ 63):(BitVec.ofInt IntKind.i64.bits (a:Int)).toNat=a:=by
 have:(2:Nat)^63=9223372036854775808:=by decide
 show (BitVec.ofInt 64 (a:Int)).toNat=a;rw[BitVec.ofInt_natCast,BitVec.toNat_ofNat];exact Nat.mod_eq_of_lt (by omega)
theorem b34{a b:Nat}(ha:a<2 ^ 63)(hb:b<2 ^ 63):W1 a b=((a &&& b:Nat):Int):=by
 show IntKind.i64.wrap ((BitVec.ofInt IntKind.i64.bits (a:Int) &&& BitVec.ofInt IntKind.i64.bits (b:Int)).toNat:Int)=_;rw[BitVec.toNat_and,bq4 ha,bq4 hb,bd2 (Nat.and_lt_two_pow _ hb)]
theorem M4{a b:Nat}(ha:a<2 ^ 63)(hb:b<2 ^ 63):ior a b=((a ||| b:Nat):Int):=by
 show IntKind.i64.wrap ((BitVec.ofInt IntKind.i64.bits (a:Int) ||| BitVec.ofInt IntKind.i64.bits (b:Int)).toNat:Int)=_;rw[BitVec.toNat_or,bq4 ha,bq4 hb,bd2 (Nat.or_lt_two_pow ha hb)]
theorem p6{n:Nat}(h:n<=62):db6 1 n=((pw n:Nat):Int):=by
 unfold db6 pw;have h1:min (n:Int).toNat 64=n:=by rw[Int.toNat_natCast];omega
 have h2:(2:Nat) ^ n<2 ^ 63:=Nat.pow_lt_pow_right (by omega) (by omega);rw[h1,Int.one_mul,show ((2:Int) ^ n)=((2 ^ n:Nat):Int) by simp,bd2 h2]
theorem K0{a n:Nat}(h:n<=64):bp2 a n=((shr a n:Nat):Int):=by
 unfold bp2 shr;have h1:min (n:Int).toNat 64=n:=by rw[Int.toNat_natCast];omega
 rw[h1,Nat.shiftRight_eq_div_pow,Int.natCast_ediv];simp
theorem Q6{a:Nat}(ha:a<2 ^ 63):W1 a 1=((a % 2:Nat):Int):=by
 rw[show (1:Int)=((1:Nat):Int) from rfl,b34 ha (by decide),Nat.and_one_is_mod]
theorem j93{a n:Nat}(ha:a<2 ^ 63)(h:n<=64):(W1 (bp2 a n) 1 == 1)=a.testBit n:=by
 have h1:shr a n<2 ^ 63:=Nat.lt_of_le_of_lt (bt0 _ _) ha;rw[K0 h,Q6 h1,Nat.testBit_eq_decide_div_mod_eq,<-Nat.shiftRight_eq_div_pow];unfold shr;by_cases h:a >>> n % 2=1
 . rw[h];simp
 . have:a >>> n % 2=0:=(by omega);rw[this];simp
theorem X8{a n:Nat}(ha:a<2 ^ 63)(h:n<=64):(W1 ((shr a n:Nat):Int) 1 == 1)=a.testBit n:=by
 rw[<-K0 h];exact j93 ha h
theorem F6{o z:Nat}(ho:o<2 ^ 24)(hz:z<24):ior (o:Int) ((pw z:Nat):Int)=((o ||| 2 ^ z:Nat):Int):=by
 have:pw z<2 ^ 24:=Nat.pow_lt_pow_right (by omega) hz;rw[M4 (by omega) (by omega)];rfl
theorem cz4{n:Nat}(h:¬n=0):((n:Int) != 0)=true:=by simp;omega
theorem j5{a b:Bool}(h:a=b):Ending.returned (.bool a)=Ending.returned (.bool b):=by rw[h]
theorem o7{a b:Int}(h:a=b):Ending.returned (.int .i64 a)=Ending.returned (.int .i64 b):=by rw[h]
theorem j9{a b:ByteArray}(h:a=b):Ending.returned (.string a)=Ending.returned (.string b):=by rw[h]
end Go.Zz
