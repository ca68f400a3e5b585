/- The words of the walks: later worlds, slices of ints, boxes, bit operations behind names. -/
import Derived.WalkKit
import Derived.ProofKit
import Derived.OpenShut
import Derived.WalkSpells
import Derived.BigQuiet
import Derived.Deep.QuietTactic
import Derived.Outline
import Derived.Lib.Hide
import Derived.Laws.AppendOwnNone
import Derived.OneCell
import Derived.Test.YtdlbbpeahicakaaGreatGr1
import Derived.Test.YtdlbbpeahicakaaGreatProg
namespace Go.Zz
open Go.RowKit
def Ext(w w':World):Prop:=Below w.heap.size w w'
theorem Ext.refl(w:World):Ext w w:=Below.refl _ _
theorem Ext.trans{a b c:World}(h:Ext a b)(k:Ext b c):Ext a c:=Below.trans h (Below.mono k h.size)
theorem Ext.alloc{a w:World}(h:Ext a w)(o:Obj):Ext a (w.alloc o):=Below.alloc h h.size o
theorem Ext.drew{a w:World}(h:Ext a w):Ext a w.drew:=Below.drew h
theorem Ext.cell{a w:World}(h:Ext a w){p:Addr}{v:Value}(hp:a.cell? p=some v):w.cell? p=some v:=by
 rw[Below.cell h (World.block_lt_of_cell? a p hp),hp]
theorem Ext.size{a w:World}(h:Ext a w):a.heap.size≤w.heap.size:=Below.size h
theorem Ext.setCell{a w:World}(h:Ext a w){p:Addr}(hp:a.heap.size≤p.block)(u:Value):Ext a (w.setCell p u):=Below.setCell h hp u
def Ints(w:World)(v:Value)(l:List Int):Prop :=
 ∃(ao:Option Addr) (c:Nat),v=.slice ao l.length c∧l.length≤c∧l.length≤17592186044416 ∧
  ∀i,i<l.length→∃a,ao=some a∧w.cell? (a.add i)=some (.int .i64 (nth l i))
theorem Ints.ext{w w':World}{v:Value}{l:List Int}(h:Ints w v l)(hE:Ext w w'):Ints w' v l:=by
 obtain⟨ao,c,rfl,h1,h2,h3⟩:=h
 refine⟨ao,c,rfl,h1,h2,fun i hi=>?_⟩
 obtain⟨a,rfl,hc⟩:=h3 i hi
 exact⟨a,rfl,hE.cell hc⟩
theorem Ints.nil(w:World):Ints w (.slice none 0 0) []:=⟨none,0,rfl,by simp,by simp,by simp⟩
theorem Ints.op{w:World}{v:Value}{l:List Int}(h:Ints w v l) :
 ∃(ao:Option Addr) (c:Nat) (adr:Nat→Addr),v=.slice ao l.length c∧l.length≤17592186044416 ∧
  (∀i,i<l.length→ao=some (adr 0)∧adr i=(adr 0).add i) ∧
  (∀i W,i<l.length→Ext w W→W.cell? (adr i)=some (.int .i64 (nth l i))):=by
 obtain⟨ao,c,rfl,h1,h2,h3⟩:=h
 refine⟨ao,c,fun i=>(ao.getD default).add i,rfl,by omega,fun i hi=>?_,fun i W hi hW=>?_⟩
 · obtain⟨a,rfl,hc⟩:=h3 i hi
   exact⟨by simp[Addr.add],by simp[Addr.add]⟩
 · obtain⟨a,rfl,hc⟩:=h3 i hi
   exact hW.cell (by simpa using hc)
theorem ints_index{P:Program}{t:TypeId}{ao:Option Addr}{n c:Nat}{adr:Nat→Addr}(ht:P.underlying t=some (.slice (P.elem t)))(hs:∀w,(sizeOf (P.elem t)).run P w=.ok 1 w)
 (h:∀i,i<n→ao=some (adr 0)∧adr i=(adr 0).add i) :
 ∀(i:Nat) W,i<n→(Instr.indexAt t (.slice ao n c) (.int .i64 (i:Int))).run P W=.ok (.pointer (some (adr i))) W:=by
 intro i W hi
 obtain⟨rfl,e⟩:=h i hi
 rw[run_indexAt_slice (h:=ht),if_pos (by omega),hs]
 simp[Result.andThen,e]
theorem box_cell(w:World)(v:Value)(T:TypeId):∀W,Ext (w.alloc (.cells #[v] T)) W→W.cell? ⟨w.heap.size,0,none⟩=some v:=by
 intro W h
 exact h.cell (by simp[go_sem])
def Blk(w:World)(b:Nat)(T:TypeId)(cs:Array Value):Prop:=w.heap[b]?=some (.cells cs T (0,0))
theorem Blk.lt{w:World}{b:Nat}{T:TypeId}{cs:Array Value}(h:Blk w b T cs):b<w.heap.size:=(Array.getElem?_eq_some_iff.1 h).1
theorem Blk.cell{w:World}{b:Nat}{T:TypeId}{cs:Array Value}(h:Blk w b T cs){i:Nat}{v:Value}(hi:cs[i]?=some v):w.cell? ⟨b,i,none⟩=some v:=by
 have h':w.heap[b]?=some (.cells cs T (0,0)):=h
 simp[World.cell?,h',hi]
theorem Blk.free{w:World}{b:Nat}{T:TypeId}{cs:Array Value}(h:Blk w b T cs)(i:Nat):w.frozen? ⟨b,i,none⟩=false:=by
 have h':w.heap[b]?=some (.cells cs T (0,0)):=h
 simp[World.frozen?,h']
theorem Blk.ext{w w':World}{b:Nat}{T:TypeId}{cs:Array Value}(h:Blk w b T cs)(hE:Ext w w'):Blk w' b T cs:=by
 unfold Blk;rw[hE.block b h.lt];exact h
theorem Blk.new(w:World)(T:TypeId)(cs:Array Value):Blk (w.alloc (.cells cs T)) w.heap.size T cs:=by
 show (w.heap.push (Obj.cells cs T))[w.heap.size]?=_
 rw[Array.getElem?_push_size]
theorem Blk.alloc{w:World}{b:Nat}{T:TypeId}{cs:Array Value}(h:Blk w b T cs)(o:Obj):Blk (w.alloc o) b T cs:=h.ext ((Ext.refl w).alloc o)
theorem Blk.set{w:World}{b:Nat}{T:TypeId}{cs:Array Value}(h:Blk w b T cs)(i:Nat)(v:Value):Blk (w.setCell ⟨b,i,none⟩ v) b T (cs.setIfInBounds i v):=by
 have hlt:=h.lt
 have h':w.heap[b]=.cells cs T (0,0):=by have:=h;unfold Blk at this;simpa[Array.getElem?_eq_getElem hlt] using this
 show (w.heap.modify b _)[b]?=_
 rw[Array.getElem?_eq_getElem (by simpa using hlt),Array.getElem_modify_self,h']
 rfl
theorem Blk.other{w:World}{b:Nat}{T:TypeId}{cs:Array Value}(h:Blk w b T cs){p:Addr}(hp:b≠p.block)(v:Value):Blk (w.setCell p v) b T cs:=by
 unfold Blk;rw[Below.heap_setCell _ _ _ _ hp];exact h
theorem Blk.drew{w:World}{b:Nat}{T:TypeId}{cs:Array Value}(h:Blk w b T cs):Blk w.drew b T cs:=h
theorem cell_in{w:World}{p:Addr}{v:Value}(h:w.cell? p=some v):∀W,Ext w W→W.cell? p=some v:=fun _ hW=>hW.cell h
structure IntSl(P:Program)(T TI:TypeId):Prop where
 und:P.underlying T=some (.slice TI)
 info:∃i,P.info? TI=some i∧i.zero=some (.int .i64 0)∧i.size=1∧i.bytes=8
def Own(TI:TypeId)(w0 w:World)(v:Value)(l:List Int):Prop :=
 w.ownsRow w0.heap.size TI 1 v l.length (l.map (Value.int .i64))∧l.length≤17592186044416
theorem ownsRow_mono{w:World}{B B':Nat}{e:TypeId}{s:Nat}{v:Value}{n:Nat}{xs:List Value}(h:w.ownsRow B e s v n xs)(hB:B'≤B):w.ownsRow B' e s v n xs:=by
 obtain⟨h1,h2⟩:=h
 refine⟨h1,?_⟩
 rcases h2 with h2 | ⟨g,cap,cur,hv,hg,r⟩
 · exact Or.inl h2
 · exact Or.inr ⟨g,cap,cur,hv,Nat.le_trans hB hg,r⟩
theorem Own.mono{TI:TypeId}{w0 w1 w:World}{v:Value}{l:List Int}(h:Own TI w1 w v l)(hE:Ext w0 w1):Own TI w0 w v l:=⟨ownsRow_mono h.1 hE.size,h.2⟩
theorem Own.nil(TI:TypeId)(w0 w:World):Own TI w0 w (.slice none 0 0) []:=⟨World.ownsRow_nil _ _ _ _,by simp⟩
theorem Own.alloc{TI:TypeId}{w0 w:World}{v:Value}{l:List Int}(h:Own TI w0 w v l)(o:Obj):Own TI w0 (w.alloc o) v l:=⟨h.1.alloc o,h.2⟩
theorem Own.drew{TI:TypeId}{w0 w:World}{v:Value}{l:List Int}(h:Own TI w0 w v l):Own TI w0 w.drew v l:=h
theorem Own.blk{TI:TypeId}{w0 w:World}{v:Value}{l:List Int}(h:Own TI w0 w v l):∀k,v.ownBlock=some k→w0.heap.size≤k∧k<w.heap.size:=h.1.lt
theorem Own.ext{TI:TypeId}{w0 w w':World}{v:Value}{l:List Int}(h:Own TI w0 w v l)(hE:Ext w w'):Own TI w0 w' v l:=by
 refine⟨h.1.kept (row:=none) ⟨hE.os,hE.tape,hE.output,hE.size,fun k hk _=>hE.block k hk⟩ ?_,h.2⟩
 cases hv:v.ownBlock<;>simp
theorem Ext.grown{a w w':World}{row:Option Nat}(h:Ext a w)(hg:w.grownBy w' row)(hr:∀k,row=some k→a.heap.size≤k):Ext a w':=Below.grown h hg h.size hr
theorem Own.shape{TI:TypeId}{w0 w:World}{v:Value}{l:List Int}(h:Own TI w0 w v l) :
 ∃(ao:Option Addr) (c:Nat),v=.slice ao l.length c∧l.length≤c∧(∀a,ao=some a→∃g,a=⟨g,0,none⟩∧w0.heap.size≤g∧g<w.heap.size) ∧
  (∀i,i<l.length→∃g,ao=some ⟨g,0,none⟩∧w.cell? ⟨g,i,none⟩=some (.int .i64 (nth l i))∧w.frozen? ⟨g,i,none⟩=false):=by
 obtain⟨h1,h2⟩:=h
 rcases h1.2 with ⟨rfl,hl⟩ | ⟨g,cap,cur,rfl,hg,hh,hc,r⟩
 · exact⟨none,0,by rw[hl],by omega,by simp,by omega⟩
 · refine⟨some ⟨g,0,none⟩,cap,rfl,hc,fun a ha=>⟨g,by simpa using ha.symm,hg,(Array.getElem?_eq_some_iff.1 hh).1⟩,fun i hi=>⟨g,rfl,?_,World.ownsRow.frozenAt h1 i⟩⟩
   rw[World.ownsRow.cellAt h1 i (by omega)]
   simp[nth,List.getD,hi]
theorem Own.ints{TI:TypeId}{w0 w:World}{v:Value}{l:List Int}(h:Own TI w0 w v l):Ints w v l:=by
 obtain⟨ao,c,rfl,h1,_,h2⟩:=h.shape
 refine⟨ao,c,rfl,h1,h.2,fun i hi=>?_⟩
 obtain⟨g,rfl,hc,_⟩:=h2 i hi
 exact⟨_,rfl,by rw[Addr.add_lit];simpa using hc⟩
theorem own_made{TI:TypeId}{w0 w:World}{n:Nat}(hn:n≤17592186044416)(hE:Ext w0 w)(l:List Int)(hl:l.length=n) :
 Own TI w0 (w.alloc (.cells (l.map (Value.int .i64)).toArray TI)) (.slice (some ⟨w.heap.size,0,none⟩) n n) l:=by
 subst hl
 have:=World.ownsRow_lit (base:=w0.heap.size) (e:=TI) (size:=1) w (l.map (Value.int .i64)).toArray l.length hE.size (by unfold maxLen;omega) (by simp)
 exact⟨by simpa using this,hn⟩
section
variable {P:Program} {ops:Array Oper} {rest:List Oper} {o:Oper} {a:Act} {Q:Exit→Act→World→Prop} {T TI:TypeId}
theorem wp_append1(hT:IntSl P T TI)(hg:o.guard=none)(s x:Operand)(hop:o.op=Op.call { callee:=Callee.builtin Builtin.append,args:=#[s,x],argTypes:=#[T,T] })
 (w0 W:World) (v:Value) (l:List Int) (y:Int) (hO:Own TI w0 W v l) (hE:Ext w0 W) (hn:l.length<17592186044416) (hs:a.eval s=v) (hx:a.eval x=.slice (some ⟨W.heap.size,0,none⟩) 1 1)
 (hK:∀v' w',Own TI w0 w' v' (l++[y])→Ext w0 w'→wpList P ops Q rest (a.put o.dst v') w') :
 wpList P ops Q (o :: rest) a (W.alloc (.cells #[.int .i64 y] TI)):=by
 obtain⟨i,hi,hz,hs1,hby⟩:=hT.info
 refine wpList_append_own _ hg s x T hop w0.heap.size TI i (.int .i64 0) 1 8 hT.und hi hz hs1 hby rfl (by omega) v l.length _ hs (hO.alloc _).1 ⟨W.heap.size,0,none⟩ 1 1 [.int .i64 y] hx rfl ?_ (by simp[Value.oneCell']) (by unfold maxLen;omega) (by omega) (by have:=hE.size;simp;omega) ?_
 · exact cell_one_new _ _ _
 · intro v' w' h1 hg' _
   have hE1:=hE.alloc (.cells #[.int .i64 y] TI)
   refine hK v' w' ⟨by simpa using h1,by simp;omega⟩ (hE1.grown hg' fun k hk=>(hO.blk k hk).1)
theorem wp_appends(hT:IntSl P T TI)(hg:o.guard=none)(s x:Operand)(hop:o.op=Op.call { callee:=Callee.builtin Builtin.append,args:=#[s,x],argTypes:=#[T,T] })
 (w0 w:World) (v u:Value) (l m:List Int) (hO:Own TI w0 w v l) (hI:Ints w u m) (hE:Ext w0 w) (hn:l.length+m.length≤17592186044416) (hs:a.eval s=v) (hx:a.eval x=u)
 (hK:∀v' w',Own TI w0 w' v' (l++m)→Ext w0 w'→wpList P ops Q rest (a.put o.dst v') w') :
 wpList P ops Q (o :: rest) a w:=by
 obtain⟨i,hi,hz,hs1,hby⟩:=hT.info
 obtain⟨ao,c,rfl,hmc,_,hc⟩:=hI
 cases ao with
 | some ad =>
  refine wpList_append_own _ hg s x T hop w0.heap.size TI i (.int .i64 0) 1 8 hT.und hi hz hs1 hby rfl (by omega) v l.length _ hs hO.1 ad m.length c (m.map (Value.int .i64)) hx (by simp) ?_ (ints_oneCell _ _) (by unfold maxLen;omega) (by omega) hE.size ?_
  · intro j u hu
    have hj:j<m.length:=by have:=(List.getElem?_eq_some_iff.1 hu).1;simpa using this
    obtain⟨a',ha',hc'⟩:=hc j hj
    cases ha'
    rw[hc',←hu,nth_get _ _ hj];simp[hj]
  · intro v' w' h1 hg' _
    refine hK v' w' ⟨by simpa using h1,by simp;omega⟩ (hE.grown hg' fun k hk=>(hO.blk k hk).1)
 | none =>
  have hm:m=[]:=by
   cases m with
   | nil=>rfl
   | cons y m=>obtain⟨_,h,_⟩:=hc 0 (by simp);cases h
  subst hm
  by_cases h0:c=0
  · subst h0
    refine wpList_append_own_none hg s x T hop w0.heap.size TI i 1 hT.und hi v l.length _ hs hO.1 hx ?_
    exact hK _ _ (by simpa using hO) hE
  · refine wpList_plain hg fun K hK'=>?_
    have hrun:(Builtin.append_ #[T,T] o.type #[v,.slice none 0 c]).run P w=.ok v w:=by
     have h2:=run_append_owned_none (P:=P) w w0.heap.size T o.type TI i 1 hT.und hi v l.length _ hO.1
     rw[←h2]
     rcases hO.1.2 with ⟨rfl,_⟩ | ⟨g,cap,cur,rfl,_,_,hnc,_⟩
     · simp[Builtin.append_,run_underlying hT.und,sizeOf,typeInfo,hi,Builtin.lenOf,Builtin.firstCells]
     · simp[Builtin.append_,run_underlying hT.und,sizeOf,typeInfo,hi,Builtin.lenOf,Builtin.firstCells,hnc]
    unfold Oper.wp
    simp[execOp,hop,resolve,invoke,builtin,hs,hx,hrun,Result.andThen]
    exact hK' _ _ (hK _ _ (by simpa using hO) hE)
end
theorem Own.stored{TI:TypeId}{w0 w:World}{g c:Nat}{l:List Int}(h:Own TI w0 w (.slice (some ⟨g,0,none⟩) l.length c) l)(j:Nat)(y:Int) :
 Own TI w0 (w.setCell ⟨g,j,none⟩ (.int .i64 y)) (.slice (some ⟨g,0,none⟩) l.length c) (l.set j y):=by
 have h1:=(World.ownsRow.stored h.1 j (.int .i64 y)).1
 refine⟨?_,by simpa using h.2⟩
 simpa[List.map_set] using h1
theorem Own.setCell_below{TI:TypeId}{w0 w:World}{v:Value}{l:List Int}(h:Own TI w0 w v l){p:Addr}(hp:p.block<w0.heap.size)(u:Value):Own TI w0 (w.setCell p u) v l :=
 ⟨ownsRow_setCell_below h.1 hp u,h.2⟩
open Classical in
noncomputable def Lat (w0 U:World):World:=if Ext w0 U then U else w0
theorem lat_ext(w0 U:World):Ext w0 (Lat w0 U):=by
 unfold Lat;split
 · assumption
 · exact Ext.refl _
theorem Ext.lat{w0 U:World}(h:Ext w0 U):U=Lat w0 U:=by unfold Lat;rw[if_pos h]
theorem wp_region_lat{P:Program}{id:Nat}{Q:Exit→Act→World→Prop}{a:Act}{w:World}{l:List Oper}(w0:World)(hm:P.follows .mixedOrders=true)(hB:Region.lexB .any l.toArray=true)(hE:Ext w0 w)
 (h:wpQuiet P l.toArray (fun W=>∃U,W=Lat w0 U) (fun a'=>∀w',(∃U,w'=Lat w0 U)→Q .normal a' w') l a):(Code.region id l.toArray true).wp P Q a w :=
 wp_region_quiet (C:=fun W=>∃U,W=Lat w0 U) hm hB ⟨_,(hE.drew).lat⟩ (by simpa using h)
theorem Calls.lat{P:Program}{f:FuncId}{args:Array Value}{w0 U:World}{v:Value}
 (h:Calls P f args (Lat w0 U) fun e w'=>e=.returned v∧Ext (Lat w0 U) w'):Calls P f args (Lat w0 U) fun e w'=>e=.returned v∧∃U',w'=Lat w0 U' :=
 h.mono fun _ _ ⟨he,hE⟩=>⟨he,_,((lat_ext w0 U).trans hE).lat⟩
theorem Calls.lat_same{P:Program}{f:FuncId}{args:Array Value}{w0 U:World}{v:Value}
 (h:Calls P f args (Lat w0 U) fun e w'=>e=.returned v∧Lat w0 U=w'):Calls P f args (Lat w0 U) fun e w'=>e=.returned v∧∃U',w'=Lat w0 U' :=
 h.mono fun _ _ ⟨he,hE⟩=>⟨he,U,hE.symm⟩
theorem lat_of{w0 w:World}(h:∃U,w=Lat w0 U):Ext w0 w:=by obtain⟨U,rfl⟩:=h;exact lat_ext _ _
def ishl(x y:Int):Int:=IntKind.i64.wrap (x*2 ^ min y.toNat 64)
def ishr(x y:Int):Int:=x / 2 ^ min y.toNat 64
def iand(x y:Int):Int:=bits .and .i64 x y
def ior(x y:Int):Int:=bits .or .i64 x y
def iandn(x y:Int):Int:=bits .andNot .i64 x y
@[go_sem high] theorem intBits_and_i (x y:Int):Op.intBits .and .i64 x y=pure (.int .i64 (iand x y)):=rfl
@[go_sem high] theorem intBits_or_i (x y:Int):Op.intBits .or .i64 x y=pure (.int .i64 (ior x y)):=rfl
@[go_sem high] theorem intBits_andn_i (x y:Int):Op.intBits .andNot .i64 x y=pure (.int .i64 (iandn x y)):=rfl
@[go_sem ↓ high] theorem shift_shl_i (yk:IntKind) (x y:Int) (h:0≤y):Op.shift .shl .i64 x yk y=pure (.int .i64 (ishl x y)):=shift_shl_any .i64 yk x y h
@[go_sem ↓ high] theorem shift_shr_i (yk:IntKind) (x y:Int) (h:0≤y):Op.shift .shr .i64 x yk y=pure (.int .i64 (ishr x y)):=shift_shr_any .i64 yk x y h
theorem wrap_nat{n:Nat}(h:n<2 ^ 63):IntKind.i64.wrap (n:Int)=n:=by
 apply IntWalk.i64_in;have:(2:Nat)^63=9223372036854775808:=by decide
 omega
theorem bv_nat{a:Nat}(h:a<2 ^ 63):(BitVec.ofInt IntKind.i64.bits (a:Int)).toNat=a:=by
 have:(2:Nat)^63=9223372036854775808:=by decide
 show (BitVec.ofInt 64 (a:Int)).toNat=a
 rw[BitVec.ofInt_natCast,BitVec.toNat_ofNat];exact Nat.mod_eq_of_lt (by omega)
theorem iand_nat{a b:Nat}(ha:a<2 ^ 63)(hb:b<2 ^ 63):iand a b=((a &&& b:Nat):Int):=by
 show IntKind.i64.wrap ((BitVec.ofInt IntKind.i64.bits (a:Int) &&& BitVec.ofInt IntKind.i64.bits (b:Int)).toNat:Int)=_
 rw[BitVec.toNat_and,bv_nat ha,bv_nat hb,wrap_nat (Nat.and_lt_two_pow _ hb)]
theorem ior_nat{a b:Nat}(ha:a<2 ^ 63)(hb:b<2 ^ 63):ior a b=((a ||| b:Nat):Int):=by
 show IntKind.i64.wrap ((BitVec.ofInt IntKind.i64.bits (a:Int) ||| BitVec.ofInt IntKind.i64.bits (b:Int)).toNat:Int)=_
 rw[BitVec.toNat_or,bv_nat ha,bv_nat hb,wrap_nat (Nat.or_lt_two_pow ha hb)]
theorem ishl_one{n:Nat}(h:n≤62):ishl 1 n=((pw n:Nat):Int):=by
 unfold ishl pw
 have h1:min (n:Int).toNat 64=n:=by rw[Int.toNat_natCast];omega
 have h2:(2:Nat) ^ n<2 ^ 63:=Nat.pow_lt_pow_right (by omega) (by omega)
 rw[h1,Int.one_mul,show ((2:Int) ^ n)=((2 ^ n:Nat):Int) by simp,wrap_nat h2]
theorem ishr_nat{a n:Nat}(h:n≤64):ishr a n=((shr a n:Nat):Int):=by
 unfold ishr shr
 have h1:min (n:Int).toNat 64=n:=by rw[Int.toNat_natCast];omega
 rw[h1,Nat.shiftRight_eq_div_pow,Int.natCast_ediv];simp
theorem iand_one{a:Nat}(ha:a<2 ^ 63):iand a 1=((a % 2:Nat):Int):=by
 rw[show (1:Int)=((1:Nat):Int) from rfl,iand_nat ha (by decide),Nat.and_one_is_mod]
theorem bit_test{a n:Nat}(ha:a<2 ^ 63)(h:n≤64):(iand (ishr a n) 1 == 1)=a.testBit n:=by
 have h1:shr a n<2 ^ 63:=Nat.lt_of_le_of_lt (shr_le _ _) ha
 rw[ishr_nat h,iand_one h1,Nat.testBit_eq_decide_div_mod_eq,←Nat.shiftRight_eq_div_pow]
 unfold shr
 by_cases h:a >>> n % 2=1
 · rw[h];simp
 · have:a >>> n % 2=0:=by omega
   rw[this];simp
theorem bit_test'{a n:Nat}(ha:a<2 ^ 63)(h:n≤64):(iand ((shr a n:Nat):Int) 1 == 1)=a.testBit n:=by
 rw[←ishr_nat h];exact bit_test ha h
theorem ior_pw{o z:Nat}(ho:o<2 ^ 24)(hz:z<24):ior (o:Int) ((pw z:Nat):Int)=((o ||| 2 ^ z:Nat):Int):=by
 have:pw z<2 ^ 24:=Nat.pow_lt_pow_right (by omega) hz
 rw[ior_nat (by omega) (by omega)];rfl
theorem ne_zero_t{n:Nat}(h:¬n=0):((n:Int) != 0)=true:=by simp;omega
theorem ret_bool{a b:Bool}(h:a=b):Ending.returned (.bool a)=Ending.returned (.bool b):=by rw[h]
theorem ret_int{a b:Int}(h:a=b):Ending.returned (.int .i64 a)=Ending.returned (.int .i64 b):=by rw[h]
theorem ret_str{a b:ByteArray}(h:a=b):Ending.returned (.string a)=Ending.returned (.string b):=by rw[h]
end Go.Zz
namespace Go.Zz
open Go.RowKit Go.Proofs
set_option maxHeartbeats 400000
theorem elI:Tryz.prog.underlying 22=some (.slice (Tryz.prog.elem 22)):=by kernel_rfl
theorem szI:∀w,(sizeOf (Tryz.prog.elem 22)).run Tryz.prog w=.ok 1 w:=fun w=>by kernel_rfl
theorem within_any(x lo hi:Int)(w:World) :
 Calls Tryz.prog 138 #[.int .i64 x,.int .i64 lo,.int .i64 hi] w fun e w'=>e=.returned (.bool (inB x lo hi))∧w=w':=by
 go_enter Tryz.func138,Tryz.ntmps138
 go_wp2
 all_goals (go_ret;refine⟨?_,rfl⟩;unfold inB;congr 2;simp;omega)
theorem l1In_any(x lo hi:Int)(w:World) :
 Calls Tryz.prog 139 #[.int .i64 x,.int .i64 lo,.int .i64 hi] w fun e w'=>e=.returned (.bool (inB x lo hi))∧w=w':=by
 go_enter Tryz.func139,Tryz.ntmps139
 go_wp2
 all_goals (go_ret;refine⟨?_,rfl⟩;unfold inB;congr 2;simp;omega)
theorem IsGroup_any(v:Value)(l:List Int)(w:World)(h:Ints w v l) :
 Calls Tryz.prog 131 #[.agg #[v]] w fun e w'=>e=.returned (.bool (isGrp l))∧Ext w w':=by
 obtain⟨ao,c,adr,rfl,hlen,hadr,hcell⟩:=h.op
 have hix:=ints_index (c:=c) elI szI hadr
 clear hadr h
 have hE0:=(Ext.refl w).alloc (.cells #[.slice ao l.length c] 27)
 by_cases h3:l.length≤3
 · go_enter Tryz.func131,Tryz.ntmps131
   go_wp2_with fail
   go_loop [3,13] (fun n i=>∃k:Nat,k≤l.length∧(∀j,j<k→2≤nth l j∧nth l j≤24)∧n=.int .i64 (prodL (l.take k))∧i=.int .i64 k) (fun _ i=>l.length - (intOf i).toNat)
   case atStart=>exact⟨0,by omega,by omega,rfl,rfl⟩
   case round =>
    obtain⟨k,hk,hall,rfl,rfl⟩:=hrel
    obtain⟨hb0,hb1⟩:=prodL_bd3 k l hk (by omega) hall
    by_cases hlt:k<l.length
    · have hck:=hcell k _ hlt hE0
      by_cases hin:2≤nth l k∧nth l k≤24
      · have hin':=inB_t.2 hin
        obtain⟨hm1,hm2⟩:=mul_fits hb0 hb1 hin.1 hin.2
        go_wp2_with (first | (go_at_call 138;refine (within_any _ _ _ _).mono ?_;rintro e w' ⟨rfl,rfl⟩))
        go_round
        case rel=>exact⟨k+1,by omega,fun j hj=>by by_cases e:j=k;(subst e;exact hin);exact hall j (by omega),by rw[prodL_take l k hlt],by go_num⟩
        case measure=>(simp[intOf];omega)
      · have hin':=inB_f.2 hin
        go_wp2_with (first | (go_at_call 138;refine (within_any _ _ _ _).mono ?_;rintro e w' ⟨rfl,rfl⟩))
        go_ret
        exact⟨ret_bool (isGrp_no_nth hlt hin).symm,hE0⟩
    · have hkl:k=l.length:=by omega
      have hend:=Lib.hid (isGrp_end h3 (fun j hj=>hall j (by omega)))
      clear hall
      subst hkl
      rw[List.take_length] at *
      go_wp2_with fail
      go_ret
      exact⟨ret_bool hend.out.symm,hE0⟩
 · go_enter Tryz.func131,Tryz.ntmps131
   go_wp2_with fail
   go_ret
   exact⟨ret_bool (isGrp_no_len (by omega)).symm,hE0⟩
theorem sIsGroup_any(v:Value)(l:List Int)(w:World)(h:Ints w v l) :
 Calls Tryz.prog 100 #[.agg #[v]] w fun e w'=>e=.returned (.bool (isGrp l))∧Ext w w':=by
 obtain⟨ao,c,adr,rfl,hlen,hadr,hcell⟩:=h.op
 have hix:=ints_index (c:=c) elI szI hadr
 clear hadr h
 have hE0:=(Ext.refl w).alloc (.cells #[.slice ao l.length c] 27)
 go_enter Tryz.func100,Tryz.ntmps100
 go_wp2_with fail
 go_loop [3,4] (fun n i=>∃k:Nat,k≤l.length∧k≤3∧(∀j,j<k→2≤nth l j∧nth l j≤24)∧n=.int .i64 (prodL (l.take k))∧i=.int .i64 k) (fun _ i=>l.length - (intOf i).toNat)
 case atStart=>exact⟨0,by omega,by omega,by omega,rfl,rfl⟩
 case round =>
  obtain⟨k,hk,hk3,hall,rfl,rfl⟩:=hrel
  obtain⟨hb0,hb1⟩:=prodL_bd3 k l hk hk3 hall
  by_cases hlt:k<l.length
  · have hck:=hcell k _ hlt hE0
    by_cases hin:2≤nth l k∧nth l k≤24
    · have hin':=inB_t.2 hin
      obtain⟨hm1,hm2⟩:=mul_fits hb0 hb1 hin.1 hin.2
      by_cases h3:k<3
      · go_wp2_with (first | (go_at_call 139;refine (l1In_any _ _ _ _).mono ?_;rintro e w' ⟨rfl,rfl⟩))
        go_round
        case rel=>exact⟨k+1,by omega,by omega,fun j hj=>by by_cases e:j=k;(subst e;exact hin);exact hall j (by omega),by rw[prodL_take l k hlt],by go_num⟩
        case measure=>(simp[intOf];omega)
      · go_wp2_with (first | (go_at_call 139;refine (l1In_any _ _ _ _).mono ?_;rintro e w' ⟨rfl,rfl⟩))
        go_ret
        exact⟨ret_bool (isGrp_no_len (by omega)).symm,hE0⟩
    · have hin':=inB_f.2 hin
      go_wp2_with (first | (go_at_call 139;refine (l1In_any _ _ _ _).mono ?_;rintro e w' ⟨rfl,rfl⟩))
      go_ret
      exact⟨ret_bool (isGrp_no_nth hlt hin).symm,hE0⟩
  · have hkl:k=l.length:=by omega
    have hend:=Lib.hid (isGrp_end (by omega) (fun j hj=>hall j (by omega)))
    clear hall
    subst hkl
    rw[List.take_length] at *
    go_wp2_with fail
    go_ret
    exact⟨ret_bool hend.out.symm,hE0⟩
end Go.Zz
namespace Go.Zz
open Go.RowKit Go.Proofs
set_option maxHeartbeats 400000
theorem OrderOf_any(v:Value)(l:List Int)(w:World)(h:Ints w v l) :
 Calls Tryz.prog 157 #[.agg #[v]] w fun e w'=>e=.returned (.int .i64 (ordF l))∧Ext w w':=by
 have hI:=h
 obtain⟨ao,c,adr,rfl,hlen,hadr,hcell⟩:=h.op
 have hix:=ints_index (c:=c) elI szI hadr
 clear hadr
 have hE0:=(Ext.refl w).alloc (.cells #[(.slice ao l.length c)] 27)
 have hE:=Ext.refl (w.alloc (.cells #[(.slice ao l.length c)] 27))
 have hb:=box_cell w (.slice ao l.length c) 27
 have hg:∀W,Ext (w.alloc (.cells #[(.slice ao l.length c)] 27)) W→Ints W (.slice ao l.length c) l:=fun W hW=>h.ext (hE0.trans hW)
 clear h
 cases hgr:isGrp l
 · have Hgr:=Lib.hid hgr
   go_enter Tryz.func157,Tryz.ntmps157
   go_wp2_with (first | (go_at_call 131;refine (IsGroup_any _ _ _ (hg _ hE)).mono ?_;rintro e w' ⟨rfl,hE'⟩;replace hE:=hE.trans hE';clear hE'))
   go_ret
   exact⟨ret_int (ordF_f Hgr.out).symm,hE0.trans hE⟩
 · have Hgr:=Lib.hid hgr
   go_enter Tryz.func157,Tryz.ntmps157
   go_wp2_with (first | (go_at_call 131;refine (IsGroup_any _ _ _ (hg _ hE)).mono ?_;rintro e w' ⟨rfl,hE'⟩;replace hE:=hE.trans hE';clear hE'))
   clear hgr
   have h3:=isGrp_len Hgr.out
   have hck:∀i,i<l.length→World.cell? _ (adr i)=_:=fun i hi=>hcell i _ hi (hE0.trans hE)
   go_loop [3,12] (fun n i=>∃k:Nat,k≤l.length∧n=.int .i64 (prodL (l.take k))∧i=.int .i64 k) (fun _ i=>l.length - (intOf i).toNat)
   case atStart=>exact⟨0,by omega,rfl,rfl⟩
   case round =>
    obtain⟨k,hk,rfl,rfl⟩:=hrel
    obtain⟨hb0,hb1⟩:=prodL_bd3 k l hk (by omega) (fun j hj=>isGrp_nth Hgr.out (by omega))
    by_cases hlt:k<l.length
    · have hin:=isGrp_nth Hgr.out hlt
      obtain⟨hm1,hm2⟩:=mul_fits hb0 hb1 hin.1 hin.2
      go_wp2_with fail
      go_round
      case rel=>exact⟨k+1,by omega,by rw[prodL_take l k hlt],by go_num⟩
      case measure=>(simp[intOf];omega)
    · have hkl:k=l.length:=by omega
      subst hkl
      rw[List.take_length] at *
      go_wp2_with fail
      go_ret
      exact⟨ret_int (by unfold ordF;rw[if_pos Hgr.out]),hE0.trans hE⟩
theorem l2Order_any(v:Value)(l:List Int)(w:World)(h:Ints w v l)(Hgr:Hid (isGrp l=true)) :
 Calls Tryz.prog 59 #[.agg #[v]] w fun e w'=>e=.returned (.int .i64 (ord l:Int))∧Ext w w':=by
 obtain⟨ao,c,adr,rfl,hlen,hadr,hcell⟩:=h.op
 have hix:=ints_index (c:=c) elI szI hadr
 clear hadr h
 have hE0:=(Ext.refl w).alloc (.cells #[.slice ao l.length c] 27)
 have h3:=isGrp_len Hgr.out
 go_enter Tryz.func59,Tryz.ntmps59
 go_wp2_with fail
 go_loop [3,4] (fun n i=>∃k:Nat,k≤l.length∧n=.int .i64 (prodL (l.take k))∧i=.int .i64 k) (fun _ i=>l.length - (intOf i).toNat)
 case atStart=>exact⟨0,by omega,rfl,rfl⟩
 case round =>
  obtain⟨k,hk,rfl,rfl⟩:=hrel
  obtain⟨hb0,hb1⟩:=prodL_bd3 k l hk (by omega) (fun j hj=>isGrp_nth Hgr.out (by omega))
  by_cases hlt:k<l.length
  · have hck:=hcell k _ hlt hE0
    have hin:=isGrp_nth Hgr.out hlt
    obtain⟨hm1,hm2⟩:=mul_fits hb0 hb1 hin.1 hin.2
    go_wp2_with fail
    go_round
    case rel=>exact⟨k+1,by omega,by rw[prodL_take l k hlt],by go_num⟩
    case measure=>(simp[intOf];omega)
  · have hkl:k=l.length:=by omega
    subst hkl
    rw[List.take_length] at *
    go_wp2_with fail
    go_ret
    exact⟨ret_int (ord_cast Hgr.out).symm,hE0⟩
theorem IsSet_any(v:Value)(l:List Int)(a:Int)(w:World)(h:Ints w v l) :
 Calls Tryz.prog 152 #[.agg #[v],.int .i64 a] w fun e w'=>e=.returned (.bool (isSetB l a))∧Ext w w':=by
 have hE0:=(Ext.refl w).alloc (.cells #[v] 27)
 have hE:=Ext.refl (w.alloc (.cells #[v] 27))
 have hb:=box_cell w v 27
 have hg:∀W,Ext (w.alloc (.cells #[v] 27)) W→Ints W v l:=fun W hW=>h.ext (hE0.trans hW)
 clear h
 cases hgr:isGrp l
 · have Hgr:=Lib.hid hgr
   go_enter Tryz.func152,Tryz.ntmps152
   go_wp2_with (first | (go_at_call 131;refine (IsGroup_any _ _ _ (hg _ hE)).mono ?_;rintro e w' ⟨rfl,hE'⟩;replace hE:=hE.trans hE';clear hE'))
   go_ret
   exact⟨ret_bool (by unfold isSetB;rw[Hgr.out];rfl),hE0.trans hE⟩
 · have Hgr:=Lib.hid hgr
   have hord:=ordF_t hgr
   have hsh:=ishl_one (n:=ord l) (by have:=ord_bd hgr;omega)
   by_cases h0:0≤a
   · go_enter Tryz.func152,Tryz.ntmps152
     go_wp2_with (first | (go_at_call 131;refine (IsGroup_any _ _ _ (hg _ hE)).mono ?_;rintro e w' ⟨rfl,hE'⟩;replace hE:=hE.trans hE';clear hE') | (go_at_call 157;refine (OrderOf_any _ _ _ (hg _ hE)).mono ?_;rintro e w' ⟨rfl,hE'⟩;replace hE:=hE.trans hE';clear hE'))
     go_ret
     exact⟨ret_bool (by have:=pw_int (ord l);unfold isSetB;rw[Hgr.out,Bool.eq_iff_iff];simp;omega),hE0.trans hE⟩
   · go_enter Tryz.func152,Tryz.ntmps152
     go_wp2_with (first | (go_at_call 131;refine (IsGroup_any _ _ _ (hg _ hE)).mono ?_;rintro e w' ⟨rfl,hE'⟩;replace hE:=hE.trans hE';clear hE') | (go_at_call 157;refine (OrderOf_any _ _ _ (hg _ hE)).mono ?_;rintro e w' ⟨rfl,hE'⟩;replace hE:=hE.trans hE';clear hE'))
     go_ret
     exact⟨ret_bool (by unfold isSetB;rw[Hgr.out];simp;omega),hE0.trans hE⟩
theorem sIsSet_any(v:Value)(l:List Int)(a:Int)(w:World)(h:Ints w v l) :
 Calls Tryz.prog 126 #[.agg #[v],.int .i64 a] w fun e w'=>e=.returned (.bool (isSetB l a))∧Ext w w':=by
 have hE0:=(Ext.refl w).alloc (.cells #[v] 27)
 have hE:=Ext.refl (w.alloc (.cells #[v] 27))
 have hb:=box_cell w v 27
 have hg:∀W,Ext (w.alloc (.cells #[v] 27)) W→Ints W v l:=fun W hW=>h.ext (hE0.trans hW)
 clear h
 cases hgr:isGrp l
 · have Hgr:=Lib.hid hgr
   go_enter Tryz.func126,Tryz.ntmps126
   go_wp2_with (first | (go_at_call 100;refine (sIsGroup_any _ _ _ (hg _ hE)).mono ?_;rintro e w' ⟨rfl,hE'⟩;replace hE:=hE.trans hE';clear hE'))
   go_ret
   exact⟨ret_bool (by unfold isSetB;rw[Hgr.out];rfl),hE0.trans hE⟩
 · have Hgr:=Lib.hid hgr
   have hsh:=ishl_one (n:=ord l) (by have:=ord_bd hgr;omega)
   have hp1:=pw_pos (ord l)
   have hp2:=pw_le (ord_bd hgr).2
   go_enter Tryz.func126,Tryz.ntmps126
   go_wp2_with (first | (go_at_call 100;refine (sIsGroup_any _ _ _ (hg _ hE)).mono ?_;rintro e w' ⟨rfl,hE'⟩;replace hE:=hE.trans hE';clear hE') | (go_at_call 59;refine (l2Order_any _ _ _ (hg _ hE) (Hgr)).mono ?_;rintro e w' ⟨rfl,hE'⟩;replace hE:=hE.trans hE';clear hE') | (go_at_call 139;refine (l1In_any _ _ _ _).mono ?_;rintro e w' ⟨rfl,rfl⟩))
   go_ret
   exact⟨ret_bool (by have:=pw_int (ord l);unfold isSetB inB;rw[Hgr.out,Bool.eq_iff_iff];simp;omega),hE0.trans hE⟩
theorem bits_any(a:Nat)(ha:a<2 ^ 24)(w:World) :
 Calls Tryz.prog 98 #[.int .i64 a] w fun e w'=>e=.returned (.int .i64 (cnt a:Int))∧w=w':=by
 have hc:=cnt_le a
 go_enter Tryz.func98,Tryz.ntmps98
 go_wp2_with fail
 go_loop [0,3] (fun x n=>∃b m:Nat,b<2 ^ 24∧m+cnt b=cnt a∧x=.int .i64 b∧n=.int .i64 m) (fun x _=>(intOf x).toNat)
 case atStart=>exact⟨a,0,ha,by omega,rfl,rfl⟩
 case round =>
  obtain⟨b,m,hb,hm,rfl,rfl⟩:=hrel
  have Hm:=Lib.hid hm
  have hm':m≤24:=by omega
  clear hm
  by_cases h0:b=0
  · subst h0
    go_wp2_with fail
    go_ret
    exact⟨ret_int (by have:=Hm.out;rw[cnt_zero] at this;omega),rfl⟩
  · have hne:((b:Int) != 0)=true:=by simp;omega
    have hb2:b<16777216:=hb
    have e1:(b:Int) - 1=((b - 1:Nat):Int):=by omega
    have hand:iand (b:Int) ((b:Int) - 1)=((b &&& (b - 1):Nat):Int):=by rw[e1];exact iand_nat (by omega) (by omega)
    clear e1
    go_wp2_with fail
    go_round
    case rel=>exact⟨b &&& (b - 1),m+1,Nat.and_lt_two_pow _ (by omega),by have:=cnt_drop (by omega:0<b) hb;have:=Hm.out;omega,rfl,by go_num⟩
    case measure=>(simp[intOf];have:=Nat.and_le_right (n:=b) (m:=b - 1);omega)
theorem l3Bits_any(a:Nat)(ha:a<2 ^ 24)(w:World) :
 Calls Tryz.prog 125 #[.int .i64 a] w fun e w'=>e=.returned (.int .i64 (cnt a:Int))∧w=w':=by
 have hc:=cnt_le a
 go_enter Tryz.func125,Tryz.ntmps125
 go_wp2_with fail
 go_loop [3,4] (fun n x=>∃b m:Nat,b<2 ^ 24∧m+cnt b=cnt a∧x=.int .i64 b∧n=.int .i64 m) (fun _ x=>(intOf x).toNat)
 case atStart=>exact⟨a,0,ha,by omega,rfl,rfl⟩
 case round =>
  obtain⟨b,m,hb,hm,rfl,rfl⟩:=hrel
  have Hm:=Lib.hid hm
  have hm':m≤24:=by omega
  clear hm
  by_cases h0:b=0
  · subst h0
    go_wp2_with fail
    go_ret
    exact⟨ret_int (by have:=Hm.out;rw[cnt_zero] at this;omega),rfl⟩
  · have hpos:0<(b:Int):=by omega
    have hb2:b<16777216:=hb
    have hand:iand (b:Int) 1=((b % 2:Nat):Int):=iand_one (by omega)
    have hshr:ishr (b:Int) 1=((shr b 1:Nat):Int):=ishr_nat (a:=b) (n:=1) (by omega)
    have hmod:b % 2≤1:=by omega
    go_wp2_with fail
    go_round
    case rel=>exact⟨b / 2,m+b % 2,by omega,by have:=cnt_half b hb;have:=Hm.out;omega,by rw[shr_one],by go_num⟩
    case measure=>(simp[intOf,shr_one];omega)
end Go.Zz
namespace Go.Zz
open Go.RowKit Go.Proofs
set_option maxHeartbeats 400000
theorem infoI:(Tryz.prog.info? 3).map (fun i=>(i.zero,i.size,i.bytes))=some (some (.int .i64 0),1,8):=by kernel_rfl
theorem slI:IntSl Tryz.prog 22 3:=⟨by kernel_rfl,info_parts infoI⟩
theorem slicesEqual_any(v u:Value)(l m:List Int)(w:World)(h:Ints w v l)(k:Ints w u m) :
 Calls Tryz.prog 137 #[v,u] w fun e w'=>e=.returned (.bool (decide (l=m)))∧Ext w w':=by
 obtain⟨ao,c,adr,rfl,hlen,hadr,hcell⟩:=h.op
 have hix:=ints_index (c:=c) elI szI hadr
 obtain⟨ao2,c2,adr2,rfl,hlen2,hadr2,hcell2⟩:=k.op
 have hix2:=ints_index (c:=c2) elI szI hadr2
 clear hadr hadr2 h k
 have hE:=Ext.refl w
 by_cases hl:l.length=m.length
 · have hl1:((l.length:Int) != (m.length:Int))=false:=by simp[hl]
   have Hl:=Lib.hid hl
   clear hl
   go_enter Tryz.func137,Tryz.ntmps137
   go_wp2_with fail
   go_loopw [13] (fun i wr=>∃k:Nat,k≤l.length∧(∀j,j<k→nth l j=nth m j)∧i=.int .i64 k∧Ext w wr) (fun i _=>l.length - (intOf i).toNat)
   case atStart=>exact⟨0,by omega,by omega,rfl,hE⟩
   case round =>
    clear hE
    obtain⟨k,hk,hall,rfl,hE⟩:=hrel
    have Hall:=Lib.hid hall
    clear hall
    by_cases hlt:k<l.length
    · have hlt2:k<m.length:=by have:=Hl.out;omega
      have hck:=fun U=>hcell k _ hlt (lat_ext w U)
      have hck2:=fun U=>hcell2 k _ hlt2 (lat_ext w U)
      by_cases he:nth l k=nth m k
      · have he1:(nth l k != nth m k)=false:=by simp[he]
        have He:=Lib.hid he
        clear he
        go_wp2_with fail
        (refine wp_region_lat (w) (by kernel_rfl) (by kernel_rfl) hE ?_);(repeat (go_big_quiet_step (first | fail)));(refine wpQuiet_nil ?_);(intro W hE');(replace hE:=lat_of hE');(clear hE')
        go_wp2_with fail
        go_roundw
        case rel=>exact⟨k+1,by omega,fun j hj=>by by_cases e:j=k;(subst e;exact He.out);exact Hall.out j (by omega),by go_num,hE⟩
        case measure=>(simp[intOf];omega)
      · have he1:(nth l k != nth m k)=true:=by simp[he]
        have He:=Lib.hid he
        clear he
        go_wp2_with fail
        (refine wp_region_lat (w) (by kernel_rfl) (by kernel_rfl) hE ?_);(repeat (go_big_quiet_step (first | fail)));(refine wpQuiet_nil ?_);(intro W hE');(replace hE:=lat_of hE');(clear hE')
        go_wp2_with fail
        go_ret
        exact⟨ret_bool (by symm;rw[decide_eq_false_iff_not];intro e;exact He.out (by rw[e])),hE⟩
    · have hkl:k=l.length:=by omega
      subst hkl
      go_wp2_with fail
      go_ret
      exact⟨ret_bool (by symm;rw[decide_eq_true_iff];exact ext_nth Hl.out Hall.out),hE⟩
 · have hl1:((l.length:Int) != (m.length:Int))=true:=by simp;omega
   have Hl:=Lib.hid hl
   clear hl
   go_enter Tryz.func137,Tryz.ntmps137
   go_wp2_with fail
   go_ret
   exact⟨ret_bool (by symm;rw[decide_eq_false_iff_not];intro e;exact Hl.out (by rw[e])),hE⟩
theorem l30Same_any(v u:Value)(l m:List Int)(w:World)(h:Ints w v l)(k:Ints w u m) :
 Calls Tryz.prog 88 #[v,u] w fun e w'=>e=.returned (.bool (decide (l=m)))∧Ext w w':=by
 obtain⟨ao,c,adr,rfl,hlen,hadr,hcell⟩:=h.op
 have hix:=ints_index (c:=c) elI szI hadr
 obtain⟨ao2,c2,adr2,rfl,hlen2,hadr2,hcell2⟩:=k.op
 have hix2:=ints_index (c:=c2) elI szI hadr2
 clear hadr hadr2 h k
 have hE:=Ext.refl w
 by_cases hl:l.length=m.length
 · have hl1:((l.length:Int) != (m.length:Int))=false:=by simp[hl]
   have Hl:=Lib.hid hl
   clear hl
   go_enter Tryz.func88,Tryz.ntmps88
   go_wp2_with fail
   go_loopw [5] (fun i wr=>∃k:Nat,k≤l.length∧(∀j,j<k→nth l j=nth m j)∧i=.int .i64 k∧Ext w wr) (fun i _=>l.length - (intOf i).toNat)
   case atStart=>exact⟨0,by omega,by omega,rfl,hE⟩
   case round =>
    clear hE
    obtain⟨k,hk,hall,rfl,hE⟩:=hrel
    have Hall:=Lib.hid hall
    clear hall
    by_cases hlt:k<l.length
    · have hlt2:k<m.length:=by have:=Hl.out;omega
      have hck:=fun U=>hcell k _ hlt (lat_ext w U)
      have hck2:=fun U=>hcell2 k _ hlt2 (lat_ext w U)
      by_cases he:nth l k=nth m k
      · have he1:(nth l k != nth m k)=false:=by simp[he]
        have He:=Lib.hid he
        clear he
        go_wp2_with fail
        (refine wp_region_lat (w) (by kernel_rfl) (by kernel_rfl) hE ?_);(repeat (go_big_quiet_step (first | fail)));(refine wpQuiet_nil ?_);(intro W hE');(replace hE:=lat_of hE');(clear hE')
        go_wp2_with fail
        go_roundw
        case rel=>exact⟨k+1,by omega,fun j hj=>by by_cases e:j=k;(subst e;exact He.out);exact Hall.out j (by omega),by go_num,hE⟩
        case measure=>(simp[intOf];omega)
      · have he1:(nth l k != nth m k)=true:=by simp[he]
        have He:=Lib.hid he
        clear he
        go_wp2_with fail
        (refine wp_region_lat (w) (by kernel_rfl) (by kernel_rfl) hE ?_);(repeat (go_big_quiet_step (first | fail)));(refine wpQuiet_nil ?_);(intro W hE');(replace hE:=lat_of hE');(clear hE')
        go_wp2_with fail
        go_ret
        exact⟨ret_bool (by symm;rw[decide_eq_false_iff_not];intro e;exact He.out (by rw[e])),hE⟩
    · have hkl:k=l.length:=by omega
      subst hkl
      go_wp2_with fail
      go_ret
      exact⟨ret_bool (by symm;rw[decide_eq_true_iff];exact ext_nth Hl.out Hall.out),hE⟩
 · have hl1:((l.length:Int) != (m.length:Int))=true:=by simp;omega
   have Hl:=Lib.hid hl
   clear hl
   go_enter Tryz.func88,Tryz.ntmps88
   go_wp2_with fail
   go_ret
   exact⟨ret_bool (by symm;rw[decide_eq_false_iff_not];intro e;exact Hl.out (by rw[e])),hE⟩
def marks(k:Int)(n:Nat):List Int:=(List.range n).map (fun i:Nat=>k+(i:Int))
theorem Own.stored_grown{TI:TypeId}{w0 w:World}{g c n:Nat}{l:List Int}(h:Own TI w0 w (.slice (some ⟨g,0,none⟩) n c) l)(hn:l.length=n)(j:Nat)(y:Int) :
 Own TI w0 (w.setCell ⟨g,j,none⟩ (.int .i64 y)) (.slice (some ⟨g,0,none⟩) n c) (l.set j y)∧w.grownBy (w.setCell ⟨g,j,none⟩ (.int .i64 y)) (some g):=by
 subst hn
 exact⟨h.stored j y,(World.ownsRow.stored h.1 j (.int .i64 y)).2⟩
theorem grownBy_trans{a b c:World}{row:Option Nat}(h:a.grownBy b row)(k:b.grownBy c row):a.grownBy c row :=
 ⟨k.os.trans h.os,k.tape.trans h.tape,k.output.trans h.output,Nat.le_trans h.size k.size,fun i hi hne=>(k.block i (Nat.lt_of_lt_of_le hi h.size) hne).trans (h.block i hi hne)⟩
end Go.Zz
namespace Go.Zz
open Go.RowKit Go.Proofs
set_option maxHeartbeats 400000
theorem members_any(a:Nat)(ha:a<2 ^ 24)(w:World) :
 Calls Tryz.prog 153 #[.int .i64 a] w fun e w'=>∃v,e=.returned v∧Own 3 w w' v (castL (elems a))∧Ext w w':=by
 have hO0:=own_made (TI:=3) (n:=0) (by omega) (Ext.refl w) [] rfl
 have hE0:=(Ext.refl w).alloc (.cells #[] 3)
 go_enter Tryz.func153,Tryz.ntmps153
 go_wp2_with fail
 go_loopw [3,4] (fun v x wr=>∃k:Nat,k≤24∧x=.int .i64 k∧Own 3 w wr v (castL (elemsTo a k))∧Ext w wr) (fun _ x _=>24 - (intOf x).toNat)
 case atStart=>exact⟨0,by omega,rfl,hO0,hE0⟩
 case round =>
  obtain⟨k,hk,rfl,hO,hE⟩:=hrel
  have hsh:=ishr_nat (a:=a) (n:=k) (by omega)
  by_cases h0:shr a k=0
  · have he:=Lib.hid (elemsTo_all hk (shr_zero.1 h0))
    have h0':((shr a k:Nat):Int)=0:=by rw[h0];rfl
    clear h0
    go_wp2_with fail
    go_ret
    exact⟨_,rfl,by rw[←he.out];exact hO,hE⟩
  · have hlt:=shr_pos h0 ha
    have hne:=ne_zero_t h0
    have hbt:=bit_test' (a:=a) (n:=k) (by omega) (by omega)
    have hs:=Lib.hid (elemsTo_succ a k)
    have hln:(castL (elemsTo a k)).length≤24:=by rw[castL_len];have:=elemsTo_len a k;omega
    clear h0
    cases hb:a.testBit k
    · rw[hb] at hbt
      have Hb:=Lib.hid hb
      clear hb
      go_wp2_with fail
      go_roundw
      case rel=>exact⟨k+1,by omega,by go_num,by rw[hs.out,Hb.out];simpa using hO,hE⟩
      case measure=>(simp[intOf];omega)
    · rw[hb] at hbt
      have Hb:=Lib.hid hb
      clear hb
      go_wp2_with (at_builtin;refine wp_append1 slI rfl _ _ rfl w _ _ _ _ hO hE (by omega) rfl rfl ?_;intro v1 w1 hO1 hE1)
      go_roundw
      case rel=>exact⟨k+1,by omega,by go_num,by rw[hs.out,Hb.out];simpa[castL_snoc] using hO1,hE1⟩
      case measure=>(simp[intOf];omega)
theorem l3List_any(a:Nat)(ha:a<2 ^ 24)(w:World) :
 Calls Tryz.prog 108 #[.int .i64 a] w fun e w'=>∃v,e=.returned v∧Own 3 w w' v (castL (elems a))∧Ext w w':=by
 have hO0:=own_made (TI:=3) (n:=0) (by omega) (Ext.refl w) [] rfl
 have hE0:=(Ext.refl w).alloc (.cells #[] 3)
 go_enter Tryz.func108,Tryz.ntmps108
 go_wp2_with fail
 go_loopw [3,4,5] (fun v i x wr=>∃k:Nat,k≤24∧i=.int .i64 k∧x=.int .i64 ((shr a k:Nat):Int)∧Own 3 w wr v (castL (elemsTo a k))∧Ext w wr) (fun _ i _ _=>24 - (intOf i).toNat)
 case atStart=>exact⟨0,by omega,rfl,rfl,hO0,hE0⟩
 case round =>
  obtain⟨k,hk,rfl,rfl,hO,hE⟩:=hrel
  by_cases h0:shr a k=0
  · have he:=Lib.hid (elemsTo_all hk (shr_zero.1 h0))
    have h0':((shr a k:Nat):Int)=0:=by rw[h0];rfl
    clear h0
    go_wp2_with fail
    go_ret
    exact⟨_,rfl,by rw[←he.out];exact hO,hE⟩
  · have hlt:=shr_pos h0 ha
    have hpos:0<((shr a k:Nat):Int):=by omega
    have hbt:=bit_test' (a:=a) (n:=k) (by omega) (by omega)
    have hsh:ishr ((shr a k:Nat):Int) 1=((shr a (k+1):Nat):Int):=by rw[←shr_shr];exact ishr_nat (n:=1) (by omega)
    have hs:=Lib.hid (elemsTo_succ a k)
    have hln:(castL (elemsTo a k)).length≤24:=by rw[castL_len];have:=elemsTo_len a k;omega
    clear h0
    cases hb:a.testBit k
    · rw[hb] at hbt
      have Hb:=Lib.hid hb
      clear hb
      go_wp2_with fail
      go_roundw
      case rel=>exact⟨k+1,by omega,by go_num,rfl,by rw[hs.out,Hb.out];simpa using hO,hE⟩
      case measure=>(simp[intOf];omega)
    · rw[hb] at hbt
      have Hb:=Lib.hid hb
      clear hb
      go_wp2_with (at_builtin;refine wp_append1 slI rfl _ _ rfl w _ _ _ _ hO hE (by omega) rfl rfl ?_;intro v1 w1 hO1 hE1)
      go_roundw
      case rel=>exact⟨k+1,by omega,by go_num,rfl,by rw[hs.out,Hb.out];simpa[castL_snoc] using hO1,hE1⟩
      case measure=>(simp[intOf];omega)
end Go.Zz
