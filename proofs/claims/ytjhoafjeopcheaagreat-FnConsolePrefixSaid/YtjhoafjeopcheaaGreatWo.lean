/- Short words for what recurs in the texts: a later world, a struct parameter in its box, a callee whose value is told. -/
import Derived.Test.YtjhoafjeopcheaaGreatProg
import Derived.Test.YtjhoafjeopcheaaGreatGr2
set_option linter.all false
set_option maxHeartbeats 400000
theorem Go.RowKit.Hid.o{p:Prop}(h:Go.RowKit.Hid p):p:=h.out
namespace Go.Zz
open Go.RowKit Go.Proofs
variable{w:World}{v:Value}{b c:Nat}{P:Program}{f:FuncId}{a:Array Value}
theorem xq{w w':World}(h:Ext w w':=by repeat(first|assumption|exact Ext.refl _|(apply And.left;assumption)|apply Ext.drew|apply Ext.alloc)):Ext w w':=h
theorem m04{l:LI}(T:TypeId)(h:c8 w v l):∃B,Hid (B=w.alloc (.cells #[v] T))/\Ext w B/\(∀W,Ext B W->W.cell? (aD w.heap.size 0)=some v)/\(∀W,Ext B W->c8 W v l)/\Ext B B/\Hid (w.heap.size+1=B.heap.size) :=
 have F:=(Ext.refl w).alloc (.cells #[v] T)
 ⟨_,Lib.hid rfl,F,d8 w v T,fun W D=>h.ext (F.trans D),Ext.refl _,Lib.hid (by simp[go_sem])⟩
theorem cx{B:World}{Q:Ending->World->Prop}(h:Calls P f a w fun e W=>e=.returned v/\Ext w W)(E:Ext B w)(k:∀W,Ext B W->Q (.returned v) W):Calls P f a w Q :=
 h.mono fun _ W ⟨U,H⟩=>U ▸ k W (E.trans H)
theorem xr{w w':World}(h:Ext w w':=by repeat(first|(with_reducible assumption)|(with_reducible exact Ext.refl _)|(with_reducible apply Ext.drew)|(with_reducible apply Ext.alloc)|(with_reducible (apply And.left;assumption)))):Ext w w':=h
theorem zq0{P:Prop}(h:P:=by repeat(first|(with_reducible assumption)|(with_reducible exact Blk.new _ _ _)|((with_reducible refine Blk.new' ?_);simp[go_sem];done)|(with_reducible apply Blk.alloc)|(with_reducible apply Blk.drew))):P:=h
theorem zq1{P:Prop}(h:P:=by repeat(first|(with_reducible assumption)|(with_reducible exact Blk.new _ _ _)|((with_reducible refine Blk.new' ?_);simp[go_sem];done)|(with_reducible apply Blk.alloc)|(with_reducible apply Blk.drew)|(with_reducible refine Blk.ext ?_ hEC))):P:=h
theorem zq2{P:Prop}(h:P:=by repeat(first|(with_reducible assumption)|(with_reducible exact Blk.new _ _ _)|((with_reducible refine Blk.new' ?_);simp[go_sem];done)|(with_reducible apply Blk.alloc)|(with_reducible apply Blk.drew)|(with_reducible refine Blk.ext ?_ hXC))):P:=h
theorem zm1{P:Prop}(h:P:=by simp[RowKit.intOf];omega):P:=h
theorem zg{P:Prop}(h:P:=by go_num):P:=h
theorem er(w:World):Ext w w:=Ext.refl w
theorem nlt{a:Nat}(h:a<b)(k:b<=c):a<c:=Nat.lt_of_lt_of_le h k
theorem nle{a:Nat}(h:a<=b)(k:b<=c):a<=c:=Nat.le_trans h k
theorem om{P:Prop}(h:P:=by omega):P:=h
theorem zm{P:Prop}(h:P:=by simp):P:=h
theorem zh{P:Prop}(h:P):Hid P:=Lib.hid h
theorem nq{α:Type}(a:α):∃x,x=a:=⟨a,rfl⟩
theorem wl{P:Program}{id:Nat}{Q:Exit->Act->World->Prop}{a:Act}{w w0:World}{l:List Oper}(hE:Ext w0 w)(h:wpQuiet P l.toArray (fun W=>∃U,W=Lat w0 U) (fun a'=>∀w',(∃U,w'=Lat w0 U)->Q .normal a' w') l a)(hm:P.follows .mixedOrders=true:=by kernel_rfl)(hB:Region.lexB .any l.toArray=true:=by kernel_rfl):(Code.region id l.toArray true).wp P Q a w:=d6 w0 hm hB hE h
theorem zd{p:Program}{o:Array Oper}{C:World->Prop}{Q:Act->World->Prop}{a:Act}{P:World}(h:∀e,Ext P e->Q a e):wpQuiet p o C (fun A=>∀e,(∃U,e=Lat P U)->Q A e) [] a:=wpQuiet_nil fun e H=>h e (j4 H)
abbrev RE(w:World)(v:Value):Ending->World->Prop:=fun e W=>e=.returned v/\Ext w W
theorem cm{R:World->Prop}{Q:Ending->World->Prop}(h:Calls P f a w fun e W=>e=.returned v/\R W)(k:∀W,R W->Q (.returned v) W):Calls P f a w Q :=
 h.mono fun _ W ⟨H,r⟩=>H ▸ k W r
theorem zso{P:Prop}(h:P:=by simp;omega):P:=h
theorem br{P:Program}{fn:Func}{R:Ending->World->Prop}{a:Act}{w:World}{t u:Tmp}(v:Value)(hR:R (.returned v) w)(h:fn.results=#[.tmp t,.tmp u]:=by rfl)(hv:Value.tuple #[a.tmps.getD t undef,a.tmps.getD u undef]=v:=by rfl)(hd:a.defers=[]:=by rfl):bodyPost P fn R .ret a w :=
 bodyPost_ret (by rw[<-hv];exact results_tmp2 h _ _ _) hd hR
theorem sh{p:World->Prop}{a b:World}(D:Ext a b)(H:∀W,Ext a W->p W):∀W,Ext b W->p W:=fun W h=>H W (D.trans h)
theorem Blk.atc{T:TypeId}{c:Array Value}(h:Blk w b T c)(i:Nat)(J:c[i]?=some v):∀W,Ext w W->W.cell? (aD b i)=some v:=fun _ e=>(h.ext e).cell J
abbrev oa:=@Calls.lat
abbrev od:=@Go.Calls.mono
abbrev og:=@Ext.trans
abbrev oq:=@Blk.new
abbrev oD:=@Go.IntWalk.i64_in
abbrev oL:=@Own.nil
abbrev oQ:=@Ext.alloc
abbrev oT:=@Calls.lat_same
abbrev oV:=@Own.setCell_below
abbrev oZ:=@Ext.setCell
abbrev pe:=@Go.Addr.add_lit
abbrev pi:=@Go.ByteArray.toList_eq
abbrev pB:=@Ext.drew
abbrev pQ:=@Go.RowKit.Below.heap_setCell
abbrev qk:=@Go.World.ownsRow_lit
abbrev qp:=@Blk.alloc
abbrev qD:=@Blk.drew
end Go.Zz
