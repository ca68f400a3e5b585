/- Short words for what recurs in the texts: a later world, a struct parameter in its box, a callee whose value is told. -/
import Derived.Test.YtnnbhcalddkmmaaGreatProg
import Derived.Test.YtnnbhcalddkmmaaGreatGr2
set_option linter.unusedSimpArgs false
set_option linter.unusedVariables false
set_option linter.unnecessarySimpa false
set_option maxHeartbeats 400000
namespace Go.Zz
open Go.RowKit Go.Proofs
theorem xq{w w':World}(h:Ext w w':=by repeat (first | assumption | exact Ext.refl _ | (apply And.left;assumption) | apply Ext.drew | apply Ext.alloc)):Ext w w':=h
theorem ju3{w:World}{v:Value}{l:List Int}(T:TypeId)(h:c9 w v l):∃wb,Hid (wb=w.alloc (.cells #[v] T))∧Ext w wb∧(∀W,Ext wb W->W.cell? ⟨w.heap.size,0,none⟩=some v)∧(∀W,Ext wb W->c9 W v l)∧Ext wb wb∧Hid (w.heap.size+1=wb.heap.size) :=
 have hE0:=(Ext.refl w).alloc (.cells #[v] T)
 ⟨_,Lib.hid rfl,hE0,j0 w v T,fun W hW=>h.ext (hE0.trans hW),Ext.refl _,Lib.hid (by simp[go_sem])⟩
theorem cx{P:Program}{f:FuncId}{args:Array Value}{wb w:World}{v:Value}{Q:Ending->World->Prop}(h:Calls P f args w fun e w'=>e=.returned v∧Ext w w')(hE:Ext wb w)(k:∀w',Ext wb w'->Q (.returned v) w'):Calls P f args w Q :=
 h.mono fun _ w' ⟨he,hE'⟩=>he ▸ k w' (hE.trans hE')
theorem xr{w w':World}(h:Ext w w':=by repeat (first | (with_reducible assumption) | (with_reducible exact Ext.refl _) | (with_reducible apply Ext.drew) | (with_reducible apply Ext.alloc) | (with_reducible (apply And.left;assumption)))):Ext w w':=h
theorem zq0{P:Prop}(h:P:=by repeat (first | (with_reducible assumption) | (with_reducible exact Blk.new _ _ _) | ((with_reducible refine Blk.new' ?_);simp[go_sem];done) | (with_reducible apply Blk.alloc) | (with_reducible apply Blk.drew))):P:=h
theorem zq1{P:Prop}(h:P:=by repeat (first | (with_reducible assumption) | (with_reducible exact Blk.new _ _ _) | ((with_reducible refine Blk.new' ?_);simp[go_sem];done) | (with_reducible apply Blk.alloc) | (with_reducible apply Blk.drew) | (with_reducible refine Blk.ext ?_ hEC))):P:=h
theorem zq2{P:Prop}(h:P:=by repeat (first | (with_reducible assumption) | (with_reducible exact Blk.new _ _ _) | ((with_reducible refine Blk.new' ?_);simp[go_sem];done) | (with_reducible apply Blk.alloc) | (with_reducible apply Blk.drew) | (with_reducible refine Blk.ext ?_ hXC))):P:=h
theorem zm1{P:Prop}(h:P:=by simp[RowKit.intOf];omega):P:=h
theorem zg{P:Prop}(h:P:=by go_num):P:=h
theorem er(w:World):Ext w w:=Ext.refl w
theorem nlt{a b c:Nat}(h:a<b)(k:b<=c):a<c:=Nat.lt_of_lt_of_le h k
theorem nle{a b c:Nat}(h:a<=b)(k:b<=c):a<=c:=Nat.le_trans h k
theorem om{P:Prop}(h:P:=by omega):P:=h
theorem zm{P:Prop}(h:P:=by simp):P:=h
theorem zh{P:Prop}(h:P):Hid P:=Lib.hid h
theorem nq{α:Type}(a:α):∃x,x=a:=⟨a,rfl⟩
theorem wl{P:Program}{id:Nat}{Q:Exit->Act->World->Prop}{a:Act}{w w0:World}{l:List Oper}(hE:Ext w0 w)(h:wpQuiet P l.toArray (fun W=>∃U,W=Lat w0 U) (fun a'=>∀w',(∃U,w'=Lat w0 U)->Q .normal a' w') l a)(hm:P.follows .mixedOrders=true:=by kernel_rfl)(hB:Region.lexB .any l.toArray=true:=by kernel_rfl):(Code.region id l.toArray true).wp P Q a w:=d9 w0 hm hB hE h
theorem zd{P:Program}{ops:Array Oper}{C:World->Prop}{Q:Act->World->Prop}{a:Act}{w0:World}(h:∀w',Ext w0 w'->Q a w'):wpQuiet P ops C (fun a'=>∀w',(∃U,w'=Lat w0 U)->Q a' w') [] a:=wpQuiet_nil fun w' hU=>h w' (j8 hU)
end Go.Zz
