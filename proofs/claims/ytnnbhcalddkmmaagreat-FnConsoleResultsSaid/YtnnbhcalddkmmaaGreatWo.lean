/- Short words for what recurs in the texts: a later world, a struct parameter in its box, a callee whose value is told. -/
import Derived.Test.YtnnbhcalddkmmaaGreatProg
import Derived.Test.YtnnbhcalddkmmaaGreatGr2
import Derived.Lib.Hide
namespace Go.Zz
open Go.RowKit Go.Proofs
set_option maxHeartbeats 400000
theorem xq{w w':World}(h:Ext w w':=by repeat (first | assumption | exact Ext.refl _ | (apply And.left;assumption) | apply Ext.drew | apply Ext.alloc)):Ext w w':=h
theorem j60{w:World}{v:Value}{l:List Int}(T:TypeId)(h:c8 w v l):∃wb,Hid (wb=w.alloc (.cells #[v] T))∧Ext w wb∧(∀W,Ext wb W→W.cell? ⟨w.heap.size,0,none⟩=some v)∧(∀W,Ext wb W→c8 W v l)∧Ext wb wb∧Hid (w.heap.size+1=wb.heap.size) :=
 have hE0:=(Ext.refl w).alloc (.cells #[v] T)
 ⟨_,Lib.hid rfl,hE0,d7 w v T,fun W hW=>h.ext (hE0.trans hW),Ext.refl _,Lib.hid (by simp[go_sem])⟩
theorem cx{P:Program}{f:FuncId}{args:Array Value}{wb w:World}{v:Value}{Q:Ending→World→Prop}(h:Calls P f args w fun e w'=>e=.returned v∧Ext w w')(hE:Ext wb w)(k:∀w',Ext wb w'→Q (.returned v) w'):Calls P f args w Q :=
 h.mono fun _ w' ⟨he,hE'⟩=>he ▸ k w' (hE.trans hE')
end Go.Zz
