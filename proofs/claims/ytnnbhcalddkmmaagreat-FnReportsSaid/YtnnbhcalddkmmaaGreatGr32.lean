/- How a law's slice of bytes is read. -/
import Derived.Test.YtnnbhcalddkmmaaGreatOp
import Derived.Test.YtnnbhcalddkmmaaGreatGr5
set_option linter.unusedSimpArgs false
set_option linter.unusedVariables false
set_option linter.unnecessarySimpa false
namespace Go.Zz
open Go.ChangeShapes Go.WideShapes Go.ChangeAt Go.RowKit Go.Joins Go.Deep
section
variable {H:Type} {enc:TypeId × Value->H} {P:Program} {w:World} {held:Bool}
theorem byt_arg{T TI:TypeId}{r:Reach}{b:Nat}{v:Value}{d:DataW H}{p:List MemPlace}(ht:P.underlying T=some (.slice TI))(he:P.underlying TI=some (.int .u8))(hc:P.cellsOf TI=1)(hb:P.bytesOf TI=1)
 (hv:Value.okWide P w r b T v) (h:DataW.Trod enc P w 0 (fun _=>true) held T v d p) (hw:∀k∈d.weights P T,k<=reachBytes):∃l,V4 w v l:=by
 obtain⟨a,len,cap,rfl⟩:=okWide_slice ht hv;obtain⟨fuel,hf⟩:=h;rcases open_ints ht he hc hf with ⟨hcs,_⟩ | ⟨a,len,cap,zs,hcs,_,hl,_,hz,hx,hcell,hwz⟩
 . simp[Value.cells] at hcs;obtain⟨rfl,rfl,rfl⟩:=hcs;exact⟨[],none,0,rfl,zm,fun i=>by simp[nth],zm⟩
 . simp[Value.cells] at hcs;obtain⟨rfl,rfl,rfl⟩:=hcs;simp at hz;have hlen:(zs.take len).length=len:=(by simp;omega);simp only[Prod.mk.injEq] at hx;have:=hw (((lits (H:=H) .u8 (zs.take len)).length+(lits (H:=H) .u8 (zs.drop len)).length)*P.bytesOf TI) (by rw[hx.1];simp[DataW.weights,ht]);rw[hb] at this;simp only[lits,List.length_map,List.length_take,List.length_drop,reachBytes] at this;refine⟨zs.take len,some a,cap,by rw[hlen],om,fun i=>?_,fun i hi=>⟨a,rfl,?_⟩⟩
   . have:=range_u8 (zs:=zs.take len) (fun n hn=>hwz n (List.mem_of_mem_take hn)) i;simpa[nth,List.getD_eq_getElem?_getD] using this
   . rw[hcell i om];simp only[nth];rw[List.getD_eq_getElem?_getD,List.getD_eq_getElem?_getD,List.getElem?_take_of_lt om]
end
end Go.Zz
