/- slices.Sort and slices.Compact at numbers that a call owns. -/
import Derived.Test.YtnnbhcalddkmmaaGreatLz
import Derived.Test.YtnnbhcalddkmmaaGreatGr10
set_option linter.unusedSimpArgs false
set_option linter.unusedVariables false
set_option linter.unnecessarySimpa false
set_option maxHeartbeats 1000000
set_option maxRecDepth 8000
namespace Go.Zz
open Go.RowKit Go.Proofs Go.Sort
theorem cb5(d:Array Int)(hs:∀i j,i<j->j<d.size->d[i]!<=d[j]!):∀m,m<=d.size ->
 (Lib.compactUpTo d m).Pairwise (· < ·)∧(∀x,x∈Lib.compactUpTo d m↔∃i,i<m∧d[i]! =x)∧(∀x∈Lib.compactUpTo d m,x<=d[m - 1]!)
 | 0,_=>by simp[Lib.compactUpTo]
 | m+1,hm=>by
  obtain⟨h1,h2,h3⟩:=cb5 d hs m om
  rw[Lib.compactUpTo_succ]
  by_cases hk:Lib.keeps d m=true
  . rw[if_pos hk]
    have hlt:∀x∈Lib.compactUpTo d m,x<d[m]!:=fun x hx=>by
     have q1:=h3 x hx
     obtain⟨i,hi,-⟩:=(h2 x).1 hx
     have q2:=hs (m - 1) m om om
     have q3:d[m - 1]!≠d[m]!:=by
      simp only[Lib.keeps,decide_eq_true_iff] at hk;rcases hk with hk | hk
      . omega
      . exact fun e=>hk e.symm
     omega
    refine⟨?_,?_,?_⟩
    . rw[List.pairwise_append]
      exact⟨h1,zm,fun a ha b hb=>by rw[List.mem_singleton] at hb;subst hb;exact hlt a ha⟩
    . intro x
      rw[List.mem_append,h2,List.mem_singleton]
      constructor
      . rintro (⟨i,hi,e⟩ | e)
        . exact⟨i,om,e⟩
        . exact⟨m,om,e.symm⟩
      . rintro⟨i,hi,e⟩
        by_cases hi':i<m
        . exact Or.inl ⟨i,hi',e⟩
        . have:i=m:=by omega
          subst this;exact Or.inr e.symm
    . intro x hx
      rw[Nat.add_sub_cancel]
      rw[List.mem_append,List.mem_singleton] at hx
      rcases hx with hx | rfl
      . exact Int.le_of_lt (hlt x hx)
      . exact Int.le_refl _
  . rw[if_neg hk,List.append_nil]
    have hm0:m≠0:=fun e=>hk (by subst e;simp[Lib.keeps])
    have he:d[m - 1]! =d[m]!:=by
     by_cases e:d[m - 1]! =d[m]!
     . exact e
     . exact absurd (by simp only[Lib.keeps];exact decide_eq_true (Or.inr fun e'=>e e'.symm)) hk
    refine⟨h1,fun x=>?_,fun x hx=>by rw[Nat.add_sub_cancel,<-he];exact h3 x hx⟩
    rw[h2]
    constructor
    . rintro⟨i,hi,e⟩;exact⟨i,om,e⟩
    . rintro⟨i,hi,e⟩
      by_cases hi':i<m
      . exact⟨i,hi',e⟩
      . have:i=m:=by omega
        subst this;exact⟨i - 1,om,by rw[he];exact e⟩
theorem cr5(zs:List Int)(hs:zs.Pairwise (·<=·)):(Lib.compact zs).Pairwise (· < ·)∧∀x,x∈Lib.compact zs↔x∈zs:=by
 have h:=cb5 zs.toArray (fun i j hij hj=>by
  have hj':j<zs.length:=by simpa using hj
  have:=List.pairwise_iff_getElem.1 hs i j om hj' hij
  rw[getElem!_pos zs.toArray i (by simp;omega),getElem!_pos zs.toArray j hj]
  simpa using this) zs.length zm
 refine⟨h.1,fun x=>?_⟩;unfold Lib.compact;rw[h.2.1];constructor
 . rintro⟨i,hi,e⟩;rw[getElem!_pos zs.toArray i (by simpa using hi)] at e;rw[<-e];simp
 . intro hx;obtain⟨i,hi,e⟩:=List.getElem_of_mem hx;exact⟨i,hi,by rw[getElem!_pos zs.toArray i (by simpa using hi)];simpa using e⟩
theorem j63{w0 w:World}{v:Value}{l:List Int}(hO:Own 3 w0 w v l)(hE:Ext w0 w)(hn:l.length<=1000000000) :
 Calls Tryz.prog 209 #[v] w fun e w'=>e=.returned (.tuple #[])∧Own 3 w0 w' v (l.mergeSort fun x y=>decide (x<=y))∧Ext w0 w':=by
 have hO':=hO;obtain⟨⟨h1,h2⟩,h3⟩:=hO;have hlen:(l.mergeSort fun x y=>decide (x<=y)).length=l.length:=List.length_mergeSort _;rcases h2 with ⟨rfl,hz⟩ | ⟨g,cap,cur,rfl,hg,hh,hnc,hcm,hcs,htk⟩
 . have hl:l=[]:=List.eq_nil_of_length_eq_zero (by simpa using hz);subst hl;refine (AnyM.slices_Sort_int_none Tryz.laysSort none 0 w).mono ?_;rintro e w' ⟨rfl,rfl⟩;exact⟨rfl,by simpa using hO',hE⟩
 . have hlt:g<w.heap.size:=(Array.getElem?_eq_some_iff.1 hh).1;have hH:=holds_of_blockI (ss:=l) hh (by simpa using htk);refine (AnyM.slices_Sort_int Tryz.laysSort g 0 cap l w hH hlt om).mono ?_;rintro e w' ⟨rfl,n,os,rfl⟩;have hr:=ownsRow_sortedI (n:=n) (os:=os) hlen hg hh (by simpa using hnc) hcm hcs;refine⟨rfl,⟨?_,by rw[hlen];exact h3⟩,hE.grown (grownBy_sortedI _) fun k hk=>by cases hk;exact hg⟩;rw[hlen];exact hr
theorem du5(zs:List Int):(Lib.compact zs).length<=zs.length:=by
 unfold Lib.compact Lib.compactUpTo;exact zz171
theorem d77{w0 w:World}{v:Value}{l:List Int}(hO:Own 3 w0 w v l)(hE:Ext w0 w)(hn:l.length<=1000000000) :
 Calls Tryz.prog 241 #[v] w fun e w'=>∃v',e=.returned v'∧Own 3 w0 w' v' (Lib.compact l)∧Ext w0 w':=by
 have hO':=hO;obtain⟨⟨h1,h2⟩,h3⟩:=hO;have hlen:=du5 l;rcases h2 with ⟨rfl,hz⟩ | ⟨g,cap,cur,rfl,hg,hh,hnc,hcm,hcs,htk⟩
 . have hl:l=[]:=List.eq_nil_of_length_eq_zero (by simpa using hz);subst hl;refine (Any.slices_Compact_int_empty Tryz.laysCompact none 0 w).mono ?_;rintro e w' ⟨rfl,rfl⟩;exact⟨_,rfl,by simpa[Lib.compact,Lib.compactUpTo] using hO',hE⟩
 . have hlt:g<w.heap.size:=(Array.getElem?_eq_some_iff.1 hh).1;have hH:=holds_of_blockI (ss:=l) hh (by simpa using htk);refine (Any.slices_Compact_int Tryz.laysCompact g 0 cap l w hH om (by simpa using hnc)).mono ?_;rintro e w' ⟨rfl,q,rfl⟩;have hll:(Lib.compact l++List.replicate (l.length - (Lib.compact l).length) (0:Int)).length=l.length:=(by rw[List.length_append,List.length_replicate];omega);have hr:=ownsRow_sortedI (n:=q) (os:=#[]) (ss:=l) (ts:=Lib.compact l++List.replicate (l.length - (Lib.compact l).length) (0:Int)) hll hg hh (by simpa using hnc) hcm hcs;have hge:=grownBy_sortedI (w:=w) (g:=g) (n:=q) (os:=#[]) (Lib.compact l++List.replicate (l.length - (Lib.compact l).length) (0:Int)).toArray;rw[Sort.grow_empty] at hr hge;refine⟨_,rfl,⟨?_,om⟩,hE.grown hge fun k hk=>by cases hk;exact hg⟩;obtain⟨-,hr2⟩:=hr;rcases hr2 with ⟨hr2,-⟩ | ⟨g',cap',cur',hv,hg',hh',hnc',hcm',hcs',htk'⟩
   . cases hr2
   . simp only[Value.slice.injEq,Option.some.injEq,Addr.mk.injEq,and_true] at hv;obtain⟨rfl,-,rfl⟩:=hv;refine⟨zm,Or.inr ⟨g,cap,cur',zm,hg',hh',om,hcm',hcs',?_⟩⟩;have:=congrArg (List.take (Lib.compact l).length) htk';rw[List.take_take,List.map_append,List.take_append_of_le_length zm,List.take_of_length_le (l:=(Lib.compact l).map _) zm] at this;rw[Nat.mul_one] at this ⊢;rw[show min (Lib.compact l).length l.length=(Lib.compact l).length by omega] at this;exact this
end Go.Zz
