/- slices.Sort and slices.Compact at numbers that a call owns. -/
import Derived.Test.YtjhoafjeopcheaaGreatLz
import Derived.Test.YtjhoafjeopcheaaGreatGr10
set_option linter.all false
set_option maxHeartbeats 1000000
set_option maxRecDepth 8000
namespace Go.Zz
open Go.RowKit Go.Proofs Go.Sort
variable(z:LI){P w:World}{v:Value}{l:LI}
theorem cr8(d:Array Int)(S:∀i j,i<j->j<d.size->d[i]!<=d[j]!):∀m,m<=d.size ->
 (Lib.compactUpTo d m).Pairwise (· < ·)/\(∀x,x∈Lib.compactUpTo d m↔∃i,i<m/\d[i]! =x)/\(∀x∈Lib.compactUpTo d m,x<=d[m-1]!)
 |0,_=>by simp[Lib.compactUpTo]
 | m+1,hm=>by
  obtain⟨o,r,T⟩:=cr8 d S m om
  rw[Lib.compactUpTo_succ]
  by_cases V:Lib.keeps d m=true
  . rw[if_pos V]
    have U:∀x∈Lib.compactUpTo d m,x<d[m]!:=fun x K=>by
     have Q:=T x K
     obtain⟨i,J,-⟩:=(r x).1 K
     have q:=S (m-1) m om om
     have k:d[m-1]!≠d[m]!:=by
      simp only[Lib.keeps,decide_eq_true_iff]at V;rcases V with V|V
      . omega
      . exact fun e=>V e.symm
     omega
    refine⟨?_,?_,?_⟩
    . rw[qM]
      exact⟨o,zm,fun a A b C=>by rw[oE]at C;subst C;exact U a A⟩
    . intro x
      rw[oP,r,oE]
      constructor
      . rintro (⟨i,J,e⟩|e)
        . exact⟨i,om,e⟩
        . exact⟨m,om,e.symm⟩
      . rintro⟨i,J,e⟩
        by_cases h:i<m
        . exact Or.inl ⟨i,h,e⟩
        . have:i=m:=by omega
          subst this;exact Or.inr e.symm
    . intro x K
      rw[Nat.add_sub_cancel]
      rw[oP,oE]at K
      rcases K with K|rfl
      . exact Int.le_of_lt (U x K)
      . exact Int.le_refl _
  . rw[if_neg V,pV]
    have M:m≠0:=fun e=>V (by subst e;simp[Lib.keeps])
    have H:d[m-1]! =d[m]!:=by
     by_cases e:d[m-1]! =d[m]!
     . exact e
     . exact absurd (by simp only[Lib.keeps];exact decide_eq_true (Or.inr fun E=>e E.symm)) V
    refine⟨o,fun x=>?_,fun x K=>by rw[Nat.add_sub_cancel,<-H];exact T x K⟩
    rw[r]
    constructor
    . rintro⟨i,J,e⟩;exact⟨i,om,e⟩
    . rintro⟨i,J,e⟩
      by_cases h:i<m
      . exact⟨i,h,e⟩
      . have:i=m:=by omega
        subst this;exact⟨i-1,om,by rw[H];exact e⟩
theorem da5(S:z.Pairwise (·<=·)):(Lib.compact z).Pairwise (· < ·)/\∀x,x∈Lib.compact z↔x∈z:=by
 have h:=cr8 z.toArray (fun i j I H=>by
  have r:j<z.length:=by simpa using H
  have:=qg.1 S i j om r I
  rw[getElem!_pos z.toArray i zso,getElem!_pos z.toArray j H]
  simpa using this) z.length zm
 refine⟨h.1,fun x=>?_⟩;unfold Lib.compact;rw[h.2.1];constructor;rintro⟨i,J,e⟩;rw[getElem!_pos z.toArray i (by simpa using J)]at e;rw[<-e];simp;intro K;obtain⟨i,J,e⟩:=px K;exact⟨i,J,by rw[getElem!_pos z.toArray i (by simpa using J)];simpa using e⟩
theorem dk5(O:Own 3 P w v l)(E:Ext P w)(q:l.length<=1000000000):Calls Tryz.prog 171 #[v] w fun e W=>e=.returned (.tuple #[])/\Own 3 P W v (l.mergeSort fun x y=>decide (x<=y))/\Ext P W:=by
 have p:=O;obtain⟨⟨o,r⟩,T⟩:=O;have L:(l.mergeSort fun x y=>decide (x<=y)).length=l.length:=qT _;rcases r with⟨rfl,z⟩|⟨g,cap,u,rfl,H,h,N,m,c,t⟩
 have i:l=[]:=oF (by simpa using z);subst i;refine(AnyM.slices_Sort_int_none Tryz.laysSort none 0 w).mono ?_;rintro e W⟨rfl,rfl⟩;exact⟨rfl,by simpa using p,E⟩;have U:g<w.heap.size:=(Array.getElem?_eq_some_iff.1 h).1;have Q:=holds_of_blockI (ss:=l) h (by simpa using t);refine(AnyM.slices_Sort_int Tryz.laysSort g 0 cap l w Q U om).mono ?_;rintro e W⟨rfl,n,s,rfl⟩;have R:=ownsRow_sortedI (n:=n) (os:=s) L H h (by simpa using N) m c;refine⟨rfl,⟨?_,by rw[L];exact T⟩,E.grown (grownBy_sortedI _) fun k V=>by cases V;exact H⟩;rw[L];exact R
theorem jl0:(Lib.compact z).length<=z.length:=by
 unfold Lib.compact Lib.compactUpTo;rw[oG];exact nle (qo _ _) zm
theorem ds9(O:Own 3 P w v l)(E:Ext P w)(N:l.length<=1000000000):Calls Tryz.prog 266 #[v] w fun e W=>∃Q,e=.returned Q/\Own 3 P W Q (Lib.compact l)/\Ext P W:=by
 have p:=O;obtain⟨⟨o,r⟩,T⟩:=O;have B:=jl0 l;rcases r with⟨rfl,z⟩|⟨g,cap,a,rfl,H,h,c,m,s,K⟩
 have L:l=[]:=oF (by simpa using z);subst L;refine(Any.slices_Compact_int_empty Tryz.laysCompact none 0 w).mono ?_;rintro e W⟨rfl,rfl⟩;exact⟨_,rfl,by simpa[Lib.compact,Lib.compactUpTo]using p,E⟩;have U:g<w.heap.size:=(Array.getElem?_eq_some_iff.1 h).1;have S:=holds_of_blockI (ss:=l) h (by simpa using K);refine(Any.slices_Compact_int Tryz.laysCompact g 0 cap l w S om (by simpa using c)).mono ?_;rintro e W⟨rfl,q,rfl⟩;have x:(Lib.compact l++List.replicate (l.length-(Lib.compact l).length) (0:Int)).length=l.length:=(by rw[oh,List.length_replicate];omega);have u:=ownsRow_sortedI (n:=q) (os:=#[]) (ss:=l) (ts:=Lib.compact l++List.replicate (l.length-(Lib.compact l).length) (0:Int)) x H h (by simpa using c) m s;have G:=grownBy_sortedI (w:=w) (g:=g) (n:=q) (os:=#[]) (Lib.compact l++List.replicate (l.length-(Lib.compact l).length) (0:Int)).toArray;rw[Sort.grow_empty]at u G;refine⟨_,rfl,⟨?_,om⟩,E.grown G fun k V=>by cases V;exact H⟩;obtain⟨-,R⟩:=u;rcases R with⟨R,-⟩|⟨D,f,Z,C,t,A,X,M,y,I⟩
 cases R;simp only[Value.slice.injEq,Option.some.injEq,Addr.mk.injEq,and_true]at C;obtain⟨rfl,-,rfl⟩:=C;refine⟨zm,Or.inr ⟨g,cap,Z,zm,t,A,om,M,y,?_⟩⟩;have:=congrArg (List.take (Lib.compact l).length) I;rw[qR,pF,qy zm,pE (l:=(Lib.compact l).map _) zm]at this;rw[Nat.mul_one]at this|-;rw[show min (Lib.compact l).length l.length=(Lib.compact l).length by omega]at this;exact this
end Go.Zz
