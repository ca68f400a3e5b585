/- TilesOf of the program: its tiles are sorted by the library. -/
import Derived.Test.YtnnbhcalddkmmaaGreatLs
import Derived.Test.YtnnbhcalddkmmaaGreatGr10
set_option linter.unusedSimpArgs false
set_option linter.unusedVariables false
set_option linter.unnecessarySimpa false
set_option maxHeartbeats 2000000
set_option maxRecDepth 8000
namespace Go.Zz
open Go.RowKit Go.Proofs Go.Sort
theorem dg3{w0 w:World}{v:Value}{l:List Int}(hO:Own 3 w0 w v l)(hE:Ext w0 w)(hn:l.length<=1000000) :
 Calls Tryz.prog 209 #[v] w fun e w'=>e=.returned (.tuple #[])∧Own 3 w0 w' v (l.mergeSort fun x y=>decide (x<=y))∧Ext w0 w':=by
 have hO':=hO;obtain⟨⟨h1,h2⟩,h3⟩:=hO;have hlen:(l.mergeSort fun x y=>decide (x<=y)).length=l.length:=List.length_mergeSort _;rcases h2 with ⟨rfl,hz⟩ | ⟨g,cap,cur,rfl,hg,hh,hnc,hcm,hcs,htk⟩
 . have hl:l=[]:=List.eq_nil_of_length_eq_zero (by simpa using hz);subst hl;refine (AnyM.slices_Sort_int_none Tryz.laysSort none 0 w).mono ?_;rintro e w' ⟨rfl,rfl⟩;exact⟨rfl,by simpa using hO',hE⟩
 . have hlt:g<w.heap.size:=(Array.getElem?_eq_some_iff.1 hh).1;have hH:=holds_of_blockI (ss:=l) hh (by simpa using htk);refine (AnyM.slices_Sort_int Tryz.laysSort g 0 cap l w hH hlt om).mono ?_;rintro e w' ⟨rfl,n,os,rfl⟩;have hr:=ownsRow_sortedI (n:=n) (os:=os) hlen hg hh (by simpa using hnc) hcm hcs;refine⟨rfl,⟨?_,by rw[hlen];exact h3⟩,hE.grown (grownBy_sortedI _) fun k hk=>by cases hk;exact hg⟩;rw[hlen];exact hr
theorem zz83{P:Prop}(h:P:=by exact bodyPost_ret (v:=.tuple #[.slice (some ⟨w1.heap.size,0,none⟩) 0 0,.bool false]) (by simp[results,Tryz.results145,go_sem]) rfl ⟨_,[],rfl,(m7 (TI:=3) (n:=0) om (hE0.trans hE1) [] rfl).ints,(c65 Ho.out).symm,Ext.alloc (hE0.trans hE1) _⟩):P:=h
theorem di7(v:Value)(l:List Int)(a:Int)(w:World)(h:c9 w v l) :
 Calls Tryz.prog 145 #[.agg #[v],.int .i64 a] w fun e w'=>∃v' L,e=.returned (.tuple #[v',.bool (B9 l a)])∧c9 w' v' L∧L.length=tlN l a∧Ext w w':=by
 obtain⟨wb,Hwb,hE0,hb,hg,hE,Hsz⟩:=ju3 28 h;clear h;have hbx:=hb wb hE;cases hs:j4 l a
 . have Ho:=zh (J9 hs);go_in;go_wp2_with fail;rw[<-Hwb.out];refine (p8 _ _ _ _ (hg _ hE) hs).mono ?_;rintro e w1 ⟨rfl,hE1⟩;go_wp2_with fail;rw[Ho.out];exact zz83
 . obtain⟨n,rfl,hn,hn24,hgr⟩:=o4 hs;by_cases h0:n=0
   . subst h0;have Ho:Hid (B9 l ((0:Nat):Int)=false):=zh (G2 l);go_in;go_wp2_with fail;rw[<-Hwb.out];refine (p8 _ _ _ _ (hg _ hE) hs).mono ?_;rintro e w1 ⟨rfl,hE1⟩;go_wp2_with fail;rw[show (0:Int)=((0:Nat):Int) from rfl,Ho.out];exact zz83
   . have h00:((n:Int) == 0)=false:=(by rw[beq_eq_false_iff_ne];omega);have Hgr:=zh hgr;have Ho:=zh (M5 hs om);have hcT:=fun W (hW:Ext wb W)=>d08 v l n 200 W (hg W hW) Hgr h0 hn om om;have hlenT:(P8 l n 200).length<=200:=bh5 _ _ _ _ _ _ om;have HN:Hid ((P8 l n 200).length=tlN l n):=zh (cu9 Ho.out).symm;obtain⟨T,hT⟩:=nq (P8 l n 200);rw[<-hT] at hcT hlenT HN;have hsl:((b9 T).mergeSort fun x y=>decide (x<=y)).length=T.length:=(by rw[List.length_mergeSort,j2]);clear hgr h0 hT;go_in;go_wp2_with fail;rw[<-Hwb.out];refine (p8 _ _ _ _ (hg _ hE) hs).mono ?_;rintro e w1 ⟨rfl,hE1⟩;have hbx1:=hb _ hE1;go_wp2_with fail;refine (hcT _ hE1).mono ?_;rintro e w2 ⟨vT,rfl,hO,hE2⟩;have hE02:=hE0.trans hE1;go_wp2_with fail;refine (dg3 hO hE2 (by rw[j2];omega)).mono ?_;rintro e w3 ⟨rfl,hO3,hE3⟩;go_wp2_with fail;rw[Ho.out];exact bodyPost_ret (v:=.tuple #[vT,.bool true]) (by simp[results,Tryz.results145,go_sem]) rfl ⟨_,_,rfl,hO3.ints,by rw[hsl,HN.out],hE02.trans hE3⟩
end Go.Zz
