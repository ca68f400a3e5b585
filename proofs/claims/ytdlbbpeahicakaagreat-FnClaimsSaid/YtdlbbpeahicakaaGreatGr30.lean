/- The drawing of a claim. -/
import Derived.Test.YtdlbbpeahicakaaGreatGr29
import Derived.Test.YtdlbbpeahicakaaGreatGr5
import Derived.Test.YtdlbbpeahicakaaGreatGr6
import Derived.Test.YtdlbbpeahicakaaGreatGr11
import Derived.Test.YtdlbbpeahicakaaGreatGr12
import Derived.Test.YtdlbbpeahicakaaGreatGr18
import Derived.Test.YtdlbbpeahicakaaGreatGr14
import Derived.Deep.CutBlock
set_option linter.unusedSimpArgs false
set_option linter.unusedVariables false
set_option linter.unnecessarySimpa false
namespace Go.Zz
open Go.RowKit Go.Proofs
set_option maxHeartbeats 400000
set_option maxRecDepth 20000
theorem blkI_ne{w:World}{b c:Nat}{T T':TypeId}{cs cs':Array Value}(h:Blk w b T cs)(k:Blk w c T' cs')(hT:T≠T'):b≠c:=fun e=>by
 subst e
 have h':w.heap[b]?=some (.cells cs T (0,0)):=h
 have k':w.heap[b]?=some (.cells cs' T' (0,0)):=k
 rw[h'] at k'
 simp at k'
 exact hT k'.2
def IB(B:Nat)(w:World)(v:Value)(l:List Int):Prop:=∃(ao:Option Addr) (c:Nat),v=.slice ao l.length c∧l.length≤c∧l.length≤17592186044416∧(l.length=0∨∃g k cs,ao=some ⟨g,k,none⟩∧B≤g∧Blk w g 3 cs∧∀i,i<l.length→cs[k+i]?=some (.int .i64 (nth l i)))
theorem IB.ints{B:Nat}{w:World}{v:Value}{l:List Int}(h:IB B w v l):Ints w v l:=by
 obtain⟨ao,c,rfl,h1,h2,h3⟩:=h
 refine⟨ao,c,rfl,h1,h2,fun i hi=>?_⟩
 rcases h3 with h3 | ⟨g,k,cs,rfl,hb,hB,h4⟩
 · omega
 · refine⟨_,rfl,?_⟩
   have e:(⟨g,k,none⟩:Addr).add i=⟨g,k+i,none⟩:=by unfold Addr.add;split<;>simp_all
   rw[e]
   exact hB.cell (i:=k+i) (h4 i hi)
theorem IB.shape{B:Nat}{w:World}{v:Value}{l:List Int}(h:IB B w v l):∃ao c,v=.slice ao l.length c∧l.length≤c:=by obtain⟨ao,c,h1,h2,-⟩:=h;exact⟨ao,c,h1,h2⟩
theorem IB.keep{B:Nat}{w w':World}{v:Value}{l:List Int}(h:IB B w v l)(hk:∀g cs,Blk w g 3 cs→Blk w' g 3 cs):IB B w' v l:=by
 obtain⟨ao,c,h0,h1,h2,h3⟩:=h
 refine⟨ao,c,h0,h1,h2,?_⟩
 rcases h3 with h3 | ⟨g,k,cs,h4,hb,hB,h5⟩
 · exact Or.inl h3
 · exact Or.inr ⟨g,k,cs,h4,hb,hk g cs hB,h5⟩
theorem IB.low{B B':Nat}{w:World}{v:Value}{l:List Int}(h:IB B w v l)(hB:B'≤B):IB B' w v l:=by
 obtain⟨ao,c,h0,h1,h2,h3⟩:=h
 refine⟨ao,c,h0,h1,h2,?_⟩
 rcases h3 with h3 | ⟨g,k,cs,h4,hb,hB2,h5⟩
 · exact Or.inl h3
 · exact Or.inr ⟨g,k,cs,h4,Nat.le_trans hB hb,hB2,h5⟩
theorem IB.ext{B:Nat}{w w':World}{v:Value}{l:List Int}(h:IB B w v l)(hE:Ext w w'):IB B w' v l:=h.keep fun _ _ hB=>hB.ext hE
theorem Cur.nint{w0 w:World}{p:Nat}(h:Cur w0 w p){g:Nat}{cs:Array Value}(hB:Blk w g 3 cs):g≠p:=by
 obtain⟨ao,l,c,i,n,h1,-⟩:=h
 exact blkI_ne hB h1 (by decide)
theorem IB.drw{B:Nat}{w0 w w':World}{p:Nat}{v:Value}{l:List Int}(h:IB B w v l)(hF:Drw p w w')(hC:Cur w0 w p):IB B w' v l:=h.keep fun _ _ hB=>hF.blk hB (hC.nint hB)
theorem IB.other{B:Nat}{w:World}{b:Nat}{T:TypeId}{cs:Array Value}{v:Value}{l:List Int}(h:IB B w v l)(hB:Blk w b T cs)(hT:T≠3)(i:Nat)(x:Value):IB B (w.setCell ⟨b,i,none⟩ x) v l:=h.keep fun g cs' hB'=>hB'.other (p:=⟨b,i,none⟩) (fun e=>blkI_ne hB hB' hT e.symm) x
theorem IB.put{B:Nat}{w:World}{v:Value}{l:List Int}(h:IB B w v l)(b i:Nat)(x:Int):∃l',l'.length=l.length∧IB B (w.setCell ⟨b,i,none⟩ (.int .i64 x)) v l':=by
 obtain⟨ao,c,h0,h1,h2,h3⟩:=h
 rcases h3 with h3 | ⟨g,k,cs,h4,hb,hB,h5⟩
 · exact⟨l,rfl,ao,c,h0,h1,h2,Or.inl h3⟩
 · by_cases e:g=b
   · subst e
     refine⟨(List.range l.length).map fun j=>if k+j=i then x else nth l j,by simp,ao,c,by rw[h0];simp,by simpa using h1,by simpa using h2,Or.inr ⟨g,k,_,h4,hb,hB.set i _,fun j hj=>?_⟩⟩
     have hj':j<l.length:=by simpa using hj
     have h6:=h5 j hj'
     have hs:k+j<cs.size:=(Array.getElem?_eq_some_iff.1 h6).1
     have e1:nth ((List.range l.length).map fun j=>if k+j=i then x else nth l j) j=if k+j=i then x else nth l j:=by simp[nth,List.getD,hj']
     rw[e1,Array.getElem?_setIfInBounds]
     by_cases e2:i=k+j
     · subst e2
       simp[hs]
     · rw[if_neg e2,h6,if_neg (fun e3=>e2 e3.symm)]
   · exact⟨l,rfl,ao,c,h0,h1,h2,Or.inr ⟨g,k,cs,h4,hb,hB.other (p:=⟨b,i,none⟩) e _,h5⟩⟩
theorem Own.ib{B:Nat}{w0 w:World}{v:Value}{l:List Int}(h:Own 3 w0 w v l)(hB:B≤w0.heap.size):IB B w v l:=by
 obtain⟨⟨h1,h2⟩,h3⟩:=h
 rcases h2 with ⟨rfl,hz⟩ | ⟨g,cap,cur,rfl,hg,hh,hnc,hcm,hcs,htk⟩
 · exact⟨none,0,by rw[hz],by omega,by omega,Or.inl hz⟩
 · refine⟨_,cap,rfl,hnc,by omega,Or.inr ⟨g,0,cur,rfl,Nat.le_trans hB hg,hh,fun i hi=>?_⟩⟩
   rw[Nat.zero_add]
   have:(cur.toList.take (l.length*1))[i]?=some (.int .i64 (nth l i)):=by
    rw[htk];simp[nth,List.getD,hi]
   rw[List.getElem?_take_of_lt (by omega)] at this
   simpa using this
theorem IB.tail{B:Nat}{w:World}{ao:Option Addr}{n c:Nat}{l:List Int}(h:IB B w (.slice ao n c) l)(hl:0<l.length):IB B w (tailV ao n c 1) l.tail:=by
 obtain⟨ao',c',h0,h1,h2,h3⟩:=h
 simp only[Value.slice.injEq] at h0
 obtain⟨rfl,rfl,rfl⟩:=h0
 rcases h3 with h3 | ⟨g,k,cs,rfl,hb,hB,h5⟩
 · omega
 · have hlt:l.tail.length=l.length - 1:=List.length_tail
   by_cases e:c=1
   · refine⟨_,c - 1,by unfold tailV;rw[hlt],by omega,by omega,Or.inl (by omega)⟩
   · refine⟨some ⟨g,k+1,none⟩,c - 1,by unfold tailV;rw[if_neg e,hlt];simp[Addr.add],by omega,by omega,Or.inr ⟨g,k+1,cs,rfl,hb,hB,fun i hi=>?_⟩⟩
     rw[show k+1+i=k+(i+1) by omega,h5 (i+1) (by omega)]
     congr 2
     cases l with
     | nil=>simp at hl
     | cons a l=>simp[nth,List.getD]
def ClX(B:Nat)(W:World)(x:Nat):Prop:=∃(k:Int) (v1 v2:Value) (a b s q:Int) (v3 v4:Value) (n:Int) (gl ol tl ql:List Int),Blk W x 38 #[.int .i64 k,v1,v2,.int .i64 a,.int .i64 b,.int .i64 s,.int .i64 q,v3,v4,.int .i64 n]∧IB B W v1 gl∧IB B W v2 ol∧IB B W v3 tl∧IB B W v4 ql
theorem ClX.keep{B:Nat}{W W':World}{x:Nat}(h:ClX B W x)(h1:∀cs,Blk W x 38 cs→Blk W' x 38 cs)(h2:∀v l,IB B W v l→IB B W' v l):ClX B W' x:=by
 obtain⟨k,v1,v2,a,b,s,q,v3,v4,n,gl,ol,tl,ql,hB,i1,i2,i3,i4⟩:=h
 exact⟨k,v1,v2,a,b,s,q,v3,v4,n,gl,ol,tl,ql,h1 _ hB,h2 _ _ i1,h2 _ _ i2,h2 _ _ i3,h2 _ _ i4⟩
structure S33(w0 w W:World)(p r x:Nat):Prop where
 cl:ClX w.heap.size W x
 R:Blk W r 38 #[.int .i64 0,.slice none 0 0,.slice none 0 0,.int .i64 0,.int .i64 0,.int .i64 0,.int .i64 0,.slice none 0 0,.slice none 0 0,.int .i64 0]
 hC:Cur w0 W p
 fr:Drw p w W
theorem S33.ext{w0 w W W':World}{p r x:Nat}(h:S33 w0 w W p r x)(hE:Ext W W'):S33 w0 w W' p r x :=
 ⟨h.cl.keep (fun _ hB=>hB.ext hE) (fun _ _ i=>i.ext hE),h.R.ext hE,h.hC.ext hE,h.fr.trans (hE.drw p)⟩
theorem S33.drw{w0 w W W':World}{p r x:Nat}(h:S33 w0 w W p r x)(hF:Drw p W W')(hC:Cur w0 W' p)(hr:r≠p)(hx:x≠p):S33 w0 w W' p r x :=
 ⟨h.cl.keep (fun _ hB=>hF.blk hB hx) (fun _ _ i=>i.drw hF h.hC),hF.blk h.R hr,hC,h.fr.trans hF⟩
theorem S33.store{w0 w W W':World}{p r x:Nat}(h:S33 w0 w W p r x){k a b s q n:Int}{v1 v2 v3 v4:Value}{gl ol tl ql:List Int}(hB:Blk W' x 38 #[.int .i64 k,v1,v2,.int .i64 a,.int .i64 b,.int .i64 s,.int .i64 q,v3,v4,.int .i64 n])(i1:IB w.heap.size W v1 gl)(i2:IB w.heap.size W v2 ol)(i3:IB w.heap.size W v3 tl)(i4:IB w.heap.size W v4 ql)(hk:∀g,g≠x→W'.heap[g]?=W.heap[g]?)(hsz:W'.heap.size=W.heap.size)(h1:W'.os=W.os)(h2:W'.tape=W.tape)(h3:W'.output=W.output)(hrx:r≠x)(hx:x≠p)(hw:w.heap.size≤x)(hw0:w0.heap.size≤x):S33 w0 w W' p r x:=by
 have kb:∀{g T cs},g≠x→Blk W g T cs→Blk W' g T cs:=fun hg hb=>by unfold Blk;rw[hk _ hg];exact hb
 have hBx:∀{cs},Blk W x 38 cs→∀g cs',Blk W g 3 cs'→g≠x:=fun hc g cs' hg=>blkI_ne hg hc (by decide)
 obtain⟨_,_,_,_,_,_,_,_,_,_,_,_,_,_,hB0,-⟩:=h.cl
 have ki:∀{v l},IB w.heap.size W v l→IB w.heap.size W' v l:=fun i=>i.keep fun g cs hg=>kb (hBx hB0 g cs hg) hg
 refine⟨⟨k,v1,v2,a,b,s,q,v3,v4,n,gl,ol,tl,ql,hB,ki i1,ki i2,ki i3,ki i4⟩,kb hrx h.R,?_,?_⟩
 · obtain⟨ao,l,c,i,n,c1,c2,c3,c4,c5⟩:=h.hC
   refine⟨ao,l,c,i,n,kb (Ne.symm hx) c1,c2,c3,c4,⟨h1.trans c5.os,h2.trans c5.tape,h3.trans c5.output,by rw[hsz];exact c5.size,fun g hg=>?_⟩⟩
   rw[hk g (by omega)];exact c5.block g hg
 · refine⟨h1.trans h.fr.os,h2.trans h.fr.tape,h3.trans h.fr.output,by rw[hsz];exact h.fr.size,fun g hg hb ho=>?_⟩
   rw[hk g (by omega)];exact h.fr.block g hg hb ho
def ClR(B:Nat)(w:World)(e:Ending)(w':World):Prop:=∃(k:Int) (a1:Option Addr) (n1 c1:Nat) (a2:Option Addr) (n2 c2:Nat) (a b s q:Int) (a3:Option Addr) (n3 c3:Nat) (a4:Option Addr) (n4 c4:Nat) (n:Int) (bb:Bool) (gl ol tl ql:List Int),e=.returned (.tuple #[.agg #[.int .i64 k,.slice a1 n1 c1,.slice a2 n2 c2,.int .i64 a,.int .i64 b,.int .i64 s,.int .i64 q,.slice a3 n3 c3,.slice a4 n4 c4,.int .i64 n],.bool bb])∧IB B w' (.slice a1 n1 c1) gl∧IB B w' (.slice a2 n2 c2) ol∧IB B w' (.slice a3 n3 c3) tl∧IB B w' (.slice a4 n4 c4) ql∧Ext w w'
theorem clR_of{B:Nat}{w w':World}{e:Ending}{k a b s q n:Int}{bb:Bool}{g o tl ql:List Int}(h:∃v1 v2 v3 v4,e=.returned (.tuple #[CV k v1 v2 a b s q v3 v4 n,.bool bb])∧Own4 w w' v1 v2 v3 v4 g o tl ql∧Ext w w')(hB:B≤w.heap.size):ClR B w e w':=by
 obtain⟨v1,v2,v3,v4,rfl,hO,hE⟩:=h
 obtain⟨a1,c1,e1,-⟩:=hO.h1.shape
 obtain⟨a2,c2,e2,-⟩:=hO.h2.shape
 obtain⟨a3,c3,e3,-⟩:=hO.h3.shape
 obtain⟨a4,c4,e4,-⟩:=hO.h4.shape
 refine⟨k,a1,g.length,c1,a2,o.length,c2,a,b,s,q,a3,tl.length,c3,a4,ql.length,c4,n,bb,g,o,tl,ql,by rw[e1,e2,e3,e4];rfl,by rw[←e1];exact hO.h1.ib hB,by rw[←e2];exact hO.h2.ib hB,by rw[←e3];exact hO.h3.ib hB,by rw[←e4];exact hO.h4.ib hB,hE⟩
theorem set_ten{T:TypeId}{W':World}{x:Nat}{x0 x1 x2 x3 x4 x5 x6 x7 x8 x9 u0 u1 u2 u3 u4 u5 u6 u7 u8 u9:Value}(h:Blk W' x T ((((((((((#[x0,x1,x2,x3,x4,x5,x6,x7,x8,x9].setIfInBounds 0 u0).setIfInBounds 1 u1).setIfInBounds 2 u2).setIfInBounds 3 u3).setIfInBounds 4 u4).setIfInBounds 5 u5).setIfInBounds 6 u6).setIfInBounds 7 u7).setIfInBounds 8 u8).setIfInBounds 9 u9)):Blk W' x T #[u0,u1,u2,u3,u4,u5,u6,u7,u8,u9]:=by
 simpa using h
theorem set_at{T:TypeId}{W:World}{x j:Nat}{cs ds:Array Value}{y:Value}(h:Blk W x T cs)(e:cs.setIfInBounds j y=ds):Blk (W.setCell ⟨x,j,none⟩ y) x T ds:=by rw[←e];exact h.set j y
theorem S33.put{w0 w W:World}{p r x:Nat}(h:S33 w0 w W p r x){a b s q n k:Int}{u1 u2 u7 u8:Value}{gl ol tl ql:List Int}(i1:IB w.heap.size W u1 gl)(i2:IB w.heap.size W u2 ol)(i3:IB w.heap.size W u7 tl)(i4:IB w.heap.size W u8 ql)(hrx:r≠x)(hx:x≠p)(hw:w.heap.size≤x)(hw0:w0.heap.size≤x) :
 S33 w0 w (World.setCell (World.setCell (World.setCell (World.setCell (World.setCell (World.setCell (World.setCell (World.setCell (World.setCell (World.setCell W ⟨x,0,none⟩ (.int .i64 k)) ⟨x,1,none⟩ u1) ⟨x,2,none⟩ u2) ⟨x,3,none⟩ (.int .i64 a)) ⟨x,4,none⟩ (.int .i64 b)) ⟨x,5,none⟩ (.int .i64 s)) ⟨x,6,none⟩ (.int .i64 q)) ⟨x,7,none⟩ u7) ⟨x,8,none⟩ u8) ⟨x,9,none⟩ (.int .i64 n)) p r x:=by
 obtain⟨_,_,_,_,_,_,_,_,_,_,_,_,_,_,hB,-⟩:=h.cl
 have hk:∀{W':World} (j:Nat) (y:Value) (g:Nat),g≠x→(W'.setCell ⟨x,j,none⟩ y).heap[g]?=W'.heap[g]?:=fun j y g hg=>Below.heap_setCell _ _ _ _ (fun e=>hg e)
 have b0:=hB.set 0 (.int .i64 k)
 have b1:=b0.set 1 u1
 have b2:=b1.set 2 u2
 have b3:=b2.set 3 (.int .i64 a)
 have b4:=b3.set 4 (.int .i64 b)
 have b5:=b4.set 5 (.int .i64 s)
 have b6:=b5.set 6 (.int .i64 q)
 have b7:=b6.set 7 u7
 have b8:=b7.set 8 u8
 have b9:=b8.set 9 (.int .i64 n)
 have bX:=set_ten b9
 clear b0 b1 b2 b3 b4 b5 b6 b7 b8 b9
 have so:∀{W':World} (j:Nat) (y:Value),(W'.setCell ⟨x,j,none⟩ y).os=W'.os:=fun _ _=>rfl
 have st:∀{W':World} (j:Nat) (y:Value),(W'.setCell ⟨x,j,none⟩ y).tape=W'.tape:=fun _ _=>rfl
 have su:∀{W':World} (j:Nat) (y:Value),(W'.setCell ⟨x,j,none⟩ y).output=W'.output:=fun _ _=>rfl
 refine h.store bX i1 i2 i3 i4 (fun g hg=>?_) ?_ (by simp only[so]) (by simp only[st]) (by simp only[su]) hrx hx hw hw0
 · rw[hk 9 _ g hg,hk 8 _ g hg,hk 7 _ g hg,hk 6 _ g hg,hk 5 _ g hg,hk 4 _ g hg,hk 3 _ g hg,hk 2 _ g hg,hk 1 _ g hg,hk 0 _ g hg]
 · simp
theorem S33.fin{w0 w W:World}{p r x:Nat}(h:S33 w0 w W p r x){a b s q n k:Int}{u1 u2 u7 u8:Value}{gl ol tl ql:List Int}(i1:IB w.heap.size W u1 gl)(i2:IB w.heap.size W u2 ol)(i3:IB w.heap.size W u7 tl)(i4:IB w.heap.size W u8 ql)(hr:r≠p)(hw:w.heap.size≤r)(hw0:w0.heap.size≤r) :
 Blk (World.setCell (World.setCell (World.setCell (World.setCell (World.setCell (World.setCell (World.setCell (World.setCell (World.setCell (World.setCell W ⟨r,0,none⟩ (.int .i64 k)) ⟨r,1,none⟩ u1) ⟨r,2,none⟩ u2) ⟨r,3,none⟩ (.int .i64 a)) ⟨r,4,none⟩ (.int .i64 b)) ⟨r,5,none⟩ (.int .i64 s)) ⟨r,6,none⟩ (.int .i64 q)) ⟨r,7,none⟩ u7) ⟨r,8,none⟩ u8) ⟨r,9,none⟩ (.int .i64 n)) r 38 #[.int .i64 k,u1,u2,.int .i64 a,.int .i64 b,.int .i64 s,.int .i64 q,u7,u8,.int .i64 n]∧IB w.heap.size (World.setCell (World.setCell (World.setCell (World.setCell (World.setCell (World.setCell (World.setCell (World.setCell (World.setCell (World.setCell W ⟨r,0,none⟩ (.int .i64 k)) ⟨r,1,none⟩ u1) ⟨r,2,none⟩ u2) ⟨r,3,none⟩ (.int .i64 a)) ⟨r,4,none⟩ (.int .i64 b)) ⟨r,5,none⟩ (.int .i64 s)) ⟨r,6,none⟩ (.int .i64 q)) ⟨r,7,none⟩ u7) ⟨r,8,none⟩ u8) ⟨r,9,none⟩ (.int .i64 n)) u1 gl∧IB w.heap.size (World.setCell (World.setCell (World.setCell (World.setCell (World.setCell (World.setCell (World.setCell (World.setCell (World.setCell (World.setCell W ⟨r,0,none⟩ (.int .i64 k)) ⟨r,1,none⟩ u1) ⟨r,2,none⟩ u2) ⟨r,3,none⟩ (.int .i64 a)) ⟨r,4,none⟩ (.int .i64 b)) ⟨r,5,none⟩ (.int .i64 s)) ⟨r,6,none⟩ (.int .i64 q)) ⟨r,7,none⟩ u7) ⟨r,8,none⟩ u8) ⟨r,9,none⟩ (.int .i64 n)) u2 ol∧IB w.heap.size (World.setCell (World.setCell (World.setCell (World.setCell (World.setCell (World.setCell (World.setCell (World.setCell (World.setCell (World.setCell W ⟨r,0,none⟩ (.int .i64 k)) ⟨r,1,none⟩ u1) ⟨r,2,none⟩ u2) ⟨r,3,none⟩ (.int .i64 a)) ⟨r,4,none⟩ (.int .i64 b)) ⟨r,5,none⟩ (.int .i64 s)) ⟨r,6,none⟩ (.int .i64 q)) ⟨r,7,none⟩ u7) ⟨r,8,none⟩ u8) ⟨r,9,none⟩ (.int .i64 n)) u7 tl∧IB w.heap.size (World.setCell (World.setCell (World.setCell (World.setCell (World.setCell (World.setCell (World.setCell (World.setCell (World.setCell (World.setCell W ⟨r,0,none⟩ (.int .i64 k)) ⟨r,1,none⟩ u1) ⟨r,2,none⟩ u2) ⟨r,3,none⟩ (.int .i64 a)) ⟨r,4,none⟩ (.int .i64 b)) ⟨r,5,none⟩ (.int .i64 s)) ⟨r,6,none⟩ (.int .i64 q)) ⟨r,7,none⟩ u7) ⟨r,8,none⟩ u8) ⟨r,9,none⟩ (.int .i64 n)) u8 ql∧Cur w0 (World.setCell (World.setCell (World.setCell (World.setCell (World.setCell (World.setCell (World.setCell (World.setCell (World.setCell (World.setCell W ⟨r,0,none⟩ (.int .i64 k)) ⟨r,1,none⟩ u1) ⟨r,2,none⟩ u2) ⟨r,3,none⟩ (.int .i64 a)) ⟨r,4,none⟩ (.int .i64 b)) ⟨r,5,none⟩ (.int .i64 s)) ⟨r,6,none⟩ (.int .i64 q)) ⟨r,7,none⟩ u7) ⟨r,8,none⟩ u8) ⟨r,9,none⟩ (.int .i64 n)) p∧Drw p w (World.setCell (World.setCell (World.setCell (World.setCell (World.setCell (World.setCell (World.setCell (World.setCell (World.setCell (World.setCell W ⟨r,0,none⟩ (.int .i64 k)) ⟨r,1,none⟩ u1) ⟨r,2,none⟩ u2) ⟨r,3,none⟩ (.int .i64 a)) ⟨r,4,none⟩ (.int .i64 b)) ⟨r,5,none⟩ (.int .i64 s)) ⟨r,6,none⟩ (.int .i64 q)) ⟨r,7,none⟩ u7) ⟨r,8,none⟩ u8) ⟨r,9,none⟩ (.int .i64 n)):=by
 have hk:∀{W':World} (j:Nat) (y:Value) (g:Nat),g≠r→(W'.setCell ⟨r,j,none⟩ y).heap[g]?=W'.heap[g]?:=fun j y g hg=>Below.heap_setCell _ _ _ _ (fun e=>hg e)
 have b0:=h.R.set 0 (.int .i64 k)
 have b1:=b0.set 1 u1
 have b2:=b1.set 2 u2
 have b3:=b2.set 3 (.int .i64 a)
 have b4:=b3.set 4 (.int .i64 b)
 have b5:=b4.set 5 (.int .i64 s)
 have b6:=b5.set 6 (.int .i64 q)
 have b7:=b6.set 7 u7
 have b8:=b7.set 8 u8
 have b9:=b8.set 9 (.int .i64 n)
 have bX:=set_ten b9
 clear b0 b1 b2 b3 b4 b5 b6 b7 b8 b9
 have so:∀{W':World} (j:Nat) (y:Value),(W'.setCell ⟨r,j,none⟩ y).os=W'.os:=fun _ _=>rfl
 have st:∀{W':World} (j:Nat) (y:Value),(W'.setCell ⟨r,j,none⟩ y).tape=W'.tape:=fun _ _=>rfl
 have su:∀{W':World} (j:Nat) (y:Value),(W'.setCell ⟨r,j,none⟩ y).output=W'.output:=fun _ _=>rfl
 have so2:((World.setCell (World.setCell (World.setCell (World.setCell (World.setCell (World.setCell (World.setCell (World.setCell (World.setCell (World.setCell W ⟨r,0,none⟩ (.int .i64 k)) ⟨r,1,none⟩ u1) ⟨r,2,none⟩ u2) ⟨r,3,none⟩ (.int .i64 a)) ⟨r,4,none⟩ (.int .i64 b)) ⟨r,5,none⟩ (.int .i64 s)) ⟨r,6,none⟩ (.int .i64 q)) ⟨r,7,none⟩ u7) ⟨r,8,none⟩ u8) ⟨r,9,none⟩ (.int .i64 n))).os=W.os:=by simp only[so]
 have st2:((World.setCell (World.setCell (World.setCell (World.setCell (World.setCell (World.setCell (World.setCell (World.setCell (World.setCell (World.setCell W ⟨r,0,none⟩ (.int .i64 k)) ⟨r,1,none⟩ u1) ⟨r,2,none⟩ u2) ⟨r,3,none⟩ (.int .i64 a)) ⟨r,4,none⟩ (.int .i64 b)) ⟨r,5,none⟩ (.int .i64 s)) ⟨r,6,none⟩ (.int .i64 q)) ⟨r,7,none⟩ u7) ⟨r,8,none⟩ u8) ⟨r,9,none⟩ (.int .i64 n))).tape=W.tape:=by simp only[st]
 have su2:((World.setCell (World.setCell (World.setCell (World.setCell (World.setCell (World.setCell (World.setCell (World.setCell (World.setCell (World.setCell W ⟨r,0,none⟩ (.int .i64 k)) ⟨r,1,none⟩ u1) ⟨r,2,none⟩ u2) ⟨r,3,none⟩ (.int .i64 a)) ⟨r,4,none⟩ (.int .i64 b)) ⟨r,5,none⟩ (.int .i64 s)) ⟨r,6,none⟩ (.int .i64 q)) ⟨r,7,none⟩ u7) ⟨r,8,none⟩ u8) ⟨r,9,none⟩ (.int .i64 n))).output=W.output:=by simp only[su]
 have sz:((World.setCell (World.setCell (World.setCell (World.setCell (World.setCell (World.setCell (World.setCell (World.setCell (World.setCell (World.setCell W ⟨r,0,none⟩ (.int .i64 k)) ⟨r,1,none⟩ u1) ⟨r,2,none⟩ u2) ⟨r,3,none⟩ (.int .i64 a)) ⟨r,4,none⟩ (.int .i64 b)) ⟨r,5,none⟩ (.int .i64 s)) ⟨r,6,none⟩ (.int .i64 q)) ⟨r,7,none⟩ u7) ⟨r,8,none⟩ u8) ⟨r,9,none⟩ (.int .i64 n))).heap.size=W.heap.size:=by simp
 have hk2:∀g,g≠r→((World.setCell (World.setCell (World.setCell (World.setCell (World.setCell (World.setCell (World.setCell (World.setCell (World.setCell (World.setCell W ⟨r,0,none⟩ (.int .i64 k)) ⟨r,1,none⟩ u1) ⟨r,2,none⟩ u2) ⟨r,3,none⟩ (.int .i64 a)) ⟨r,4,none⟩ (.int .i64 b)) ⟨r,5,none⟩ (.int .i64 s)) ⟨r,6,none⟩ (.int .i64 q)) ⟨r,7,none⟩ u7) ⟨r,8,none⟩ u8) ⟨r,9,none⟩ (.int .i64 n))).heap[g]?=W.heap[g]?:=fun g hg=>by rw[hk 9 _ g hg,hk 8 _ g hg,hk 7 _ g hg,hk 6 _ g hg,hk 5 _ g hg,hk 4 _ g hg,hk 3 _ g hg,hk 2 _ g hg,hk 1 _ g hg,hk 0 _ g hg]
 generalize (World.setCell (World.setCell (World.setCell (World.setCell (World.setCell (World.setCell (World.setCell (World.setCell (World.setCell (World.setCell W ⟨r,0,none⟩ (.int .i64 k)) ⟨r,1,none⟩ u1) ⟨r,2,none⟩ u2) ⟨r,3,none⟩ (.int .i64 a)) ⟨r,4,none⟩ (.int .i64 b)) ⟨r,5,none⟩ (.int .i64 s)) ⟨r,6,none⟩ (.int .i64 q)) ⟨r,7,none⟩ u7) ⟨r,8,none⟩ u8) ⟨r,9,none⟩ (.int .i64 n))=F at bX so2 st2 su2 sz hk2 ⊢
 have kb:∀{g T cs},g≠r→Blk W g T cs→Blk F g T cs:=fun hg hb=>by unfold Blk;rw[hk2 _ hg];exact hb
 have ki:∀{v l},IB w.heap.size W v l→IB w.heap.size F v l:=fun i=>i.keep fun g cs hg=>kb (blkI_ne hg h.R (by decide)) hg
 refine⟨bX,ki i1,ki i2,ki i3,ki i4,?_,?_⟩
 · obtain⟨ao,l,c,i,n,c1,c2,c3,c4,c5⟩:=h.hC
   refine⟨ao,l,c,i,n,kb (Ne.symm hr) c1,c2,c3,c4,⟨so2.trans c5.os,st2.trans c5.tape,su2.trans c5.output,by rw[sz];exact c5.size,fun g hg=>?_⟩⟩
   rw[hk2 g (by omega)];exact c5.block g hg
 · refine⟨so2.trans h.fr.os,st2.trans h.fr.tape,su2.trans h.fr.output,by rw[sz];exact h.fr.size,fun g hg hb ho=>?_⟩
   rw[hk2 g (by omega)];exact h.fr.block g hg hb ho
theorem S33.field{w0 w W:World}{p r x:Nat}(h:S33 w0 w W p r x){j:Nat}(hj:j=0∨j=5∨j=6)(y:Int)(hrx:r≠x)(hx:x≠p)(hw:w.heap.size≤x)(hw0:w0.heap.size≤x):S33 w0 w (W.setCell ⟨x,j,none⟩ (.int .i64 y)) p r x:=by
 obtain⟨k,v1,v2,a,b,s,q,v3,v4,n,gl,ol,tl,ql,hB,i1,i2,i3,i4⟩:=h.cl
 have hk:∀(g:Nat),g≠x→(W.setCell ⟨x,j,none⟩ (.int .i64 y)).heap[g]?=W.heap[g]?:=fun g hg=>Below.heap_setCell _ _ _ _ (fun e=>hg e)
 rcases hj with rfl | rfl | rfl
 · exact h.store (set_at (j:=0) (y:=.int .i64 y) (ds:=#[.int .i64 y,v1,v2,.int .i64 a,.int .i64 b,.int .i64 s,.int .i64 q,v3,v4,.int .i64 n]) hB (by simp)) i1 i2 i3 i4 hk (by simp) rfl rfl rfl hrx hx hw hw0
 · exact h.store (set_at (j:=5) (y:=.int .i64 y) (ds:=#[.int .i64 k,v1,v2,.int .i64 a,.int .i64 b,.int .i64 y,.int .i64 q,v3,v4,.int .i64 n]) hB (by simp)) i1 i2 i3 i4 hk (by simp) rfl rfl rfl hrx hx hw hw0
 · exact h.store (set_at (j:=6) (y:=.int .i64 y) (ds:=#[.int .i64 k,v1,v2,.int .i64 a,.int .i64 b,.int .i64 s,.int .i64 y,v3,v4,.int .i64 n]) hB (by simp)) i1 i2 i3 i4 hk (by simp) rfl rfl rfl hrx hx hw hw0
theorem S33.cut{w0 w W:World}{p r x:Nat}(h:S33 w0 w W p r x){ao:Option Addr}{m c:Nat}(hv:W.cell? ⟨x,8,none⟩=some (.slice ao m c))(hm:0<m)(hrx:r≠x)(hx:x≠p)(hw:w.heap.size≤x)(hw0:w0.heap.size≤x):S33 w0 w (W.setCell ⟨x,8,none⟩ (tailV ao m c 1)) p r x:=by
 obtain⟨k,v1,v2,a,b,s,q,v3,v4,n,gl,ol,tl,ql,hB,i1,i2,i3,i4⟩:=h.cl
 have hk:∀(g:Nat),g≠x→(W.setCell ⟨x,8,none⟩ (tailV ao m c 1)).heap[g]?=W.heap[g]?:=fun g hg=>Below.heap_setCell _ _ _ _ (fun e=>hg e)
 have e:=hB.cell (i:=8) (v:=v4) rfl
 rw[hv] at e
 have e2:=Option.some.inj e
 subst e2
 obtain⟨_,_,e3,_⟩:=i4.shape
 simp only[Value.slice.injEq] at e3
 exact h.store (set_at (j:=8) (y:=tailV ao m c 1) (ds:=#[.int .i64 k,v1,v2,.int .i64 a,.int .i64 b,.int .i64 s,.int .i64 q,v3,tailV ao m c 1,.int .i64 n]) hB (by simp)) i1 i2 i3 (i4.tail (by omega)) hk (by simp) rfl rfl rfl hrx hx hw hw0
theorem S33.term{w0 w W:World}{p r x:Nat}(h:S33 w0 w W p r x)(g i:Nat)(y:Int){cs:Array Value}(hg:Blk W g 3 cs)(hw:w.heap.size≤g)(hw0:w0.heap.size≤g):S33 w0 w (W.setCell ⟨g,i,none⟩ (.int .i64 y)) p r x:=by
 obtain⟨k,v1,v2,a,b,s,q,v3,v4,n,gl,ol,tl,ql,hB,i1,i2,i3,i4⟩:=h.cl
 obtain⟨g1,-,j1⟩:=i1.put g i y
 obtain⟨g2,-,j2⟩:=i2.put g i y
 obtain⟨g3,-,j3⟩:=i3.put g i y
 obtain⟨g4,-,j4⟩:=i4.put g i y
 exact⟨⟨k,v1,v2,a,b,s,q,v3,v4,n,g1,g2,g3,g4,hB.other (p:=⟨g,i,none⟩) (fun e=>blkI_ne hg hB (by decide) e.symm) _,j1,j2,j3,j4⟩,h.R.other (p:=⟨g,i,none⟩) (fun e=>blkI_ne hg h.R (by decide) e.symm) _,h.hC.other (fun e=>h.hC.nint hg e.symm) hw0 _,h.fr.set hw i _⟩
theorem l33Claim_any(w0 w:World)(p:Nat)(u:Value)(m:List Int)(h:Cur w0 w p)(hu:Byts w0 u m) :
 Calls Tryz.prog 116 #[.pointer (some ⟨p,0,none⟩),u] w fun e w'=>∃(k:Int) (a1:Option Addr) (n1:Nat) (c1:Nat) (a2:Option Addr) (n2:Nat) (c2:Nat) (a:Int) (b:Int) (s:Int) (q:Int) (a3:Option Addr) (n3:Nat) (c3:Nat) (a4:Option Addr) (n4:Nat) (c4:Nat) (n:Int) (gl ol tl ql:List Int),e=.returned (.agg #[.int .i64 k,.slice a1 n1 c1,.slice a2 n2 c2,.int .i64 a,.int .i64 b,.int .i64 s,.int .i64 q,.slice a3 n3 c3,.slice a4 n4 c4,.int .i64 n])∧IB w.heap.size w' (.slice a1 n1 c1) gl∧IB w.heap.size w' (.slice a2 n2 c2) ol∧IB w.heap.size w' (.slice a3 n3 c3) tl∧IB w.heap.size w' (.slice a4 n4 c4) ql∧Cur w0 w' p∧Drw p w w':=by
 have hp:=h.lt
 have hs1:(w.alloc (.cells #[.int .i64 0,.slice none 0 0,.slice none 0 0,.int .i64 0,.int .i64 0,.int .i64 0,.int .i64 0,.slice none 0 0,.slice none 0 0,.int .i64 0] 38)).heap.size=w.heap.size+1:=by simp
 have hI0:S33 w0 w ((w.alloc (.cells #[.int .i64 0,.slice none 0 0,.slice none 0 0,.int .i64 0,.int .i64 0,.int .i64 0,.int .i64 0,.slice none 0 0,.slice none 0 0,.int .i64 0] 38)).alloc (.cells #[.int .i64 0,.slice none 0 0,.slice none 0 0,.int .i64 0,.int .i64 0,.int .i64 0,.int .i64 0,.slice none 0 0,.slice none 0 0,.int .i64 0] 38)) p w.heap.size (w.heap.size+1):=by
  have hB:=Blk.new (w.alloc (.cells #[.int .i64 0,.slice none 0 0,.slice none 0 0,.int .i64 0,.int .i64 0,.int .i64 0,.int .i64 0,.slice none 0 0,.slice none 0 0,.int .i64 0] 38)) 38 #[.int .i64 0,.slice none 0 0,.slice none 0 0,.int .i64 0,.int .i64 0,.int .i64 0,.int .i64 0,.slice none 0 0,.slice none 0 0,.int .i64 0]
  rw[hs1] at hB
  have n0:∀W,IB w.heap.size W (.slice none 0 0) []:=fun W=>⟨none,0,rfl,by simp,by simp,Or.inl rfl⟩
  exact⟨⟨0,_,_,0,0,0,0,_,_,0,[],[],[],[],hB,n0 _,n0 _,n0 _,n0 _⟩,(Blk.new w 38 #[.int .i64 0,.slice none 0 0,.slice none 0 0,.int .i64 0,.int .i64 0,.int .i64 0,.int .i64 0,.slice none 0 0,.slice none 0 0,.int .i64 0]).alloc _,(h.alloc _).alloc _,((((Ext.refl w).alloc _).alloc _).drw p)⟩
 obtain⟨w1,hw1⟩:∃x,x=(w.alloc (.cells #[.int .i64 0,.slice none 0 0,.slice none 0 0,.int .i64 0,.int .i64 0,.int .i64 0,.int .i64 0,.slice none 0 0,.slice none 0 0,.int .i64 0] 38)).alloc (.cells #[.int .i64 0,.slice none 0 0,.slice none 0 0,.int .i64 0,.int .i64 0,.int .i64 0,.int .i64 0,.slice none 0 0,.slice none 0 0,.int .i64 0] 38):=⟨_,rfl⟩
 rw[←hw1] at hI0
 have Hw1:=Lib.hid hw1
 have nr:w.heap.size≠p:=by omega
 have nx:w.heap.size+1≠p:=by omega
 have nrx:w.heap.size≠w.heap.size+1:=by omega
 have nwx:w.heap.size≤w.heap.size+1:=by omega
 have nw0:w0.heap.size≤w.heap.size+1:=by omega
 clear hw1 hs1
 go_enter Tryz.func116,Tryz.ntmps116
 go_wp2_with fail
 rw[←Hw1.out]
 refine (l1Below_any w0 w1 p 7 (by omega) hI0.hC).mono ?_
 rintro e w2 ⟨z,rfl,hb,hC2,hF2⟩
 have hz:=hb.2 (by omega)
 have hI2:=hI0.drw hF2 hC2 nr nx
 clear hI0 hb hC2 hF2
 go_upto_block 0 with fail
 go_cut [] (fun wx=>S33 w0 w wx p w.heap.size (w.heap.size+1))
 case first =>
  rcases (show z=0∨z=1∨z=2∨z=3∨z=4∨z=5∨z=6 by omega) with rfl | rfl | rfl | rfl | rfl | rfl | rfl
  · go_wp2_with (first | (go_at_call 77;refine (l9Two_any u m _ (hu.ext hI2.hC.base)).mono ?_;rintro e w3 ⟨ao,L,c,x0',x1',rfl,hO,hE3⟩;have hI:=hI2.ext hE3;have hJ:=hI.ext ((Ext.refl w3).alloc (.cells #[.slice ao L.length c] 27));have l0:=box_cell w3 (.slice ao L.length c) 27 _ (Ext.refl _);have hV:=(hO.alloc (.cells #[.slice ao L.length c] 27)).ints;have hIsz:=hJ.fr.size) | (go_at_call 15;refine (Calls.mono (sClaimOfSum_any _ L _ _ _ hV) (fun e w' hh=>clR_of (B:=w.heap.size) hh ((by have:=hIsz;omega)))).mono ?_;rintro e wk ⟨k,a1,n1,c1,a2,n2,c2,a,b,s,q,a3,n3,c3,a4,n4,c4,n,bb,gl,ol,tl,ql,rfl,i1,i2,i3,i4,hEk⟩;have hIk:=hJ.ext hEk;obtain⟨_,_,_,_,_,_,_,_,_,_,_,_,_,_,hBX,-⟩:=hIk.cl;have x0:=hBX.cell (i:=0) rfl;have y0:=hBX.free 0;have x1:=hBX.cell (i:=1) rfl;have y1:=hBX.free 1;have x2:=hBX.cell (i:=2) rfl;have y2:=hBX.free 2;have x3:=hBX.cell (i:=3) rfl;have y3:=hBX.free 3;have x4:=hBX.cell (i:=4) rfl;have y4:=hBX.free 4;have x5:=hBX.cell (i:=5) rfl;have y5:=hBX.free 5;have x6:=hBX.cell (i:=6) rfl;have y6:=hBX.free 6;have x7:=hBX.cell (i:=7) rfl;have y7:=hBX.free 7;have x8:=hBX.cell (i:=8) rfl;have y8:=hBX.free 8;have x9:=hBX.cell (i:=9) rfl;have y9:=hBX.free 9;have hIz:=hIk.put (k:=k) (a:=a) (b:=b) (s:=s) (q:=q) (n:=n) i1 i2 i3 i4 nrx nx nwx nw0))
    go_meet
    exact hIz
  · go_wp2_with (first | (go_at_call 77;refine (l9Two_any u m _ (hu.ext hI2.hC.base)).mono ?_;rintro e w3 ⟨ao,L,c,x0',x1',rfl,hO,hE3⟩;have hI:=hI2.ext hE3;have hJ:=hI.ext ((Ext.refl w3).alloc (.cells #[.slice ao L.length c] 27));have l0:=box_cell w3 (.slice ao L.length c) 27 _ (Ext.refl _);have hV:=(hO.alloc (.cells #[.slice ao L.length c] 27)).ints;have hIsz:=hJ.fr.size) | (go_at_call 15;refine (Calls.mono (sClaimOfSum_any _ L _ _ _ hV) (fun e w' hh=>clR_of (B:=w.heap.size) hh ((by have:=hIsz;omega)))).mono ?_;rintro e wk ⟨k,a1,n1,c1,a2,n2,c2,a,b,s,q,a3,n3,c3,a4,n4,c4,n,bb,gl,ol,tl,ql,rfl,i1,i2,i3,i4,hEk⟩;have hIk:=hJ.ext hEk;obtain⟨_,_,_,_,_,_,_,_,_,_,_,_,_,_,hBX,-⟩:=hIk.cl;have x0:=hBX.cell (i:=0) rfl;have y0:=hBX.free 0;have x1:=hBX.cell (i:=1) rfl;have y1:=hBX.free 1;have x2:=hBX.cell (i:=2) rfl;have y2:=hBX.free 2;have x3:=hBX.cell (i:=3) rfl;have y3:=hBX.free 3;have x4:=hBX.cell (i:=4) rfl;have y4:=hBX.free 4;have x5:=hBX.cell (i:=5) rfl;have y5:=hBX.free 5;have x6:=hBX.cell (i:=6) rfl;have y6:=hBX.free 6;have x7:=hBX.cell (i:=7) rfl;have y7:=hBX.free 7;have x8:=hBX.cell (i:=8) rfl;have y8:=hBX.free 8;have x9:=hBX.cell (i:=9) rfl;have y9:=hBX.free 9;have hIz:=hIk.put (k:=k) (a:=a) (b:=b) (s:=s) (q:=q) (n:=n) i1 i2 i3 i4 nrx nx nwx nw0))
    go_meet
    exact hIz
  · go_wp2_with (first | (go_at_call 85;refine (l16Both_any u m _ (hu.ext hI2.hC.base)).mono ?_;rintro e w3 ⟨ao,L,c,aP,P,cP,rfl,hO,hP,hl,hE3⟩;have hI:=hI2.ext hE3;have hJ:=hI.ext ((Ext.refl w3).alloc (.cells #[.slice ao L.length c] 27));have l0:=box_cell w3 (.slice ao L.length c) 27 _ (Ext.refl _);have hV:=(hO.alloc (.cells #[.slice ao L.length c] 27)).ints;have hIsz:=hJ.fr.size;have hP2:=hP.ext ((Ext.refl w3).alloc (.cells #[.slice ao L.length c] 27))) | (go_at_call 18;refine (Calls.mono (sClaimOfSequence_any _ _ L P _ hV hP2) (fun e w' hh=>clR_of (B:=w.heap.size) hh ((by have:=hIsz;omega)))).mono ?_;rintro e wk ⟨k,a1,n1,c1,a2,n2,c2,a,b,s,q,a3,n3,c3,a4,n4,c4,n,bb,gl,ol,tl,ql,rfl,i1,i2,i3,i4,hEk⟩;have hIk:=hJ.ext hEk;obtain⟨_,_,_,_,_,_,_,_,_,_,_,_,_,_,hBX,-⟩:=hIk.cl;have x0:=hBX.cell (i:=0) rfl;have y0:=hBX.free 0;have x1:=hBX.cell (i:=1) rfl;have y1:=hBX.free 1;have x2:=hBX.cell (i:=2) rfl;have y2:=hBX.free 2;have x3:=hBX.cell (i:=3) rfl;have y3:=hBX.free 3;have x4:=hBX.cell (i:=4) rfl;have y4:=hBX.free 4;have x5:=hBX.cell (i:=5) rfl;have y5:=hBX.free 5;have x6:=hBX.cell (i:=6) rfl;have y6:=hBX.free 6;have x7:=hBX.cell (i:=7) rfl;have y7:=hBX.free 7;have x8:=hBX.cell (i:=8) rfl;have y8:=hBX.free 8;have x9:=hBX.cell (i:=9) rfl;have y9:=hBX.free 9;have hIz:=hIk.put (k:=k) (a:=a) (b:=b) (s:=s) (q:=q) (n:=n) i1 i2 i3 i4 nrx nx nwx nw0))
    go_meet
    exact hIz
  · go_wp2_with (first | (go_at_call 101;refine (l20Both_any u m _ (hu.ext hI2.hC.base)).mono ?_;rintro e w3 ⟨ao,L,c,x0',x1',rfl,hO,hE3⟩;have hI:=hI2.ext hE3;have hJ:=hI.ext ((Ext.refl w3).alloc (.cells #[.slice ao L.length c] 27));have l0:=box_cell w3 (.slice ao L.length c) 27 _ (Ext.refl _);have hV:=(hO.alloc (.cells #[.slice ao L.length c] 27)).ints;have hIsz:=hJ.fr.size) | (go_at_call 24;refine (Calls.mono (sClaimOfTile_any _ L _ _ hV) (fun e w' hh=>clR_of (B:=w.heap.size) hh ((by have:=hIsz;omega)))).mono ?_;rintro e wk ⟨k,a1,n1,c1,a2,n2,c2,a,b,s,q,a3,n3,c3,a4,n4,c4,n,bb,gl,ol,tl,ql,rfl,i1,i2,i3,i4,hEk⟩;have hIk:=hJ.ext hEk;obtain⟨_,_,_,_,_,_,_,_,_,_,_,_,_,_,hBX,-⟩:=hIk.cl;have x0:=hBX.cell (i:=0) rfl;have y0:=hBX.free 0;have x1:=hBX.cell (i:=1) rfl;have y1:=hBX.free 1;have x2:=hBX.cell (i:=2) rfl;have y2:=hBX.free 2;have x3:=hBX.cell (i:=3) rfl;have y3:=hBX.free 3;have x4:=hBX.cell (i:=4) rfl;have y4:=hBX.free 4;have x5:=hBX.cell (i:=5) rfl;have y5:=hBX.free 5;have x6:=hBX.cell (i:=6) rfl;have y6:=hBX.free 6;have x7:=hBX.cell (i:=7) rfl;have y7:=hBX.free 7;have x8:=hBX.cell (i:=8) rfl;have y8:=hBX.free 8;have x9:=hBX.cell (i:=9) rfl;have y9:=hBX.free 9;have hIz:=hIk.put (k:=k) (a:=a) (b:=b) (s:=s) (q:=q) (n:=n) i1 i2 i3 i4 nrx nx nwx nw0))
    go_meet
    exact hIz
  · go_wp2_with (first | (go_at_call 104;refine (DrawFindFreimanIso_any u m _ (hu.ext hI2.hC.base)).mono ?_;rintro e w3 ⟨ao,L,c,ao2,L2,c2',x0',x1',rfl,hO,hO2,hE3⟩;have hI:=hI2.ext hE3;have e34:=((Ext.refl w3).alloc (.cells #[.slice ao L.length c] 27)).alloc (.cells #[.slice ao2 L2.length c2'] 27);have hJ:=hI.ext e34;have hIsz:=hJ.fr.size;have l0:=((Blk.new w3 27 #[.slice ao L.length c]).alloc (.cells #[.slice ao2 L2.length c2'] 27)).cell (i:=0) (v:=.slice ao L.length c) rfl;have l1:=(Blk.new' (w:=w3.alloc (.cells #[.slice ao L.length c] 27)) (T:=27) (cs:=#[.slice ao2 L2.length c2']) (b:=w3.heap.size+1) (by simp)).cell (i:=0) (v:=.slice ao2 L2.length c2') rfl;have hV:=(hO.ext e34).ints;have hV2:=(hO2.ext e34).ints) | (go_at_call 27;refine (Calls.mono (sClaimOfAlike_any _ _ L L2 _ _ _ hV hV2) (fun e w' hh=>clR_of (B:=w.heap.size) hh ((by have:=hIsz;omega)))).mono ?_;rintro e wk ⟨k,a1,n1,c1,a2,n2,c2,a,b,s,q,a3,n3,c3,a4,n4,c4,n,bb,gl,ol,tl,ql,rfl,i1,i2,i3,i4,hEk⟩;have hIk:=hJ.ext hEk;obtain⟨_,_,_,_,_,_,_,_,_,_,_,_,_,_,hBX,-⟩:=hIk.cl;have x0:=hBX.cell (i:=0) rfl;have y0:=hBX.free 0;have x1:=hBX.cell (i:=1) rfl;have y1:=hBX.free 1;have x2:=hBX.cell (i:=2) rfl;have y2:=hBX.free 2;have x3:=hBX.cell (i:=3) rfl;have y3:=hBX.free 3;have x4:=hBX.cell (i:=4) rfl;have y4:=hBX.free 4;have x5:=hBX.cell (i:=5) rfl;have y5:=hBX.free 5;have x6:=hBX.cell (i:=6) rfl;have y6:=hBX.free 6;have x7:=hBX.cell (i:=7) rfl;have y7:=hBX.free 7;have x8:=hBX.cell (i:=8) rfl;have y8:=hBX.free 8;have x9:=hBX.cell (i:=9) rfl;have y9:=hBX.free 9;have hIz:=hIk.put (k:=k) (a:=a) (b:=b) (s:=s) (q:=q) (n:=n) i1 i2 i3 i4 nrx nx nwx nw0))
    go_meet
    exact hIz
  · go_wp2_with (first | (go_at_call 109;refine (l1Below_any w0 _ p 3 (by omega) hI2.hC).mono ?_;rintro e w3 ⟨y,rfl,hb,hC3,hF3⟩;have hJ:=hI2.drw hF3 hC3 nr nx;have hIsz:=hJ.fr.size;have hy:=hb.2 (by omega);have hwy:IntKind.i64.wrap (1+y)=1+y:=IntWalk.i64_in _ (by omega)) | (go_at_call 30;refine (Calls.mono (sClaimOfColors_any _ _) (fun e w' hh=>clR_of (B:=w.heap.size) hh ((by have:=hIsz;omega)))).mono ?_;rintro e wk ⟨k,a1,n1,c1,a2,n2,c2,a,b,s,q,a3,n3,c3,a4,n4,c4,n,bb,gl,ol,tl,ql,rfl,i1,i2,i3,i4,hEk⟩;have hIk:=hJ.ext hEk;obtain⟨_,_,_,_,_,_,_,_,_,_,_,_,_,_,hBX,-⟩:=hIk.cl;have x0:=hBX.cell (i:=0) rfl;have y0:=hBX.free 0;have x1:=hBX.cell (i:=1) rfl;have y1:=hBX.free 1;have x2:=hBX.cell (i:=2) rfl;have y2:=hBX.free 2;have x3:=hBX.cell (i:=3) rfl;have y3:=hBX.free 3;have x4:=hBX.cell (i:=4) rfl;have y4:=hBX.free 4;have x5:=hBX.cell (i:=5) rfl;have y5:=hBX.free 5;have x6:=hBX.cell (i:=6) rfl;have y6:=hBX.free 6;have x7:=hBX.cell (i:=7) rfl;have y7:=hBX.free 7;have x8:=hBX.cell (i:=8) rfl;have y8:=hBX.free 8;have x9:=hBX.cell (i:=9) rfl;have y9:=hBX.free 9;have hIz:=hIk.put (k:=k) (a:=a) (b:=b) (s:=s) (q:=q) (n:=n) i1 i2 i3 i4 nrx nx nwx nw0))
    go_meet
    exact hIz
  · go_wp2_with (first | (go_at_call 113;refine (l6Both_any u m _ (hu.ext hI2.hC.base)).mono ?_;rintro e w3 ⟨ao,L,c,x0',rfl,hO,hE3⟩;have hI:=hI2.ext hE3;have hJ:=hI.ext ((Ext.refl w3).alloc (.cells #[.slice ao L.length c] 27));have l0:=box_cell w3 (.slice ao L.length c) 27 _ (Ext.refl _);have hV:=(hO.alloc (.cells #[.slice ao L.length c] 27)).ints;have hIsz:=hJ.fr.size) | (go_at_call 33;refine (Calls.mono (sClaimOfCoset_any _ L _ _ hV) (fun e w' hh=>clR_of (B:=w.heap.size) hh ((by have:=hIsz;omega)))).mono ?_;rintro e wk ⟨k,a1,n1,c1,a2,n2,c2,a,b,s,q,a3,n3,c3,a4,n4,c4,n,bb,gl,ol,tl,ql,rfl,i1,i2,i3,i4,hEk⟩;have hIk:=hJ.ext hEk;obtain⟨_,_,_,_,_,_,_,_,_,_,_,_,_,_,hBX,-⟩:=hIk.cl;have x0:=hBX.cell (i:=0) rfl;have y0:=hBX.free 0;have x1:=hBX.cell (i:=1) rfl;have y1:=hBX.free 1;have x2:=hBX.cell (i:=2) rfl;have y2:=hBX.free 2;have x3:=hBX.cell (i:=3) rfl;have y3:=hBX.free 3;have x4:=hBX.cell (i:=4) rfl;have y4:=hBX.free 4;have x5:=hBX.cell (i:=5) rfl;have y5:=hBX.free 5;have x6:=hBX.cell (i:=6) rfl;have y6:=hBX.free 6;have x7:=hBX.cell (i:=7) rfl;have y7:=hBX.free 7;have x8:=hBX.cell (i:=8) rfl;have y8:=hBX.free 8;have x9:=hBX.cell (i:=9) rfl;have y9:=hBX.free 9;have hIz:=hIk.put (k:=k) (a:=a) (b:=b) (s:=s) (q:=q) (n:=n) i1 i2 i3 i4 nrx nx nwx nw0))
    go_meet
    exact hIz
 case rest =>
 clear hI2
 rename World=>w3
 have hI:=hcut
 clear hcut
 go_wp2_with fail
 refine (l1Below_any w0 w3 p 8 (by omega) hI.hC).mono ?_
 rintro e w4 ⟨y,rfl,hb,hC4,hF4⟩
 have hy:=hb.2 (by omega)
 have hI4:=hI.drw hF4 hC4 nr nx
 clear hI hb hC4 hF4
 go_upto_block 1 with fail
 go_cut [] (fun wx=>S33 w0 w wx p w.heap.size (w.heap.size+1))
 case first =>
  have hp4:p<w4.heap.size:=hI4.hC.lt.2
  have hOl:Own 3 w4 (w4.alloc (.cells #[.int .i64 0,.int .i64 1,.int .i64 (-1),.int .i64 3] 3)) (.slice (some ⟨w4.heap.size,0,none⟩) 4 4) [0,1,-1,3]:=own_made (TI:=3) (n:=4) (by omega) (Ext.refl w4) [0,1,-1,3] rfl
  have hIa:=hI4.ext ((Ext.refl w4).alloc (.cells #[.int .i64 0,.int .i64 1,.int .i64 (-1),.int .i64 3] 3))
  rcases (show y=0∨y=1∨y=2∨y=3∨y=4∨4<y by omega) with rfl | rfl | rfl | rfl | rfl | hy4
  · go_wp2_with (go_at_call 186;refine (l1PickInt_any w0 _ w4 p _ [0,1,-1,3] hIa.hC hOl hp4 (by decide) (by decide)).mono ?_;rintro e w5 ⟨kk,hkk,rfl,hC5,hF5⟩;obtain⟨t,ht⟩:∃t,t=nth [0,1,-1,3] kk:=⟨_,rfl⟩;rw[←ht];clear ht;have hI5:=hIa.drw hF5 hC5 nr nx;obtain⟨_,_,_,_,_,_,_,_,_,_,_,_,_,_,hBX,-⟩:=hI5.cl;have xj:=hBX.cell (i:=5) rfl;have yj:=hBX.free 5;have hIz:=hI5.field (j:=5) (by omega) t nrx nx nwx nw0)
    go_meet
    exact hIz
  · go_wp2_with (go_at_call 186;refine (l1PickInt_any w0 _ w4 p _ [0,1,-1,3] hIa.hC hOl hp4 (by decide) (by decide)).mono ?_;rintro e w5 ⟨kk,hkk,rfl,hC5,hF5⟩;obtain⟨t,ht⟩:∃t,t=nth [0,1,-1,3] kk:=⟨_,rfl⟩;rw[←ht];clear ht;have hI5:=hIa.drw hF5 hC5 nr nx;obtain⟨_,_,_,_,_,_,_,_,_,_,_,_,_,_,hBX,-⟩:=hI5.cl;have xj:=hBX.cell (i:=6) rfl;have yj:=hBX.free 6;have hIz:=hI5.field (j:=6) (by omega) t nrx nx nwx nw0)
    go_meet
    exact hIz
  · go_wp2_with (go_at_call 109;refine (l1Below_any w0 w4 p 9 (by omega) hI4.hC).mono ?_;rintro e w5 ⟨t,rfl,-,hC5,hF5⟩;have hI5:=hI4.drw hF5 hC5 nr nx;obtain⟨_,_,_,_,_,_,_,_,_,_,_,_,_,_,hBX,-⟩:=hI5.cl;have x0:=hBX.cell (i:=0) rfl;have y0:=hBX.free 0;have hIz:=hI5.field (Or.inl rfl) t nrx nx nwx nw0)
    go_meet
    exact hIz
  · obtain⟨k,v1,v2,a,b,s,q,v3,v4,n,gl,ol,tl,ql,hB,i1,i2,i3,i4⟩:=id hI4.cl
    obtain⟨a3,c3,e3,hc3⟩:=i3.shape
    subst e3
    have x7:=hB.cell (i:=7) (v:=.slice a3 tl.length c3) rfl
    by_cases h0:0<tl.length
    · have h0I:(0:Int)<(tl.length:Int):=by omega
      obtain⟨ao',c',e4,-,-,h4⟩:=id i3
      simp only[Value.slice.injEq] at e4
      obtain⟨rfl,-,rfl⟩:=e4
      obtain⟨gt,kt,cst,rfl,hbt,hBt,hct⟩:∃g k cs,a3=some ⟨g,k,none⟩∧w.heap.size≤g∧Blk w4 g 3 cs∧∀i,i<tl.length→cs[k+i]?=some (.int .i64 (nth tl i)):=by
       rcases h4 with h4 | h4
       · omega
       · exact h4
      have hix:∀W,(Instr.indexAt 22 (.slice (some ⟨gt,kt,none⟩) tl.length c3) (.int .i64 0)).run Tryz.prog W=.ok (.pointer (some ⟨gt,kt,none⟩)) W:=fun W=>by
       rw[run_indexAt_slice (h:=elI),if_pos (by omega),szI]
       simp[Result.andThen,Addr.add]
      go_upto_region 29 with fail
      have hIb:=hI4.ext (((Ext.refl w4).alloc (.cells #[.int .i64 0,.int .i64 1,.int .i64 (-1),.int .i64 99] 3)).drew)
      have hOl9:Own 3 w4 (w4.alloc (.cells #[.int .i64 0,.int .i64 1,.int .i64 (-1),.int .i64 99] 3)) (.slice (some ⟨w4.heap.size,0,none⟩) 4 4) [0,1,-1,99]:=own_made (TI:=3) (n:=4) (by omega) (Ext.refl w4) [0,1,-1,99] rfl
      have hOb:=hOl9.drew
      have x7s:=True.intro
      have x76:=True.intro
      refine wp_region_held_drew (S:=(fun W=>W.cell? ⟨w.heap.size+1,7,none⟩=some (.slice (some ⟨gt,kt,none⟩) tl.length c3))) (by kernel_rfl) (by exact x7) (fun hHeld=>?_)
      (refine takeOn (i:=0) (v:=?_) (by kernel_rfl) (by rfl) (by rfl) (by kernel_rfl) (by kernel_rfl) (by intro _ _ _ h;exact h) ?_ (by assumption) ?_);(rotate_left 1);(focus ((intro w hSw);(try dsimp only at hSw);go_simp;(try with_reducible rfl)));(try simp only[Act.put,List.setIfInBounds_toArray,List.set_cons_zero,List.set_cons_succ,List.getElem_toArray,List.getElem_cons_zero,List.getElem_cons_succ])
      (refine takeOn (i:=1) (v:=?_) (by kernel_rfl) (by rfl) (by rfl) (by kernel_rfl) (by kernel_rfl) (by intro _ _ _ h;exact h) ?_ (by assumption) ?_);(rotate_left 1);(focus ((intro w hSw);(try dsimp only at hSw);go_simp;(try with_reducible rfl)));(try simp only[Act.put,List.setIfInBounds_toArray,List.set_cons_zero,List.set_cons_succ,List.getElem_toArray,List.getElem_cons_zero,List.getElem_cons_succ])
      (refine takeOn (i:=2) (v:=?_) (by kernel_rfl) (by rfl) (by rfl) (by kernel_rfl) (by kernel_rfl) (by intro _ _ _ h;exact h) ?_ (by assumption) ?_);(rotate_left 1);(focus ((intro w hSw);(try dsimp only at hSw);go_simp;(try with_reducible rfl)));(try simp only[Act.put,List.setIfInBounds_toArray,List.set_cons_zero,List.set_cons_succ,List.getElem_toArray,List.getElem_cons_zero,List.getElem_cons_succ])
      refine takeOne (i:=3) (by kernel_rfl) (by rfl) (by rfl) (fun K hK=>?_)
      go_simp
      refine hK.out _ _ (by first | exact x7 | exact ((hB.alloc _).drew).cell (i:=7) rfl | exact x7s | exact x76) (fun hHeld=>?_)
      clear hK K
      (try simp only[Act.put,List.setIfInBounds_toArray,List.set_cons_zero,List.set_cons_succ,List.getElem_toArray,List.getElem_cons_zero,List.getElem_cons_succ])
      refine takeOne (i:=4) (by kernel_rfl) (by rfl) (by rfl) (fun K hK=>?_)
      go_simp;(go_at_call 186;(with_reducible refine Calls.mono (l1PickInt_any w0 _ w4 p _ [0,1,-1,99] hIb.hC hOb hp4 (by decide) (by decide)) ?_);rintro e w5 ⟨kk,hkk,rfl,hC5,hF5⟩);obtain⟨t,ht⟩:∃t,t=nth [0,1,-1,99] kk:=⟨_,rfl⟩;rw[←ht];clear ht;have hI5:=hIb.drw hF5 hC5 nr nx;have hB5:=hF5.blk ((hB.alloc (.cells #[.int .i64 0,.int .i64 1,.int .i64 (-1),.int .i64 99] 3)).drew) nx;have hBt5:=hF5.blk ((hBt.alloc (.cells #[.int .i64 0,.int .i64 1,.int .i64 (-1),.int .i64 99] 3)).drew) (hI4.hC.nint hBt);have x7s:=hB5.cell (i:=7) (v:=.slice (some ⟨gt,kt,none⟩) tl.length c3) rfl;have ct:=hBt5.cell (i:=kt) (by have:=hct 0 h0;simpa using this);have ft:=hBt5.free kt;have hIz:=hI5.term gt kt t hBt5 hbt (by omega);have x76:=(hB5.other (p:=⟨gt,kt,none⟩) (fun e=>blkI_ne hBt5 hB5 (by decide) e.symm) (.int .i64 t)).cell (i:=7) (v:=.slice (some ⟨gt,kt,none⟩) tl.length c3) rfl
      refine hK.out _ _ (by first | exact x7 | exact ((hB.alloc _).drew).cell (i:=7) rfl | exact x7s | exact x76) (fun hHeld=>?_)
      clear hK K
      (try simp only[Act.put,List.setIfInBounds_toArray,List.set_cons_zero,List.set_cons_succ,List.getElem_toArray,List.getElem_cons_zero,List.getElem_cons_succ])
      (refine takeOn (i:=5) (v:=?_) (by kernel_rfl) (by rfl) (by rfl) (by kernel_rfl) (by kernel_rfl) (by intro _ _ _ h;exact h) ?_ (by assumption) ?_);(rotate_left 1);(focus ((intro w hSw);(try dsimp only at hSw);go_simp;(try with_reducible rfl)));(try simp only[Act.put,List.setIfInBounds_toArray,List.set_cons_zero,List.set_cons_succ,List.getElem_toArray,List.getElem_cons_zero,List.getElem_cons_succ])
      refine takeOne (i:=6) (by kernel_rfl) (by rfl) (by rfl) (fun K hK=>?_)
      go_simp
      refine hK.out _ _ (by first | exact x7 | exact ((hB.alloc _).drew).cell (i:=7) rfl | exact x7s | exact x76) (fun hHeld=>?_)
      clear hK K
      (try simp only[Act.put,List.setIfInBounds_toArray,List.set_cons_zero,List.set_cons_succ,List.getElem_toArray,List.getElem_cons_zero,List.getElem_cons_succ])
      refine wpAnyH_done (by kernel_rfl) ?_ _
      go_wp2_with fail
      go_meet
      exact hIz
    · have h0I:¬(0:Int)<(tl.length:Int):=by omega
      go_wp2_with fail
      go_meet
      exact hI4
  · obtain⟨k,v1,v2,a,b,s,q,v3,v4,n,gl,ol,tl,ql,hB,i1,i2,i3,i4⟩:=id hI4.cl
    obtain⟨a4,c4,e4,hc4⟩:=i4.shape
    subst e4
    have x8:=hB.cell (i:=8) (v:=.slice a4 ql.length c4) rfl
    have y8:=hB.free 8
    by_cases h0:0<ql.length
    · have h0I:(0:Int)<(ql.length:Int):=by omega
      have hfl:=fun W=>run_cutFrom (P:=Tryz.prog) elI szI a4 ql.length c4 1 (by omega) (by omega) W
      have hfa:=fun W=>run_cutFromAt (P:=Tryz.prog) elI szI a4 ql.length c4 1 (by omega) (by omega) W
      rw[show ((1:Int)).toNat=1 from rfl] at hfl hfa
      have hIz:=hI4.cut x8 h0 nrx nx nwx nw0
      obtain⟨aT,mT,cT,hT⟩:∃ao m c,tailV a4 ql.length c4 1=.slice ao m c:=⟨_,_,_,rfl⟩
      rw[hT] at hfl hfa hIz
      clear hT
      go_wp2_with fail
      go_meet
      exact hIz
    · have h0I:¬(0:Int)<(ql.length:Int):=by omega
      go_wp2_with fail
      go_meet
      exact hI4
  · have c0:(y == 0)=false:=by rw[beq_eq_false_iff_ne];omega
    have c1:(y == 1)=false:=by rw[beq_eq_false_iff_ne];omega
    have c2:(y == 2)=false:=by rw[beq_eq_false_iff_ne];omega
    have c3:(y == 3)=false:=by rw[beq_eq_false_iff_ne];omega
    have c4:(y == 4)=false:=by rw[beq_eq_false_iff_ne];omega
    go_wp2_with fail
    go_meet
    exact hI4
 case rest =>
 clear hI4
 rename World=>w5
 obtain⟨k,v1,v2,a,b,s,q,v3,v4,n,gl,ol,tl,ql,hB,i1,i2,i3,i4⟩:=hcut.cl
 obtain⟨a1,c1,e1,-⟩:=i1.shape
 obtain⟨a2,c2,e2,-⟩:=i2.shape
 obtain⟨a3,c3,e3,-⟩:=i3.shape
 obtain⟨a4,c4,e4,-⟩:=i4.shape
 subst e1 e2 e3 e4
 have x0:=hB.cell (i:=0) (v:=.int .i64 k) rfl
 have x1:=hB.cell (i:=1) (v:=.slice a1 gl.length c1) rfl
 have x2:=hB.cell (i:=2) (v:=.slice a2 ol.length c2) rfl
 have x3:=hB.cell (i:=3) (v:=.int .i64 a) rfl
 have x4:=hB.cell (i:=4) (v:=.int .i64 b) rfl
 have x5:=hB.cell (i:=5) (v:=.int .i64 s) rfl
 have x6:=hB.cell (i:=6) (v:=.int .i64 q) rfl
 have x7:=hB.cell (i:=7) (v:=.slice a3 tl.length c3) rfl
 have x8:=hB.cell (i:=8) (v:=.slice a4 ql.length c4) rfl
 have x9:=hB.cell (i:=9) (v:=.int .i64 n) rfl
 have r0:=hcut.R.cell (i:=0) rfl
 have f0:=hcut.R.free 0
 have r1:=hcut.R.cell (i:=1) rfl
 have f1:=hcut.R.free 1
 have r2:=hcut.R.cell (i:=2) rfl
 have f2:=hcut.R.free 2
 have r3:=hcut.R.cell (i:=3) rfl
 have f3:=hcut.R.free 3
 have r4:=hcut.R.cell (i:=4) rfl
 have f4:=hcut.R.free 4
 have r5:=hcut.R.cell (i:=5) rfl
 have f5:=hcut.R.free 5
 have r6:=hcut.R.cell (i:=6) rfl
 have f6:=hcut.R.free 6
 have r7:=hcut.R.cell (i:=7) rfl
 have f7:=hcut.R.free 7
 have r8:=hcut.R.cell (i:=8) rfl
 have f8:=hcut.R.free 8
 have r9:=hcut.R.cell (i:=9) rfl
 have f9:=hcut.R.free 9
 obtain⟨hBF,j1,j2,j3,j4,hCF,hFF⟩:=hcut.fin (k:=k) (a:=a) (b:=b) (s:=s) (q:=q) (n:=n) i1 i2 i3 i4 nr (Nat.le_refl _) (by omega)
 have q0:=hBF.cell (i:=0) (v:=.int .i64 k) rfl
 have q1:=hBF.cell (i:=1) (v:=.slice a1 gl.length c1) rfl
 have q2:=hBF.cell (i:=2) (v:=.slice a2 ol.length c2) rfl
 have q3:=hBF.cell (i:=3) (v:=.int .i64 a) rfl
 have q4:=hBF.cell (i:=4) (v:=.int .i64 b) rfl
 have q5:=hBF.cell (i:=5) (v:=.int .i64 s) rfl
 have q6:=hBF.cell (i:=6) (v:=.int .i64 q) rfl
 have q7:=hBF.cell (i:=7) (v:=.slice a3 tl.length c3) rfl
 have q8:=hBF.cell (i:=8) (v:=.slice a4 ql.length c4) rfl
 have q9:=hBF.cell (i:=9) (v:=.int .i64 n) rfl
 go_wp2_with fail
 refine bodyPost_ret (v:=.agg #[.int .i64 k,.slice a1 gl.length c1,.slice a2 ol.length c2,.int .i64 a,.int .i64 b,.int .i64 s,.int .i64 q,.slice a3 tl.length c3,.slice a4 ql.length c4,.int .i64 n]) ?_ rfl ?_
 · simp[results,Tryz.results116,go_sem,q0,q1,q2,q3,q4,q5,q6,q7,q8,q9]
 · exact⟨k,a1,_,c1,a2,_,c2,a,b,s,q,a3,_,c3,a4,_,c4,n,gl,ol,tl,ql,rfl,j1,j2,j3,j4,hCF,hFF⟩
end Go.Zz
