/- Plain facts on the search for a first largest set with a property that parts keep; cliques. No program is named here. -/
import Derived.Test.YtdlbbpeahicakaaGreatGr4
import Derived.Test.YtdlbbpeahicakaaGreatGr9
import Derived.Laws.OwnMore
import Derived.Test.YtdlbbpeahicakaaGreatGr7
import Derived.Deep.RegionHeld3
import Derived.Laws.EntriesVeiled
import Derived.Test.YtdlbbpeahicakaaGreatGr12
import Derived.StillTailTactics
namespace Go.Zz
set_option linter.unusedVariables false
theorem bit_two(x i:Nat):(2 ^ x).testBit i=decide (x=i):=Nat.testBit_two_pow
theorem cnt_or_new{b x:Nat}(hb:b<2 ^ 24)(hx:x<24)(h:b.testBit x=false):cnt (b ||| 2 ^ x)=cnt b+1:=by
 have h1:=cnt_sub (Sub.or_left b (2 ^ x))
 have e:andN (b ||| 2 ^ x) b=2 ^ x:=Nat.eq_of_testBit_eq fun i=>by
  rw[andN_bit,Nat.testBit_or,bit_two]
  by_cases hi:x=i
  · subst hi;simp[h]
  · simp[hi]
 rw[e] at h1
 have h2:elems (2 ^ x)=(List.range 24).filter (fun i=>decide (x=i)):=by unfold elems;congr 1;funext i;exact bit_two x i
 have h3:cnt (2 ^ x)=1:=by
  unfold cnt;rw[h2]
  have:∀n,x<n→((List.range n).filter (fun i=>decide (x=i))).length=1:=by
   intro n
   induction n with
   | zero=>omega
   | succ n ih =>
    intro hn
    rw[List.range_succ,List.filter_append,List.length_append]
    by_cases hxn:x=n
    · subst hxn
      have:(List.range x).filter (fun i=>decide (x=i))=[]:=by rw[List.filter_eq_nil_iff];intro i hi;have:=List.mem_range.1 hi;simp;omega
      rw[this];simp
    · rw[ih (by omega)];simp[hxn]
  exact this 24 hx
 omega
theorem addF_zero'{l:List Int}(h:Ords l){x:Nat}(hx:x<ord l):addF l x 0=x:=by rw[addF_comm];exact addF_zero l h x hx
theorem neg_neg{l:List Int}(h:Ords l){x:Nat}(hx:x<ord l):negF l (negF l x)=x:=by
 have h1:addF l (negF l x) (negF l (negF l x))=addF l (negF l x) x:=by rw[addF_neg l h,addF_comm,addF_neg l h]
 exact addF_cancel h (negF_lt l h _) hx h1
theorem add_sub{l:List Int}(h:Ords l){y z:Nat}(hz:z<ord l):addF l y (addF l z (negF l y))=z:=by
 rw[addF_comm l z,←addF_assoc l h,addF_neg l h,addF_zero l h _ hz]
theorem one_bit(i:Nat):(1:Nat).testBit i=decide (i=0):=by
 have:=bit_two 0 i;rw[show (2:Nat) ^ 0=1 from rfl] at this;rw[this,Bool.eq_iff_iff];simp;exact eq_comm
end Go.Zz
namespace Go.Zz
open Go.RowKit Go.Proofs
set_option maxHeartbeats 1000000
theorem own_nb{TI:TypeId}{w0 w:World}{v:Value}{l:List Int}{b:Nat}(h:Own TI w0 w v l)(hb:b<w0.heap.size):v.ownBlock≠some b:=fun e=>by have:=(h.blk b e).1;omega
structure Fr(b:Nat)(o:Option Nat)(w w':World):Prop where
 os:w'.os=w.os
 tape:w'.tape=w.tape
 output:w'.output=w.output
 size:w.heap.size≤w'.heap.size
 block:∀k,k<w.heap.size→k≠b→some k≠o→w'.heap[k]?=w.heap[k]?
def Nw(o:Option Nat)(w:World)(o':Option Nat):Prop:=o'=o∨∀k,o'=some k→w.heap.size≤k
theorem Fr.refl(b:Nat)(o:Option Nat)(w:World):Fr b o w w:=⟨rfl,rfl,rfl,Nat.le_refl _,fun _ _ _ _=>rfl⟩
theorem Nw.refl(o:Option Nat)(w:World):Nw o w o:=Or.inl rfl
theorem Fr.trans{b:Nat}{o o1:Option Nat}{w w1 w2:World}(h:Fr b o w w1)(hn:Nw o w o1)(k:Fr b o1 w1 w2):Fr b o w w2 :=
 ⟨k.os.trans h.os,k.tape.trans h.tape,k.output.trans h.output,Nat.le_trans h.size k.size,fun i hi hb ho=>by
  rw[k.block i (Nat.lt_of_lt_of_le hi h.size) hb fun e=>?_,h.block i hi hb ho]
  rcases hn with hn | hn
  · rw[hn] at e;exact ho e
  · have:=hn i e.symm;omega⟩
theorem Nw.trans{o o1 o2:Option Nat}{w w1:World}(h:Nw o w o1)(hs:w.heap.size≤w1.heap.size)(k:Nw o1 w1 o2):Nw o w o2:=by
 rcases k with k | k
 · rw[k];exact h
 · exact Or.inr fun i hi=>Nat.le_trans hs (k i hi)
theorem Ext.fr{w w':World}(h:Ext w w')(b:Nat)(o:Option Nat):Fr b o w w':=⟨h.os,h.tape,h.output,h.size,fun k hk _ _=>h.block k hk⟩
theorem fr_grown{b:Nat}{o:Option Nat}{w w':World}(h:w.grownBy w' o):Fr b o w w':=⟨h.os,h.tape,h.output,h.size,fun k hk _ ho=>h.block k hk ho⟩
theorem fr_set(b:Nat)(o:Option Nat)(w:World)(i:Nat)(v:Value):Fr b o w (w.setCell ⟨b,i,none⟩ v) :=
 ⟨rfl,rfl,rfl,by simp,fun k _ hb _=>Below.heap_setCell _ _ _ _ (fun e=>hb e)⟩
theorem Fr.ext{b:Nat}{o:Option Nat}{w0 w w':World}(h:Fr b o w w')(hE:Ext w0 w)(hb:w0.heap.size≤b)(ho:∀k,o=some k→w0.heap.size≤k):Ext w0 w':=by
 have hs:=hE.size
 refine⟨h.os.trans hE.os,h.tape.trans hE.tape,h.output.trans hE.output,Nat.le_trans hs h.size,fun k hk=>?_⟩
 rw[h.block k (Nat.lt_of_lt_of_le hk hs) (by omega) fun e=>by have:=ho k e.symm;omega]
 exact hE.block k hk
theorem Fr.blk{b:Nat}{o:Option Nat}{w w':World}(h:Fr b o w w'){c:Nat}{T:TypeId}{cs:Array Value}(hB:Blk w c T cs)(hc:c≠b)(ho:o≠some c):Blk w' c T cs:=by
 unfold Blk;rw[h.block c hB.lt hc fun e=>ho e.symm];exact hB
theorem Fr.own{b:Nat}{o:Option Nat}{w w':World}(h:Fr b o w w'){TI:TypeId}{w0:World}{v:Value}{l:List Int}(hO:Own TI w0 w v l)(h1:v.ownBlock≠some b)(h2:v.ownBlock=none∨v.ownBlock≠o):Own TI w0 w' v l:=by
 obtain⟨⟨hl,hr⟩,hn⟩:=hO
 refine⟨⟨hl,?_⟩,hn⟩
 rcases hr with hr | ⟨g,cap,cur,rfl,hg,hh,rest⟩
 · exact Or.inl hr
 · refine Or.inr ⟨g,cap,cur,rfl,hg,?_,rest⟩
   simp[Value.ownBlock] at h1 h2
   rw[h.block g (Array.getElem?_eq_some_iff.1 hh).1 h1 h2];exact hh
theorem run_append1F{P:Program}{T TI:TypeId}(hT:IntSl P T TI)(ty:TypeId)(w0 w:World)(v:Value)(l:List Int)(y:Int)(ad:Addr)(hO:Own TI w0 w v l)(hE:Ext w0 w)(hy:∀j u,[Value.int .i64 y][j]?=some u→w.cell? (ad.add j)=some u)(hn:l.length<17592186044416) :
 ∃v' w',(Builtin.append_ #[T,T] ty #[v,.slice (some ad) 1 1]).run P w=.ok v' w'∧Own TI w0 w' v' (l++[y])∧w.grownBy w' v.ownBlock∧Nw v.ownBlock w v'.ownBlock:=by
 obtain⟨i,hi,hz,hs1,hby⟩:=hT.info
 have h1:=hO.1
 rcases h1.2 with ⟨rfl,hl⟩ | ⟨g,cap,cur,rfl,hg,hh,hnc,hcm,hcs,htk⟩
 · have hl':l=[]:=List.eq_nil_of_length_eq_zero hl
   subst hl'
   obtain⟨v',w',hrun,r1,r2,-⟩:=run_append_own (P:=P) w w.heap.size T ty TI i (.int .i64 0) 1 8 hT.und hi hz hs1 hby rfl (by omega) (.slice none 0 0) 0 [] (World.ownsRow_nil _ _ _ _) ad 1 1 [.int .i64 y] rfl hy (by simp[Value.oneCell']) (by unfold maxLen;omega) (by omega) (Nat.le_refl _)
   have hO':Own TI w w' v' [y]:=⟨by simpa using r1,by simp⟩
   exact⟨v',w',hrun,by simpa using hO'.mono hE,r2,Or.inr fun k hk=>(hO'.blk k hk).1⟩
 · by_cases hroom:l.length+1≤cap
   · obtain⟨w',hrun,r1,r2⟩:=run_append_fits (P:=P) w w0.heap.size T ty TI i 1 hT.und hi hs1 g l.length cap _ h1 ad 1 1 [.int .i64 y] rfl hy (by simp[Value.oneCell']) hroom
     exact⟨_,w',hrun,⟨by simpa using r1,by simp;omega⟩,r2,Or.inl rfl⟩
   · obtain⟨v',w',hrun,r1,r2⟩:=run_append_arg_grows (P:=P) (w:=w) T ty TI i (.int .i64 0) 1 8 hT.und hi hz hs1 hby rfl (by omega) ⟨g,0,none⟩ l.length cap (l.map (Value.int .i64)) (by simp) (by
      intro j u hu
      have hj:j<l.length:=by have:=(List.getElem?_eq_some_iff.1 hu).1;simpa using this
      rw[Addr.add_lit,Nat.zero_add,World.ownsRow.cellAt h1 j (by omega)]
      simpa using hu) ad 1 1 [.int .i64 y] rfl hy (by omega) (by unfold maxLen;omega) (by omega)
     have hO':Own TI w w' v' (l++[y]):=⟨by simpa using r1,by simp;omega⟩
     exact⟨v',w',hrun,hO'.mono hE,⟨r2.os,r2.tape,r2.output,r2.size,fun k hk _=>r2.block k hk (by simp)⟩,Or.inr fun k hk=>(hO'.blk k hk).1⟩
section
variable {P:Program} {ops:Array Oper} {rest:List Oper} {o:Oper} {a:Act} {Q:Exit→Act→World→Prop} {T TI:TypeId}
theorem wp_append1F(hT:IntSl P T TI)(hg:o.guard=none)(s x:Operand)(hop:o.op=Op.call { callee:=Callee.builtin Builtin.append,args:=#[s,x],argTypes:=#[T,T] })
 (w0 W:World) (v:Value) (l:List Int) (y:Int) (hO:Own TI w0 W v l) (hE:Ext w0 W) (hn:l.length<17592186044416) (hs:a.eval s=v) (hx:a.eval x=.slice (some ⟨W.heap.size,0,none⟩) 1 1)
 (hK:∀v' w',Own TI w0 w' v' (l++[y])→W.grownBy w' v.ownBlock→Nw v.ownBlock W v'.ownBlock→wpList P ops Q rest (a.put o.dst v') w') :
 wpList P ops Q (o :: rest) a (W.alloc (.cells #[.int .i64 y] TI)):=by
 obtain⟨v',w',hrun,h1,h2,h3⟩:=run_append1F hT o.type w0 (W.alloc (.cells #[.int .i64 y] TI)) v l y ⟨W.heap.size,0,none⟩ (hO.alloc _) (hE.alloc _) (cell_one_new _ _ _) hn
 refine wpList_plain hg fun K hK'=>?_
 unfold Oper.wp
 simp[execOp,hop,resolve,invoke,builtin,hs,hx,hrun,Result.andThen]
 have e:Ext W (W.alloc (.cells #[.int .i64 y] TI)):=(Ext.refl W).alloc _
 refine hK' _ _ (hK v' w' h1 ⟨h2.os.trans e.os,h2.tape.trans e.tape,h2.output.trans e.output,Nat.le_trans e.size h2.size,fun k hk hne=>?_⟩ ?_)
 · rw[h2.block k (Nat.lt_of_lt_of_le hk e.size) hne];exact e.block k hk
 · rcases h3 with h3 | h3
   · exact Or.inl h3
   · exact Or.inr fun k hk=>Nat.le_trans e.size (h3 k hk)
end
end Go.Zz
namespace Go.Zz
open Go.RowKit Go.Proofs
set_option maxHeartbeats 2000000
set_option maxRecDepth 4000
structure Fw(S:Nat→Prop)(w w':World):Prop where
 os:w'.os=w.os
 tape:w'.tape=w.tape
 output:w'.output=w.output
 size:w.heap.size≤w'.heap.size
 block:∀k,k<w.heap.size→¬S k→w'.heap[k]?=w.heap[k]?
theorem Fw.refl(S:Nat→Prop)(w:World):Fw S w w:=⟨rfl,rfl,rfl,Nat.le_refl _,fun _ _ _=>rfl⟩
theorem Fw.trans{S:Nat→Prop}{w w1 w2:World}(h:Fw S w w1)(k:Fw S w1 w2):Fw S w w2 :=
 ⟨k.os.trans h.os,k.tape.trans h.tape,k.output.trans h.output,Nat.le_trans h.size k.size,fun i hi hs=>(k.block i (Nat.lt_of_lt_of_le hi h.size) hs).trans (h.block i hi hs)⟩
theorem Ext.fw{w w':World}(h:Ext w w')(S:Nat→Prop):Fw S w w':=⟨h.os,h.tape,h.output,h.size,fun k hk _=>h.block k hk⟩
theorem fw_set{S:Nat→Prop}{b:Nat}(h:S b)(w:World)(i:Nat)(v:Value):Fw S w (w.setCell ⟨b,i,none⟩ v) :=
 ⟨rfl,rfl,rfl,by simp,fun k _ hk=>Below.heap_setCell _ _ _ _ (fun e=>hk (by rw[e];exact h))⟩
theorem Fw.ext{S:Nat→Prop}{w0 w w':World}(h:Fw S w w')(hE:Ext w0 w)(hS:∀k,S k→w0.heap.size≤k):Ext w0 w':=by
 have hs:=hE.size
 refine⟨h.os.trans hE.os,h.tape.trans hE.tape,h.output.trans hE.output,Nat.le_trans hs h.size,fun k hk=>?_⟩
 rw[h.block k (Nat.lt_of_lt_of_le hk hs) fun e=>by have:=hS k e;omega]
 exact hE.block k hk
theorem Fw.blk{S:Nat→Prop}{w w':World}(h:Fw S w w'){c:Nat}{T:TypeId}{cs:Array Value}(hB:Blk w c T cs)(hc:¬S c):Blk w' c T cs:=by
 unfold Blk;rw[h.block c hB.lt hc];exact hB
end Go.Zz
namespace Go.Zz
open Go.RowKit Go.Proofs
set_option maxHeartbeats 2000000
set_option maxRecDepth 4000
theorem Own.pop{TI:TypeId}{w0 w:World}{ao:Option Addr}{n c:Nat}{l:List Int}{y:Int}(h:Own TI w0 w (.slice ao (n+1) c) (l++[y]))(hn:l.length=n):Own TI w0 w (.slice ao n c) l:=by
 obtain⟨⟨h1,h2⟩,h3⟩:=h
 rw[List.length_append] at h3
 rcases h2 with ⟨hv,hz⟩ | ⟨g,cap,cur,hv,hg,hh,hnc,hcm,hcs,htk⟩
 · simp at hz
 · simp only[Value.slice.injEq,List.length_append,List.length_singleton] at hv
   obtain⟨rfl,-,rfl⟩:=hv
   refine⟨⟨by simp,Or.inr ⟨g,c,cur,by rw[hn],hg,hh,by simp at hnc;omega,hcm,hcs,?_⟩⟩,by simp at h3;omega⟩
   have:=congrArg (List.take l.length) htk
   rw[List.take_take] at this
   simp at this ⊢
   exact this
def Sm(a b:Nat)(o:Option Nat)(k:Nat):Prop:=k=a∨k=b∨some k=o
theorem Sm.old{a b:Nat}{o o1:Option Nat}{w:World}(h:Nw o w o1){k:Nat}(hk:k<w.heap.size)(hs:Sm a b o1 k):Sm a b o k:=by
 rcases hs with hs | hs | hs
 · exact Or.inl hs
 · exact Or.inr (Or.inl hs)
 · rcases h with h | h
   · exact Or.inr (Or.inr (by rw[←h];exact hs))
   · have:=h k hs.symm;omega
theorem Fw.transN{a b:Nat}{o o1:Option Nat}{w w1 w2:World}(h:Fw (Sm a b o) w w1)(hn:Nw o w o1)(k:Fw (Sm a b o1) w1 w2):Fw (Sm a b o) w w2 :=
 ⟨k.os.trans h.os,k.tape.trans h.tape,k.output.trans h.output,Nat.le_trans h.size k.size,fun i hi hs=>(k.block i (Nat.lt_of_lt_of_le hi h.size) fun e=>hs (Sm.old hn hi e)).trans (h.block i hi hs)⟩
end Go.Zz
namespace Go.Zz
open Go.RowKit Go.Proofs
set_option maxHeartbeats 2000000
set_option maxRecDepth 4000
theorem fiI_full{g h:List Int}{L E:List Nat}{f:Nat}{M:List Nat}(e:M.length=L.length):fiI g h L E (f+1) M=if isoK g h L M then some M else none:=by
 conv=>lhs;unfold fiI
 rw[if_pos e]
theorem fiI_part{g h:List Int}{L E:List Nat}{f:Nat}{M:List Nat}(e:M.length≠L.length):fiI g h L E (f+1) M=E.findSome? (fun y=>if (bset M).testBit y then none else fiI g h L E f (M++[y])):=by
 conv=>lhs;unfold fiI
 rw[if_neg e]
theorem andN_back{a y:Nat}(h:a.testBit y=false):andN (a ||| 2 ^ y) (2 ^ y)=a:=Nat.eq_of_testBit_eq fun i=>by
 rw[andN_bit,Nat.testBit_or,Nat.testBit_two_pow]
 by_cases e:y=i
 · subst e;simp[h]
 · simp[e]
theorem Nw.ne{o o':Option Nat}{w:World}{b:Nat}(h:Nw o w o')(hn:o≠some b)(hb:b<w.heap.size):o'≠some b:=by
 rcases h with h | h
 · rw[h];exact hn
 · intro e;have:=h b e;omega
theorem Nw.size{o o':Option Nat}{w w1:World}(h:Nw o w1 o')(hs:w.heap.size≤w1.heap.size):Nw o w o':=by
 rcases h with h | h
 · exact Or.inl h
 · exact Or.inr fun k hk=>Nat.le_trans hs (h k hk)
theorem hN1_size(w:World)(b:Nat)(v:Value):w.heap.size≤(w.setCell ⟨b,0,none⟩ v).heap.size:=by simp
theorem fw_grown{o:Option Nat}{w w':World}(a b:Nat)(h:w.grownBy w' o):Fw (Sm a b o) w w':=⟨h.os,h.tape,h.output,h.size,fun k hk hs=>h.block k hk fun e=>hs (Or.inr (Or.inr e))⟩
theorem tryF_any(v u:Value)(g h:List Int)(L E:List Nat)(aoL aoE:Option Addr)(cL cE:Nat)(Hg:Hid (isGrp g=true))(Hh:Hid (isGrp h=true))(hL24:∀y∈L,y<24)(hl5:L.length≤5)(hEo:∀y∈E,y<ord h)(hE24:E.length≤24)
 (W0:World) (bM bL bG bH bA bU bT:Nat) (hMU:bM≠bU) (hTM:bT≠bM) (hTU:bT≠bU) (h0M:W0.heap.size≤bM) (h0U:W0.heap.size≤bU) (fn:Value)
 (HL:∀W,Ext W0 W→W.cell? ⟨bL,0,none⟩=some (.slice aoL L.length cL)) (HG:∀W,Ext W0 W→W.cell? ⟨bG,0,none⟩=some v) (HH:∀W,Ext W0 W→W.cell? ⟨bH,0,none⟩=some u) (HA:∀W,Ext W0 W→W.cell? ⟨bA,0,none⟩=some (.slice aoE E.length cE))
 (HI:Hid (∀W,Ext W0 W→Ints W v g∧Ints W u h∧Ints W (.slice aoL L.length cL) (castL L)∧Ints W (.slice aoE E.length cE) (castL E)))
 (hfn:fn=.func (.func 179) #[] #[.pointer (some ⟨bM,0,none⟩),.pointer (some ⟨bL,0,none⟩),.pointer (some ⟨bG,0,none⟩),.pointer (some ⟨bH,0,none⟩),.pointer (some ⟨bA,0,none⟩),.pointer (some ⟨bU,0,none⟩),.pointer (some ⟨bT,0,none⟩)]) :
 ∀(f:Nat) (M:List Nat) (vM:Value) (w:World),M.length≤L.length→L.length<M.length+f→(∀y∈M,y<ord h)→Ext W0 w→Blk w bM 22 #[vM]→Own 3 W0 w vM (castL M)→vM.ownBlock≠some bU→Blk w bU 3 #[.int .i64 (bset M:Nat)]→Blk w bT 126 #[fn] →
 Calls Tryz.prog 179 #[.pointer (some ⟨bM,0,none⟩),.pointer (some ⟨bL,0,none⟩),.pointer (some ⟨bG,0,none⟩),.pointer (some ⟨bH,0,none⟩),.pointer (some ⟨bA,0,none⟩),.pointer (some ⟨bU,0,none⟩),.pointer (some ⟨bT,0,none⟩)] w fun e w' =>
  e=.returned (.bool (fiI g h L E f M).isSome)∧∃(vM':Value) (u':Int),Blk w' bM 22 #[vM']∧Blk w' bU 3 #[.int .i64 u']∧(fiI g h L E f M=none→u'=(bset M:Nat))∧Own 3 W0 w' vM' (castL ((fiI g h L E f M).getD M))∧Fw (Sm bM bU vM.ownBlock) w w'∧Nw vM.ownBlock w vM'.ownBlock:=by
 intro f
 induction f with
 | zero=>intro M vM w h1 h2;omega
 | succ f ih =>
 intro M vM w hml hfu hMo hE0 hBM hO hOU hBU hBT
 have hoh:=ord_bd Hh.out
 have hM24:∀y∈M,y<24:=fun y hy=>Nat.lt_of_lt_of_le (hMo y hy) hoh.2
 have hb24:=bset_lt hM24
 have hTO:=own_not hO hBT (by decide)
 have hMO:=own_not hO hBM (by decide)
 obtain⟨aoM,cM,rfl,-⟩:=hO.shape
 rw[castL_len] at hO hBM hOU hTO hMO ⊢
 have Hih:=Lib.hid ih
 clear ih
 have kM:∀W,Ext w W→W.cell? ⟨bM,0,none⟩=some (.slice aoM M.length cM):=fun W hW=>(hBM.ext hW).cell (i:=0) rfl
 have kl:∀W,Ext w W→W.cell? ⟨bL,0,none⟩=some (.slice aoL L.length cL):=fun W hW=>HL W (hE0.trans hW)
 have kg:∀W,Ext w W→W.cell? ⟨bG,0,none⟩=some v:=fun W hW=>HG W (hE0.trans hW)
 have kh:∀W,Ext w W→W.cell? ⟨bH,0,none⟩=some u:=fun W hW=>HH W (hE0.trans hW)
 have ka:∀W,Ext w W→W.cell? ⟨bA,0,none⟩=some (.slice aoE E.length cE):=fun W hW=>HA W (hE0.trans hW)
 have hE:=Ext.refl w
 by_cases hfull:M.length=L.length
 · have hq:(((M.length:Nat):Int) == ((L.length:Nat):Int))=true:=by rw[hfull];simp
   have c1:=fun W (hW:Ext w W)=>keeps_any v u g h _ _ L M W (HI.out W (hE0.trans hW)).1 (HI.out W (hE0.trans hW)).2.1 Hg Hh (HI.out W (hE0.trans hW)).2.2.1 (hO.ext hW).ints hL24 hM24 (by omega) (by omega)
   have c2:=fun W (hW:Ext w W)=>keeps_any u v h g _ _ M L W (HI.out W (hE0.trans hW)).2.1 (HI.out W (hE0.trans hW)).1 Hh Hg (hO.ext hW).ints (HI.out W (hE0.trans hW)).2.2.1 hM24 hL24 (by omega) (by omega)
   have HK:Hid (fiI g h L E (f+1) M=if kpB g h L M&&kpB h g M L then some M else none):=Lib.hid (fiI_full hfull)
   have HB:=Lib.hid hBM
   have HU:=Lib.hid hBU
   have HO:=Lib.hid hO
   clear hfull hBM hBU hO hBT
   cases k1:kpB g h L M
   · rw[k1] at c1 HK
     clear k1
     go_enter Tryz.func179,Tryz.ntmps179
     go_wp2_with fail
     refine (c1 _ hE).mono ?_
     rintro e w1 ⟨rfl,hE1⟩
     go_wp2_with fail
     go_ret
     exact⟨ret_bool (by rw[HK.out];rfl),_,_,HB.out.ext hE1,HU.out.ext hE1,fun _=>rfl,by rw[HK.out];exact HO.out.ext hE1,hE1.fw _,Nw.refl _ _⟩
   · rw[k1] at c1 HK
     clear k1
     cases k2:kpB h g M L
     all_goals
      rw[k2] at c2 HK
      clear k2
      go_enter Tryz.func179,Tryz.ntmps179
      go_wp2_with fail
      refine (c1 _ hE).mono ?_
      rintro e w1 ⟨rfl,hE1⟩
      go_wp2_with fail
      refine (c2 _ hE1).mono ?_
      rintro e w2 ⟨rfl,hE2⟩
      have hE12:=hE1.trans hE2
      go_wp2_with fail
      go_ret
      exact⟨ret_bool (by rw[HK.out];rfl),_,_,HB.out.ext hE12,HU.out.ext hE12,fun _=>rfl,by rw[HK.out];exact HO.out.ext hE12,hE12.fw _,Nw.refl _ _⟩
 · have hq:(((M.length:Nat):Int) == ((L.length:Nat):Int))=false:=by rw[beq_eq_false_iff_ne];omega
   have HF:Hid (fiI g h L E (f+1) M=E.findSome? (fun y=>if (bset M).testBit y then none else fiI g h L E f (M++[y]))):=Lib.hid (fiI_part hfull)
   have hml2:M.length<L.length:=by omega
   have HMo:=Lib.hid hMo
   have hI0:=(HI.out W0 (Ext.refl _)).2.2.2
   obtain⟨ao',cE',adrE,hvE,hadrE,hcellE⟩:=hI0.nats
   have hixE:=ints_index (c:=cE') elI szI hadrE
   simp only[Value.slice.injEq] at hvE
   obtain⟨rfl,-,rfl⟩:=hvE
   have hoM:∀k,Sm bM bU (Value.slice aoM M.length cM).ownBlock k→W0.heap.size≤k:=by
    rintro k (rfl | rfl | hk)
    · exact h0M
    · exact h0U
    · exact (hO.blk k hk.symm).1
   have hTS:¬Sm bM bU (Value.slice aoM M.length cM).ownBlock bT:=by
    rintro (hk | hk | hk)
    · exact hTM hk
    · exact hTU hk
    · exact hTO hk.symm
   have Hb24:=Lib.hid hb24
   have HB:=Lib.hid hBM
   have HU:=Lib.hid hBU
   have HO:=Lib.hid hO
   have HcellE:=Lib.hid hcellE
   clear hfull hI0 hadrE hBM hBU hO hcellE
   go_enter Tryz.func179,Tryz.ntmps179
   go_wp2_with fail
   clear kM hE
   go_loopw [29] (fun iv wr=>∃(k:Nat) (vM':Value),k≤E.length∧iv=.int .i64 k∧Blk wr bM 22 #[vM']∧Blk wr bU 3 #[.int .i64 (bset M:Nat)]∧Own 3 W0 wr vM' (castL M)∧Fw (Sm bM bU (Value.slice aoM M.length cM).ownBlock) w wr∧Nw (Value.slice aoM M.length cM).ownBlock w vM'.ownBlock∧Hid (∀k',k'<k→(if (bset M).testBit (nthN E k') then none else fiI g h L E f (M++[nthN E k']))=none)) (fun iv _=>E.length - (intOf iv).toNat)
   case atStart=>exact⟨0,_,by omega,rfl,HB.out,HU.out,HO.out,Fw.refl _ _,Nw.refl _ _,Lib.hid (by omega)⟩
   case round =>
    obtain⟨k,vM',hk,rfl,hB,hU,hOr,hF,hN,H⟩:=hrel
    have hE0r:=hF.ext hE0 hoM
    have hTr:=hF.blk hBT hTS
    obtain⟨aoR,cR,rfl,-⟩:=hOr.shape
    rw[castL_len] at hB hOr hN
    have HFw:=Lib.hid hF
    have HNr:=Lib.hid hN
    clear hF hN
    have hkU:=hU.cell (i:=0) (v:=.int .i64 (bset M:Nat)) rfl
    by_cases hlt:k<E.length
    · have hyo:=hEo _ (nthN_mem hlt)
      have hck:=HcellE.out k wr hlt hE0r
      obtain⟨Y,hY⟩:∃Y,Y=nthN E k:=⟨_,rfl⟩
      have HY:=Lib.hid hY
      rw[←hY] at hck hyo
      clear hY
      have hy24:Y<24:=Nat.lt_of_lt_of_le hyo hoh.2
      cases ht:(bset M).testBit Y
      · have hcN:=in_val (bset M) Y hb24 (by omega) wr ht
        have Ht:=Lib.hid ht
        clear ht
        have hs1:=ishl_one (n:=Y) (by omega)
        have hs2:=ior_pw hb24 hy24
        go_wp2_with (refine hcN.mono ?_;rintro e' w' ⟨rfl,hw'⟩;subst hw')
        go_still_tail 4,(by kernel_rfl)
        change wpList _ _ _ _ _ (World.drew _)
        obtain⟨wd,hwd⟩:∃wd,wd=World.drew wr:=⟨_,rfl⟩
        have hnd:Ext wr wd:=by rw[hwd];exact (Ext.refl _).drew
        rw[←hwd]
        clear hwd hkU hck hcN
        have hFd:=Lib.hid (HFw.out.trans (hnd.fw _))
        replace hU:=hU.ext hnd
        replace hB:=hB.ext hnd
        replace hOr:=hOr.ext hnd
        replace hTr:=hTr.ext hnd
        replace hE0r:=hE0r.trans hnd
        clear hnd HFw
        obtain⟨HFw,-⟩:∃x:Hid (Fw (Sm bM bU (Value.slice aoM M.length cM).ownBlock) w wd),x=hFd:=⟨hFd,rfl⟩
        clear hFd
        have hfU:=hU.free 0
        have kM:wd.cell? ⟨bM,0,none⟩=some (.slice aoR M.length cR):=hB.cell (i:=0) rfl
        have hkU:=hU.cell (i:=0) (v:=.int .i64 (bset M:Nat)) rfl
        have hOU2:(Value.slice aoR M.length cR).ownBlock≠some bU:=by
         rcases HNr.out with e | e
         · rw[e];exact hOU
         · intro e2;have h1:=e bU e2;have h2:=HU.out.lt;omega
        have hOM2:=own_not hOr hB (by decide)
        have hOT2:=own_not hOr hTr (by decide)
        have hU1:Blk (wd.setCell ⟨bU,0,none⟩ (.int .i64 ((bset M ||| 2 ^ Y:Nat):Int))) bU 3 #[.int .i64 ((bset M ||| 2 ^ Y:Nat):Int)]:=hU.set 0 _
        have hB1:Blk (wd.setCell ⟨bU,0,none⟩ (.int .i64 ((bset M ||| 2 ^ Y:Nat):Int))) bM 22 #[.slice aoR M.length cR]:=hB.other (by simpa using hMU) _
        have hT1:=hTr.other (p:=⟨bU,0,none⟩) (by simpa using hTU) (.int .i64 ((bset M ||| 2 ^ Y:Nat):Int))
        have hO1:=(fr_set bU none wd 0 (.int .i64 ((bset M ||| 2 ^ Y:Nat):Int))).own hOr hOU2 (by cases hq:(Value.slice aoR M.length cR).ownBlock with
         | none=>exact Or.inl rfl
         | some k=>exact Or.inr (by simp))
        have hE01:=hE0r.setCell (p:=⟨bU,0,none⟩) h0U (.int .i64 ((bset M ||| 2 ^ Y:Nat):Int))
        have hlen:(castL M).length<17592186044416:=by rw[castL_len];omega
        have k1:=hB1.cell (i:=0) (v:=.slice aoR M.length cR) rfl
        have hn1:=hN1_size wd bU (.int .i64 ((bset M ||| 2 ^ Y:Nat):Int))
        have hszd:(wd.setCell ⟨bU,0,none⟩ (.int .i64 ((bset M ||| 2 ^ Y:Nat):Int))).heap.size=wd.heap.size:=by simp
        go_wp2_with ((at_builtin;(refine wp_append1F slI rfl _ _ rfl W0 _ _ _ _ hO1 hE01 hlen rfl (by rw[hszd];rfl) ?_;intro v2 w2 hO2 hG2 hN2;rw[show castL M++[(Y:Int)]=castL (M++[Y]) by simp[castL]] at hO2;have hB2:=hB1.grown hG2 (fun k hk e=>hOM2 (by rw[hk,e]));have hU2:=hU1.grown hG2 (fun k hk e=>hOU2 (by rw[hk,e]));have hT2:=hT1.grown hG2 (fun k hk e=>hOT2 (by rw[hk,e]));have hc2:=hB2.cell (i:=0) (v:=.slice aoR M.length cR) rfl;have hf2:=hB2.free 0;obtain⟨a2,c2,rfl,-⟩:=hO2.shape;rw[castL_len,List.length_append,List.length_singleton] at hO2 hN2 ⊢;have hT3:=hT2.other (p:=⟨bM,0,none⟩) (by simpa using hTM) (.slice a2 (M.length+1) c2);have kt3:=hT3.cell (i:=0) (v:=fn) rfl;rw[hfn] at kt3)))
        have hB3:Blk (w2.setCell ⟨bM,0,none⟩ (.slice a2 (M.length+1) c2)) bM 22 #[.slice a2 (M.length+1) c2]:=hB2.set 0 _
        have hU3:=hU2.other (p:=⟨bM,0,none⟩) (by simpa using hMU.symm) (.slice a2 (M.length+1) c2)
        have hO3:=(fr_set bM none w2 0 (.slice a2 (M.length+1) c2)).own hO2 (own_not hO2 hB2 (by decide)) (by cases hq:(Value.slice a2 (M.length+1) c2).ownBlock with
         | none=>exact Or.inl rfl
         | some k=>exact Or.inr (by simp))
        have hF3:=((fw_set (S:=Sm bM bU (Value.slice aoR M.length cR).ownBlock) (Or.inr (Or.inl rfl)) wd 0 (.int .i64 ((bset M ||| 2 ^ Y:Nat):Int))).trans (fw_grown bM bU hG2)).trans (fw_set (Or.inl rfl) w2 0 (.slice a2 (M.length+1) c2))
        have hN3:Nw (Value.slice aoR M.length cR).ownBlock wd (Value.slice a2 (M.length+1) c2).ownBlock:=hN2.size hn1
        have hoR:∀k,Sm bM bU (Value.slice aoR M.length cR).ownBlock k→W0.heap.size≤k:=by
         rintro k (rfl | rfl | hk)
         · exact h0M
         · exact h0U
         · exact (hOr.blk k hk.symm).1
        have hE03:=hF3.ext hE0r hoR
        have hbUs:=hU.lt
        have hOU3:=hN3.ne hOU2 hbUs
        obtain⟨w3,hw3⟩:∃w3,w3=w2.setCell ⟨bM,0,none⟩ (.slice a2 (M.length+1) c2):=⟨_,rfl⟩
        rw[←hw3] at hB3 hU3 hT3 hO3 hF3 hE03 kt3 ⊢
        have Hw3:=Lib.hid hw3
        have hcR:=Hih.out (M++[Y]) (.slice a2 (M.length+1) c2) w3 (by simp;omega) (by simp;omega) (fun y hy=>by
         rw[List.mem_append,List.mem_singleton] at hy
         rcases hy with hy | rfl
         · exact HMo.out y hy
         · exact hyo) hE03 hB3 hO3 hOU3 (by rw[bset_app];exact hU3) hT3
        clear hw3 hB2 hU2 hT2 hc2 hf2 hT1 hU1 hB1 hO1 hO2 hG2 hE01 k1 kM kt3 hB3 hU3 hO3 hkU hfU
        have Hrun:Hid ((if (bset M).testBit (nthN E k) then none else fiI g h L E f (M++[nthN E k]))=fiI g h L E f (M++[Y])):=Lib.hid (by rw[←HY.out,Ht.out];rfl)
        obtain⟨r,hr⟩:∃r,r=fiI g h L E f (M++[Y]):=⟨_,rfl⟩
        rw[←hr] at hcR Hrun
        clear hr
        refine hcR.mono ?_
        rintro e w4 ⟨rfl,v4,u4,hB4,hU4,hu4,hO4,hF4,hN4⟩
        have hF5:=hF3.transN hN3 hF4
        have hN5:=hN3.trans hF3.size hN4
        clear hcR hF4 hN4
        cases r with
        | some N =>
         have HFs:Hid (fiI g h L E (f+1) M=some N):=Lib.hid (by rw[HF.out];exact findSome_at hlt H.out Hrun.out)
         go_wp2_with fail
         go_ret
         exact⟨ret_bool (by rw[HFs.out];rfl),_,_,hB4,hU4,fun e=>absurd e (by rw[HFs.out];simp),by rw[HFs.out];exact hO4,HFw.out.transN HNr.out hF5,HNr.out.trans HFw.out.size hN5⟩
        | none =>
         have hu5:=hu4 rfl
         subst hu5
         rw[bset_app] at hU4
         have hO4':Own 3 W0 w4 v4 (castL (M++[Y])):=hO4
         clear hO4
         obtain⟨a4,c4,rfl,hc4,-⟩:=hO4'.shape
         rw[castL_len,List.length_append,List.length_singleton] at hO4' hB4 hN5 hc4
         have hOU4:=hN5.ne hOU2 hbUs
         have hOM4:=own_not hO4' hB4 (by decide)
         have hs3:iandn ((bset M ||| 2 ^ Y:Nat):Int) ((pw Y:Nat):Int)=((bset M:Nat):Int):=by
          have h1:pw Y<2 ^ 24:=Nat.pow_lt_pow_right (by omega) hy24
          have h2:bset M ||| 2 ^ Y<2 ^ 24:=Nat.or_lt_two_pow hb24 h1
          rw[iandn_nat (by omega) (by omega)]
          rw[show andN (bset M ||| 2 ^ Y) (pw Y)=bset M from andN_back Ht.out]
         have k4:=hU4.cell (i:=0) (v:=.int .i64 ((bset M ||| 2 ^ Y:Nat):Int)) rfl
         have f4:=hU4.free 0
         have hE04:=hF5.ext hE0r hoR
         go_wp2_with fail
         go_still_tail 4,(by kernel_rfl)
         change wpList _ _ _ _ _ (World.drew _)
         obtain⟨w5,hw5⟩:∃w5,w5=World.drew w4:=⟨_,rfl⟩
         have h45:Ext w4 w5:=by rw[hw5];exact (Ext.refl _).drew
         rw[←hw5]
         clear hw5 k4 f4
         replace hU4:=hU4.ext h45
         replace hB4:=hB4.ext h45
         replace hO4':=hO4'.ext h45
         have k4:=hU4.cell (i:=0) (v:=.int .i64 ((bset M ||| 2 ^ Y:Nat):Int)) rfl
         have f4:=hU4.free 0
         have hB5:=hB4.other (p:=⟨bU,0,none⟩) (by simpa using hMU) (.int .i64 ((bset M:Nat):Int))
         have hU5:Blk (w5.setCell ⟨bU,0,none⟩ (.int .i64 ((bset M:Nat):Int))) bU 3 #[.int .i64 ((bset M:Nat):Int)]:=hU4.set 0 _
         have k5:=hB5.cell (i:=0) (v:=.slice a4 (M.length+1) c4) rfl
         have f5:=hB5.free 0
         have hsl:=fun W=>run_cut (P:=Tryz.prog) elI szI a4 (M.length+1) c4 (M.length:Int) (by omega) (by omega) W
         have hsa:=fun W=>run_cutAt (P:=Tryz.prog) elI szI a4 (M.length+1) c4 (M.length:Int) (by omega) (by omega) W
         rw[show ((M.length:Int)).toNat=M.length by omega] at hsl hsa
         go_wp2_with fail
         have hOb:Own 3 W0 w5 (.slice a4 M.length c4) (castL M):=by
          rw[show castL (M++[Y])=castL M++[(Y:Int)] by simp[castL]] at hO4'
          exact hO4'.pop (castL_len M)
         have hobk:(Value.slice a4 (M.length+1) c4).ownBlock=(Value.slice a4 M.length c4).ownBlock:=by cases a4<;>rfl
         rw[hobk] at hN5 hOU4 hOM4
         have hOb2:=(fr_set bU none w5 0 (.int .i64 ((bset M:Nat):Int))).own hOb hOU4 (by cases hq:(Value.slice a4 M.length c4).ownBlock with
          | none=>exact Or.inl rfl
          | some k=>exact Or.inr (by simp))
         have hOb3:=(fr_set bM none (w5.setCell ⟨bU,0,none⟩ (.int .i64 ((bset M:Nat):Int))) 0 (.slice a4 M.length c4)).own hOb2 hOM4 (by cases hq:(Value.slice a4 M.length c4).ownBlock with
          | none=>exact Or.inl rfl
          | some k=>exact Or.inr (by simp))
         have hB6:Blk ((w5.setCell ⟨bU,0,none⟩ (.int .i64 ((bset M:Nat):Int))).setCell ⟨bM,0,none⟩ (.slice a4 M.length c4)) bM 22 #[.slice a4 M.length c4]:=hB5.set 0 _
         have hU6:=hU5.other (p:=⟨bM,0,none⟩) (by simpa using hMU.symm) (.slice a4 M.length c4)
         have hF6:=((hF5.trans (h45.fw _)).trans (fw_set (Or.inr (Or.inl rfl)) w5 0 (.int .i64 ((bset M:Nat):Int)))).trans (fw_set (Or.inl rfl) (w5.setCell ⟨bU,0,none⟩ (.int .i64 ((bset M:Nat):Int))) 0 (.slice a4 M.length c4))
         go_roundw
         case rel=>exact⟨k+1,_,by omega,by go_num,hB6,hU6,hOb3,HFw.out.transN HNr.out hF6,HNr.out.trans HFw.out.size hN5,Lib.hid fun k' hk'=>by by_cases e:k'=k;(subst e;exact Hrun.out);exact H.out k' (by omega)⟩
         case measure=>(simp[intOf];omega)
      · have hcN:=in_val (bset M) Y hb24 (by omega) wr ht
        have Hno:Hid ((if (bset M).testBit (nthN E k) then none else fiI g h L E f (M++[nthN E k]))=none):=Lib.hid (by rw[←HY.out,ht];rfl)
        clear ht
        go_wp2_with (refine hcN.mono ?_;rintro e' w' ⟨rfl,hw'⟩;subst hw')
        go_roundw
        case rel=>exact⟨k+1,_,by omega,by go_num,hB,hU,hOr,HFw.out,HNr.out,Lib.hid fun k' hk'=>by by_cases e:k'=k;(subst e;exact Hno.out);exact H.out k' (by omega)⟩
        case measure=>(simp[intOf];omega)
    · have hkl:k=E.length:=by omega
      have HFn:Hid (fiI g h L E (f+1) M=none):=Lib.hid (by rw[HF.out];exact findSome_none fun k' hk'=>H.out k' (by omega))
      clear hkl
      go_wp2_with fail
      go_ret
      exact⟨ret_bool (by rw[HFn.out];rfl),_,_,hB,hU,fun _=>rfl,by rw[HFn.out];exact hOr,HFw.out,HNr.out⟩
end Go.Zz
