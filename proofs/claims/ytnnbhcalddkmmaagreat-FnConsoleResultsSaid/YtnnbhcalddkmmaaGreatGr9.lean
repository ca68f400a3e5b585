/- What stays where a call writes into one box and grows the slice that lies in it. -/
import Derived.Test.YtnnbhcalddkmmaaGreatGr7
import Derived.Laws.OwnMore
import Derived.Test.YtnnbhcalddkmmaaGreatGr8
import Derived.Laws.EntriesVeiled
namespace Go.Zz
open Go.RowKit Go.Proofs
set_option maxHeartbeats 1000000
theorem dh2{TI:TypeId}{w0 w:World}{v:Value}{l:List Int}{b:Nat}(h:Own TI w0 w v l)(hb:b<w0.heap.size):v.ownBlock≠some b:=fun e=>by have:=(h.blk b e).1;omega
structure Fr(b:Nat)(o:Option Nat)(w w':World):Prop where
 os:w'.os=w.os
 tape:w'.tape=w.tape
 output:w'.output=w.output
 size:w.heap.size≤w'.heap.size
 block:∀k,k<w.heap.size→k≠b→some k≠o→w'.heap[k]?=w.heap[k]?
def Nw(o:Option Nat)(w:World)(o':Option Nat):Prop:=o'=o∨∀k,o'=some k→w.heap.size≤k
theorem Fr.refl(b:Nat)(o:Option Nat)(w:World):Fr b o w w:=⟨rfl,rfl,rfl,Nat.le_refl _,fun _ _ _ _=>rfl⟩
theorem Nw.refl(o:Option Nat)(w:World):Nw o w o:=Or.inl rfl
theorem Fr.trans{b:Nat}{o o1:Option Nat}{w w1 w2:World}(h:Fr b o w w1)(hn:Nw o w o1)(k:Fr b o1 w1 w2):Fr b o w w2 :=
 ⟨k.os.trans h.os,k.tape.trans h.tape,k.output.trans h.output,Nat.le_trans h.size k.size,fun i hi hb ho=>by
  rw[k.block i (Nat.lt_of_lt_of_le hi h.size) hb fun e=>?_,h.block i hi hb ho]
  rcases hn with hn | hn
  · rw[hn] at e;exact ho e
  · have:=hn i e.symm;omega⟩
theorem Nw.trans{o o1 o2:Option Nat}{w w1:World}(h:Nw o w o1)(hs:w.heap.size≤w1.heap.size)(k:Nw o1 w1 o2):Nw o w o2:=by
 rcases k with k | k
 · rw[k];exact h
 · exact Or.inr fun i hi=>Nat.le_trans hs (k i hi)
theorem Ext.fr{w w':World}(h:Ext w w')(b:Nat)(o:Option Nat):Fr b o w w':=⟨h.os,h.tape,h.output,h.size,fun k hk _ _=>h.block k hk⟩
theorem dm2{b:Nat}{o:Option Nat}{w w':World}(h:w.grownBy w' o):Fr b o w w':=⟨h.os,h.tape,h.output,h.size,fun k hk _ ho=>h.block k hk ho⟩
theorem de7(b:Nat)(o:Option Nat)(w:World)(i:Nat)(v:Value):Fr b o w (w.setCell ⟨b,i,none⟩ v) :=
 ⟨rfl,rfl,rfl,by simp,fun k _ hb _=>Below.heap_setCell _ _ _ _ (fun e=>hb e)⟩
theorem Fr.ext{b:Nat}{o:Option Nat}{w0 w w':World}(h:Fr b o w w')(hE:Ext w0 w)(hb:w0.heap.size≤b)(ho:∀k,o=some k→w0.heap.size≤k):Ext w0 w':=by
 have hs:=hE.size;refine⟨h.os.trans hE.os,h.tape.trans hE.tape,h.output.trans hE.output,Nat.le_trans hs h.size,fun k hk=>?_⟩;rw[h.block k (Nat.lt_of_lt_of_le hk hs) (by omega) fun e=>by have:=ho k e.symm;omega];exact hE.block k hk
theorem Fr.blk{b:Nat}{o:Option Nat}{w w':World}(h:Fr b o w w'){c:Nat}{T:TypeId}{cs:Array Value}(hB:Blk w c T cs)(hc:c≠b)(ho:o≠some c):Blk w' c T cs:=by
 unfold Blk;rw[h.block c hB.lt hc fun e=>ho e.symm];exact hB
theorem Fr.own{b:Nat}{o:Option Nat}{w w':World}(h:Fr b o w w'){TI:TypeId}{w0:World}{v:Value}{l:List Int}(hO:Own TI w0 w v l)(h1:v.ownBlock≠some b)(h2:v.ownBlock=none∨v.ownBlock≠o):Own TI w0 w' v l:=by
 obtain⟨⟨hl,hr⟩,hn⟩:=hO;refine⟨⟨hl,?_⟩,hn⟩;rcases hr with hr | ⟨g,cap,cur,rfl,hg,hh,rest⟩
 · exact Or.inl hr
 · refine Or.inr ⟨g,cap,cur,rfl,hg,?_,rest⟩;simp[Value.ownBlock] at h1 h2;rw[h.block g (Array.getElem?_eq_some_iff.1 hh).1 h1 h2];exact hh
theorem cw7{P:Program}{T TI:TypeId}(hT:IntSl P T TI)(ty:TypeId)(w0 w:World)(v:Value)(l:List Int)(y:Int)(ad:Addr)(hO:Own TI w0 w v l)(hE:Ext w0 w)(hy:∀j u,[Value.int .i64 y][j]?=some u→w.cell? (ad.add j)=some u)(hn:l.length<17592186044416) :
 ∃v' w',(Builtin.append_ #[T,T] ty #[v,.slice (some ad) 1 1]).run P w=.ok v' w'∧Own TI w0 w' v' (l++[y])∧w.grownBy w' v.ownBlock∧Nw v.ownBlock w v'.ownBlock:=by
 obtain⟨i,hi,hz,hs1,hby⟩:=hT.info;have h1:=hO.1;rcases h1.2 with ⟨rfl,hl⟩ | ⟨g,cap,cur,rfl,hg,hh,hnc,hcm,hcs,htk⟩
 · have hl':l=[]:=List.eq_nil_of_length_eq_zero hl;subst hl';obtain⟨v',w',hrun,r1,r2,-⟩:=run_append_own (P:=P) w w.heap.size T ty TI i (.int .i64 0) 1 8 hT.und hi hz hs1 hby rfl (by omega) (.slice none 0 0) 0 [] (World.ownsRow_nil _ _ _ _) ad 1 1 [.int .i64 y] rfl hy (by simp[Value.oneCell']) (by unfold maxLen;omega) (by omega) (Nat.le_refl _);have hO':Own TI w w' v' [y]:=⟨by simpa using r1,by simp⟩;exact⟨v',w',hrun,by simpa using hO'.mono hE,r2,Or.inr fun k hk=>(hO'.blk k hk).1⟩
 · by_cases hroom:l.length+1≤cap
   · obtain⟨w',hrun,r1,r2⟩:=run_append_fits (P:=P) w w0.heap.size T ty TI i 1 hT.und hi hs1 g l.length cap _ h1 ad 1 1 [.int .i64 y] rfl hy (by simp[Value.oneCell']) hroom;exact⟨_,w',hrun,⟨by simpa using r1,by simp;omega⟩,r2,Or.inl rfl⟩
   · obtain⟨v',w',hrun,r1,r2⟩:=run_append_arg_grows (P:=P) (w:=w) T ty TI i (.int .i64 0) 1 8 hT.und hi hz hs1 hby rfl (by omega) ⟨g,0,none⟩ l.length cap (l.map (Value.int .i64)) (by simp) (by
      intro j u hu;have hj:j<l.length:=(by have:=(List.getElem?_eq_some_iff.1 hu).1;simpa using this);rw[Addr.add_lit,Nat.zero_add,World.ownsRow.cellAt h1 j (by omega)];simpa using hu) ad 1 1 [.int .i64 y] rfl hy (by omega) (by unfold maxLen;omega) (by omega)
     have hO':Own TI w w' v' (l++[y]):=⟨by simpa using r1,by simp;omega⟩
     exact⟨v',w',hrun,hO'.mono hE,⟨r2.os,r2.tape,r2.output,r2.size,fun k hk _=>r2.block k hk (by simp)⟩,Or.inr fun k hk=>(hO'.blk k hk).1⟩
section
variable {P:Program} {ops:Array Oper} {rest:List Oper} {o:Oper} {a:Act} {Q:Exit→Act→World→Prop} {T TI:TypeId}
theorem bg8(hT:IntSl P T TI)(hg:o.guard=none)(s x:Operand)(hop:o.op=Op.call { callee:=Callee.builtin Builtin.append,args:=#[s,x],argTypes:=#[T,T] })
 (w0 W:World) (v:Value) (l:List Int) (y:Int) (hO:Own TI w0 W v l) (hE:Ext w0 W) (hn:l.length<17592186044416) (hs:a.eval s=v) (hx:a.eval x=.slice (some ⟨W.heap.size,0,none⟩) 1 1)
 (hK:∀v' w',Own TI w0 w' v' (l++[y])→W.grownBy w' v.ownBlock→Nw v.ownBlock W v'.ownBlock→wpList P ops Q rest (a.put o.dst v') w') :
 wpList P ops Q (o :: rest) a (W.alloc (.cells #[.int .i64 y] TI)):=by
 obtain⟨v',w',hrun,h1,h2,h3⟩:=cw7 hT o.type w0 (W.alloc (.cells #[.int .i64 y] TI)) v l y ⟨W.heap.size,0,none⟩ (hO.alloc _) (hE.alloc _) (cell_one_new _ _ _) hn;refine wpList_plain hg fun K hK'=>?_;unfold Oper.wp;simp[execOp,hop,resolve,invoke,builtin,hs,hx,hrun,Result.andThen];have e:Ext W (W.alloc (.cells #[.int .i64 y] TI)):=(Ext.refl W).alloc _;refine hK' _ _ (hK v' w' h1 ⟨h2.os.trans e.os,h2.tape.trans e.tape,h2.output.trans e.output,Nat.le_trans e.size h2.size,fun k hk hne=>?_⟩ ?_)
 · rw[h2.block k (Nat.lt_of_lt_of_le hk e.size) hne];exact e.block k hk
 · rcases h3 with h3 | h3
   · exact Or.inl h3
   · exact Or.inr fun k hk=>Nat.le_trans e.size (h3 k hk)
end
end Go.Zz
namespace Go.Zz
open Go.RowKit Go.Proofs
set_option maxHeartbeats 2000000
set_option maxRecDepth 4000
theorem j39(v:Value)(l:List Int)(a m:Nat)(Hgr:Hid (c9 l=true))(ha0:a≠0)(ha:a<2 ^ ord l)(hm:m≤1000)(W0:World)(bG bO bA bM bT:Nat)(hbt:bO≠bT)(hbO:W0.heap.size≤bO)(fn:Value)
 (HG:∀W,Ext W0 W→W.cell? ⟨bG,0,none⟩=some v) (HA:∀W,Ext W0 W→W.cell? ⟨bA,0,none⟩=some (.int .i64 a)) (HM:∀W,Ext W0 W→W.cell? ⟨bM,0,none⟩=some (.int .i64 m)) (HI:Hid (∀W,Ext W0 W→c8 W v l))
 (hfn:fn=.func (.func 314) #[] #[.pointer (some ⟨bG,0,none⟩),.pointer (some ⟨bO,0,none⟩),.pointer (some ⟨bA,0,none⟩),.pointer (some ⟨bM,0,none⟩),.pointer (some ⟨bT,0,none⟩)]) :
 ∀(f u b:Nat) (w:World) (vo:Value) (out:List Nat),ord l<cnt u+f→u<2 ^ ord l→b<2 ^ 24→out.length<m→Ext W0 w→Blk w bO 26 #[vo]→Own 3 W0 w vo (d6 out)→Blk w bT 163 #[fn] →
 Calls Tryz.prog 314 #[.int .i64 b,.int .i64 u,.pointer (some ⟨bG,0,none⟩),.pointer (some ⟨bO,0,none⟩),.pointer (some ⟨bA,0,none⟩),.pointer (some ⟨bM,0,none⟩),.pointer (some ⟨bT,0,none⟩)] w fun e w' =>
  e=.returned (.tuple #[])∧∃vo',Blk w' bO 26 #[vo']∧Own 3 W0 w' vo' (d6 (tlI l a m f u b out))∧Fr bO vo.ownBlock w w'∧Nw vo.ownBlock w vo'.ownBlock:=by
 intro f
 induction f with
 | zero=>intro u b w vo out hf hu;have:=bh6 Hgr.out hu;omega
 | succ f ih =>
  intro u b w vo out hf hu hb24 hom hE0 hBO hO hBT
  rw[hfn] at hBT
  have hob:=l8 Hgr.out
  have hp24:=E1 Hgr.out
  have ha24:a<2 ^ 24:=Nat.lt_of_lt_of_le ha hp24
  have hu24:u<2 ^ 24:=Nat.lt_of_lt_of_le hu hp24
  have hTO:=bj5 hO hBT (by decide)
  have hOO:=bj5 hO hBO (by decide)
  obtain⟨ao,co,rfl,-⟩:=hO.shape
  rw[j8] at hO hBO hTO hOO ⊢
  rw[hfn] at ih
  have Hih:=Lib.hid ih
  clear ih
  by_cases hfull:u=j4 l
  · have He:=Lib.hid (cz3 (l:=l) (a:=a) (m:=m) (f:=f) (b:=b) (out:=out) hfull)
    have hq:((u:Int) == (j4 l:Int))=true:=by rw[hfull];simp
    have Hc:Hid (d6 (out++[b])=d6 out++[(b:Int)]):=Lib.hid (by simp[d6])
    clear hfull
    have hlen:(d6 out).length<17592186044416:=by rw[j8];omega
    have kO:∀W,Ext w W→W.cell? ⟨bO,0,none⟩=some (.slice ao out.length co):=fun W hW=>(hBO.ext hW).cell (i:=0) rfl
    go_enter Tryz.func314,Tryz.ntmps314
    go_wp2_with (first
     | (go_at_call 215;refine (F2 _ _ _ (HI.out _ hE0) Hgr).mono ?_;rintro e w1 ⟨rfl,hE1⟩)
     | (at_builtin;refine bg8 slI rfl _ _ rfl W0 _ _ _ _ (hO.ext hE1) (hE0.trans hE1) hlen rfl rfl ?_;intro v2 w2 hO2 hG2 hN2;have hB2:=hBO.ext hE1;replace hB2:=hB2.grown hG2 (fun k hk e=>hOO (by rw[hk,e]));have hc2:=hB2.cell (i:=0) (v:=.slice ao out.length co) rfl;have hf2:=hB2.free 0;obtain⟨a2,c2,rfl,-⟩:=hO2.shape;obtain⟨n2,hn2⟩:∃n,n=(d6 out++[(b:Int)]).length:=⟨_,rfl⟩;rw[←hn2] at hO2 hN2 ⊢;replace hn2:=Lib.hid hn2))
    have hF2:=((hE1.fr bO (Value.slice ao out.length co).ownBlock).trans (Nw.refl _ _) (dm2 hG2)).trans (Nw.refl _ _) (de7 bO _ w2 0 (.slice a2 n2 c2))
    have hB3:Blk (w2.setCell ⟨bO,0,none⟩ (.slice a2 n2 c2)) bO 26 #[.slice a2 n2 c2]:=hB2.set 0 (.slice a2 n2 c2)
    have hO3:=(de7 bO none w2 0 (.slice a2 n2 c2)).own hO2 (bj5 hO2 hB2 (by decide)) (by cases hq:(Value.slice a2 n2 c2).ownBlock with
     | none=>exact Or.inl rfl
     | some k=>exact Or.inr (by simp))
    exact bodyPost_ret (v:=.tuple #[]) (by simp[results,Tryz.results314,go_sem]) rfl ⟨rfl,_,hB3,by rw[He.out,Hc.out];exact hO3,hF2,(Nw.refl _ _).trans hE1.size hN2⟩
  · have hq:((u:Int) == (j4 l:Int))=false:=by rw[beq_eq_false_iff_ne];omega
    have Hnf:=Lib.hid hfull
    clear hfull
    go_enter Tryz.func314,Tryz.ntmps314
    go_wp2_with (go_at_call 215;refine (F2 _ _ _ (HI.out _ hE0) Hgr).mono ?_;rintro e w1 ⟨rfl,hE1⟩)
    have hE01:=hE0.trans hE1
    go_loop [9] (fun xv=>∃e:Nat,e≤ord l∧xv=.int .i64 e∧∀j,j<e→u.testBit j=true) (fun x=>ord l - (intOf x).toNat)
    case atStart=>exact⟨0,by omega,rfl,by omega⟩
    case round =>
     obtain⟨e,he,rfl,hall⟩:=hrel;cases hbe:u.testBit e
     · have helt:e<ord l:=Classical.byContradiction fun hn=>Hnf.out (c39 hu hall (by omega));have hlow:Hid (bg3 u=e):=Lib.hid (cc5 hall hbe (by omega));have hcN:=V1 u e hu24 (by omega) w1 hbe;clear hall hbe;go_wp2_with (first | (go_at_call 225;refine hcN.mono ?_;rintro e' w' ⟨rfl,hw'⟩;subst hw') | (go_at_call 214;refine (I9 a ha24 _).mono ?_;rintro e2 w2 ⟨v2,rfl,hL,hE2⟩;obtain⟨aoL,cL,adrL,rfl,hadrL,hcellL⟩:=hL.ints.nats));have hixL:=j6 (c:=cL) elI szI hadrL;have hE12:=hE1.trans hE2;have hE02:=hE01.trans hE2;have hB2:=hBO.ext hE12;have hO2:=hO.ext hE12;have hT2:=hBT.ext hE12;have hnL1:=dh2 hL (Nat.lt_of_lt_of_le hBO.lt hE1.size);have hnL2:(Value.slice aoL (j1 a).length cL).ownBlock=none∨(Value.slice aoL (j1 a).length cL).ownBlock≠(Value.slice ao out.length co).ownBlock:=by
        cases hq:(Value.slice aoL (j1 a).length cL).ownBlock with
        | none=>exact Or.inl rfl
        | some j=>exact Or.inr fun e=>by have h1:=(hL.blk j hq).1;have h2:=(hO.blk j e.symm).2;have:=hE1.size;omega
       have hL24:∀y∈j1 a,y<24:=fun y hy=>G7 hy;have hlenL:=C9 a;have hoB:∀j,(Value.slice ao out.length co).ownBlock=some j→W0.heap.size≤j:=fun j hj=>(hO.blk j hj).1;clear hO hBO hBT hcellL;obtain⟨oB,hoBd⟩:∃oB,oB=(Value.slice ao out.length co).ownBlock:=⟨_,rfl⟩;have HL:=Lib.hid hL;have HnL2:=Lib.hid hnL2;have HN12:=Lib.hid hE12;have HadrL:=Lib.hid hadrL;clear hL hnL2 hadrL;go_loopw [30] (fun i wr=>∃(k:Nat) (vo':Value),k≤(j1 a).length∧i=.int .i64 k∧Blk wr bO 26 #[vo']∧Own 3 W0 wr vo' (d6 (V0 l a m f u b out k))∧Fr bO (Value.slice ao out.length co).ownBlock w2 wr∧Nw (Value.slice ao out.length co).ownBlock w2 vo'.ownBlock) (fun i _=>(j1 a).length - (intOf i).toNat);(case atStart=>exact⟨0,_,by omega,rfl,hB2,hO2,Fr.refl _ _ _,Nw.refl _ _⟩);case round =>
        clear hB2 hO2;obtain⟨k,vo',hk,rfl,hBr,hOr,hFr,hNr⟩:=hrel;have hE0r:=hFr.ext hE02 hbO hoB;have hTr:=hFr.blk hT2 (Ne.symm hbt) hTO;have HLr:=Lib.hid (hFr.own HL.out hnL1 HnL2.out);have HFr:=Lib.hid hFr;have HNr:=Lib.hid hNr;clear hFr hNr;obtain⟨ab,cb,rfl,-⟩:=hOr.shape;obtain⟨O,hOd⟩:∃O,O=V0 l a m f u b out k:=⟨_,rfl⟩;rw[←hOd] at hOr hBr HNr;rw[j8] at hOr hBr HNr;by_cases hlt:k<(j1 a).length
        · have hX24:=hL24 _ (o6 hlt);have Hel:Hid ((j1 a)[k]=d5 (j1 a) k):=Lib.hid (by simp[d5,List.getD,hlt]);have hck:wr.cell? (adrL k)=some (.int .i64 (d5 (j1 a) k:Int)):=by
           obtain⟨ao2,c2,hv,-,-,hc⟩:=HLr.out.ints;rw[j8] at hc hv;simp only[Value.slice.injEq] at hv;obtain⟨a2,ha2,hc2⟩:=hc k hlt;obtain⟨h1,h2⟩:=HadrL.out k hlt;rw[b22] at hc2;rw[←hv.1,h1] at ha2;simp only[Option.some.injEq] at ha2;rw[h2,ha2];exact hc2
          obtain⟨X,hX⟩:∃X,X=d5 (j1 a) k:=⟨_,rfl⟩;rw[←hX] at hck hX24 Hel;have hng:p4 l X<16777216:=(by have:=Q9 l (m0 Hgr.out) X;omega);have hD24:j9 l e (p4 l X)<24:=Nat.lt_of_lt_of_le (E9 l (m0 Hgr.out) _ _) hob.2;have HD:Hid (dF l u X=j9 l e (p4 l X)):=Lib.hid (by unfold dF;rw[hlow.out]);obtain⟨D,hD⟩:∃D,D=j9 l e (p4 l X):=⟨_,rfl⟩;have hcA:=fun W (hW:Ext wr W)=>ci0 v l e X W (HI.out _ (hE0r.trans hW)) Hgr (by omega) hX24;rw[←hD] at hcA hD24 HD;have hS24:=M5 Hgr.out a D;obtain⟨S,hS⟩:∃S,S=j2 l a D:=⟨_,rfl⟩;have hcS:=fun W (hW:Ext wr W)=>J9 v l a D W (HI.out _ (hE0r.trans hW)) Hgr ha24 hD24;rw[←hS] at hcS hS24;have hand:Z6 (S:Int) (u:Int)=((S &&& u:Nat):Int):=W9 (by omega) (by omega);clear hX hD HLr;cases hz:(((S &&& u:Nat):Int) == 0)
          · have Hn:Hid (V0 l a m f u b out (k+1)=O):=Lib.hid (by
             rw[cz4 hlt,hOd];rw[Hel.out,HD.out,←hS];rw[beq_eq_false_iff_ne] at hz;omega)
            clear hOd hS
            go_wp2_with (first | (go_at_call 315;refine (hcA _ (Ext.refl _)).mono ?_;rintro e3 w3 ⟨rfl,hE3⟩;have hE03:=hE0r.trans hE3) | (go_at_call 220;refine (hcS _ hE3).mono ?_;rintro e4 w4 ⟨rfl,hE4⟩;have hE04:=hE03.trans hE4;have hE34:=hE3.trans hE4))
            go_roundw
            case rel=>exact⟨k+1,_,by omega,by go_num,hBr.ext hE34,by rw[Hn.out];exact hOr.ext hE34,HFr.out.trans HNr.out (hE34.fr _ _),HNr.out⟩
            case measure=>(simp[intOf];omega)
          · have hz':S &&& u=0:=(by rw[beq_iff_eq] at hz;omega);have kO:∀W,Ext wr W→W.cell? ⟨bO,0,none⟩=some (.slice ab O.length cb):=fun W hW=>(hBr.ext hW).cell (i:=0) rfl;by_cases hlm:(O.length:Int)<(m:Int)
            · have hmore:=cf2 Hgr.out ha0 ha hu D (by rw[←hS];exact hz');rw[←hS] at hmore;have Hn:Hid (V0 l a m f u b out (k+1)=tlI l a m f (u ||| S) (b ||| 2 ^ D) O):=Lib.hid (by
               have:=dj5 (l:=l) (a:=a) (m:=m) (f:=f) (u:=u) (b:=b) (out:=out) hlt (by rw[Hel.out,HD.out,←hS];exact hz') (by rw[←hOd];omega);rw[this,←hOd,Hel.out,HD.out,←hS])
              have hbd:b ||| 2 ^ D<2 ^ 24:=Nat.or_lt_two_pow hb24 (Nat.pow_lt_pow_right (by omega) hD24)
              have hcR:=fun W (hE:Ext wr W)=>Hih.out (u ||| S) (b ||| 2 ^ D) W (.slice ab O.length cb) O (by omega) hmore.1 hbd (by omega) (hE0r.trans hE) (hBr.ext hE) (hOr.ext hE) (hTr.ext hE);have hs0:ior (u:Int) (S:Int)=((u ||| S:Nat):Int):=Q0 (by omega) (by omega);have hs1:=p0 (n:=D) (by omega);have hs2:=F8 hb24 hD24;have kt:∀W,Ext wr W→W.cell? ⟨bT,0,none⟩=some (.func (.func 314) #[] #[.pointer (some ⟨bG,0,none⟩),.pointer (some ⟨bO,0,none⟩),.pointer (some ⟨bA,0,none⟩),.pointer (some ⟨bM,0,none⟩),.pointer (some ⟨bT,0,none⟩)]):=fun W hW=>(hTr.ext hW).cell (i:=0) rfl;clear hOd hS hmore hbd hz';go_wp2_with (first | (go_at_call 315;refine (hcA _ (Ext.refl _)).mono ?_;rintro e3 w3 ⟨rfl,hE3⟩;have hE03:=hE0r.trans hE3) | (go_at_call 220;refine (hcS _ hE3).mono ?_;rintro e4 w4 ⟨rfl,hE4⟩;have hE04:=hE03.trans hE4;have hE34:=hE3.trans hE4));have hD0:=(Ext.refl w4).drew;(first | (go_region_held3 (fun W=>W.cell? ⟨bT,0,none⟩=some (.func (.func 314) #[] #[.pointer (some ⟨bG,0,none⟩),.pointer (some ⟨bO,0,none⟩),.pointer (some ⟨bA,0,none⟩),.pointer (some ⟨bM,0,none⟩),.pointer (some ⟨bT,0,none⟩)])) (first | exact hT5.cell (i:=0) rfl | exact kt _ xq) (first | (go_at_call 314;((with_reducible refine Calls.mono (hcR _ xq) ?_);rintro eH w5 ⟨rfl,vo5,hB5,hO5,hF5,hN5⟩;have hT5:=hF5.blk (hTr.ext xq) (Ne.symm hbt) (bj5 (hOr.ext xq) (hTr.ext xq) (by decide)))))) | (fail "the region"));go_wp2_with fail;go_roundw;(case rel=>exact⟨k+1,vo5,by omega,by go_num,hB5,by rw[Hn.out];exact hO5,HFr.out.trans HNr.out ((hE34.drew.fr _ _).trans (Nw.refl _ _) hF5),HNr.out.trans (Nat.le_trans HFr.out.size hE34.drew.size) hN5⟩);case measure=>(simp[intOf];omega)
            · have Hn:Hid (V0 l a m f u b out (k+1)=O):=Lib.hid (by
               rw[cz4 hlt,hOd];rw[←hOd];omega)
              clear hOd hS hz'
              go_wp2_with (first | (go_at_call 315;refine (hcA _ (Ext.refl _)).mono ?_;rintro e3 w3 ⟨rfl,hE3⟩;have hE03:=hE0r.trans hE3) | (go_at_call 220;refine (hcS _ hE3).mono ?_;rintro e4 w4 ⟨rfl,hE4⟩;have hE04:=hE03.trans hE4;have hE34:=hE3.trans hE4))
              go_roundw
              case rel=>exact⟨k+1,_,by omega,by go_num,hBr.ext hE34,by rw[Hn.out];exact hOr.ext hE34,HFr.out.trans HNr.out (hE34.fr _ _),HNr.out⟩
              case measure=>(simp[intOf];omega)
        · have Hn:Hid (tlI l a m (f+1) u b out=O):=Lib.hid (by rw[hOd,dy5 Hnf.out,show k=(j1 a).length by omega]);clear hOd;go_wp2_with fail;go_end0;exact⟨rfl,_,hBr,by rw[Hn.out];exact hOr,(HN12.out.fr _ _).trans (Nw.refl _ _) HFr.out,(Nw.refl _ _).trans HN12.out.size HNr.out⟩
     · have helt:=G9 hu hbe;have hcN:=V1 u e hu24 (by omega) w1 hbe;go_wp2_with (refine hcN.mono ?_;rintro e' w' ⟨rfl,hw'⟩;subst hw');go_round;(case rel=>exact⟨e+1,by omega,by go_num,fun j hj=>by by_cases hje:j=e;(subst hje;exact hbe);exact hall j (by omega)⟩);case measure=>(simp[intOf];omega)
end Go.Zz
namespace Go.Zz
open Go.RowKit Go.Proofs
set_option maxHeartbeats 2000000
set_option maxRecDepth 4000
theorem cj4(v:Value)(l:List Int)(a m:Nat)(w:World)(h:c8 w v l)(Hgr:Hid (c9 l=true))(ha0:a≠0)(ha:a<2 ^ ord l)(hm1:1≤m)(hm:m≤1000) :
 Calls Tryz.prog 253 #[.agg #[v],.int .i64 a,.int .i64 m] w fun e w'=>∃v',e=.returned v'∧Own 3 w w' v' (d6 (K1 l a m))∧Ext w w':=by
 have hp24:=E1 Hgr.out;have ha24:a<2 ^ 24:=Nat.lt_of_lt_of_le ha hp24;have He:Hid (K1 l a m=tlI l a m (ord l+1) a 1 []):=Lib.hid (by
  have:=j38 l a m (ord l+1) a 1 [] (by simp;omega);rw[this];simp[K1])
 have hca:1≤cnt a:=Q8 (Nat.pos_of_ne_zero ha0) ha24;have hmf:∀(fn:Fn) (first cap:Array Value) (w:World),(Instr.makeFunc fn first cap).run Tryz.prog w=.ok (.func fn first cap) w:=fun _ _ _ _=>rfl;have HH:=Lib.hid h;clear h;go_enter Tryz.func253,Tryz.ntmps253;go_wp2_with fail;obtain⟨w1,h1⟩:∃x,x=w.alloc (.cells #[v] 28):=⟨_,rfl⟩;obtain⟨w2,h2⟩:∃x,x=w1.alloc (.cells #[.int .i64 (a:Int)] 3):=⟨_,rfl⟩;obtain⟨w3,h3⟩:∃x,x=w2.alloc (.cells #[.int .i64 (m:Int)] 3):=⟨_,rfl⟩;obtain⟨w4,h4⟩:∃x,x=w3.alloc (.cells #[] 3):=⟨_,rfl⟩;obtain⟨w5,h5⟩:∃x,x=w4.alloc (.cells #[.slice (some ⟨w.heap.size+1+1+1,0,none⟩) 0 0] 26):=⟨_,rfl⟩;obtain⟨w6,h6⟩:∃x,x=w5.alloc (.cells #[.func (.func 314) #[] #[.pointer (some ⟨w.heap.size,0,none⟩),.pointer (some ⟨w.heap.size+1+1+1+1,0,none⟩),.pointer (some ⟨w.heap.size+1,0,none⟩),.pointer (some ⟨w.heap.size+1+1,0,none⟩),.pointer (some ⟨w.heap.size+1+1+1+1+1,0,none⟩)]] 163):=⟨_,rfl⟩;rw[←h1,←h2,←h3,←h4,←h5,←h6];have s1:w1.heap.size=w.heap.size+1:=by rw[h1];simp
 have s2:w2.heap.size=w.heap.size+1+1:=by rw[h2];simp[s1]
 have s3:w3.heap.size=w.heap.size+1+1+1:=by rw[h3];simp[s2]
 have s4:w4.heap.size=w.heap.size+1+1+1+1:=by rw[h4];simp[s3]
 have s5:w5.heap.size=w.heap.size+1+1+1+1+1:=by rw[h5];simp[s4]
 have e01:Ext w w1:=by rw[h1];exact (Ext.refl _).alloc _
 have e12:Ext w1 w2:=by rw[h2];exact (Ext.refl _).alloc _
 have e23:Ext w2 w3:=by rw[h3];exact (Ext.refl _).alloc _
 have e34:Ext w3 w4:=by rw[h4];exact (Ext.refl _).alloc _
 have e45:Ext w4 w5:=by rw[h5];exact (Ext.refl _).alloc _
 have e56:Ext w5 w6:=by rw[h6];exact (Ext.refl _).alloc _
 have B1:Blk w1 w.heap.size 28 #[v]:=by rw[h1];exact Blk.new _ _ _
 have B2:Blk w2 (w.heap.size+1) 3 #[.int .i64 (a:Int)]:=by rw[h2,←s1];exact Blk.new _ _ _
 have B3:Blk w3 (w.heap.size+1+1) 3 #[.int .i64 (m:Int)]:=by rw[h3,←s2];exact Blk.new _ _ _
 have B5:Blk w5 (w.heap.size+1+1+1+1) 26 #[.slice (some ⟨w.heap.size+1+1+1,0,none⟩) 0 0]:=by rw[h5,←s4];exact Blk.new _ _ _
 have B6:Blk w6 (w.heap.size+1+1+1+1+1) 163 #[.func (.func 314) #[] #[.pointer (some ⟨w.heap.size,0,none⟩),.pointer (some ⟨w.heap.size+1+1+1+1,0,none⟩),.pointer (some ⟨w.heap.size+1,0,none⟩),.pointer (some ⟨w.heap.size+1+1,0,none⟩),.pointer (some ⟨w.heap.size+1+1+1+1+1,0,none⟩)]]:=by rw[h6,←s5];exact Blk.new _ _ _
 have O4:Own 3 w3 w4 (.slice (some ⟨w.heap.size+1+1+1,0,none⟩) 0 0) []:=by rw[h4,←s3];exact q5 (TI:=3) (n:=0) (by omega) (Ext.refl w3) [] rfl
 have e13:=e12.trans e23;have e36:=e34.trans (e45.trans e56);have e03:=e01.trans e13;refine (j39 v l a m Hgr ha0 ha hm w3 w.heap.size (w.heap.size+1+1+1+1) (w.heap.size+1) (w.heap.size+1+1) (w.heap.size+1+1+1+1+1) (by omega) (by omega) _ (fun W hW=>((B1.ext e13).ext hW).cell (i:=0) rfl) (fun W hW=>((B2.ext e23).ext hW).cell (i:=0) rfl) (fun W hW=>(B3.ext hW).cell (i:=0) rfl) (Lib.hid fun W hW=>HH.out.ext (e03.trans hW)) rfl (ord l+1) a 1 w6 _ [] (by omega) ha (by decide) (by simp;omega) e36 (B5.ext e56) (O4.ext (e45.trans e56)) B6).mono ?_;rintro e w7 ⟨rfl,v7,hB7,hO7,hF7,-⟩;rw[←He.out] at hO7;obtain⟨a7,c7,rfl,-⟩:=hO7.shape;have hx7:=hB7.cell (i:=0) (v:=.slice a7 (d6 (K1 l a m)).length c7) rfl;have hE7:Ext w w7:=hF7.ext (e03.trans e36) (by omega) (fun j hj=>by simp[Value.ownBlock] at hj;omega);go_wp2_with fail;go_ret;exact⟨_,rfl,hO7.mono e03,hE7⟩
theorem b96(v:Value)(l:List Int)(a:Int)(w:World)(h:c8 w v l) :
 Calls Tryz.prog 146 #[.agg #[v],.int .i64 a] w fun e w'=>e=.returned (.tuple #[.int .i64 (ftV l a),.bool (ftB l a)])∧Ext w w':=by
 obtain⟨wb,Hwb,hE0,hb,hg,hE,Hsz⟩:=j60 28 h;clear h;have hbx:=hb wb hE;cases hs:d8 l a
 · have Hs:=Lib.hid (c66 (I5 hs));go_enter Tryz.func146,Tryz.ntmps146;go_wp2_with fail;rw[←Hwb.out];go_wp2_with (first | (go_at_call 105;refine cx (o7 _ _ _ _ (hg _ hE) (hs)) hE ?_;clear hE;intro w' hE));exact bodyPost_ret (v:=.tuple #[.int .i64 0,.bool false]) (by simp[results,Tryz.results146,go_sem]) rfl ⟨by rw[Hs.out.1,Hs.out.2],hE0.trans hE⟩
 · obtain⟨n,rfl,hn,hn24,hgr⟩:=m3 hs;by_cases h0:n=0
   · subst h0;have Hs:Hid (ftB l ((0:Nat):Int)=false∧ftV l ((0:Nat):Int)=0):=Lib.hid (c66 (F4 l));go_enter Tryz.func146,Tryz.ntmps146;go_wp2_with fail;rw[←Hwb.out];go_wp2_with (first | (go_at_call 105;refine cx (o7 _ _ _ _ (hg _ hE) (hs)) hE ?_;clear hE;intro w' hE));exact bodyPost_ret (v:=.tuple #[.int .i64 0,.bool false]) (by simp[results,Tryz.results146,go_sem]) rfl ⟨by rw[Hs.out.1,Hs.out.2],hE0.trans hE⟩
   · have h00:((n:Int) == 0)=false:=(by rw[beq_eq_false_iff_ne];omega);have Hgr:=Lib.hid hgr;have hone:=J5 hs (by omega);have hcT:=fun W (hW:Ext wb W)=>cj4 v l n 1 W (hg W hW) Hgr h0 hn (by omega) (by omega);have hlenT:(K1 l n 1).length≤1:=b94 _ _ _ _ _ _ (by omega);have Ho:=Lib.hid hone;clear hone hgr h0;rcases hT:K1 l n 1 with _ | ⟨x,L⟩
     · have Hs:=Lib.hid (cs7 hT);rw[hT] at hcT;clear hT hlenT;go_enter Tryz.func146,Tryz.ntmps146;go_wp2_with fail;rw[←Hwb.out];go_wp2_with (first | (go_at_call 105;refine cx (o7 _ _ _ _ (hg _ hE) (hs)) hE ?_;clear hE;intro w' hE) | (go_at_call 253;refine (hcT _ hE).mono ?_;rintro e w' ⟨vT,rfl,hO,hE'⟩;replace hE:=hE.trans hE';clear hE';obtain⟨aT,cT,rfl,-⟩:=hO.shape;simp only[d6,List.map_nil,List.length_nil] at hO ⊢));exact bodyPost_ret (v:=.tuple #[.int .i64 0,.bool false]) (by simp[results,Tryz.results146,go_sem]) rfl ⟨by rw[Hs.out.1,Hs.out.2],hE0.trans hE⟩
     · rw[hT] at hlenT;have hL:L=[]:=List.eq_nil_of_length_eq_zero (by simp at hlenT;simpa using hlenT);subst hL;have Hs:=Lib.hid (cs8 Ho.out hT);rw[hT] at hcT;clear hT hlenT;go_enter Tryz.func146,Tryz.ntmps146;go_wp2_with fail;rw[←Hwb.out];go_wp2_with (first | (go_at_call 105;refine cx (o7 _ _ _ _ (hg _ hE) (hs)) hE ?_;clear hE;intro w' hE) | (go_at_call 253;refine (hcT _ hE).mono ?_;rintro e w' ⟨vT,rfl,hO,hE'⟩;replace hE:=hE.trans hE';clear hE';obtain⟨ao,c,adr,rfl,hlen,hadr,hcell⟩:=hO.ints.op;have hix:∀W,(Instr.indexAt 26 (.slice ao 1 c) (.int .i64 0)).run Tryz.prog W=.ok (.pointer (some (adr 0))) W:=fun W=>j6 (c:=c) (n:=(d6 [x]).length) elI szI hadr 0 W (by simp[d6]);have hck:w'.cell? (adr 0)=some (.int .i64 (x:Int)):=hcell 0 w' (by simp[d6]) (Ext.refl _);clear hlen hadr hcell;rw[show (d6 [x]).length=1 from rfl] at hO ⊢));exact bodyPost_ret (v:=.tuple #[.int .i64 x,.bool true]) (by simp[results,Tryz.results146,go_sem]) rfl ⟨by rw[Hs.out.1,Hs.out.2],hE0.trans hE⟩
end Go.Zz
namespace Go.Zz
open Go.RowKit Go.Proofs
set_option maxHeartbeats 2000000
set_option maxRecDepth 4000
theorem b73(v:Value)(l:List Int)(a:Int)(w:World)(h:c8 w v l) :
 Calls Tryz.prog 50 #[.agg #[v],.int .i64 a] w fun e w'=>e=.returned (.tuple #[.int .i64 (ftV l a),.bool (ftB l a)])∧Ext w w':=by
 obtain⟨wb,Hwb,hE0,hb,hg,hE,Hsz⟩:=j60 28 h;clear h;have hbx:=hb wb hE;cases hs:d8 l a
 · have Hs:=Lib.hid (c66 (I5 hs));go_enter Tryz.func50,Tryz.ntmps50;go_wp2_with fail;rw[←Hwb.out];go_wp2_with (first | (go_at_call 46;refine cx (l5 _ _ _ _ (hg _ hE) (hs)) hE ?_;clear hE;intro w' hE));exact bodyPost_ret (v:=.tuple #[.int .i64 0,.bool false]) (by simp[results,Tryz.results50,go_sem]) rfl ⟨by rw[Hs.out.1,Hs.out.2],hE0.trans hE⟩
 · obtain⟨n,rfl,hn,hn24,hgr⟩:=m3 hs;by_cases h0:n=0
   · subst h0;have Hs:Hid (ftB l ((0:Nat):Int)=false∧ftV l ((0:Nat):Int)=0):=Lib.hid (c66 (F4 l));go_enter Tryz.func50,Tryz.ntmps50;go_wp2_with fail;rw[←Hwb.out];go_wp2_with (first | (go_at_call 46;refine cx (l5 _ _ _ _ (hg _ hE) (hs)) hE ?_;clear hE;intro w' hE));exact bodyPost_ret (v:=.tuple #[.int .i64 0,.bool false]) (by simp[results,Tryz.results50,go_sem]) rfl ⟨by rw[Hs.out.1,Hs.out.2],hE0.trans hE⟩
   · have h00:((n:Int) == 0)=false:=(by rw[beq_eq_false_iff_ne];omega);have Hgr:=Lib.hid hgr;have hone:=J5 hs (by omega);have hca:1≤cnt n:=Q8 (by omega) hn24;have hob:=l8 hgr;have hcT:∀W,Ext wb W→Calls Tryz.prog 167 #[.agg #[v],.int .i64 n,.int .i64 (j4 l:Nat),.int .i64 n,.int .i64 1,.int .i64 1] W fun e w'=>∃v',e=.returned v'∧Own 3 W w' v' (d6 (K1 l n 1))∧Ext W w':=fun W hW =>
      c08 v l n Hgr h0 hn (ord l+1) n 1 1 W (hg W hW) (by omega) hn (by decide) (by omega) (by omega)
     have hlenT:(K1 l n 1).length≤1:=b94 _ _ _ _ _ _ (by omega);have Ho:=Lib.hid hone;have hs1:=p0 (n:=ord l) (by omega);have hpw:=b04 (n:=ord l) hob.2;have hpw1:=R5 (ord l);have hwr:IntKind.i64.wrap (((pw (ord l):Nat):Int) - 1)=((j4 l:Nat):Int):=by
      rw[show (((pw (ord l):Nat):Int) - 1)=((j4 l:Nat):Int) by unfold j4;omega];apply IntWalk.i64_in;unfold j4;omega
     clear hone hgr h0 hca;rcases hT:K1 l n 1 with _ | ⟨x,L⟩
     · have Hs:=Lib.hid (cs7 hT);rw[hT] at hcT;clear hT hlenT;go_enter Tryz.func50,Tryz.ntmps50;go_wp2_with fail;rw[←Hwb.out];refine (l5 _ _ _ _ (hg _ hE) hs).mono ?_;rintro e w1 ⟨rfl,hE1⟩;have hb':=fun W (hW:Ext w1 W)=>hb W (hE1.trans hW);go_wp2_with fail;have hD:=(Ext.refl (w1)).drew;(first | (go_region_held3 (fun W=>Ext (w1) W∧W.cell? ⟨w.heap.size,0,none⟩=some v) (exact⟨xq,hb' _ xq⟩) (first | (go_at_call 43;((with_reducible refine Calls.mono (m4 _ _ _ (hg _ (hE1.trans xq)) Hgr) ?_);rintro e wH0 ⟨rfl,hX0⟩;have hH0:=Ext.trans (a:=w1) xq hX0)) | (go_at_call 167;((with_reducible refine Calls.mono (hcT _ (hE1.trans xq)) ?_);rintro e wH1 ⟨vT,rfl,hO,hX1⟩;have hH1:=Ext.trans (a:=w1) xq hX1)))) | (fail "the region with calls"));obtain⟨aT,cT,rfl,-⟩:=hO.shape;rw[show (d6 []).length=0 from rfl] at hO ⊢;go_wp2_with fail;exact bodyPost_ret (v:=.tuple #[.int .i64 0,.bool false]) (by simp[results,Tryz.results50,go_sem]) rfl ⟨by rw[Hs.out.1,Hs.out.2],hE0.trans (hE1.trans xq)⟩
     · rw[hT] at hlenT;have hL:L=[]:=List.eq_nil_of_length_eq_zero (by simp at hlenT;simpa using hlenT);subst hL;have Hs:=Lib.hid (cs8 Ho.out hT);rw[hT] at hcT;clear hT hlenT;go_enter Tryz.func50,Tryz.ntmps50;go_wp2_with fail;rw[←Hwb.out];refine (l5 _ _ _ _ (hg _ hE) hs).mono ?_;rintro e w1 ⟨rfl,hE1⟩;have hb':=fun W (hW:Ext w1 W)=>hb W (hE1.trans hW);go_wp2_with fail;have hD:=(Ext.refl (w1)).drew;(first | (go_region_held3 (fun W=>Ext (w1) W∧W.cell? ⟨w.heap.size,0,none⟩=some v) (exact⟨xq,hb' _ xq⟩) (first | (go_at_call 43;((with_reducible refine Calls.mono (m4 _ _ _ (hg _ (hE1.trans xq)) Hgr) ?_);rintro e wH0 ⟨rfl,hX0⟩;have hH0:=Ext.trans (a:=w1) xq hX0)) | (go_at_call 167;((with_reducible refine Calls.mono (hcT _ (hE1.trans xq)) ?_);rintro e wH1 ⟨vT,rfl,hO,hX1⟩;have hH1:=Ext.trans (a:=w1) xq hX1)))) | (fail "the region with calls"));obtain⟨ao,c,adr,rfl,hlen,hadr,hcell⟩:=hO.ints.op;have hix:∀W,(Instr.indexAt 26 (.slice ao 1 c) (.int .i64 0)).run Tryz.prog W=.ok (.pointer (some (adr 0))) W:=fun W=>j6 (c:=c) (n:=(d6 [x]).length) elI szI hadr 0 W (by simp[d6]);have hck:wH1.cell? (adr 0)=some (.int .i64 (x:Int)):=hcell 0 wH1 (by simp[d6]) (Ext.refl _);clear hlen hadr hcell;rw[show (d6 [x]).length=1 from rfl] at hO ⊢;go_wp2_with fail;exact bodyPost_ret (v:=.tuple #[.int .i64 x,.bool true]) (by simp[results,Tryz.results50,go_sem]) rfl ⟨by rw[Hs.out.1,Hs.out.2],hE0.trans (hE1.trans xq)⟩
theorem c55(v:Value)(l:List Int)(a:Int)(w:World)(h:c8 w v l) :
 Calls Tryz.prog 271 #[.agg #[v],.int .i64 a] w fun e w'=>∃v1 v2 v3 v4,e=.returned (.tuple #[CV (if ftB l a then 4 else 0) v1 v2 (if ftB l a then a else 0) (ftV l a) 0 0 v3 v4 0,.bool (ftB l a)])∧Own4 w w' v1 v2 v3 v4 (if ftB l a then l else []) [] [] []∧Ext w w':=by
 obtain⟨wb,Hwb,hE0,hb,hg,hE,Hsz⟩:=j60 28 h;clear h;obtain⟨wc,hwc⟩:∃wc,wc=wb.alloc (.cells #[.int .i64 0,.slice none 0 0,.slice none 0 0,.int .i64 0,.int .i64 0,.int .i64 0,.int .i64 0,.slice none 0 0,.slice none 0 0,.int .i64 0] 34):=⟨_,rfl⟩;have hBc:Blk wc wb.heap.size 34 #[.int .i64 0,.slice none 0 0,.slice none 0 0,.int .i64 0,.int .i64 0,.int .i64 0,.int .i64 0,.slice none 0 0,.slice none 0 0,.int .i64 0]:=by rw[hwc];exact Blk.new _ _ _
 have hRc:Res wc wb.heap.size 10:=hBc.res (by simp);have hAc:Ext wb wc:=by rw[hwc];exact hE.alloc _
 replace hE:=Ext.refl wc;have Hsz2:Hid (wb.heap.size+1=wc.heap.size):=Lib.hid (by rw[hwc];simp[go_sem]);have Hwc:=Lib.hid hwc;clear hwc hBc;have hgc:∀W,Ext wc W→c8 W v l:=fun W hW=>hg W (hAc.trans hW);have hbc:∀W,Ext wc W→W.cell? ⟨w.heap.size,0,none⟩=some v:=fun W hW=>hb W (hAc.trans hW);have hwc:wb.heap.size<wc.heap.size:=by have:=Hsz2.out;omega
 have hF0:ftB l a=false→ftV l a=0:=fun e=>by unfold ftV;rw[e];rfl
 cases hs:ftB l a
 · have Hs:=Lib.hid (hF0 hs);go_enter Tryz.func271,Tryz.ntmps271;go_wp2_with fail;rw[←Hwb.out,←Hwc.out];rw[Hsz.out];refine (b96 _ _ _ _ (hgc _ hE)).mono ?_;rw[Hs.out,hs];rintro e w1 ⟨rfl,hE1⟩;have hr:=hRc.ext hE1;unfold Res at hr;go_wp2_with fail;exact bodyPost_ret (v:=.tuple #[CV 0 (.slice none 0 0) (.slice none 0 0) 0 0 0 0 (.slice none 0 0) (.slice none 0 0) 0,.bool false]) (by simp[results,Tryz.results271,go_sem,hr,CV]) rfl ⟨_,_,_,_,by simp,⟨Own.nil _ _ _,Own.nil _ _ _,Own.nil _ _ _,Own.nil _ _ _,p6.nil_left _,p6.nil_left _,p6.nil_left _,p6.nil_left _,p6.nil_left _,p6.nil_left _⟩,hE0.trans (by (repeat (refine Ext.setCell ?_ (Nat.le_refl _) _));exact hAc.trans hE1)⟩
 · go_enter Tryz.func271,Tryz.ntmps271;go_wp2_with fail;rw[←Hwb.out,←Hwc.out];rw[Hsz.out];refine (b96 _ _ _ _ (hgc _ hE)).mono ?_;rw[hs];rintro e w1 ⟨rfl,hE1⟩;have kb:=hbc _ hE1;go_wp2_with fail;refine (bo6 _ _ _ (hgc _ hE1)).mono ?_;rintro e w2 ⟨ao,c,rfl,hO,hE2⟩;have hr:=hRc.ext (hE1.trans hE2);unfold Res at hr;have hw1:wb.heap.size<w1.heap.size:=Nat.lt_of_lt_of_le hwc hE1.size;go_wp2_with fail;exact bodyPost_ret (v:=.tuple #[CV 4 (.slice ao l.length c) (.slice none 0 0) a (ftV l a) 0 0 (.slice none 0 0) (.slice none 0 0) 0,.bool true]) (by simp[results,Tryz.results271,go_sem,hr,CV]) rfl ⟨_,_,_,_,by simp;rfl,⟨(show Own 3 w1 _ _ _ by (repeat (refine Own.setCell_below ?_ hw1 _));exact hO).mono (hE0.trans (hAc.trans hE1)),Own.nil _ _ _,Own.nil _ _ _,Own.nil _ _ _,p6.nil_right _,p6.nil_right _,p6.nil_right _,p6.nil_left _,p6.nil_left _,p6.nil_left _⟩,hE0.trans (by (repeat (refine Ext.setCell ?_ (Nat.le_refl _) _));exact hAc.trans (hE1.trans hE2))⟩
theorem c46(v:Value)(l:List Int)(a:Int)(w:World)(h:c8 w v l) :
 Calls Tryz.prog 13 #[.agg #[v],.int .i64 a] w fun e w'=>∃v1 v2 v3 v4,e=.returned (.tuple #[CV (if ftB l a then 4 else 0) v1 v2 (if ftB l a then a else 0) (ftV l a) 0 0 v3 v4 0,.bool (ftB l a)])∧Own4 w w' v1 v2 v3 v4 (if ftB l a then l else []) [] [] []∧Ext w w':=by
 obtain⟨wb,Hwb,hE0,hb,hg,hE,Hsz⟩:=j60 28 h;clear h;obtain⟨wc,hwc⟩:∃wc,wc=wb.alloc (.cells #[.int .i64 0,.slice none 0 0,.slice none 0 0,.int .i64 0,.int .i64 0,.int .i64 0,.int .i64 0,.slice none 0 0,.slice none 0 0,.int .i64 0] 34):=⟨_,rfl⟩;have hBc:Blk wc wb.heap.size 34 #[.int .i64 0,.slice none 0 0,.slice none 0 0,.int .i64 0,.int .i64 0,.int .i64 0,.int .i64 0,.slice none 0 0,.slice none 0 0,.int .i64 0]:=by rw[hwc];exact Blk.new _ _ _
 have hRc:Res wc wb.heap.size 10:=hBc.res (by simp);have hAc:Ext wb wc:=by rw[hwc];exact hE.alloc _
 replace hE:=Ext.refl wc;have Hsz2:Hid (wb.heap.size+1=wc.heap.size):=Lib.hid (by rw[hwc];simp[go_sem]);have Hwc:=Lib.hid hwc;clear hwc hBc;have hgc:∀W,Ext wc W→c8 W v l:=fun W hW=>hg W (hAc.trans hW);have hbc:∀W,Ext wc W→W.cell? ⟨w.heap.size,0,none⟩=some v:=fun W hW=>hb W (hAc.trans hW);have hwc:wb.heap.size<wc.heap.size:=by have:=Hsz2.out;omega
 have hF0:ftB l a=false→ftV l a=0:=fun e=>by unfold ftV;rw[e];rfl
 cases hs:ftB l a
 · have Hs:=Lib.hid (hF0 hs);go_enter Tryz.func13,Tryz.ntmps13;go_wp2_with fail;rw[←Hwb.out,←Hwc.out];rw[Hsz.out];refine (b73 _ _ _ _ (hgc _ hE)).mono ?_;rw[Hs.out,hs];rintro e w1 ⟨rfl,hE1⟩;have hr:=hRc.ext hE1;unfold Res at hr;go_wp2_with fail;exact bodyPost_ret (v:=.tuple #[CV 0 (.slice none 0 0) (.slice none 0 0) 0 0 0 0 (.slice none 0 0) (.slice none 0 0) 0,.bool false]) (by simp[results,Tryz.results13,go_sem,hr,CV]) rfl ⟨_,_,_,_,by simp,⟨Own.nil _ _ _,Own.nil _ _ _,Own.nil _ _ _,Own.nil _ _ _,p6.nil_left _,p6.nil_left _,p6.nil_left _,p6.nil_left _,p6.nil_left _,p6.nil_left _⟩,hE0.trans (by (repeat (refine Ext.setCell ?_ (Nat.le_refl _) _));exact hAc.trans hE1)⟩
 · go_enter Tryz.func13,Tryz.ntmps13;go_wp2_with fail;rw[←Hwb.out,←Hwc.out];rw[Hsz.out];refine (b73 _ _ _ _ (hgc _ hE)).mono ?_;rw[hs];rintro e w1 ⟨rfl,hE1⟩;have kb:=hbc _ hE1;go_wp2_with fail;refine (bt4 _ _ _ (hgc _ hE1)).mono ?_;rintro e w2 ⟨ao,c,rfl,hO,hE2⟩;have hr:=hRc.ext (hE1.trans hE2);unfold Res at hr;have hw1:wb.heap.size<w1.heap.size:=Nat.lt_of_lt_of_le hwc hE1.size;go_wp2_with fail;exact bodyPost_ret (v:=.tuple #[CV 4 (.slice ao l.length c) (.slice none 0 0) a (ftV l a) 0 0 (.slice none 0 0) (.slice none 0 0) 0,.bool true]) (by simp[results,Tryz.results13,go_sem,hr,CV]) rfl ⟨_,_,_,_,by simp;rfl,⟨(show Own 3 w1 _ _ _ by (repeat (refine Own.setCell_below ?_ hw1 _));exact hO).mono (hE0.trans (hAc.trans hE1)),Own.nil _ _ _,Own.nil _ _ _,Own.nil _ _ _,p6.nil_right _,p6.nil_right _,p6.nil_right _,p6.nil_left _,p6.nil_left _,p6.nil_left _⟩,hE0.trans (by (repeat (refine Ext.setCell ?_ (Nat.le_refl _) _));exact hAc.trans (hE1.trans hE2))⟩
end Go.Zz
namespace Go.Zz
open Go.RowKit Go.Proofs
set_option maxHeartbeats 2000000
set_option maxRecDepth 20000
def R9(l:List Int)(a k:Nat):Nat:=N3 ((List.range k).filter (fun x=>decide (j2 l a x=a)))
theorem c98{l:List Int}{a k:Nat}(h:j2 l a k=a):R9 l a (k+1)=R9 l a k ||| 2 ^ k:=by
 unfold R9;rw[List.range_succ,List.filter_append];simp only[List.filter_cons,List.filter_nil,h,decide_true,if_true];exact bd2 _ _
theorem cj1{l:List Int}{a k:Nat}(h:¬j2 l a k=a):R9 l a (k+1)=R9 l a k:=by
 unfold R9;rw[List.range_succ,List.filter_append];simp[h]
theorem bw1(l:List Int)(a k:Nat):R9 l a k<2 ^ k:=Y3 fun _ hx=>List.mem_range.1 (List.mem_filter.1 hx).1
def C7(l:List Int)(a:Nat):Nat:=R9 l a (ord l)
theorem b12(l:List Int)(a:Nat):C7 l a<2 ^ ord l:=bw1 l a _
def p8(l:List Int)(a b:Int):Bool:=d8 l a&&d8 l b && !(a == 0) && !(b == 0)
theorem df0{l:List Int}{a b:Int}(h:(d8 l a&&d8 l b)=false):p8 l a b=false:=by unfold p8;rw[h];rfl
theorem I4{l:List Int}{a b:Int}(h:p8 l a b=true):∃m n:Nat,a=m∧b=n∧m≠0∧n≠0∧m<2 ^ ord l∧n<2 ^ ord l∧m<2 ^ 24∧n<2 ^ 24∧c9 l=true∧d8 l a=true∧d8 l b=true:=by
 unfold p8 at h;simp only[Bool.and_eq_true,Bool.not_eq_true',beq_eq_false_iff_ne] at h;obtain⟨⟨⟨h1,h2⟩,h3⟩,h4⟩:=h;obtain⟨m,rfl,a1,a2,hg⟩:=m3 h1;obtain⟨n,rfl,b1,b2,-⟩:=m3 h2;exact⟨m,n,rfl,rfl,by omega,by omega,a1,b1,a2,b2,hg,h1,h2⟩
theorem d90{l:List Int}(h:c9 l=true){a b:Nat}(ha:a≠0)(ha2:a<2 ^ ord l)(hb:b<2 ^ ord l):cnt b≤cnt (j3 l a b):=by
 obtain⟨x,hx⟩:=b24 ha;rw[←b16 h hb x];refine c19 fun i hi=>?_;obtain⟨y,hy,by_,rfl⟩:=D0.1 hi;exact q7.2 ⟨x,y,Nat.lt_of_lt_of_le (G9 ha2 hx) (l8 h).2,hx,hy,by_,rfl⟩
theorem U5(v:Value)(l:List Int)(a:Nat)(w:World)(h:c8 w v l)(hs:d8 l a=true) :
 Calls Tryz.prog 109 #[.agg #[v],.int .i64 a] w fun e w'=>e=.returned (.int .i64 (C7 l a:Nat))∧Ext w w':=by
 obtain⟨wb,Hwb,hE0,hb,hg,hE,Hsz⟩:=j60 28 h;clear h;obtain⟨a',e1,-,ha2,hgr⟩:=m3 hs;obtain rfl:a=a':=by omega
 have Hgr:=Lib.hid hgr;have hob:=l8 hgr;clear hgr e1;go_enter Tryz.func109,Tryz.ntmps109;go_wp2_with fail;rw[←Hwb.out];go_wp2_with (first | (go_at_call 105;refine cx (o7 _ _ _ _ (hg _ hE) (hs)) hE ?_;clear hE;intro w' hE) | (go_at_call 99;refine cx (m9 _ _ _ (hg _ hE) (Hgr)) hE ?_;clear hE;intro w' hE));clear hs;go_loopw [5,13] (fun ov xv wr=>∃k:Nat,k≤ord l∧xv=.int .i64 k∧ov=.int .i64 (R9 l a k:Nat)∧Ext wb wr) (fun _ x _=>ord l - (intOf x).toNat);case atStart=>exact⟨0,by omega,rfl,rfl,hE⟩
 case round =>
  clear hE;obtain⟨k,hk,rfl,rfl,hE⟩:=hrel;have hbx:=hb _ hE;by_cases hlt:k<ord l
  · have hst:R9 l a k<2 ^ 24:=Nat.lt_of_lt_of_le (bw1 l a k) (Nat.pow_le_pow_right (by omega) (by omega));have hsf:=M5 Hgr.out a k;have hs1:=p0 (n:=k) (by omega);have hs2:=F8 hst (show k<24 by omega);by_cases hq:j2 l a k=a
    · have Hn:=Lib.hid (c98 hq);have hqi:((j2 l a k:Int) == (a:Int))=true:=(by rw[hq];simp);clear hq;go_wp2_with (first | (go_at_call 220;refine cx (J9 _ _ _ _ _ (hg _ hE) (Hgr) (ha2) ((by omega))) hE ?_;clear hE;intro w' hE));go_roundw;(case rel=>exact⟨k+1,by omega,by go_num,by rw[Hn.out],hE⟩);case measure=>(simp[intOf];omega)
    · have Hn:=Lib.hid (cj1 hq);have hqi:((j2 l a k:Int) == (a:Int))=false:=(by simp;omega);clear hq;go_wp2_with (first | (go_at_call 220;refine cx (J9 _ _ _ _ _ (hg _ hE) (Hgr) (ha2) ((by omega))) hE ?_;clear hE;intro w' hE));go_roundw;(case rel=>exact⟨k+1,by omega,by go_num,by rw[Hn.out],hE⟩);case measure=>(simp[intOf];omega)
  · have hkl:k=ord l:=(by omega);subst hkl;go_wp2_with fail;go_ret;exact⟨rfl,hE0.trans hE⟩
theorem Q4(v:Value)(l:List Int)(a:Nat)(w:World)(h:c8 w v l)(Hgr:Hid (c9 l=true))(ha2:a<2 ^ 24) :
 Calls Tryz.prog 68 #[.agg #[v],.int .i64 a] w fun e w'=>e=.returned (.int .i64 (C7 l a:Nat))∧Ext w w':=by
 obtain⟨wb,Hwb,hE0,hb,hg,hE,Hsz⟩:=j60 28 h;clear h;have hob:=l8 Hgr.out;go_enter Tryz.func68,Tryz.ntmps68;go_wp2_with fail;rw[←Hwb.out];go_loopw [5,6] (fun ov xv wr=>∃k:Nat,k≤ord l∧xv=.int .i64 k∧ov=.int .i64 (R9 l a k:Nat)∧Ext wb wr) (fun _ x _=>ord l - (intOf x).toNat);case atStart=>exact⟨0,by omega,rfl,rfl,hE⟩
 case round =>
  clear hE;obtain⟨k,hk,rfl,rfl,hE⟩:=hrel;have hbx:=hb _ hE;by_cases hlt:k<ord l
  · have hst:R9 l a k<2 ^ 24:=Nat.lt_of_lt_of_le (bw1 l a k) (Nat.pow_le_pow_right (by omega) (by omega));have hsf:=M5 Hgr.out a k;have hs1:=p0 (n:=k) (by omega);have hs2:=F8 hst (show k<24 by omega);by_cases hq:j2 l a k=a
    · have Hn:=Lib.hid (c98 hq);have hqi:((j2 l a k:Int) == (a:Int))=true:=(by rw[hq];simp);clear hq;go_wp2_with (first | (go_at_call 43;refine cx (m4 _ _ _ (hg _ hE) (Hgr)) hE ?_;clear hE;intro w' hE) | (go_at_call 166;refine cx (I8 _ _ _ _ _ (hg _ hE) (Hgr) (ha2) ((by omega))) hE ?_;clear hE;intro w' hE));go_roundw;(case rel=>exact⟨k+1,by omega,by go_num,by rw[Hn.out],hE⟩);case measure=>(simp[intOf];omega)
    · have Hn:=Lib.hid (cj1 hq);have hqi:((j2 l a k:Int) == (a:Int))=false:=(by simp;omega);clear hq;go_wp2_with (first | (go_at_call 43;refine cx (m4 _ _ _ (hg _ hE) (Hgr)) hE ?_;clear hE;intro w' hE) | (go_at_call 166;refine cx (I8 _ _ _ _ _ (hg _ hE) (Hgr) (ha2) ((by omega))) hE ?_;clear hE;intro w' hE));go_roundw;(case rel=>exact⟨k+1,by omega,by go_num,by rw[Hn.out],hE⟩);case measure=>(simp[intOf];omega)
  · have hkl:k=ord l:=(by omega);subst hkl;go_wp2_with (first | (go_at_call 43;refine cx (m4 _ _ _ (hg _ hE) (Hgr)) hE ?_;clear hE;intro w' hE));go_ret;exact⟨rfl,hE0.trans hE⟩
theorem bf9(v:Value)(l:List Int)(a b:Int)(w:World)(h:c8 w v l) :
 Calls Tryz.prog 118 #[.agg #[v],.int .i64 a,.int .i64 b] w fun e w'=>e=.returned (.bool (p8 l a b))∧Ext w w':=by
 obtain⟨wb,Hwb,hE0,hb,hg,hE,Hsz⟩:=j60 28 h;clear h;have hbx:=hb wb hE;have har:=ba0 l a b;cases hs:(d8 l a&&d8 l b)
 · have Hs:=Lib.hid (df0 hs);rw[hs] at har;clear hs;go_enter Tryz.func118,Tryz.ntmps118;go_wp2_with fail;rw[←Hwb.out];try rw[Hsz.out]
   go_wp2_with (first | (go_at_call 222;refine Calls.mono (F3 _ _ _ _ _ (hg _ xq) (S9 _ _ _ _) har) ?_;rintro e w' ⟨rfl,hE'⟩;replace hE:=hE.trans (Ext.trans xq hE');clear hE'));go_ret;exact⟨l9 Hs.out.symm,hE0.trans hE⟩
 · have Hs:Hid (p8 l a b=(!(a == 0) && !(b == 0))):=Lib.hid (by unfold p8;rw[hs];rfl);rw[hs] at har;clear hs;cases ha:(a == 0)<;>cases hb0:(b == 0)
   all_goals
    have ha':(a != 0) = !(a == 0):=rfl
    have hb':(b != 0) = !(b == 0):=rfl
    rw[ha] at ha'
    rw[hb0] at hb'
    rw[ha,hb0] at Hs
    go_enter Tryz.func118,Tryz.ntmps118
    go_wp2_with fail
    rw[←Hwb.out];try rw[Hsz.out]
    go_wp2_with (first | (go_at_call 222;refine Calls.mono (F3 _ _ _ _ _ (hg _ xq) (S9 _ _ _ _) har) ?_;rintro e w' ⟨rfl,hE'⟩;replace hE:=hE.trans (Ext.trans xq hE');clear hE'))
    go_ret
    exact⟨l9 (by rw[Hs.out];simp_all),hE0.trans hE⟩
def knF(l:List Int)(a b:Nat):Int:=(cnt (j3 l a (C7 l (j3 l a b))):Int)+cnt (j3 l b (C7 l (j3 l a b))) - cnt (C7 l (j3 l a b))
theorem bx8{l:List Int}(h:c9 l=true){a b:Nat}(ha:a≠0)(ha2:a<2 ^ ord l):0≤knF l a b:=by
 have:=d90 h ha ha2 (b12 l (j3 l a b));unfold knF;omega
theorem bf0(v:Value)(l:List Int)(a b:Int)(w:World)(h:c8 w v l)(hf:p8 l a b=false) :
 Calls Tryz.prog 77 #[.agg #[v],.int .i64 a,.int .i64 b] w fun e w'=>e=.returned (.int .i64 (-1))∧Ext w w':=by
 obtain⟨wb,Hwb,hE0,hb,hg,hE,Hsz⟩:=j60 28 h;clear h;have hbx:=hb wb hE;cases h1:d8 l a
 ·
    go_enter Tryz.func77,Tryz.ntmps77
    go_wp2_with fail
    rw[←Hwb.out]
    go_wp2_with (first | (go_at_call 46;refine cx (l5 _ _ _ _ (hg _ hE) (h1)) hE ?_;clear hE;intro w' hE))
    go_ret
    exact⟨rfl,hE0.trans hE⟩
 · cases h2:d8 l b
   ·
      go_enter Tryz.func77,Tryz.ntmps77
      go_wp2_with fail
      rw[←Hwb.out]
      go_wp2_with (first | (go_at_call 46;(first | (with_reducible refine Calls.mono (l5 _ _ a _ (hg _ hE) h1) ?_) | (with_reducible refine Calls.mono (l5 _ _ b _ (hg _ hE) h2) ?_));rintro e w' ⟨rfl,hE'⟩;replace hE:=hE.trans hE';clear hE'))
      go_ret
      exact⟨rfl,hE0.trans hE⟩
   · cases h3:(a == 0)
     · have h4:(b == 0)=true:=(by unfold p8 at hf;rw[h1,h2,h3] at hf;simpa using hf);clear hf
       ·
          go_enter Tryz.func77,Tryz.ntmps77
          go_wp2_with fail
          rw[←Hwb.out]
          go_wp2_with (first | (go_at_call 46;(first | (with_reducible refine Calls.mono (l5 _ _ a _ (hg _ hE) h1) ?_) | (with_reducible refine Calls.mono (l5 _ _ b _ (hg _ hE) h2) ?_));rintro e w' ⟨rfl,hE'⟩;replace hE:=hE.trans hE';clear hE'))
          go_ret
          exact⟨rfl,hE0.trans hE⟩
     · clear hf
       ·
          go_enter Tryz.func77,Tryz.ntmps77
          go_wp2_with fail
          rw[←Hwb.out]
          go_wp2_with (first | (go_at_call 46;(first | (with_reducible refine Calls.mono (l5 _ _ a _ (hg _ hE) h1) ?_) | (with_reducible refine Calls.mono (l5 _ _ b _ (hg _ hE) h2) ?_));rintro e w' ⟨rfl,hE'⟩;replace hE:=hE.trans hE';clear hE'))
          go_ret
          exact⟨rfl,hE0.trans hE⟩
theorem bc3(v:Value)(l:List Int)(a b:Nat)(w:World)(h:c8 w v l)(hf:p8 l a b=true) :
 Calls Tryz.prog 77 #[.agg #[v],.int .i64 a,.int .i64 b] w fun e w'=>e=.returned (.int .i64 (knF l a b))∧Ext w w':=by
 obtain⟨wb,Hwb,hE0,hb,hg,hE,Hsz⟩:=j60 28 h;clear h;have hbx:=fun U=>hb _ (b9 wb U);have hbx1:=hb wb hE;obtain⟨m,n,e1,e2,h3,h4,-,-,ha,hb',hgr,h1,h2⟩:=I4 hf;obtain rfl:a=m:=by omega
 obtain rfl:b=n:=by omega
 have Hgr:=Lib.hid hgr;have hst:C7 l (j3 l a b)<2 ^ 24:=Nat.lt_of_lt_of_le (b12 l _) (E1 hgr);have hsum:=F5 hgr a b;have q1:=F5 hgr a (C7 l (j3 l a b));have q2:=F5 hgr b (C7 l (j3 l a b));have r1:=p7 (j3 l a (C7 l (j3 l a b)));have r2:=p7 (j3 l b (C7 l (j3 l a b)));have r3:=p7 (C7 l (j3 l a b));have h3':((a:Int) == 0)=false:=by simp;omega
 have h4':((b:Int) == 0)=false:=by simp;omega
 have w1:IntKind.i64.wrap ((cnt (j3 l a (C7 l (j3 l a b))):Int)+(cnt (j3 l b (C7 l (j3 l a b))):Int))=(cnt (j3 l a (C7 l (j3 l a b))):Int)+(cnt (j3 l b (C7 l (j3 l a b))):Int):=IntWalk.i64_in _ (by omega);have w2:IntKind.i64.wrap ((cnt (j3 l a (C7 l (j3 l a b))):Int)+(cnt (j3 l b (C7 l (j3 l a b))):Int) - (cnt (C7 l (j3 l a b)):Int))=(cnt (j3 l a (C7 l (j3 l a b))):Int)+(cnt (j3 l b (C7 l (j3 l a b))):Int) - (cnt (C7 l (j3 l a b)):Int):=IntWalk.i64_in _ (by omega);clear hgr e1 e2 hf;go_enter Tryz.func77,Tryz.ntmps77;go_wp2_with fail;rw[←Hwb.out];go_wp2_with (first | (go_at_call 46;(first | (with_reducible refine Calls.mono (l5 _ _ (a:Int) _ (hg _ hE) h1) ?_) | (with_reducible refine Calls.mono (l5 _ _ (b:Int) _ (hg _ hE) h2) ?_));rintro e w' ⟨rfl,hE'⟩;replace hE:=hE.trans hE';clear hE'));(refine d0 (wb) (by kernel_rfl) (by kernel_rfl) hE ?_);(repeat (go_big_quiet_step (first | (go_at_call 49;exact Calls.lat (E4 _ _ _ _ _ (hg _ (b9 wb _)) (Hgr) (ha) (hb'))) | (go_at_call 68;exact Calls.lat (Q4 _ _ _ _ (hg _ (b9 wb _)) (Hgr) (hsum))))));(refine wpQuiet_nil ?_);(intro W hE');(replace hE:=l7 hE');(clear hE');go_wp2_with fail;(refine d0 (wb) (by kernel_rfl) (by kernel_rfl) hE ?_);(repeat (go_big_quiet_step (first | (go_at_call 49;exact Calls.lat (E4 _ _ _ _ _ (hg _ (b9 wb _)) (Hgr) (ha) (hst))) | (go_at_call 49;exact Calls.lat (E4 _ _ _ _ _ (hg _ (b9 wb _)) (Hgr) (hb') (hst))) | (go_at_call 66;(first | (with_reducible exact Calls.lat_same (o9 _ q1 _)) | (with_reducible exact Calls.lat_same (o9 _ q2 _)) | (with_reducible exact Calls.lat_same (o9 _ hst _)))))));(refine wpQuiet_nil ?_);(intro W hE');(replace hE:=l7 hE');(clear hE');go_wp2_with fail;go_ret;exact⟨m8 (by unfold knF;rfl),hE0.trans hE⟩
def kpH(l:List Int)(a b:Nat):Nat:=C7 l (j3 l a b)
theorem ce3(v:Value)(l:List Int)(a b:Int)(w:World)(h:c8 w v l)(hf:p8 l a b=false) :
 Calls Tryz.prog 47 #[.agg #[v],.int .i64 a,.int .i64 b] w fun e w'=>e=.returned (.tuple #[.int .i64 0,.int .i64 0,.int .i64 0,.bool false])∧Ext w w':=by
 obtain⟨wb,Hwb,hE0,hb,hg,hE,Hsz⟩:=j60 28 h;clear h;go_enter Tryz.func47,Tryz.ntmps47;go_wp2_with fail;rw[←Hwb.out];go_wp2_with (first | (go_at_call 77;refine cx (bf0 _ _ _ _ _ (hg _ hE) hf) hE ?_;clear hE;intro w' hE));exact bodyPost_ret (v:=.tuple #[.int .i64 0,.int .i64 0,.int .i64 0,.bool false]) (by simp[results,Tryz.results47,go_sem]) rfl ⟨rfl,hE0.trans hE⟩
theorem c93(v:Value)(l:List Int)(a b:Nat)(w:World)(h:c8 w v l)(hf:p8 l a b=true) :
 Calls Tryz.prog 47 #[.agg #[v],.int .i64 a,.int .i64 b] w fun e w'=>e=.returned (.tuple #[.int .i64 (kpH l a b:Nat),.int .i64 (j3 l a (kpH l a b):Nat),.int .i64 (j3 l b (kpH l a b):Nat),.bool true])∧Ext w w':=by
 obtain⟨wb,Hwb,hE0,hb,hg,hE,Hsz⟩:=j60 28 h;clear h;have hbx:=fun U=>hb _ (b9 wb U);obtain⟨m,n,e1,e2,h3,h4,a1,-,ha,hb',hgr,-,-⟩:=I4 hf;obtain rfl:a=m:=by omega
 obtain rfl:b=n:=by omega
 have hk:=bx8 (b:=b) hgr h3 a1;have Hgr:=Lib.hid hgr;have hst:kpH l a b<2 ^ 24:=Nat.lt_of_lt_of_le (b12 l _) (E1 hgr);have hsum:=F5 hgr a b;have hkp:C7 l (j3 l a b)=kpH l a b:=rfl;have Hkp:=Lib.hid hkp;clear hgr e1 e2 hkp h3 h4;go_enter Tryz.func47,Tryz.ntmps47;go_wp2_with fail;rw[←Hwb.out];go_wp2_with (first | (go_at_call 77;refine cx (bc3 _ _ _ _ _ (hg _ hE) hf) hE ?_;clear hE;intro w' hE));(refine d0 (wb) (by kernel_rfl) (by kernel_rfl) hE ?_);(repeat (go_big_quiet_step (first | (go_at_call 49;exact Calls.lat (E4 _ _ _ _ _ (hg _ (b9 wb _)) (Hgr) (ha) (hb'))) | (go_at_call 68;exact Calls.lat (Q4 _ _ _ _ (hg _ (b9 wb _)) (Hgr) (hsum))))));(refine wpQuiet_nil ?_);(intro W hE');(replace hE:=l7 hE');(clear hE');rw[Hkp.out];go_wp2_with fail;(refine d0 (wb) (by kernel_rfl) (by kernel_rfl) hE ?_);(repeat (go_big_quiet_step (first | (go_at_call 49;exact Calls.lat (E4 _ _ _ _ _ (hg _ (b9 wb _)) (Hgr) (ha) (hst))) | (go_at_call 49;exact Calls.lat (E4 _ _ _ _ _ (hg _ (b9 wb _)) (Hgr) (hb') (hst))))));(refine wpQuiet_nil ?_);(intro W hE');(replace hE:=l7 hE');(clear hE');go_wp2_with fail;exact bodyPost_ret (v:=.tuple #[.int .i64 (kpH l a b:Nat),.int .i64 (j3 l a (kpH l a b):Nat),.int .i64 (j3 l b (kpH l a b):Nat),.bool true]) (by simp[results,Tryz.results47,go_sem]) rfl ⟨rfl,hE0.trans hE⟩
def csK(l:List Int)(a b:Int):Int:=if p8 l a b then 1 else 0
def csA(l:List Int)(a b:Int):Int:=if p8 l a b then a else 0
def csB(l:List Int)(a b:Int):Int:=if p8 l a b then b else 0
def csS(l:List Int)(a b:Int):Int:=if p8 l a b then (j3 l a.toNat b.toNat:Int) else 0
def csP(l:List Int)(a b:Int):Int:=if p8 l a b then (kpH l a.toNat b.toNat:Int) else 0
def csG(l:List Int)(a b:Int):List Int:=if p8 l a b then l else []
theorem ds0{l:List Int}{a b:Int}(h:p8 l a b=false):csK l a b=0∧csA l a b=0∧csB l a b=0∧csS l a b=0∧csP l a b=0∧csG l a b=[]:=by
 unfold csK csA csB csS csP csG;rw[h];exact⟨rfl,rfl,rfl,rfl,rfl,rfl⟩
theorem cp9{l:List Int}{a b:Nat}(h:p8 l a b=true):csK l a b=1∧csA l a b=a∧csB l a b=b∧csS l a b=(j3 l a b:Int)∧csP l a b=(kpH l a b:Int)∧csG l a b=l:=by
 unfold csK csA csB csS csP csG;rw[h];exact⟨rfl,rfl,rfl,rfl,rfl,rfl⟩
theorem ca3(v:Value)(l:List Int)(a b:Int)(w:World)(h:c8 w v l) :
 Calls Tryz.prog 172 #[.agg #[v],.int .i64 a,.int .i64 b] w fun e w'=>∃v1 v2 v3 v4,e=.returned (.tuple #[CV (csK l a b) v1 v2 (csA l a b) (csB l a b) (csS l a b) (csP l a b) v3 v4 0,.bool (p8 l a b)])∧Own4 w w' v1 v2 v3 v4 (csG l a b) [] [] []∧Ext w w':=by
 obtain⟨wb,Hwb,hE0,hb,hg,hE,Hsz⟩:=j60 28 h;clear h;obtain⟨wc,hwc⟩:∃wc,wc=wb.alloc (.cells #[.int .i64 0,.slice none 0 0,.slice none 0 0,.int .i64 0,.int .i64 0,.int .i64 0,.int .i64 0,.slice none 0 0,.slice none 0 0,.int .i64 0] 34):=⟨_,rfl⟩;have hBc:Blk wc wb.heap.size 34 #[.int .i64 0,.slice none 0 0,.slice none 0 0,.int .i64 0,.int .i64 0,.int .i64 0,.int .i64 0,.slice none 0 0,.slice none 0 0,.int .i64 0]:=by rw[hwc];exact Blk.new _ _ _
 have hRc:Res wc wb.heap.size 10:=hBc.res (by simp);have hAc:Ext wb wc:=by rw[hwc];exact hE.alloc _
 replace hE:=Ext.refl wc;have Hsz2:Hid (wb.heap.size+1=wc.heap.size):=Lib.hid (by rw[hwc];simp[go_sem]);have Hwc:=Lib.hid hwc;clear hwc hBc;have hgc:∀W,Ext wc W→c8 W v l:=fun W hW=>hg W (hAc.trans hW);have hbc:∀W,Ext wc W→W.cell? ⟨w.heap.size,0,none⟩=some v:=fun W hW=>hb W (hAc.trans hW);have hwc:wb.heap.size<wc.heap.size:=by have:=Hsz2.out;omega
 cases hf:p8 l a b
 · have Hs:=Lib.hid (ds0 hf);go_enter Tryz.func172,Tryz.ntmps172;go_wp2_with fail;rw[←Hwb.out,←Hwc.out];rw[Hsz.out];refine (bf9 _ _ _ _ _ (hgc _ hE)).mono ?_;rw[hf];rintro e w1 ⟨rfl,hE1⟩;have hr:=hRc.ext hE1;unfold Res at hr;go_wp2_with fail;exact bodyPost_ret (v:=.tuple #[CV 0 (.slice none 0 0) (.slice none 0 0) 0 0 0 0 (.slice none 0 0) (.slice none 0 0) 0,.bool false]) (by simp[results,Tryz.results172,go_sem,hr,CV]) rfl ⟨_,_,_,_,by rw[Hs.out.1,Hs.out.2.1,Hs.out.2.2.1,Hs.out.2.2.2.1,Hs.out.2.2.2.2.1],by rw[Hs.out.2.2.2.2.2];exact⟨Own.nil _ _ _,Own.nil _ _ _,Own.nil _ _ _,Own.nil _ _ _,p6.nil_left _,p6.nil_left _,p6.nil_left _,p6.nil_left _,p6.nil_left _,p6.nil_left _⟩,hE0.trans (by (repeat (refine Ext.setCell ?_ (Nat.le_refl _) _));exact hAc.trans hE1)⟩
 · have hf':=hf;obtain⟨m,n,rfl,rfl,-,-,-,-,ha,hb',hgr,-,-⟩:=I4 hf;have Hs:=Lib.hid (cp9 hf');have Hgr:=Lib.hid hgr;have hss:d8 l ((j3 l m n:Nat):Int)=true:=O5 hgr (b55 (m0 hgr) m n);have hkp:C7 l (j3 l m n)=kpH l m n:=rfl;obtain⟨a,rfl⟩:∃a,a=m:=⟨_,rfl⟩;obtain⟨b,rfl⟩:∃b,b=n:=⟨_,rfl⟩;clear hgr;go_enter Tryz.func172,Tryz.ntmps172;go_wp2_with fail;rw[←Hwb.out,←Hwc.out];rw[Hsz.out];refine (bf9 _ _ _ _ _ (hgc _ hE)).mono ?_;rw[hf];rintro e w1 ⟨rfl,hE1⟩;have kb:=hbc _ hE1;go_wp2_with fail;refine (H5 _ _ _ _ _ (hgc _ hE1) Hgr ha hb').mono ?_;rintro e w2 ⟨rfl,hE2⟩;replace hE:=hE1.trans hE2;clear kb hf hf';go_wp2_with fail;have hD:=hE.drew;(first | (go_region_held3 (fun W=>Ext (wb) W∧W.cell? ⟨w.heap.size,0,none⟩=some v∧(∀i,i<10→W.cell? ⟨(wb).heap.size,i,none⟩=some (At W ⟨(wb).heap.size,i,none⟩)∧W.frozen? ⟨(wb).heap.size,i,none⟩=false)) (exact⟨(by (repeat (refine Ext.setCell ?_ (Nat.le_refl _) _));exact Ext.trans hAc xq),hb _ (by (repeat (refine Ext.setCell ?_ (Nat.le_refl _) _));exact Ext.trans hAc xq),(by (repeat (refine Res.setCell ?_ _ _));exact Res.ext hRc xq)⟩) (first | (go_at_call 273;((with_reducible refine Calls.mono (bo6 _ _ _ (hgc _ xq)) ?_);rintro e wH0 ⟨ao,c,rfl,hO,hX0⟩;have hH0:=Ext.trans (a:=wc) xq hX0)) | (go_at_call 109;((with_reducible refine Calls.mono (U5 _ _ _ _ (hgc _ xq) hss) ?_);rintro e wH1 ⟨rfl,hX1⟩;have hH1:=Ext.trans (a:=wc) xq hX1)))) | (fail "the region with a result"));go_wp2_with fail;have hr:=hRc.ext hH1;unfold Res at hr;have hv:=(hO.ext hX1).mono (show Ext wc _ by repeat (first | assumption | exact Ext.refl _ | (apply And.left;assumption) | apply Ext.drew | apply Ext.alloc));exact bodyPost_ret (v:=.tuple #[CV 1 (.slice ao l.length c) (.slice none 0 0) (a:Int) (b:Int) (j3 l a b:Int) (kpH l a b:Int) (.slice none 0 0) (.slice none 0 0) 0,.bool true]) (by simp[results,Tryz.results172,go_sem,hr,CV]) rfl ⟨_,_,_,_,by rw[Hs.out.1,Hs.out.2.1,Hs.out.2.2.1,Hs.out.2.2.2.1,Hs.out.2.2.2.2.1],by rw[Hs.out.2.2.2.2.2];exact⟨(show Own 3 wc _ _ _ by (repeat (refine Own.setCell_below ?_ hwc _));exact hv).mono (hE0.trans hAc),Own.nil _ _ _,Own.nil _ _ _,Own.nil _ _ _,p6.nil_right _,p6.nil_right _,p6.nil_right _,p6.nil_left _,p6.nil_left _,p6.nil_left _⟩,hE0.trans (by (repeat (refine Ext.setCell ?_ (Nat.le_refl _) _));exact hAc.trans hH1)⟩
theorem c87(v:Value)(l:List Int)(a b:Int)(w:World)(h:c8 w v l) :
 Calls Tryz.prog 12 #[.agg #[v],.int .i64 a,.int .i64 b] w fun e w'=>∃v1 v2 v3 v4,e=.returned (.tuple #[CV (csK l a b) v1 v2 (csA l a b) (csB l a b) (csS l a b) (csP l a b) v3 v4 0,.bool (p8 l a b)])∧Own4 w w' v1 v2 v3 v4 (csG l a b) [] [] []∧Ext w w':=by
 obtain⟨wb,Hwb,hE0,hb,hg,hE,Hsz⟩:=j60 28 h;clear h;obtain⟨wc,hwc⟩:∃wc,wc=wb.alloc (.cells #[.int .i64 0,.slice none 0 0,.slice none 0 0,.int .i64 0,.int .i64 0,.int .i64 0,.int .i64 0,.slice none 0 0,.slice none 0 0,.int .i64 0] 34):=⟨_,rfl⟩;have hBc:Blk wc wb.heap.size 34 #[.int .i64 0,.slice none 0 0,.slice none 0 0,.int .i64 0,.int .i64 0,.int .i64 0,.int .i64 0,.slice none 0 0,.slice none 0 0,.int .i64 0]:=by rw[hwc];exact Blk.new _ _ _
 have hRc:Res wc wb.heap.size 10:=hBc.res (by simp);have hAc:Ext wb wc:=by rw[hwc];exact hE.alloc _
 replace hE:=Ext.refl wc;have Hsz2:Hid (wb.heap.size+1=wc.heap.size):=Lib.hid (by rw[hwc];simp[go_sem]);have Hwc:=Lib.hid hwc;clear hwc hBc;have hgc:∀W,Ext wc W→c8 W v l:=fun W hW=>hg W (hAc.trans hW);have hbc:∀W,Ext wc W→W.cell? ⟨w.heap.size,0,none⟩=some v:=fun W hW=>hb W (hAc.trans hW);have hwc:wb.heap.size<wc.heap.size:=by have:=Hsz2.out;omega
 cases hf:p8 l a b
 · have Hs:=Lib.hid (ds0 hf);go_enter Tryz.func12,Tryz.ntmps12;go_wp2_with fail;rw[←Hwb.out,←Hwc.out];rw[Hsz.out];refine (ce3 _ _ _ _ _ (hgc _ hE) hf).mono ?_;rintro e w1 ⟨rfl,hE1⟩;have hr:=hRc.ext hE1;unfold Res at hr;go_wp2_with fail;exact bodyPost_ret (v:=.tuple #[CV 0 (.slice none 0 0) (.slice none 0 0) 0 0 0 0 (.slice none 0 0) (.slice none 0 0) 0,.bool false]) (by simp[results,Tryz.results12,go_sem,hr,CV]) rfl ⟨_,_,_,_,by rw[Hs.out.1,Hs.out.2.1,Hs.out.2.2.1,Hs.out.2.2.2.1,Hs.out.2.2.2.2.1],by rw[Hs.out.2.2.2.2.2];exact⟨Own.nil _ _ _,Own.nil _ _ _,Own.nil _ _ _,Own.nil _ _ _,p6.nil_left _,p6.nil_left _,p6.nil_left _,p6.nil_left _,p6.nil_left _,p6.nil_left _⟩,hE0.trans (by (repeat (refine Ext.setCell ?_ (Nat.le_refl _) _));exact hAc.trans hE1)⟩
 · have hf':=hf;obtain⟨m,n,rfl,rfl,-,-,-,-,ha,hb',hgr,-,-⟩:=I4 hf;have Hs:=Lib.hid (cp9 hf');have Hgr:=Lib.hid hgr;obtain⟨a,rfl⟩:∃a,a=m:=⟨_,rfl⟩;obtain⟨b,rfl⟩:∃b,b=n:=⟨_,rfl⟩;clear hgr;go_enter Tryz.func12,Tryz.ntmps12;go_wp2_with fail;rw[←Hwb.out,←Hwc.out];rw[Hsz.out];refine (c93 _ _ _ _ _ (hgc _ hE) hf').mono ?_;rintro e w1 ⟨rfl,hE1⟩;have kb:=hbc _ hE1;replace hE:=hE1;clear hf hf';go_wp2_with fail;have hD:=hE.drew;(first | (go_region_held3 (fun W=>Ext (wb) W∧W.cell? ⟨w.heap.size,0,none⟩=some v∧(∀i,i<10→W.cell? ⟨(wb).heap.size,i,none⟩=some (At W ⟨(wb).heap.size,i,none⟩)∧W.frozen? ⟨(wb).heap.size,i,none⟩=false)) (exact⟨(by (repeat (refine Ext.setCell ?_ (Nat.le_refl _) _));exact Ext.trans hAc xq),hb _ (by (repeat (refine Ext.setCell ?_ (Nat.le_refl _) _));exact Ext.trans hAc xq),(by (repeat (refine Res.setCell ?_ _ _));exact Res.ext hRc xq)⟩) (first | (go_at_call 48;((with_reducible refine Calls.mono (bt4 _ _ _ (hgc _ xq)) ?_);rintro e wH0 ⟨ao,c,rfl,hO,hX0⟩;have hH0:=Ext.trans (a:=wc) xq hX0)) | (go_at_call 49;((with_reducible refine Calls.mono (E4 _ _ _ _ _ (hgc _ xq) Hgr ha hb') ?_);rintro e wH1 ⟨rfl,hX1⟩;have hH1:=Ext.trans (a:=wc) xq hX1)))) | (fail "the region with a result"));go_wp2_with fail;have hr:=hRc.ext hH1;unfold Res at hr;have hv:=(hO.ext hX1).mono (show Ext wc _ by repeat (first | assumption | exact Ext.refl _ | (apply And.left;assumption) | apply Ext.drew | apply Ext.alloc));exact bodyPost_ret (v:=.tuple #[CV 1 (.slice ao l.length c) (.slice none 0 0) (a:Int) (b:Int) (j3 l a b:Int) (kpH l a b:Int) (.slice none 0 0) (.slice none 0 0) 0,.bool true]) (by simp[results,Tryz.results12,go_sem,hr,CV]) rfl ⟨_,_,_,_,by rw[Hs.out.1,Hs.out.2.1,Hs.out.2.2.1,Hs.out.2.2.2.1,Hs.out.2.2.2.2.1],by rw[Hs.out.2.2.2.2.2];exact⟨(show Own 3 wc _ _ _ by (repeat (refine Own.setCell_below ?_ hwc _));exact hv).mono (hE0.trans hAc),Own.nil _ _ _,Own.nil _ _ _,Own.nil _ _ _,p6.nil_right _,p6.nil_right _,p6.nil_right _,p6.nil_left _,p6.nil_left _,p6.nil_left _⟩,hE0.trans (by (repeat (refine Ext.setCell ?_ (Nat.le_refl _) _));exact hAc.trans hH1)⟩
end Go.Zz
