/- The drawing of arguments: a cursor on bytes, what it leaves, numbers below a bound. -/
import Derived.Test.YtnnbhcalddkmmaaGreatGr9
import Derived.Test.YtnnbhcalddkmmaaGreatGr6
import Derived.Deep.RegionHeld3
import Derived.Test.YtnnbhcalddkmmaaGreatGr4
import Derived.Test.YtnnbhcalddkmmaaGreatGr5
import Derived.Test.YtnnbhcalddkmmaaGreatGr16
import Derived.Test.YtnnbhcalddkmmaaGreatGr17
import Derived.Test.YtnnbhcalddkmmaaGreatGr12
import Derived.Test.YtnnbhcalddkmmaaGreatGr7
import Derived.Test.YtnnbhcalddkmmaaGreatGr27
set_option linter.unusedSimpArgs false
set_option linter.unusedVariables false
set_option linter.unnecessarySimpa false
namespace Go.Zz
open Go.RowKit Go.Proofs
set_option maxHeartbeats 2000000
set_option maxRecDepth 8000
def b95(w:World)(v:Value)(l:List Int):Prop :=
 ∃(ao:Option Addr) (c:Nat),v=.slice ao l.length c∧l.length≤140737488355328∧(∀i,0≤nth l i∧nth l i≤255) ∧
  ∀i,i<l.length→∃a,ao=some a∧w.cell? (a.add i)=some (.int .u8 (nth l i))
theorem b95.ext{w w':World}{v:Value}{l:List Int}(h:b95 w v l)(hE:Ext w w'):b95 w' v l:=by
 obtain⟨ao,c,rfl,h1,h2,h3⟩:=h;refine⟨ao,c,rfl,h1,h2,fun i hi=>?_⟩;obtain⟨a,rfl,hc⟩:=h3 i hi;exact⟨a,rfl,hE.cell hc⟩
theorem b95.op{w:World}{v:Value}{l:List Int}(h:b95 w v l) :
 ∃(ao:Option Addr) (c:Nat) (adr:Nat→Addr),v=.slice ao l.length c∧l.length≤140737488355328∧(∀i,0≤nth l i∧nth l i≤255) ∧
  (∀i,i<l.length→ao=some (adr 0)∧adr i=(adr 0).add i) ∧
  (∀i W,i<l.length→Ext w W→W.cell? (adr i)=some (.int .u8 (nth l i))):=by
 obtain⟨ao,c,rfl,h1,h2,h3⟩:=h
 refine⟨ao,c,fun i=>(ao.getD default).add i,rfl,by omega,h2,fun i hi=>?_,fun i W hi hW=>?_⟩
 · obtain⟨a,rfl,hc⟩:=h3 i hi
   exact⟨by simp[Addr.add],by simp[Addr.add]⟩
 · obtain⟨a,rfl,hc⟩:=h3 i hi
   exact hW.cell (by simpa using hc)
theorem elY:Tryz.prog.underlying 22=some (.slice (Tryz.prog.elem 22)):=by kernel_rfl
theorem szY:∀w,(Go.sizeOf (Tryz.prog.elem 22)).run Tryz.prog w=.ok 1 w:=fun w=>by kernel_rfl
def Cur(w0 w:World)(p:Nat):Prop :=
 ∃(ao:Option Addr) (l:List Int) (c:Nat) (i:Nat) (h:Int),Blk w p 117 #[.slice ao l.length c,.int .i64 i,.int .i64 h]∧i≤l.length∧w0.heap.size≤p∧b95 w0 (.slice ao l.length c) l∧Ext w0 w
theorem Cur.lt{w0 w:World}{p:Nat}(h:Cur w0 w p):w0.heap.size≤p∧p<w.heap.size:=by
 obtain⟨_,_,_,_,_,h1,_,h2,_⟩:=h;exact⟨h2,h1.lt⟩
theorem Cur.ext{w0 w w':World}{p:Nat}(h:Cur w0 w p)(hE:Ext w w'):Cur w0 w' p:=by
 obtain⟨ao,l,c,i,n,h1,h2,h3,h4,h5⟩:=h;exact⟨ao,l,c,i,n,h1.ext hE,h2,h3,h4,h5.trans hE⟩
theorem Cur.other{w0 w:World}{p:Nat}(h:Cur w0 w p){b i:Nat}(h1:p≠b)(h2:w0.heap.size≤b)(v:Value):Cur w0 (w.setCell ⟨b,i,none⟩ v) p:=by
 obtain⟨ao,l,c,k,n,g1,g2,g3,g4,g5⟩:=h;exact⟨ao,l,c,k,n,g1.other h1 v,g2,g3,g4,g5.setCell h2 v⟩
def Drw(p:Nat)(w w':World):Prop:=Fr p none w w'
theorem Drw.blk{p:Nat}{w w':World}(h:Drw p w w'){c:Nat}{T:TypeId}{cs:Array Value}(hB:Blk w c T cs)(hc:c≠p):Blk w' c T cs:=Fr.blk h hB hc (by simp)
theorem Drw.own{p:Nat}{w w':World}(h:Drw p w w'){TI:TypeId}{w0:World}{v:Value}{l:List Int}(hO:Own TI w0 w v l)(hp:p<w0.heap.size):Own TI w0 w' v l:=by
 refine Fr.own h hO (dh2 hO hp) ?_;cases hv:v.ownBlock<;>simp
theorem Drw.trans{p:Nat}{w w1 w2:World}(h:Drw p w w1)(k:Drw p w1 w2):Drw p w w2:=Fr.trans h (Nw.refl _ _) k
theorem Drw.alloc{p:Nat}{w w':World}(h:Drw p w w')(o:Obj):Drw p w (w'.alloc o):=Fr.trans h (Nw.refl _ _) (((Ext.refl w').alloc o).fr p none)
theorem Cur.alloc{w0 w:World}{p:Nat}(h:Cur w0 w p)(o:Obj):Cur w0 (w.alloc o) p:=h.ext ((Ext.refl w).alloc o)
theorem Drw.set{p:Nat}{w w':World}(h:Drw p w w'){b:Nat}(hb:w.heap.size≤b)(i:Nat)(v:Value):Drw p w (w'.setCell ⟨b,i,none⟩ v) :=
 ⟨h.os,h.tape,h.output,by simpa using h.size,fun k hk h1 h2=>by rw[Below.heap_setCell _ _ _ _ (by show k≠b;omega)];exact Fr.block h k hk h1 h2⟩
theorem Drw.refl(p:Nat)(w:World):Drw p w w:=Fr.refl _ _ _
theorem Drw.size{p:Nat}{w w':World}(h:Drw p w w'):w.heap.size≤w'.heap.size:=Fr.size h
def j62(x y:Int):Int:=bits .xor .i64 x y
@[go_sem high] theorem intBits_xor_i (x y:Int):Op.intBits .xor .i64 x y=pure (.int .i64 (j62 x y)):=rfl
end Go.Zz
namespace Go.Zz
open Go.RowKit Go.Proofs
set_option maxHeartbeats 2000000
set_option maxRecDepth 8000
theorem dt6(v:Value)(l:List Int)(w:World)(h:b95 w v l) :
 Calls Tryz.prog 7 #[v] w fun e w'=>∃b,e=.returned (.bool b)∧Ext w w':=by
 obtain⟨ao,c,rfl,-⟩:=h;go_enter Tryz.func7,Tryz.ntmps7;go_wp2_with fail;go_ret;exact⟨_,rfl,Ext.refl _⟩
end Go.Zz
namespace Go.Zz
end Go.Zz
namespace Go.Zz
open Go.RowKit Go.Proofs
set_option maxHeartbeats 2000000
set_option maxRecDepth 8000
def fuF(l:List Int):Int:=if c9 l then (j4 l:Int) else 0
theorem cx0(v:Value)(l:List Int)(w:World)(h:c8 w v l) :
 Calls Tryz.prog 10 #[.agg #[v]] w fun e w'=>e=.returned (.int .i64 (fuF l))∧Ext w w':=by
 obtain⟨wb,Hwb,hE0,hb,hg,hE,Hsz⟩:=j60 28 h;clear h;have hbx:=hb wb hE;cases hgr:c9 l
 · have Hs:Hid (fuF l=0):=Lib.hid (by unfold fuF;rw[hgr];rfl);go_enter Tryz.func10,Tryz.ntmps10;go_wp2_with fail;rw[←Hwb.out];go_wp2_with (first | (go_at_call 42;refine cx (q9 _ _ _ (hg _ hE)) hE ?_;clear hE;intro w' hE));go_ret;exact⟨m8 Hs.out.symm,hE0.trans hE⟩
 · have Hs:Hid (fuF l=(j4 l:Int)):=Lib.hid (by unfold fuF;rw[hgr];rfl);have Hgr:=Lib.hid hgr;have hob:=l8 hgr;have hP1:=R5 (ord l);have hP2:=b04 hob.2;have hq:=p0 (n:=ord l) (by omega);have hw:IntKind.i64.wrap (((pw (ord l):Nat):Int) - 1)=(j4 l:Int):=by
    have e:((pw (ord l):Nat):Int) - 1=(j4 l:Int):=(by unfold j4;omega);rw[e];exact IntWalk.i64_in _ (by unfold j4;omega)
   go_enter Tryz.func10,Tryz.ntmps10;go_wp2_with fail;rw[←Hwb.out];go_wp2_with (first | (go_at_call 42;refine cx (q9 _ _ _ (hg _ hE)) hE ?_;clear hE;intro w' hE) | (go_at_call 43;refine cx (m4 _ _ _ (hg _ hE) (Hgr)) hE ?_;clear hE;intro w' hE));go_ret;exact⟨m8 (by rw[Hs.out]),hE0.trans hE⟩
def atF(l:List Int)(i:Nat):Int:=if i<l.length then nth l i else ((i:Int)*37+(l.length:Int)*11) % 256
theorem co4(v:Value)(l:List Int)(i:Nat)(hi:i<1000)(w:World)(h:b95 w v l) :
 Calls Tryz.prog 8 #[v,.int .i64 i] w fun e w'=>e=.returned (.int .i64 (atF l i))∧Ext w w':=by
 obtain⟨ao,c,adr,rfl,hl,hb,hadr,hcell⟩:=h.op;have hix:=j6 (c:=c) elY szY hadr i;by_cases hlt:i<l.length
 · have hltI:(i:Int)<(l.length:Int):=(by omega);have hck:=hcell i w hlt (Ext.refl _);have hbi:=hb i;have Ha:Hid (atF l i=nth l i):=Lib.hid (by unfold atF;rw[if_pos hlt]);clear hadr hcell;go_enter Tryz.func8,Tryz.ntmps8;go_wp2_with fail;go_ret;exact⟨m8 Ha.out.symm,Ext.refl _⟩
 · have hltI:¬(i:Int)<(l.length:Int):=(by omega);have Ha:Hid (atF l i=((i:Int)*37+(l.length:Int)*11) % 256):=Lib.hid (by unfold atF;rw[if_neg hlt]);clear hadr hcell;go_enter Tryz.func8,Tryz.ntmps8;go_wp2_with fail;go_ret;exact⟨m8 Ha.out.symm,Ext.refl _⟩
theorem bh3{w:World}{v:Value}{l:List Int}(h:b95 w v l)(i:Nat):0≤atF l i∧atF l i<256:=by
 obtain⟨_,_,_,_,hb,_⟩:=h;unfold atF;split
 · have:=hb i;omega
 · exact⟨Int.emod_nonneg _ (by omega),Int.emod_lt_of_pos _ (by omega)⟩
end Go.Zz
namespace Go.Zz
open Go.RowKit Go.Proofs
set_option maxHeartbeats 1000000
set_option maxRecDepth 4000
theorem df3(w:World)(g:Nat)(u:Value):w.grownBy (w.setCell ⟨g,0,none⟩ u) (some g) :=
 ⟨rfl,rfl,rfl,by simp,fun k _ hb=>Below.heap_setCell _ _ _ _ (fun e=>hb (by rw[e]))⟩
theorem J0.setG{w0 w:World}{v:Value}{L:List ByteArray}{g:Nat}{cs:Array Value}(h:J0 w0 w v L)(hB:Blk w g 28 cs)(u:Value):J0 w0 (w.setCell ⟨g,0,none⟩ u) v L:=by
 refine⟨h.1.kept (df3 w g u) ?_,h.2⟩;cases hv:v.ownBlock with
 | none=>simp
 | some k =>
  simp;intro e;subst e;obtain⟨⟨-,h2⟩,-⟩:=h;rcases h2 with ⟨rfl,-⟩ | ⟨g',cap,cur,rfl,-,hh,-⟩
  · cases hv
  · cases hv;unfold Blk at hB;rw[hB] at hh;simp at hh
theorem dp1(w0 w:World):Own 3 w0 w (.slice none 0 0) []:=⟨World.ownsRow_nil _ _ _ _,by simp⟩
structure PGb(w wr:World)(r g:Nat)(ov:Value)(P:List Int):Prop where
 hO:Own 3 w wr ov P
 hR:Blk wr r 28 #[.slice none 0 0]
 hG:Blk wr g 28 #[ov]
 hE:Ext w wr
theorem PGb.ext{w wr wr':World}{r g:Nat}{ov:Value}{P:List Int}(h:PGb w wr r g ov P)(hE:Ext wr wr'):PGb w wr' r g ov P:=⟨h.hO.ext hE,h.hR.ext hE,h.hG.ext hE,h.hE.trans hE⟩
theorem PGb.app{w wr wr':World}{r g:Nat}{ov ov':Value}{P P':List Int}(h:PGb w wr r g ov P)(hO:Own 3 w wr' ov' P')(hG:wr.grownBy wr' ov.ownBlock)(hr:r≠g)(hg:w.heap.size≤g) :
 Blk wr' g 28 #[ov]∧PGb w (wr'.setCell ⟨g,0,none⟩ ov') r g ov' P':=by
 have hG':=h.hG.grown hG (fun k hk e=>h.hO.ne_blk h.hG (by decide) (by rw[hk,e]));have hR':=h.hR.grown hG (fun k hk e=>h.hO.ne_blk h.hR (by decide) (by rw[hk,e]));exact⟨hG',hO.setCell_ne (p:=⟨g,0,none⟩) (hO.ne_blk hG' (by decide)) _,hR'.other (p:=⟨g,0,none⟩) hr _,hG'.set 0 _,(h.hE.grown hG (fun k hk=>(h.hO.blk k hk).1)).setCell (p:=⟨g,0,none⟩) hg _⟩
theorem PGb.fin{w wr:World}{r g:Nat}{ov:Value}{P:List Int}(h:PGb w wr r g ov P)(hr:w.heap.size≤r)(u:Value) :
 (wr.setCell ⟨r,0,none⟩ u).cell? ⟨r,0,none⟩=some u∧Ext w (wr.setCell ⟨r,0,none⟩ u)∧Own 3 w (wr.setCell ⟨r,0,none⟩ u) ov P :=
 ⟨(h.hR.set 0 u).cell (i:=0) rfl,h.hE.setCell (p:=⟨r,0,none⟩) hr _,h.hO.setCell_ne (p:=⟨r,0,none⟩) (h.hO.ne_blk h.hR (by decide)) _⟩
theorem cv7(w:World):∃wa,Hid (wa=(w.alloc (.cells #[.slice none 0 0] 28)).alloc (.cells #[.slice none 0 0] 28))∧PGb w wa w.heap.size (w.heap.size+1) (.slice none 0 0) []:=by
 have hE1:=(Ext.refl w).alloc (.cells #[.slice none 0 0] 28);have hE2:=hE1.alloc (.cells #[.slice none 0 0] 28);refine⟨_,Lib.hid rfl,dp1 _ _,(Blk.new w _ _).alloc _,?_,hE2⟩;have hB:=Blk.new (w.alloc (.cells #[.slice none 0 0] 28)) 28 #[.slice none 0 0];have e:(w.alloc (.cells #[.slice none 0 0] 28)).heap.size=w.heap.size+1:=by simp
 rw[e] at hB;exact hB
theorem N1(s:ByteArray)(w:World)(hs:s.size≤100000) :
 Calls Tryz.prog 170 #[.string s] w fun e w'=>∃v,e=.returned (.tuple #[.agg #[v],.bool (pgB s)])∧c8 w' v (pgV s)∧Ext w w':=by
 obtain⟨wa,Hwa,hI⟩:=cv7 w;have hrg:w.heap.size≠w.heap.size+1:=by omega
 have z1:=hI.hG.cell (i:=0) (v:=.slice none 0 0) rfl;have f1:=hI.hG.free 0;have zr:=hI.hR.cell (i:=0) (v:=.slice none 0 0) rfl;have fr:=hI.hR.free 0;by_cases hn:s=Q5
 · have Hv:=Lib.hid (dh4 hn);have hq:=bi6 s Q5 (decide_eq_true hn);change (s.toList == [49])=true at hq;have hmt:s.toList.isEmpty=false:=b03 (by rw[hn];decide);have cF:=j7 _ _ wa (hI.hO.ints);have hz:fgF []=Q5:=(by decide);rw[hz] at cF;have hqs:=(U6 (x:=Q5) (y:=s)).trans (decide_eq_true hn.symm);clear hn hz;rw[Hwa.out] at z1 f1 zr fr;go_enter Tryz.func170,Tryz.ntmps170;go_wp2_with (go_at_call 97;rw[←Hwa.out];refine cF.mono ?_;rintro e w2 ⟨rfl,hE2⟩;have hI2:=hI.ext hE2;have z2:=hI2.hG.cell (i:=0) (v:=.slice none 0 0) rfl;have zr2:=hI2.hR.cell (i:=0) (v:=.slice none 0 0) rfl;have fr2:=hI2.hR.free 0;have hF:=hI2.fin (Nat.le_refl _) (.slice none 0 0);have q0:=hF.1);exact bodyPost_ret (v:=.tuple #[.agg #[.slice none 0 0],.bool true]) (by simp[results,Tryz.results170,go_sem,q0]) rfl ⟨_,by rw[Hv.out.1],by rw[Hv.out.2];exact c8.nil _,hF.2.1⟩
 · have hq:=bi6 s Q5 (decide_eq_false hn);change (s.toList == [49])=false at hq;obtain⟨hs1,hs2,hs3⟩:=bd6 120 s;have Hmt:=Lib.hid (fun h=>da3 (s:=s) h);have Hno:=Lib.hid (fun h=>cm3 (s:=s) hn h);have Hyes:=Lib.hid (fun h2 h=>cv8 (s:=s) hn h2 h);have hcut:=bh7 s 120 wa hs;clear hn;rw[Hwa.out] at z1 f1 zr fr;go_enter Tryz.func170,Tryz.ntmps170;go_wp2_with (go_at_call 53;rw[←Hwa.out];refine hcut.mono ?_;rintro e w1 ⟨v1,rfl,hL,hE1⟩;obtain⟨g,c,rfl,-,hix⟩:=hL.indexS (by omega));have hI1:=hI.ext hE1;have Hpar:=Lib.hid hs1;obtain⟨L,hLd⟩:∃L,L=B7 120 s:=⟨_,rfl⟩;rw[←hLd] at hs2 hs3 hL hix Hno Hyes Hpar ⊢;obtain⟨M,hM⟩:∃M,M=L.length:=⟨_,rfl⟩;rw[←hM] at hs2 hs3 hL hix ⊢;have HM:=Lib.hid hM;clear hcut hs1 hM hLd hI hE1 z1 f1 zr fr;go_loopw [15] (fun iv wr=>∃(k:Nat) (ao:Option Addr) (c1 n:Nat),k≤M∧iv=.int .i64 k∧n=(pIs (L.take k)).length∧PGb w wr w.heap.size (w.heap.size+1) (.slice ao n c1) (pIs (L.take k))∧J0 wa wr (.slice (some ⟨g,0,none⟩) M c) L) (fun iv _=>M - (intOf iv).toNat);(case atStart=>exact⟨0,none,0,0,by omega,rfl,rfl,hI1,hL⟩);case round =>
    clear hI1 hL;obtain⟨k,ao,c1,n,hk,rfl,hn0,hI,hL⟩:=hrel;have Hn0:=Lib.hid hn0;clear hn0;have z1:=hI.hG.cell (i:=0) (v:=.slice ao n c1) rfl;by_cases hlt:k<M
    · obtain⟨ao',c',hvs,-,hcc⟩:=hL.strs;obtain⟨g',e1,hck⟩:=hcc k (by rw[←HM.out];exact hlt);injection hvs with q1 q2 q3;rw[e1] at q1;simp only[Option.some.injEq,Addr.mk.injEq,and_true] at q1;rw[←q1] at hck;clear hcc e1 q1 q2 q3;have hsz:(m6 L k).size≤100000:=(by have:=Hpar.out _ (N4 (L:=L) (i:=k) (by rw[←HM.out];exact hlt));omega);have hcP:=fun W=>bq8 (m6 L k) W hsz;have Htk:=Lib.hid (dp3 L k (by rw[←HM.out];exact hlt));obtain⟨x,hx⟩:∃x,x=m6 L k:=⟨_,rfl⟩;rw[←hx] at hck hcP Htk;clear hx hsz;obtain⟨y,hy⟩:∃y,y=(pI x).1:=⟨_,rfl⟩;obtain⟨yb,hyb⟩:∃y,y=(pI x).2:=⟨_,rfl⟩;rw[←hy] at hcP Htk;rw[←hyb] at hcP;clear hy hyb;have hlk:(pIs (L.take k)).length<17592186044416:=(by unfold pIs;rw[List.length_map,List.length_take];omega);obtain⟨P,hP⟩:∃P,P=pIs (L.take k):=⟨_,rfl⟩;rw[←hP] at hlk hI Hn0 Htk;clear hP;go_wp2_with (first | (go_at_call 267;refine (hcP _).mono ?_;rintro e w2 ⟨rfl,hE2⟩;have hI2:=hI.ext hE2;have hL2:=hL.ext hE2;have z2:=hI2.hG.cell (i:=0) (v:=.slice ao n c1) rfl) | (at_builtin;refine bg8 slI rfl _ _ rfl w _ _ _ _ hI2.hO hI2.hE hlk rfl rfl ?_;intro v3 w3 hO3 hG3 hN3;have hL3:=hL2.grownI hI2.hO hG3;obtain⟨X,hX⟩:∃X,X=P++[y]:=⟨_,rfl⟩;rw[←hX] at hO3;have HX:=Lib.hid hX;clear hX;obtain⟨a3,c3,rfl,-⟩:=hO3.shape;obtain⟨hB3,hI3⟩:=hI2.app hO3 hG3 hrg (by omega);have z3:=hB3.cell (i:=0) (v:=.slice ao n c1) rfl;have f3:=hB3.free 0;have hL4:=hL3.setG hB3 (.slice a3 X.length c3)));go_roundw;(case rel=>exact⟨k+1,a3,c3,_,by omega,by go_num,by rw[Htk.out,←HX.out],by rw[Htk.out,←HX.out];exact hI3,hL4⟩);case measure=>(simp[intOf];omega)
    · have hkl:k=M:=(by omega);subst hkl;have Ht:Hid (pIs (L.take k)=pIs L):=Lib.hid (by rw[HM.out,List.take_length]);have hI':PGb w wr w.heap.size (w.heap.size+1) (.slice ao n c1) (pIs L):=(by rw[←Ht.out];exact hI);have zr:=hI'.hR.cell (i:=0) (v:=.slice none 0 0) rfl;have fr:=hI'.hR.free 0;have cF:=j7 _ _ _ (hI'.hO.ints);obtain⟨u,hu⟩:∃u,u=fgF (pIs L):=⟨_,rfl⟩;rw[←hu] at cF Hno Hyes;have hqs:=U6 (x:=u) (y:=s);have hF0:=hI'.fin (Nat.le_refl _) (.slice none 0 0);have q0:=hF0.1;clear hI hu;by_cases hsm:s=mtB
      · have Hz:=Lib.hid (Hmt.out hsm);have hse:s.toList.isEmpty=true:=(by rw[hsm,ByteArray.toList_eq];rfl);clear hsm;go_wp2_with fail;exact bodyPost_ret (v:=.tuple #[.agg #[.slice none 0 0],.bool false]) (by simp[results,Tryz.results170,go_sem,q0]) rfl ⟨_,by rw[Hz.out.1],by rw[Hz.out.2];exact c8.nil _,hF0.2.1⟩
      · have hse:=b03 hsm;by_cases hus:u=s
        · rw[decide_eq_true hus] at hqs;have Hz:=Lib.hid (Hyes.out hsm hus);clear hus hsm q0 hF0;go_wp2_with (go_at_call 97;refine cF.mono ?_;rintro e w2 ⟨rfl,hE2⟩;have hI2:=hI'.ext hE2;have z2:=hI2.hG.cell (i:=0) (v:=.slice ao n c1) rfl;have zr2:=hI2.hR.cell (i:=0) (v:=.slice none 0 0) rfl;have fr2:=hI2.hR.free 0;have hF:=hI2.fin (Nat.le_refl _) (.slice ao n c1);have q0:=hF.1);exact bodyPost_ret (v:=.tuple #[.agg #[.slice ao n c1],.bool true]) (by simp[results,Tryz.results170,go_sem,q0]) rfl ⟨_,by rw[Hz.out.1],by rw[Hz.out.2];exact hF.2.2.ints,hF.2.1⟩
        · rw[decide_eq_false hus] at hqs;have Hz:=Lib.hid (Hno.out hus);clear hus hsm q0 hF0;go_wp2_with (go_at_call 97;refine cF.mono ?_;rintro e w2 ⟨rfl,hE2⟩;have hI2:=hI'.ext hE2;have zr2:=hI2.hR.cell (i:=0) (v:=.slice none 0 0) rfl;have fr2:=hI2.hR.free 0;have hF:=hI2.fin (Nat.le_refl _) (.slice none 0 0);have q0:=hF.1);exact bodyPost_ret (v:=.tuple #[.agg #[.slice none 0 0],.bool false]) (by simp[results,Tryz.results170,go_sem,q0]) rfl ⟨_,by rw[Hz.out.1],by rw[Hz.out.2];exact c8.nil _,hF.2.1⟩
end Go.Zz
namespace Go.Zz
open Go.RowKit Go.Proofs
set_option maxHeartbeats 1000000
set_option maxRecDepth 4000
theorem dp2(D:List ByteArray)(p:ByteArray):pIs (D++[p])=pIs D++[(pI p).1]:=by unfold pIs;rw[List.map_append];rfl
theorem dw9{s:ByteArray}(h2:¬s=Q5){D R:List ByteArray}{p:ByteArray}(hD:B7 120 s=D++p :: R)(h:(pI p).2=false):pgB s=false∧pgV s=[]:=by
 have hk:D.length<(B7 120 s).length:=by rw[hD];simp
 refine j18 h2 hk ?_;have e:m6 (B7 120 s) D.length=p:=by rw[hD];simp[m6,List.getD]
 rw[e];exact h
theorem c94(s:ByteArray)(w:World)(hs:s.size≤100000) :
 Calls Tryz.prog 9 #[.string s] w fun e w'=>∃v,e=.returned (.tuple #[.agg #[v],.bool (pgB s)])∧c8 w' v (pgV s)∧Ext w w':=by
 obtain⟨wa,Hwa,hI⟩:=cv7 w;have hrg:w.heap.size≠w.heap.size+1:=by omega
 have z1:=hI.hG.cell (i:=0) (v:=.slice none 0 0) rfl;have f1:=hI.hG.free 0;have zr:=hI.hR.cell (i:=0) (v:=.slice none 0 0) rfl;have fr:=hI.hR.free 0;have hF0:=hI.fin (Nat.le_refl _) (.slice none 0 0);by_cases hn:s=Q5
 · have Hv:=Lib.hid (dh4 hn);have hq:=bi6 s Q5 (decide_eq_true hn);change (s.toList == [49])=true at hq;clear hn;rw[Hwa.out] at z1 f1 zr fr;go_enter Tryz.func9,Tryz.ntmps9;go_wp2_with fail;rw[←Hwa.out] at zr ⊢;exact bodyPost_ret (v:=.tuple #[.agg #[.slice none 0 0],.bool true]) (by simp[results,Tryz.results9,go_sem,zr]) rfl ⟨_,by rw[Hv.out.1],by rw[Hv.out.2];exact c8.nil _,hI.hE⟩
 · have hq:=bi6 s Q5 (decide_eq_false hn);change (s.toList == [49])=false at hq;by_cases h10:10<s.size
   · have Hz:=Lib.hid (dx0 h10);have h10i:¬(s.size:Int)≤10:=(by omega);have hmt:s.toList.isEmpty=false:=b03 (fun e=>by rw[e] at h10;exact absurd h10 (by decide));have cF:=m5 _ _ wa (hI.hO.ints);have hz:fgF []=Q5:=(by decide);rw[hz] at cF;have hqs:=(U6 (x:=Q5) (y:=s)).trans (decide_eq_false (fun e=>hn e.symm));clear hn h10 hz hF0;rw[Hwa.out] at z1 f1 zr fr;go_enter Tryz.func9,Tryz.ntmps9;go_wp2_with fail;rw[←Hwa.out];rw[←Hwa.out] at z1 f1 zr fr;go_loopw [5,6] (fun pv iv wr=>pv=.string mtB∧iv=.int .i64 0∧wr=wa) (fun _ _ _=>0);(case atStart=>exact⟨rfl,rfl,rfl⟩);case round =>
      obtain⟨rfl,rfl,rfl⟩:=hrel;go_wp2_with (go_at_call 41;refine cF.mono ?_;rintro e w2 ⟨rfl,hE2⟩;have hI2:=hI.ext hE2;have zr2:=hI2.hR.cell (i:=0) (v:=.slice none 0 0) rfl;have fr2:=hI2.hR.free 0;have hF:=hI2.fin (Nat.le_refl _) (.slice none 0 0);have q0:=hF.1);exact bodyPost_ret (v:=.tuple #[.agg #[.slice none 0 0],.bool false]) (by simp[results,Tryz.results9,go_sem,q0]) rfl ⟨_,by rw[Hz.out.1],by rw[Hz.out.2];exact c8.nil _,hF.2.1⟩
   · have h10i:(s.size:Int)≤10:=(by omega);have Hmt:=Lib.hid (fun h=>da3 (s:=s) h);have Hno:=Lib.hid (fun h=>cm3 (s:=s) hn h);have Hyes:=Lib.hid (fun h2 h=>cv8 (s:=s) hn h2 h);have Hbad:=Lib.hid (fun D R p (hD:B7 120 s=D++p :: R) h=>dw9 (s:=s) hn hD h);obtain⟨L,hLd⟩:∃L,L=B7 120 s:=⟨_,rfl⟩;rw[←hLd] at Hno Hyes Hbad;have HL:=Lib.hid hLd;have hll:L.length≤11:=(by rw[hLd];have:=(bd6 120 s).2.1;omega);clear hn hLd hF0;rw[Hwa.out] at z1 f1 zr fr;go_enter Tryz.func9,Tryz.ntmps9;go_wp2_with fail;rw[←Hwa.out];clear z1 f1 zr fr;go_loopw [5,6] (fun pv iv wr=>∃(k:Nat) (p:ByteArray) (D:List ByteArray) (ao:Option Addr) (c1 n:Nat),pv=.string p∧iv=.int .i64 k∧p.size≤s.size∧p.size≤k∧D.length≤L.length∧n=(pIs D).length∧PGb w wr w.heap.size (w.heap.size+1) (.slice ao n c1) (pIs D)∧Hid ((k≤s.size∧L=D++V9 120 s k p)∨(k=s.size+1∧L=D))) (fun _ iv _=>s.size+1 - (intOf iv).toNat);(case atStart=>exact⟨0,_,[],none,0,0,rfl,rfl,Nat.zero_le _,Nat.zero_le _,Nat.zero_le _,rfl,hI,Lib.hid (Or.inl ⟨Nat.zero_le _,HL.out⟩)⟩);case round =>
      clear hI;obtain⟨k,p,D,ao,c1,n,rfl,rfl,hps,hpk,hDl,hn0,hI,H⟩:=hrel;have Hn0:=Lib.hid hn0;clear hn0;have z1:=hI.hG.cell (i:=0) (v:=.slice ao n c1) rfl;by_cases hk:k≤s.size
      · have hki:(k:Int)≤s.size:=(by omega);have Hc:Hid (L=D++V9 120 s k p):=Lib.hid (by rcases H.out with q | q;exact q.2;exact absurd q.1 (by omega));clear H;by_cases hA:k<s.size∧¬(bt s k:Int)=120
        · obtain⟨hlt,hc⟩:=hA;have Hs:Hid (L=D++V9 120 s (k+1) (p++s.extract k (k+1))):=Lib.hid (Hc.out.trans (by rw[br4 120 s k p hlt hc]));obtain⟨b,hb'⟩:∃b,b=bt s k:=⟨_,rfl⟩;have hx:(s[k]'hlt).toNat=b:=(by rw[bd3,hb']);rw[←hb'] at hc;have hcb:((b:Int) != 120)=true:=(by simp;exact hc);have h1:(s.extract k (k+1)).size=1:=(by rw[ByteArray.size_extract];omega);have h2:(p++s.extract k (k+1)).size=p.size+1:=(by rw[ByteArray.size_append,h1]);clear hc hb';go_wp2_with fail;go_roundw;(case rel=>exact⟨k+1,_,D,ao,c1,n,rfl,by go_num,by omega,by omega,hDl,Hn0.out,hI,Lib.hid (Or.inl ⟨by omega,Hs.out⟩)⟩);case measure=>(simp[intOf];omega)
        · have hstep:∃R,L=D++p :: R∧((k+1≤s.size∧L=(D++[p])++V9 120 s (k+1) ⟨#[]⟩)∨(k+1=s.size+1∧L=D++[p])):=by
           by_cases hlt:k<s.size
           · have hc:(bt s k:Int)=120:=Classical.byContradiction fun q=>hA ⟨hlt,q⟩;have e:=Hc.out.trans (by rw[c23 120 s k p hlt hc]);exact⟨_,e,Or.inl ⟨hlt,by rw[List.append_assoc];exact e⟩⟩
           · have e:=Hc.out.trans (by rw[c22 120 s k p (by omega)]);exact⟨[],e,Or.inr ⟨by omega,e⟩⟩
          obtain⟨R,hR1,hR2⟩:=hstep
          have HR1:=Lib.hid hR1
          have HR2:=Lib.hid hR2
          have hDl2:D.length+1≤L.length:=by rw[hR1];simp
          have hpz:p.size≤100000:=by omega
          have hcP:=fun W=>cl7 p W hpz
          have hAA:(∃(hlt:k<s.size),(s[k]'hlt).toNat=120)∨¬(k:Int)<s.size:=by
           by_cases hlt:k<s.size
           · have hc:(bt s k:Int)=120:=Classical.byContradiction fun q=>hA ⟨hlt,q⟩;exact Or.inl ⟨hlt,by rw[bd3];omega⟩
           · exact Or.inr (by omega)
          clear hR1 hR2 hA Hc
          cases hp:(pI p).2
          · rw[hp] at hcP
            have Hz:=Lib.hid (Hbad.out D R p HR1.out hp)
            obtain⟨n',hn'⟩:∃n',n'=(pI p).1:=⟨_,rfl⟩
            rw[←hn'] at hcP
            clear hn' hp
            rcases hAA with ⟨hlt,hx⟩ | hlt
            all_goals (
             go_wp2_with (go_at_call 40;refine (hcP _).mono ?_;rintro e w2 ⟨rfl,hE2⟩;have hI2:=hI.ext hE2;have zr2:=hI2.hR.cell (i:=0) (v:=.slice none 0 0) rfl;have fr2:=hI2.hR.free 0;have hF:=hI2.fin (Nat.le_refl _) (.slice none 0 0);have q0:=hF.1)
             exact bodyPost_ret (v:=.tuple #[.agg #[.slice none 0 0],.bool false]) (by simp[results,Tryz.results9,go_sem,q0]) rfl ⟨_,by rw[Hz.out.1],by rw[Hz.out.2];exact c8.nil _,hF.2.1⟩)
          · rw[hp] at hcP
            have Htk:=Lib.hid (dp2 D p)
            obtain⟨y,hy⟩:∃y,y=(pI p).1:=⟨_,rfl⟩
            rw[←hy] at hcP Htk
            have hlk:(pIs D).length<17592186044416:=by unfold pIs;rw[List.length_map];omega
            obtain⟨P,hP⟩:∃P,P=pIs D:=⟨_,rfl⟩
            rw[←hP] at hlk hI Hn0 Htk
            clear hP hy hp
            rcases hAA with ⟨hlt,hx⟩ | hlt
            all_goals (
             go_wp2_with (first | (go_at_call 40;refine (hcP _).mono ?_;rintro e w2 ⟨rfl,hE2⟩;have hI2:=hI.ext hE2;have z2:=hI2.hG.cell (i:=0) (v:=.slice ao n c1) rfl) | (at_builtin;refine bg8 slI rfl _ _ rfl w _ _ _ _ hI2.hO hI2.hE hlk rfl rfl ?_;intro v3 w3 hO3 hG3 hN3;obtain⟨X,hX⟩:∃X,X=P++[y]:=⟨_,rfl⟩;rw[←hX] at hO3;have HX:=Lib.hid hX;clear hX;obtain⟨a3,c3,rfl,-⟩:=hO3.shape;obtain⟨hB3,hI3⟩:=hI2.app hO3 hG3 hrg (by omega);have z3:=hB3.cell (i:=0) (v:=.slice ao n c1) rfl;have f3:=hB3.free 0))
             go_roundw
             case rel=>exact⟨k+1,_,D++[p],a3,c3,_,rfl,by go_num,Nat.zero_le _,Nat.zero_le _,by simp;omega,by rw[Htk.out,←HX.out],by rw[Htk.out,←HX.out];exact hI3,HR2⟩
             case measure=>(simp[intOf];omega))
      · have hki:¬(k:Int)≤s.size:=(by omega);have Ht:Hid (D=L):=Lib.hid (by rcases H.out with q | q;exact absurd q.1 hk;exact q.2.symm);have hI':PGb w wr w.heap.size (w.heap.size+1) (.slice ao n c1) (pIs L):=(by rw[←Ht.out];exact hI);have zr:=hI'.hR.cell (i:=0) (v:=.slice none 0 0) rfl;have fr:=hI'.hR.free 0;have cF:=m5 _ _ _ (hI'.hO.ints);obtain⟨u,hu⟩:∃u,u=fgF (pIs L):=⟨_,rfl⟩;rw[←hu] at cF Hno Hyes;have hqs:=U6 (x:=u) (y:=s);have hF0:=hI'.fin (Nat.le_refl _) (.slice none 0 0);have q0:=hF0.1;clear hI hu;by_cases hsm:s=mtB
        · have Hz:=Lib.hid (Hmt.out hsm);have hse:s.toList.isEmpty=true:=(by rw[hsm,ByteArray.toList_eq];rfl);clear hsm;go_wp2_with fail;exact bodyPost_ret (v:=.tuple #[.agg #[.slice none 0 0],.bool false]) (by simp[results,Tryz.results9,go_sem,q0]) rfl ⟨_,by rw[Hz.out.1],by rw[Hz.out.2];exact c8.nil _,hF0.2.1⟩
        · have hse:=b03 hsm;by_cases hus:u=s
          · rw[decide_eq_true hus] at hqs;have Hz:=Lib.hid (Hyes.out hsm hus);clear hus hsm q0 hF0;go_wp2_with (go_at_call 41;refine cF.mono ?_;rintro e w2 ⟨rfl,hE2⟩;have hI2:=hI'.ext hE2;have z2:=hI2.hG.cell (i:=0) (v:=.slice ao n c1) rfl;have zr2:=hI2.hR.cell (i:=0) (v:=.slice none 0 0) rfl;have fr2:=hI2.hR.free 0;have hF:=hI2.fin (Nat.le_refl _) (.slice ao n c1);have q0:=hF.1);exact bodyPost_ret (v:=.tuple #[.agg #[.slice ao n c1],.bool true]) (by simp[results,Tryz.results9,go_sem,q0]) rfl ⟨_,by rw[Hz.out.1],by rw[Hz.out.2];exact hF.2.2.ints,hF.2.1⟩
          · rw[decide_eq_false hus] at hqs;have Hz:=Lib.hid (Hno.out hus);clear hus hsm q0 hF0;go_wp2_with (go_at_call 41;refine cF.mono ?_;rintro e w2 ⟨rfl,hE2⟩;have hI2:=hI'.ext hE2;have zr2:=hI2.hR.cell (i:=0) (v:=.slice none 0 0) rfl;have fr2:=hI2.hR.free 0;have hF:=hI2.fin (Nat.le_refl _) (.slice none 0 0);have q0:=hF.1);exact bodyPost_ret (v:=.tuple #[.agg #[.slice none 0 0],.bool false]) (by simp[results,Tryz.results9,go_sem,q0]) rfl ⟨_,by rw[Hz.out.1],by rw[Hz.out.2];exact c8.nil _,hF.2.1⟩
end Go.Zz
namespace Go.Zz
open Go.RowKit Go.Proofs
set_option maxHeartbeats 2000000
set_option maxRecDepth 8000
theorem ds2(s:ByteArray)(f:Nat→ByteArray)(hs:s.size≤1):∀k,(∀i,i<k→(f i).size≤27)→(jn s f k).size≤28*k
 | 0,_=>Nat.le_refl _
 | 1,h=>by
  have:=h 0 (by omega)
  rw[T0,ByteArray.size_append]
  have e:(⟨#[]⟩:ByteArray).size=0:=rfl
  omega
 | k+2,h=>by
  have ih:=ds2 s f hs (k+1) fun i hi=>h i (by omega)
  have:=h (k+1) (by omega)
  rw[T9 s f (by omega),ByteArray.size_append,ByteArray.size_append];omega
theorem j04(l xs:List Int):(fqF l xs).size≤400:=by
 cases hs:L2 l xs
 · rw[bs3 hs];decide
 · obtain⟨X,rfl,-,hX12,-,hX⟩:=bc4 hs;by_cases h0:X.length=0
   · rw[ba8 hs (by rw[j8];exact h0)];decide
   · rw[bi1 hs h0];have hfl:=b44 X X.length;have:=ds2 sp1 (m6 (fqL X X.length)) (by decide) (fqL X X.length).length (fun i hi=>b45 (X:=X) (by omega) hX X.length (Nat.le_refl _) _ (N4 hi));omega
theorem du4(A B C D:ByteArray):F9 [(⟨#[101,120,116,114,101,109,97,108,32,102,114,101,101]⟩:ByteArray),A,(⟨#[115,117,109,102,114,101,101]⟩:ByteArray),B,(⟨#[115,105,100,111,110]⟩:ByteArray),C,(⟨#[97,112,102,114,101,101]⟩:ByteArray),D]=(((((((⟨#[101,120,116,114,101,109,97,108,32,102,114,101,101,32]⟩:ByteArray)++A)++(⟨#[32,115,117,109,102,114,101,101,32]⟩:ByteArray))++B)++(⟨#[32,115,105,100,111,110,32]⟩:ByteArray))++C)++(⟨#[32,97,112,102,114,101,101,32]⟩:ByteArray))++D:=by
 apply R1;simp[F9,jn,m6,spB,List.getD]
theorem c13(v:Value)(l:List Int)(w:World)(h:c8 w v l) :
 Calls Tryz.prog 33 #[.agg #[v]] w fun e w'=>e=.returned (.string (elF l))∧Ext w w':=by
 obtain⟨wb,Hwb,hE0,hb,hg,hE,Hsz⟩:=j60 28 h;clear h;have hbx:=hb wb hE;have cG:=l0 v l wb (hg _ hE);cases hgr:c9 l
 · have hB:lzB l=false:=(by unfold lzB;rw[hgr];rfl);have Hs:=Lib.hid (br7 hB);rw[hgr] at cG;clear hB;go_enter Tryz.func33,Tryz.ntmps33;go_wp2_with fail;rw[←Hwb.out];refine cG.mono ?_;rintro e w1 ⟨rfl,hE1⟩;go_wp2_with fail;go_ret;exact⟨d9 Hs.out.symm,hE0.trans hE1⟩
 rw[hgr] at cG;have Hgr:=Lib.hid hgr;have hob:=l8 hgr;have cO:=fun W (hW:Ext wb W)=>m9 v l W (hg _ hW) Hgr;by_cases hm:ord l≤9;rotate_left
 · have hB:lzB l=false:=(by unfold lzB;rw[hgr];simpa using hm);have Hs:=Lib.hid (br7 hB);clear hB;go_enter Tryz.func33,Tryz.ntmps33;go_wp2_with fail;rw[←Hwb.out];refine cG.mono ?_;rintro e w1 ⟨rfl,hE1⟩;have hb1:=hb w1 hE1;go_wp2_with (refine (cO _ hE1).mono ?_;rintro e w2 ⟨rfl,hE2⟩);go_ret;exact⟨d9 Hs.out.symm,hE0.trans (hE1.trans hE2)⟩
 have hB:lzB l=true:=by unfold lzB;rw[hgr];simpa using hm
 have Hs:=Lib.hid (bx1 hB);have c1:=fun W (hW:Ext wb W)=>bp3 v l W (hg _ hW);have c2:=fun W (hW:Ext wb W)=>bq6 v l W (hg _ hW);have c3:=fun W (hW:Ext wb W)=>c16 v l W (hg _ hW);have c4:=fun W (hW:Ext wb W)=>bz0 v l W (hg _ hW);have cA:=fun W vZ (hW:Ext wb W) (hI:c8 W vZ (d6 (lzL l)))=>bq2 v vZ l (d6 (lzL l)) W (hg _ hW) hI;have cB:=fun W (hW:Ext wb W)=>E3 v l (lgV (I1 l) l 16:Nat) W (hg _ hW);have cC:=fun W (hW:Ext wb W)=>E3 v l (lgV (sidP l) l 13:Nat) W (hg _ hW);have cD:=fun W (hW:Ext wb W)=>E3 v l (lgV (apP l) l 11:Nat) W (hg _ hW);have sA:=j04 l (d6 (lzL l));have sB:=bi2 l (lgV (I1 l) l 16:Nat);have sC:=bi2 l (lgV (sidP l) l 13:Nat);have sD:=bi2 l (lgV (apP l) l 11:Nat);obtain⟨A,hA⟩:∃x,x=fqF l (d6 (lzL l)):=⟨_,rfl⟩;obtain⟨B,hBd⟩:∃x,x=fsF l (lgV (I1 l) l 16:Nat):=⟨_,rfl⟩;obtain⟨C,hC⟩:∃x,x=fsF l (lgV (sidP l) l 13:Nat):=⟨_,rfl⟩;obtain⟨D,hD⟩:∃x,x=fsF l (lgV (apP l) l 11:Nat):=⟨_,rfl⟩;rw[←hA] at cA sA Hs;rw[←hBd] at cB sB Hs;rw[←hC] at cC sC Hs;rw[←hD] at cD sD Hs;obtain⟨n2,h2⟩:∃x,x=lgV (I1 l) l 16:=⟨_,rfl⟩;obtain⟨n3,h3⟩:∃x,x=lgV (sidP l) l 13:=⟨_,rfl⟩;obtain⟨n4,h4⟩:∃x,x=lgV (apP l) l 11:=⟨_,rfl⟩;rw[←h2] at c2 cB;rw[←h3] at c3 cC;rw[←h4] at c4 cD;have hln:∀i,i<([(⟨#[101,120,116,114,101,109,97,108,32,102,114,101,101]⟩:ByteArray),A,(⟨#[115,117,109,102,114,101,101]⟩:ByteArray),B,(⟨#[115,105,100,111,110]⟩:ByteArray),C,(⟨#[97,112,102,114,101,101]⟩:ByteArray),D]:List ByteArray).length→(m6 [(⟨#[101,120,116,114,101,109,97,108,32,102,114,101,101]⟩:ByteArray),A,(⟨#[115,117,109,102,114,101,101]⟩:ByteArray),B,(⟨#[115,105,100,111,110]⟩:ByteArray),C,(⟨#[97,112,102,114,101,101]⟩:ByteArray),D] i).size≤5000:=by
  intro i hi;match i,hi with
  | 0,_=>exact (by decide:((⟨#[101,120,116,114,101,109,97,108,32,102,114,101,101]⟩:ByteArray):ByteArray).size≤5000)
  | 1,_=>exact Nat.le_trans sA (by decide)
  | 2,_=>exact (by decide:((⟨#[115,117,109,102,114,101,101]⟩:ByteArray):ByteArray).size≤5000)
  | 3,_=>exact Nat.le_trans sB (by decide)
  | 4,_=>exact (by decide:((⟨#[115,105,100,111,110]⟩:ByteArray):ByteArray).size≤5000)
  | 5,_=>exact Nat.le_trans sC (by decide)
  | 6,_=>exact (by decide:((⟨#[97,112,102,114,101,101]⟩:ByteArray):ByteArray).size≤5000)
  | 7,_=>exact Nat.le_trans sD (by decide)
 obtain⟨X,hX⟩:∃x,x=F9 [(⟨#[101,120,116,114,101,109,97,108,32,102,114,101,101]⟩:ByteArray),A,(⟨#[115,117,109,102,114,101,101]⟩:ByteArray),B,(⟨#[115,105,100,111,110]⟩:ByteArray),C,(⟨#[97,112,102,114,101,101]⟩:ByteArray),D]:=⟨_,rfl⟩;have hcL:∀(W:World),Calls Tryz.prog 96 #[.slice (some ⟨W.heap.size,0,none⟩) 8 8] (W.alloc (.cells #[.string (⟨#[101,120,116,114,101,109,97,108,32,102,114,101,101]⟩:ByteArray),.string A,.string (⟨#[115,117,109,102,114,101,101]⟩:ByteArray),.string B,.string (⟨#[115,105,100,111,110]⟩:ByteArray),.string C,.string (⟨#[97,112,102,114,101,101]⟩:ByteArray),.string D] 9)) fun e w'=>e=.returned (.string X)∧Ext (W.alloc (.cells #[.string (⟨#[101,120,116,114,101,109,97,108,32,102,114,101,101]⟩:ByteArray),.string A,.string (⟨#[115,117,109,102,114,101,101]⟩:ByteArray),.string B,.string (⟨#[115,105,100,111,110]⟩:ByteArray),.string C,.string (⟨#[97,112,102,114,101,101]⟩:ByteArray),.string D] 9)) w':=fun W =>
  (c34 _ _ _ (bn9 W [(⟨#[101,120,116,114,101,109,97,108,32,102,114,101,101]⟩:ByteArray),A,(⟨#[115,117,109,102,114,101,101]⟩:ByteArray),B,(⟨#[115,105,100,111,110]⟩:ByteArray),C,(⟨#[97,112,102,114,101,101]⟩:ByteArray),D] 9 (by simp)) hln (by simp)).mono fun e w' ⟨h1,h2⟩=>⟨by rw[h1,hX],by rw[←h2];exact Ext.refl _⟩
 have Hfin:Hid (elF l=X):=Lib.hid (by rw[hX,Hs.out];exact (du4 A B C D).symm);clear hln hX;clear hA hBd hC hD h2 h3 h4 hB hgr;go_enter Tryz.func33,Tryz.ntmps33;go_wp2_with fail;rw[←Hwb.out];refine cG.mono ?_;rintro e w1 ⟨rfl,hE1⟩;have hb1:=hb w1 hE1;go_wp2_with (go_at_call 99;refine (cO _ hE1).mono ?_;rintro e w2 ⟨rfl,hE2⟩;have hE12:=hE1.trans hE2;have hb2:=hb w2 hE12);refine (c1 _ hE12).mono ?_;rintro e w3 ⟨aoZ,cZ,rfl,hIZ,hE3⟩;have hE13:=hE12.trans hE3;have hb3:=hb w3 hE13;go_wp2_with fail;refine (c2 _ hE13).mono ?_;rintro e w4 ⟨rfl,hE4⟩;have hE14:=hE13.trans hE4;have hb4:=hb w4 hE14;go_wp2_with fail;refine (c3 _ hE14).mono ?_;rintro e w5 ⟨rfl,hE5⟩;have hE15:=hE14.trans hE5;have hb5:=hb w5 hE15;go_wp2_with fail;refine (c4 _ hE15).mono ?_;rintro e w6 ⟨rfl,hE6⟩;have hE16:=hE15.trans hE6;have hIZ6:=hIZ.ext (hE4.trans (hE5.trans hE6));have kb:=fun W (hW:Ext w6 W)=>hb W (hE16.trans hW);have hD:=(Ext.refl w6).drew;have hE:=Ext.refl w6;go_wp2_with fail;first | (go_region_held3 (fun W=>Ext w6 W∧W.cell? ⟨w.heap.size,0,none⟩=some v) (exact⟨xq,kb _ xq⟩) (first | (go_at_call 125;((with_reducible refine Calls.mono (cA _ _ (hE16.trans xq) (hIZ6.ext xq)) ?_);rintro e wH ⟨rfl,hX⟩;have hH:=Ext.trans (a:=w6) xq hX)) | (go_at_call 106;((first | (with_reducible refine Calls.mono (cB _ (hE16.trans xq)) ?_) | (with_reducible refine Calls.mono (cC _ (hE16.trans xq)) ?_) | (with_reducible refine Calls.mono (cD _ (hE16.trans xq)) ?_));rintro e wH ⟨rfl,hX⟩;have hH:=Ext.trans (a:=w6) xq hX)) | (go_at_call 96;((with_reducible refine Calls.mono (hcL _) ?_);rintro e wL ⟨rfl,hX⟩;have hHL:=Ext.trans (a:=w6) xq hX)))) | (fail "the region")
 all_goals
  go_wp2_with fail
  go_ret
  exact⟨d9 Hfin.out.symm,hE0.trans (hE16.trans hHL)⟩
end Go.Zz
