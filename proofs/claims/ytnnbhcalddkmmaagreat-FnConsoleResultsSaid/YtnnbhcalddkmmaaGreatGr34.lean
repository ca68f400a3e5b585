/- GroupLine of the program and of the reference. -/
import Derived.Test.YtnnbhcalddkmmaaGreatGr17
import Derived.Test.YtnnbhcalddkmmaaGreatGr4
import Derived.Test.YtnnbhcalddkmmaaGreatGr18
import Derived.Test.YtnnbhcalddkmmaaGreatGr19
import Derived.Test.YtnnbhcalddkmmaaGreatGr21
import Derived.Test.YtnnbhcalddkmmaaGreatLsT
import Derived.Test.YtnnbhcalddkmmaaGreatGr23
import Derived.Deep.RegionHeld3
import Derived.Test.YtnnbhcalddkmmaaGreatGr27
import Derived.Test.YtnnbhcalddkmmaaGreatGr29
import Derived.Test.YtnnbhcalddkmmaaGreatGr12
import Derived.Test.YtnnbhcalddkmmaaGreatGr30
import Derived.Test.YtnnbhcalddkmmaaGreatGr32
set_option linter.unusedSimpArgs false
set_option linter.unusedVariables false
set_option linter.unnecessarySimpa false
namespace Go.Zz
open Go.RowKit Go.Proofs
set_option maxHeartbeats 4000000
set_option maxRecDepth 20000
set_option linter.unusedSimpArgs false
def caF(l:List Int):Int:=if auB l then (Z5 l (ord l ^ l.length):Int) else -1
theorem cp2(l:List Int) : -1≤caF l∧caF l≤729:=by
 unfold caF;cases hn:auB l
 · simp
 · have hh:c9 l=true∧ord l≤9:=(by unfold auB at hn;simpa using hn);have:=Nat.le_trans (cb0 l _) (c42 hh.2 (C0 hh.1));simp only[if_true];omega
theorem j49(l:List Int):(if auB l then (J2 l l.length []:Int) else -1)=caF l:=by
 unfold caF;cases hn:auB l
 · rfl
 · have hh:c9 l=true∧ord l≤9:=(by unfold auB at hn;simpa using hn);rw[dl1 hh.1 hh.2]
theorem bs1(l:List Int):(fgF l).size≤600:=by
 cases h:c9 l
 · rw[ba7 h];decide
 · rw[b18 h];have:=C0 h;split
   · decide
   · have:=Q1 ex (fun i=>j0 (nth l i)) (by decide) l.length fun i hi=>j5 (bs9 h i hi);omega
theorem c26{l:List Int}(h:c9 l=true):N8 dvT (K6 l)≤73:=by
 have h1:=br6 (d48 h);have h2:=(bl6 (L7 dvT (K6 l).length (K6 l) (K6 l).length) (by rw[h1.1];exact h1.2) (K6 l).length (by rw[h1.1];exact Nat.le_refl _)).2;have h3:=C0 h;have h4:(K6 l).length=l.length:=by simp[K6]
 unfold N8;omega
def bs7(A B C D E F:ByteArray)(b1 b2:Bool):ByteArray:=((if b1 then ((((((((((((⟨#[103,114,111,117,112,32]⟩:ByteArray)++A)++(⟨#[32,111,114,100,101,114,32]⟩:ByteArray))++B)++(⟨#[32,101,120,112,111,110,101,110,116,32]⟩:ByteArray))++C)++(⟨#[32,115,117,98,103,114,111,117,112,115,32]⟩:ByteArray))++D)++(⟨#[32,100,97,118,101,110,112,111,114,116,32]⟩:ByteArray))++E)++(⟨#[32,97,117,116,111,109,111,114,112,104,105,115,109,115,32]⟩:ByteArray))++F) else ((((((((((⟨#[103,114,111,117,112,32]⟩:ByteArray)++A)++(⟨#[32,111,114,100,101,114,32]⟩:ByteArray))++B)++(⟨#[32,101,120,112,111,110,101,110,116,32]⟩:ByteArray))++C)++(⟨#[32,115,117,98,103,114,111,117,112,115,32]⟩:ByteArray))++D)++(⟨#[32,100,97,118,101,110,112,111,114,116,32]⟩:ByteArray))++E))++(if b2 then (⟨#[32,112,114,105,109,101]⟩:ByteArray) else (⟨#[]⟩:ByteArray)))
def W2(l:List Int):ByteArray :=
 if c9 l then
  bs7 (fgF l) (j0 (ord l:Nat)) (j0 (W1 l:Nat)) (j0 ((sgL l).length:Nat)) (j0 (N8 dvT (K6 l):Nat)) (j0 (caF l)) (decide (ord l≤9)) (X8 (ord l))
 else ⟨#[]⟩
theorem ct3{l:List Int}(h:c9 l=false):W2 l=⟨#[]⟩:=by unfold W2;rw[h];rfl
theorem bx6{l:List Int}(h:c9 l=true):W2 l=bs7 (fgF l) (j0 (ord l:Nat)) (j0 (W1 l:Nat)) (j0 ((sgL l).length:Nat)) (j0 (N8 dvT (K6 l):Nat)) (j0 (caF l)) (decide (ord l≤9)) (X8 (ord l)):=by
 unfold W2;rw[if_pos h]
theorem ct2(A B C D E:ByteArray):F9 [(⟨#[103,114,111,117,112]⟩:ByteArray),A,(⟨#[111,114,100,101,114]⟩:ByteArray),B,(⟨#[101,120,112,111,110,101,110,116]⟩:ByteArray),C,(⟨#[115,117,98,103,114,111,117,112,115]⟩:ByteArray),D,(⟨#[100,97,118,101,110,112,111,114,116]⟩:ByteArray),E]=((((((((((⟨#[103,114,111,117,112,32]⟩:ByteArray)++A)++(⟨#[32,111,114,100,101,114,32]⟩:ByteArray))++B)++(⟨#[32,101,120,112,111,110,101,110,116,32]⟩:ByteArray))++C)++(⟨#[32,115,117,98,103,114,111,117,112,115,32]⟩:ByteArray))++D)++(⟨#[32,100,97,118,101,110,112,111,114,116,32]⟩:ByteArray))++E):=by
 apply R1;simp[F9,jn,m6,spB,List.getD]
theorem ck6(v:Value)(l:List Int)(w:World)(h:c8 w v l) :
 Calls Tryz.prog 28 #[.agg #[v]] w fun e w'=>e=.returned (.string (W2 l))∧Ext w w':=by
 obtain⟨wb,Hwb,hE0,hb,hg,hE,Hsz⟩:=j60 28 h;clear h;have hbx:=hb wb hE;have cG0:=fun W (hW:Ext wb W)=>l0 v l W (hg W hW);cases hgr:c9 l
 · rw[hgr] at cG0;have Hs:=Lib.hid (ct3 hgr);go_enter Tryz.func28,Tryz.ntmps28;go_wp2_with fail;rw[←Hwb.out];go_wp2_with (refine (cG0 _ hE).mono ?_;rintro e w1 ⟨rfl,hE1⟩);go_ret;exact⟨d9 Hs.out.symm,hE0.trans hE1⟩
 rw[hgr] at cG0;have Hgr:=Lib.hid hgr;have Hs:=Lib.hid (bx6 hgr);have hob:=l8 hgr;have hex:=b42 hgr (Nat.le_refl l.length);have hsg:=by3 hgr;have hdv:=c26 hgr;have hca:=cp2 l;have sA:=bs1 l;have sB:=j5 (n:=((ord l:Nat):Int)) (by omega);have sC:=j5 (n:=((W1 l:Nat):Int)) (by unfold W1;omega);have sD:=j5 (n:=(((sgL l).length:Nat):Int)) (by omega);have sE:=j5 (n:=((N8 dvT (K6 l):Nat):Int)) (by omega);have sF:=j5 (n:=caF l) (by omega);have cA:=fun W (hW:Ext wb W)=>j7 v l W (hg W hW);have cO:=fun W (hW:Ext wb W)=>m9 v l W (hg W hW) Hgr;have cX:=fun W (hW:Ext wb W)=>ca4 v l W (hg W hW) Hgr;have cV:=fun W (hW:Ext wb W)=>bq0 v l W (hg W hW) Hgr;have cU:=fun W (hW:Ext wb W)=>bf5 v l W (hg W hW);have cP:=fun W (hW:Ext wb W)=>c15 v l W (hg W hW) Hgr;have cS:∀W,Ext wb W→Calls Tryz.prog 95 #[.agg #[v]] W fun e w'=>∃ao c n,n=(sgL l).length∧e=.returned (.tuple #[.slice ao n c,.bool true])∧Ext W w':=fun W hW=>ca9 v l W (hg W hW) Hgr (fun w0 W u L hO hE hn=>cy0 hO hE hn);simp only[j49] at cU;simp only[du3 hgr] at cV;have cB:=fun W=>p5 ((ord l:Nat):Int) (by omega) W;have cC:=fun W=>p5 ((W1 l:Nat):Int) (by unfold W1;omega) W;have cD:=fun W=>p5 (((sgL l).length:Nat):Int) (by omega) W;have cE:=fun W=>p5 ((N8 dvT (K6 l):Nat):Int) (by omega) W;have cF:=fun W=>p5 (caF l) (by omega) W;obtain⟨b2,hb2⟩:∃x,x=X8 (ord l):=⟨_,rfl⟩;rw[←hb2] at Hs;simp only[←hb2] at cP;obtain⟨A,hA⟩:∃x,x=fgF l:=⟨_,rfl⟩;obtain⟨B,hB⟩:∃x,x=j0 ((ord l:Nat):Int):=⟨_,rfl⟩;obtain⟨C,hC⟩:∃x,x=j0 ((W1 l:Nat):Int):=⟨_,rfl⟩;obtain⟨D,hD⟩:∃x,x=j0 (((sgL l).length:Nat):Int):=⟨_,rfl⟩;obtain⟨E,hE'⟩:∃x,x=j0 ((N8 dvT (K6 l):Nat):Int):=⟨_,rfl⟩;obtain⟨F,hF⟩:∃x,x=j0 (caF l):=⟨_,rfl⟩;rw[←hA,←hB,←hC,←hD,←hE',←hF] at Hs;simp only[←hA] at cA sA;simp only[←hB] at cB sB;simp only[←hC] at cC sC;simp only[←hD] at cD sD;simp only[←hE'] at cE sE;simp only[←hF] at cF sF;obtain⟨ex,hex'⟩:∃x,x=W1 l:=⟨_,rfl⟩;obtain⟨sg,hsg'⟩:∃x,x=(sgL l).length:=⟨_,rfl⟩;obtain⟨dv,hdv'⟩:∃x,x=N8 dvT (K6 l):=⟨_,rfl⟩;obtain⟨ca,hca'⟩:∃x,x=caF l:=⟨_,rfl⟩;simp only[←hex'] at cX cC;simp only[←hsg'] at cS cD;simp only[←hdv'] at cV cE;simp only[←hca'] at cU cF;clear hb2 hA hB hC hD hE' hF hex' hsg' hdv' hca' hgr hex hsg hdv hca;obtain⟨X0,hX0,cL0⟩:=bb2 [(⟨#[103,114,111,117,112]⟩:ByteArray),A,(⟨#[111,114,100,101,114]⟩:ByteArray),B,(⟨#[101,120,112,111,110,101,110,116]⟩:ByteArray),C,(⟨#[115,117,98,103,114,111,117,112,115]⟩:ByteArray),D,(⟨#[100,97,118,101,110,112,111,114,116]⟩:ByteArray),E] (by simp[o8];omega);have z0:X0.size≤900:=hX0 ▸ Nat.le_trans (b33 _) (by simp[K7,o8];omega);simp only[List.map_cons,List.map_nil,List.length_cons,List.length_nil,Nat.reduceAdd,Nat.zero_add] at cL0;have HX0:=Lib.hid hX0;clear hX0 sA sB sC sD sE;go_enter Tryz.func28,Tryz.ntmps28;go_wp2_with fail;rw[←Hwb.out];go_wp2_with (first | (go_at_call 94;refine (cG0 _ hE).mono ?_;rintro e w1 ⟨rfl,hE1⟩;have hb1:=hb _ hE1) | (go_at_call 95;refine (cS _ hE1).mono ?_;rintro e w2 ⟨aoS,cS2,nS,hnS,rfl,hE2⟩;subst hnS));replace hE:=hE1.trans hE2;clear hE1 hE2 hb1 hbx;have kb:=fun W (hW:Ext w2 W)=>hb W (hE.trans hW);have hD:=(Ext.refl w2).drew;go_wp2_with fail;first | (go_region_held3 (fun W=>Ext w2 W∧W.cell? ⟨w.heap.size,0,none⟩=some v) (exact⟨xq,kb _ xq⟩) (first | (go_at_call 97;((first | (with_reducible refine Calls.mono (cA _ (hE.trans xq)) ?_));rintro e wH ⟨rfl,hX⟩;have hH:=Ext.trans (a:=w2) xq hX)) | (go_at_call 99;((first | (with_reducible refine Calls.mono (cO _ (hE.trans xq)) ?_));rintro e wH ⟨rfl,hX⟩;have hH:=Ext.trans (a:=w2) xq hX)) | (go_at_call 98;((first | (with_reducible refine Calls.mono (cB _) ?_) | (with_reducible refine Calls.mono (cC _) ?_) | (with_reducible refine Calls.mono (cD _) ?_) | (with_reducible refine Calls.mono (cE _) ?_));rintro e wH ⟨rfl,hX⟩;have hH:=Ext.trans (a:=w2) xq hX)) | (go_at_call 100;((first | (with_reducible refine Calls.mono (cX _ (hE.trans xq)) ?_));rintro e wH ⟨rfl,hX⟩;have hH:=Ext.trans (a:=w2) xq hX)) | (go_at_call 101;((first | (with_reducible refine Calls.mono (cV _ (hE.trans xq)) ?_));rintro e wH ⟨rfl,hX⟩;have hH:=Ext.trans (a:=w2) xq hX)) | (go_at_call 96;((with_reducible refine Calls.mono (cL0 _) ?_);rintro e wL ⟨rfl,hX⟩;have hHL:=Ext.trans (a:=w2) xq hX)))) | (fail "the region")
 have hE3:=hE.trans hHL;have kb3:=fun W (hW:Ext wL W)=>hb W (hE3.trans hW);have hD3:=(Ext.refl wL).drew;clear hD hHL;by_cases h9:ord l≤9
 · have h9I:((ord l:Nat):Int)≤9:=(by omega);rw[decide_eq_true h9] at Hs;have hd9:decide (((ord l:Nat):Int)≤9)=true:=decide_eq_true h9I;obtain⟨X1,hX1,z1,cI1⟩:=P2 X0 true [(⟨#[97,117,116,111,109,111,114,112,104,105,115,109,115]⟩:ByteArray),F] _ z0 (by simp[o8];omega) (by simp[K7,o8];omega);replace z1:X1.size≤950:=Nat.le_trans z1 (by simp[K7,o8];omega);simp only[List.map_cons,List.map_nil,List.length_cons,List.length_nil,Nat.reduceAdd,Nat.zero_add] at cI1;obtain⟨X2,hX2,-,cI2⟩:=P2 X1 b2 [(⟨#[112,114,105,109,101]⟩:ByteArray)] _ z1 (by simp[o8]) (by simp[K7,o8]);simp only[List.map_cons,List.map_nil,List.length_cons,List.length_nil,Nat.reduceAdd,Nat.zero_add] at cI2;have Hfin:Hid (W2 l=X2):=Lib.hid (by rw[hX2,b51 X1 b2 (⟨#[112,114,105,109,101]⟩:ByteArray) (⟨#[32,112,114,105,109,101]⟩:ByteArray) rfl,hX1,if_pos rfl,dr1 X0 (⟨#[97,117,116,111,109,111,114,112,104,105,115,109,115]⟩:ByteArray) F (⟨#[32,97,117,116,111,109,111,114,112,104,105,115,109,115,32]⟩:ByteArray) rfl,HX0.out,ct2,Hs.out,bs7];rfl);have cI1g:=cI1;rw[←hd9] at cI1g;clear hd9 hX1 hX2 z0 z1 sF Hs h9;go_wp2_with fail;(first | (go_region_held3 (fun W=>Ext wL W∧W.cell? ⟨w.heap.size,0,none⟩=some v) (exact⟨xq,kb3 _ xq⟩) (first | (go_at_call 99;((first | (with_reducible refine Calls.mono (cO _ (hE3.trans xq)) ?_));rintro e wH ⟨rfl,hX⟩;have hH:=Ext.trans (a:=wL) xq hX)) | (go_at_call 103;((first | (with_reducible refine Calls.mono (cU _ (hE3.trans xq)) ?_));rintro e wH ⟨rfl,hX⟩;have hH:=Ext.trans (a:=wL) xq hX)) | (go_at_call 98;((first | (with_reducible refine Calls.mono (cF _) ?_));rintro e wH ⟨rfl,hX⟩;have hH:=Ext.trans (a:=wL) xq hX)) | (go_at_call 102;((first | (with_reducible refine Calls.mono (cI1g _) ?_) | (with_reducible refine Calls.mono (cI1 _) ?_));rintro e wM ⟨rfl,hX⟩;have hHM:=Ext.trans (a:=wL) xq hX)))) | (fail "the region"));have hE4:=hE3.trans hHM;have kb4:=hb _ hE4;go_wp2_with (first | (go_at_call 104;refine (cP _ hE4).mono ?_;rintro e w5 ⟨rfl,hE5⟩;have hE45:=hE4.trans hE5) | (go_at_call 102;with_reducible refine Calls.mono (cI2 _) ?_;rintro e w6 ⟨rfl,hE6⟩;have hE56:=hE45.trans (Ext.trans ((Ext.refl _).alloc _) hE6)));go_ret;exact⟨d9 Hfin.out.symm,hE0.trans hE56⟩
 · have h9I:¬((ord l:Nat):Int)≤9:=(by omega);rw[decide_eq_false h9] at Hs;have hd9:decide (((ord l:Nat):Int)≤9)=false:=decide_eq_false h9I;obtain⟨X1,hX1,z1,cI1⟩:=P2 X0 false [(⟨#[97,117,116,111,109,111,114,112,104,105,115,109,115]⟩:ByteArray),F] _ z0 (by simp[o8];omega) (by simp[K7,o8];omega);replace z1:X1.size≤950:=Nat.le_trans z1 (by simp[K7,o8];omega);simp only[List.map_cons,List.map_nil,List.length_cons,List.length_nil,Nat.reduceAdd,Nat.zero_add] at cI1;obtain⟨X2,hX2,-,cI2⟩:=P2 X1 b2 [(⟨#[112,114,105,109,101]⟩:ByteArray)] _ z1 (by simp[o8]) (by simp[K7,o8]);simp only[List.map_cons,List.map_nil,List.length_cons,List.length_nil,Nat.reduceAdd,Nat.zero_add] at cI2;have Hfin:Hid (W2 l=X2):=Lib.hid (by rw[hX2,b51 X1 b2 (⟨#[112,114,105,109,101]⟩:ByteArray) (⟨#[32,112,114,105,109,101]⟩:ByteArray) rfl,hX1,if_neg (by decide),HX0.out,ct2,Hs.out,bs7];rfl);have cI1g:=cI1;rw[←hd9] at cI1g;clear hd9 hX1 hX2 z0 z1 sF Hs h9;go_wp2_with fail;(first | (go_region_held3 (fun W=>Ext wL W∧W.cell? ⟨w.heap.size,0,none⟩=some v) (exact⟨xq,kb3 _ xq⟩) (first | (go_at_call 99;((first | (with_reducible refine Calls.mono (cO _ (hE3.trans xq)) ?_));rintro e wH ⟨rfl,hX⟩;have hH:=Ext.trans (a:=wL) xq hX)) | (go_at_call 103;((first | (with_reducible refine Calls.mono (cU _ (hE3.trans xq)) ?_));rintro e wH ⟨rfl,hX⟩;have hH:=Ext.trans (a:=wL) xq hX)) | (go_at_call 98;((first | (with_reducible refine Calls.mono (cF _) ?_));rintro e wH ⟨rfl,hX⟩;have hH:=Ext.trans (a:=wL) xq hX)) | (go_at_call 102;((first | (with_reducible refine Calls.mono (cI1g _) ?_) | (with_reducible refine Calls.mono (cI1 _) ?_));rintro e wM ⟨rfl,hX⟩;have hHM:=Ext.trans (a:=wL) xq hX)))) | (fail "the region"));have hE4:=hE3.trans hHM;have kb4:=hb _ hE4;go_wp2_with (first | (go_at_call 104;refine (cP _ hE4).mono ?_;rintro e w5 ⟨rfl,hE5⟩;have hE45:=hE4.trans hE5) | (go_at_call 102;with_reducible refine Calls.mono (cI2 _) ?_;rintro e w6 ⟨rfl,hE6⟩;have hE56:=hE45.trans (Ext.trans ((Ext.refl _).alloc _) hE6)));go_ret;exact⟨d9 Hfin.out.symm,hE0.trans hE56⟩
theorem ce2(v:Value)(l:List Int)(w:World)(h:c8 w v l) :
 Calls Tryz.prog 16 #[.agg #[v]] w fun e w'=>e=.returned (.string (W2 l))∧Ext w w':=by
 obtain⟨wb,Hwb,hE0,hb,hg,hE,Hsz⟩:=j60 28 h;clear h;have hbx:=hb wb hE;have cG0:=fun W (hW:Ext wb W)=>q9 v l W (hg W hW);cases hgr:c9 l
 · rw[hgr] at cG0;have Hs:=Lib.hid (ct3 hgr);go_enter Tryz.func16,Tryz.ntmps16;go_wp2_with fail;rw[←Hwb.out];go_wp2_with (refine (cG0 _ hE).mono ?_;rintro e w1 ⟨rfl,hE1⟩);go_ret;exact⟨d9 Hs.out.symm,hE0.trans hE1⟩
 rw[hgr] at cG0;have Hgr:=Lib.hid hgr;have Hs:=Lib.hid (bx6 hgr);have hob:=l8 hgr;have hex:=b42 hgr (Nat.le_refl l.length);have hsg:=by3 hgr;have hdv:=c26 hgr;have hca:=cp2 l;have sA:=bs1 l;have sB:=j5 (n:=((ord l:Nat):Int)) (by omega);have sC:=j5 (n:=((W1 l:Nat):Int)) (by unfold W1;omega);have sD:=j5 (n:=(((sgL l).length:Nat):Int)) (by omega);have sE:=j5 (n:=((N8 dvT (K6 l):Nat):Int)) (by omega);have sF:=j5 (n:=caF l) (by omega);have cA:=fun W (hW:Ext wb W)=>m5 v l W (hg W hW);have cO:=fun W (hW:Ext wb W)=>m4 v l W (hg W hW) Hgr;have cX:=fun W (hW:Ext wb W)=>c88 v l W (hg W hW) Hgr;have cV:=fun W (hW:Ext wb W)=>bp5 v l W (hg W hW) Hgr;have cU:=fun W (hW:Ext wb W)=>bc8 v l W (hg W hW);have cP:=fun W (hW:Ext wb W)=>bz2 v l W (hg W hW) Hgr;have cS:∀W,Ext wb W→Calls Tryz.prog 55 #[.agg #[v]] W fun e w'=>∃ao c n,n=(sgL l).length∧e=.returned (.tuple #[.slice ao n c,.bool true])∧Ext W w':=fun W hW=>(c49 v l W (hg W hW)).mono fun e w' ⟨ao,L,c,h1,_,h3,h4⟩=>⟨ao,c,L.length,by rw[h3,if_pos hgr],by rw[h1,hgr],h4⟩;simp only[show (if auB l then (Z5 l (ord l ^ l.length):Int) else -1)=caF l from rfl] at cU;have cB:=fun W=>o5 ((ord l:Nat):Int) (by omega) W;have cC:=fun W=>o5 ((W1 l:Nat):Int) (by unfold W1;omega) W;have cD:=fun W=>o5 (((sgL l).length:Nat):Int) (by omega) W;have cE:=fun W=>o5 ((N8 dvT (K6 l):Nat):Int) (by omega) W;have cF:=fun W=>o5 (caF l) (by omega) W;obtain⟨b2,hb2⟩:∃x,x=X8 (ord l):=⟨_,rfl⟩;rw[←hb2] at Hs;simp only[←hb2] at cP;obtain⟨A,hA⟩:∃x,x=fgF l:=⟨_,rfl⟩;obtain⟨B,hB⟩:∃x,x=j0 ((ord l:Nat):Int):=⟨_,rfl⟩;obtain⟨C,hC⟩:∃x,x=j0 ((W1 l:Nat):Int):=⟨_,rfl⟩;obtain⟨D,hD⟩:∃x,x=j0 (((sgL l).length:Nat):Int):=⟨_,rfl⟩;obtain⟨E,hE'⟩:∃x,x=j0 ((N8 dvT (K6 l):Nat):Int):=⟨_,rfl⟩;obtain⟨F,hF⟩:∃x,x=j0 (caF l):=⟨_,rfl⟩;rw[←hA,←hB,←hC,←hD,←hE',←hF] at Hs;simp only[←hA] at cA sA;simp only[←hB] at cB sB;simp only[←hC] at cC sC;simp only[←hD] at cD sD;simp only[←hE'] at cE sE;simp only[←hF] at cF sF;obtain⟨ex,hex'⟩:∃x,x=W1 l:=⟨_,rfl⟩;obtain⟨sg,hsg'⟩:∃x,x=(sgL l).length:=⟨_,rfl⟩;obtain⟨dv,hdv'⟩:∃x,x=N8 dvT (K6 l):=⟨_,rfl⟩;obtain⟨ca,hca'⟩:∃x,x=caF l:=⟨_,rfl⟩;simp only[←hex'] at cX cC;simp only[←hsg'] at cS cD;simp only[←hdv'] at cV cE;simp only[←hca'] at cU cF;clear hb2 hA hB hC hD hE' hF hex' hsg' hdv' hca' hgr hex hsg hdv hca;obtain⟨y,Hy,zY,cY⟩:=bk5 b2 (⟨#[32,112,114,105,109,101]⟩:ByteArray);go_enter Tryz.func16,Tryz.ntmps16;go_wp2_with fail;rw[←Hwb.out];go_wp2_with (first | (go_at_call 42;refine (cG0 _ hE).mono ?_;rintro e w1 ⟨rfl,hE1⟩;have hb1:=hb _ hE1) | (go_at_call 55;refine (cS _ hE1).mono ?_;rintro e w2 ⟨aoS,cS2,nS,hnS,rfl,hE2⟩;subst hnS));have hE3:=hE1.trans hE2;clear hE1 hE2 hb1 hbx;have kc3:=fun U=>hb _ (hE3.trans (b9 w2 U));replace hE:=Ext.refl w2;go_wp2_with fail;(refine d0 (w2) (by kernel_rfl) (by kernel_rfl) hE ?_);(repeat (go_big_quiet_step (first | (go_at_call 41;with_reducible exact Calls.lat (cA _ (hE3.trans (b9 w2 _)))) | (go_at_call 43;with_reducible exact Calls.lat (cO _ (hE3.trans (b9 w2 _)))) | (go_at_call 45;first | with_reducible exact Calls.lat (cB _) | with_reducible exact Calls.lat (cC _) | with_reducible exact Calls.lat (cD _) | with_reducible exact Calls.lat (cE _)) | (go_at_call 56;with_reducible exact Calls.lat (cX _ (hE3.trans (b9 w2 _)))) | (go_at_call 57;with_reducible exact Calls.lat (cV _ (hE3.trans (b9 w2 _)))))));(refine wpQuiet_nil ?_);(intro W hE');(replace hE:=l7 hE');(clear hE');replace hE:=hE3.trans hE;have hb4:=hb _ hE;by_cases h9:ord l≤9
 · have h9I:((ord l:Nat):Int)≤9:=(by omega);rw[decide_eq_true h9] at Hs;go_wp2_with (first | (go_at_call 43;refine (cO _ hE).mono ?_;rintro e w5 ⟨rfl,hE5⟩;have hE45:=hE.trans hE5;have hb5:=hb _ hE45) | (go_at_call 58;refine (cU _ hE45).mono ?_;rintro e w6 ⟨rfl,hE6⟩;have hE46:=hE45.trans hE6) | (go_at_call 45;refine (cF _).mono ?_;rintro e w7 ⟨rfl,hE7⟩;have hE47:=hE46.trans hE7;have hb7:=hb _ hE47) | (go_at_call 60;refine (cP _ hE47).mono ?_;rintro e w8 ⟨rfl,hE8⟩) | (go_at_call 59;refine (cY _).mono ?_;rintro e w' ⟨rfl,rfl⟩));go_ret;exact⟨d9 (by rw[Hs.out,Hy.out,bs7];rfl),hE0.trans (hE47.trans hE8)⟩
 · have h9I:¬((ord l:Nat):Int)≤9:=(by omega);rw[decide_eq_false h9] at Hs;go_wp2_with (first | (go_at_call 43;refine (cO _ hE).mono ?_;rintro e w5 ⟨rfl,hE5⟩;have hE45:=hE.trans hE5;have hb5:=hb _ hE45) | (go_at_call 60;refine (cP _ hE45).mono ?_;rintro e w8 ⟨rfl,hE8⟩) | (go_at_call 59;refine (cY _).mono ?_;rintro e w' ⟨rfl,rfl⟩));go_ret;exact⟨d9 (by rw[Hs.out,Hy.out,bs7];rfl),hE0.trans (hE45.trans hE8)⟩
end Go.Zz
namespace Go.Zz
open Go.RowKit Go.Proofs
set_option maxHeartbeats 1000000
set_option maxRecDepth 4000
def hpF(l:List Int)(a b:Int):Bool:=Y1 l a b&&(I6 l a || I6 l b)
theorem bh0(v:Value)(l:List Int)(a b:Int)(w:World)(h:c8 w v l) :
 Calls Tryz.prog 147 #[.agg #[v],.int .i64 a,.int .i64 b] w fun e w'=>e=.returned (.bool (hpF l a b))∧Ext w w':=by
 obtain⟨wb,Hwb,hE0,hb,hg,hE,Hsz⟩:=j60 28 h;clear h;have kb:=hb _ hE;have cT:=fun W (hW:Ext wb W)=>bq5 v l a b W (hg _ hW);have cP:=fun W (hW:Ext wb W)=>b39 v l a W (hg _ hW);have cQ:=fun W (hW:Ext wb W)=>b39 v l b W (hg _ hW);have Hs:Hid (hpF l a b=(Y1 l a b&&(I6 l a || I6 l b))):=Lib.hid rfl;obtain⟨t,ht⟩:∃t,t=Y1 l a b:=⟨_,rfl⟩;obtain⟨p,hp⟩:∃p,p=I6 l a:=⟨_,rfl⟩;obtain⟨q,hq⟩:∃q,q=I6 l b:=⟨_,rfl⟩;rw[←ht] at cT Hs;rw[←hp] at cP Hs;rw[←hq] at cQ Hs;clear ht hp hq;cases t<;>cases p<;>cases q
 all_goals
  go_enter Tryz.func147,Tryz.ntmps147
  go_wp2_with fail
  rw[←Hwb.out]
  go_wp2_with (first | (go_at_call 123;refine (cT _ hE).mono ?_;rintro e w1 ⟨rfl,hE1⟩;replace hE:=hE.trans hE1;have kb1:=hb _ hE) | (go_at_call 217;(first | with_reducible refine Calls.mono (cP _ hE) ?_ | with_reducible refine Calls.mono (cQ _ hE) ?_);rintro e w2 ⟨rfl,hE2⟩;replace hE:=hE.trans hE2;have kb2:=hb _ hE))
  go_ret
  exact⟨l9 Hs.out.symm,hE0.trans hE⟩
theorem bg4(v:Value)(l:List Int)(a b:Int)(w:World)(h:c8 w v l) :
 Calls Tryz.prog 82 #[.agg #[v],.int .i64 a,.int .i64 b] w fun e w'=>e=.returned (.bool (hpF l a b))∧Ext w w':=by
 obtain⟨wb,Hwb,hE0,hb,hg,hE,Hsz⟩:=j60 28 h;clear h;have kb:=hb _ hE;have cT:=fun W (hW:Ext wb W)=>bo9 v l a b W (hg _ hW);have cP:=fun W (hW:Ext wb W)=>b35 v l a W (hg _ hW);have cQ:=fun W (hW:Ext wb W)=>b35 v l b W (hg _ hW);have Hs:Hid (hpF l a b=(Y1 l a b&&(I6 l a || I6 l b))):=Lib.hid rfl;obtain⟨t,ht⟩:∃t,t=Y1 l a b:=⟨_,rfl⟩;obtain⟨p,hp⟩:∃p,p=I6 l a:=⟨_,rfl⟩;obtain⟨q,hq⟩:∃q,q=I6 l b:=⟨_,rfl⟩;rw[←ht] at cT Hs;rw[←hp] at cP Hs;rw[←hq] at cQ Hs;clear ht hp hq;cases t<;>cases p<;>cases q
 all_goals
  go_enter Tryz.func82,Tryz.ntmps82
  go_wp2_with fail
  rw[←Hwb.out]
  go_wp2_with (first | (go_at_call 80;refine (cT _ hE).mono ?_;rintro e w1 ⟨rfl,hE1⟩;replace hE:=hE.trans hE1;have kb1:=hb _ hE) | (go_at_call 186;(first | with_reducible refine Calls.mono (cP _ hE) ?_ | with_reducible refine Calls.mono (cQ _ hE) ?_);rintro e w2 ⟨rfl,hE2⟩;replace hE:=hE.trans hE2;have kb2:=hb _ hE))
  go_ret
  exact⟨l9 Hs.out.symm,hE0.trans hE⟩
end Go.Zz
namespace Go.Zz
open Go.RowKit Go.Proofs
set_option maxHeartbeats 2000000
set_option maxRecDepth 8000
set_option linter.unusedSimpArgs false
theorem cz5(l:List Int)(a:Int):tlN l a≤200:=by
 cases h:q6 l a
 · rw[bw3 h];omega
 · obtain⟨n,rfl,-⟩:=bm2 h;rw[cf1 h];exact b94 _ _ _ _ _ _ (by omega)
theorem c37(l:List Int)(a:Int) : -1≤M8 l a∧M8 l a≤50:=by
 cases h:d8 l a
 · rw[c38 h];omega
 · obtain⟨n,rfl,h1,h2,hg⟩:=m3 h;by_cases h0:n=0
   · subst h0;have:M8 l ((0:Nat):Int) = -1:=bm4 l;rw[this];omega
   · rw[bt7 h (by omega)];have hb1:=l8 hg;have hb2:=Q8 (by omega) h2;have hb3:=p7 n;have e1:0≤((ord l:Int)+cnt n - 1) / (cnt n:Int):=Int.ediv_nonneg (by omega) (by omega);have e2:((ord l:Int)+cnt n - 1) / (cnt n:Int)≤(ord l:Int)+cnt n - 1:=Int.ediv_le_self _ (by omega);omega
def bw4(A B C D:ByteArray)(fb pf:Bool):ByteArray:=(((((if fb then ((((⟨#[116,105,108,101,115,32]⟩:ByteArray)++A)++(⟨#[32,102,105,114,115,116,32]⟩:ByteArray))++B)++(if pf then (⟨#[32,112,101,114,105,111,100,105,99]⟩:ByteArray) else ⟨#[]⟩) else ((⟨#[116,105,108,101,115,32]⟩:ByteArray)++A))++(⟨#[32,103,114,101,101,100,121,32]⟩:ByteArray))++C)++(⟨#[32,108,101,97,115,116,32]⟩:ByteArray))++D)
def Y2(l:List Int)(a:Int):ByteArray :=
 if q6 l a then
  bw4 (j0 (tlN l a:Nat)) (fsF l (ftV l a)) (fsF l (K9 l a)) (j0 (M8 l a)) (ftB l a) (hpF l a (ftV l a))
 else ⟨#[]⟩
theorem cz8{l:List Int}{a:Int}(h:q6 l a=false):Y2 l a=⟨#[]⟩:=by unfold Y2;rw[h];rfl
theorem by5{l:List Int}{a:Int}(h:q6 l a=true):Y2 l a=bw4 (j0 (tlN l a:Nat)) (fsF l (ftV l a)) (fsF l (K9 l a)) (j0 (M8 l a)) (ftB l a) (hpF l a (ftV l a)):=by
 unfold Y2;rw[if_pos h]
theorem dr0(A B C D:ByteArray)(fb pf:Bool):F9 [(if fb&&pf then F9 [(if fb then F9 [F9 [(⟨#[116,105,108,101,115]⟩:ByteArray),A],(⟨#[102,105,114,115,116]⟩:ByteArray),B] else F9 [(⟨#[116,105,108,101,115]⟩:ByteArray),A]),(⟨#[112,101,114,105,111,100,105,99]⟩:ByteArray)] else (if fb then F9 [F9 [(⟨#[116,105,108,101,115]⟩:ByteArray),A],(⟨#[102,105,114,115,116]⟩:ByteArray),B] else F9 [(⟨#[116,105,108,101,115]⟩:ByteArray),A])),(⟨#[103,114,101,101,100,121]⟩:ByteArray),C,(⟨#[108,101,97,115,116]⟩:ByteArray),D]=bw4 A B C D fb pf:=by
 unfold bw4;apply R1;cases fb<;>cases pf<;>simp[F9,jn,m6,spB,List.getD]
theorem cn7(v:Value)(l:List Int)(a:Int)(w:World)(h:c8 w v l) :
 Calls Tryz.prog 34 #[.agg #[v],.int .i64 a] w fun e w'=>e=.returned (.string (Y2 l a))∧Ext w w':=by
 obtain⟨wb,Hwb,hE0,hb,hg,hE,Hsz⟩:=j60 28 h;clear h;have cT:=d06 v l a wb (hg _ hE);have hbx:=hb wb hE;cases ho:q6 l a
 · have Hs:=Lib.hid (cz8 ho);rw[ho] at cT;go_enter Tryz.func34,Tryz.ntmps34;go_wp2_with fail;rw[←Hwb.out];refine cT.mono ?_;rintro e w1 ⟨vT,L,rfl,hI,-,hE1⟩;obtain⟨aT,kT,rfl,-⟩:=hI;go_wp2_with fail;go_ret;exact⟨d9 Hs.out.symm,hE0.trans hE1⟩
 have Hs:=Lib.hid (by5 ho);rw[ho] at cT;have hN:=cz5 l a;have hM:=c37 l a;have sA:=j5 (n:=((tlN l a:Nat):Int)) (by omega);have sB:=l6 l (ftV l a);have sC:=l6 l (K9 l a);have sD:=j5 (n:=M8 l a) (by omega);have cA:=fun W=>p5 ((tlN l a:Nat):Int) (by omega) W;have cB:=fun W (hW:Ext wb W)=>E3 v l (ftV l a) W (hg W hW);have cC:=fun W (hW:Ext wb W)=>E3 v l (K9 l a) W (hg W hW);have cD:=fun W=>p5 (M8 l a) (by omega) W;have cF:=fun W (hW:Ext wb W)=>b96 v l a W (hg W hW);have cG:=fun W (hW:Ext wb W)=>bk7 v l a W (hg W hW);have cM:=fun W (hW:Ext wb W)=>b97 v l a W (hg W hW);have cP:=fun W (hW:Ext wb W)=>bh0 v l a (ftV l a) W (hg W hW);obtain⟨A,hA⟩:∃x,x=j0 ((tlN l a:Nat):Int):=⟨_,rfl⟩;obtain⟨B,hB⟩:∃x,x=fsF l (ftV l a):=⟨_,rfl⟩;obtain⟨C,hC⟩:∃x,x=fsF l (K9 l a):=⟨_,rfl⟩;obtain⟨D,hD⟩:∃x,x=j0 (M8 l a):=⟨_,rfl⟩;obtain⟨pf,hpf⟩:∃x,x=hpF l a (ftV l a):=⟨_,rfl⟩;obtain⟨fb,hfb⟩:∃x,x=ftB l a:=⟨_,rfl⟩;rw[←hA] at cA sA Hs;rw[←hB] at cB sB Hs;rw[←hC] at cC sC Hs;rw[←hD] at cD sD Hs;rw[←hpf] at cP Hs;rw[←hfb] at cF Hs;obtain⟨N,hNd⟩:∃x,x=tlN l a:=⟨_,rfl⟩;obtain⟨fv,hfv⟩:∃x,x=ftV l a:=⟨_,rfl⟩;obtain⟨gv,hgv⟩:∃x,x=K9 l a:=⟨_,rfl⟩;obtain⟨mv,hmv⟩:∃x,x=M8 l a:=⟨_,rfl⟩;rw[←hNd] at cT cA hN;rw[←hfv] at cB cF cP;rw[←hgv] at cC cG;rw[←hmv] at cD cM hM;rw[ho] at cG;clear hA hB hC hD hpf hfb hNd hfv hgv hmv ho;obtain⟨X0,hX0,cL0⟩:=bb2 [(⟨#[116,105,108,101,115]⟩:ByteArray),A] (by simp[o8];omega);have z0:X0.size≤100:=hX0 ▸ Nat.le_trans (b33 _) (by simp[K7,o8];omega);simp only[List.map_cons,List.map_nil,List.length_cons,List.length_nil,Nat.reduceAdd,Nat.zero_add] at cL0;obtain⟨X1,hX1,z1,cI1⟩:=P2 X0 fb [(⟨#[102,105,114,115,116]⟩:ByteArray),B] _ z0 (by simp[o8];omega) (by simp[K7,o8];omega);replace z1:X1.size≤800:=Nat.le_trans z1 (by simp[K7,o8];omega);simp only[List.map_cons,List.map_nil,List.length_cons,List.length_nil,Nat.reduceAdd,Nat.zero_add] at cI1;obtain⟨X2,hX2,z2,cI2⟩:=P2 X1 (fb&&pf) [(⟨#[112,101,114,105,111,100,105,99]⟩:ByteArray)] _ z1 (by simp[o8]) (by simp[K7,o8]);replace z2:X2.size≤900:=Nat.le_trans z2 (by simp[K7,o8]);simp only[List.map_cons,List.map_nil,List.length_cons,List.length_nil,Nat.reduceAdd,Nat.zero_add] at cI2;obtain⟨X3,hX3,cL3⟩:=bb2 [X2,(⟨#[103,114,101,101,100,121]⟩:ByteArray),C,(⟨#[108,101,97,115,116]⟩:ByteArray),D] (by simp[o8];omega);simp only[List.map_cons,List.map_nil,List.length_cons,List.length_nil,Nat.reduceAdd,Nat.zero_add] at cL3;have Hfin:Hid (Y2 l a=X3):=Lib.hid (by rw[hX3,hX2,hX1,hX0,Hs.out];exact (dr0 A B C D fb pf).symm);clear hX0 hX1 hX2 hX3 z0 z1 z2 sA sB sC sD;cases fb
 all_goals
  try simp only[Bool.true_and,Bool.false_and] at cI2
  go_enter Tryz.func34,Tryz.ntmps34
  go_wp2_with fail
  rw[←Hwb.out]
  refine cT.mono ?_
  rintro e w1 ⟨vT,L,rfl,hI,hL,hE1⟩
  obtain⟨aT,kT,rfl,-⟩:=hI
  rw[hL]
  clear hL cT
  go_wp2_with (first
   | (go_at_call 98;refine (cA _).mono ?_;rintro e w2 ⟨rfl,hE2⟩;have hE02:=hE1.trans hE2)
   | (go_at_call 96;refine (cL0 _).mono ?_;rintro e w3 ⟨rfl,hE3⟩;have hE03:=hE02.trans (Ext.trans ((Ext.refl _).alloc _) hE3);have kb3:=hb _ hE03)
   | (go_at_call 146;refine (cF _ hE03).mono ?_;rintro e w4 ⟨rfl,hE4⟩;have hE04:=hE03.trans hE4;have kb4:=hb _ hE04)
   | (go_at_call 106;with_reducible refine Calls.mono (cB _ hE04) ?_;rintro e w5 ⟨rfl,hE5⟩;have hE05:=hE04.trans hE5)
   | (go_at_call 102;with_reducible refine Calls.mono (cI1 _) ?_;rintro e w6 ⟨rfl,hE6⟩;have hE06:=hE05.trans (Ext.trans ((Ext.refl _).alloc _) hE6);have kb6:=hb _ hE06)
   | (go_at_call 147;with_reducible refine Calls.mono (cP _ hE06) ?_;rintro e w7 ⟨rfl,hE7⟩;have hE08:=hE06.trans hE7)
   | (go_at_call 102;with_reducible refine Calls.mono (cI2 _) ?_;rintro e w8 ⟨rfl,hE8⟩;first | (have hE09:=hE08.trans (Ext.trans ((Ext.refl _).alloc _) hE8);have kb9:=hb _ hE09) | (have hE09:=hE06.trans (Ext.trans ((Ext.refl _).alloc _) hE8);have kb9:=hb _ hE09))
   | (go_at_call 148;refine (cG _ hE09).mono ?_;rintro e w10 ⟨rfl,hE10⟩;have hE010:=hE09.trans hE10))
  have kb:=fun W (hW:Ext w10 W)=>hb W (hE010.trans hW)
  have hD:=(Ext.refl w10).drew
  first | (go_region_held3 (fun W=>Ext w10 W∧W.cell? ⟨w.heap.size,0,none⟩=some v) (exact⟨xq,kb _ xq⟩) (first | (go_at_call 106;((with_reducible refine Calls.mono (cC _ (hE010.trans xq)) ?_);rintro e wH ⟨rfl,hX⟩;have hH:=Ext.trans (a:=w10) xq hX)) | (go_at_call 98;((with_reducible refine Calls.mono (cD _) ?_);rintro e wH ⟨rfl,hX⟩;have hH:=Ext.trans (a:=w10) xq hX)) | (go_at_call 149;((with_reducible refine Calls.mono (cM _ (hE010.trans xq)) ?_);rintro e wH ⟨rfl,hX⟩;have hH:=Ext.trans (a:=w10) xq hX)) | (go_at_call 96;((with_reducible refine Calls.mono (cL3 _) ?_);rintro e wL ⟨rfl,hX⟩;have hHL:=Ext.trans (a:=w10) xq hX)))) | (fail "the region")
  all_goals
   go_wp2_with fail
   go_ret
   exact⟨d9 Hfin.out.symm,hE0.trans (hE010.trans hHL)⟩
theorem cl9(v:Value)(l:List Int)(a:Int)(w:World)(h:c8 w v l) :
 Calls Tryz.prog 20 #[.agg #[v],.int .i64 a] w fun e w'=>e=.returned (.string (Y2 l a))∧Ext w w':=by
 obtain⟨wb,Hwb,hE0,hb,hg,hE,Hsz⟩:=j60 28 h;clear h;have cT:=cx4 v l a wb (hg _ hE);have hbx:=hb wb hE;cases ho:q6 l a
 · have Hs:=Lib.hid (cz8 ho);rw[ho] at cT;go_enter Tryz.func20,Tryz.ntmps20;go_wp2_with fail;rw[←Hwb.out];refine cT.mono ?_;rintro e w1 ⟨vT,L,rfl,hI,-,hE1⟩;obtain⟨aT,kT,rfl,-⟩:=hI;go_wp2_with fail;go_ret;exact⟨d9 Hs.out.symm,hE0.trans hE1⟩
 have Hs:=Lib.hid (by5 ho);rw[ho] at cT;have hN:=cz5 l a;have hM:=c37 l a;have sA:=j5 (n:=((tlN l a:Nat):Int)) (by omega);have sB:=l6 l (ftV l a);have sC:=l6 l (K9 l a);have sD:=j5 (n:=M8 l a) (by omega);have cA:=fun W=>o5 ((tlN l a:Nat):Int) (by omega) W;have cB:=fun W (hW:Ext wb W)=>m7 v l (ftV l a) W (hg W hW);have cC:=fun W (hW:Ext wb W)=>m7 v l (K9 l a) W (hg W hW);have cD:=fun W=>o5 (M8 l a) (by omega) W;have cF:=fun W (hW:Ext wb W)=>b73 v l a W (hg W hW);have cG:=fun W (hW:Ext wb W)=>bk1 v l a W (hg W hW);have cM:=fun W (hW:Ext wb W)=>b74 v l a W (hg W hW);have cP:=fun W (hW:Ext wb W)=>bg4 v l a (ftV l a) W (hg W hW);obtain⟨A,hA⟩:∃x,x=j0 ((tlN l a:Nat):Int):=⟨_,rfl⟩;obtain⟨B,hB⟩:∃x,x=fsF l (ftV l a):=⟨_,rfl⟩;obtain⟨C,hC⟩:∃x,x=fsF l (K9 l a):=⟨_,rfl⟩;obtain⟨D,hD⟩:∃x,x=j0 (M8 l a):=⟨_,rfl⟩;obtain⟨pf,hpf⟩:∃x,x=hpF l a (ftV l a):=⟨_,rfl⟩;obtain⟨fb,hfb⟩:∃x,x=ftB l a:=⟨_,rfl⟩;rw[←hA] at cA sA Hs;rw[←hB] at cB sB Hs;rw[←hC] at cC sC Hs;rw[←hD] at cD sD Hs;rw[←hpf] at cP Hs;rw[←hfb] at cF Hs;obtain⟨N,hNd⟩:∃x,x=tlN l a:=⟨_,rfl⟩;obtain⟨fv,hfv⟩:∃x,x=ftV l a:=⟨_,rfl⟩;obtain⟨gv,hgv⟩:∃x,x=K9 l a:=⟨_,rfl⟩;obtain⟨mv,hmv⟩:∃x,x=M8 l a:=⟨_,rfl⟩;rw[←hNd] at cT cA hN;rw[←hfv] at cB cF cP;rw[←hgv] at cC cG;rw[←hmv] at cD cM hM;rw[ho] at cG;clear hA hB hC hD hpf hfb hNd hfv hgv hmv ho;have cY:=fun W=>by7 pf (⟨#[32,112,101,114,105,111,100,105,99]⟩:ByteArray) W;have zY:(if pf then (⟨#[32,112,101,114,105,111,100,105,99]⟩:ByteArray) else (⟨#[]⟩:ByteArray)).size≤20:=by cases pf<;>decide
 obtain⟨y,hy⟩:∃x,x=(if pf then (⟨#[32,112,101,114,105,111,100,105,99]⟩:ByteArray) else (⟨#[]⟩:ByteArray)):=⟨_,rfl⟩;rw[←hy] at cY zY;have Hy:=Lib.hid hy;clear hy;cases fb
 all_goals
  go_enter Tryz.func20,Tryz.ntmps20
  go_wp2_with fail
  rw[←Hwb.out]
  refine cT.mono ?_
  rintro e w1 ⟨vT,L,rfl,hI,hL,hE1⟩
  obtain⟨aT,kT,rfl,-⟩:=hI
  rw[hL]
  clear hL cT
  go_wp2_with (go_at_call 45;refine (cA _).mono ?_;rintro e w2 ⟨rfl,hE2⟩;have hE02:=hE1.trans hE2;have kb2:=hb _ hE02)
  refine (cF _ hE02).mono ?_
  rintro e w4 ⟨rfl,hE4⟩
  have hE04:=hE02.trans hE4
  have kb4:=hb _ hE04
  have kc4:=fun U=>hb _ (hE04.trans (b9 w4 U))
  replace hE:=Ext.refl w4
  go_wp2_with fail
 · refine (cG _ hE04).mono ?_;rintro e w5 ⟨rfl,hE5⟩;have hE05:=hE04.trans hE5;have kc5:=fun U=>hb _ (hE05.trans (b9 w5 U));replace hE:=Ext.refl w5;go_wp2_with fail;(refine d0 (w5) (by kernel_rfl) (by kernel_rfl) hE ?_);(repeat (go_big_quiet_step (first | (go_at_call 11;with_reducible exact Calls.lat (cC _ (hE05.trans (b9 w5 _)))) | (go_at_call 45;with_reducible exact Calls.lat (cD _)) | (go_at_call 84;with_reducible exact Calls.lat (cM _ (hE05.trans (b9 w5 _)))))));(refine wpQuiet_nil ?_);(intro W hE');(replace hE:=l7 hE');(clear hE');go_wp2_with fail;go_ret;exact⟨d9 (by rw[Hs.out,bw4];rfl),hE0.trans (hE05.trans hE)⟩
 · (refine d0 (w4) (by kernel_rfl) (by kernel_rfl) hE ?_);(repeat (go_big_quiet_step (first | (go_at_call 11;with_reducible exact Calls.lat (cB _ (hE04.trans (b9 w4 _)))) | (go_at_call 82;with_reducible exact Calls.lat (cP _ (hE04.trans (b9 w4 _)))) | (go_at_call 59;with_reducible exact Calls.lat_same (cY _)))));(refine wpQuiet_nil ?_);(intro W hE');(replace hE:=l7 hE');(clear hE');rename World=>w45;have hE04b:=hE04.trans hE;have kb5:=hb _ hE04b;go_wp2_with fail;refine (cG _ hE04b).mono ?_;rintro e w5 ⟨rfl,hE5⟩;have hE05:=hE04b.trans hE5;have kc5:=fun U=>hb _ (hE05.trans (b9 w5 U));replace hE:=Ext.refl w5;go_wp2_with fail;(refine d0 (w5) (by kernel_rfl) (by kernel_rfl) hE ?_);(repeat (go_big_quiet_step (first | (go_at_call 11;with_reducible exact Calls.lat (cC _ (hE05.trans (b9 w5 _)))) | (go_at_call 45;with_reducible exact Calls.lat (cD _)) | (go_at_call 84;with_reducible exact Calls.lat (cM _ (hE05.trans (b9 w5 _)))))));(refine wpQuiet_nil ?_);(intro W hE');(replace hE:=l7 hE');(clear hE');go_wp2_with fail;go_ret;exact⟨d9 (by rw[Hs.out,Hy.out,bw4];rfl),hE0.trans (hE05.trans hE)⟩
end Go.Zz
namespace Go.Zz
open Go.RowKit Go.Proofs
set_option maxHeartbeats 1000000
set_option maxRecDepth 4000
noncomputable def F7 (x:ByteArray):ByteArray × Bool :=
 match B7 32 x with
 | [a,b]=>if a=b64 then (W2 (pgV b),pgB b) else if a=S4 then (elF (pgV b),pgB b) else (mtB,false)
 | [a,b,c]=>if a=bc6 then (stlF (pgV b) (psV (pgV b) c).1,pgB b&&(psV (pgV b) c).2) else if a=V3 then (Y2 (pgV b) (psV (pgV b) c).1,pgB b&&(psV (pgV b) c).2) else if a=Z3 then (b08 (pgV b) (psV (pgV b) c).1,pgB b&&(psV (pgV b) c).2) else (mtB,false)
 | [a,b,c,d]=>if a=b84 then (plF (pgV b) (psV (pgV b) c).1 (psV (pgV b) d).1,pgB b&&(psV (pgV b) c).2&&(psV (pgV b) d).2) else if a=bg7 then (b29 (pgV b) (psV (pgV b) c).1 (psV (pgV b) d).1,pgB b&&(psV (pgV b) c).2&&(psV (pgV b) d).2) else (mtB,false)
 | _=>(mtB,false)
theorem cn0{w:ByteArray}(h:noC 32 w):B7 32 w=[w]:=c20 h
theorem db9{a b:ByteArray}(ha:noC 32 a)(hb:noC 32 b):F7 (sp a b)=if a=b64 then (W2 (pgV b),pgB b) else if a=S4 then (elF (pgV b),pgB b) else (mtB,false):=by
 unfold F7;rw[K8 (cn0 ha) hb];rfl
theorem c14{a b c:ByteArray}(ha:noC 32 a)(hb:noC 32 b)(hc:noC 32 c):F7 (sp (sp a b) c)=if a=bc6 then (stlF (pgV b) (psV (pgV b) c).1,pgB b&&(psV (pgV b) c).2) else if a=V3 then (Y2 (pgV b) (psV (pgV b) c).1,pgB b&&(psV (pgV b) c).2) else if a=Z3 then (b08 (pgV b) (psV (pgV b) c).1,pgB b&&(psV (pgV b) c).2) else (mtB,false):=by
 unfold F7;rw[K8 (K8 (cn0 ha) hb) hc];rfl
theorem d37{a b c d:ByteArray}(ha:noC 32 a)(hb:noC 32 b)(hc:noC 32 c)(hd:noC 32 d):F7 (sp (sp (sp a b) c) d)=if a=b84 then (plF (pgV b) (psV (pgV b) c).1 (psV (pgV b) d).1,pgB b&&(psV (pgV b) c).2&&(psV (pgV b) d).2) else if a=bg7 then (b29 (pgV b) (psV (pgV b) c).1 (psV (pgV b) d).1,pgB b&&(psV (pgV b) c).2&&(psV (pgV b) d).2) else (mtB,false):=by
 unfold F7;rw[K8 (K8 (K8 (cn0 ha) hb) hc) hd];rfl
theorem Y9{c:Int}{w:ByteArray}(h:w.data.toList.all (fun b=>decide (¬(b.toNat:Int)=c))=true):noC c w:=fun b hb=>by
 have:=List.all_eq_true.1 h b hb
 exact of_decide_eq_true this
theorem cu8{c:Int}(hc:c<45){l:List Int}(h:c9 l=true)(h0:¬l.length=0):noC c (fgF l):=by
 have e:fgF l=jn ⟨#[120]⟩ (fun i=>j0 (nth l i)) l.length:=by rw[b18 h,if_neg h0];rfl
 rw[e];refine cu9 (cc6 ?_) _ (fun i _=>by1 (by omega) _);show ¬((120:Nat):Int)=c;omega
def ln7(l:List Int)(a b:Int):List ByteArray:=[sp b64 (fgF l),sp S4 (fgF l),sp (sp bc6 (fgF l)) (fsF l a),sp (sp (sp b84 (fgF l)) (fsF l a)) (fsF l b),sp (sp (sp bg7 (fgF l)) (fsF l a)) (fsF l b),sp (sp Z3 (fgF l)) (fsF l a),sp (sp V3 (fgF l)) (fsF l a)]
theorem dr7{l:List Int}{n m:Nat}(hg:c9 l=true)(h0:¬l.length=0)(hn:d8 l n=true)(hn0:0<n)(hm:d8 l m=true)(hm0:0<m) :
 (ln7 l n m).map F7=[(W2 l,true),(elF l,true),(stlF l n,true),(plF l n m,true),(b29 l n m,true),(b08 l n,true),(Y2 l n,true)]:=by
 have hN:=cu8 (c:=32) (by omega) hg h0;have hS:=bb4 (c:=32) (by omega) hn hn0;have hT:=bb4 (c:=32) (by omega) hm hm0;obtain⟨p1,p2⟩:=da2 hg h0;have q1:=cm4 hn hn0;have q2:=cm4 hm hm0;unfold ln7;simp only[List.map_cons,List.map_nil];rw[db9 (Y9 (by decide)) hN,db9 (Y9 (by decide)) hN,c14 (Y9 (by decide)) hN hS,d37 (Y9 (by decide)) hN hS hT,d37 (Y9 (by decide)) hN hS hT,c14 (Y9 (by decide)) hN hS,c14 (Y9 (by decide)) hN hS];rw[p1,p2,q1,q2];rw[if_pos rfl,if_neg (by decide:¬S4=b64),if_pos rfl,if_pos rfl,if_pos rfl,if_neg (by decide:¬bg7=b84),if_pos rfl,if_neg (by decide:¬Z3=bc6),if_neg (by decide:¬Z3=V3),if_pos rfl,if_neg (by decide:¬V3=bc6),if_pos rfl];rfl
end Go.Zz
namespace Go.Zz
open Go.RowKit Go.Proofs
set_option maxHeartbeats 1000000
set_option maxRecDepth 4000
def nm6:List ByteArray:=[⟨#[53]⟩,⟨#[54]⟩,⟨#[50,120,50]⟩,⟨#[55]⟩,⟨#[50,120,52]⟩,⟨#[51,120,51]⟩]
theorem d97{n:Int}(h:0<n∧n<10):j0 n=strOfNums [48+n]:=by
 obtain⟨m,rfl⟩:=Int.eq_ofNat_of_zero_le (show 0≤n by omega);exact d53 (by omega) (by omega)
theorem cr6{a:Int}(h:c9 [a]=true)(ha:0<a∧a<10):fgF [a]=⟨#[]⟩++strOfNums [48+a]:=by
 unfold fgF;rw[if_pos h,if_neg (by simp)];show ⟨#[]⟩++j0 a=_;rw[d97 ha]
theorem cr7{a b:Int}(h:c9 [a,b]=true)(ha:0<a∧a<10)(hb:0<b∧b<10):fgF [a,b]=((⟨#[]⟩++strOfNums [48+a])++ex)++strOfNums [48+b]:=by
 unfold fgF;rw[if_pos h,if_neg (by simp)];show ((⟨#[]⟩++j0 a)++ex)++j0 b=_;rw[d97 ha,d97 hb]
theorem six(j:Nat)(h:j<6):∃l,c9 l=true∧¬l.length=0∧ord l≤9∧fgF l=m6 nm6 j:=by
 rcases (by omega:j=0∨j=1∨j=2∨j=3∨j=4∨j=5) with rfl | rfl | rfl | rfl | rfl | rfl
 · exact⟨[5],by decide,by decide,by decide,by rw[cr6 (by decide) (by omega)];decide⟩
 · exact⟨[6],by decide,by decide,by decide,by rw[cr6 (by decide) (by omega)];decide⟩
 · exact⟨[2,2],by decide,by decide,by decide,by rw[cr7 (by decide) (by omega) (by omega)];decide⟩
 · exact⟨[7],by decide,by decide,by decide,by rw[cr6 (by decide) (by omega)];decide⟩
 · exact⟨[2,4],by decide,by decide,by decide,by rw[cr7 (by decide) (by omega) (by omega)];decide⟩
 · exact⟨[3,3],by decide,by decide,by decide,by rw[cr7 (by decide) (by omega) (by omega)];decide⟩
theorem do3(j:Nat):(m6 nm6 j).size≤3:=by
 by_cases h:j<6
 · rcases (by omega:j=0∨j=1∨j=2∨j=3∨j=4∨j=5) with rfl | rfl | rfl | rfl | rfl | rfl<;>decide
 · have:m6 nm6 j=⟨#[]⟩:=by
    unfold m6;have e:nm6[j]?=none:=List.getElem?_eq_none (by show 6≤j;omega);simp[List.getD,e]
   rw[this];decide
theorem cm0{l:List Int}{n:Nat}(h:d8 l n=true)(ho:ord l≤9):(fsF l n).size≤126:=by
 obtain⟨m,e,-,hm,-⟩:=m3 h;obtain⟨m',e',hm',-⟩:=m3 h;have hn:n<2 ^ 9:=by
  have h1:n<2 ^ ord l:=by omega
  exact Nat.lt_of_lt_of_le h1 (Nat.pow_le_pow_right (by omega) ho)
 have hk:∀n<512,(j1 n).length≤9:=by decide +kernel
 have hl:=hk n (by omega);rw[Y5 h];unfold I0;split
 · decide
 · have:=Q1 P5 (fun i=>j0 (nth (d6 (j1 n)) i)) (by decide) (d6 (j1 n)).length fun i hi=>j5 (W6 n i hi);rw[j8] at this;rw[j8];omega
def tx7(nm s t:ByteArray):ByteArray:=(⟨#[103,114,111,117,112,32]⟩:ByteArray)++nm++⟨#[10,101,120,116,114,101,109,97,108,32]⟩++nm++⟨#[10,115,101,116,32]⟩++nm++⟨#[32]⟩++s++⟨#[10,112,97,105,114,32]⟩++nm++⟨#[32]⟩++s++⟨#[32]⟩++t++⟨#[10,115,117,109,32]⟩++nm++⟨#[32]⟩++s++⟨#[32]⟩++t++⟨#[10,116,105,108,101,32]⟩++nm++⟨#[32]⟩++s++⟨#[10,116,105,108,101,115,32]⟩++nm++⟨#[32]⟩++s++⟨#[10]⟩
theorem j42(x y z:ByteArray):tx7 x y z=tx [sp b64 x,sp S4 x,sp (sp bc6 x) y,sp (sp (sp b84 x) y) z,sp (sp (sp bg7 x) y) z,sp (sp Z3 x) y,sp (sp V3 x) y]:=by
 have hE:∀(u v:ByteArray),u.data.toList=v.data.toList→u=v:=fun u v=>R1;refine hE _ _ ?_;clear hE;unfold tx7;simp only[tx,sp];simp only[cq4,nlB,mtB,b64,S4,bc6,b84,bg7,Z3,V3];generalize x.data.toList=x;generalize y.data.toList=y;generalize z.data.toList=z;simp only[List.append_assoc];simp only[List.cons_append,List.nil_append,List.append_nil]
theorem j43(l:List Int)(a b:Int):tx7 (fgF l) (fsF l a) (fsF l b)=tx (ln7 l a b):=j42 _ _ _
theorem dr3{nm s t:ByteArray}(h1:nm.size≤3)(h2:s.size≤126)(h3:t.size≤126):(tx7 nm s t).size≤2000:=by
 unfold tx7;simp only[ByteArray.size_append,o8,List.length_cons,List.length_nil];omega
theorem ct7(B:Nat)(s:ByteArray)(f:Nat→ByteArray)(hs:s.size≤1):∀k,(∀i,i<k→(f i).size≤B)→(jn s f k).size≤(B+1)*k
 | 0,_=>Nat.zero_le _
 | k+1,h=>by
  have h1:=ct7 B s f hs k (fun i hi=>h i (by omega))
  have h2:=h k (by omega)
  have e:(B+1)*(k+1)=(B+1)*k+(B+1):=Nat.mul_succ _ _
  unfold jn
  split
  · rw[ByteArray.size_append,ByteArray.size_append];omega
  · rw[ByteArray.size_append];omega
theorem du7(l xs:List Int):(fqF l xs).size≤400:=by
 cases hs:L2 l xs
 · rw[bs3 hs];decide
 · obtain⟨X,rfl,-,hX12,-,hX⟩:=bc4 hs;by_cases h0:X.length=0
   · rw[ba8 hs (by rw[j8];exact h0)];decide
   · rw[bi1 hs h0];have hfl:=b44 X X.length;have:=ct7 27 sp1 (m6 (fqL X X.length)) (by decide) (fqL X X.length).length (fun i hi=>b45 (X:=X) (by omega) hX X.length (Nat.le_refl _) _ (N4 hi));omega
theorem ct0(l:List Int):(W2 l).size≤4000:=by
 cases hgr:c9 l
 · rw[ct3 hgr];decide
 rw[bx6 hgr];unfold bs7;have hob:=l8 hgr;have hex:=b42 hgr (Nat.le_refl l.length);have hsg:=by3 hgr;have hdv:=c26 hgr;have hca:=cp2 l;have sA:=bs1 l;have sB:=j5 (n:=((ord l:Nat):Int)) (by omega);have sC:=j5 (n:=((W1 l:Nat):Int)) (by unfold W1;omega);have sD:=j5 (n:=(((sgL l).length:Nat):Int)) (by omega);have sE:=j5 (n:=((N8 dvT (K6 l):Nat):Int)) (by omega);have sF:=j5 (n:=caF l) (by omega);cases decide (ord l≤9)<;>cases X8 (ord l)<;>simp only[ByteArray.size_append,o8,List.length_cons,List.length_nil,↓reduceIte,Bool.false_eq_true]<;>omega
theorem cy3(l:List Int)(a:Int):(stlF l a).size≤4000:=by
 cases hs:d8 l a
 · rw[cy4 hs];decide
 obtain⟨n,rfl,h1,h2,hgr⟩:=m3 hs;rw[by4 hs];unfold ce6;have hcn:=p7 n;have hgi:=cc0 l n;have hlp:=cu1 l n;have hen:0≤enF l n n∧enF l n n≤7962624:=by
  rw[b17 (by rw[hs];rfl)];have:=Z2 hgr n n (ord l);have:=l8 hgr;omega
 have sA:=b19 l n;have sB:=j5 (n:=((cnt n:Nat):Int)) (by omega);have sC:=c52 l n;have sD:=b19 l (C7 l n:Nat);have sE:=b81 hgi.1 hgi.2;have sF:=j5 (n:=enF l n n) (by omega);have sG:=j5 (n:=((lpF l n:Nat):Int)) (by omega);cases decide (j3 l n n &&& n=0)<;>cases sidB l n<;>cases apB l n<;>cases ba1 l n<;>simp only[ByteArray.size_append,o8,List.length_cons,List.length_nil,↓reduceIte,Bool.false_eq_true]<;>omega
theorem d68(l:List Int)(a b:Int):(plF l a b).size≤4000:=by
 cases hf:p8 l a b
 · rw[da4 hf];decide
 have hf':=hf;obtain⟨m,n,rfl,rfl,h3,h4,a1,a2,ha,hb',hgr,-,-⟩:=I4 hf;rw[c83 hf'];unfold plG;have hob:=l8 hgr;have hss:=F5 hgr m n;have hcs:=p7 (j3 l m n);have hk0:0≤knI l m n∧knI l m n≤48:=by
  rw[bi7 hf'];have h5:=bx8 (b:=n) hgr h3 a1;have h6:=p7 (j3 l m (C7 l (j3 l m n)));have h7:=p7 (j3 l n (C7 l (j3 l m n)));refine⟨h5,?_⟩;unfold knF;omega
 have hen:0≤enF l m n∧enF l m n≤7962624:=by
  rw[b17 (by have:=hf';unfold p8 at this;simp only[Bool.and_eq_true] at this;rw[this.1.1.1,this.1.1.2];rfl)];have:=Z2 hgr m n (ord l);omega
 have sA:=l6 l (j3 l m n:Nat);have sB:=j5 (n:=((cnt (j3 l m n):Nat):Int)) (by omega);have sC:=j5 (n:=knI l m n) (by omega);have sD:=c33 l m n;have sE:=j5 (n:=enF l m n) (by omega);cases drF l m n<;>cases Y1 l m n<;>simp only[ByteArray.size_append,o8,List.length_cons,List.length_nil,↓reduceIte,Bool.false_eq_true]<;>omega
theorem cz7(l:List Int)(a:Int):(Y2 l a).size≤4000:=by
 cases ho:q6 l a
 · rw[cz8 ho];decide
 rw[by5 ho];unfold bw4;have hN:=cz5 l a;have hM:=c37 l a;have sA:=j5 (n:=((tlN l a:Nat):Int)) (by omega);have sB:=l6 l (ftV l a);have sC:=l6 l (K9 l a);have sD:=j5 (n:=M8 l a) (by omega);cases ftB l a<;>cases hpF l a (ftV l a)<;>simp only[ByteArray.size_append,o8,List.length_cons,List.length_nil,↓reduceIte,Bool.false_eq_true]<;>omega
theorem d49(l:List Int):(elF l).size≤4000:=by
 cases h:lzB l
 · rw[br7 h];decide
 rw[bx1 h];have sA:=du7 l (d6 (lzL l));have sB:=l6 l (lgV (I1 l) l 16:Nat);have sC:=l6 l (lgV (sidP l) l 13:Nat);have sD:=l6 l (lgV (apP l) l 11:Nat);simp only[ByteArray.size_append,o8,List.length_cons,List.length_nil];omega
theorem bi0(k:Int)(g o:List Int)(a b s p:Int)(t q:List Int)(n:Int):(fcF k g o a b s p t q n).size≤4000:=by
 have cw:=fun k=>I2 k;have c1:=cw 1;have c2:=cw 2;have c3:=cw 3;have c4:=cw 4;have c5:=cw 5;have c6:=cw 6;have c7:=cw 7;have cg1:=q8 g;have cg2:=q8 o;have ct1:=o4 t;have cq1:=o4 q;have csa:=l6 g a;have csb:=l6 g b;have css:=l6 g s;have csp:=l6 g p;have cn1:=j5 (B9 n);unfold fcF;(repeat' split)<;>(try rw[cond_eq_ite])<;>(repeat' split)<;>simp only[ByteArray.size_append,o8,List.length_cons,List.length_nil]<;>omega
theorem j37{l:List Int}{a:Int}(h:ftB l a=false):b08 l a=mtB:=by
 unfold b08;rw[h];rfl
theorem dy4{l:List Int}{n:Nat}(h:ftB l n=true):¬b08 l n=mtB:=by
 have h1:q6 l n=true:=by
  cases e:q6 l n
  · rw[(c66 e).1] at h;cases h
  · rfl
 obtain⟨m,e0,h0,hm,-,hg⟩:=bm2 h1;have e0':n=m:=by omega
 subst e0';unfold b08;rw[h,if_pos rfl,if_pos rfl,if_pos rfl];cases hL:K1 l n 1 with
 | nil=>rw[(cs7 hL).1] at h;cases h
 | cons x L =>
  rw[(cs8 h1 hL).2];have c1:cnt 1=1:=by decide
  obtain⟨t1,-,-⟩:=cz6 hg h0 hm (ord l+1) n 1 1 hm (bu0 hg) (dy2 hg hm).symm (by rw[c1,Nat.mul_one]) x (by show x∈K1 l n 1;rw[hL];simp);have ha:J1 l [(n:Int),(x:Int)]=true:=by
   unfold J1;simp[O5 hg hm,O5 hg t1,hg]
  unfold fcF;rw[if_neg (by omega),if_neg (by omega),if_neg (by omega),if_pos rfl,ha];intro e;have hs:=congrArg ByteArray.size e;have e1:(⟨#[32]⟩:ByteArray).size=1:=rfl;have e2:mtB.size=0:=rfl;simp only[cond_true,ByteArray.size_append,e1,e2] at hs;omega
theorem j06{l:List Int}(h:c9 l=true):¬W2 l=mtB:=by
 intro e;have hs:=congrArg ByteArray.size e;rw[bx6 h] at hs;unfold bs7 at hs;have e2:mtB.size=0:=rfl;have e1:(⟨#[103,114,111,117,112,32]⟩:ByteArray).size=6:=rfl;revert hs;cases decide (ord l≤9)<;>cases X8 (ord l)<;>intro hs<;>simp only[ByteArray.size_append,e1,e2,↓reduceIte,Bool.false_eq_true] at hs<;>omega
theorem j34{l:List Int}{n:Nat}(h:d8 l n=true):¬stlF l n=mtB:=by
 intro e;have hs:=congrArg ByteArray.size e;rw[by4 h] at hs;unfold ce6 at hs;have e2:mtB.size=0:=rfl;have e1:(⟨#[115,101,116,32]⟩:ByteArray).size=4:=rfl;revert hs;cases decide (j3 l n n &&& n=0)<;>cases sidB l n<;>cases apB l n<;>cases ba1 l n<;>intro hs<;>simp only[ByteArray.size_append,e1,e2,↓reduceIte,Bool.false_eq_true] at hs<;>omega
theorem j56{l:List Int}{m n:Nat}(h:p8 l m n=true):¬plF l m n=mtB:=by
 intro e;have hs:=congrArg ByteArray.size e;rw[c83 h] at hs;unfold plG at hs;have e2:mtB.size=0:=rfl;have e1:(⟨#[112,97,105,114,32,115,117,109,32]⟩:ByteArray).size=9:=rfl;revert hs;cases drF l m n<;>cases Y1 l m n<;>intro hs<;>simp only[ByteArray.size_append,e1,e2,↓reduceIte,Bool.false_eq_true] at hs<;>omega
theorem j40{l:List Int}{a:Int}(h:q6 l a=true):¬Y2 l a=mtB:=by
 intro e;have hs:=congrArg ByteArray.size e;rw[by5 h] at hs;unfold bw4 at hs;have e2:mtB.size=0:=rfl;have e1:(⟨#[116,105,108,101,115,32]⟩:ByteArray).size=6:=rfl;revert hs;cases ftB l a<;>cases hpF l a (ftV l a)<;>intro hs<;>simp only[ByteArray.size_append,e1,e2,↓reduceIte,Bool.false_eq_true] at hs<;>omega
theorem j51{l:List Int}(h:lzB l=true):¬elF l=mtB:=by
 intro e;have hs:=congrArg ByteArray.size e;rw[bx1 h] at hs;have e2:mtB.size=0:=rfl;have e1:(⟨#[101,120,116,114,101,109,97,108,32,102,114,101,101,32]⟩:ByteArray).size=14:=rfl;simp only[ByteArray.size_append,e1,e2] at hs;omega
end Go.Zz
namespace Go.Zz
open Go.RowKit Go.Proofs
set_option maxHeartbeats 2000000
set_option maxRecDepth 8000
theorem dg8(s:ByteArray)(w:World)(hs:s.size≤100000) :
 Calls Tryz.prog 168 #[.string b64,.string s] w fun e w'=>e=.returned (.tuple #[.string (W2 (pgV s)),.bool (pgB s)])∧Ext w w':=by
 have q0:(b64.toList == [103,114,111,117,112])=true:=by rw[ByteArray.toList_eq];decide
 obtain⟨l,hld⟩:∃l,l=pgV s:=⟨_,rfl⟩;obtain⟨bb,hbd⟩:∃b,b=pgB s:=⟨_,rfl⟩;have cG:=fun W=>N1 s W hs;rw[←hld,←hbd] at cG ⊢;obtain⟨S,hS⟩:∃S,S=W2 l:=⟨_,rfl⟩;rw[←hS];have cL:=fun v W h=>ck6 v l W h;rw[←hS] at cL;clear hS hld hbd;go_enter Tryz.func168,Tryz.ntmps168;go_wp2_with (first | (go_at_call 170;refine (cG _).mono ?_;rintro e w1 ⟨v,rfl,hI,hE⟩;obtain⟨ao,c,adr,rfl,-,-,-⟩:=hI.op;have HI:=Lib.hid (hI.ext ((Ext.refl w1).alloc (.cells #[.slice ao l.length c] 28)));have hEg:=hE.alloc (.cells #[.slice ao l.length c] 28);have zg:=(Blk.new w1 28 #[.slice ao l.length c]).cell (i:=0) (v:=.slice ao l.length c) rfl) | (go_at_call 28;refine (cL _ _ HI.out).mono ?_;rintro e w2 ⟨rfl,hE2⟩));exact bodyPost_ret (v:=.tuple #[.string S,.bool bb]) (by simp[results,Tryz.results168,go_sem]) rfl ⟨rfl,hEg.trans hE2⟩
theorem cv3(s:ByteArray)(w:World)(hs:s.size≤100000) :
 Calls Tryz.prog 168 #[.string S4,.string s] w fun e w'=>e=.returned (.tuple #[.string (elF (pgV s)),.bool (pgB s)])∧Ext w w':=by
 have q0:(S4.toList == [103,114,111,117,112])=false:=by rw[ByteArray.toList_eq];decide
 have q1:(S4.toList == [101,120,116,114,101,109,97,108])=true:=by rw[ByteArray.toList_eq];decide
 obtain⟨l,hld⟩:∃l,l=pgV s:=⟨_,rfl⟩;obtain⟨bb,hbd⟩:∃b,b=pgB s:=⟨_,rfl⟩;have cG:=fun W=>N1 s W hs;rw[←hld,←hbd] at cG ⊢;obtain⟨S,hS⟩:∃S,S=elF l:=⟨_,rfl⟩;rw[←hS];have cL:=fun v W h=>c13 v l W h;rw[←hS] at cL;clear hS hld hbd;go_enter Tryz.func168,Tryz.ntmps168;go_wp2_with (first | (go_at_call 170;refine (cG _).mono ?_;rintro e w1 ⟨v,rfl,hI,hE⟩;obtain⟨ao,c,adr,rfl,-,-,-⟩:=hI.op;have HI:=Lib.hid (hI.ext ((Ext.refl w1).alloc (.cells #[.slice ao l.length c] 28)));have hEg:=hE.alloc (.cells #[.slice ao l.length c] 28);have zg:=(Blk.new w1 28 #[.slice ao l.length c]).cell (i:=0) (v:=.slice ao l.length c) rfl) | (go_at_call 33;refine (cL _ _ HI.out).mono ?_;rintro e w2 ⟨rfl,hE2⟩));exact bodyPost_ret (v:=.tuple #[.string S,.bool bb]) (by simp[results,Tryz.results168,go_sem]) rfl ⟨rfl,hEg.trans hE2⟩
end Go.Zz
