/- Longest sequences no part of which has the sum zero: the program. -/
import Derived.Test.YtnnbhcalddkmmaaGreatGr24
import Derived.Test.YtnnbhcalddkmmaaGreatGr16
import Derived.Laws.EntriesVeiled
import Derived.Test.YtnnbhcalddkmmaaGreatGr6
import Derived.Deep.RegionHeld3
import Derived.Deep.RegionWith
import Derived.Test.YtnnbhcalddkmmaaGreatGr22
import Derived.Test.YtnnbhcalddkmmaaGreatGr10
import Derived.Test.YtnnbhcalddkmmaaGreatGr8
import Derived.Test.YtnnbhcalddkmmaaGreatGr4
set_option linter.unusedSimpArgs false
set_option linter.unusedVariables false
set_option linter.unnecessarySimpa false
namespace Go.Zz
open Go.RowKit Go.Proofs
set_option maxHeartbeats 2000000
set_option maxRecDepth 8000
theorem c8.fw{w w':World}{v:Value}{l:List Int}{b:Nat}{T:TypeId}{ao:Option Addr}{n c:Nat}(h:c8 w v l)(hB:Blk w b T #[.slice ao n c])(hF:Fw (fun k=>k=b) w w'):c8 w' v l:=by
 obtain⟨a,k,rfl,h1,h2,h3⟩:=h;refine⟨a,k,rfl,h1,h2,fun i hi=>?_⟩;obtain⟨p,rfl,hc⟩:=h3 i hi;refine⟨p,rfl,?_⟩;have hlt:=World.block_lt_of_cell? w _ hc;have hne:(p.add i).block≠b:=fun e=>by
  have hB':w.heap[b]?=some (.cells #[.slice ao n c] T (0,0)):=hB
  have h0:=hc
  unfold World.cell? at h0
  rw[e,hB'] at h0
  simp only at h0
  split at h0
  · cases h0
  · cases hq:(p.add i).off with
    | zero=>rw[hq] at h0;simp at h0
    | succ j=>rw[hq] at h0;simp at h0
 rw[World.cell?_of_block (w:=w) (hF.block _ hlt hne)];exact hc
def Bx(b:Nat)(k:Nat):Prop:=k=b
theorem dk1(X B:List Nat)(S:Int)(aoX aoB:Option Addr)(cX cB bB:Nat)(w:World)(hB:Blk w bB 26 #[.slice aoB B.length cB])(hX:X.length≤24)(hBl:B.length≤24) :
 Calls Tryz.prog 248 #[.slice aoX X.length cX,.int .i64 S,.pointer (some ⟨bB,0,none⟩)] w fun e w'=>e=.returned (.tuple #[])∧Blk w' bB 26 #[if B.length<X.length then .slice aoX X.length cX else .slice aoB B.length cB]∧Fw (Bx bB) w w':=by
 have k0:=hB.cell (i:=0) (v:=.slice aoB B.length cB) rfl;have f0:=hB.free 0;by_cases hq:B.length<X.length
 · have hB2:Blk (w.setCell ⟨bB,0,none⟩ (.slice aoX X.length cX)) bB 26 #[.slice aoX X.length cX]:=hB.set 0 _;have hF:=Z8 (S:=Bx bB) rfl w 0 (.slice aoX X.length cX);have hqI:((B.length:Nat):Int)<((X.length:Nat):Int):=(by omega);have Hq:=Lib.hid hq;clear hB hq;go_enter Tryz.func248,Tryz.ntmps248;go_wp2_with fail;go_end0;exact⟨rfl,hB2,hF⟩
 · have hqI:¬((B.length:Nat):Int)<((X.length:Nat):Int):=(by omega);have Hq:=Lib.hid hq;clear hq;go_enter Tryz.func248,Tryz.ntmps248;go_wp2_with fail;go_end0;exact⟨rfl,hB,Fw.refl _ _⟩
def frm(X:List Nat):Nat:=if X.length=0 then 1 else d5 X (X.length - 1)
theorem cs2(X:List Nat)(k:Nat):frm (X++[k])=k:=by
 unfold frm;simp[d5,List.getD]
theorem dk3{l:List Int}(hg:c9 l=true)(f:Nat)(X:List Nat)(S m:Nat)(b:List Nat)(hS:S<2 ^ ord l)(h0:S.testBit 0=false)(hX:∀x∈X,x<ord l)(hl:X.length≤cnt S)(hb:b.length≤24):(zfI l f X S m b).length≤24:=by
 rw[dk2];split
 · exact (dk6 hg f X S m hS h0 hX hl).2
 · exact hb
theorem j47(v:Value)(l:List Int)(Hgr:Hid (c9 l=true))(W0:World)(bB:Nat)(h0B:W0.heap.size≤bB)(HI:Hid (∀W,Ext W0 W→c8 W v l)) :
 ∀(f:Nat) (X B:List Nat) (S m:Nat) (aoX aoB:Option Addr) (cX cB:Nat) (w:World),Ext W0 w→c8 w (.slice aoX X.length cX) (d6 X)→Blk w bB 26 #[.slice aoB B.length cB]→c8 w (.slice aoB B.length cB) (d6 B)→B.length≤24→S<2 ^ ord l→S.testBit 0=false→frm X=m→m≤ord l→ord l<cnt S+f→X.length≤cnt S→(∀x∈X,x<ord l) →
 Calls Tryz.prog 247 #[.agg #[v],.slice aoX X.length cX,.int .i64 S,.func (.func 248) #[] #[.pointer (some ⟨bB,0,none⟩)]] w fun e w'=>e=.returned (.tuple #[])∧∃ao c,Blk w' bB 26 #[.slice ao (zfI l f X S m B).length c]∧c8 w' (.slice ao (zfI l f X S m B).length c) (d6 (zfI l f X S m B))∧Fw (Bx bB) w w':=by
 intro f;induction f with
 | zero=>intro X B S m aoX aoB cX cB w hW hX hBk hIB hBl hS h0 hfr hm hf;have:=bh6 Hgr.out hS;omega
 | succ f ih =>
  intro X B S m aoX aoB cX cB w hW hX hBk hIB hBl hS h0 hfr hm hf hXl hXo;have hob:=l8 Hgr.out;have hp24:=E1 Hgr.out;have hS24:S<2 ^ 24:=Nat.lt_of_lt_of_le hS hp24;have hcS:=p7 S;have hX24:X.length≤24:=by omega
  obtain⟨wb,hwb⟩:∃wb,wb=w.alloc (.cells #[v] 28):=⟨_,rfl⟩;have hE0:Ext w wb:=by rw[hwb];exact (Ext.refl _).alloc _
  have BG:Blk wb w.heap.size 28 #[v]:=by rw[hwb];exact Blk.new _ _ _
  have hne:w.heap.size≠bB:=by have:=hBk.lt;omega
  have Hwb:=Lib.hid hwb;have Hih:=Lib.hid ih;have hBk1:=hBk.ext hE0;have hX1:=hX.ext hE0;have hIB1:=hIB.ext hE0;have hW1:=hW.trans hE0;have HF0:=Lib.hid (hE0.fw (Bx bB));clear ih hX hBk hIB hwb hE0;have He:=Lib.hid (dk4 l f X S m B);have Hst:=Lib.hid (d36 l f X S m B);have cV:=dk1 X B S aoX aoB cX cB bB wb hBk1 hX24 hBl;have hS0:∀k,Bx bB k→W0.heap.size≤k:=fun k hk=>by rw[hk];exact h0B
  have HfK:Hid (∀w1,Blk w1 bB 26 #[if B.length<X.length then .slice aoX X.length cX else .slice aoB B.length cB]→Fw (Bx bB) wb w1→∃ao0 c0,Blk w1 bB 26 #[.slice ao0 (G2 l f X S m B m).length c0]∧c8 w1 (.slice ao0 (G2 l f X S m B m).length c0) (d6 (G2 l f X S m B m))∧(G2 l f X S m B m).length≤24):=Lib.hid fun w1 hB1 hF1=>by
   rw[Hst.out]
   by_cases hq:B.length<X.length
   · rw[if_pos hq] at hB1
     rw[if_pos hq]
     exact⟨aoX,cX,hB1,hX1.fw hBk1 hF1,hX24⟩
   · rw[if_neg hq] at hB1
     rw[if_neg hq]
     exact⟨aoB,cB,hB1,hIB1.fw hBk1 hF1,hBl⟩
  by_cases hXe:X.length=0
  · have Hm:Hid ((1:Int)=(m:Int)):=Lib.hid (by rw[←hfr];unfold frm;rw[if_pos hXe];rfl);have hxI:¬(0:Int)<((X.length:Nat):Int):=(by omega);clear hXe;go_enter Tryz.func247,Tryz.ntmps247;go_wp2_with fail;rw[←Hwb.out];refine cV.mono ?_;rintro e w1 ⟨rfl,hBv,hFv⟩;obtain⟨ao0,c0,hK0⟩:=HfK.out w1 hBv hFv;have HK0:=Lib.hid hK0;have HF1:=Lib.hid hFv;clear hBv hFv hK0 cV HfK;go_wp2_with fail;obtain⟨d17,hd17⟩:∃d:Bool,d=decide (0<X.length):=⟨_,rfl⟩;rw[←hd17];clear hd17 hxI;go_loopw [9] (fun xv wr=>∃(k:Nat) (ao:Option Addr) (c:Nat),m≤k∧k≤ord l∧xv=.int .i64 k∧Blk wr bB 26 #[.slice ao (G2 l f X S m B k).length c]∧c8 wr (.slice ao (G2 l f X S m B k).length c) (d6 (G2 l f X S m B k))∧(G2 l f X S m B k).length≤24∧Fw (Bx bB) wb wr) (fun xv _=>ord l - (intOf xv).toNat);(case atStart=>exact⟨m,ao0,c0,Nat.le_refl _,hm,by first | rfl | rw[Hm.out],HK0.out.1,HK0.out.2.1,HK0.out.2.2,HF1.out⟩);case round =>
     obtain⟨k,aoR,cR,hk1,hk2,rfl,hBR,hIR,hRl,hF⟩:=hrel;have hEr:=hF.ext hW1 hS0;have BGr:=hF.blk BG hne;have HXr:=Lib.hid (hX1.fw hBk1 hF);have kG:∀W,Ext wr W→W.cell? ⟨w.heap.size,0,none⟩=some v:=fun W hW=>(BGr.ext hW).cell (i:=0) rfl;have cO:=m9 v l wr (HI.out _ hEr) Hgr;have hEr0:=Ext.refl wr;have HFr:=Lib.hid hF;have HBR:=Lib.hid hBR;have HIR:=Lib.hid hIR;clear hF hBR hIR;by_cases hlt:k<ord l
     · have hk24:k<24:=(by omega);have hN:=c78 Hgr.out hS hlt;have hNc:=bm8 Hgr.out hS h0 hlt;have hN24:nxS l S k<2 ^ 24:=Nat.lt_of_lt_of_le hN hp24;have hsh:=M5 Hgr.out S k;have q1:=p0 (n:=k) (by omega);have q2:ior (S:Int) (j2 l S k:Int)=((S ||| j2 l S k:Nat):Int):=Q0 (by omega) (by omega);have q3:ior ((S ||| j2 l S k:Nat):Int) ((pw k:Nat):Int)=((nxS l S k:Nat):Int):=F8 (Nat.or_lt_two_pow hS24 hsh) hk24;have Hno:=Lib.hid (fun h=>d01 (l:=l) (f:=f) (X:=X) (S:=S) (m:=m) (k:=k) (b:=B) h);have Hye:=Lib.hid (fun h=>cj5 (l:=l) (f:=f) (X:=X) (S:=S) (m:=m) (k:=k) (b:=B) hk1 h);obtain⟨N,hNd⟩:∃N,N=nxS l S k:=⟨_,rfl⟩;rw[←hNd] at hN hNc hN24 q3 Hno Hye;have cS:=fun W (hW:Ext wr W)=>J9 v l S k W (HI.out _ (hEr.trans hW)) Hgr hS24 hk24;clear hNd;go_wp2_with (go_at_call 99;refine cO.mono ?_;rintro e1 w1 ⟨rfl,hE1⟩);have hbx:=fun U=>kG _ (hE1.trans (b9 w1 U));have hE:=Ext.refl w1;(refine d0 (w1) (by kernel_rfl) (by kernel_rfl) hE ?_);(repeat (go_big_quiet_step (first | (go_at_call 220;exact Calls.lat (cS _ (hE1.trans (b9 w1 _)))))));(refine wpQuiet_nil ?_);(intro W hE');(replace hE:=l7 hE');(clear hE');rename World=>w2;have hE2:=hE1.trans hE;clear hbx cS;cases ht:N.testBit 0
       · have cI:=fun W=>V1 N 0 hN24 (by omega) W ht;have hEW2:=hEr.trans hE2;have BG2:=BGr.ext hE2;have hkk:(X++[k]).length=X.length+1:=(by simp);have hXo2:∀x∈X++[k],x<ord l:=by
          intro y hy;rw[List.mem_append,List.mem_singleton] at hy;rcases hy with hy | rfl
          · exact hXo y hy
          · exact hlt
         have hcR:∀W aoN cN,Ext w2 W→c8 W (.slice aoN (X.length+1) cN) (d6 (X++[k]))→Calls Tryz.prog 247 #[.agg #[v],.slice aoN (X.length+1) cN,.int .i64 N,.func (.func 248) #[] #[.pointer (some ⟨bB,0,none⟩)]] W fun e w'=>e=.returned (.tuple #[])∧∃ao c,Blk w' bB 26 #[.slice ao (G2 l f X S m B (k+1)).length c]∧c8 w' (.slice ao (G2 l f X S m B (k+1)).length c) (d6 (G2 l f X S m B (k+1)))∧Fw (Bx bB) W w':=fun W aoN cN hW hI=>by
          have q:=Hih.out (X++[k]) (G2 l f X S m B k) N k aoN aoR cN cR W (hEW2.trans hW) (by rw[hkk];exact hI) (HBR.out.ext (hE2.trans hW)) (HIR.out.ext (hE2.trans hW)) hRl hN ht (cs2 X k) (by omega) (by omega) (by rw[hkk];omega) hXo2
          rw[hkk,←Hye.out ht] at q
          exact q
         have hRl2:(G2 l f X S m B (k+1)).length≤24:=by
          rw[Hye.out ht];exact dk3 Hgr.out f (X++[k]) N k _ hN ht hXo2 (by rw[hkk];omega) hRl
         have HX2:=Lib.hid (fun W (hW:Ext w2 W)=>HXr.out.ext (hE2.trans hW));have hln:(d6 X).length+[(k:Int)].length≤17592186044416:=(by rw[j8];simp;omega);have kG2:∀W,Ext w2 W→W.cell? ⟨w.heap.size,0,none⟩=some v:=fun W hW=>kG _ (hE2.trans hW);have hFw2:=Lib.hid (HFr.out.trans (hE2.fw (Bx bB)));clear ht hkk hXo2 kG hE1;replace hE:=Ext.refl w2;go_wp2_with (go_at_call 225;refine (cI _).mono ?_;rintro e' w' ⟨rfl,hw'⟩;subst hw');first | (go_region_held3 (fun W=>W.cell? ⟨w.heap.size,0,none⟩=some v) (first | exact hG5 | exact kG2 _ (by repeat (first | (with_reducible assumption) | (with_reducible exact Ext.refl _) | (with_reducible apply Ext.drew) | (with_reducible apply Ext.alloc) | (with_reducible (apply And.left;assumption))))) (first | (go_at_call 212;(with_reducible refine Calls.mono (Calls.sh (b26 _ _ _ (HX2.out _ (by repeat (first | (with_reducible assumption) | (with_reducible exact Ext.refl _) | (with_reducible apply Ext.drew) | (with_reducible apply Ext.alloc) | (with_reducible (apply And.left;assumption))))))) ?_);rintro eC wC ⟨aoC,cC,rfl,hOC,hXC⟩;have hHC:=Ext.trans (a:=w2) (by repeat (first | (with_reducible assumption) | (with_reducible exact Ext.refl _) | (with_reducible apply Ext.drew) | (with_reducible apply Ext.alloc) | (with_reducible (apply And.left;assumption)))) hXC;have hOC2:=hOC.mono (show Ext w2 _ by repeat (first | (with_reducible assumption) | (with_reducible exact Ext.refl _) | (with_reducible apply Ext.drew) | (with_reducible apply Ext.alloc) | (with_reducible (apply And.left;assumption))))) | (go_at_call 247;(with_reducible refine Calls.mono (hcR _ _ _ (by repeat (first | (with_reducible assumption) | (with_reducible exact Ext.refl _) | (with_reducible apply Ext.drew) | (with_reducible apply Ext.alloc) | (with_reducible (apply And.left;assumption)))) (Own.ints (by repeat (first | (with_reducible exact hON) | (with_reducible apply Own.alloc) | (with_reducible apply Own.drew))))) ?_);rintro eF wF ⟨rfl,aoF,cF,hBF,hIF,hFF⟩;have hG5:=(hFF.blk (BG2.ext (by repeat (first | (with_reducible assumption) | (with_reducible exact Ext.refl _) | (with_reducible apply Ext.drew) | (with_reducible apply Ext.alloc) | (with_reducible (apply And.left;assumption))))) hne).cell (i:=0) (v:=v) rfl) | (have hOq:=hOC2;refine M6 slI rfl _ _ rfl w2 w2 _ _ (d6 X) [(k:Int)] (Or.inr (by first | exact hOq | exact hOq.alloc _ | exact (hOq.alloc _).drew)) (Blk.ints1 (T:=3) (by repeat (first | (with_reducible assumption) | (with_reducible exact Blk.new _ _ _) | ((with_reducible refine Blk.new' ?_);simp[go_sem];done) | (with_reducible apply Blk.alloc) | (with_reducible apply Blk.drew) | (with_reducible refine Blk.ext ?_ hXC)))) (by repeat (first | (with_reducible assumption) | (with_reducible exact Ext.refl _) | (with_reducible apply Ext.drew) | (with_reducible apply Ext.alloc) | (with_reducible (apply And.left;assumption)))) hln rfl rfl ?_;intro vD wD hOD hXD hTD;obtain⟨aoN,cN,rfl,hON,hEN⟩:=NxP.of hOD hXD))) | (fail "the region")
         all_goals
          go_wp2_with fail
          go_roundw
          case rel=>exact⟨k+1,aoF,cF,by omega,by omega,by go_num,hBF,hIF,hRl2,hFw2.out.trans ((hEN.fw _).trans hFF)⟩
          case measure=>(simp[intOf];omega)
       · have cI:=fun W=>V1 N 0 hN24 (by omega) W ht;have Hn:=Lib.hid (Hno.out ht);clear ht;go_wp2_with (go_at_call 225;refine (cI _).mono ?_;rintro e' w' ⟨rfl,hw'⟩;subst hw');go_roundw;(case rel=>exact⟨k+1,aoR,cR,by omega,by omega,by go_num,by rw[Hn.out];exact HBR.out.ext hE2,by rw[Hn.out];exact HIR.out.ext hE2,by rw[Hn.out];exact hRl,HFr.out.trans (hE2.fw _)⟩);case measure=>(simp[intOf];omega)
     · have hkl:k=ord l:=(by omega);have Hn:=Lib.hid (show zfI l (f+1) X S m B=G2 l f X S m B k by rw[He.out,hkl]);clear hkl;go_wp2_with (go_at_call 99;refine cO.mono ?_;rintro e1 w1 ⟨rfl,hE1⟩);go_end0;exact⟨rfl,aoR,cR,by rw[Hn.out];exact HBR.out.ext hE1,by rw[Hn.out];exact HIR.out.ext hE1,HF0.out.trans (HFr.out.trans (hE1.fw _))⟩
  · have hxI:(0:Int)<((X.length:Nat):Int):=(by omega);have hXl1:X.length - 1<X.length:=(by omega);have Hlast:Hid (d5 X (X.length - 1)=m):=Lib.hid (by rw[←hfr];unfold frm;rw[if_neg hXe]);have Hm:Hid ((m:Int)=(m:Int)):=Lib.hid rfl;clear hXe;go_enter Tryz.func247,Tryz.ntmps247;go_wp2_with fail;rw[←Hwb.out];refine cV.mono ?_;rintro e w1 ⟨rfl,hBv,hFv⟩;obtain⟨ao0,c0,hK0⟩:=HfK.out w1 hBv hFv;obtain⟨ao',c',adrX,hvX,hadrX,hcellX⟩:=(hX1.fw hBk1 hFv).nats;have hix:=j6 (c:=c') elI szI hadrX;simp only[Value.slice.injEq] at hvX;obtain⟨rfl,-,rfl⟩:=hvX;have ix1:∀W,(Instr.indexAt 26 (.slice aoX X.length cX) (.int .i64 ((X.length:Int) - 1))).run Tryz.prog W=.ok (.pointer (some (adrX (X.length - 1)))) W:=fun W=>(by rw[show ((X.length:Int) - 1)=((X.length - 1:Nat):Int) by omega];exact hix _ W hXl1);have hck:w1.cell? (adrX (X.length - 1))=some (.int .i64 (m:Int)):=(by rw[←Hlast.out];exact hcellX _ _ hXl1 (Ext.refl _));have HK0:=Lib.hid hK0;have HF1:=Lib.hid hFv;clear hBv hFv hK0 cV HfK hix hcellX hadrX;go_wp2_with fail;obtain⟨d17,hd17⟩:∃d:Bool,d=decide (0<X.length):=⟨_,rfl⟩;rw[←hd17];clear hd17 hxI ix1 hck;go_loopw [9] (fun xv wr=>∃(k:Nat) (ao:Option Addr) (c:Nat),m≤k∧k≤ord l∧xv=.int .i64 k∧Blk wr bB 26 #[.slice ao (G2 l f X S m B k).length c]∧c8 wr (.slice ao (G2 l f X S m B k).length c) (d6 (G2 l f X S m B k))∧(G2 l f X S m B k).length≤24∧Fw (Bx bB) wb wr) (fun xv _=>ord l - (intOf xv).toNat);(case atStart=>exact⟨m,ao0,c0,Nat.le_refl _,hm,by first | rfl | rw[Hm.out],HK0.out.1,HK0.out.2.1,HK0.out.2.2,HF1.out⟩);case round =>
     obtain⟨k,aoR,cR,hk1,hk2,rfl,hBR,hIR,hRl,hF⟩:=hrel;have hEr:=hF.ext hW1 hS0;have BGr:=hF.blk BG hne;have HXr:=Lib.hid (hX1.fw hBk1 hF);have kG:∀W,Ext wr W→W.cell? ⟨w.heap.size,0,none⟩=some v:=fun W hW=>(BGr.ext hW).cell (i:=0) rfl;have cO:=m9 v l wr (HI.out _ hEr) Hgr;have hEr0:=Ext.refl wr;have HFr:=Lib.hid hF;have HBR:=Lib.hid hBR;have HIR:=Lib.hid hIR;clear hF hBR hIR;by_cases hlt:k<ord l
     · have hk24:k<24:=(by omega);have hN:=c78 Hgr.out hS hlt;have hNc:=bm8 Hgr.out hS h0 hlt;have hN24:nxS l S k<2 ^ 24:=Nat.lt_of_lt_of_le hN hp24;have hsh:=M5 Hgr.out S k;have q1:=p0 (n:=k) (by omega);have q2:ior (S:Int) (j2 l S k:Int)=((S ||| j2 l S k:Nat):Int):=Q0 (by omega) (by omega);have q3:ior ((S ||| j2 l S k:Nat):Int) ((pw k:Nat):Int)=((nxS l S k:Nat):Int):=F8 (Nat.or_lt_two_pow hS24 hsh) hk24;have Hno:=Lib.hid (fun h=>d01 (l:=l) (f:=f) (X:=X) (S:=S) (m:=m) (k:=k) (b:=B) h);have Hye:=Lib.hid (fun h=>cj5 (l:=l) (f:=f) (X:=X) (S:=S) (m:=m) (k:=k) (b:=B) hk1 h);obtain⟨N,hNd⟩:∃N,N=nxS l S k:=⟨_,rfl⟩;rw[←hNd] at hN hNc hN24 q3 Hno Hye;have cS:=fun W (hW:Ext wr W)=>J9 v l S k W (HI.out _ (hEr.trans hW)) Hgr hS24 hk24;clear hNd;go_wp2_with (go_at_call 99;refine cO.mono ?_;rintro e1 w1 ⟨rfl,hE1⟩);have hbx:=fun U=>kG _ (hE1.trans (b9 w1 U));have hE:=Ext.refl w1;(refine d0 (w1) (by kernel_rfl) (by kernel_rfl) hE ?_);(repeat (go_big_quiet_step (first | (go_at_call 220;exact Calls.lat (cS _ (hE1.trans (b9 w1 _)))))));(refine wpQuiet_nil ?_);(intro W hE');(replace hE:=l7 hE');(clear hE');rename World=>w2;have hE2:=hE1.trans hE;clear hbx cS;cases ht:N.testBit 0
       · have cI:=fun W=>V1 N 0 hN24 (by omega) W ht;have hEW2:=hEr.trans hE2;have BG2:=BGr.ext hE2;have hkk:(X++[k]).length=X.length+1:=(by simp);have hXo2:∀x∈X++[k],x<ord l:=by
          intro y hy;rw[List.mem_append,List.mem_singleton] at hy;rcases hy with hy | rfl
          · exact hXo y hy
          · exact hlt
         have hcR:∀W aoN cN,Ext w2 W→c8 W (.slice aoN (X.length+1) cN) (d6 (X++[k]))→Calls Tryz.prog 247 #[.agg #[v],.slice aoN (X.length+1) cN,.int .i64 N,.func (.func 248) #[] #[.pointer (some ⟨bB,0,none⟩)]] W fun e w'=>e=.returned (.tuple #[])∧∃ao c,Blk w' bB 26 #[.slice ao (G2 l f X S m B (k+1)).length c]∧c8 w' (.slice ao (G2 l f X S m B (k+1)).length c) (d6 (G2 l f X S m B (k+1)))∧Fw (Bx bB) W w':=fun W aoN cN hW hI=>by
          have q:=Hih.out (X++[k]) (G2 l f X S m B k) N k aoN aoR cN cR W (hEW2.trans hW) (by rw[hkk];exact hI) (HBR.out.ext (hE2.trans hW)) (HIR.out.ext (hE2.trans hW)) hRl hN ht (cs2 X k) (by omega) (by omega) (by rw[hkk];omega) hXo2
          rw[hkk,←Hye.out ht] at q
          exact q
         have hRl2:(G2 l f X S m B (k+1)).length≤24:=by
          rw[Hye.out ht];exact dk3 Hgr.out f (X++[k]) N k _ hN ht hXo2 (by rw[hkk];omega) hRl
         have HX2:=Lib.hid (fun W (hW:Ext w2 W)=>HXr.out.ext (hE2.trans hW));have hln:(d6 X).length+[(k:Int)].length≤17592186044416:=(by rw[j8];simp;omega);have kG2:∀W,Ext w2 W→W.cell? ⟨w.heap.size,0,none⟩=some v:=fun W hW=>kG _ (hE2.trans hW);have hFw2:=Lib.hid (HFr.out.trans (hE2.fw (Bx bB)));clear ht hkk hXo2 kG hE1;replace hE:=Ext.refl w2;go_wp2_with (go_at_call 225;refine (cI _).mono ?_;rintro e' w' ⟨rfl,hw'⟩;subst hw');first | (go_region_held3 (fun W=>W.cell? ⟨w.heap.size,0,none⟩=some v) (first | exact hG5 | exact kG2 _ (by repeat (first | (with_reducible assumption) | (with_reducible exact Ext.refl _) | (with_reducible apply Ext.drew) | (with_reducible apply Ext.alloc) | (with_reducible (apply And.left;assumption))))) (first | (go_at_call 212;(with_reducible refine Calls.mono (Calls.sh (b26 _ _ _ (HX2.out _ (by repeat (first | (with_reducible assumption) | (with_reducible exact Ext.refl _) | (with_reducible apply Ext.drew) | (with_reducible apply Ext.alloc) | (with_reducible (apply And.left;assumption))))))) ?_);rintro eC wC ⟨aoC,cC,rfl,hOC,hXC⟩;have hHC:=Ext.trans (a:=w2) (by repeat (first | (with_reducible assumption) | (with_reducible exact Ext.refl _) | (with_reducible apply Ext.drew) | (with_reducible apply Ext.alloc) | (with_reducible (apply And.left;assumption)))) hXC;have hOC2:=hOC.mono (show Ext w2 _ by repeat (first | (with_reducible assumption) | (with_reducible exact Ext.refl _) | (with_reducible apply Ext.drew) | (with_reducible apply Ext.alloc) | (with_reducible (apply And.left;assumption))))) | (go_at_call 247;(with_reducible refine Calls.mono (hcR _ _ _ (by repeat (first | (with_reducible assumption) | (with_reducible exact Ext.refl _) | (with_reducible apply Ext.drew) | (with_reducible apply Ext.alloc) | (with_reducible (apply And.left;assumption)))) (Own.ints (by repeat (first | (with_reducible exact hON) | (with_reducible apply Own.alloc) | (with_reducible apply Own.drew))))) ?_);rintro eF wF ⟨rfl,aoF,cF,hBF,hIF,hFF⟩;have hG5:=(hFF.blk (BG2.ext (by repeat (first | (with_reducible assumption) | (with_reducible exact Ext.refl _) | (with_reducible apply Ext.drew) | (with_reducible apply Ext.alloc) | (with_reducible (apply And.left;assumption))))) hne).cell (i:=0) (v:=v) rfl) | (have hOq:=hOC2;refine M6 slI rfl _ _ rfl w2 w2 _ _ (d6 X) [(k:Int)] (Or.inr (by first | exact hOq | exact hOq.alloc _ | exact (hOq.alloc _).drew)) (Blk.ints1 (T:=3) (by repeat (first | (with_reducible assumption) | (with_reducible exact Blk.new _ _ _) | ((with_reducible refine Blk.new' ?_);simp[go_sem];done) | (with_reducible apply Blk.alloc) | (with_reducible apply Blk.drew) | (with_reducible refine Blk.ext ?_ hXC)))) (by repeat (first | (with_reducible assumption) | (with_reducible exact Ext.refl _) | (with_reducible apply Ext.drew) | (with_reducible apply Ext.alloc) | (with_reducible (apply And.left;assumption)))) hln rfl rfl ?_;intro vD wD hOD hXD hTD;obtain⟨aoN,cN,rfl,hON,hEN⟩:=NxP.of hOD hXD))) | (fail "the region")
         all_goals
          go_wp2_with fail
          go_roundw
          case rel=>exact⟨k+1,aoF,cF,by omega,by omega,by go_num,hBF,hIF,hRl2,hFw2.out.trans ((hEN.fw _).trans hFF)⟩
          case measure=>(simp[intOf];omega)
       · have cI:=fun W=>V1 N 0 hN24 (by omega) W ht;have Hn:=Lib.hid (Hno.out ht);clear ht;go_wp2_with (go_at_call 225;refine (cI _).mono ?_;rintro e' w' ⟨rfl,hw'⟩;subst hw');go_roundw;(case rel=>exact⟨k+1,aoR,cR,by omega,by omega,by go_num,by rw[Hn.out];exact HBR.out.ext hE2,by rw[Hn.out];exact HIR.out.ext hE2,by rw[Hn.out];exact hRl,HFr.out.trans (hE2.fw _)⟩);case measure=>(simp[intOf];omega)
     · have hkl:k=ord l:=(by omega);have Hn:=Lib.hid (show zfI l (f+1) X S m B=G2 l f X S m B k by rw[He.out,hkl]);clear hkl;go_wp2_with (go_at_call 99;refine cO.mono ?_;rintro e1 w1 ⟨rfl,hE1⟩);go_end0;exact⟨rfl,aoR,cR,by rw[Hn.out];exact HBR.out.ext hE1,by rw[Hn.out];exact HIR.out.ext hE1,HF0.out.trans (HFr.out.trans (hE1.fw _))⟩
end Go.Zz
namespace Go.Zz
open Go.RowKit Go.Proofs
set_option maxHeartbeats 2000000
set_option maxRecDepth 8000
theorem bp3(v:Value)(l:List Int)(w:World)(h:c8 w v l) :
 Calls Tryz.prog 141 #[.agg #[v]] w fun e w'=>∃ao c,e=.returned (.tuple #[.slice ao (lzL l).length c,.bool (lzB l)])∧c8 w' (.slice ao (lzL l).length c) (d6 (lzL l))∧Ext w w':=by
 obtain⟨wb,Hwb,hE0,hb,hg,hE,Hsz⟩:=j60 28 h;clear h;have hbx:=hb wb hE;have cG:=l0 v l wb (hg _ hE);cases hgr:c9 l
 · have hB:lzB l=false:=(by unfold lzB;rw[hgr];rfl);have Hs:=Lib.hid (And.intro hB (cm1 hB));rw[hgr] at cG;clear hB;go_enter Tryz.func141,Tryz.ntmps141;go_wp2_with fail;rw[←Hwb.out];refine cG.mono ?_;rintro e w1 ⟨rfl,hE1⟩;go_wp2_with fail;have hEf:=hE0.trans hE1;exact bodyPost_ret (v:=.tuple #[.slice (some ⟨w1.heap.size,0,none⟩) 0 0,.bool false]) (by simp[results,Tryz.results141,go_sem]) rfl ⟨_,_,by rw[Hs.out.1,Hs.out.2];rfl,by rw[Hs.out.2];exact (q5 (TI:=3) (n:=0) (by omega) hEf (d6 []) rfl).ints,Ext.alloc hEf _⟩
 rw[hgr] at cG;have Hgr:=Lib.hid hgr;have hob:=l8 hgr;have cO:=fun W (hW:Ext wb W)=>m9 v l W (hg _ hW) Hgr;by_cases hm:ord l≤9;rotate_left
 · have hB:lzB l=false:=(by unfold lzB;rw[hgr];simpa using hm);have Hs:=Lib.hid (And.intro hB (cm1 hB));clear hB;go_enter Tryz.func141,Tryz.ntmps141;go_wp2_with fail;rw[←Hwb.out];refine cG.mono ?_;rintro e w1 ⟨rfl,hE1⟩;have hb1:=hb w1 hE1;go_wp2_with (refine (cO _ hE1).mono ?_;rintro e w2 ⟨rfl,hE2⟩);have hEf:=hE0.trans (hE1.trans hE2);exact bodyPost_ret (v:=.tuple #[.slice (some ⟨w2.heap.size,0,none⟩) 0 0,.bool false]) (by simp[results,Tryz.results141,go_sem]) rfl ⟨_,_,by rw[Hs.out.1,Hs.out.2];rfl,by rw[Hs.out.2];exact (q5 (TI:=3) (n:=0) (by omega) hEf (d6 []) rfl).ints,Ext.alloc hEf _⟩
 have hB:lzB l=true:=by unfold lzB;rw[hgr];simpa using hm
 have Hs:=Lib.hid (And.intro hB (dg1 hB));have hmf:∀(fn:Fn) (first cap:Array Value) (w:World),(Instr.makeFunc fn first cap).run Tryz.prog w=.ok (.func fn first cap) w:=fun _ _ _ _=>rfl;have hz0:(zfI l (ord l+1) [] 0 1 [])=zfS l (ord l+1) [] 0 1:=by
  rw[dk2];split
  · rfl
  · next h=>exact (List.eq_nil_of_length_eq_zero (by simp at h;rw[h];rfl)).symm
 have cF:=fun (W0 W:World) (bB:Nat) (aoB:Option Addr) (cB:Nat) (aoX:Option Addr) (cX:Nat) (hW0:Ext wb W0) (hW:Ext W0 W) (h0B:W0.heap.size≤bB) (hBk:Blk W bB 26 #[.slice aoB 0 cB]) (hIB:c8 W (.slice aoB 0 cB) []) (hIX:c8 W (.slice aoX 0 cX) []) =>
  j47 v l Hgr W0 bB h0B (Lib.hid fun W' hW'=>hg _ (hW0.trans hW')) (ord l+1) [] [] 0 1 aoX aoB cX cB W hW hIX hBk hIB (by simp) (Nat.two_pow_pos _) (by simp) rfl (by omega) (by simp[S8]) (by simp) (by simp)
 rw[hz0] at cF;obtain⟨Z,hZ⟩:∃Z,Z=zfS l (ord l+1) [] 0 1:=⟨_,rfl⟩;rw[←hZ] at cF Hs;clear hB hgr hZ hz0;go_enter Tryz.func141,Tryz.ntmps141;go_wp2_with fail;rw[←Hwb.out];refine cG.mono ?_;rintro e w1 ⟨rfl,hE1⟩;have hb1:=hb w1 hE1;go_wp2_with (go_at_call 99;refine (cO _ hE1).mono ?_;rintro e w2 ⟨rfl,hE2⟩;have hE12:=hE1.trans hE2;have hb2:=hb w2 hE12;have hb3:=hb _ ((hE12.alloc (.cells #[] 3)).alloc (.cells #[.slice (some ⟨w2.heap.size,0,none⟩) 0 0] 26)));obtain⟨x1,h1⟩:∃x,x=w2.alloc (.cells #[] 3):=⟨_,rfl⟩;obtain⟨x2,h2⟩:∃x,x=x1.alloc (.cells #[.slice (some ⟨w2.heap.size,0,none⟩) 0 0] 26):=⟨_,rfl⟩;obtain⟨x3,h3⟩:∃x,x=x2.alloc (.cells #[] 3):=⟨_,rfl⟩;have s1:x1.heap.size=w2.heap.size+1:=by rw[h1];simp
 have s2:x2.heap.size=w2.heap.size+1+1:=by rw[h2];simp[s1]
 rw[←h1,←h2,←h3];have e1:Ext w2 x1:=by rw[h1];exact (Ext.refl _).alloc _
 have e2:Ext x1 x2:=by rw[h2];exact (Ext.refl _).alloc _
 have e3:Ext x2 x3:=by rw[h3];exact (Ext.refl _).alloc _
 have O1:Own 3 w2 x1 (.slice (some ⟨w2.heap.size,0,none⟩) 0 0) []:=by rw[h1];exact q5 (TI:=3) (n:=0) (by omega) (Ext.refl w2) [] rfl
 have B2:Blk x2 (w2.heap.size+1) 26 #[.slice (some ⟨w2.heap.size,0,none⟩) 0 0]:=by rw[h2,←s1];exact Blk.new _ _ _
 have O3:Own 3 x2 x3 (.slice (some ⟨w2.heap.size+1+1,0,none⟩) 0 0) []:=by rw[h3,←s2];exact q5 (TI:=3) (n:=0) (by omega) (Ext.refl x2) [] rfl
 refine (cF w2 x3 (w2.heap.size+1) _ _ _ _ hE12 (e1.trans (e2.trans e3)) (by omega) (B2.ext e3) (O1.ints.ext (e2.trans e3)) O3.ints).mono ?_;rintro e w4 ⟨rfl,aoZ,cZ,hBZ,hIZ,hFZ⟩;have kz:=hBZ.cell (i:=0) (v:=.slice aoZ Z.length cZ) rfl;have hEf:Ext w2 w4:=hFZ.ext (e1.trans (e2.trans e3)) (fun k hk=>by rw[hk];omega);go_wp2_with fail;exact bodyPost_ret (v:=.tuple #[.slice aoZ Z.length cZ,.bool true]) (by simp[results,Tryz.results141,go_sem]) rfl ⟨_,_,by rw[Hs.out.1,Hs.out.2],by rw[Hs.out.2];exact hIZ,hE0.trans (hE12.trans hEf)⟩
end Go.Zz
namespace Go.Zz
open Go.RowKit Go.Proofs
set_option maxHeartbeats 400000
theorem be9(v:Value)(l:List Int)(a:Int)(w:World)(h:c8 w v l) :
 Calls Tryz.prog 282 #[.agg #[v],.int .i64 a] w fun e w'=>e=.returned (.bool (bw2 l a))∧Ext w w':=by
 obtain⟨wb,Hwb,hE0,hb,hg,hE,Hsz⟩:=j60 28 h;clear h;have hbx:=hb wb hE;cases hs:d8 l a
 · have Hs:=Lib.hid (dy1 hs);go_enter Tryz.func282,Tryz.ntmps282;go_wp2_with fail;rw[←Hwb.out];go_wp2_with (first | (go_at_call 46;refine cx (l5 _ _ _ _ (hg _ hE) (hs)) hE ?_;clear hE;intro w' hE));go_ret;exact⟨l9 Hs.out.symm,hE0.trans hE⟩
 · have Hs:Hid (∀n:Nat,a=n→bw2 l a=((genF l n:Int) == (n:Int))):=Lib.hid (fun n e=>by subst e;exact cy5 hs);obtain⟨n,hn,h1,h2,hgr⟩:=m3 hs;subst hn;have Hgr:=Lib.hid hgr;clear hgr;go_enter Tryz.func282,Tryz.ntmps282;go_wp2_with fail;rw[←Hwb.out];go_wp2_with (first | (go_at_call 46;refine cx (l5 _ _ _ _ (hg _ hE) (hs)) hE ?_;clear hE;intro w' hE) | (go_at_call 176;refine cx (b70 _ _ _ _ (hg _ hE) (Hgr) (h2)) hE ?_;clear hE;intro w' hE));go_ret;exact⟨l9 (by rw[Hs.out n rfl]),hE0.trans hE⟩
theorem c92(v:Value)(l:List Int)(a:Int)(w:World)(h:c8 w v l){b:Bool}(hb:bw2 l a=b) :
 Calls Tryz.prog 282 #[.agg #[v],.int .i64 a] w fun e w'=>e=.returned (.bool b)∧Ext w w':=by
 subst hb;exact be9 v l a w h
end Go.Zz
namespace Go.Zz
open Go.RowKit Go.Proofs
set_option maxHeartbeats 2000000
set_option maxRecDepth 20000
theorem d04(v:Value)(l:List Int)(a:Int)(w:World)(h:c8 w v l) :
 Calls Tryz.prog 216 #[.agg #[v],.int .i64 a] w fun e w'=>e=.returned (.bool (V8 l a))∧Ext w w':=by
 obtain⟨wb,Hwb,hE0,hb,hg,hE,Hsz⟩:=j60 28 h;clear h;have hbx:=hb wb hE;cases hs:d8 l a
 · have Hs:=Lib.hid (bw8 (I5 hs));go_enter Tryz.func216,Tryz.ntmps216;go_wp2_with fail;rw[←Hwb.out];go_wp2_with (first | (go_at_call 105;refine cx (o7 _ _ _ _ (hg _ hE) (hs)) hE ?_;clear hE;intro w' hE));go_ret;exact⟨l9 Hs.out.symm,hE0.trans hE⟩
 · obtain⟨n,rfl,h1,h2,hgr⟩:=m3 hs;by_cases h0:n=0
   · subst h0;have Hs:=Lib.hid (bw8 (F4 l));go_enter Tryz.func216,Tryz.ntmps216;go_wp2_with fail;rw[←Hwb.out];go_wp2_with (first | (go_at_call 105;refine cx (o7 _ _ _ _ (hg _ hE) (hs)) hE ?_;clear hE;intro w' hE));go_ret;exact⟨l9 (by have:=Hs.out;simp_all),hE0.trans hE⟩
   · have Hs:=Lib.hid (cf7 (J5 hs (by omega)));have h0':((n:Int) != 0)=true:=(by simp;omega);clear hgr h0;go_enter Tryz.func216,Tryz.ntmps216;go_wp2_with fail;rw[←Hwb.out];go_wp2_with (first | (go_at_call 105;refine cx (o7 _ _ _ _ (hg _ hE) (hs)) hE ?_;clear hE;intro w' hE) | (go_at_call 302;refine cx (bg9 _ _ _ _ (hg _ hE)) hE ?_;clear hE;intro w' hE));go_ret;exact⟨l9 Hs.out.symm,hE0.trans hE⟩
theorem V4(v:Value)(l:List Int)(a:Int)(w:World)(h:c8 w v l){c:Bool}(hc:V8 l a=c) :
 Calls Tryz.prog 216 #[.agg #[v],.int .i64 a] w fun e w'=>e=.returned (.bool c)∧Ext w w':=by subst hc;exact d04 v l a w h
theorem cx2(v:Value)(l:List Int)(a:Int)(w:World)(h:c8 w v l) :
 Calls Tryz.prog 185 #[.agg #[v],.int .i64 a] w fun e w'=>e=.returned (.bool (V8 l a))∧Ext w w':=by
 obtain⟨wb,Hwb,hE0,hb,hg,hE,Hsz⟩:=j60 28 h;clear h;have hbx:=fun U=>hb _ (b9 wb U);cases hs:d8 l a
 · have Hs:=Lib.hid (bw8 (I5 hs));go_enter Tryz.func185,Tryz.ntmps185;go_wp2_with fail;rw[←Hwb.out];(refine d0 (wb) (by kernel_rfl) (by kernel_rfl) hE ?_);(repeat (go_big_quiet_step (first | (go_at_call 46;exact Calls.lat (l5 _ _ _ _ (hg _ (b9 wb _)) (hs))))));(refine wpQuiet_nil ?_);(intro W hE');(replace hE:=l7 hE');(clear hE');go_wp2_with fail;go_ret;exact⟨l9 Hs.out.symm,hE0.trans hE⟩
 · obtain⟨n,rfl,h1,h2,hgr⟩:=m3 hs;by_cases h0:n=0
   · subst h0;have Hs:=Lib.hid (bw8 (F4 l));go_enter Tryz.func185,Tryz.ntmps185;go_wp2_with fail;rw[←Hwb.out];(refine d0 (wb) (by kernel_rfl) (by kernel_rfl) hE ?_);(repeat (go_big_quiet_step (first | (go_at_call 46;exact Calls.lat (l5 _ _ _ _ (hg _ (b9 wb _)) (hs))))));(refine wpQuiet_nil ?_);(intro W hE');(replace hE:=l7 hE');(clear hE');go_wp2_with fail;go_ret;exact⟨l9 (by have:=Hs.out;simp_all),hE0.trans hE⟩
   · have Hs:=Lib.hid (dl6 (J5 hs (by omega)));have h0':(0:Int)<(n:Int):=(by omega);have h0n:0<n:=(by omega);have Hgr:=Lib.hid hgr;obtain⟨-,-,-,l4⟩:=bm3 h0 h2;have hn:=b91 hgr (J8 n);clear hgr;go_enter Tryz.func185,Tryz.ntmps185;go_wp2_with fail;rw[←Hwb.out];(refine d0 (wb) (by kernel_rfl) (by kernel_rfl) hE ?_);(repeat (go_big_quiet_step (first | (go_at_call 46;exact Calls.lat (l5 _ _ _ _ (hg _ (b9 wb _)) (hs))) | (go_at_call 283;exact Calls.lat_same (ch5 _ (h0) (h2) _)) | (go_at_call 202;exact Calls.lat (b32 _ _ _ _ (hg _ (b9 wb _)) Hgr (by omega))) | (go_at_call 166;exact Calls.lat (I8 _ _ _ _ _ (hg _ (b9 wb _)) (Hgr) (h2) (hn))) | (go_at_call 282;exact Calls.lat (be9 _ _ _ _ (hg _ (b9 wb _)))))));(refine wpQuiet_nil ?_);(intro W hE');(replace hE:=l7 hE');(clear hE');go_wp2_with fail;go_ret;exact⟨l9 (by rw[Hs.out]),hE0.trans hE⟩
theorem U0(v:Value)(l:List Int)(a:Int)(w:World)(h:c8 w v l){c:Bool}(hc:V8 l a=c) :
 Calls Tryz.prog 185 #[.agg #[v],.int .i64 a] w fun e w'=>e=.returned (.bool c)∧Ext w w':=by subst hc;exact cx2 v l a w h
def b52(l:List Int)(a:Int):Bool:=decide (0<(J7 l a).length)
theorem by8(v:Value)(l:List Int)(a:Int)(w:World)(h:c8 w v l) :
 Calls Tryz.prog 218 #[.agg #[v],.int .i64 a] w fun e w'=>e=.returned (.bool (b52 l a))∧Ext w w':=by
 obtain⟨wb,Hwb,hE0,hb,hg,hE,Hsz⟩:=j60 28 h;clear h;have hbx:=hb wb hE;go_enter Tryz.func218,Tryz.ntmps218;go_wp2_with fail;rw[←Hwb.out];go_wp2_with (first | (go_at_call 303;refine (Calls.sh (Z4 _ _ _ _ (hg _ hE))).mono ?_;rintro e w1 ⟨ao,c,rfl,hO,hE'⟩;replace hE:=hE.trans hE';clear hE'));go_ret;exact⟨l9 (by unfold b52;rw[Bool.eq_iff_iff];try simp),hE0.trans hE⟩
theorem T3(v:Value)(l:List Int)(a:Int)(w:World)(h:c8 w v l){c:Bool}(hc:b52 l a=c) :
 Calls Tryz.prog 218 #[.agg #[v],.int .i64 a] w fun e w'=>e=.returned (.bool c)∧Ext w w':=by subst hc;exact by8 v l a w h
theorem bu9(v:Value)(l:List Int)(a:Int)(w:World)(h:c8 w v l) :
 Calls Tryz.prog 187 #[.agg #[v],.int .i64 a] w fun e w'=>e=.returned (.bool (b52 l a))∧Ext w w':=by
 obtain⟨wb,Hwb,hE0,hb,hg,hE,Hsz⟩:=j60 28 h;clear h;have hbx:=hb wb hE;go_enter Tryz.func187,Tryz.ntmps187;go_wp2_with fail;rw[←Hwb.out];go_wp2_with (first | (go_at_call 284;refine (Calls.sh (X9 _ _ _ _ (hg _ hE))).mono ?_;rintro e w1 ⟨ao,c,rfl,hO,hE'⟩;replace hE:=hE.trans hE';clear hE'));go_ret;exact⟨l9 (by unfold b52;rw[Bool.eq_iff_iff];try simp),hE0.trans hE⟩
theorem R6(v:Value)(l:List Int)(a:Int)(w:World)(h:c8 w v l){c:Bool}(hc:b52 l a=c) :
 Calls Tryz.prog 187 #[.agg #[v],.int .i64 a] w fun e w'=>e=.returned (.bool c)∧Ext w w':=by subst hc;exact bu9 v l a w h
end Go.Zz
namespace Go.Zz
open Go.RowKit Go.Proofs
set_option maxHeartbeats 2000000
set_option maxRecDepth 20000
theorem c8.natc{w:World}{v:Value}{L:List Nat}(h:c8 w v (d6 L)) :
 ∃(ao:Option Addr) (c:Nat) (adr:Nat→Addr),v=.slice ao L.length c∧L.length≤c ∧
  (∀i,i<L.length→ao=some (adr 0)∧adr i=(adr 0).add i) ∧
  (∀i W,i<L.length→Ext w W→W.cell? (adr i)=some (.int .i64 (d5 L i:Int))):=by
 have hc:∀ao n c,v=.slice ao n c→n≤c:=by
  obtain⟨ao,c,rfl,h1,_⟩:=h;intro ao' n' c' e;simp only[Value.slice.injEq] at e;omega
 obtain⟨ao,c,adr,rfl,h2,h3⟩:=h.nats
 exact⟨ao,c,adr,rfl,hc _ _ _ rfl,h2,h3⟩
theorem Addr.add_add'(a:Addr)(i j:Nat):(a.add i).add j=a.add (i+j):=by
 unfold Addr.add;by_cases hi:i=0<;>by_cases hj:j=0<;>simp[hi,hj,Nat.add_assoc]
theorem bf7(v:Value)(l:List Int)(a:Int)(w:World)(h:c8 w v l) :
 Calls Tryz.prog 115 #[.agg #[v],.int .i64 a] w fun e w'=>e=.returned (.bool (sidB l a))∧Ext w w':=by
 obtain⟨wb,Hwb,hE0,hb,hg,hE,Hsz⟩:=j60 28 h;clear h;have hbx:=hb wb hE;cases hs:d8 l a
 · have Hs:=Lib.hid (d72 hs);go_enter Tryz.func115,Tryz.ntmps115;go_wp2_with fail;rw[←Hwb.out];go_wp2_with (first | (go_at_call 105;refine cx (o7 _ _ _ _ (hg _ hE) (hs)) hE ?_;clear hE;intro w' hE));go_ret;exact⟨l9 Hs.out.symm,hE0.trans hE⟩
 · obtain⟨n,rfl,h1,h2,hgr⟩:=m3 hs;have Hs:=Lib.hid (c51 hs);have Hgr:=Lib.hid hgr;clear hgr;go_enter Tryz.func115,Tryz.ntmps115;go_wp2_with fail;rw[←Hwb.out];go_wp2_with (first | (go_at_call 105;refine cx (o7 _ _ _ _ (hg _ hE) (hs)) hE ?_;clear hE;intro w' hE) | (go_at_call 214;refine (I9 n h2 _).mono ?_;rintro e w1 ⟨v1,rfl,hL,hE1⟩;obtain⟨aoL,cL,adrL,rfl,hcap,hadrL,hcellL⟩:=hL.ints.natc;have hixL:=j6 (c:=cL) elI szI hadrL));have hb1:∀W,Ext w1 W→W.cell? ⟨w.heap.size,0,none⟩=some v:=fun W hW=>hb W (hE.trans (hE1.trans hW));have hg1:∀W,Ext w1 W→c8 W v l:=fun W hW=>hg W (hE.trans (hE1.trans hW));have eW:=hE0.trans (hE.trans hE1);have hall:∀y∈j1 n,y<24:=fun y hy=>G7 hy;have hlen:=C9 n;clear hb hg hbx hE hE1 hL hs;generalize j1 n=L at hcellL hixL hall hlen Hs hcap hadrL ⊢;have Hadr:=Lib.hid hadrL;clear hadrL;have hE:=Ext.refl w1;have Hst:=Lib.hid (U4.start l L);go_loopw [20,5] (fun i s wr=>∃k seen:Nat,k≤L.length∧seen<2 ^ 24∧i=.int .i64 k∧s=.int .i64 seen∧U4 l L k k seen∧Ext w1 wr) (fun i _ _=>L.length - (intOf i).toNat);(case atStart=>exact⟨0,0,by omega,by omega,rfl,rfl,Hst.out,hE⟩);case round =>
    clear hE Hst;obtain⟨k,seen,hk,hseen,rfl,rfl,hS,hE⟩:=hrel;have HS:=Lib.hid hS;clear hS;by_cases hlt:k<L.length
    · have hck:=hcellL k _ hlt hE;obtain⟨M,hM⟩:∃M,M=L.length - k:=⟨_,rfl⟩;have HM:Hid (k+M=L.length):=Lib.hid (by omega);have hsub:L.length - k=M:=hM.symm;obtain⟨rfl,-⟩:=Hadr.out k hlt;have hak:(adrL 0).add k=adrL k:=(Hadr.out k hlt).2.symm;have hne:¬cL=k:=(by omega);have hixk:=j6 (P:=Tryz.prog) (t:=26) (ao:=some (adrL k)) (n:=M) (c:=cL - k) (adr:=fun t=>adrL (k+t)) elI szI (fun t ht=>⟨rfl,by
       have q:=HM.out
       show adrL (k+t)=(adrL (k+0)).add t
       rw[(Hadr.out (k+t) (by omega)).2,Nat.add_zero,(Hadr.out k hlt).2,Addr.add_add']⟩)
      clear hM;go_wp2_with fail;clear hsub hak hne;have hk24:=hall _ (o6 hlt);go_loopw [29,5] (fun i s wq=>∃t sn:Nat,t≤M∧sn<2 ^ 24∧i=.int .i64 t∧s=.int .i64 sn∧U4 l L k (k+t) sn∧Ext w1 wq) (fun i _ _=>M - (intOf i).toNat);(case atStart=>exact⟨0,seen,by omega,hseen,rfl,rfl,HS.out,hE⟩);case round =>
       clear hE HS hseen hck;obtain⟨t,sn,ht,hseen,rfl,rfl,hS,hE⟩:=hrel;have HS:=Lib.hid hS;clear hS;have hbx:=hb1 _ hE;by_cases hlt2:t<M
       · have hkt:k+t<L.length:=(by have:=HM.out;omega);have hct:=hcellL (k+t) _ hkt hE;have hy24:=hall _ (o6 hkt);obtain⟨s,hs⟩:∃s,s=j9 l (d5 L k) (d5 L (k+t)):=⟨_,rfl⟩;have hs24:s<24:=(by rw[hs];exact T7 Hgr.out _ _);have Hsd:=Lib.hid hs;clear hs;have hs1:=p0 (n:=s) (by omega);have hs2:=F8 hseen hs24;cases hb:sn.testBit s
         · have Hn:=Lib.hid (HS.out.next (Nat.le_add_right k t) hkt (by rw[←Hsd.out];exact hb));go_wp2_with (first | (go_at_call 224;refine (N2 _ _ _ _ _ (hg1 _ hE) Hgr (by omega) (by omega)).mono ?_;rw[←Hsd.out];rintro e w' ⟨rfl,hE'⟩;replace hE:=hE.trans hE';clear hE') | (go_at_call 225;refine (V1 sn s hseen (by omega) _ hb).mono ?_;rintro e w' ⟨rfl,rfl⟩));go_roundw;(case rel=>exact⟨t+1,sn ||| 2 ^ s,by omega,Nat.or_lt_two_pow hseen (Nat.pow_lt_pow_right (by omega) hs24),by go_num,rfl,by rw[Hsd.out];exact Hn.out,hE⟩);case measure=>(simp[intOf];omega)
         · have Hz:=Lib.hid (di9 (HS.out.hit (Nat.le_add_right k t) hkt (by rw[←Hsd.out];exact hb)));go_wp2_with (first | (go_at_call 224;refine (N2 _ _ _ _ _ (hg1 _ hE) Hgr (by omega) (by omega)).mono ?_;rw[←Hsd.out];rintro e w' ⟨rfl,hE'⟩;replace hE:=hE.trans hE';clear hE') | (go_at_call 225;refine (V1 sn s hseen (by omega) _ hb).mono ?_;rintro e w' ⟨rfl,rfl⟩));go_ret;exact⟨l9 (by rw[Hs.out,Hz.out]),eW.trans hE⟩
       · have htM:k+t=L.length:=(by have:=HM.out;omega);have Hn:=Lib.hid (HS.out.row htM);go_wp2_with fail;go_roundw;(case rel=>exact⟨k+1,sn,by omega,hseen,by go_num,rfl,Hn.out,hE⟩);case measure=>(simp[intOf];omega)
    · have hkl:k=L.length:=(by omega);subst hkl;have Hz:=Lib.hid (dj0 (HS.out.all rfl));go_wp2_with fail;go_ret;exact⟨l9 (by rw[Hs.out,Hz.out]),eW.trans hE⟩
theorem bz6(v:Value)(l:List Int)(a:Int)(w:World)(h:c8 w v l){c:Bool}(hc:sidB l a=c) :
 Calls Tryz.prog 115 #[.agg #[v],.int .i64 a] w fun e w'=>e=.returned (.bool c)∧Ext w w':=by subst hc;exact bf7 v l a w h
def Col(l:List Int)(L:List Nat)(i j k m:Nat):Prop:=¬(k=i∧m=j)∧j9 l (d5 L i) (d5 L j)=j9 l (d5 L k) (d5 L m)
theorem j26{l:List Int}{L:List Nat}(h:∀i j k m,i<L.length→i≤j→j<L.length→k≤i→k≤m→m<L.length→¬Col l L i j k m):Sid l L:=by
 intro p q r t h1 h2 h3 h4 e;rcases Nat.le_total r p with c | c
 · have:=h p q r t (by omega) h1 h2 c h3 h4;by_cases d:r=p∧t=q
   · exact⟨d.1.symm,d.2.symm⟩
   · exact absurd ⟨d,e⟩ this
 · have:=h r t p q (by omega) h3 h4 c h1 h2;by_cases d:p=r∧q=t
   · exact d
   · exact absurd ⟨d,e.symm⟩ this
theorem dx9{l:List Int}{L:List Nat}{i j k m:Nat}(h1:i≤j)(h2:j<L.length)(h3:k≤m)(h4:m<L.length)(h:Col l L i j k m):¬Sid l L:=fun hS=>by
 obtain⟨e1,e2⟩:=hS i j k m h1 h2 h3 h4 h.2
 exact h.1 ⟨e1.symm,e2.symm⟩
theorem bt3(v:Value)(l:List Int)(a:Nat)(w:World)(h:c8 w v l)(Hgr:Hid (c9 l=true))(h2:a<2 ^ 24) :
 Calls Tryz.prog 191 #[.agg #[v],.int .i64 a] w fun e w'=>e=.returned (.bool (sidL l (j1 a)))∧Ext w w':=by
 obtain⟨wb,Hwb,hE0,hb,hg,hE,Hsz⟩:=j60 28 h;clear h;go_enter Tryz.func191,Tryz.ntmps191;go_wp2_with fail;rw[←Hwb.out];refine (L8 a h2 _).mono ?_;rintro e w1 ⟨v1,rfl,hL,hE1⟩;obtain⟨aoL,cL,adrL,rfl,hadrL,hcellL⟩:=hL.ints.nats;have hixL:=j6 (c:=cL) elI szI hadrL;have hb1:∀W,Ext w1 W→W.cell? ⟨w.heap.size,0,none⟩=some v:=fun W hW=>hb W (hE1.trans hW);have hg1:∀W,Ext w1 W→c8 W v l:=fun W hW=>hg W (hE1.trans hW);have eW:=hE0.trans hE1;have hall:∀y∈j1 a,y<24:=fun y hy=>G7 hy;have hlen:=C9 a;clear hb hg hE hE1 hL hadrL;obtain⟨R,HR1⟩:∃R,Hid (R=sidL l (j1 a)):=⟨_,Lib.hid rfl⟩;have HR2:=HR1;generalize j1 a=L at hcellL hixL hall hlen HR2 ⊢;have hE:=Ext.refl w1;go_wp2_with fail;go_loopw [6] (fun s wr=>∃i:Nat,i≤L.length∧s=.int .i64 i∧(∀i' j k m,i'<i→i'≤j→j<L.length→k≤i'→k≤m→m<L.length→¬Col l L i' j k m)∧Ext w1 wr) (fun s _=>L.length - (intOf s).toNat);case atStart=>exact⟨0,by omega,rfl,by omega,hE⟩
 case round =>
  clear hE;obtain⟨i,hi,rfl,hno,hE⟩:=hrel;have Hno1:=Lib.hid hno;clear hno;by_cases hlt:i<L.length
  · go_wp2_with fail;go_loopw [7] (fun s wr=>∃j:Nat,i≤j∧j≤L.length∧s=.int .i64 j∧(∀j' k m,i≤j'→j'<j→k≤i→k≤m→m<L.length→¬Col l L i j' k m)∧Ext w1 wr) (fun s _=>L.length - (intOf s).toNat);(case atStart=>exact⟨i,by omega,by omega,rfl,by omega,hE⟩);case round =>
     clear hE;obtain⟨j,hij,hj,rfl,hno,hE⟩:=hrel;have Hno2:=Lib.hid hno;clear hno;by_cases hltj:j<L.length
     · go_wp2_with fail;go_loopw [8] (fun s wr=>∃k:Nat,k≤i+1∧s=.int .i64 k∧(∀k' m,k'<k→k'≤m→m<L.length→¬Col l L i j k' m)∧Ext w1 wr) (fun s _=>i+1 - (intOf s).toNat);(case atStart=>exact⟨0,by omega,rfl,by omega,hE⟩);case round =>
        clear hE;obtain⟨k,hk,rfl,hno,hE⟩:=hrel;have Hno3:=Lib.hid hno;clear hno;by_cases hltk:k≤i
        · go_wp2_with fail;go_loopw [9] (fun s wr=>∃m:Nat,k≤m∧m≤L.length∧s=.int .i64 m∧(∀m',k≤m'→m'<m→¬Col l L i j k m')∧Ext w1 wr) (fun s _=>L.length - (intOf s).toNat);(case atStart=>exact⟨k,by omega,by omega,rfl,by omega,hE⟩);case round =>
           clear hE;obtain⟨m,hkm,hm,rfl,hno,hE⟩:=hrel;have Hno4:=Lib.hid hno;clear hno;by_cases hltm:m<L.length
           · have hci:=fun U=>hcellL i _ hlt (hE.trans (b9 wr U));have hcj:=fun U=>hcellL j _ hltj (hE.trans (b9 wr U));have hkl:k<L.length:=(by omega);have hck:=fun U=>hcellL k _ hkl (hE.trans (b9 wr U));have hcm:=fun U=>hcellL m _ hltm (hE.trans (b9 wr U));have hbu:=fun U=>hb1 _ (hE.trans (b9 wr U));have hgr':∀W,Ext wr W→c8 W v l:=fun W hW=>hg1 W (hE.trans hW);have q1:=hall _ (o6 hlt);have q2:=hall _ (o6 hltj);have q3:=hall _ (o6 hkl);have q4:=hall _ (o6 hltm);have hE4:=hE;clear hE;have hE:=Ext.refl wr;by_cases hp:k=i∧m=j
             · have Hc:Hid (¬Col l L i j k m):=Lib.hid (fun c=>c.1 hp);have b1:((k:Int) != (i:Int))=false:=(by simp;omega);have b2:((m:Int) != (j:Int))=false:=(by simp;omega);clear hp;go_wp2_with fail;(refine d0 (wr) (by kernel_rfl) (by kernel_rfl) hE ?_);(repeat (go_big_quiet_step (first | (go_at_call 190;exact Calls.lat (G5 _ _ _ _ _ (hgr' _ (b9 wr _)) (Hgr) ((by omega)) ((by omega)))))));(refine wpQuiet_nil ?_);(intro W hE');(replace hE:=l7 hE');(clear hE');go_wp2_with fail;go_roundw;(case rel=>exact⟨m+1,by omega,by omega,by go_num,fun m' h1 h2=>by by_cases e:m'=m;(subst e;exact Hc.out);exact Hno4.out m' h1 (by omega),hE4.trans hE⟩);case measure=>(simp[intOf];omega)
             · by_cases hs:j9 l (d5 L i) (d5 L j)=j9 l (d5 L k) (d5 L m)
               · have Hz:=Lib.hid (di9 (dx9 hij hltj hkm hltm ⟨hp,hs⟩));have b3:((j9 l (d5 L i) (d5 L j):Int) == (j9 l (d5 L k) (d5 L m):Int))=true:=(by rw[hs];simp);by_cases hki:k=i
                 · have b1:((k:Int) != (i:Int))=false:=(by simp;omega);have b2:((m:Int) != (j:Int))=true:=(by simp;omega);clear hp hs hki;go_wp2_with fail;(refine d0 (wr) (by kernel_rfl) (by kernel_rfl) hE ?_);(repeat (go_big_quiet_step (first | (go_at_call 190;exact Calls.lat (G5 _ _ _ _ _ (hgr' _ (b9 wr _)) (Hgr) ((by omega)) ((by omega)))))));(refine wpQuiet_nil ?_);(intro W hE');(replace hE:=l7 hE');(clear hE');go_wp2_with fail;go_ret;exact⟨l9 (by rw[←HR1.out,HR2.out,Hz.out]),eW.trans (hE4.trans hE)⟩
                 · have b1:((k:Int) != (i:Int))=true:=(by simp;omega);clear hp hs hki;go_wp2_with fail;(refine d0 (wr) (by kernel_rfl) (by kernel_rfl) hE ?_);(repeat (go_big_quiet_step (first | (go_at_call 190;exact Calls.lat (G5 _ _ _ _ _ (hgr' _ (b9 wr _)) (Hgr) ((by omega)) ((by omega)))))));(refine wpQuiet_nil ?_);(intro W hE');(replace hE:=l7 hE');(clear hE');go_wp2_with fail;go_ret;exact⟨l9 (by rw[←HR1.out,HR2.out,Hz.out]),eW.trans (hE4.trans hE)⟩
               · have Hc:Hid (¬Col l L i j k m):=Lib.hid (fun c=>hs c.2);have b3:((j9 l (d5 L i) (d5 L j):Int) == (j9 l (d5 L k) (d5 L m):Int))=false:=(by simp;omega);by_cases hki:k=i
                 · have b1:((k:Int) != (i:Int))=false:=(by simp;omega);have b2:((m:Int) != (j:Int))=true:=(by simp;omega);clear hp hs hki;go_wp2_with fail;(refine d0 (wr) (by kernel_rfl) (by kernel_rfl) hE ?_);(repeat (go_big_quiet_step (first | (go_at_call 190;exact Calls.lat (G5 _ _ _ _ _ (hgr' _ (b9 wr _)) (Hgr) ((by omega)) ((by omega)))))));(refine wpQuiet_nil ?_);(intro W hE');(replace hE:=l7 hE');(clear hE');go_wp2_with fail;go_roundw;(case rel=>exact⟨m+1,by omega,by omega,by go_num,fun m' h1 h2=>by by_cases e:m'=m;(subst e;exact Hc.out);exact Hno4.out m' h1 (by omega),hE4.trans hE⟩);case measure=>(simp[intOf];omega)
                 · have b1:((k:Int) != (i:Int))=true:=(by simp;omega);clear hp hs hki;go_wp2_with fail;(refine d0 (wr) (by kernel_rfl) (by kernel_rfl) hE ?_);(repeat (go_big_quiet_step (first | (go_at_call 190;exact Calls.lat (G5 _ _ _ _ _ (hgr' _ (b9 wr _)) (Hgr) ((by omega)) ((by omega)))))));(refine wpQuiet_nil ?_);(intro W hE');(replace hE:=l7 hE');(clear hE');go_wp2_with fail;go_roundw;(case rel=>exact⟨m+1,by omega,by omega,by go_num,fun m' h1 h2=>by by_cases e:m'=m;(subst e;exact Hc.out);exact Hno4.out m' h1 (by omega),hE4.trans hE⟩);case measure=>(simp[intOf];omega)
           · have hml:m=L.length:=(by omega);go_wp2_with fail;go_roundw;(case rel=>exact⟨k+1,by omega,by go_num,fun k' m' h1 h2 h3=>by by_cases e:k'=k;(subst e;exact Hno4.out m' h2 (by omega));exact Hno3.out k' m' (by omega) h2 h3,hE⟩);case measure=>(simp[intOf];omega)
        · go_wp2_with fail;go_roundw;(case rel=>exact⟨j+1,by omega,by omega,by go_num,fun j' k' m' h1 h2 h3 h4 h5=>by by_cases e:j'=j;(subst e;exact Hno3.out k' m' (by omega) h4 h5);exact Hno2.out j' k' m' h1 (by omega) h3 h4 h5,hE⟩);case measure=>(simp[intOf];omega)
     · go_wp2_with fail;go_roundw;(case rel=>exact⟨i+1,by omega,by go_num,fun i' j' k' m' h1 h2 h3 h4 h5 h6=>by by_cases e:i'=i;(subst e;exact Hno2.out j' k' m' h2 (by omega) h4 h5 h6);exact Hno1.out i' j' k' m' (by omega) h2 h3 h4 h5 h6,hE⟩);case measure=>(simp[intOf];omega)
  · have hil:i=L.length:=(by omega);have Hz:=Lib.hid (dj0 (j26 (l:=l) (L:=L) fun i' j' k' m' h1=>Hno1.out i' j' k' m' (by omega)));go_wp2_with fail;go_ret;exact⟨l9 (by rw[←HR1.out,HR2.out,Hz.out]),eW.trans hE⟩
theorem bv0(v:Value)(l:List Int)(a:Int)(w:World)(h:c8 w v l) :
 Calls Tryz.prog 74 #[.agg #[v],.int .i64 a] w fun e w'=>e=.returned (.bool (sidB l a))∧Ext w w':=by
 obtain⟨wb,Hwb,hE0,hb,hg,hE,Hsz⟩:=j60 28 h;clear h;have hbx:=hb wb hE;cases hs:d8 l a
 · have Hs:=Lib.hid (d72 hs);go_enter Tryz.func74,Tryz.ntmps74;go_wp2_with fail;rw[←Hwb.out];go_wp2_with (first | (go_at_call 46;refine cx (l5 _ _ _ _ (hg _ hE) (hs)) hE ?_;clear hE;intro w' hE));go_ret;exact⟨l9 Hs.out.symm,hE0.trans hE⟩
 · obtain⟨n,rfl,h1,h2,hgr⟩:=m3 hs;have Hs:=Lib.hid (c51 hs);have Hgr:=Lib.hid hgr;clear hgr;go_enter Tryz.func74,Tryz.ntmps74;go_wp2_with fail;rw[←Hwb.out];go_wp2_with (first | (go_at_call 46;refine cx (l5 _ _ _ _ (hg _ hE) (hs)) hE ?_;clear hE;intro w' hE) | (go_at_call 191;refine cx (bt3 _ _ _ _ (hg _ hE) Hgr h2) hE ?_;clear hE;intro w' hE));go_ret;exact⟨l9 Hs.out.symm,hE0.trans hE⟩
theorem bv1(v:Value)(l:List Int)(a:Int)(w:World)(h:c8 w v l){c:Bool}(hc:sidB l a=c) :
 Calls Tryz.prog 74 #[.agg #[v],.int .i64 a] w fun e w'=>e=.returned (.bool c)∧Ext w w':=by subst hc;exact bv0 v l a w h
end Go.Zz
namespace Go.Zz
open Go.RowKit Go.Proofs
set_option maxHeartbeats 2000000
set_option maxRecDepth 4000
def apT(l:List Int)(L:List Nat)(i k j:Nat):Bool:=((j9 l (d5 L i) (d5 L k):Nat):Int) == ((j9 l (d5 L j) (d5 L j):Nat):Int)
def ZT(l:List Int)(L:List Nat)(C:Nat→Nat→Nat→Prop)(n:Nat):Prop:=n=0↔∀i k j,C i k j→apT l L i k j=false
theorem ZT.congr{l:List Int}{L:List Nat}{C C':Nat→Nat→Nat→Prop}{n:Nat}(h:ZT l L C n)(e:∀i k j,C i k j↔C' i k j):ZT l L C' n :=
 h.trans ⟨fun H i k j hc=>H i k j ((e i k j).2 hc),fun H i k j hc=>H i k j ((e i k j).1 hc)⟩
theorem ZT.hit{l:List Int}{L:List Nat}{C C':Nat→Nat→Nat→Prop}{n i k j:Nat}(ht:apT l L i k j=true)(hc:C' i k j):ZT l L C' (n+1) :=
 ⟨fun e=>by omega,fun H=>by have:=H i k j hc;rw[ht] at this;cases this⟩
theorem ZT.miss{l:List Int}{L:List Nat}{C C':Nat→Nat→Nat→Prop}{n i k j:Nat}(h:ZT l L C n)(ht:apT l L i k j=false)(e:∀a b c,C' a b c↔C a b c∨(a=i∧b=k∧c=j)):ZT l L C' n :=
 h.trans ⟨fun H a b c hc=>by
  rcases (e a b c).1 hc with h | ⟨rfl,rfl,rfl⟩
  · exact H a b c h
  · exact ht,fun H a b c hc=>H a b c ((e a b c).2 (Or.inl hc))⟩
def apL(l:List Int)(L:List Nat):Bool:=(List.range L.length).all fun i=>(List.range L.length).all fun k=>(List.range L.length).all fun j=>decide (k≤i) || !apT l L i k j
theorem dt2{l:List Int}{L:List Nat}:apL l L=true↔∀i k j,(i<k∧k<L.length∧j<L.length)→apT l L i k j=false:=by
 unfold apL;simp only[List.all_eq_true,List.mem_range];constructor
 · rintro H i k j ⟨h1,h2,h3⟩;have:=H i (by omega) k h2 j h3;simpa[show ¬k≤i by omega] using this
 · intro H i h1 k h2 j h3;by_cases hk:k≤i
   · simp[hk]
   · rw[H i k j ⟨by omega,h2,h3⟩];simp
def apB(l:List Int)(a:Int):Bool:=d8 l a&&apL l (j1 a.toNat)
theorem dc4{l:List Int}{a:Int}(h:d8 l a=false):apB l a=false:=by unfold apB;rw[h];rfl
theorem d39{l:List Int}{n:Nat}(h:d8 l n=true):apB l n=apL l (j1 n):=by unfold apB;rw[h];rfl
theorem ZT.all{l:List Int}{L:List Nat}{n:Nat}(h:ZT l L (fun i k j=>i<k∧k<L.length∧j<L.length) n):((n:Int) == 0)=apL l L:=by
 rw[Bool.eq_iff_iff,beq_iff_eq,dt2];exact⟨fun e=>h.1 (by omega),fun H=>by have:=h.2 H;omega⟩
def ZN(b:Bool)(e:Ending):Prop:=∃n:Int,e=.returned (.int .i64 n)∧(n == 0)=b∧(n != 0) = !b
theorem ZN.mk{n:Int}{b:Bool}(h:(n == 0)=b):ZN b (.returned (.int .i64 n)):=⟨n,rfl,h,by rw[←h];rfl⟩
theorem ck9(v:Value)(l:List Int)(a:Int)(w:World)(h:c8 w v l) :
 Calls Tryz.prog 226 #[.agg #[v],.int .i64 a] w fun e w'=>ZN (apB l a) e∧Ext w w':=by
 obtain⟨wb,Hwb,hE0,hb,hg,hE,Hsz⟩:=j60 28 h;clear h;have hbx:=hb wb hE;cases hs:d8 l a
 · have Hs:=Lib.hid (dc4 hs);go_enter Tryz.func226,Tryz.ntmps226;go_wp2_with fail;rw[←Hwb.out];go_wp2_with (first | (go_at_call 105;refine cx (o7 _ _ _ _ (hg _ hE) (hs)) hE ?_;clear hE;intro w' hE));go_ret;exact⟨by rw[Hs.out];exact ZN.mk (by decide),hE0.trans hE⟩
 · obtain⟨n,rfl,h1,h2,hgr⟩:=m3 hs;have Hs:=Lib.hid (d39 hs);have Hgr:=Lib.hid hgr;clear hgr;go_enter Tryz.func226,Tryz.ntmps226;go_wp2_with fail;rw[←Hwb.out];go_wp2_with (first | (go_at_call 105;refine cx (o7 _ _ _ _ (hg _ hE) (hs)) hE ?_;clear hE;intro w' hE) | (go_at_call 214;refine (I9 n h2 _).mono ?_;rintro e w1 ⟨v1,rfl,hL,hE1⟩;obtain⟨aoL,cL,adrL,rfl,hcap,hadrL,hcellL⟩:=hL.ints.natc;have hixL:=j6 (c:=cL) elI szI hadrL));have hb1:∀W,Ext w1 W→W.cell? ⟨w.heap.size,0,none⟩=some v:=fun W hW=>hb W (hE.trans (hE1.trans hW));have hg1:∀W,Ext w1 W→c8 W v l:=fun W hW=>hg W (hE.trans (hE1.trans hW));have eW:=hE0.trans (hE.trans hE1);have hall:∀y∈j1 n,y<24:=fun y hy=>G7 hy;have hlen:=C9 n;have HLI:=Lib.hid (fun W (hW:Ext w1 W)=>(hL.ext hW).ints);clear hb hg hbx hE hE1 hL hs;generalize j1 n=L at hcellL hixL hall hlen Hs hcap hadrL HLI ⊢;have HcL:=Lib.hid hcellL;clear hadrL hcellL;have hE:=Ext.refl w1;go_loopw [5,21] (fun nv iv wr=>∃i z:Nat,i≤L.length∧iv=.int .i64 i∧nv=.int .i64 z∧z≤576*i∧Hid (ZT l L (fun a b c=>a<i∧a<b∧b<L.length∧c<L.length) z)∧Ext w1 wr) (fun _ iv _=>L.length - (intOf iv).toNat);(case atStart=>exact⟨0,0,by omega,rfl,rfl,by omega,Lib.hid ⟨fun _ a b c hc=>by omega,fun _=>rfl⟩,hE⟩);case round =>
    clear hE;obtain⟨i,z,hi,rfl,rfl,hz,HZ,hE⟩:=hrel;by_cases hlt:i<L.length
    · have hck:=HcL.out i _ hlt hE;have hix24:=hall _ (o6 hlt);obtain⟨X,hX⟩:∃X,X=d5 L i:=⟨_,rfl⟩;rw[←hX] at hck hix24;have HX:=Lib.hid hX;clear hX;have hfl:=fun W=>b58 (P:=Tryz.prog) elI szI aoL L.length cL ((i:Int)+1) (by omega) (by omega) W;have hfa:=fun W=>b72 (P:=Tryz.prog) elI szI aoL L.length cL ((i:Int)+1) (by omega) (by omega) W;rw[show ((i:Int)+1).toNat=i+1 by omega] at hfl hfa;obtain⟨ao2,c2,adr2,hv2,hlen2,hadr2,hcell2⟩:=((HLI.out _ hE).drop (k:=i+1) (by rw[j8];omega)).op;have hl2:((d6 L).drop (i+1)).length=L.length - (i+1):=(by rw[List.length_drop,j8]);have hix2:=j6 (c:=c2) elI szI hadr2;obtain⟨M,hM⟩:∃M,M=((d6 L).drop (i+1)).length:=⟨_,rfl⟩;rw[←hM] at hv2 hix2 hl2;have HM:Hid (i+1+M=L.length):=Lib.hid (by omega);have hM24:M≤24:=(by omega);have hc2:∀t W,t<M→Ext wr W→W.cell? (adr2 t)=some (.int .i64 (d5 L (i+1+t):Int)):=fun t W ht hW=>by
       rw[hcell2 t W (by rw[←hM];exact ht) hW]
       simp[nth,List.getD,List.getElem?_drop,d5,d6]
       cases L[i+1+t]?<;>rfl
      rw[hv2] at hfl hfa;have Hc2:=Lib.hid hc2;clear hv2 hcell2 hadr2 hl2 hM hlen2 hc2;go_wp2_with fail;rename World=>wi;go_loopw [5,31] (fun nv kv wr=>∃t z:Nat,t≤M∧kv=.int .i64 t∧nv=.int .i64 z∧z≤576*i+24*t∧Hid (ZT l L (fun a b c=>(a<i∧a<b∧b<L.length∧c<L.length)∨(a=i∧i<b∧b<i+1+t∧c<L.length)) z)∧Ext w1 wr∧Ext wi wr) (fun _ kv _=>M - (intOf kv).toNat);(case atStart=>exact⟨0,z,by omega,rfl,rfl,by omega,Lib.hid (HZ.out.congr fun a b c=>by omega),hE,Ext.refl _⟩);case round =>
       clear hE hck hz HZ;obtain⟨t,z,ht,rfl,rfl,hz,HZ,hE,hEi⟩:=hrel;by_cases hlt2:t<M
       · have hkt:i+1+t<L.length:=(by have:=HM.out;omega);have hct:=Hc2.out t _ hlt2 hEi;have hy24:=hall _ (o6 hkt);obtain⟨Y,hY⟩:∃Y,Y=d5 L (i+1+t):=⟨_,rfl⟩;rw[←hY] at hct hy24;have HY:=Lib.hid hY;clear hY;go_wp2_with fail;go_loopw [5,37] (fun nv jv wr=>∃j z:Nat,j≤L.length∧jv=.int .i64 j∧nv=.int .i64 z∧z≤576*i+24*t+j∧Hid (ZT l L (fun a b c=>(a<i∧a<b∧b<L.length∧c<L.length)∨(a=i∧i<b∧b<i+1+t∧c<L.length)∨(a=i∧b=i+1+t∧c<j)) z)∧Ext w1 wr∧Ext wi wr) (fun _ jv _=>L.length - (intOf jv).toNat);(case atStart=>exact⟨0,z,by omega,rfl,rfl,by omega,Lib.hid (HZ.out.congr fun a b c=>by omega),hE,hEi⟩);case round =>
          clear hE hct hz HZ hEi;obtain⟨j,z,hj,rfl,rfl,hz,HZ,hE,hEi⟩:=hrel;by_cases hlt3:j<L.length
          · have hcj:=HcL.out j _ hlt3 hE;have hz24:=hall _ (o6 hlt3);obtain⟨Z,hZ⟩:∃Z,Z=d5 L j:=⟨_,rfl⟩;rw[←hZ] at hcj hz24;have HZd:=Lib.hid hZ;clear hZ;rename World=>wj;have hbj:=fun U=>hb1 _ (hE.trans (b9 wj U));have cA:=fun U=>N2 v l X Y (Lat wj U) (hg1 _ (hE.trans (b9 wj U))) Hgr (by omega) (by omega);have cB:=fun U=>N2 v l Z Z (Lat wj U) (hg1 _ (hE.trans (b9 wj U))) Hgr (by omega) (by omega);have hEj:=hE;clear hE;have hE:=Ext.refl wj;cases hq:(((j9 l X Y:Nat):Int) == ((j9 l Z Z:Nat):Int))
            · have Hap:Hid (apT l L i (i+1+t) j=false):=Lib.hid (by unfold apT;rw[←HX.out,←HY.out,←HZd.out];exact hq);go_wp2_with fail;(refine d0 (wj) (by kernel_rfl) (by kernel_rfl) hE ?_);(repeat (go_big_quiet_step (first | (go_at_call 224;first | with_reducible exact Calls.lat (cA _) | with_reducible exact Calls.lat (cB _)))));(refine wpQuiet_nil ?_);(intro W hE');(replace hE:=l7 hE');(clear hE');go_wp2_with fail;go_roundw;(case rel=>exact⟨j+1,z,by omega,by go_num,rfl,by omega,Lib.hid (HZ.out.miss Hap.out fun a b c=>by omega),hEj.trans hE,hEi.trans hE⟩);case measure=>(simp[intOf];omega)
            · have Hap:Hid (apT l L i (i+1+t) j=true):=Lib.hid (by unfold apT;rw[←HX.out,←HY.out,←HZd.out];exact hq);go_wp2_with fail;(refine d0 (wj) (by kernel_rfl) (by kernel_rfl) hE ?_);(repeat (go_big_quiet_step (first | (go_at_call 224;first | with_reducible exact Calls.lat (cA _) | with_reducible exact Calls.lat (cB _)))));(refine wpQuiet_nil ?_);(intro W hE');(replace hE:=l7 hE');(clear hE');go_wp2_with fail;go_roundw;(case rel=>exact⟨j+1,z+1,by omega,by go_num,by go_num,by omega,Lib.hid (ZT.hit (C:=fun _ _ _=>True) Hap.out (by omega)),hEj.trans hE,hEi.trans hE⟩);case measure=>(simp[intOf];omega)
          · have hjl:j=L.length:=(by omega);have Hn:=Lib.hid (HZ.out.congr (C':=fun a b c=>(a<i∧a<b∧b<L.length∧c<L.length)∨(a=i∧i<b∧b<i+1+(t+1)∧c<L.length)) fun a b c=>by omega);have hz2:z≤576*i+24*(t+1):=(by omega);clear hjl;go_wp2_with fail;go_roundw;(case rel=>exact⟨t+1,z,by omega,by go_num,rfl,hz2,Hn,hE,hEi⟩);case measure=>(simp[intOf];omega)
       · have Hn:Hid (ZT l L (fun a b c=>a<i+1∧a<b∧b<L.length∧c<L.length) z):=Lib.hid (HZ.out.congr fun a b c=>by have:=HM.out;omega);have hz2:z≤576*(i+1):=(by omega);go_wp2_with fail;go_roundw;(case rel=>exact⟨i+1,z,by omega,by go_num,rfl,hz2,Hn,hE⟩);case measure=>(simp[intOf];omega)
    · have hil:i=L.length:=(by omega);have Hz:Hid (((z:Int) == 0)=apL l L):=Lib.hid (ZT.all (HZ.out.congr fun a b c=>by omega));clear hil;go_wp2_with fail;go_ret;exact⟨by rw[Hs.out];exact ZN.mk Hz.out,eW.trans hE⟩
theorem bq3(v:Value)(l:List Int)(a:Int)(w:World)(h:c8 w v l) :
 Calls Tryz.prog 116 #[.agg #[v],.int .i64 a] w fun e w'=>e=.returned (.bool (apB l a))∧Ext w w':=by
 obtain⟨wb,Hwb,hE0,hb,hg,hE,Hsz⟩:=j60 28 h;clear h;have hbx:=hb wb hE;have cT:=ck9 v l a wb (hg _ hE);go_enter Tryz.func116,Tryz.ntmps116;go_wp2_with fail;rw[←Hwb.out];refine cT.mono ?_;rintro e w1 ⟨⟨n,rfl,hn,-⟩,hE1⟩;go_wp2_with fail;go_ret;exact⟨rfl,hE0.trans hE1⟩
end Go.Zz
namespace Go.Zz
open Go.RowKit Go.Proofs
set_option maxHeartbeats 2000000
set_option maxRecDepth 4000
end Go.Zz
