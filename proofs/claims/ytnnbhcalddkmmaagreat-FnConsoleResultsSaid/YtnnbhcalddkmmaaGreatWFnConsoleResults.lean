/- What the console says of groups, sets and pairs is what the functions say: the walk through the law. -/
import Derived.Test.YtnnbhcalddkmmaaGreatGr34
import Derived.Test.YtnnbhcalddkmmaaGreatGr30
import Derived.Test.YtnnbhcalddkmmaaGreatGr35
import Derived.Test.YtnnbhcalddkmmaaGreatGr33
import Derived.Deep.DeepCutAuto
set_option linter.unusedSimpArgs false
set_option linter.unusedVariables false
set_option linter.unnecessarySimpa false
namespace Go.Zz
open Go.RowKit Go.Proofs
set_option maxHeartbeats 40000000
set_option maxRecDepth 20000
def MkR(R:Bool)(S:ByteArray)(w:World)(e:Ending)(w':World):Prop :=
 ∃(k a b s p n:Int) (g o t q:List Int) (a1 a2 a3 a4:Option Addr) (c1 c2 c3 c4:Nat),e=.returned (.tuple #[.agg #[.int .i64 k,.slice a1 g.length c1,.slice a2 o.length c2,.int .i64 a,.int .i64 b,.int .i64 s,.int .i64 p,.slice a3 t.length c3,.slice a4 q.length c4,.int .i64 n],.bool R])∧Ext w w' ∧
  ∀W,Nwb w w' W→Calls Tryz.prog 14 #[.agg #[.int .i64 k,.slice a1 g.length c1,.slice a2 o.length c2,.int .i64 a,.int .i64 b,.int .i64 s,.int .i64 p,.slice a3 t.length c3,.slice a4 q.length c4,.int .i64 n]] W fun e W'=>e=.returned (.string S)∧Ext W W'
theorem dj1(v:Value)(l:List Int)(a:Int)(w:World)(h:c8 w v l):Calls Tryz.prog 13 #[.agg #[v],.int .i64 a] w (MkR (ftB l a) (b08 l a) w) :=
 (c46 v l a w h).mono fun _ _ h=>by
  obtain⟨v1,v2,v3,v4,rfl,hO,hE⟩:=h
  obtain⟨a1,c1,rfl,-⟩:=hO.h1.shape
  obtain⟨a2,c2,rfl,-⟩:=hO.h2.shape
  obtain⟨a3,c3,rfl,-⟩:=hO.h3.shape
  obtain⟨a4,c4,rfl,-⟩:=hO.h4.shape
  exact⟨_,_,_,_,_,_,_,_,_,_,a1,a2,a3,a4,c1,c2,c3,c4,rfl,hE,fun W hW=>bc0 _ _ _ _ _ _ _ _ _ _ _ _ _ _ W ⟨(hO.h1.nwb hW).ints,(hO.h2.nwb hW).ints,(hO.h3.nwb hW).ints,(hO.h4.nwb hW).ints⟩⟩
theorem j44(A B C D E X G:ByteArray):tx [A,B,C,D,E,X,G]=A++(⟨#[10]⟩:ByteArray)++B++(⟨#[10]⟩:ByteArray)++C++(⟨#[10]⟩:ByteArray)++D++(⟨#[10]⟩:ByteArray)++E++(⟨#[10]⟩:ByteArray)++X++(⟨#[10]⟩:ByteArray)++G++(⟨#[10]⟩:ByteArray):=by
 have hE:∀(u v:ByteArray),u.data.toList=v.data.toList→u=v:=fun u v=>R1;refine hE _ _ ?_;clear hE;simp only[tx];simp only[cq4,nlB,mtB];simp only[List.append_assoc,List.append_nil]
theorem dm3{L:List Int}(h:c9 L=true):∃F:Nat,fuF L=F∧0<F∧F+1=2 ^ ord L:=by
 have h1:=(l8 h).1;have h2:2 ^ 1≤2 ^ ord L:=Nat.pow_le_pow_right (by omega) h1;refine⟨j4 L,by unfold fuF;rw[if_pos h],?_,?_⟩<;>(unfold j4;rw[cm6];omega)
theorem d38{v:Value}{l:List Int}{w:World}(h:b95 w v l) :
 Calls Tryz.prog 3 #[v] w fun e w'=>e=.returned (.bool true)∧Ext w w':=by
 go_enter Tryz.func3,Tryz.ntmps3;go_wp2_with fail;refine (dt6 _ _ _ h).mono ?_;rintro e w0 ⟨b,rfl,hE0⟩;cases b;rotate_left
 · go_wp2_with fail;go_ret;exact⟨rfl,hE0⟩
 go_wp2_with fail;have hEN:=(Ext.refl w0).alloc (.cells #[.string ⟨#[53]⟩,.string ⟨#[54]⟩,.string ⟨#[50,120,50]⟩,.string ⟨#[55]⟩,.string ⟨#[50,120,52]⟩,.string ⟨#[51,120,51]⟩] 9);have hS:S5 (w0.alloc (.cells #[.string ⟨#[53]⟩,.string ⟨#[54]⟩,.string ⟨#[50,120,50]⟩,.string ⟨#[55]⟩,.string ⟨#[50,120,52]⟩,.string ⟨#[51,120,51]⟩] 9)) (.slice (some ⟨w0.heap.size,0,none⟩) 6 6) nm6:=bn9 w0 nm6 _ (by decide);obtain⟨wN,hwN⟩:∃x,x=w0.alloc (.cells #[.string ⟨#[53]⟩,.string ⟨#[54]⟩,.string ⟨#[50,120,50]⟩,.string ⟨#[55]⟩,.string ⟨#[50,120,52]⟩,.string ⟨#[51,120,51]⟩] 9):=⟨_,rfl⟩;rw[←hwN] at hEN hS ⊢;obtain⟨g0,c0,hv0,hcell,hix⟩:=hS.indexS (by decide);change ∀(i:Nat) W,i<6→(Instr.indexAt _ (.slice (some ⟨g0,0,none⟩) 6 c0) _).run _ _=_ at hix;obtain rfl:g0=w0.heap.size:=by cases hv0;rfl
 obtain rfl:c0=6:=by cases hv0;rfl
 clear hv0 hwN;have hB:=h.ext (hE0.trans hEN);have hEw:=hE0.trans hEN;obtain⟨k1,hk1⟩:∃k:Nat,atF l 1=k:=Int.eq_ofNat_of_zero_le (bh3 hB 1).1;have hb1:=(bh3 hB 1).2;refine (co4 v l 1 (by omega) wN hB).mono ?_;rintro e w1 ⟨rfl,hE1⟩;rw[hk1] at hb1 ⊢;have hj6:k1 % 6<6:=by omega
 have hck:=hE1.cell (hcell (k1 % 6) hj6);have hixj:=fun W=>hix (k1 % 6) W hj6;have hnz:=do3 (k1 % 6);obtain⟨L,hg,h0,ho,hf⟩:=six (k1 % 6) hj6;obtain⟨nm,hnm⟩:∃x,x=m6 nm6 (k1 % 6):=⟨_,rfl⟩;rw[←hnm] at hck hnz hf;obtain⟨p1,p2⟩:=da2 hg h0;rw[hf] at p1 p2;have hP:=fun W=>c94 nm W (by omega);rw[p1,p2] at hP;have Hf:=Lib.hid hf;have Hg:=Lib.hid hg;have Hz:=Lib.hid hnz;have Ho:=Lib.hid (And.intro ho h0);replace hEw:=hEw.trans hE1;clear hcell hix hS hnm hf p1 p2 hnz ho h0 hg hE0 hEN hE1 hB;go_wp2_with fail;refine (hP _).mono ?_;rintro e w2 ⟨v2,rfl,hI,hE2⟩;obtain⟨ao,cg,adr,rfl,-,-,-⟩:=hI.op;replace hEw:=hEw.trans hE2;clear hixj hck hP hE2 hb1 hj6;go_wp2_with fail;have hE2:=(Ext.refl w2).alloc (.cells #[.slice ao L.length cg] 28);have hbb:=d7 w2 (.slice ao L.length cg) 28;have hgI:=fun W hW=>(hI.ext hE2).ext (w':=W) hW;obtain⟨wb,hwb⟩:∃x,x=w2.alloc (.cells #[.slice ao L.length cg] 28):=⟨_,rfl⟩;rw[←hwb] at hE2 hbb hgI ⊢;have hEb:=hEw.trans hE2;have hbt:=fun W (hW:Ext wb W)=>(h.ext hEb).ext hW;have Hwb:=Lib.hid hwb;have hE:=Ext.refl wb;have hbU:=fun U=>hbb _ (b9 wb U);obtain⟨k2,hk2⟩:∃k:Nat,atF l 2=k:=Int.eq_ofNat_of_zero_le (bh3 (hbt _ hE) 2).1;obtain⟨k3,hk3⟩:∃k:Nat,atF l 3=k:=Int.eq_ofNat_of_zero_le (bh3 (hbt _ hE) 3).1;have b2:=(bh3 (hbt _ hE) 2).2;have b3:=(bh3 (hbt _ hE) 3).2;have c2:=fun W hW=>co4 v l 2 (by omega) W (hbt W hW);have c3:=fun W hW=>co4 v l 3 (by omega) W (hbt W hW);have cF:=fun W hW=>cx0 _ L W (hgI W hW);obtain⟨F,hF,hF0,hF9⟩:∃F:Nat,fuF L=F∧0<F∧F+1=2 ^ ord L:=dm3 Hg.out;have hF10:F<512:=by
  have:=Nat.pow_le_pow_right (n:=2) (by omega) Ho.out.1;omega
 rw[hF] at cF;rw[hk2] at c2 b2;rw[hk3] at c3 b3;obtain⟨n,hn⟩:∃n,n=1+k2 % F:=⟨_,rfl⟩;obtain⟨m,hm⟩:∃m,m=1+k3 % F:=⟨_,rfl⟩;have hnF:0<n∧n<2 ^ ord L:=by have:=Nat.mod_lt k2 hF0;omega
 have hmF:0<m∧m<2 ^ ord L:=by have:=Nat.mod_lt k3 hF0;omega
 have en:wrap64 (1+(k2:Int) % (F:Int))=(n:Int):=by
  have e:(1+(k2:Int) % (F:Int))=((1+k2 % F:Nat):Int):=by simp
  rw[e,←hn];exact bf4 n (by omega)
 have em:wrap64 (1+(k3:Int) % (F:Int))=(m:Int):=by
  have e:(1+(k3:Int) % (F:Int))=((1+k3 % F:Nat):Int):=by simp
  rw[e,←hm];exact bf4 m (by omega)
 have hsn:=O5 Hg.out hnF.2;have hsm:=O5 Hg.out hmF.2;have hF0':¬(F:Int)=0:=by omega
 have Hn:=Lib.hid hsn;have Hm:=Lib.hid hsm;have Hnm:=Lib.hid (And.intro hnF.1 hmF.1);clear hwb hI hE2 hEw hk1 hn hm hF hF9 hnF hmF hk2 hk3 b2 b3;(refine d0 (wb) (by kernel_rfl) (by kernel_rfl) hE ?_);(repeat (go_big_quiet_step (first | (go_at_call 8;with_reducible exact Calls.lat (c2 _ (b9 _ _))) | (go_at_call 10;with_reducible exact Calls.lat (cF _ (b9 _ _))))));(refine wpQuiet_nil ?_);(intro W hE');(replace hE:=l7 hE');(clear hE');rw[en];go_wp2_with fail;(refine d0 (wb) (by kernel_rfl) (by kernel_rfl) hE ?_);(repeat (go_big_quiet_step (first | (go_at_call 8;with_reducible exact Calls.lat (c3 _ (b9 _ _))) | (go_at_call 10;with_reducible exact Calls.lat (cF _ (b9 _ _))))));(refine wpQuiet_nil ?_);(intro W hE');(replace hE:=l7 hE');(clear hE');rw[em];clear en em c2 c3 cF hbU hbt hF0' hF0 hF10;have cA:=fun W hW=>m7 _ L n W (hgI W hW);have cB:=fun W hW=>m7 _ L m W (hgI W hW);have zA:=cm0 hsn Ho.out.1;have zB:=cm0 hsm Ho.out.1;obtain⟨s,hs⟩:∃x,x=fsF L n:=⟨_,rfl⟩;obtain⟨t,ht⟩:∃x,x=fsF L m:=⟨_,rfl⟩;rw[←hs] at cA zA;rw[←ht] at cB zB;have Hs:=Lib.hid hs;have Ht:=Lib.hid ht;clear hs ht hsn hsm;have kb:=hbb _ hE;go_wp2_with (go_at_call 11;(first | (with_reducible refine Calls.mono (cA _ hE) ?_) | (with_reducible refine Calls.mono (cB _ hE) ?_));rintro e w' ⟨rfl,hE'⟩;replace hE:=hE.trans hE';clear hE' kb;have kb:=hbb _ hE);refine (dy0 _ L n m _ (hgI _ hE)).mono ?_;rintro e w5 ⟨u0,u3,u4,u5,u6,u9,R,g1,g2,g7,g8,a1,a2,a3,a4,d1,d2,d3,d4,rfl,hE5,hFc⟩;clear kb;have hEc:=(Ext.refl w5).alloc (.cells #[.int .i64 u0,.slice a1 g1.length d1,.slice a2 g2.length d2,.int .i64 u3,.int .i64 u4,.int .i64 u5,.int .i64 u6,.slice a3 g7.length d3,.slice a4 g8.length d4,.int .i64 u9] 34);have hBc:=Blk.new w5 34 #[.int .i64 u0,.slice a1 g1.length d1,.slice a2 g2.length d2,.int .i64 u3,.int .i64 u4,.int .i64 u5,.int .i64 u6,.slice a3 g7.length d3,.slice a4 g8.length d4,.int .i64 u9];have kb:=hbb _ ((hE.trans hE5).trans hEc);have Hc:=Lib.hid (fun W (hW:Ext w5 W)=>hFc W hW.nwb);replace hE:=(hE.trans hE5).trans hEc;clear hFc hE5;go_wp2_with fail;obtain⟨wc,hwc⟩:∃x,x=w5.alloc (.cells #[.int .i64 u0,.slice a1 g1.length d1,.slice a2 g2.length d2,.int .i64 u3,.int .i64 u4,.int .i64 u5,.int .i64 u6,.slice a3 g7.length d3,.slice a4 g8.length d4,.int .i64 u9] 34):=⟨_,rfl⟩;rw[←hwc] at hEc hBc kb hE ⊢;have hcT:=dj1 _ L n wc (hgI _ hE);obtain⟨TB,hTB⟩:∃x,x=ftB L n:=⟨_,rfl⟩;rw[←hTB] at hcT;have HTB:=Lib.hid hTB;have Hwc:=Lib.hid hwc;clear hTB hwc;refine hcT.mono ?_;rintro e w6 ⟨x0,x3,x4,x5,x6,x9,f1,f2,f7,f8,y1,y2,y3,y4,z1,z2,z3,z4,rfl,hE6,hFd⟩;clear kb;have hEd:=(Ext.refl w6).alloc (.cells #[.int .i64 x0,.slice y1 f1.length z1,.slice y2 f2.length z2,.int .i64 x3,.int .i64 x4,.int .i64 x5,.int .i64 x6,.slice y3 f7.length z3,.slice y4 f8.length z4,.int .i64 x9] 34);have hBd:=Blk.new w6 34 #[.int .i64 x0,.slice y1 f1.length z1,.slice y2 f2.length z2,.int .i64 x3,.int .i64 x4,.int .i64 x5,.int .i64 x6,.slice y3 f7.length z3,.slice y4 f8.length z4,.int .i64 x9];obtain⟨wd,hwd⟩:∃x,x=w6.alloc (.cells #[.int .i64 x0,.slice y1 f1.length z1,.slice y2 f2.length z2,.int .i64 x3,.int .i64 x4,.int .i64 x5,.int .i64 x6,.slice y3 f7.length z3,.slice y4 f8.length z4,.int .i64 x9] 34):=⟨_,rfl⟩;have Hd:=Lib.hid (fun W (hW:Ext w6 W)=>hFd W hW.nwb);rw[←hwd] at hEd hBd;have hEcd:=hE6.trans hEd;replace hE:=hE.trans hEcd;replace hBc:=hBc.ext hEcd;have kb:=hbb _ hE;have Hwd:=Lib.hid hwd;have HEd:=Lib.hid (And.intro hEd (hEc.trans hEcd));have e0:=hBd.cell (i:=0) rfl;have e1:=hBd.cell (i:=1) rfl;have e2:=hBd.cell (i:=2) rfl;have e3:=hBd.cell (i:=3) rfl;have e4:=hBd.cell (i:=4) rfl;have e5:=hBd.cell (i:=5) rfl;have e6:=hBd.cell (i:=6) rfl;have e7:=hBd.cell (i:=7) rfl;have e8:=hBd.cell (i:=8) rfl;have e9:=hBd.cell (i:=9) rfl;clear hFd hE6 hwd hEcd cA cB;have hz:=Hz.out;obtain⟨T,hT⟩:∃x,x=tx7 nm s t:=⟨_,rfl⟩;have hT':=hT.symm;unfold tx7 at hT';have HT:=Lib.hid hT;clear hT;have hdF:=Hd.out wd HEd.out.1;obtain⟨S,hS⟩:∃x,x=b08 L n:=⟨_,rfl⟩;have zS:=bi0;have HS:=Lib.hid hS;rw[←hS] at hdF;clear hS;have H7:=j61 Hg.out Ho.out.2 Ho.out.1 (by rw[Hf.out];exact hz) Hn.out Hnm.out.1 Hm.out Hnm.out.2;rw[←HTB.out,←HS.out,Hf.out,←Hs.out,←Ht.out,←HT.out] at H7;have zS:S.size≤4000:=by rw[HS.out];exact bi0 ..
 clear hBd;have zA:(W2 L).size≤4000:=ct0 L;obtain⟨A,hA⟩:∃x,x=W2 L:=⟨_,rfl⟩;have zB:(elF L).size≤4000:=d49 L;obtain⟨B,hB⟩:∃x,x=elF L:=⟨_,rfl⟩;have zC:(stlF L n).size≤4000:=cy3 L n;obtain⟨C,hC⟩:∃x,x=stlF L n:=⟨_,rfl⟩;have zD:(plF L n m).size≤4000:=d68 L n m;obtain⟨D,hD⟩:∃x,x=plF L n m:=⟨_,rfl⟩;have zE:(b29 L n m).size≤4000:=bi0 ..;obtain⟨E,hE⟩:∃x,x=b29 L n m:=⟨_,rfl⟩;have zG:(Y2 L n).size≤4000:=cz7 L n;obtain⟨G,hG⟩:∃x,x=Y2 L n:=⟨_,rfl⟩;have qA:=fun W hW=>ce2 _ L W (hgI W hW);have qB:=fun W hW=>bz1 _ L W (hgI W hW);have qC:=fun W hW=>cx3 _ L n W (hgI W hW);have qD:=fun W hW=>cl6 _ L n m W (hgI W hW);have qG:=fun W hW=>cl9 _ L n W (hgI W hW);have qE:=fun W hW=>Hc.out W (HEd.out.2.trans (c:=W) hW);rw[←hA] at zA qA H7;rw[←hB] at zB qB H7;rw[←hC] at zC qC H7;rw[←hD] at zD qD H7;rw[←hE] at zE qE H7;rw[←hG] at zG qG H7;clear hA hB hC hD hE hG;have H7h:=Lib.hid H7;clear H7;cases TB;clear e0 e1 e2 e3 e4 e5 e6 e7 e8 e9 hdF;go_wp2_with fail;rw[←Hwd.out];obtain⟨w7,h7⟩:∃x,x=wd:=⟨_,rfl⟩;have hE7:Ext wd w7:=by rw[h7];exact Ext.refl _
 obtain⟨X,hX⟩:∃x,x=wNo:=⟨_,rfl⟩;rw[←h7,show (⟨#[110,111]⟩:ByteArray)=X from hX.symm];have H7:=H7h.out;rw[if_neg (by decide),←hX] at H7;have zX:X.size≤4000:=by rw[hX];decide
 clear hX h7;rotate_left;go_wp2_with (rw[←Hwd.out];refine hdF.mono ?_;rintro e w7 ⟨rfl,hE7⟩);obtain⟨X,hX⟩:∃x,x=S:=⟨_,rfl⟩;rw[←hX];have H7:=H7h.out;rw[if_pos trivial,←hX] at H7;have zX:X.size≤4000:=by rw[hX];exact zS
 clear hX e0 e1 e2 e3 e4 e5 e6 e7 e8 e9 hdF;all_goals (
  have hEq:=hE.trans hE7
  have ub:=fun U=>hbb _ (hEq.trans (b9 w7 U))
  replace hBc:=hBc.ext hE7
  have v0:=fun U=>(b9 w7 U).cell (hBc.cell (i:=0) rfl)
  have v1:=fun U=>(b9 w7 U).cell (hBc.cell (i:=1) rfl)
  have v2:=fun U=>(b9 w7 U).cell (hBc.cell (i:=2) rfl)
  have v3:=fun U=>(b9 w7 U).cell (hBc.cell (i:=3) rfl)
  have v4:=fun U=>(b9 w7 U).cell (hBc.cell (i:=4) rfl)
  have v5:=fun U=>(b9 w7 U).cell (hBc.cell (i:=5) rfl)
  have v6:=fun U=>(b9 w7 U).cell (hBc.cell (i:=6) rfl)
  have v7:=fun U=>(b9 w7 U).cell (hBc.cell (i:=7) rfl)
  have v8:=fun U=>(b9 w7 U).cell (hBc.cell (i:=8) rfl)
  have v9:=fun U=>(b9 w7 U).cell (hBc.cell (i:=9) rfl)
  have hE0:=hEb.trans hEq
  obtain⟨R7,hR7⟩:∃x,x=tx [A,B,C,D,E,X,G]:=⟨_,rfl⟩
  rw[←hR7] at H7
  have HR7:=Lib.hid hR7
  have hE:=Ext.refl w7
  clear hR7 hT' zS hbb hBc kb H7h
  (refine d0 (w7) (by kernel_rfl) (by kernel_rfl) hE ?_);(repeat (go_big_quiet_step (first | (go_at_call 15;with_reducible exact Calls.lat (H7 _)) | (go_at_call 16;with_reducible exact Calls.lat (qA _ (hEq.trans (b9 w7 _)))) | (go_at_call 17;with_reducible exact Calls.lat (qB _ (hEq.trans (b9 w7 _)))) | (go_at_call 18;with_reducible exact Calls.lat (qC _ (hEq.trans (b9 w7 _)))) | (go_at_call 19;with_reducible exact Calls.lat (qD _ (hEq.trans (b9 w7 _)))) | (go_at_call 20;with_reducible exact Calls.lat (qG _ (hEq.trans (b9 w7 _)))) | (go_at_call 14;with_reducible exact Calls.lat (qE _ (hE7.trans (b9 w7 _)))))));(refine wpQuiet_nil ?_);(intro W hE');(replace hE:=l7 hE');(clear hE')
  have Hq:(R7.toList == (A++(⟨#[10]⟩:ByteArray)++B++(⟨#[10]⟩:ByteArray)++C++(⟨#[10]⟩:ByteArray)++D++(⟨#[10]⟩:ByteArray)++E++(⟨#[10]⟩:ByteArray)++X++(⟨#[10]⟩:ByteArray)++G++(⟨#[10]⟩:ByteArray)).toList)=true:=by rw[HR7.out,j44];exact beq_self_eq_true _
  rw[Hq]
  go_wp2_with fail
  go_ret
  exact⟨rfl,hE0.trans hE⟩)
end Go.Zz
