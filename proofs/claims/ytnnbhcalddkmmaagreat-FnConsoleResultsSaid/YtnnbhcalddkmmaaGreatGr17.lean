/- ClaimOfAlike of both. -/
import Derived.Test.YtnnbhcalddkmmaaGreatGr16
import Derived.Test.YtnnbhcalddkmmaaGreatGr4
import Derived.Test.YtnnbhcalddkmmaaGreatGr7
import Derived.Test.YtnnbhcalddkmmaaGreatGr11
import Derived.Test.YtnnbhcalddkmmaaGreatGr14
import Derived.Test.YtnnbhcalddkmmaaGreatGr9
import Derived.Test.YtnnbhcalddkmmaaGreatGr15
import Derived.Test.YtnnbhcalddkmmaaGreatGr12
import Derived.Test.YtnnbhcalddkmmaaGreatGr8
import Derived.Test.YtnnbhcalddkmmaaGreatGr6
namespace Go.Zz
open Go.RowKit Go.Proofs
set_option maxHeartbeats 2000000
set_option maxRecDepth 20000
end Go.Zz
namespace Go.Zz
open Go.RowKit Go.Proofs
set_option maxHeartbeats 2000000
set_option maxRecDepth 8000
def b64:ByteArray:=⟨#[103,114,111,117,112]⟩
def S4:ByteArray:=⟨#[101,120,116,114,101,109,97,108]⟩
def bc6:ByteArray:=⟨#[115,101,116]⟩
def V3:ByteArray:=⟨#[116,105,108,101,115]⟩
def Z3:ByteArray:=⟨#[116,105,108,101]⟩
def b84:ByteArray:=⟨#[112,97,105,114]⟩
def bg7:ByteArray:=⟨#[115,117,109]⟩
def b37:ByteArray:=⟨#[119,104,97,116]⟩
def wNo:ByteArray:=⟨#[110,111]⟩
def b29(l:List Int)(a b:Int):ByteArray:=fcF (csK l a b) (csG l a b) [] (csA l a b) (csB l a b) (csS l a b) (csP l a b) [] [] 0
def b08(l:List Int)(a:Int):ByteArray:=fcF (if ftB l a then 4 else 0) (if ftB l a then l else []) [] (if ftB l a then a else 0) (ftV l a) 0 0 [] [] 0
def Nwb(w w' W:World):Prop:=∀k,w.heap.size≤k→k<w'.heap.size→W.heap[k]?=w'.heap[k]?
theorem Ext.nwb{w w' W:World}(h:Ext w' W):Nwb w w' W:=fun k _ h2=>h.block k h2
theorem Own.nwb{TI:TypeId}{w w' W:World}{v:Value}{l:List Int}(h:Own TI w w' v l)(hW:Nwb w w' W):Own TI w W v l:=by
 obtain⟨⟨hl,hr⟩,hn⟩:=h;refine⟨⟨hl,?_⟩,hn⟩;rcases hr with hr | ⟨g,cap,cur,rfl,hg,hh,rest⟩
 · exact Or.inl hr
 · exact Or.inr ⟨g,cap,cur,rfl,hg,by rw[hW g hg (Array.getElem?_eq_some_iff.1 hh).1];exact hh,rest⟩
def MkF(S:ByteArray)(F:FuncId)(w:World)(e:Ending)(w':World):Prop :=
 ∃(k a b s p n:Int) (R:Bool) (g o t q:List Int) (a1 a2 a3 a4:Option Addr) (c1 c2 c3 c4:Nat),e=.returned (.tuple #[.agg #[.int .i64 k,.slice a1 g.length c1,.slice a2 o.length c2,.int .i64 a,.int .i64 b,.int .i64 s,.int .i64 p,.slice a3 t.length c3,.slice a4 q.length c4,.int .i64 n],.bool R])∧Ext w w' ∧
  ∀W,Nwb w w' W→Calls Tryz.prog F #[.agg #[.int .i64 k,.slice a1 g.length c1,.slice a2 o.length c2,.int .i64 a,.int .i64 b,.int .i64 s,.int .i64 p,.slice a3 t.length c3,.slice a4 q.length c4,.int .i64 n]] W fun e W'=>e=.returned (.string S)∧Ext W W'
theorem j13(v:Value)(l:List Int)(a b:Int)(w:World)(h:c8 w v l):Calls Tryz.prog 172 #[.agg #[v],.int .i64 a,.int .i64 b] w (MkF (b29 l a b) 174 w) :=
 (ca3 v l a b w h).mono fun _ _ h=>by
  obtain⟨v1,v2,v3,v4,rfl,hO,hE⟩:=h
  obtain⟨a1,c1,rfl,-⟩:=hO.h1.shape
  obtain⟨a2,c2,rfl,-⟩:=hO.h2.shape
  obtain⟨a3,c3,rfl,-⟩:=hO.h3.shape
  obtain⟨a4,c4,rfl,-⟩:=hO.h4.shape
  exact⟨_,_,_,_,_,_,_,_,_,_,_,a1,a2,a3,a4,c1,c2,c3,c4,rfl,hE,fun W hW=>bd0 _ _ _ _ _ _ _ _ _ _ _ _ _ _ W ⟨(hO.h1.nwb hW).ints,(hO.h2.nwb hW).ints,(hO.h3.nwb hW).ints,(hO.h4.nwb hW).ints⟩⟩
theorem dy0(v:Value)(l:List Int)(a b:Int)(w:World)(h:c8 w v l):Calls Tryz.prog 12 #[.agg #[v],.int .i64 a,.int .i64 b] w (MkF (b29 l a b) 14 w) :=
 (c87 v l a b w h).mono fun _ _ h=>by
  obtain⟨v1,v2,v3,v4,rfl,hO,hE⟩:=h
  obtain⟨a1,c1,rfl,-⟩:=hO.h1.shape
  obtain⟨a2,c2,rfl,-⟩:=hO.h2.shape
  obtain⟨a3,c3,rfl,-⟩:=hO.h3.shape
  obtain⟨a4,c4,rfl,-⟩:=hO.h4.shape
  exact⟨_,_,_,_,_,_,_,_,_,_,_,a1,a2,a3,a4,c1,c2,c3,c4,rfl,hE,fun W hW=>bc0 _ _ _ _ _ _ _ _ _ _ _ _ _ _ W ⟨(hO.h1.nwb hW).ints,(hO.h2.nwb hW).ints,(hO.h3.nwb hW).ints,(hO.h4.nwb hW).ints⟩⟩
theorem dw2(v:Value)(l:List Int)(a:Int)(w:World)(h:c8 w v l):Calls Tryz.prog 271 #[.agg #[v],.int .i64 a] w (MkF (b08 l a) 174 w) :=
 (c55 v l a w h).mono fun _ _ h=>by
  obtain⟨v1,v2,v3,v4,rfl,hO,hE⟩:=h
  obtain⟨a1,c1,rfl,-⟩:=hO.h1.shape
  obtain⟨a2,c2,rfl,-⟩:=hO.h2.shape
  obtain⟨a3,c3,rfl,-⟩:=hO.h3.shape
  obtain⟨a4,c4,rfl,-⟩:=hO.h4.shape
  exact⟨_,_,_,_,_,_,_,_,_,_,_,a1,a2,a3,a4,c1,c2,c3,c4,rfl,hE,fun W hW=>bd0 _ _ _ _ _ _ _ _ _ _ _ _ _ _ W ⟨(hO.h1.nwb hW).ints,(hO.h2.nwb hW).ints,(hO.h3.nwb hW).ints,(hO.h4.nwb hW).ints⟩⟩
end Go.Zz
namespace Go.Zz
open Go.RowKit Go.Proofs
set_option maxHeartbeats 2000000
set_option maxRecDepth 8000
def nlB:ByteArray:=⟨#[10]⟩
def lnL(t:ByteArray):List ByteArray:=if m6 (B7 10 t) ((B7 10 t).length - 1)=mtB then (B7 10 t).take ((B7 10 t).length - 1) else B7 10 t
def H9(r:ByteArray × Bool):ByteArray:=if r.2=false then b37 else if r.1=mtB then wNo else r.1
def Q6(G:ByteArray→ByteArray)(L:List ByteArray):Nat→ByteArray
 | 0=>mtB
 | k+1=>if m6 L k=mtB then Q6 G L k else Q6 G L k++G (m6 L k)++nlB
def b67(G:ByteArray→ByteArray)(t:ByteArray):ByteArray:=if 2000<t.size then mtB else if 20<(lnL t).length then mtB else Q6 G (lnL t) (lnL t).length
theorem d65{G:ByteArray→ByteArray}{L:List ByteArray}{k:Nat}(h:m6 L k=mtB):Q6 G L (k+1)=Q6 G L k:=if_pos h
theorem cc8{G:ByteArray→ByteArray}{L:List ByteArray}{k:Nat}(h:¬m6 L k=mtB):Q6 G L (k+1)=Q6 G L k++G (m6 L k)++nlB:=if_neg h
theorem dz8(G:ByteArray→ByteArray):b67 G mtB=mtB:=by unfold b67 lnL;rw[cq0];rfl
theorem J0.cap{w0 w:World}{g n c:Nat}{L:List ByteArray}(h:J0 w0 w (.slice (some ⟨g,0,none⟩) n c) L):n≤c:=by
 obtain⟨⟨-,h2⟩,-⟩:=h;rcases h2 with ⟨e,-⟩ | ⟨g',cap,cur,e,-,-,hnc,hcm,-⟩
 · cases e
 · cases e;omega
theorem bx7{s:ByteArray}(h:s=mtB):s.toList.isEmpty=true:=by subst h;rw[ByteArray.toList_eq];rfl
theorem dg5(L:List ByteArray)(m k:Nat)(h:k<m):m6 (L.take m) k=m6 L k:=by
 simp[m6,List.getD,h]
theorem ck8(F:ByteArray→ByteArray × Bool)(s:ByteArray)(w:World)
 (hF:∀t,t∈B7 10 s→¬t=mtB→(F t).1.size≤4000∧∀v W,S5 W v (B7 32 t)→Calls Tryz.prog 54 #[v] W fun e w'=>e=.returned (.tuple #[.string (F t).1,.bool (F t).2])∧Ext W w') :
 Calls Tryz.prog 15 #[.string s] w fun e w'=>e=.returned (.string (b67 (fun x=>H9 (F x)) s))∧Ext w w':=by
 by_cases h2:2000<s.size
 · have h2i:(2000:Int)<s.size:=(by omega);have Hc:Hid (b67 (fun x=>H9 (F x)) s=mtB):=Lib.hid (if_pos h2);go_enter Tryz.func15,Tryz.ntmps15;go_wp2_with fail;go_ret;exact⟨d9 Hc.out.symm,Ext.refl _⟩
 · have h2i:¬(2000:Int)<s.size:=(by omega);by_cases hm:s=mtB
   · have Hc:Hid (b67 (fun x=>H9 (F x)) s=mtB):=Lib.hid (by rw[hm];exact dz8 _);have hse:s.toList.isEmpty=true:=bx7 hm;clear hm;go_enter Tryz.func15,Tryz.ntmps15;go_wp2_with fail;go_ret;exact⟨d9 Hc.out.symm,Ext.refl _⟩
   · have hse:=b03 hm;have Hc:Hid (b67 (fun x=>H9 (F x)) s=if 20<(lnL s).length then mtB else Q6 (fun x=>H9 (F x)) (lnL s) (lnL s).length):=Lib.hid (if_neg h2);obtain⟨hs1,hs2,hs3⟩:=bd6 10 s;have hcut:=bh7 s 10 w (by omega);have Hln:Hid (lnL s=if m6 (B7 10 s) ((B7 10 s).length - 1)=mtB then (B7 10 s).take ((B7 10 s).length - 1) else B7 10 s):=Lib.hid rfl;obtain⟨L,hLd⟩:∃L,L=B7 10 s:=⟨_,rfl⟩;rw[←hLd] at hs1 hs2 hs3 hcut Hln hF;obtain⟨M,hM⟩:∃M,M=L.length:=⟨_,rfl⟩;rw[←hM] at hs2 hs3 Hln;obtain⟨P,hP⟩:∃P,P=M - 1:=⟨_,rfl⟩;rw[←hP] at Hln;have hPM:P+1=M:=(by omega);have hMi:IntKind.i64.wrap ((M:Int) - 1)=(P:Int):=(by rw[IntWalk.i64_in _ (by omega)];omega);have HF:=Lib.hid hF;have Hpar:=Lib.hid hs1;have HM:=Lib.hid hM;have hPl:P≤L.length:=(by omega);clear hm hLd hF hs1 hP hM;by_cases hl:m6 L P=mtB
     · have hse1:(m6 L P).toList.isEmpty=true:=bx7 hl;have Hx:Hid (lnL s=L.take P∧(L.take P).length=P):=Lib.hid ⟨by rw[Hln.out,if_pos hl],by rw[List.length_take];omega⟩;clear hl;by_cases h20:20<P
       · have h20i:(20:Int)<P:=(by omega);have Hz:Hid (b67 (fun x=>H9 (F x)) s=mtB):=Lib.hid (by rw[Hc.out,Hx.out.1,Hx.out.2,if_pos h20]);go_enter Tryz.func15,Tryz.ntmps15;go_wp2_with (go_at_call 53;refine hcut.mono ?_;rintro e w1 ⟨v1,rfl,hL,hE1⟩;obtain⟨g,c,hv,hcell,hix⟩:=hL.indexS (by rw[←HM.out];omega);rw[←HM.out] at hv hcell hix;subst hv;have hcap:=hL.cap;have hlast:=hcell P (by omega);have hrc:=bj8 elS szS (some ⟨g,0,none⟩) M c (P:Int) (by omega) (by omega);clear hcell);go_ret;exact⟨d9 Hz.out.symm,hE1⟩
       · have h20i:¬(20:Int)<P:=(by omega);have Hz:Hid (b67 (fun x=>H9 (F x)) s=Q6 (fun x=>H9 (F x)) (L.take P) P):=Lib.hid (by rw[Hc.out,Hx.out.1,Hx.out.2,if_neg h20]);go_enter Tryz.func15,Tryz.ntmps15;go_wp2_with (go_at_call 53;refine hcut.mono ?_;rintro e w1 ⟨v1,rfl,hL,hE1⟩;obtain⟨g,c,hv,hcell,hix⟩:=hL.indexS (by rw[←HM.out];omega);rw[←HM.out] at hv hcell hix;subst hv;have hcap:=hL.cap;have hlast:=hcell P (by omega);have hrc:=bj8 elS szS (some ⟨g,0,none⟩) M c (P:Int) (by omega) (by omega);have Hcell:=Lib.hid hcell;clear hcell);have hix2:∀(i:Nat) W,i<P→(Instr.indexAt 24 (.slice (some ⟨g,0,none⟩) P c) (.int .i64 (i:Int))).run Tryz.prog W=.ok (.pointer (some ⟨g,i,none⟩)) W:=by
          intro i W hi;rw[run_indexAt_slice (h:=elS),if_pos (by omega),szS];simp[Result.andThen,Addr.add_lit]
         clear hlast hix hcut;go_loopw [4,35] (fun ov iv wr=>∃(k:Nat) (u:ByteArray),k≤P∧iv=.int .i64 k∧ov=.string u∧u.size≤k*4005∧Ext w1 wr∧Hid (u=Q6 (fun x=>H9 (F x)) (L.take P) k)) (fun _ iv _=>P - (intOf iv).toNat);(case atStart=>exact⟨0,_,by omega,rfl,rfl,Nat.zero_le _,Ext.refl _,Lib.hid rfl⟩);case round =>
          obtain⟨k,u,hk,rfl,rfl,hus,hE,Hu⟩:=hrel;by_cases hlt:k<P
          · have hck:=hE.cell (Hcell.out k (by omega));have hsz:(m6 L k).size≤100000:=(by have:=Hpar.out _ (N4 (L:=L) (i:=k) (by rw[←HM.out];omega));omega);have HFk:=Lib.hid (HF.out (m6 L k) (N4 (by rw[←HM.out];omega)));obtain⟨x,hx⟩:∃x,x=m6 L k:=⟨_,rfl⟩;have Hxk:Hid (m6 (L.take P) k=x):=Lib.hid ((dg5 L P k hlt:m6 (L.take P) k=m6 L k).trans hx.symm);rw[←hx] at hck hsz HFk;clear hx;by_cases hxm:x=mtB
            · have Hs:Hid (u=Q6 (fun x=>H9 (F x)) (L.take P) (k+1)):=Lib.hid (by rw[Hu.out,d65];rw[Hxk.out];exact hxm);have hxe:x.toList.isEmpty=true:=bx7 hxm;clear hxm;go_wp2_with fail;go_roundw;(case rel=>exact⟨k+1,u,by omega,by go_num,rfl,Nat.le_trans hus (Nat.mul_le_mul_right _ (Nat.le_succ k)),hE,Hs⟩);case measure=>(simp[intOf];omega)
            · have hxe:=b03 hxm;have Hs:Hid (u++H9 (F x)++nlB=Q6 (fun x=>H9 (F x)) (L.take P) (k+1)):=Lib.hid (by rw[Hu.out,cc8 (by rw[Hxk.out];exact hxm),Hxk.out]);obtain⟨hS1,hS2⟩:=HFk.out hxm;obtain⟨S,hS⟩:∃S,S=(F x).1:=⟨_,rfl⟩;obtain⟨b,hb⟩:∃b,b=(F x).2:=⟨_,rfl⟩;have Hfin:Hid (H9 (F x)=if b=false then b37 else if S=mtB then wNo else S):=Lib.hid (by rw[hS,hb];rfl);rw[←hS] at hS1 hS2;rw[←hb] at hS2;have hc2:=fun W=>bh7 x 32 W hsz;have hnl:nlB.size=1:=rfl;clear hS hb hxm;cases b
              · have Hv:Hid (u++b37++nlB=Q6 (fun x=>H9 (F x)) (L.take P) (k+1)):=Lib.hid (by rw[←Hs.out,Hfin.out];rfl);have hz1:(u++b37).size=u.size+4:=(by rw[ByteArray.size_append];rfl);have hz2:(u++b37++nlB).size=u.size+5:=(by rw[ByteArray.size_append,hz1];rfl);go_wp2_with (first | (go_at_call 53;refine (hc2 _).mono ?_;rintro e w2 ⟨v2,rfl,hO2,hE2⟩;have hAn:=hS2 v2 w2 hO2.strs) | (go_at_call 54;refine hAn.mono ?_;rintro e w3 ⟨rfl,hE3⟩));go_roundw;(case rel=>exact⟨k+1,_,by omega,by go_num,rfl,by (first | (rw[hz2];omega) | (have:=hz2;unfold b37 nlB at this;rw[this];omega)),hE.trans (hE2.trans hE3),Hv⟩);case measure=>(simp[intOf];omega)
              · by_cases hSm:S=mtB
                · have Hv:Hid (u++wNo++nlB=Q6 (fun x=>H9 (F x)) (L.take P) (k+1)):=Lib.hid (by rw[←Hs.out,Hfin.out,if_neg (by decide),if_pos hSm]);have hSe:S.toList.isEmpty=true:=bx7 hSm;have hz1:(u++wNo).size=u.size+2:=(by rw[ByteArray.size_append];rfl);have hz2:(u++wNo++nlB).size=u.size+3:=(by rw[ByteArray.size_append,hz1];rfl);clear hSm;go_wp2_with (first | (go_at_call 53;refine (hc2 _).mono ?_;rintro e w2 ⟨v2,rfl,hO2,hE2⟩;have hAn:=hS2 v2 w2 hO2.strs) | (go_at_call 54;refine hAn.mono ?_;rintro e w3 ⟨rfl,hE3⟩));go_roundw;(case rel=>exact⟨k+1,_,by omega,by go_num,rfl,by (first | (rw[hz2];omega) | (have:=hz2;unfold wNo nlB at this;rw[this];omega)),hE.trans (hE2.trans hE3),Hv⟩);case measure=>(simp[intOf];omega)
                · have Hv:Hid (u++S++nlB=Q6 (fun x=>H9 (F x)) (L.take P) (k+1)):=Lib.hid (by rw[←Hs.out,Hfin.out,if_neg (by decide),if_neg hSm]);have hSe:=b03 hSm;have hz1:(u++S).size=u.size+S.size:=ByteArray.size_append;have hz2:(u++S++nlB).size=u.size+S.size+1:=(by rw[ByteArray.size_append,hz1];rfl);clear hSm;go_wp2_with (first | (go_at_call 53;refine (hc2 _).mono ?_;rintro e w2 ⟨v2,rfl,hO2,hE2⟩;have hAn:=hS2 v2 w2 hO2.strs) | (go_at_call 54;refine hAn.mono ?_;rintro e w3 ⟨rfl,hE3⟩));go_roundw;(case rel=>exact⟨k+1,_,by omega,by go_num,rfl,by (first | (rw[hz2];omega) | (have:=hz2;unfold nlB at this;rw[this];omega)),hE.trans (hE2.trans hE3),Hv⟩);case measure=>(simp[intOf];omega)
          · have hkl:k=P:=(by omega);subst hkl;go_wp2_with fail;go_ret;exact⟨d9 (by rw[Hz.out,Hu.out]),hE1.trans hE⟩
     · have hse1:(m6 L P).toList.isEmpty=false:=b03 hl;have Hx:Hid (lnL s=L∧L.length=M):=Lib.hid ⟨by rw[Hln.out,if_neg hl],HM.out.symm⟩;clear hl;by_cases h20:20<M
       · have h20i:(20:Int)<M:=(by omega);have Hz:Hid (b67 (fun x=>H9 (F x)) s=mtB):=Lib.hid (by rw[Hc.out,Hx.out.1,Hx.out.2,if_pos h20]);go_enter Tryz.func15,Tryz.ntmps15;go_wp2_with (go_at_call 53;refine hcut.mono ?_;rintro e w1 ⟨v1,rfl,hL,hE1⟩;obtain⟨g,c,hv,hcell,hix⟩:=hL.indexS (by rw[←HM.out];omega);rw[←HM.out] at hv hcell hix;subst hv;have hcap:=hL.cap;have hlast:=hcell P (by omega);skip;clear hcell);go_ret;exact⟨d9 Hz.out.symm,hE1⟩
       · have h20i:¬(20:Int)<M:=(by omega);have Hz:Hid (b67 (fun x=>H9 (F x)) s=Q6 (fun x=>H9 (F x)) L M):=Lib.hid (by rw[Hc.out,Hx.out.1,Hx.out.2,if_neg h20]);go_enter Tryz.func15,Tryz.ntmps15;go_wp2_with (go_at_call 53;refine hcut.mono ?_;rintro e w1 ⟨v1,rfl,hL,hE1⟩;obtain⟨g,c,hv,hcell,hix⟩:=hL.indexS (by rw[←HM.out];omega);rw[←HM.out] at hv hcell hix;subst hv;have hcap:=hL.cap;have hlast:=hcell P (by omega);skip;have Hcell:=Lib.hid hcell;clear hcell);have hix2:∀(i:Nat) W,i<M→(Instr.indexAt 24 (.slice (some ⟨g,0,none⟩) M c) (.int .i64 (i:Int))).run Tryz.prog W=.ok (.pointer (some ⟨g,i,none⟩)) W:=by
          intro i W hi;rw[run_indexAt_slice (h:=elS),if_pos (by omega),szS];simp[Result.andThen,Addr.add_lit]
         clear hlast hix hcut;go_loopw [4,35] (fun ov iv wr=>∃(k:Nat) (u:ByteArray),k≤M∧iv=.int .i64 k∧ov=.string u∧u.size≤k*4005∧Ext w1 wr∧Hid (u=Q6 (fun x=>H9 (F x)) L k)) (fun _ iv _=>M - (intOf iv).toNat);(case atStart=>exact⟨0,_,by omega,rfl,rfl,Nat.zero_le _,Ext.refl _,Lib.hid rfl⟩);case round =>
          obtain⟨k,u,hk,rfl,rfl,hus,hE,Hu⟩:=hrel;by_cases hlt:k<M
          · have hck:=hE.cell (Hcell.out k (by omega));have hsz:(m6 L k).size≤100000:=(by have:=Hpar.out _ (N4 (L:=L) (i:=k) (by rw[←HM.out];omega));omega);have HFk:=Lib.hid (HF.out (m6 L k) (N4 (by rw[←HM.out];omega)));obtain⟨x,hx⟩:∃x,x=m6 L k:=⟨_,rfl⟩;have Hxk:Hid (m6 L k=x):=Lib.hid ((rfl:m6 L k=m6 L k).trans hx.symm);rw[←hx] at hck hsz HFk;clear hx;by_cases hxm:x=mtB
            · have Hs:Hid (u=Q6 (fun x=>H9 (F x)) L (k+1)):=Lib.hid (by rw[Hu.out,d65];rw[Hxk.out];exact hxm);have hxe:x.toList.isEmpty=true:=bx7 hxm;clear hxm;go_wp2_with fail;go_roundw;(case rel=>exact⟨k+1,u,by omega,by go_num,rfl,Nat.le_trans hus (Nat.mul_le_mul_right _ (Nat.le_succ k)),hE,Hs⟩);case measure=>(simp[intOf];omega)
            · have hxe:=b03 hxm;have Hs:Hid (u++H9 (F x)++nlB=Q6 (fun x=>H9 (F x)) L (k+1)):=Lib.hid (by rw[Hu.out,cc8 (by rw[Hxk.out];exact hxm),Hxk.out]);obtain⟨hS1,hS2⟩:=HFk.out hxm;obtain⟨S,hS⟩:∃S,S=(F x).1:=⟨_,rfl⟩;obtain⟨b,hb⟩:∃b,b=(F x).2:=⟨_,rfl⟩;have Hfin:Hid (H9 (F x)=if b=false then b37 else if S=mtB then wNo else S):=Lib.hid (by rw[hS,hb];rfl);rw[←hS] at hS1 hS2;rw[←hb] at hS2;have hc2:=fun W=>bh7 x 32 W hsz;have hnl:nlB.size=1:=rfl;clear hS hb hxm;cases b
              · have Hv:Hid (u++b37++nlB=Q6 (fun x=>H9 (F x)) L (k+1)):=Lib.hid (by rw[←Hs.out,Hfin.out];rfl);have hz1:(u++b37).size=u.size+4:=(by rw[ByteArray.size_append];rfl);have hz2:(u++b37++nlB).size=u.size+5:=(by rw[ByteArray.size_append,hz1];rfl);go_wp2_with (first | (go_at_call 53;refine (hc2 _).mono ?_;rintro e w2 ⟨v2,rfl,hO2,hE2⟩;have hAn:=hS2 v2 w2 hO2.strs) | (go_at_call 54;refine hAn.mono ?_;rintro e w3 ⟨rfl,hE3⟩));go_roundw;(case rel=>exact⟨k+1,_,by omega,by go_num,rfl,by (first | (rw[hz2];omega) | (have:=hz2;unfold b37 nlB at this;rw[this];omega)),hE.trans (hE2.trans hE3),Hv⟩);case measure=>(simp[intOf];omega)
              · by_cases hSm:S=mtB
                · have Hv:Hid (u++wNo++nlB=Q6 (fun x=>H9 (F x)) L (k+1)):=Lib.hid (by rw[←Hs.out,Hfin.out,if_neg (by decide),if_pos hSm]);have hSe:S.toList.isEmpty=true:=bx7 hSm;have hz1:(u++wNo).size=u.size+2:=(by rw[ByteArray.size_append];rfl);have hz2:(u++wNo++nlB).size=u.size+3:=(by rw[ByteArray.size_append,hz1];rfl);clear hSm;go_wp2_with (first | (go_at_call 53;refine (hc2 _).mono ?_;rintro e w2 ⟨v2,rfl,hO2,hE2⟩;have hAn:=hS2 v2 w2 hO2.strs) | (go_at_call 54;refine hAn.mono ?_;rintro e w3 ⟨rfl,hE3⟩));go_roundw;(case rel=>exact⟨k+1,_,by omega,by go_num,rfl,by (first | (rw[hz2];omega) | (have:=hz2;unfold wNo nlB at this;rw[this];omega)),hE.trans (hE2.trans hE3),Hv⟩);case measure=>(simp[intOf];omega)
                · have Hv:Hid (u++S++nlB=Q6 (fun x=>H9 (F x)) L (k+1)):=Lib.hid (by rw[←Hs.out,Hfin.out,if_neg (by decide),if_neg hSm]);have hSe:=b03 hSm;have hz1:(u++S).size=u.size+S.size:=ByteArray.size_append;have hz2:(u++S++nlB).size=u.size+S.size+1:=(by rw[ByteArray.size_append,hz1];rfl);clear hSm;go_wp2_with (first | (go_at_call 53;refine (hc2 _).mono ?_;rintro e w2 ⟨v2,rfl,hO2,hE2⟩;have hAn:=hS2 v2 w2 hO2.strs) | (go_at_call 54;refine hAn.mono ?_;rintro e w3 ⟨rfl,hE3⟩));go_roundw;(case rel=>exact⟨k+1,_,by omega,by go_num,rfl,by (first | (rw[hz2];omega) | (have:=hz2;unfold nlB at this;rw[this];omega)),hE.trans (hE2.trans hE3),Hv⟩);case measure=>(simp[intOf];omega)
          · have hkl:k=M:=(by omega);subst hkl;go_wp2_with fail;go_ret;exact⟨d9 (by rw[Hz.out,Hu.out]),hE1.trans hE⟩
end Go.Zz
namespace Go.Zz
open Go.RowKit Go.Proofs
set_option maxHeartbeats 1000000
set_option maxRecDepth 4000
def tx:List ByteArray→ByteArray
 | []=>mtB
 | x :: r=>x++nlB++tx r
theorem d00:∀L:List ByteArray,(∀x∈L,noC 10 x)→B7 10 (tx L)=L++[mtB]
 | [],_=>cq0 10
 | x :: r,h=>by
  show B7 10 (x++⟨#[10]⟩++tx r)=_
  rw[dd8 (c:=10) (d:=10) rfl (h x (by simp)),d00 r (fun y hy=>h y (by simp[hy]))]
  rfl
theorem j59{L:List ByteArray}(h:∀x∈L,noC 10 x):lnL (tx L)=L:=by
 unfold lnL;rw[d00 L h];have e1:(L++[mtB]).length - 1=L.length:=by simp
 have e2:m6 (L++[mtB]) L.length=mtB:=by simp[m6,List.getD]
 rw[e1,e2,if_pos rfl];simp
theorem d80:∀(L:List ByteArray) (x:ByteArray),tx (L++[x])=tx L++x++nlB
 | [],x=>by
  apply ByteArray.ext
  show ((x++nlB)++mtB).data=((mtB++x)++nlB).data
  simp[mtB]
 | y :: r,x=>by
  show y++nlB++tx (r++[x])=y++nlB++tx r++x++nlB
  rw[d80 r x]
  apply ByteArray.ext
  simp
theorem dh1(G:ByteArray→ByteArray)(L:List ByteArray)(h0:∀x∈L,¬x=mtB):∀k,k≤L.length→Q6 G L k=tx ((L.take k).map G)
 | 0,_=>rfl
 | k+1,hk=>by
  have e:m6 L k=L[k]'(by omega):=by simp[m6,List.getD];rw[List.getElem?_eq_getElem (by omega)];rfl
  rw[cc8 (by rw[e];exact h0 _ (List.getElem_mem _)),dh1 G L h0 k (by omega),List.take_succ_eq_append_getElem (by omega),List.map_append,e]
  exact (d80 _ _).symm
theorem dz9(G:ByteArray→ByteArray)(L:List ByteArray)(hn:∀x∈L,noC 10 x)(h0:∀x∈L,¬x=mtB)(hs:(tx L).size≤2000)(hl:L.length≤20):b67 G (tx L)=tx (L.map G):=by
 unfold b67;rw[if_neg (by omega),j59 hn,if_neg (by omega),dh1 G L h0 _ (Nat.le_refl _),List.take_length]
def sp(a b:ByteArray):ByteArray:=a++⟨#[32]⟩++b
theorem K8{a b:ByteArray}{A:List ByteArray}(ha:B7 32 a=A)(hb:noC 32 b):B7 32 (sp a b)=A++[b]:=by
 unfold sp;rw[cf8 (c:=32) (d:=32) rfl hb,ha]
theorem j15{c:Int}(hc:¬c=32){a b:ByteArray}(ha:noC c a)(hb:noC c b):noC c (sp a b) :=
 bj2 (bj2 ha (cc6 (fun e=>hc e.symm))) hb
theorem bn7(a b:ByteArray):¬sp a b=mtB:=fun e=>by
 have:(sp a b).size=0:=by rw[e];rfl
 unfold sp at this
 rw[ByteArray.size_append,ByteArray.size_append] at this
 have e1:(⟨#[32]⟩:ByteArray).size=1:=rfl
 omega
theorem b43{S:ByteArray}(h:¬S=mtB):H9 (S,true)=S:=by unfold H9;rw[if_neg (by simp),if_neg h]
theorem j02:H9 (mtB,true)=wNo:=by unfold H9;rw[if_neg (by simp),if_pos rfl]
end Go.Zz
namespace Go.Zz
open Go.RowKit Go.Proofs
set_option maxHeartbeats 1000000
set_option maxRecDepth 4000
theorem do8(w:World)(s:ByteArray):J0 w (w.alloc (.cells #[.string s] 9)) (.slice (some ⟨w.heap.size,0,none⟩) 1 1) [s]:=by
 have:=World.ownsRow_lit (base:=w.heap.size) (e:=9) (size:=1) w #[.string s] 1 (Nat.le_refl _) (by unfold maxLen;omega) (by simp);exact⟨by simpa using this,by simp⟩
section
variable {ops:Array Oper} {rest:List Oper} {o:Oper} {a:Act} {Q:Exit→Act→World→Prop}
theorem d35(hg:o.guard=none)(s x:Operand)(hop:o.op=Op.call { callee:=Callee.builtin Builtin.append,args:=#[s,x],argTypes:=#[24,24] })
 (w0 W:World) (v u:Value) (l m:List ByteArray) (hO:J0 w0 W v l) (hM:S5 W u m) (hE:Ext w0 W) (hm0:0<m.length) (hn:l.length+m.length<1000000) (hs:a.eval s=v) (hx:a.eval x=u)
 (hK:∀v' w',J0 w0 w' v' (l++m)→Ext w0 w'→wpList Tryz.prog ops Q rest (a.put o.dst v') w') :
 wpList Tryz.prog ops Q (o :: rest) a W:=by
 obtain⟨i,hi,hz,hs1,hby⟩:=info_parts ds1;obtain⟨ao,c,rfl,hlen,hcell⟩:=hM;obtain⟨g,rfl,-⟩:=hcell 0 hm0;refine wpList_append_own _ hg s x 24 hop w0.heap.size 9 i (.string ⟨#[]⟩) 1 16 j45 hi hz hs1 hby rfl (by omega) v l.length _ hs hO.1 ⟨g,0,none⟩ m.length c (m.map Value.string) hx (by simp) ?_ ?_ (by unfold maxLen;omega) (by omega) hE.size ?_
 · intro j u hu;have hj:j<m.length:=(by have:=(List.getElem?_eq_some_iff.1 hu).1;simpa using this);obtain⟨g',hg',hc⟩:=hcell j hj;simp only[Option.some.injEq,Addr.mk.injEq,and_true] at hg';subst hg';rw[Addr.add_lit,Nat.zero_add,hc,←hu];simp[m6,List.getD,hj]
 · intro u hu;obtain⟨y,_,rfl⟩:=List.mem_map.1 hu;rfl
 · intro v' w' h1 hg' _;exact hK v' w' ⟨by simpa using h1,by simp;omega⟩ (hE.grown hg' fun k hk=>(hO.blk k hk).1)
end
theorem dn0(s:ByteArray)(b:Bool)(v:Value)(m:List ByteArray)(w:World)(h:S5 w v m)(hs:s.size≤5000)(hm:∀i,i<m.length→(m6 m i).size≤5000)(h0:0<m.length)(hn:m.length≤50) :
 Calls Tryz.prog 102 #[.string s,.bool b,v] w fun e w'=>e=.returned (.string (if b then F9 (s :: m) else s))∧Ext w w':=by
 cases b
 · go_enter Tryz.func102,Tryz.ntmps102;go_wp2_with fail;go_ret;exact⟨rfl,Ext.refl _⟩
 · have hE:=(Ext.refl w).alloc (.cells #[.string s] 9);have hM:=h.ext hE;have hO:=do8 w s;have hcL:=fun v' W (hv:S5 W v' (s :: m))=>c34 v' (s :: m) W hv (fun i hi=>by
    cases i with
    | zero=>exact hs
    | succ i=>exact hm i (by simpa using hi)) (by simp;omega)
   have hln:[s].length+m.length<1000000:=(by simp;omega);obtain⟨ao,c,rfl,-,-⟩:=h;clear hm hs;go_enter Tryz.func102,Tryz.ntmps102;go_wp2_with (first | (at_builtin;refine d35 rfl _ _ rfl w _ _ _ _ _ hO hM hE h0 hln rfl rfl ?_;intro v1 w1 hO1 hE1) | (go_at_call 96;refine (hcL _ _ hO1.strs).mono ?_;rintro e w2 ⟨rfl,rfl⟩));go_ret;exact⟨rfl,hE1⟩
theorem by7(b:Bool)(s:ByteArray)(w:World) :
 Calls Tryz.prog 59 #[.bool b,.string s] w fun e w'=>e=.returned (.string (if b then s else ⟨#[]⟩))∧w=w':=by
 cases b
 · go_enter Tryz.func59,Tryz.ntmps59;go_wp2_with fail;go_ret;exact⟨rfl,rfl⟩
 · go_enter Tryz.func59,Tryz.ntmps59;go_wp2_with fail;go_ret;exact⟨rfl,rfl⟩
theorem R1{x y:ByteArray}(h:x.data.toList=y.data.toList):x=y:=by
 cases x;cases y;simp only at h;congr 1;exact Array.toList_inj.1 h
theorem cq4(x y:ByteArray):(x++y).data.toList=x.data.toList++y.data.toList:=by
 rw[ByteArray.data_append];simp
end Go.Zz
namespace Go.Zz
open Go.RowKit Go.Proofs
set_option maxHeartbeats 1000000
theorem b51(X:ByteArray)(b:Bool)(t u:ByteArray)(h:u=(⟨#[32]⟩:ByteArray)++t):(if b then F9 [X,t] else X)=X++(if b then u else (⟨#[]⟩:ByteArray)):=by
 subst h;apply R1;cases b<;>simp[F9,jn,m6,spB,List.getD]
theorem dr1(X t F u:ByteArray)(h:u=((⟨#[32]⟩:ByteArray)++t)++(⟨#[32]⟩:ByteArray)):F9 [X,t,F]=(X++u)++F:=by
 subst h;apply R1;simp[F9,jn,m6,spB,List.getD]
theorem dv8(f:Nat→ByteArray)(k:Nat):(jn spB f (k+1)).size≤(jn spB f k).size+1+(f k).size:=by
 show ((if 0<k then jn spB f k++spB else jn spB f k)++f k).size≤_;have e:spB.size=1:=rfl;split<;>(simp only[ByteArray.size_append];omega)
end Go.Zz
namespace Go.Zz
open Go.RowKit Go.Proofs
set_option maxHeartbeats 1000000
theorem o8(A:List UInt8):(⟨A.toArray⟩:ByteArray).size=A.length:=rfl
def K7:List ByteArray→Nat
 | []=>0
 | x :: r=>x.size+1+K7 r
theorem d58(xs:List ByteArray):∀k,k≤xs.length→(jn spB (m6 xs) k).size≤K7 (xs.take k)
 | 0,_=>Nat.zero_le _
 | k+1,h=>by
  have h1:=dv8 (m6 xs) k
  have h2:=d58 xs k (by omega)
  have e:∀(a:List ByteArray) (b:ByteArray),K7 (a++[b])=K7 a+b.size+1:=by
   intro a b;induction a with
   | nil=>show b.size+1+0=0+b.size+1;omega
   | cons x r ih=>show x.size+1+K7 (r++[b])=x.size+1+K7 r+b.size+1;omega
  have e2:m6 xs k=xs[k]'(by omega):=by simp[m6,List.getD,show k<xs.length by omega]
  rw[List.take_succ_eq_append_getElem (by omega),e,←e2]
  omega
theorem b33(xs:List ByteArray):(F9 xs).size≤K7 xs:=by
 have:=d58 xs xs.length (Nat.le_refl _);rw[List.take_length] at this;exact this
theorem cn8{xs:List ByteArray}{B:Nat}(h:∀x∈xs,x.size≤B):∀i,i<xs.length→(m6 xs i).size≤B:=fun i hi=>by
 have e:m6 xs i=xs[i]:=by simp[m6,List.getD,hi]
 rw[e];exact h _ (List.getElem_mem _)
theorem bb2(xs:List ByteArray)(h:∀x∈xs,x.size≤5000)(hn:xs.length≤100:=by simp):∃X,X=F9 xs∧∀W:World,Calls Tryz.prog 96 #[.slice (some ⟨W.heap.size,0,none⟩) xs.length xs.length] (W.alloc (.cells (xs.map Value.string).toArray 9)) fun e w'=>e=.returned (.string X)∧Ext (W.alloc (.cells (xs.map Value.string).toArray 9)) w' :=
 ⟨_,rfl,fun W=>(c34 _ _ _ (bn9 W xs 9 (by omega)) (cn8 h) hn).mono fun e w' ⟨h1,h2⟩=>⟨h1,h2 ▸ Ext.refl _⟩⟩
theorem P2(s:ByteArray)(b:Bool)(xs:List ByteArray)(B:Nat)(hs:s.size≤B)(h:∀x∈xs,x.size≤5000)(hB:B+K7 xs+1≤5000)(h0:0<xs.length:=by simp)(hn:xs.length≤50:=by simp):∃X,X=(if b then F9 (s :: xs) else s)∧X.size≤B+K7 xs+1∧∀W:World,Calls Tryz.prog 102 #[.string s,.bool b,.slice (some ⟨W.heap.size,0,none⟩) xs.length xs.length] (W.alloc (.cells (xs.map Value.string).toArray 9)) fun e w'=>e=.returned (.string X)∧Ext (W.alloc (.cells (xs.map Value.string).toArray 9)) w' :=
 ⟨_,rfl,by
  have:=b33 (s :: xs)
  have e:K7 (s :: xs)=s.size+1+K7 xs:=rfl
  split<;>omega,fun W=>dn0 s b _ xs _ (bn9 W xs 9 (by omega)) (by omega) (cn8 h) h0 hn⟩
theorem bk5(b:Bool)(s:ByteArray)(h:s.size≤20:=by decide):∃y,Hid (y=if b then s else ⟨#[]⟩)∧y.size≤20∧∀W,Calls Tryz.prog 59 #[.bool b,.string s] W fun e w'=>e=.returned (.string y)∧W=w' :=
 ⟨_,Lib.hid rfl,by split<;>first | exact h | decide,by7 b s⟩
end Go.Zz
namespace Go.Zz
open Go.RowKit Go.Proofs
set_option maxHeartbeats 400000
theorem cs9(a b:Nat):Nat.gcd b (a % b)=Nat.gcd a b:=by rw[Nat.gcd_comm b,←Nat.gcd_rec,Nat.gcd_comm]
theorem cu3(a b:Nat):((a % b:Nat):Int)=(a:Int) % (b:Int):=Int.natCast_emod a b
theorem cb9(a b:Nat)(ha:a≤16777216)(hb:b≤16777216)(w:World) :
 Calls Tryz.prog 211 #[.int .i64 a,.int .i64 b] w fun e w'=>e=.returned (.int .i64 (Nat.gcd a b:Nat))∧Ext w w':=by
 have hE:=Ext.refl w;go_enter Tryz.func211,Tryz.ntmps211;go_wp2_with fail;go_loopw [0,1] (fun xv yv wr=>∃x y:Nat,x≤16777216∧y≤16777216∧Nat.gcd x y=Nat.gcd a b∧xv=.int .i64 x∧yv=.int .i64 y∧Ext w wr) (fun _ yv _=>(intOf yv).toNat);case atStart=>exact⟨a,b,ha,hb,rfl,rfl,rfl,hE⟩
 case round =>
  clear hE;obtain⟨x,y,hx,hy,hg,rfl,rfl,hE⟩:=hrel;have Hg:=Lib.hid hg;clear hg;by_cases h0:y=0
  · subst h0;go_wp2_with fail;go_ret;exact⟨m8 (by rw[←Hg.out,Nat.gcd_zero_right]),hE⟩
  · have hne:((y:Int) != 0)=true:=(by simp;omega);have hne2:((y:Int) == 0)=false:=(by simp;omega);have hpos:0<(y:Int):=(by omega);have hm:=Nat.mod_lt x (show 0<y by omega);have hmc:=cu3 x y;have hmb:(x:Int) % (y:Int)≤16777216:=(by rw[←hmc];omega);have Hs:=Lib.hid (cs9 x y);go_wp2_with fail;(refine d0 (w) (by kernel_rfl) (by kernel_rfl) hE ?_);(repeat (go_big_quiet_step (first | fail)));(refine wpQuiet_nil ?_);(intro W hE');(replace hE:=l7 hE');(clear hE');go_wp2_with fail;go_roundw;(case rel=>exact⟨y,x % y,hy,by omega,by rw[Hs.out,Hg.out],rfl,by rw[hmc],hE⟩);case measure=>(simp only[intOf];rw[←hmc,Int.toNat_natCast,Int.toNat_natCast];exact hm)
theorem bi8(a b:Nat)(ha:a≤16777216)(hb:b≤16777216)(w:World) :
 Calls Tryz.prog 177 #[.int .i64 a,.int .i64 b] w fun e w'=>e=.returned (.int .i64 (Nat.gcd a b:Nat))∧Ext w w':=by
 have hE:=Ext.refl w;go_enter Tryz.func177,Tryz.ntmps177;go_wp2_with fail;go_loopw [0,1] (fun xv yv wr=>∃x y:Nat,x≤16777216∧y≤16777216∧Nat.gcd x y=Nat.gcd a b∧xv=.int .i64 x∧yv=.int .i64 y∧Ext w wr) (fun _ yv _=>(intOf yv).toNat);case atStart=>exact⟨a,b,ha,hb,rfl,rfl,rfl,hE⟩
 case round =>
  clear hE;obtain⟨x,y,hx,hy,hg,rfl,rfl,hE⟩:=hrel;have Hg:=Lib.hid hg;clear hg;by_cases h0:y=0
  · subst h0;go_wp2_with fail;go_ret;exact⟨m8 (by rw[←Hg.out,Nat.gcd_zero_right]),hE⟩
  · have hne2:((y:Int) == 0)=false:=(by simp;omega);have hpos:0<(y:Int):=(by omega);have hm:=Nat.mod_lt x (show 0<y by omega);have hmc:=cu3 x y;have hmb:(x:Int) % (y:Int)≤16777216:=(by rw[←hmc];omega);have Hs:=Lib.hid (cs9 x y);go_wp2_with fail;go_roundw;(case rel=>exact⟨y,x % y,hy,by omega,by rw[Hs.out,Hg.out],rfl,by rw[hmc],hE⟩);case measure=>(simp only[intOf];rw[←hmc,Int.toNat_natCast,Int.toNat_natCast];exact hm)
end Go.Zz
