/- Triples in progression: the reference. Largest sets of the references. -/
import Derived.Test.YtnnbhcalddkmmaaGreatGr25
import Derived.Test.YtnnbhcalddkmmaaGreatGr26
import Derived.Test.YtnnbhcalddkmmaaGreatGr24
import Derived.Test.YtnnbhcalddkmmaaGreatGr17
import Derived.Test.YtnnbhcalddkmmaaGreatGr7
import Derived.Test.YtnnbhcalddkmmaaGreatGr22
import Derived.Test.YtnnbhcalddkmmaaGreatGr11
import Derived.Test.YtnnbhcalddkmmaaGreatGr3
set_option linter.unusedSimpArgs false
set_option linter.unusedVariables false
set_option linter.unnecessarySimpa false
namespace Go.Zz
open Go.RowKit Go.Proofs
set_option maxHeartbeats 2000000
set_option maxRecDepth 4000
theorem bk3(v:Value)(l:List Int)(a:Int)(w:World)(h:c8 w v l) :
 Calls Tryz.prog 192 #[.agg #[v],.int .i64 a] w fun e w'=>ZN (apB l a) e∧Ext w w':=by
 obtain⟨wb,Hwb,hE0,hb,hg,hE,Hsz⟩:=j60 28 h;clear h;have hbx:=hb wb hE;cases hs:d8 l a
 · have Hs:=Lib.hid (dc4 hs);go_enter Tryz.func192,Tryz.ntmps192;go_wp2_with fail;rw[←Hwb.out];go_wp2_with (first | (go_at_call 46;refine cx (l5 _ _ _ _ (hg _ hE) (hs)) hE ?_;clear hE;intro w' hE));go_ret;exact⟨by rw[Hs.out];exact ZN.mk (by decide),hE0.trans hE⟩
 · obtain⟨n,rfl,h1,h2,hgr⟩:=m3 hs;have Hs:=Lib.hid (d39 hs);have Hgr:=Lib.hid hgr;clear hgr;go_enter Tryz.func192,Tryz.ntmps192;go_wp2_with fail;rw[←Hwb.out];go_wp2_with (first | (go_at_call 46;refine cx (l5 _ _ _ _ (hg _ hE) (hs)) hE ?_;clear hE;intro w' hE) | (go_at_call 165;refine (L8 n h2 _).mono ?_;rintro e w1 ⟨v1,rfl,hL,hE1⟩;obtain⟨aoL,cL,adrL,rfl,hcap,hadrL,hcellL⟩:=hL.ints.natc;have hixL:=j6 (c:=cL) elI szI hadrL));have hb1:∀W,Ext w1 W→W.cell? ⟨w.heap.size,0,none⟩=some v:=fun W hW=>hb W (hE.trans (hE1.trans hW));have hg1:∀W,Ext w1 W→c8 W v l:=fun W hW=>hg W (hE.trans (hE1.trans hW));have eW:=hE0.trans (hE.trans hE1);have hall:∀y∈j1 n,y<24:=fun y hy=>G7 hy;have hlen:=C9 n;clear hb hg hbx hE hE1 hL hs;generalize j1 n=L at hcellL hixL hall hlen Hs hcap hadrL ⊢;have HcL:=Lib.hid hcellL;clear hadrL hcellL;have hE:=Ext.refl w1;go_loopw [6,7] (fun nv iv wr=>∃i z:Nat,i≤L.length∧iv=.int .i64 i∧nv=.int .i64 z∧z≤576*i∧Hid (ZT l L (fun a b c=>a<b∧b<i∧c<L.length) z)∧Ext w1 wr) (fun _ iv _=>L.length - (intOf iv).toNat);(case atStart=>exact⟨0,0,by omega,rfl,rfl,by omega,Lib.hid ⟨fun _ a b c hc=>by omega,fun _=>rfl⟩,hE⟩);case round =>
    clear hE;obtain⟨i,z,hi,rfl,rfl,hz,HZ,hE⟩:=hrel;by_cases hlt:i<L.length
    · have hix24:=hall _ (o6 hlt);go_wp2_with fail;go_loopw [6,8] (fun nv kv wr=>∃t z:Nat,t≤i∧kv=.int .i64 t∧nv=.int .i64 z∧z≤576*i+24*t∧Hid (ZT l L (fun a b c=>(a<b∧b<i∧c<L.length)∨(b=i∧a<t∧c<L.length)) z)∧Ext w1 wr) (fun _ kv _=>i - (intOf kv).toNat);(case atStart=>exact⟨0,z,by omega,rfl,rfl,by omega,Lib.hid (HZ.out.congr fun a b c=>by omega),hE⟩);case round =>
       clear hE hz HZ;obtain⟨t,z,ht,rfl,rfl,hz,HZ,hE⟩:=hrel;by_cases hlt2:t<i
       · have hkt:t<L.length:=(by omega);have hy24:=hall _ (o6 hkt);go_wp2_with fail;go_loopw [6,9] (fun nv jv wr=>∃j z:Nat,j≤L.length∧jv=.int .i64 j∧nv=.int .i64 z∧z≤576*i+24*t+j∧Hid (ZT l L (fun a b c=>(a<b∧b<i∧c<L.length)∨(b=i∧a<t∧c<L.length)∨(b=i∧a=t∧c<j)) z)∧Ext w1 wr) (fun _ jv _=>L.length - (intOf jv).toNat);(case atStart=>exact⟨0,z,by omega,rfl,rfl,by omega,Lib.hid (HZ.out.congr fun a b c=>by omega),hE⟩);case round =>
          clear hE hz HZ;obtain⟨j,z,hj,rfl,rfl,hz,HZ,hE⟩:=hrel;by_cases hlt3:j<L.length
          · have hz24:=hall _ (o6 hlt3);rename World=>wj;have hcj:=fun U=>HcL.out j _ hlt3 (hE.trans (b9 wj U));have hci:=fun U=>HcL.out i _ hlt (hE.trans (b9 wj U));have hck:=fun U=>HcL.out t _ hkt (hE.trans (b9 wj U));have hbj:=fun U=>hb1 _ (hE.trans (b9 wj U));obtain⟨X,hX⟩:∃X,X=d5 L i:=⟨_,rfl⟩;obtain⟨Y,hY⟩:∃X,X=d5 L t:=⟨_,rfl⟩;obtain⟨Z,hZ⟩:∃X,X=d5 L j:=⟨_,rfl⟩;have hx24:X<24:=(by rw[hX];exact hix24);have hyy24:Y<24:=(by rw[hY];exact hy24);have hzz24:Z<24:=(by rw[hZ];exact hz24);rw[←hX] at hci;rw[←hY] at hck;rw[←hZ] at hcj;have cA:=fun U=>G5 v l X Y (Lat wj U) (hg1 _ (hE.trans (b9 wj U))) Hgr (by omega) (by omega);have cB:=fun U=>G5 v l Z Z (Lat wj U) (hg1 _ (hE.trans (b9 wj U))) Hgr (by omega) (by omega);have Hap:Hid (apT l L t i j=(((j9 l Z Z:Nat):Int) == ((j9 l X Y:Nat):Int))):=Lib.hid (by
             unfold apT;rw[←hX,←hY,←hZ,C8 l Y X,Bool.eq_iff_iff,beq_iff_eq,beq_iff_eq];exact eq_comm)
            have hEj:=hE;clear hE hX hY hZ;have hE:=Ext.refl wj;cases hq:(((j9 l Z Z:Nat):Int) == ((j9 l X Y:Nat):Int))
            · have Hap2:Hid (apT l L t i j=false):=Lib.hid (by rw[Hap.out];exact hq);go_wp2_with fail;(refine d0 (wj) (by kernel_rfl) (by kernel_rfl) hE ?_);(repeat (go_big_quiet_step (first | (go_at_call 190;first | with_reducible exact Calls.lat (cA _) | with_reducible exact Calls.lat (cB _)))));(refine wpQuiet_nil ?_);(intro W hE');(replace hE:=l7 hE');(clear hE');go_wp2_with fail;go_roundw;(case rel=>exact⟨j+1,z,by omega,by go_num,rfl,by omega,Lib.hid (HZ.out.miss Hap2.out fun a b c=>by omega),hEj.trans hE⟩);case measure=>(simp[intOf];omega)
            · have Hap2:Hid (apT l L t i j=true):=Lib.hid (by rw[Hap.out];exact hq);go_wp2_with fail;(refine d0 (wj) (by kernel_rfl) (by kernel_rfl) hE ?_);(repeat (go_big_quiet_step (first | (go_at_call 190;first | with_reducible exact Calls.lat (cA _) | with_reducible exact Calls.lat (cB _)))));(refine wpQuiet_nil ?_);(intro W hE');(replace hE:=l7 hE');(clear hE');go_wp2_with fail;go_roundw;(case rel=>exact⟨j+1,z+1,by omega,by go_num,by go_num,by omega,Lib.hid (ZT.hit (C:=fun _ _ _=>True) Hap2.out (by omega)),hEj.trans hE⟩);case measure=>(simp[intOf];omega)
          · have Hn:Hid (ZT l L (fun a b c=>(a<b∧b<i∧c<L.length)∨(b=i∧a<t+1∧c<L.length)) z):=Lib.hid (HZ.out.congr fun a b c=>by omega);have hz2:z≤576*i+24*(t+1):=(by omega);go_wp2_with fail;go_roundw;(case rel=>exact⟨t+1,z,by omega,by go_num,rfl,hz2,Hn,hE⟩);case measure=>(simp[intOf];omega)
       · have Hn:Hid (ZT l L (fun a b c=>a<b∧b<i+1∧c<L.length) z):=Lib.hid (HZ.out.congr fun a b c=>by omega);have hz2:z≤576*(i+1):=(by omega);go_wp2_with fail;go_roundw;(case rel=>exact⟨i+1,z,by omega,by go_num,rfl,hz2,Hn,hE⟩);case measure=>(simp[intOf];omega)
    · have hil:i=L.length:=(by omega);have Hz:Hid (((z:Int) == 0)=apL l L):=Lib.hid (ZT.all (HZ.out.congr fun a b c=>by omega));clear hil;go_wp2_with fail;go_ret;exact⟨by rw[Hs.out];exact ZN.mk Hz.out,eW.trans hE⟩
noncomputable def apP (l:List Int) (b:Nat):Bool:=apB l b
theorem d16(v:Value)(l:List Int)(P:Nat→Bool)(Hgr:Hid (c9 l=true))(W0:World)(bC bS bB bG bI bT:Nat)(hCS:bC≠bS)(hCB:bC≠bB)(hSB:bS≠bB)(hTC:bT≠bC)(hTS:bT≠bS)(hTB:bT≠bB)(h0C:W0.heap.size≤bC)(h0S:W0.heap.size≤bS)(h0B:W0.heap.size≤bB)
 (p1 p2:Value) (HG:∀W,Ext W0 W→W.cell? ⟨bG,0,none⟩=some v) (HF:∀W,Ext W0 W→W.cell? ⟨bI,0,none⟩=some (.func (.func 252) #[] #[p1])) (HI:Hid (∀W,Ext W0 W→c8 W v l))
 (HP:∀W b,Ext W0 W→b<2 ^ 24→Calls Tryz.prog 252 #[.int .i64 (b:Nat),p1] W fun e w'=>e=.returned (.bool (P b))∧Ext W w') :
 ∀(f b n fr:Nat) (w:World) (s:Nat × Int) (c:Int),ord l<fr+f→fr≤ord l→b<2 ^ 24→n≤fr → -1≤s.2→s.2≤24→Ext W0 w→Blk w bB 3 #[.int .i64 s.1]→Blk w bS 3 #[.int .i64 s.2]→Blk w bC 3 #[.int .i64 c] →
 Blk w bT 162 #[.func (.func 313) #[] #[.pointer (some ⟨bC,0,none⟩),.pointer (some ⟨bS,0,none⟩),.pointer (some ⟨bB,0,none⟩),.pointer (some ⟨bG,0,none⟩),.pointer (some ⟨bI,0,none⟩),.pointer (some ⟨bT,0,none⟩)]] →
 Calls Tryz.prog 313 #[.int .i64 b,.int .i64 n,.int .i64 fr,.pointer (some ⟨bC,0,none⟩),.pointer (some ⟨bS,0,none⟩),.pointer (some ⟨bB,0,none⟩),.pointer (some ⟨bG,0,none⟩),.pointer (some ⟨bI,0,none⟩),.pointer (some ⟨bT,0,none⟩)] w fun e w' =>
  e=.returned (.tuple #[])∧∃c',Blk w' bB 3 #[.int .i64 (fsI P (ord l) f b n fr s).1]∧Blk w' bS 3 #[.int .i64 (fsI P (ord l) f b n fr s).2]∧Blk w' bC 3 #[.int .i64 c']∧Fw (S3 bC bS bB) w w' ∧ -1≤(fsI P (ord l) f b n fr s).2∧(fsI P (ord l) f b n fr s).2≤24:=by
 intro f
 induction f with
 | zero=>intro b n fr w s c hf hfr;omega
 | succ f ih =>
  intro b n fr w s c hf hfr hb24 hn hs1 hs2 hE0 hB hS hC hT
  have hob:=l8 Hgr.out
  have Hih:=Lib.hid ih
  clear ih
  obtain⟨c1,hc1⟩:∃c1,c1=wrap64 (c+1):=⟨_,rfl⟩
  have kc:=hC.cell (i:=0) (v:=.int .i64 c) rfl
  have fc:=hC.free 0
  have B1:Blk (w.setCell ⟨bC,0,none⟩ (.int .i64 (wrap64 (c+1)))) bB 3 #[.int .i64 s.1]:=hB.other (by simpa using hCB.symm) _
  have S1:Blk (w.setCell ⟨bC,0,none⟩ (.int .i64 (wrap64 (c+1)))) bS 3 #[.int .i64 s.2]:=hS.other (by simpa using hCS.symm) _
  have C1:Blk (w.setCell ⟨bC,0,none⟩ (.int .i64 (wrap64 (c+1)))) bC 3 #[.int .i64 (wrap64 (c+1))]:=hC.set 0 _
  have F1:Fw (S3 bC bS bB) w (w.setCell ⟨bC,0,none⟩ (.int .i64 (wrap64 (c+1)))):=Z8 (Or.inl rfl) w 0 _
  have ks1:=S1.cell (i:=0) (v:=.int .i64 s.2) rfl
  have kb1:=B1.cell (i:=0) (v:=.int .i64 s.1) rfl
  have fb1:=B1.free 0
  have hS3:∀k,S3 bC bS bB k→W0.heap.size≤k:=by rintro k (rfl | rfl | rfl)<;>assumption
  have hT3:¬S3 bC bS bB bT:=by rintro (h | h | h)<;>contradiction
  by_cases hq:s.2<(n:Int)
  · have B2:Blk ((w.setCell ⟨bC,0,none⟩ (.int .i64 (wrap64 (c+1)))).setCell ⟨bB,0,none⟩ (.int .i64 b)) bB 3 #[.int .i64 b]:=B1.set 0 _
    have S2:Blk ((w.setCell ⟨bC,0,none⟩ (.int .i64 (wrap64 (c+1)))).setCell ⟨bB,0,none⟩ (.int .i64 b)) bS 3 #[.int .i64 s.2]:=S1.other (by simpa using hSB) _
    have C2:Blk ((w.setCell ⟨bC,0,none⟩ (.int .i64 (wrap64 (c+1)))).setCell ⟨bB,0,none⟩ (.int .i64 b)) bC 3 #[.int .i64 (wrap64 (c+1))]:=C1.other (by simpa using hCB) _
    have ks2:=S2.cell (i:=0) (v:=.int .i64 s.2) rfl
    have fs2:=S2.free 0
    have s0:=V5 (P:=P) (N:=ord l) (f:=f) (b:=b) (n:=n) (fr:=fr) (s:=s)
    rw[if_pos hq] at s0
    have HB0:Hid (Blk (((w.setCell ⟨bC,0,none⟩ (.int .i64 (wrap64 (c+1)))).setCell ⟨bB,0,none⟩ (.int .i64 b)).setCell ⟨bS,0,none⟩ (.int .i64 n)) bB 3 #[.int .i64 (o3 P (ord l) f b n fr s fr).1]):=Lib.hid (by rw[s0];exact B2.other (by simpa using hSB.symm) _)
    have HS0:Hid (Blk (((w.setCell ⟨bC,0,none⟩ (.int .i64 (wrap64 (c+1)))).setCell ⟨bB,0,none⟩ (.int .i64 b)).setCell ⟨bS,0,none⟩ (.int .i64 n)) bS 3 #[.int .i64 (o3 P (ord l) f b n fr s fr).2]):=Lib.hid (by rw[s0];exact S2.set 0 _)
    have HC0:Hid (Blk (((w.setCell ⟨bC,0,none⟩ (.int .i64 (wrap64 (c+1)))).setCell ⟨bB,0,none⟩ (.int .i64 b)).setCell ⟨bS,0,none⟩ (.int .i64 n)) bC 3 #[.int .i64 (wrap64 (c+1))]):=Lib.hid (C2.other (by simpa using hCS) _)
    have HF0:Hid (Fw (S3 bC bS bB) w (((w.setCell ⟨bC,0,none⟩ (.int .i64 (wrap64 (c+1)))).setCell ⟨bB,0,none⟩ (.int .i64 b)).setCell ⟨bS,0,none⟩ (.int .i64 n))):=Lib.hid ((F1.trans (Z8 (Or.inr (Or.inr rfl)) _ 0 _)).trans (Z8 (Or.inr (Or.inl rfl)) _ 0 _))
    have Hb0:Hid (-1≤(o3 P (ord l) f b n fr s fr).2∧(o3 P (ord l) f b n fr s fr).2≤24):=Lib.hid (by rw[s0];simp only;omega)
    clear s0 B1 S1 C1 F1 B2 S2 C2 hB hS hC hc1
    go_enter Tryz.func313,Tryz.ntmps313
    go_wp2_with fail
    clear kc fc ks1 kb1 fb1 ks2 fs2 hq
    go_loopw [12] (fun xv wr=>∃(k:Nat) (c':Int),fr≤k∧k≤ord l∧xv=.int .i64 k∧Blk wr bB 3 #[.int .i64 (o3 P (ord l) f b n fr s k).1]∧Blk wr bS 3 #[.int .i64 (o3 P (ord l) f b n fr s k).2]∧Blk wr bC 3 #[.int .i64 c']∧Fw (S3 bC bS bB) w wr ∧ -1≤(o3 P (ord l) f b n fr s k).2∧(o3 P (ord l) f b n fr s k).2≤24) (fun x _=>ord l - (intOf x).toNat)
    case atStart=>exact⟨fr,_,by omega,by omega,rfl,HB0.out,HS0.out,HC0.out,HF0.out,Hb0.out.1,Hb0.out.2⟩
    case round =>
     obtain⟨k,c',hk1,hk2,rfl,hB,hS,hC,hF,hb1,hb2⟩:=hrel;clear HB0 HS0 HC0 HF0 Hb0;have hEr:=hF.ext hE0 hS3;have hTr:=hF.blk hT hT3;obtain⟨z,hz⟩:∃z,z=o3 P (ord l) f b n fr s k:=⟨_,rfl⟩;rw[←hz] at hB hS hb1 hb2;have HB:=Lib.hid hB;have HS:=Lib.hid hS;have HC:=Lib.hid hC;have HFw:=Lib.hid hF;clear hB hS hC hF;by_cases hlt:k<ord l
     · have hk24:k<24:=(by omega);have hs1':=p0 (n:=k) (by omega);have hs2':=F8 hb24 hk24;have hbk:b ||| 2 ^ k<2 ^ 24:=Nat.or_lt_two_pow hb24 (Nat.pow_lt_pow_right (by omega) hk24)
       cases hP:P (b ||| 2 ^ k)
       · have Hn:Hid (o3 P (ord l) f b n fr s (k+1)=z):=Lib.hid (by rw[b46 hP,hz]);have hcP:=fun W (hW:Ext wr W)=>HP W (b ||| 2 ^ k) (hEr.trans hW) hbk;rw[hP] at hcP;clear hz hP;go_wp2_with (first | (go_at_call 99;refine (m9 _ _ _ (HI.out _ hEr) Hgr).mono ?_;rintro e1 w1 ⟨rfl,hE1⟩;have hE01:=hEr.trans hE1) | (go_at_call 252;refine (hcP _ hE1).mono ?_;rintro e2 w2 ⟨rfl,hE2⟩;have hE12:=hE1.trans hE2));go_roundw;(case rel=>exact⟨k+1,c',by omega,by omega,by go_num,by rw[Hn.out];exact HB.out.ext hE12,by rw[Hn.out];exact HS.out.ext hE12,HC.out.ext hE12,HFw.out.trans (hE12.fw _),by rw[Hn.out];exact hb1,by rw[Hn.out];exact hb2⟩);case measure=>(simp[intOf];omega)
       · have Hn:Hid (o3 P (ord l) f b n fr s (k+1)=fsI P (ord l) f (b ||| 2 ^ k) (n+1) (k+1) z):=Lib.hid (by rw[b20 hlt hk1 hP,hz]);have hcP:=fun W (hW:Ext wr W)=>HP W (b ||| 2 ^ k) (hEr.trans hW) hbk;rw[hP] at hcP;have hcR:=fun W (hE:Ext wr W)=>Hih.out (b ||| 2 ^ k) (n+1) (k+1) W z c' (by omega) (by omega) hbk (by omega) hb1 hb2 (hEr.trans hE) (HB.out.ext hE) (HS.out.ext hE) (HC.out.ext hE) (hTr.ext hE);rw[show ((n+1:Nat):Int)=(n:Int)+1 by omega,show ((k+1:Nat):Int)=(k:Int)+1 by omega] at hcR;have kt:∀W,Ext wr W→W.cell? ⟨bT,0,none⟩=some (.func (.func 313) #[] #[.pointer (some ⟨bC,0,none⟩),.pointer (some ⟨bS,0,none⟩),.pointer (some ⟨bB,0,none⟩),.pointer (some ⟨bG,0,none⟩),.pointer (some ⟨bI,0,none⟩),.pointer (some ⟨bT,0,none⟩)]):=fun W hW=>(hTr.ext hW).cell (i:=0) rfl;clear hz hP;go_wp2_with (first | (go_at_call 99;refine (m9 _ _ _ (HI.out _ hEr) Hgr).mono ?_;rintro e1 w1 ⟨rfl,hE1⟩;have hE01:=hEr.trans hE1) | (go_at_call 252;refine (hcP _ hE1).mono ?_;rintro e2 w2 ⟨rfl,hE2⟩;have hE12:=hE1.trans hE2) | (go_at_call 313;refine (hcR _ hE12).mono ?_;rintro e3 w3 ⟨rfl,c3,hB3,hS3',hC3,hF3,hb3,hb4⟩));go_roundw;(case rel=>exact⟨k+1,c3,by omega,by omega,by go_num,by rw[Hn.out];exact hB3,by rw[Hn.out];exact hS3',hC3,HFw.out.trans ((hE12.fw _).trans hF3),by rw[Hn.out];exact hb3,by rw[Hn.out];exact hb4⟩);case measure=>(simp[intOf];omega)
     · have hkl:k=ord l:=(by omega);have Hn:Hid (fsI P (ord l) (f+1) b n fr s=z):=Lib.hid (by rw[b89 hob.2,hz,hkl]);clear hz;go_wp2_with (go_at_call 99;refine (m9 _ _ _ (HI.out _ hEr) Hgr).mono ?_;rintro e1 w1 ⟨rfl,hE1⟩;have hE01:=hEr.trans hE1);go_end0;exact⟨rfl,c',by rw[Hn.out];exact HB.out.ext hE1,by rw[Hn.out];exact HS.out.ext hE1,HC.out.ext hE1,HFw.out.trans (hE1.fw _),by rw[Hn.out];exact hb1,by rw[Hn.out];exact hb2⟩
  · have s0:=V5 (P:=P) (N:=ord l) (f:=f) (b:=b) (n:=n) (fr:=fr) (s:=s)
    rw[if_neg hq] at s0
    have HB0:Hid (Blk (w.setCell ⟨bC,0,none⟩ (.int .i64 (wrap64 (c+1)))) bB 3 #[.int .i64 (o3 P (ord l) f b n fr s fr).1]):=Lib.hid (by rw[s0];exact B1)
    have HS0:Hid (Blk (w.setCell ⟨bC,0,none⟩ (.int .i64 (wrap64 (c+1)))) bS 3 #[.int .i64 (o3 P (ord l) f b n fr s fr).2]):=Lib.hid (by rw[s0];exact S1)
    have HC0:=Lib.hid C1
    have HF0:=Lib.hid F1
    have Hb0:Hid (-1≤(o3 P (ord l) f b n fr s fr).2∧(o3 P (ord l) f b n fr s fr).2≤24):=Lib.hid (by rw[s0];exact⟨hs1,hs2⟩)
    clear s0 B1 S1 C1 F1 hB hS hC hc1
    go_enter Tryz.func313,Tryz.ntmps313
    go_wp2_with fail
    clear kc fc ks1 kb1 fb1 hq
    go_loopw [12] (fun xv wr=>∃(k:Nat) (c':Int),fr≤k∧k≤ord l∧xv=.int .i64 k∧Blk wr bB 3 #[.int .i64 (o3 P (ord l) f b n fr s k).1]∧Blk wr bS 3 #[.int .i64 (o3 P (ord l) f b n fr s k).2]∧Blk wr bC 3 #[.int .i64 c']∧Fw (S3 bC bS bB) w wr ∧ -1≤(o3 P (ord l) f b n fr s k).2∧(o3 P (ord l) f b n fr s k).2≤24) (fun x _=>ord l - (intOf x).toNat)
    case atStart=>exact⟨fr,_,by omega,by omega,rfl,HB0.out,HS0.out,HC0.out,HF0.out,Hb0.out.1,Hb0.out.2⟩
    case round =>
     obtain⟨k,c',hk1,hk2,rfl,hB,hS,hC,hF,hb1,hb2⟩:=hrel;clear HB0 HS0 HC0 HF0 Hb0;have hEr:=hF.ext hE0 hS3;have hTr:=hF.blk hT hT3;obtain⟨z,hz⟩:∃z,z=o3 P (ord l) f b n fr s k:=⟨_,rfl⟩;rw[←hz] at hB hS hb1 hb2;have HB:=Lib.hid hB;have HS:=Lib.hid hS;have HC:=Lib.hid hC;have HFw:=Lib.hid hF;clear hB hS hC hF;by_cases hlt:k<ord l
     · have hk24:k<24:=(by omega);have hs1':=p0 (n:=k) (by omega);have hs2':=F8 hb24 hk24;have hbk:b ||| 2 ^ k<2 ^ 24:=Nat.or_lt_two_pow hb24 (Nat.pow_lt_pow_right (by omega) hk24)
       cases hP:P (b ||| 2 ^ k)
       · have Hn:Hid (o3 P (ord l) f b n fr s (k+1)=z):=Lib.hid (by rw[b46 hP,hz]);have hcP:=fun W (hW:Ext wr W)=>HP W (b ||| 2 ^ k) (hEr.trans hW) hbk;rw[hP] at hcP;clear hz hP;go_wp2_with (first | (go_at_call 99;refine (m9 _ _ _ (HI.out _ hEr) Hgr).mono ?_;rintro e1 w1 ⟨rfl,hE1⟩;have hE01:=hEr.trans hE1) | (go_at_call 252;refine (hcP _ hE1).mono ?_;rintro e2 w2 ⟨rfl,hE2⟩;have hE12:=hE1.trans hE2));go_roundw;(case rel=>exact⟨k+1,c',by omega,by omega,by go_num,by rw[Hn.out];exact HB.out.ext hE12,by rw[Hn.out];exact HS.out.ext hE12,HC.out.ext hE12,HFw.out.trans (hE12.fw _),by rw[Hn.out];exact hb1,by rw[Hn.out];exact hb2⟩);case measure=>(simp[intOf];omega)
       · have Hn:Hid (o3 P (ord l) f b n fr s (k+1)=fsI P (ord l) f (b ||| 2 ^ k) (n+1) (k+1) z):=Lib.hid (by rw[b20 hlt hk1 hP,hz]);have hcP:=fun W (hW:Ext wr W)=>HP W (b ||| 2 ^ k) (hEr.trans hW) hbk;rw[hP] at hcP;have hcR:=fun W (hE:Ext wr W)=>Hih.out (b ||| 2 ^ k) (n+1) (k+1) W z c' (by omega) (by omega) hbk (by omega) hb1 hb2 (hEr.trans hE) (HB.out.ext hE) (HS.out.ext hE) (HC.out.ext hE) (hTr.ext hE);rw[show ((n+1:Nat):Int)=(n:Int)+1 by omega,show ((k+1:Nat):Int)=(k:Int)+1 by omega] at hcR;have kt:∀W,Ext wr W→W.cell? ⟨bT,0,none⟩=some (.func (.func 313) #[] #[.pointer (some ⟨bC,0,none⟩),.pointer (some ⟨bS,0,none⟩),.pointer (some ⟨bB,0,none⟩),.pointer (some ⟨bG,0,none⟩),.pointer (some ⟨bI,0,none⟩),.pointer (some ⟨bT,0,none⟩)]):=fun W hW=>(hTr.ext hW).cell (i:=0) rfl;clear hz hP;go_wp2_with (first | (go_at_call 99;refine (m9 _ _ _ (HI.out _ hEr) Hgr).mono ?_;rintro e1 w1 ⟨rfl,hE1⟩;have hE01:=hEr.trans hE1) | (go_at_call 252;refine (hcP _ hE1).mono ?_;rintro e2 w2 ⟨rfl,hE2⟩;have hE12:=hE1.trans hE2) | (go_at_call 313;refine (hcR _ hE12).mono ?_;rintro e3 w3 ⟨rfl,c3,hB3,hS3',hC3,hF3,hb3,hb4⟩));go_roundw;(case rel=>exact⟨k+1,c3,by omega,by omega,by go_num,by rw[Hn.out];exact hB3,by rw[Hn.out];exact hS3',hC3,HFw.out.trans ((hE12.fw _).trans hF3),by rw[Hn.out];exact hb3,by rw[Hn.out];exact hb4⟩);case measure=>(simp[intOf];omega)
     · have hkl:k=ord l:=(by omega);have Hn:Hid (fsI P (ord l) (f+1) b n fr s=z):=Lib.hid (by rw[b89 hob.2,hz,hkl]);clear hz;go_wp2_with (go_at_call 99;refine (m9 _ _ _ (HI.out _ hEr) Hgr).mono ?_;rintro e1 w1 ⟨rfl,hE1⟩;have hE01:=hEr.trans hE1);go_end0;exact⟨rfl,c',by rw[Hn.out];exact HB.out.ext hE1,by rw[Hn.out];exact HS.out.ext hE1,HC.out.ext hE1,HFw.out.trans (hE1.fw _),by rw[Hn.out];exact hb1,by rw[Hn.out];exact hb2⟩
theorem d93(v:Value)(l:List Int)(P:Nat→Bool)(Hgr:Hid (c9 l=true))(w:World)(h:c8 w v l)(p1 p2:Value)
 (HP:∀W b,Ext w W→b<2 ^ 24→Calls Tryz.prog 252 #[.int .i64 (b:Nat),p1] W fun e w'=>e=.returned (.bool (P b))∧Ext W w') :
 Calls Tryz.prog 249 #[.agg #[v],.func (.func 252) #[] #[p1]] w fun e w'=>∃c,e=.returned (.tuple #[.int .i64 (fsS P (ord l) (ord l+1) 0 0:Nat),.int .i64 c])∧Ext w w':=by
 have hob:=l8 Hgr.out;have hmf:∀(fn:Fn) (first cap:Array Value) (w:World),(Instr.makeFunc fn first cap).run Tryz.prog w=.ok (.func fn first cap) w:=fun _ _ _ _=>rfl;have He:=Lib.hid (cs4 P (ord l) hob.2 (ord l+1) 0 0 (0,-1) (by simp) (by omega));have HH:=Lib.hid h;have HPP:=Lib.hid HP;clear h HP;go_enter Tryz.func249,Tryz.ntmps249;go_wp2_with fail;obtain⟨w1,h1⟩:∃x,x=w.alloc (.cells #[v] 28):=⟨_,rfl⟩;obtain⟨w2,h2⟩:∃x,x=w1.alloc (.cells #[.func (.func 252) #[] #[p1]] 127):=⟨_,rfl⟩;obtain⟨w3,h3⟩:∃x,x=w2.alloc (.cells #[.int .i64 0] 3):=⟨_,rfl⟩;obtain⟨w4,h4⟩:∃x,x=w3.alloc (.cells #[.int .i64 (-1)] 3):=⟨_,rfl⟩;obtain⟨w5,h5⟩:∃x,x=w4.alloc (.cells #[.int .i64 0] 3):=⟨_,rfl⟩;obtain⟨w6,h6⟩:∃x,x=w5.alloc (.cells #[.func (.func 313) #[] #[.pointer (some ⟨w.heap.size+1+1+1+1,0,none⟩),.pointer (some ⟨w.heap.size+1+1+1,0,none⟩),.pointer (some ⟨w.heap.size+1+1,0,none⟩),.pointer (some ⟨w.heap.size,0,none⟩),.pointer (some ⟨w.heap.size+1,0,none⟩),.pointer (some ⟨w.heap.size+1+1+1+1+1,0,none⟩)]] 162):=⟨_,rfl⟩;rw[←h1,←h2,←h3,←h4,←h5,←h6];have s1:w1.heap.size=w.heap.size+1:=by rw[h1];simp
 have s2:w2.heap.size=w.heap.size+1+1:=by rw[h2];simp[s1]
 have s3:w3.heap.size=w.heap.size+1+1+1:=by rw[h3];simp[s2]
 have s4:w4.heap.size=w.heap.size+1+1+1+1:=by rw[h4];simp[s3]
 have s5:w5.heap.size=w.heap.size+1+1+1+1+1:=by rw[h5];simp[s4]
 have e01:Ext w w1:=by rw[h1];exact (Ext.refl _).alloc _
 have e12:Ext w1 w2:=by rw[h2];exact (Ext.refl _).alloc _
 have e23:Ext w2 w3:=by rw[h3];exact (Ext.refl _).alloc _
 have e34:Ext w3 w4:=by rw[h4];exact (Ext.refl _).alloc _
 have e45:Ext w4 w5:=by rw[h5];exact (Ext.refl _).alloc _
 have e56:Ext w5 w6:=by rw[h6];exact (Ext.refl _).alloc _
 have B1:Blk w1 w.heap.size 28 #[v]:=by rw[h1];exact Blk.new _ _ _
 have B2:Blk w2 (w.heap.size+1) 127 #[.func (.func 252) #[] #[p1]]:=by rw[h2,←s1];exact Blk.new _ _ _
 have B3:Blk w3 (w.heap.size+1+1) 3 #[.int .i64 ((0:Nat):Int)]:=by rw[h3,←s2];exact Blk.new _ _ _
 have B4:Blk w4 (w.heap.size+1+1+1) 3 #[.int .i64 (-1)]:=by rw[h4,←s3];exact Blk.new _ _ _
 have B5:Blk w5 (w.heap.size+1+1+1+1) 3 #[.int .i64 0]:=by rw[h5,←s4];exact Blk.new _ _ _
 have B6:Blk w6 (w.heap.size+1+1+1+1+1) 162 #[.func (.func 313) #[] #[.pointer (some ⟨w.heap.size+1+1+1+1,0,none⟩),.pointer (some ⟨w.heap.size+1+1+1,0,none⟩),.pointer (some ⟨w.heap.size+1+1,0,none⟩),.pointer (some ⟨w.heap.size,0,none⟩),.pointer (some ⟨w.heap.size+1,0,none⟩),.pointer (some ⟨w.heap.size+1+1+1+1+1,0,none⟩)]]:=by rw[h6,←s5];exact Blk.new _ _ _
 have e02:=e01.trans e12;have e26:=e23.trans (e34.trans (e45.trans e56));refine (d16 v l P Hgr w2 (w.heap.size+1+1+1+1) (w.heap.size+1+1+1) (w.heap.size+1+1) w.heap.size (w.heap.size+1) (w.heap.size+1+1+1+1+1) (by omega) (by omega) (by omega) (by omega) (by omega) (by omega) (by omega) (by omega) (by omega) p1 p2 (fun W hW=>((B1.ext e12).ext hW).cell (i:=0) rfl) (fun W hW=>(B2.ext hW).cell (i:=0) rfl) (Lib.hid fun W hW=>HH.out.ext (e02.trans hW)) (fun W b hW hb=>HPP.out W b (e02.trans hW) hb) (ord l+1) 0 0 0 w6 (0,-1) 0 (by omega) (by omega) (by decide) (by omega) (by simp) (by simp) e26 (B3.ext (e34.trans (e45.trans e56))) (B4.ext (e45.trans e56)) (B5.ext e56) B6).mono ?_;rintro e w7 ⟨rfl,c7,hB7,hS7,hC7,hF7,-,-⟩;have hc0:(cnt 0)=0:=S8;have hfin:(fsI P (ord l) (ord l+1) 0 0 0 (0,-1)).1=fsS P (ord l) (ord l+1) 0 0:=by
  have:=He.out;rw[hc0] at this;rw[this,if_pos (by show (-1:Int)<_;omega)]
 rw[hfin] at hB7;have hx7:=hB7.cell (i:=0) (v:=.int .i64 (fsS P (ord l) (ord l+1) 0 0:Nat)) rfl;have hy7:=hC7.cell (i:=0) (v:=.int .i64 c7) rfl;have hE7:Ext w w7:=hF7.ext (e02.trans e26) (by rintro k (rfl | rfl | rfl)<;>omega);have kx:=fun U=>b87 hx7 _ (b9 w7 U);have ky:=fun U=>b87 hy7 _ (b9 w7 U);have hE:=Ext.refl w7;clear hfin hc0 hx7 hy7 s1 s2 s3 s4 s5;go_wp2_with fail;(refine d0 (w7) (by kernel_rfl) (by kernel_rfl) hE ?_);(repeat (go_big_quiet_step (first | fail)));(refine wpQuiet_nil ?_);(intro W hE');(replace hE:=l7 hE');(clear hE');go_wp2_with fail;exact bodyPost_ret (v:=.tuple #[.int .i64 (fsS P (ord l) (ord l+1) 0 0:Nat),.int .i64 c7]) (by simp[results,Tryz.results249,go_sem]) rfl ⟨_,rfl,hE7.trans hE⟩
theorem dt1(v:Value)(l:List Int)(b bG:Nat)(w:World)(hG:∀W,Ext w W→W.cell? ⟨bG,0,none⟩=some v)(h:c8 w v l) :
 Calls Tryz.prog 252 #[.int .i64 b,.pointer (some ⟨bG,0,none⟩)] w fun e w'=>e=.returned (.bool (apP l b))∧Ext w w':=by
 have kG:=hG _ (Ext.refl w);have hc:=bq3 v l (b:Int) w h;clear hG h;go_enter Tryz.func252,Tryz.ntmps252;go_wp2_with fail;refine hc.mono ?_;rintro e w1 ⟨rfl,hE1⟩;go_wp2_with fail;go_ret;exact⟨rfl,hE1⟩
theorem bz0(v:Value)(l:List Int)(w:World)(h:c8 w v l) :
 Calls Tryz.prog 144 #[.agg #[v]] w fun e w'=>e=.returned (.tuple #[.int .i64 (lgV (apP l) l 11:Nat),.bool (lgB l 11)])∧Ext w w':=by
 obtain⟨wb,Hwb,hE0,hb,hg,hE,Hsz⟩:=j60 28 h;clear h;have hbx:=hb wb hE;have hmf:∀(fn:Fn) (first cap:Array Value) (w:World),(Instr.makeFunc fn first cap).run Tryz.prog w=.ok (.func fn first cap) w:=fun _ _ _ _=>rfl;have cG:=l0 v l wb (hg _ hE);cases hgr:c9 l
 · have hB:lgB l 11=false:=(by unfold lgB;rw[hgr];rfl);have Hs:=Lib.hid (And.intro hB (b02 (P:=apP l) hB));rw[hgr] at cG;clear hB;go_enter Tryz.func144,Tryz.ntmps144;go_wp2_with fail;rw[←Hwb.out];refine cG.mono ?_;rintro e w1 ⟨rfl,hE1⟩;go_wp2_with fail;exact bodyPost_ret (v:=.tuple #[.int .i64 0,.bool false]) (by simp[results,Tryz.results144,go_sem]) rfl ⟨by rw[Hs.out.1,Hs.out.2];rfl,hE0.trans hE1⟩
 rw[hgr] at cG;have Hgr:=Lib.hid hgr;have hob:=l8 hgr;have cO:=fun W (hW:Ext wb W)=>m9 v l W (hg _ hW) Hgr;by_cases hm:ord l≤11;rotate_left
 · have hB:lgB l 11=false:=(by unfold lgB;rw[hgr];simpa using hm);have Hs:=Lib.hid (And.intro hB (b02 (P:=apP l) hB));clear hB;go_enter Tryz.func144,Tryz.ntmps144;go_wp2_with fail;rw[←Hwb.out];refine cG.mono ?_;rintro e w1 ⟨rfl,hE1⟩;have hb1:=hb w1 hE1;go_wp2_with (refine (cO _ hE1).mono ?_;rintro e w2 ⟨rfl,hE2⟩);exact bodyPost_ret (v:=.tuple #[.int .i64 0,.bool false]) (by simp[results,Tryz.results144,go_sem]) rfl ⟨by rw[Hs.out.1,Hs.out.2];rfl,hE0.trans (hE1.trans hE2)⟩
 have hB:lgB l 11=true:=by unfold lgB;rw[hgr];simpa using hm
 have Hs:=Lib.hid (And.intro hB (bi9 (P:=apP l) hB));have cF:=fun W (hW:Ext wb W)=>d93 v l (apP l) Hgr W (hg W hW) (.pointer (some ⟨w.heap.size,0,none⟩)) (.pointer none) (fun W' b hW' hb'=>dt1 v l b w.heap.size W' (fun X hX=>hb X (hW.trans (hW'.trans hX))) (hg W' (hW.trans hW')));obtain⟨R,hR⟩:∃R,R=fsS (apP l) (ord l) (ord l+1) 0 0:=⟨_,rfl⟩;rw[←hR] at cF Hs;clear hB hgr hR;go_enter Tryz.func144,Tryz.ntmps144;go_wp2_with fail;rw[←Hwb.out];refine cG.mono ?_;rintro e w1 ⟨rfl,hE1⟩;have hb1:=hb w1 hE1;go_wp2_with (go_at_call 99;refine (cO _ hE1).mono ?_;rintro e w2 ⟨rfl,hE2⟩;have hE12:=hE1.trans hE2;have hb2:=hb w2 hE12);refine (cF _ hE12).mono ?_;rintro e w3 ⟨c,rfl,hE3⟩;go_wp2_with fail;exact bodyPost_ret (v:=.tuple #[.int .i64 R,.bool true]) (by simp[results,Tryz.results144,go_sem]) rfl ⟨by rw[Hs.out.1,Hs.out.2],hE0.trans (hE12.trans hE3)⟩
theorem de8{l:List Int}(hg:c9 l=true):I1 l 1=false:=by
 unfold I1;have:¬(j3 l 1 1 &&& 1=0):=fun e=>by
  have h0:(j3 l 1 1).testBit 0=true :=
   q7.2 ⟨0,0,by omega,by decide,by omega,by decide,C5 l (m0 hg) 0 (by have:=(l8 hg).1;omega)⟩
  rw[Nat.testBit_zero,decide_eq_true_iff] at h0
  have:=Nat.and_one_is_mod (j3 l 1 1)
  omega
 rw[decide_eq_false this];simp
theorem bp7(v:Value)(l:List Int)(w:World)(h:c8 w v l) :
 Calls Tryz.prog 62 #[.agg #[v]] w fun e w'=>e=.returned (.tuple #[.int .i64 (lgV (I1 l) l 16:Nat),.bool (lgB l 16)])∧Ext w w':=by
 obtain⟨wb,Hwb,hE0,hb,hg,hE,Hsz⟩:=j60 28 h;clear h;have hbx:=hb wb hE;have cG:=q9 v l wb (hg _ hE);cases hgr:c9 l
 · have hB:lgB l 16=false:=(by unfold lgB;rw[hgr];rfl);have Hs:=Lib.hid (And.intro hB (b02 (P:=I1 l) hB));rw[hgr] at cG;clear hB;go_enter Tryz.func62,Tryz.ntmps62;go_wp2_with fail;rw[←Hwb.out];refine cG.mono ?_;rintro e w1 ⟨rfl,hE1⟩;go_wp2_with fail;exact bodyPost_ret (v:=.tuple #[.int .i64 0,.bool false]) (by simp[results,Tryz.results62,go_sem]) rfl ⟨by rw[Hs.out.1,Hs.out.2];rfl,hE0.trans hE1⟩
 rw[hgr] at cG;have Hgr:=Lib.hid hgr;have hob:=l8 hgr;have cO:=fun W (hW:Ext wb W)=>m4 v l W (hg _ hW) Hgr;by_cases hm:ord l≤16;rotate_left
 · have hB:lgB l 16=false:=(by unfold lgB;rw[hgr];simpa using hm);have Hs:=Lib.hid (And.intro hB (b02 (P:=I1 l) hB));clear hB;go_enter Tryz.func62,Tryz.ntmps62;go_wp2_with fail;rw[←Hwb.out];refine cG.mono ?_;rintro e w1 ⟨rfl,hE1⟩;have hb1:=hb w1 hE1;go_wp2_with (refine (cO _ hE1).mono ?_;rintro e w2 ⟨rfl,hE2⟩);exact bodyPost_ret (v:=.tuple #[.int .i64 0,.bool false]) (by simp[results,Tryz.results62,go_sem]) rfl ⟨by rw[Hs.out.1,Hs.out.2];rfl,hE0.trans (hE1.trans hE2)⟩
 have hB:lgB l 16=true:=by unfold lgB;rw[hgr];simpa using hm
 have Hs:=Lib.hid (And.intro hB (bi9 (P:=I1 l) hB));have cF:=fun W (hW:Ext wb W)=>(show Calls Tryz.prog 181 #[.agg #[v],.int .i64 0,.int .i64 1] W fun e w'=>e=.returned (.int .i64 (fsS (I1 l) (ord l) (ord l+1) 0 0:Nat))∧Ext W w' from by have q:=d26 v l (I1 l) Hgr (Lib.hid fun W b hb' hbo=>by have q2:=c04 v l b W hb' Hgr (Nat.lt_of_lt_of_le hbo (E1 Hgr.out));unfold I1;rw[O5 Hgr.out hbo,Bool.true_and];exact q2) (ord l+1) 0 1 W (hg W hW) (by omega) (by omega) (by decide);rw[←de9 (de8 Hgr.out)] at q;exact q);obtain⟨R,hR⟩:∃R,R=fsS (I1 l) (ord l) (ord l+1) 0 0:=⟨_,rfl⟩;rw[←hR] at cF Hs;clear hB hgr hR;go_enter Tryz.func62,Tryz.ntmps62;go_wp2_with fail;rw[←Hwb.out];refine cG.mono ?_;rintro e w1 ⟨rfl,hE1⟩;have hb1:=hb w1 hE1;go_wp2_with (go_at_call 43;refine (cO _ hE1).mono ?_;rintro e w2 ⟨rfl,hE2⟩;have hE12:=hE1.trans hE2;have hb2:=hb w2 hE12);refine (cF _ hE12).mono ?_;rintro e w3 ⟨rfl,hE3⟩;go_wp2_with fail;exact bodyPost_ret (v:=.tuple #[.int .i64 R,.bool true]) (by simp[results,Tryz.results62,go_sem]) rfl ⟨by rw[Hs.out.1,Hs.out.2],hE0.trans (hE12.trans hE3)⟩
theorem bz3(v:Value)(l:List Int)(w:World)(h:c8 w v l) :
 Calls Tryz.prog 63 #[.agg #[v]] w fun e w'=>e=.returned (.tuple #[.int .i64 (lgV (sidP l) l 13:Nat),.bool (lgB l 13)])∧Ext w w':=by
 obtain⟨wb,Hwb,hE0,hb,hg,hE,Hsz⟩:=j60 28 h;clear h;have hbx:=hb wb hE;have cG:=q9 v l wb (hg _ hE);cases hgr:c9 l
 · have hB:lgB l 13=false:=(by unfold lgB;rw[hgr];rfl);have Hs:=Lib.hid (And.intro hB (b02 (P:=sidP l) hB));rw[hgr] at cG;clear hB;go_enter Tryz.func63,Tryz.ntmps63;go_wp2_with fail;rw[←Hwb.out];refine cG.mono ?_;rintro e w1 ⟨rfl,hE1⟩;go_wp2_with fail;exact bodyPost_ret (v:=.tuple #[.int .i64 0,.bool false]) (by simp[results,Tryz.results63,go_sem]) rfl ⟨by rw[Hs.out.1,Hs.out.2];rfl,hE0.trans hE1⟩
 rw[hgr] at cG;have Hgr:=Lib.hid hgr;have hob:=l8 hgr;have cO:=fun W (hW:Ext wb W)=>m4 v l W (hg _ hW) Hgr;by_cases hm:ord l≤13;rotate_left
 · have hB:lgB l 13=false:=(by unfold lgB;rw[hgr];simpa using hm);have Hs:=Lib.hid (And.intro hB (b02 (P:=sidP l) hB));clear hB;go_enter Tryz.func63,Tryz.ntmps63;go_wp2_with fail;rw[←Hwb.out];refine cG.mono ?_;rintro e w1 ⟨rfl,hE1⟩;have hb1:=hb w1 hE1;go_wp2_with (refine (cO _ hE1).mono ?_;rintro e w2 ⟨rfl,hE2⟩);exact bodyPost_ret (v:=.tuple #[.int .i64 0,.bool false]) (by simp[results,Tryz.results63,go_sem]) rfl ⟨by rw[Hs.out.1,Hs.out.2];rfl,hE0.trans (hE1.trans hE2)⟩
 have hB:lgB l 13=true:=by unfold lgB;rw[hgr];simpa using hm
 have Hs:=Lib.hid (And.intro hB (bi9 (P:=sidP l) hB));have cF:=fun W (hW:Ext wb W)=>(show Calls Tryz.prog 182 #[.agg #[v],.int .i64 0,.int .i64 0] W fun e w'=>e=.returned (.int .i64 (fsS (sidP l) (ord l) (ord l+1) 0 0:Nat))∧Ext W w' from by have q:=db0 v l (sidP l) Hgr (Lib.hid fun W b hb' hbo=>by have q2:=bt3 v l b W hb' Hgr (Nat.lt_of_lt_of_le hbo (E1 Hgr.out));unfold sidP;rw[c51 (O5 Hgr.out hbo)];exact q2) (ord l+1) 0 0 W (hg W hW) (by omega) (by omega) (by decide);exact q);obtain⟨R,hR⟩:∃R,R=fsS (sidP l) (ord l) (ord l+1) 0 0:=⟨_,rfl⟩;rw[←hR] at cF Hs;clear hB hgr hR;go_enter Tryz.func63,Tryz.ntmps63;go_wp2_with fail;rw[←Hwb.out];refine cG.mono ?_;rintro e w1 ⟨rfl,hE1⟩;have hb1:=hb w1 hE1;go_wp2_with (go_at_call 43;refine (cO _ hE1).mono ?_;rintro e w2 ⟨rfl,hE2⟩;have hE12:=hE1.trans hE2;have hb2:=hb w2 hE12);refine (cF _ hE12).mono ?_;rintro e w3 ⟨rfl,hE3⟩;go_wp2_with fail;exact bodyPost_ret (v:=.tuple #[.int .i64 R,.bool true]) (by simp[results,Tryz.results63,go_sem]) rfl ⟨by rw[Hs.out.1,Hs.out.2],hE0.trans (hE12.trans hE3)⟩
theorem bv3(v:Value)(l:List Int)(w:World)(h:c8 w v l) :
 Calls Tryz.prog 64 #[.agg #[v]] w fun e w'=>e=.returned (.tuple #[.int .i64 (lgV (apP l) l 11:Nat),.bool (lgB l 11)])∧Ext w w':=by
 obtain⟨wb,Hwb,hE0,hb,hg,hE,Hsz⟩:=j60 28 h;clear h;have hbx:=hb wb hE;have cG:=q9 v l wb (hg _ hE);cases hgr:c9 l
 · have hB:lgB l 11=false:=(by unfold lgB;rw[hgr];rfl);have Hs:=Lib.hid (And.intro hB (b02 (P:=apP l) hB));rw[hgr] at cG;clear hB;go_enter Tryz.func64,Tryz.ntmps64;go_wp2_with fail;rw[←Hwb.out];refine cG.mono ?_;rintro e w1 ⟨rfl,hE1⟩;go_wp2_with fail;exact bodyPost_ret (v:=.tuple #[.int .i64 0,.bool false]) (by simp[results,Tryz.results64,go_sem]) rfl ⟨by rw[Hs.out.1,Hs.out.2];rfl,hE0.trans hE1⟩
 rw[hgr] at cG;have Hgr:=Lib.hid hgr;have hob:=l8 hgr;have cO:=fun W (hW:Ext wb W)=>m4 v l W (hg _ hW) Hgr;by_cases hm:ord l≤11;rotate_left
 · have hB:lgB l 11=false:=(by unfold lgB;rw[hgr];simpa using hm);have Hs:=Lib.hid (And.intro hB (b02 (P:=apP l) hB));clear hB;go_enter Tryz.func64,Tryz.ntmps64;go_wp2_with fail;rw[←Hwb.out];refine cG.mono ?_;rintro e w1 ⟨rfl,hE1⟩;have hb1:=hb w1 hE1;go_wp2_with (refine (cO _ hE1).mono ?_;rintro e w2 ⟨rfl,hE2⟩);exact bodyPost_ret (v:=.tuple #[.int .i64 0,.bool false]) (by simp[results,Tryz.results64,go_sem]) rfl ⟨by rw[Hs.out.1,Hs.out.2];rfl,hE0.trans (hE1.trans hE2)⟩
 have hB:lgB l 11=true:=by unfold lgB;rw[hgr];simpa using hm
 have Hs:=Lib.hid (And.intro hB (bi9 (P:=apP l) hB));have cF:=fun W (hW:Ext wb W)=>(show Calls Tryz.prog 183 #[.agg #[v],.int .i64 0,.int .i64 0] W fun e w'=>e=.returned (.int .i64 (fsS (apP l) (ord l) (ord l+1) 0 0:Nat))∧Ext W w' from by have q:=di2 v l (apP l) Hgr (Lib.hid fun W b hb' hbo=>(bk3 v l b W hb').mono fun e w' ⟨⟨n,q1,_,q2⟩,q3⟩=>⟨n,q1,q2,q3⟩) (ord l+1) 0 0 W (hg W hW) (by omega) (by omega) (by decide);exact q);obtain⟨R,hR⟩:∃R,R=fsS (apP l) (ord l) (ord l+1) 0 0:=⟨_,rfl⟩;rw[←hR] at cF Hs;clear hB hgr hR;go_enter Tryz.func64,Tryz.ntmps64;go_wp2_with fail;rw[←Hwb.out];refine cG.mono ?_;rintro e w1 ⟨rfl,hE1⟩;have hb1:=hb w1 hE1;go_wp2_with (go_at_call 43;refine (cO _ hE1).mono ?_;rintro e w2 ⟨rfl,hE2⟩;have hE12:=hE1.trans hE2;have hb2:=hb w2 hE12);refine (cF _ hE12).mono ?_;rintro e w3 ⟨rfl,hE3⟩;go_wp2_with fail;exact bodyPost_ret (v:=.tuple #[.int .i64 R,.bool true]) (by simp[results,Tryz.results64,go_sem]) rfl ⟨by rw[Hs.out.1,Hs.out.2],hE0.trans (hE12.trans hE3)⟩
end Go.Zz
namespace Go.Zz
open Go.RowKit Go.Proofs
set_option maxHeartbeats 2000000
set_option maxRecDepth 8000
noncomputable def elF (l:List Int):ByteArray:=if lzB l then (((((((⟨#[101,120,116,114,101,109,97,108,32,102,114,101,101,32]⟩:ByteArray)++fqF l (d6 (lzL l)))++(⟨#[32,115,117,109,102,114,101,101,32]⟩:ByteArray))++fsF l (lgV (I1 l) l 16:Nat))++(⟨#[32,115,105,100,111,110,32]⟩:ByteArray))++fsF l (lgV (sidP l) l 13:Nat))++(⟨#[32,97,112,102,114,101,101,32]⟩:ByteArray))++fsF l (lgV (apP l) l 11:Nat) else ⟨#[]⟩
theorem br7{l:List Int}(h:lzB l=false):elF l=⟨#[]⟩:=by unfold elF;rw[h];rfl
theorem bx1{l:List Int}(h:lzB l=true):elF l=(((((((⟨#[101,120,116,114,101,109,97,108,32,102,114,101,101,32]⟩:ByteArray)++fqF l (d6 (lzL l)))++(⟨#[32,115,117,109,102,114,101,101,32]⟩:ByteArray))++fsF l (lgV (I1 l) l 16:Nat))++(⟨#[32,115,105,100,111,110,32]⟩:ByteArray))++fsF l (lgV (sidP l) l 13:Nat))++(⟨#[32,97,112,102,114,101,101,32]⟩:ByteArray))++fsF l (lgV (apP l) l 11:Nat):=by unfold elF;rw[h];rfl
theorem dw4{l:List Int}(h:∀i,i<l.length → -1≤nth l i∧nth l i<1000000000000)(hl:l.length≤40):(I0 l).size≤560:=by
 unfold I0;split
 · decide
 · have:=Q1 P5 (fun i=>j0 (nth l i)) (by decide) l.length fun i hi=>j5 (h i hi);omega
theorem bi2(l:List Int)(a:Int):(fsF l a).size≤600:=by
 cases h:d8 l a
 · rw[b60 h];decide
 · obtain⟨n,rfl,-,hn,-⟩:=m3 h;rw[Y5 h];have:=dw4 (l:=d6 (j1 n)) (W6 n) (by rw[j8];have:=C9 n;omega);omega
theorem dm1(l xs:List Int):(fqF l xs).size≤60012:=by
 cases hs:L2 l xs
 · rw[bs3 hs];decide
 · obtain⟨X,rfl,-,hX12,-,hX⟩:=bc4 hs;by_cases h0:X.length=0
   · rw[ba8 hs (by rw[j8];exact h0)];decide
   · rw[bi1 hs h0];have hfl:=b44 X X.length;have:=c32 sp1 (m6 (fqL X X.length)) (by decide) (fqL X X.length).length (fun i hi=>by have:=b45 (X:=X) (by omega) hX X.length (Nat.le_refl _) _ (N4 hi);omega);omega
theorem bz1(v:Value)(l:List Int)(w:World)(h:c8 w v l) :
 Calls Tryz.prog 17 #[.agg #[v]] w fun e w'=>e=.returned (.string (elF l))∧Ext w w':=by
 obtain⟨wb,Hwb,hE0,hb,hg,hE,Hsz⟩:=j60 28 h;clear h;have hbx:=hb wb hE;have cG:=q9 v l wb (hg _ hE);cases hgr:c9 l
 · have hB:lzB l=false:=(by unfold lzB;rw[hgr];rfl);have Hs:=Lib.hid (br7 hB);rw[hgr] at cG;clear hB;go_enter Tryz.func17,Tryz.ntmps17;go_wp2_with fail;rw[←Hwb.out];refine cG.mono ?_;rintro e w1 ⟨rfl,hE1⟩;go_wp2_with fail;go_ret;exact⟨d9 Hs.out.symm,hE0.trans hE1⟩
 rw[hgr] at cG;have Hgr:=Lib.hid hgr;have hob:=l8 hgr;have cO:=fun W (hW:Ext wb W)=>m4 v l W (hg _ hW) Hgr;by_cases hm:ord l≤9;rotate_left
 · have hB:lzB l=false:=(by unfold lzB;rw[hgr];simpa using hm);have Hs:=Lib.hid (br7 hB);clear hB;go_enter Tryz.func17,Tryz.ntmps17;go_wp2_with fail;rw[←Hwb.out];refine cG.mono ?_;rintro e w1 ⟨rfl,hE1⟩;have hb1:=hb w1 hE1;go_wp2_with (refine (cO _ hE1).mono ?_;rintro e w2 ⟨rfl,hE2⟩);go_ret;exact⟨d9 Hs.out.symm,hE0.trans (hE1.trans hE2)⟩
 have hB:lzB l=true:=by unfold lzB;rw[hgr];simpa using hm
 have Hs:=Lib.hid (bx1 hB);have c1:=fun W (hW:Ext wb W)=>bn5 v l W (hg _ hW);have c2:=fun W (hW:Ext wb W)=>bp7 v l W (hg _ hW);have c3:=fun W (hW:Ext wb W)=>bz3 v l W (hg _ hW);have c4:=fun W (hW:Ext wb W)=>bv3 v l W (hg _ hW);have cA:=fun W vZ (hW:Ext wb W) (hI:c8 W vZ (d6 (lzL l)))=>bp6 v vZ l (d6 (lzL l)) W (hg _ hW) hI;have cB:=fun W (hW:Ext wb W)=>m7 v l (lgV (I1 l) l 16:Nat) W (hg _ hW);have cC:=fun W (hW:Ext wb W)=>m7 v l (lgV (sidP l) l 13:Nat) W (hg _ hW);have cD:=fun W (hW:Ext wb W)=>m7 v l (lgV (apP l) l 11:Nat) W (hg _ hW);have sA:=dm1 l (d6 (lzL l));have sB:=bi2 l (lgV (I1 l) l 16:Nat);have sC:=bi2 l (lgV (sidP l) l 13:Nat);have sD:=bi2 l (lgV (apP l) l 11:Nat);obtain⟨A,hA⟩:∃x,x=fqF l (d6 (lzL l)):=⟨_,rfl⟩;obtain⟨B,hBd⟩:∃x,x=fsF l (lgV (I1 l) l 16:Nat):=⟨_,rfl⟩;obtain⟨C,hC⟩:∃x,x=fsF l (lgV (sidP l) l 13:Nat):=⟨_,rfl⟩;obtain⟨D,hD⟩:∃x,x=fsF l (lgV (apP l) l 11:Nat):=⟨_,rfl⟩;rw[←hA] at cA sA Hs;rw[←hBd] at cB sB Hs;rw[←hC] at cC sC Hs;rw[←hD] at cD sD Hs;obtain⟨n2,h2⟩:∃x,x=lgV (I1 l) l 16:=⟨_,rfl⟩;obtain⟨n3,h3⟩:∃x,x=lgV (sidP l) l 13:=⟨_,rfl⟩;obtain⟨n4,h4⟩:∃x,x=lgV (apP l) l 11:=⟨_,rfl⟩;rw[←h2] at c2 cB;rw[←h3] at c3 cC;rw[←h4] at c4 cD;clear hA hBd hC hD h2 h3 h4 hB hgr;go_enter Tryz.func17,Tryz.ntmps17;go_wp2_with fail;rw[←Hwb.out];refine cG.mono ?_;rintro e w1 ⟨rfl,hE1⟩;have hb1:=hb w1 hE1;go_wp2_with (go_at_call 43;refine (cO _ hE1).mono ?_;rintro e w2 ⟨rfl,hE2⟩;have hE12:=hE1.trans hE2;have hb2:=hb w2 hE12);refine (c1 _ hE12).mono ?_;rintro e w3 ⟨aoZ,cZ,rfl,hIZ,hE3⟩;have hE13:=hE12.trans hE3;have hb3:=hb w3 hE13;go_wp2_with fail;refine (c2 _ hE13).mono ?_;rintro e w4 ⟨rfl,hE4⟩;have hE14:=hE13.trans hE4;have hb4:=hb w4 hE14;go_wp2_with fail;refine (c3 _ hE14).mono ?_;rintro e w5 ⟨rfl,hE5⟩;have hE15:=hE14.trans hE5;have hb5:=hb w5 hE15;go_wp2_with fail;refine (c4 _ hE15).mono ?_;rintro e w6 ⟨rfl,hE6⟩;have hE16:=hE15.trans hE6;have hIZ6:=hIZ.ext (hE4.trans (hE5.trans hE6));have hb6:=fun U=>hb _ (hE16.trans (b9 w6 U));have hE:=Ext.refl w6;go_wp2_with fail;(refine d0 (w6) (by kernel_rfl) (by kernel_rfl) hE ?_);(repeat (go_big_quiet_step (first | (go_at_call 65;with_reducible exact Calls.lat (cA _ _ (hE16.trans (b9 w6 _)) (hIZ6.ext (b9 w6 _)))) | (go_at_call 11;first | with_reducible exact Calls.lat (cB _ (hE16.trans (b9 w6 _))) | with_reducible exact Calls.lat (cC _ (hE16.trans (b9 w6 _))) | with_reducible exact Calls.lat (cD _ (hE16.trans (b9 w6 _)))))));(refine wpQuiet_nil ?_);(intro W hE');(replace hE:=l7 hE');(clear hE');go_wp2_with fail;go_ret;exact⟨d9 Hs.out.symm,hE0.trans (hE16.trans hE)⟩
end Go.Zz
namespace Go.Zz
open Go.RowKit Go.Proofs
set_option maxHeartbeats 400000
def enF(l:List Int)(a b:Int):Int:=if d8 l a&&d8 l b then bg6 (b13 l a.toNat b.toNat) (ord l) else -1
theorem de6{l:List Int}{a b:Int}(h:(d8 l a&&d8 l b)=false):enF l a b = -1:=by unfold enF;rw[h];rfl
theorem b17{l:List Int}{a b:Nat}(h:(d8 l a&&d8 l b)=true):enF l a b=bg6 (b13 l a b) (ord l):=by unfold enF;rw[if_pos h];rfl
theorem bq1(v:Value)(l:List Int)(a b:Int)(w:World)(h:c8 w v l) :
 Calls Tryz.prog 112 #[.agg #[v],.int .i64 a,.int .i64 b] w fun e w'=>e=.returned (.int .i64 (enF l a b))∧Ext w w':=by
 obtain⟨wb,Hwb,hE0,hb,hg,hE,Hsz⟩:=j60 28 h;clear h;have hbx:=hb wb hE;have har:=ba0 l a b;cases hs:(d8 l a&&d8 l b)
 · have Hs:=Lib.hid (de6 hs);rw[hs] at har;clear hs;go_enter Tryz.func112,Tryz.ntmps112;go_wp2_with fail;rw[←Hwb.out];try rw[Hsz.out]
   go_wp2_with (first | (go_at_call 222;refine Calls.mono (F3 _ _ _ _ _ (hg _ xq) (S9 _ _ _ _) har) ?_;rintro e w' ⟨rfl,hE'⟩;replace hE:=hE.trans (Ext.trans xq hE');clear hE'));go_ret;exact⟨m8 Hs.out.symm,hE0.trans hE⟩
 · obtain⟨h1,h2⟩:=Bool.and_eq_true_iff.1 hs;obtain⟨a,rfl,-,ha,hgr⟩:=m3 h1;obtain⟨b,rfl,-,hb',-⟩:=m3 h2;have Hs:=Lib.hid (b17 hs);have Ht:=Lib.hid (dj3 hs);rw[hs] at har;have Hgr:=Lib.hid hgr;have hob:=l8 hgr;clear hs hgr h1 h2;go_enter Tryz.func112,Tryz.ntmps112;go_wp2_with fail;rw[←Hwb.out];try rw[Hsz.out]
   go_wp2_with (first | (go_at_call 222;refine Calls.mono (F3 _ _ _ _ _ (hg _ xq) (S9 _ _ _ _) har) ?_;rintro e w' ⟨rfl,hE'⟩;replace hE:=hE.trans (Ext.trans xq hE');clear hE'));refine (cn6 _ _ _ _ _ (hg _ hE)).mono ?_;rw[Ht.out];rintro e w1 ⟨v1,rfl,hL,hE1⟩;have hLs:=hL.ints;obtain⟨ao,c,adr,rfl,hlen,hadr,hcell⟩:=hLs.op;have hix:=j6 (c:=c) elI szI hadr;rw[cy9] at hcell hlen hix ⊢;clear hadr hL hLs;have hEb:=hE.trans hE1;clear hE hE1;have hE:=Ext.refl w1;go_wp2_with fail;go_loopw [7,21] (fun nv i wr=>∃k:Nat,k≤ord l∧i=.int .i64 k∧nv=.int .i64 (bg6 (b13 l a b) k)∧Ext w1 wr) (fun _ i _=>ord l - (intOf i).toNat);(case atStart=>exact⟨0,by omega,rfl,rfl,hE⟩);case round =>
    clear hE;obtain⟨k,hk,rfl,rfl,hE⟩:=hrel;by_cases hlt:k<ord l
    · have hck:=hcell k _ hlt hE;have hsq:=Lib.hid (bw0 (b13 l a b) k);have hb1:=Z2 Hgr.out a b k;obtain⟨hb2,hb3⟩:=ce9 Hgr.out a b k;obtain⟨hb4,hb5⟩:=db4 hb2 hb3;go_wp2_with fail;go_roundw;(case rel=>exact⟨k+1,by omega,by go_num,by rw[hsq.out],hE⟩);case measure=>(simp[intOf];omega)
    · have hkl:k=ord l:=(by omega);subst hkl;go_wp2_with fail;go_ret;exact⟨m8 (by rw[Hs.out]),hE0.trans (hEb.trans hE)⟩
end Go.Zz
namespace Go.Zz
open Go.RowKit Go.Proofs
set_option maxHeartbeats 1000000
set_option maxRecDepth 4000
theorem bo8(v:Value)(l:List Int)(a b:Int)(w:World)(h:c8 w v l) :
 Calls Tryz.prog 71 #[.agg #[v],.int .i64 a,.int .i64 b] w fun e w'=>e=.returned (.int .i64 (enF l a b))∧Ext w w':=by
 obtain⟨wb,Hwb,hE0,hb,hg,hE,Hsz⟩:=j60 28 h;clear h;cases hs:(d8 l a&&d8 l b)
 · have Hs:=Lib.hid (de6 hs);have Ht:Hid (bo0 l a b=[]):=Lib.hid (by unfold bo0;rw[hs];rfl);clear hs;go_enter Tryz.func71,Tryz.ntmps71;go_wp2_with fail;rw[←Hwb.out];refine (bp0 _ _ _ _ _ (hg _ hE)).mono ?_;rw[Ht.out];rintro e w1 ⟨v1,rfl,hL,hE1⟩;obtain⟨ao,c,rfl,-⟩:=hL.shape;rw[show ([]:List Int).length=0 from rfl] at hL ⊢;go_wp2_with fail;go_ret;exact⟨m8 Hs.out.symm,hE0.trans (hE.trans hE1)⟩
 · obtain⟨h1,h2⟩:=Bool.and_eq_true_iff.1 hs;obtain⟨a,rfl,-,ha,hgr⟩:=m3 h1;obtain⟨b,rfl,-,hb',-⟩:=m3 h2;have Hs:=Lib.hid (b17 hs);have Ht:=Lib.hid (dj3 hs);have Hgr:=Lib.hid hgr;have hob:=l8 hgr;have hne:(((ord l:Nat):Int) == 0)=false:=(by rw[beq_eq_false_iff_ne];omega);clear hs hgr h1 h2;go_enter Tryz.func71,Tryz.ntmps71;go_wp2_with fail;rw[←Hwb.out];refine (bp0 _ _ _ _ _ (hg _ hE)).mono ?_;rw[Ht.out];rintro e w1 ⟨v1,rfl,hL,hE1⟩;have hLs:=hL.ints;obtain⟨ao,c,adr,rfl,hlen,hadr,hcell⟩:=hLs.op;have hix:=j6 (c:=c) elI szI hadr;rw[cy9] at hcell hlen hix ⊢;clear hadr hL hLs;have hEb:=hE.trans hE1;clear hE hE1;have hE:=Ext.refl w1;go_wp2_with fail;go_loopw [8,9] (fun nv i wr=>∃k:Nat,k≤ord l∧i=.int .i64 k∧nv=.int .i64 (bg6 (b13 l a b) k)∧Ext w1 wr) (fun _ i _=>ord l - (intOf i).toNat);(case atStart=>exact⟨0,by omega,rfl,rfl,hE⟩);case round =>
    clear hE;obtain⟨k,hk,rfl,rfl,hE⟩:=hrel;by_cases hlt:k<ord l
    · have hck:=fun U=>hcell k _ hlt (b9 w1 U);have hsq:=Lib.hid (bw0 (b13 l a b) k);have hb1:=Z2 Hgr.out a b k;obtain⟨hb2,hb3⟩:=ce9 Hgr.out a b k;obtain⟨hb4,hb5⟩:=db4 hb2 hb3;go_wp2_with fail;(refine d0 (w1) (by kernel_rfl) (by kernel_rfl) hE ?_);(repeat (go_big_quiet_step (first | fail)));(refine wpQuiet_nil ?_);(intro W hE');(replace hE:=l7 hE');(clear hE');go_wp2_with fail;go_roundw;(case rel=>exact⟨k+1,by omega,by go_num,by rw[hsq.out],hE⟩);case measure=>(simp[intOf];omega)
    · have hkl:k=ord l:=(by omega);subst hkl;go_wp2_with fail;go_ret;exact⟨m8 (by rw[Hs.out]),hE0.trans (hEb.trans hE)⟩
end Go.Zz
namespace Go.Zz
open Go.RowKit Go.Proofs
set_option maxHeartbeats 1000000
set_option maxRecDepth 4000
def drF(l:List Int)(a b:Int):Bool:=(d8 l a&&d8 l b)&&decide (cnt (j3 l a.toNat b.toNat)=cnt a.toNat*cnt b.toNat)
theorem cq8{l:List Int}{a b:Int}(h:(d8 l a&&d8 l b)=false):drF l a b=false:=by unfold drF;rw[h];rfl
theorem d47{l:List Int}{a b:Nat}(h:(d8 l a&&d8 l b)=true):drF l a b=(((cnt (j3 l a b):Nat):Int) == (cnt a:Int)*(cnt b:Int)):=by
 unfold drF;rw[h,Bool.true_and,Bool.eq_iff_iff,decide_eq_true_iff,beq_iff_eq];show cnt (j3 l a b)=cnt a*cnt b↔_;constructor
 · intro e;rw[e];simp
 · intro e;rw[←Int.natCast_mul] at e;exact Int.ofNat_inj.1 e
theorem d45(a b:Nat):0≤(cnt a:Int)*(cnt b:Int)∧(cnt a:Int)*(cnt b:Int)≤576:=by
 have h1:=p7 a;have h2:=p7 b;have:=Nat.mul_le_mul h1 h2;rw[←Int.natCast_mul];omega
def Y1(l:List Int)(a b:Int):Bool:=drF l a b&&decide (j3 l a.toNat b.toNat=j4 l)
theorem d79{l:List Int}{a b:Int}(h:drF l a b=false):Y1 l a b=false:=by unfold Y1;rw[h];rfl
theorem cz2{l:List Int}{a b:Nat}(h:drF l a b=true):Y1 l a b=(((j3 l a b:Nat):Int) == (j4 l:Int)):=by
 unfold Y1;rw[h,Bool.true_and,Bool.eq_iff_iff,decide_eq_true_iff,beq_iff_eq];show j3 l a b=j4 l↔_;omega
theorem cq9{l:List Int}{a b:Int}(h:drF l a b=true):(d8 l a&&d8 l b)=true:=by unfold drF at h;rw[Bool.and_eq_true] at h;exact h.1
theorem c56(v:Value)(l:List Int)(a b:Int)(w:World)(h:c8 w v l) :
 Calls Tryz.prog 122 #[.agg #[v],.int .i64 a,.int .i64 b] w fun e w'=>e=.returned (.bool (drF l a b))∧Ext w w':=by
 obtain⟨wb,Hwb,hE0,hb,hg,hE,Hsz⟩:=j60 28 h;clear h;have hbx:=hb wb hE;have har:=ba0 l a b;cases hs:(d8 l a&&d8 l b)
 · have Hs:=Lib.hid (cq8 hs);rw[hs] at har;clear hs;go_enter Tryz.func122,Tryz.ntmps122;go_wp2_with fail;rw[←Hwb.out];try rw[Hsz.out]
   go_wp2_with (first | (go_at_call 222;refine Calls.mono (F3 _ _ _ _ _ (hg _ xq) (S9 _ _ _ _) har) ?_;rintro e w' ⟨rfl,hE'⟩;replace hE:=hE.trans (Ext.trans xq hE');clear hE'));go_ret;exact⟨l9 Hs.out.symm,hE0.trans hE⟩
 · obtain⟨h1,h2⟩:=Bool.and_eq_true_iff.1 hs;obtain⟨a,rfl,-,ha,hgr⟩:=m3 h1;obtain⟨b,rfl,-,hb',-⟩:=m3 h2;have Hs:=Lib.hid (d47 hs);rw[hs] at har;have Hgr:=Lib.hid hgr;have hsum:=F5 hgr a b;obtain⟨hm1,hm2⟩:=d45 a b;have q1:=fun W=>E0 (j3 l a b) hsum W;have q2:=fun W=>E0 a ha W;have q3:=fun W=>E0 b hb' W;clear hs hgr h1 h2;go_enter Tryz.func122,Tryz.ntmps122;go_wp2_with fail;rw[←Hwb.out];try rw[Hsz.out]
   go_wp2_with (first | (go_at_call 222;refine Calls.mono (F3 _ _ _ _ _ (hg _ xq) (S9 _ _ _ _) har) ?_;rintro e w' ⟨rfl,hE'⟩;replace hE:=hE.trans (Ext.trans xq hE');clear hE') | (go_at_call 119;refine cx (H5 _ _ _ _ _ (hg _ hE) (Hgr) (ha) (hb')) hE ?_;clear hE;intro w' hE) | (go_at_call 107;(first | (with_reducible refine Calls.mono (q1 _) ?_) | (with_reducible refine Calls.mono (q2 _) ?_) | (with_reducible refine Calls.mono (q3 _) ?_));rintro e w' ⟨rfl,rfl⟩));go_ret;exact⟨l9 Hs.out.symm,hE0.trans hE⟩
theorem c07(v:Value)(l:List Int)(a b:Int)(w:World)(h:c8 w v l) :
 Calls Tryz.prog 79 #[.agg #[v],.int .i64 a,.int .i64 b] w fun e w'=>e=.returned (.bool (drF l a b))∧Ext w w':=by
 obtain⟨wb,Hwb,hE0,hb,hg,hE,Hsz⟩:=j60 28 h;clear h;have hbx:=hb wb hE;cases h1:d8 l a
 · have Hs:=Lib.hid (cq8 (l:=l) (a:=a) (b:=b) (by rw[h1];rfl));go_enter Tryz.func79,Tryz.ntmps79;go_wp2_with fail;rw[←Hwb.out];go_wp2_with (first | (go_at_call 46;refine cx (l5 _ _ _ _ (hg _ hE) (h1)) hE ?_;clear hE;intro w' hE));go_ret;exact⟨l9 Hs.out.symm,hE0.trans hE⟩
 · cases h2:d8 l b
   · have Hs:=Lib.hid (cq8 (l:=l) (a:=a) (b:=b) (by rw[h1,h2];rfl));have c1:=fun W (hW:Ext wb W)=>l5 v l a W (hg W hW) h1;have c2:=fun W (hW:Ext wb W)=>l5 v l b W (hg W hW) h2;go_enter Tryz.func79,Tryz.ntmps79;go_wp2_with fail;rw[←Hwb.out];go_wp2_with (first | (go_at_call 46;(first | (with_reducible refine Calls.mono (c1 _ hE) ?_) | (with_reducible refine Calls.mono (c2 _ hE) ?_));rintro e w' ⟨rfl,hE'⟩;replace hE:=hE.trans hE';clear hE'));go_ret;exact⟨l9 Hs.out.symm,hE0.trans hE⟩
   · have c1:=fun W (hW:Ext wb W)=>l5 v l a W (hg W hW) h1;have c2:=fun W (hW:Ext wb W)=>l5 v l b W (hg W hW) h2;have hs:(d8 l a&&d8 l b)=true:=(by rw[h1,h2];rfl);obtain⟨a,rfl,-,ha,hgr⟩:=m3 h1;obtain⟨b,rfl,-,hb',-⟩:=m3 h2;have Hs:=Lib.hid (d47 hs);have Hgr:=Lib.hid hgr;have hsum:=F5 hgr a b;obtain⟨hm1,hm2⟩:=d45 a b;have q1:=fun W=>o9 (j3 l a b) hsum W;have q2:=fun W=>o9 a ha W;have q3:=fun W=>o9 b hb' W;clear hs hgr h1 h2;go_enter Tryz.func79,Tryz.ntmps79;go_wp2_with fail;rw[←Hwb.out];go_wp2_with (first | (go_at_call 46;(first | (with_reducible refine Calls.mono (c1 _ hE) ?_) | (with_reducible refine Calls.mono (c2 _ hE) ?_));rintro e w' ⟨rfl,hE'⟩;replace hE:=hE.trans hE';clear hE') | (go_at_call 49;refine cx (E4 _ _ _ _ _ (hg _ hE) (Hgr) (ha) (hb')) hE ?_;clear hE;intro w' hE) | (go_at_call 66;(first | (with_reducible refine Calls.mono (q1 _) ?_) | (with_reducible refine Calls.mono (q2 _) ?_) | (with_reducible refine Calls.mono (q3 _) ?_));rintro e w' ⟨rfl,rfl⟩));go_ret;exact⟨l9 Hs.out.symm,hE0.trans hE⟩
theorem bq5(v:Value)(l:List Int)(a b:Int)(w:World)(h:c8 w v l) :
 Calls Tryz.prog 123 #[.agg #[v],.int .i64 a,.int .i64 b] w fun e w'=>e=.returned (.bool (Y1 l a b))∧Ext w w':=by
 obtain⟨wb,Hwb,hE0,hb,hg,hE,Hsz⟩:=j60 28 h;clear h;have kb:=fun U=>hb _ (b9 wb U);have cD:=fun U=>c56 v l a b (Lat wb U) (hg _ (b9 wb U));cases hd:drF l a b
 · have Hs:=Lib.hid (d79 hd);rw[hd] at cD;go_enter Tryz.func123,Tryz.ntmps123;go_wp2_with fail;rw[←Hwb.out];(refine d0 (wb) (by kernel_rfl) (by kernel_rfl) hE ?_);(repeat (go_big_quiet_step (first | (go_at_call 122;exact Calls.lat (cD _)))));(refine wpQuiet_nil ?_);(intro W hE');(replace hE:=l7 hE');(clear hE');go_wp2_with fail;go_ret;exact⟨l9 Hs.out.symm,hE0.trans hE⟩
 · rw[hd] at cD;obtain⟨h1,h2⟩:=Bool.and_eq_true_iff.1 (cq9 hd);obtain⟨a,rfl,-,ha,hgr⟩:=m3 h1;obtain⟨b,rfl,-,hb',-⟩:=m3 h2;have Hs:=Lib.hid (cz2 hd);have Hgr:=Lib.hid hgr;clear hgr h1 h2 hd;go_enter Tryz.func123,Tryz.ntmps123;go_wp2_with fail;rw[←Hwb.out];(refine d0 (wb) (by kernel_rfl) (by kernel_rfl) hE ?_);(repeat (go_big_quiet_step (first | (go_at_call 122;exact Calls.lat (cD _)) | (go_at_call 119;exact Calls.lat (H5 _ _ _ _ _ (hg _ (b9 wb _)) (Hgr) (ha) (hb'))) | (go_at_call 215;exact Calls.lat (F2 _ _ _ (hg _ (b9 wb _)) (Hgr))))));(refine wpQuiet_nil ?_);(intro W hE');(replace hE:=l7 hE');(clear hE');go_wp2_with fail;go_ret;exact⟨l9 Hs.out.symm,hE0.trans hE⟩
theorem bo9(v:Value)(l:List Int)(a b:Int)(w:World)(h:c8 w v l) :
 Calls Tryz.prog 80 #[.agg #[v],.int .i64 a,.int .i64 b] w fun e w'=>e=.returned (.bool (Y1 l a b))∧Ext w w':=by
 obtain⟨wb,Hwb,hE0,hb,hg,hE,Hsz⟩:=j60 28 h;clear h;have kb:=fun U=>hb _ (b9 wb U);have cD:=fun U=>c07 v l a b (Lat wb U) (hg _ (b9 wb U));cases hd:drF l a b
 · have Hs:=Lib.hid (d79 hd);rw[hd] at cD;go_enter Tryz.func80,Tryz.ntmps80;go_wp2_with fail;rw[←Hwb.out];(refine d0 (wb) (by kernel_rfl) (by kernel_rfl) hE ?_);(repeat (go_big_quiet_step (first | (go_at_call 79;exact Calls.lat (cD _)))));(refine wpQuiet_nil ?_);(intro W hE');(replace hE:=l7 hE');(clear hE');go_wp2_with fail;go_ret;exact⟨l9 Hs.out.symm,hE0.trans hE⟩
 · rw[hd] at cD;obtain⟨h1,h2⟩:=Bool.and_eq_true_iff.1 (cq9 hd);obtain⟨a,rfl,-,ha,hgr⟩:=m3 h1;obtain⟨b,rfl,-,hb',-⟩:=m3 h2;have Hs:=Lib.hid (cz2 hd);have Hgr:=Lib.hid hgr;have hob:=l8 hgr;have hs1:=p0 (n:=ord l) (by omega);have hpw:=b04 (n:=ord l) hob.2;have hpw1:=R5 (ord l);have hwr:((pw (ord l):Nat):Int) - 1=((j4 l:Nat):Int):=(by unfold j4;omega);clear hgr h1 h2 hd;go_enter Tryz.func80,Tryz.ntmps80;go_wp2_with fail;rw[←Hwb.out];(refine d0 (wb) (by kernel_rfl) (by kernel_rfl) hE ?_);(repeat (go_big_quiet_step (first | (go_at_call 79;exact Calls.lat (cD _)) | (go_at_call 49;exact Calls.lat (E4 _ _ _ _ _ (hg _ (b9 wb _)) (Hgr) (ha) (hb'))) | (go_at_call 43;exact Calls.lat (m4 _ _ _ (hg _ (b9 wb _)) (Hgr))))));(refine wpQuiet_nil ?_);(intro W hE');(replace hE:=l7 hE');(clear hE');go_wp2_with fail;go_ret;exact⟨l9 Hs.out.symm,hE0.trans hE⟩
def knI(l:List Int)(a b:Int):Int:=if p8 l a b then knF l a.toNat b.toNat else -1
theorem ct8{l:List Int}{a b:Int}(h:p8 l a b=false):knI l a b = -1:=by unfold knI;rw[h];rfl
theorem bi7{l:List Int}{a b:Nat}(h:p8 l a b=true):knI l a b=knF l a b:=by unfold knI;rw[h];rfl
theorem bc2(v:Value)(l:List Int)(a b:Int)(w:World)(h:c8 w v l) :
 Calls Tryz.prog 77 #[.agg #[v],.int .i64 a,.int .i64 b] w fun e w'=>e=.returned (.int .i64 (knI l a b))∧Ext w w':=by
 cases hf:p8 l a b
 · rw[ct8 hf];exact bf0 v l a b w h hf
 · have hf':=hf;obtain⟨m,n,rfl,rfl,-⟩:=I4 hf;rw[bi7 hf'];exact bc3 v l m n w h hf'
theorem ck7(v:Value)(l:List Int)(a b:Int)(w:World)(h:c8 w v l)(hf:p8 l a b=false) :
 Calls Tryz.prog 228 #[.agg #[v],.int .i64 a,.int .i64 b] w fun e w'=>e=.returned (.tuple #[.int .i64 0,.int .i64 0,.int .i64 0,.bool false])∧Ext w w':=by
 obtain⟨wb,Hwb,hE0,hb,hg,hE,Hsz⟩:=j60 28 h;clear h;go_enter Tryz.func228,Tryz.ntmps228;go_wp2_with fail;rw[←Hwb.out];go_wp2_with (first | (go_at_call 118;refine cx (H4 _ _ _ _ _ (hg _ hE) hf) hE ?_;clear hE;intro w' hE));exact bodyPost_ret (v:=.tuple #[.int .i64 0,.int .i64 0,.int .i64 0,.bool false]) (by simp[results,Tryz.results228,go_sem]) rfl ⟨rfl,hE0.trans hE⟩
theorem ca8(v:Value)(l:List Int)(a b:Nat)(w:World)(h:c8 w v l)(hf:p8 l a b=true) :
 Calls Tryz.prog 228 #[.agg #[v],.int .i64 a,.int .i64 b] w fun e w'=>e=.returned (.tuple #[.int .i64 (kpH l a b:Nat),.int .i64 (j3 l (kpH l a b) a:Nat),.int .i64 (j3 l (kpH l a b) b:Nat),.bool true])∧Ext w w':=by
 obtain⟨wb,Hwb,hE0,hb,hg,hE,Hsz⟩:=j60 28 h;clear h;have hbx:=fun U=>hb _ (b9 wb U);obtain⟨m,n,e1,e2,h3,h4,a1,-,ha,hb',hgr,-,-⟩:=I4 hf;obtain rfl:a=m:=by omega
 obtain rfl:b=n:=by omega
 have Hgr:=Lib.hid hgr;have hst:kpH l a b<2 ^ 24:=Nat.lt_of_lt_of_le (b12 l _) (E1 hgr);have hss:d8 l ((j3 l a b:Nat):Int)=true:=O5 hgr (b55 (m0 hgr) a b);have hkp:C7 l (j3 l a b)=kpH l a b:=rfl;have Hkp:=Lib.hid hkp;clear hgr e1 e2 hkp h3 h4;go_enter Tryz.func228,Tryz.ntmps228;go_wp2_with fail;rw[←Hwb.out];go_wp2_with (first | (go_at_call 118;refine cx (H4 _ _ _ _ _ (hg _ hE) hf) hE ?_;clear hE;intro w' hE));(refine d0 (wb) (by kernel_rfl) (by kernel_rfl) hE ?_);(repeat (go_big_quiet_step (first | (go_at_call 119;exact Calls.lat (H5 _ _ _ _ _ (hg _ (b9 wb _)) (Hgr) (ha) (hb'))) | (go_at_call 109;exact Calls.lat (U5 _ _ _ _ (hg _ (b9 wb _)) hss)))));(refine wpQuiet_nil ?_);(intro W hE');(replace hE:=l7 hE');(clear hE');rw[Hkp.out];go_wp2_with fail;(refine d0 (wb) (by kernel_rfl) (by kernel_rfl) hE ?_);(repeat (go_big_quiet_step (first | (go_at_call 119;exact Calls.lat (H5 _ _ _ _ _ (hg _ (b9 wb _)) (Hgr) (hst) (ha))) | (go_at_call 119;exact Calls.lat (H5 _ _ _ _ _ (hg _ (b9 wb _)) (Hgr) (hst) (hb'))))));(refine wpQuiet_nil ?_);(intro W hE');(replace hE:=l7 hE');(clear hE');go_wp2_with fail;exact bodyPost_ret (v:=.tuple #[.int .i64 (kpH l a b:Nat),.int .i64 (j3 l (kpH l a b) a:Nat),.int .i64 (j3 l (kpH l a b) b:Nat),.bool true]) (by simp[results,Tryz.results228,go_sem]) rfl ⟨rfl,hE0.trans hE⟩
theorem c57(v:Value)(l:List Int)(a b:Int)(w:World)(h:c8 w v l) :
 Calls Tryz.prog 120 #[.agg #[v],.int .i64 a,.int .i64 b] w fun e w'=>e=.returned (.int .i64 (knI l a b))∧Ext w w':=by
 obtain⟨wb,Hwb,hE0,hb,hg,hE,Hsz⟩:=j60 28 h;clear h;cases hf:p8 l a b
 · have Hs:=Lib.hid (ct8 hf);go_enter Tryz.func120,Tryz.ntmps120;go_wp2_with fail;rw[←Hwb.out];go_wp2_with (first | (go_at_call 228;refine cx (ck7 _ _ _ _ _ (hg _ hE) hf) hE ?_;clear hE;intro w' hE));go_ret;exact⟨m8 Hs.out.symm,hE0.trans hE⟩
 · have hf':=hf;obtain⟨m,n,rfl,rfl,h3,h4,-,-,ha,hb',hgr,-,-⟩:=I4 hf;have hst:kpH l m n<2 ^ 24:=Nat.lt_of_lt_of_le (b12 l _) (E1 hgr);have hx1:=F5 hgr (kpH l m n) m;have hx2:=F5 hgr (kpH l m n) n;have Hs:Hid (knI l m n=(cnt (j3 l (kpH l m n) m):Int)+cnt (j3 l (kpH l m n) n) - cnt (kpH l m n)):=Lib.hid (by
    rw[bi7 hf'];unfold knF kpH;rw[bf1 l m,bf1 l n])
   have q1:=fun W=>E0 (j3 l (kpH l m n) m) hx1 W;have q2:=fun W=>E0 (j3 l (kpH l m n) n) hx2 W;have q3:=fun W=>E0 (kpH l m n) hst W;have r1:=p7 (j3 l (kpH l m n) m);have r2:=p7 (j3 l (kpH l m n) n);have r3:=p7 (kpH l m n);clear hgr hf;go_enter Tryz.func120,Tryz.ntmps120;go_wp2_with fail;rw[←Hwb.out];go_wp2_with (first | (go_at_call 228;refine cx (ca8 _ _ _ _ _ (hg _ hE) hf') hE ?_;clear hE;intro w' hE) | (go_at_call 107;(first | (with_reducible refine Calls.mono (q1 _) ?_) | (with_reducible refine Calls.mono (q2 _) ?_) | (with_reducible refine Calls.mono (q3 _) ?_));rintro e w' ⟨rfl,rfl⟩));go_ret;exact⟨m8 Hs.out.symm,hE0.trans hE⟩
end Go.Zz
namespace Go.Zz
open Go.RowKit Go.Proofs
set_option maxHeartbeats 400000
theorem c90(n:Int)(hn : -9≤n∧n<1000000000000)(w:World) :
 Calls Tryz.prog 45 #[.int .i64 n] w fun e w'=>e=.returned (.string (j0 n))∧Ext w w':=bk0 n ⟨by omega,hn.2⟩ w
theorem ca5(n:Int)(hn : -9≤n∧n<1000000000000)(w:World) :
 Calls Tryz.prog 98 #[.int .i64 n] w fun e w'=>e=.returned (.string (j0 n))∧Ext w w':=bo4 n ⟨by omega,hn.2⟩ w
theorem b77{n:Int}(h : -9≤n∧n<1000000000000):(j0 n).size≤13:=by
 unfold j0;split
 · decide
 · split
   · have:=bd8 (m:=n.natAbs) (by omega);rw[ByteArray.size_append];have e:(⟨#[45]⟩:ByteArray).size=1:=rfl;omega
   · have:=bd8 (m:=n.natAbs) (by omega);omega
end Go.Zz
namespace Go.Zz
open Go.RowKit Go.Proofs
set_option maxHeartbeats 1000000
set_option maxRecDepth 8000
theorem d96{n:Int}(h : -9≤n∧n<1000000000000):1≤(j0 n).size:=by
 unfold j0;split
 · decide
 · split
   · rw[ByteArray.size_append];have e:(⟨#[45]⟩:ByteArray).size=1:=rfl;omega
   · exact br5 (by omega)
theorem b81{l:List Int}(h:∀i,i<l.length → -9≤nth l i∧nth l i<1000000000000)(hl:l.length≤40):(I0 l).size≤560:=by
 unfold I0;split
 · decide
 · have:=Q1 P5 (fun i=>j0 (nth l i)) (by decide) l.length fun i hi=>b77 (h i hi);omega
theorem cv1(v:Value)(l:List Int)(w:World)(h:c8 w v l)(hr:∀i,i<l.length → -9≤nth l i∧nth l i<1000000000000)(hl:l.length≤1000) :
 Calls Tryz.prog 110 #[v] w fun e w'=>e=.returned (.string (I0 l))∧Ext w w':=by
 obtain⟨ao,c,adr,rfl,hlen,hadr,hcell⟩:=h.op;have hix:=j6 (c:=c) elI szI hadr;clear hadr h;have Hr:=Lib.hid hr;clear hr;have hO0:=b62 (Ext.refl w);have hE0:=(Ext.refl w).alloc (.cells #[] 9);by_cases h0:l.length=0
 · have He:Hid (I0 l=⟨#[110,111,110,101]⟩):=Lib.hid (by unfold I0;rw[if_pos h0]);go_enter Tryz.func110,Tryz.ntmps110;go_wp2_with fail;go_ret;exact⟨d9 He.out.symm,Ext.refl _⟩
 · have h00:((l.length:Int) == 0)=false:=(by rw[beq_eq_false_iff_ne];omega);have He:Hid (I0 l=jn P5 (m6 (l.map j0)) (l.map j0).length):=Lib.hid (by
    unfold I0;rw[if_neg h0,List.length_map];exact bb1 _ _ _ _ fun i hi=>(b50 l i hi).symm)
   go_enter Tryz.func110,Tryz.ntmps110;go_wp2_with fail;go_loopw [3,12] (fun v i wr=>∃k:Nat,k≤l.length∧i=.int .i64 k∧J0 w wr v ((l.take k).map j0)∧Ext w wr) (fun _ i _=>l.length - (intOf i).toNat);(case atStart=>exact⟨0,by omega,rfl,hO0,hE0⟩);case round =>
    obtain⟨k,hk,rfl,hO,hE⟩:=hrel;by_cases hlt:k<l.length
    · have hck:=hcell k _ hlt hE;have hrk:=Hr.out k hlt;have hcI:=ca5 (nth l k) hrk;have hlk:((l.take k).map j0).length<1000000:=(by rw[List.length_map,List.length_take];omega);go_wp2_with (first | (go_at_call 98;with_reducible refine (hcI _).mono ?_;rintro e wc ⟨rfl,hEc⟩) | (at_builtin;refine O0 rfl _ _ rfl w _ _ _ _ (hO.ext hEc) (hE.trans hEc) hlk rfl rfl ?_;intro v1 w1 hO1 hE1));go_roundw;(case rel=>exact⟨k+1,by omega,by go_num,by rw[c54 _ _ hlt];exact hO1,hE1⟩);case measure=>(simp[intOf];omega)
    · have hkl:k=l.length:=(by omega);subst hkl;rw[List.take_length] at hO;have hS:=hO.strs;have hc:=bs5 _ (l.map j0) P5 _ hS (by decide) (fun i hi=>by
       rw[List.length_map] at hi
       rw[b50 l i hi];exact b77 (Hr.out i hi))
      go_wp2_with (refine hc.mono ?_;rintro e w1 ⟨rfl,rfl⟩);go_ret;exact⟨d9 (by rw[He.out,List.length_map]),hE⟩
theorem cl5(v:Value)(m:List Int)(w:World)(h:c8 w v m)(hr:∀i,i<m.length → -9≤nth m i∧nth m i<1000000000000)(hl:m.length≤1000) :
 Calls Tryz.prog 69 #[v] w fun e w'=>e=.returned (.string (I0 m))∧Ext w w':=by
 obtain⟨aoL,cL,adrL,rfl,hlenL,hadrL,hcellL⟩:=h.op;have hixL:=j6 (c:=cL) elI szI hadrL;have Hin:=Lib.hid hr;clear hadrL h hr;go_enter Tryz.func69,Tryz.ntmps69;go_wp2_with fail;go_loopw [3,4] (fun s i wr=>∃(k:Nat) (t:ByteArray),k≤m.length∧i=.int .i64 k∧s=.string t∧Hid (t=jn P5 (fun i=>j0 (nth m i)) k)∧Ext w wr) (fun _ i _=>m.length - (intOf i).toNat);case atStart=>exact⟨0,_,by omega,rfl,rfl,Lib.hid rfl,Ext.refl _⟩
 case round =>
  obtain⟨k,t,hk,rfl,rfl,Ht,hEr⟩:=hrel;have hts:t.size≤14*k:=by rw[Ht.out];exact Q1 _ _ (by decide) k fun i hi=>b77 (Hin.out i (by omega))
  by_cases hlt:k<m.length
  · have hck:=hcellL k _ hlt hEr;have hcF:=c90 (nth m k) (Hin.out k hlt);have hsz:(j0 (nth m k)).size≤13:=b77 (Hin.out k hlt);obtain⟨u,hu⟩:∃u,u=j0 (nth m k):=⟨_,rfl⟩;rw[←hu] at hsz hcF;have He:=Lib.hid hu;clear hu;by_cases hk0:0<k
    · have hk1:(0:Int)<k:=(by omega);go_wp2_with (refine (hcF _).mono ?_;rintro e w2 ⟨rfl,hE2⟩);go_roundw;(case rel=>exact⟨k+1,_,by omega,by go_num,rfl,Lib.hid (by rw[T9 _ _ hk0,←Ht.out,He.out];rfl),hEr.trans hE2⟩);case measure=>(simp[intOf];omega)
    · have hk1:k=0:=(by omega);subst hk1;have hix0:∀W,(Instr.indexAt 26 (.slice aoL m.length cL) (.int .i64 0)).run Tryz.prog W=.ok (.pointer (some (adrL 0))) W:=fun W=>(by simpa using hixL 0 W hlt);go_wp2_with (refine (hcF _).mono ?_;rintro e w2 ⟨rfl,hE2⟩);go_roundw;(case rel=>exact⟨1,_,by omega,rfl,rfl,Lib.hid (by rw[T0,He.out,Ht.out];rfl),hEr.trans hE2⟩);case measure=>(simp[intOf];omega)
  · have hkl:k=m.length:=(by omega);subst hkl;by_cases h0:m.length=0
    · have ht0:t=⟨#[]⟩:=(by rw[Ht.out,h0];rfl);subst ht0;have Hf:Hid (I0 m=⟨#[110,111,110,101]⟩):=Lib.hid (by unfold I0;rw[if_pos h0]);clear h0 hts;go_wp2_with fail;go_ret;exact⟨d9 Hf.out.symm,hEr⟩
    · have He:Hid (I0 m=t):=Lib.hid (by unfold I0;rw[if_neg h0,Ht.out]);have h1:=Y7 P5 (fun i=>j0 (nth m i)) m.length (by omega) fun i hi=>d96 (Hin.out i hi);rw[←Ht.out] at h1;have ht1:=T2 h1;go_wp2_with fail;go_ret;exact⟨d9 He.out.symm,hEr⟩
end Go.Zz
