/- Triples in progression: the reference. Largest sets of the references. -/
import Derived.Test.YtnnbhcalddkmmaaGreatGr18
set_option linter.unusedSimpArgs false
set_option linter.unusedVariables false
set_option linter.unnecessarySimpa false
set_option maxHeartbeats 2000000
set_option maxRecDepth 8000
namespace Go.Zz
open Go.RowKit Go.Proofs
theorem bs9(v:Value)(l:List Int)(a:Int)(w:World)(h:c9 w v l) :
 Calls Tryz.prog 192 #[.agg #[v],.int .i64 a] w fun e w'=>ZN (apB l a) e∧Ext w w':=by
 obtain⟨wb,Hwb,hE0,hb,hg,hE,Hsz⟩:=ju3 28 h;clear h;have hbx:=hb wb hE;cases hs:j4 l a
 . have Hs:=zh (dy1 hs);go_in;go_wp2_with fail;rw[<-Hwb.out];go_wp2_with (first | (go_at_call 46;refine cx (l8 _ _ _ _ (hg _ hE) (hs)) hE ?_;clear hE;intro w' hE));go_ret;exact⟨by rw[Hs.out];exact ZN.mk (by decide),hE0.trans hE⟩
 . obtain⟨n,rfl,h1,h2,hgr⟩:=o4 hs;have Hs:=zh (dm9 hs);have Hgr:=zh hgr;clear hgr;go_in;go_wp2_with fail;rw[<-Hwb.out];go_wp2_with (first | (go_at_call 46;refine cx (l8 _ _ _ _ (hg _ hE) (hs)) hE ?_;clear hE;intro w' hE) | (go_at_call 165;refine (M6 n h2 _).mono ?_;rintro e w1 ⟨v1,rfl,hL,hE1⟩;obtain⟨aoL,cL,adrL,rfl,hcap,hadrL,hcellL⟩:=hL.ints.natc;have hixL:=j3 (c:=cL) elI szI hadrL));have hb1:∀W,Ext w1 W->W.cell? ⟨w.heap.size,0,none⟩=some v:=fun W hW=>hb W (hE.trans (hE1.trans hW));have hg1:∀W,Ext w1 W->c9 W v l:=fun W hW=>hg W (hE.trans (hE1.trans hW));have eW:=hE0.trans (hE.trans hE1);have hall:∀y∈j7 n,y<24:=fun y hy=>I9 hy;have hlen:=B7 n;clear hb hg hbx hE hE1 hL hs;generalize j7 n=L at hcellL hixL hall hlen Hs hcap hadrL ⊢;have HcL:=zh hcellL;clear hadrL hcellL;have hE:=er w1;go_loopw [6,7] (fun nv iv wr=>∃i z:Nat,i<=L.length∧iv=.int .i64 i∧nv=.int .i64 z∧z<=576*i∧Hid (ZT l L (fun a b c=>a<b∧b<i∧c<L.length) z)∧Ext w1 wr) (fun _ iv _=>L.length - (intOf iv).toNat);(case atStart=>exact⟨0,0,om,rfl,rfl,om,zh ⟨fun _ a b c hc=>om,fun _=>rfl⟩,hE⟩);case round =>
    clear hE;obtain⟨i,z,hi,rfl,rfl,hz,HZ,hE⟩:=hrel;by_cases hlt:i<L.length
    . have hix24:=hall _ (o6 hlt);go_wp2_with fail;go_loopw [6,8] (fun nv kv wr=>∃t z:Nat,t<=i∧kv=.int .i64 t∧nv=.int .i64 z∧z<=576*i+24*t∧Hid (ZT l L (fun a b c=>(a<b∧b<i∧c<L.length)∨(b=i∧a<t∧c<L.length)) z)∧Ext w1 wr) (fun _ kv _=>i - (intOf kv).toNat);(case atStart=>exact⟨0,z,om,rfl,rfl,om,zh (HZ.out.congr fun a b c=>om),hE⟩);case round =>
       clear hE hz HZ;obtain⟨t,z,ht,rfl,rfl,hz,HZ,hE⟩:=hrel;by_cases hlt2:t<i
       . have hkt:t<L.length:=(by omega);have hy24:=hall _ (o6 hkt);go_wp2_with fail;go_loopw [6,9] (fun nv jv wr=>∃j z:Nat,j<=L.length∧jv=.int .i64 j∧nv=.int .i64 z∧z<=576*i+24*t+j∧Hid (ZT l L (fun a b c=>(a<b∧b<i∧c<L.length)∨(b=i∧a<t∧c<L.length)∨(b=i∧a=t∧c<j)) z)∧Ext w1 wr) (fun _ jv _=>L.length - (intOf jv).toNat);(case atStart=>exact⟨0,z,om,rfl,rfl,om,zh (HZ.out.congr fun a b c=>om),hE⟩);case round =>
          clear hE hz HZ;obtain⟨j,z,hj,rfl,rfl,hz,HZ,hE⟩:=hrel;by_cases hlt3:j<L.length
          . have hz24:=hall _ (o6 hlt3);rename World=>wj;have hcj:=fun U=>HcL.out j _ hlt3 (hE.trans (d5 wj U));have hci:=fun U=>HcL.out i _ hlt (hE.trans (d5 wj U));have hck:=fun U=>HcL.out t _ hkt (hE.trans (d5 wj U));have hbj:=fun U=>hb1 _ (hE.trans (d5 wj U));obtain⟨X,hX⟩:=nq (d8 L i);obtain⟨Y,hY⟩:=nq (d8 L t);obtain⟨Z,hZ⟩:=nq (d8 L j);have hx24:X<24:=(by rw[hX];exact hix24);have hyy24:Y<24:=(by rw[hY];exact hy24);have hzz24:Z<24:=(by rw[hZ];exact hz24);rw[<-hX] at hci;rw[<-hY] at hck;rw[<-hZ] at hcj;have cA:=fun U=>G5 v l X Y (Lat wj U) (hg1 _ (hE.trans (d5 wj U))) Hgr om om;have cB:=fun U=>G5 v l Z Z (Lat wj U) (hg1 _ (hE.trans (d5 wj U))) Hgr om om;have Hap:Hid (apT l L t i j=(((m6 l Z Z:Nat):Int) == ((m6 l X Y:Nat):Int))):=zh (by
             unfold apT;rw[<-hX,<-hY,<-hZ,D4 l Y X,Bool.eq_iff_iff,beq_iff_eq,beq_iff_eq];exact eq_comm)
            have hEj:=hE;clear hE hX hY hZ;have hE:=er wj;cases hq:(((m6 l Z Z:Nat):Int) == ((m6 l X Y:Nat):Int))
            . have Hap2:Hid (apT l L t i j=false):=zh (by rw[Hap.out];exact hq);go_wp2_with fail;(refine wl hE ?_);(repeat (go_big_quiet_step (first | (go_at_call 190;first | with_reducible exact Calls.lat (cA _) | with_reducible exact Calls.lat (cB _)))));(refine zd ?_);(clear hE);(intro W hE);go_wp2_with fail;go_roundw;(case rel=>exact⟨j+1,z,om,zg,rfl,om,zh (HZ.out.miss Hap2.out fun a b c=>om),hEj.trans hE⟩);case measure=>exact zm1
            . have Hap2:Hid (apT l L t i j=true):=zh (by rw[Hap.out];exact hq);go_wp2_with fail;(refine wl hE ?_);(repeat (go_big_quiet_step (first | (go_at_call 190;first | with_reducible exact Calls.lat (cA _) | with_reducible exact Calls.lat (cB _)))));(refine zd ?_);(clear hE);(intro W hE);go_wp2_with fail;go_roundw;(case rel=>exact⟨j+1,z+1,om,zg,zg,om,zh (ZT.hit (C:=fun _ _ _=>True) Hap2.out om),hEj.trans hE⟩);case measure=>exact zm1
          . have Hn:Hid (ZT l L (fun a b c=>(a<b∧b<i∧c<L.length)∨(b=i∧a<t+1∧c<L.length)) z):=zh (HZ.out.congr fun a b c=>om);have hz2:z<=576*i+24*(t+1):=om;go_wp2_with fail;go_roundw;(case rel=>exact⟨t+1,z,om,zg,rfl,hz2,Hn,hE⟩);case measure=>exact zm1
       . have Hn:Hid (ZT l L (fun a b c=>a<b∧b<i+1∧c<L.length) z):=zh (HZ.out.congr fun a b c=>om);exact zz157
    . exact zz101
noncomputable def apP (l:List Int) (b:Nat):Bool:=apB l b
theorem ji6(v:Value)(l:List Int)(b bG:Nat)(w:World)(hG:∀W,Ext w W->W.cell? ⟨bG,0,none⟩=some v)(h:c9 w v l) :
 Calls Tryz.prog 252 #[.int .i64 b,.pointer (some ⟨bG,0,none⟩)] w fun e w'=>e=.returned (.bool (apP l b))∧Ext w w':=by
 have kG:=hG _ (er w);have hc:=bz9 v l (b:Int) w h;exact zz88
theorem c99(v:Value)(l:List Int)(w:World)(h:c9 w v l) :
 Calls Tryz.prog 144 #[.agg #[v]] w fun e w'=>e=.returned (.tuple #[.int .i64 (lgV (apP l) l 11:Nat),.bool (lgB l 11)])∧Ext w w':=by
 obtain⟨wb,Hwb,hE0,hb,hg,hE,Hsz⟩:=ju3 28 h;clear h;have hbx:=hb wb hE;have hmf:∀(fn:Fn) (first cap:Array Value) (w:World),(Instr.makeFunc fn first cap).run Tryz.prog w=.ok (.func fn first cap) w:=fun _ _ _ _=>rfl;have cG:=A1 v l wb (hg _ hE);cases hgr:j1 l
 . have hB:lgB l 11=false:=(by unfold lgB;rw[hgr];rfl);have Hs:=zh (And.intro hB (b60 (P:=apP l) hB));rw[hgr] at cG;clear hB;go_in;go_wp2_with fail;rw[<-Hwb.out];refine cG.mono ?_;rintro e w1 ⟨rfl,hE1⟩;go_wp2_with fail;exact bodyPost_ret (v:=.tuple #[.int .i64 0,.bool false]) (by simp[results,Tryz.results144,go_sem]) rfl ⟨by rw[Hs.out.1,Hs.out.2];rfl,hE0.trans hE1⟩
 rw[hgr] at cG;have Hgr:=zh hgr;have hob:=m8 hgr;have cO:=fun W (hW:Ext wb W)=>p7 v l W (hg _ hW) Hgr;by_cases hm:ord l<=11;rotate_left
 . have hB:lgB l 11=false:=(by unfold lgB;rw[hgr];simpa using hm);have Hs:=zh (And.intro hB (b60 (P:=apP l) hB));clear hB;go_in;go_wp2_with fail;rw[<-Hwb.out];refine cG.mono ?_;rintro e w1 ⟨rfl,hE1⟩;have hb1:=hb w1 hE1;go_wp2_with (refine (cO _ hE1).mono ?_;rintro e w2 ⟨rfl,hE2⟩);exact bodyPost_ret (v:=.tuple #[.int .i64 0,.bool false]) (by simp[results,Tryz.results144,go_sem]) rfl ⟨by rw[Hs.out.1,Hs.out.2];rfl,hE0.trans (hE1.trans hE2)⟩
 have hB:lgB l 11=true:=by unfold lgB;rw[hgr];simpa using hm
 have Hs:=zh (And.intro hB (br7 (P:=apP l) hB));have cF:=fun W (hW:Ext wb W)=>c20 (d92 Tryz.func252 (by kernel_rfl) rfl) v l (apP l) Hgr W (hg W hW) (.pointer (some ⟨w.heap.size,0,none⟩)) (.pointer none) (fun W' b hW' hb'=>ji6 v l b w.heap.size W' (fun X hX=>hb X (hW.trans (hW'.trans hX))) (hg W' (hW.trans hW')));obtain⟨R,hR⟩:=nq (fsS (apP l) (ord l) (ord l+1) 0 0);rw[<-hR] at cF Hs;clear hB hgr hR;go_in;go_wp2_with fail;rw[<-Hwb.out];refine cG.mono ?_;rintro e w1 ⟨rfl,hE1⟩;have hb1:=hb w1 hE1;go_wp2_with (go_at_call 99;refine (cO _ hE1).mono ?_;rintro e w2 ⟨rfl,hE2⟩;have hE12:=hE1.trans hE2;have hb2:=hb w2 hE12);refine (cF _ hE12).mono ?_;rintro e w3 ⟨c,rfl,hE3⟩;go_wp2_with fail;exact bodyPost_ret (v:=.tuple #[.int .i64 R,.bool true]) (by simp[results,Tryz.results144,go_sem]) rfl ⟨by rw[Hs.out.1,Hs.out.2],hE0.trans (hE12.trans hE3)⟩
theorem j08{l:List Int}(hg:j1 l=true):M3 l 1=false:=by
 unfold M3;have:¬(l7 l 1 1 &&& 1=0):=fun e=>by
  have h0:(l7 l 1 1).testBit 0=true :=
   C7.2 ⟨0,0,om,by decide,om,by decide,A7 l (m9 hg) 0 (by have:=(m8 hg).1;omega)⟩
  rw[Nat.testBit_zero,decide_eq_true_iff] at h0
  have:=Nat.and_one_is_mod (l7 l 1 1)
  omega
 rw[decide_eq_false this];simp
theorem bz4(v:Value)(l:List Int)(w:World)(h:c9 w v l) :
 Calls Tryz.prog 62 #[.agg #[v]] w fun e w'=>e=.returned (.tuple #[.int .i64 (lgV (M3 l) l 16:Nat),.bool (lgB l 16)])∧Ext w w':=by
 obtain⟨wb,Hwb,hE0,hb,hg,hE,Hsz⟩:=ju3 28 h;clear h;have hbx:=hb wb hE;have cG:=A3 v l wb (hg _ hE);cases hgr:j1 l
 . have hB:lgB l 16=false:=(by unfold lgB;rw[hgr];rfl);have Hs:=zh (And.intro hB (b60 (P:=M3 l) hB));rw[hgr] at cG;clear hB;go_in;go_wp2_with fail;rw[<-Hwb.out];refine cG.mono ?_;rintro e w1 ⟨rfl,hE1⟩;go_wp2_with fail;exact bodyPost_ret (v:=.tuple #[.int .i64 0,.bool false]) (by simp[results,Tryz.results62,go_sem]) rfl ⟨by rw[Hs.out.1,Hs.out.2];rfl,hE0.trans hE1⟩
 rw[hgr] at cG;have Hgr:=zh hgr;have hob:=m8 hgr;have cO:=fun W (hW:Ext wb W)=>o5 v l W (hg _ hW) Hgr;by_cases hm:ord l<=16;rotate_left
 . have hB:lgB l 16=false:=(by unfold lgB;rw[hgr];simpa using hm);have Hs:=zh (And.intro hB (b60 (P:=M3 l) hB));clear hB;go_in;go_wp2_with fail;rw[<-Hwb.out];refine cG.mono ?_;rintro e w1 ⟨rfl,hE1⟩;have hb1:=hb w1 hE1;go_wp2_with (refine (cO _ hE1).mono ?_;rintro e w2 ⟨rfl,hE2⟩);exact bodyPost_ret (v:=.tuple #[.int .i64 0,.bool false]) (by simp[results,Tryz.results62,go_sem]) rfl ⟨by rw[Hs.out.1,Hs.out.2];rfl,hE0.trans (hE1.trans hE2)⟩
 have hB:lgB l 16=true:=by unfold lgB;rw[hgr];simpa using hm
 have Hs:=zh (And.intro hB (br7 (P:=M3 l) hB));have cF:=fun W (hW:Ext wb W)=>(show Calls Tryz.prog 181 #[.agg #[v],.int .i64 0,.int .i64 1] W fun e w'=>e=.returned (.int .i64 (fsS (M3 l) (ord l) (ord l+1) 0 0:Nat))∧Ext W w' from by have q:=dl3 v l (M3 l) Hgr (zh fun W b hb' hbo=>by have q2:=cc1 v l b W hb' Hgr (nlt hbo (C4 Hgr.out));unfold M3;rw[bm8 Hgr.out hbo,Bool.true_and];exact q2) (ord l+1) 0 1 W (hg W hW) om om (by decide);rw[<-j09 (j08 Hgr.out)] at q;exact q);obtain⟨R,hR⟩:=nq (fsS (M3 l) (ord l) (ord l+1) 0 0);rw[<-hR] at cF Hs;clear hB hgr hR;go_in;go_wp2_with fail;rw[<-Hwb.out];refine cG.mono ?_;rintro e w1 ⟨rfl,hE1⟩;have hb1:=hb w1 hE1;go_wp2_with (go_at_call 43;refine (cO _ hE1).mono ?_;rintro e w2 ⟨rfl,hE2⟩;have hE12:=hE1.trans hE2;have hb2:=hb w2 hE12);refine (cF _ hE12).mono ?_;rintro e w3 ⟨rfl,hE3⟩;go_wp2_with fail;exact bodyPost_ret (v:=.tuple #[.int .i64 R,.bool true]) (by simp[results,Tryz.results62,go_sem]) rfl ⟨by rw[Hs.out.1,Hs.out.2],hE0.trans (hE12.trans hE3)⟩
theorem ca4(v:Value)(l:List Int)(w:World)(h:c9 w v l) :
 Calls Tryz.prog 63 #[.agg #[v]] w fun e w'=>e=.returned (.tuple #[.int .i64 (lgV (sidP l) l 13:Nat),.bool (lgB l 13)])∧Ext w w':=by
 obtain⟨wb,Hwb,hE0,hb,hg,hE,Hsz⟩:=ju3 28 h;clear h;have hbx:=hb wb hE;have cG:=A3 v l wb (hg _ hE);cases hgr:j1 l
 . have hB:lgB l 13=false:=(by unfold lgB;rw[hgr];rfl);have Hs:=zh (And.intro hB (b60 (P:=sidP l) hB));rw[hgr] at cG;clear hB;go_in;go_wp2_with fail;rw[<-Hwb.out];refine cG.mono ?_;rintro e w1 ⟨rfl,hE1⟩;go_wp2_with fail;exact bodyPost_ret (v:=.tuple #[.int .i64 0,.bool false]) (by simp[results,Tryz.results63,go_sem]) rfl ⟨by rw[Hs.out.1,Hs.out.2];rfl,hE0.trans hE1⟩
 rw[hgr] at cG;have Hgr:=zh hgr;have hob:=m8 hgr;have cO:=fun W (hW:Ext wb W)=>o5 v l W (hg _ hW) Hgr;by_cases hm:ord l<=13;rotate_left
 . have hB:lgB l 13=false:=(by unfold lgB;rw[hgr];simpa using hm);have Hs:=zh (And.intro hB (b60 (P:=sidP l) hB));clear hB;go_in;go_wp2_with fail;rw[<-Hwb.out];refine cG.mono ?_;rintro e w1 ⟨rfl,hE1⟩;have hb1:=hb w1 hE1;go_wp2_with (refine (cO _ hE1).mono ?_;rintro e w2 ⟨rfl,hE2⟩);exact bodyPost_ret (v:=.tuple #[.int .i64 0,.bool false]) (by simp[results,Tryz.results63,go_sem]) rfl ⟨by rw[Hs.out.1,Hs.out.2];rfl,hE0.trans (hE1.trans hE2)⟩
 have hB:lgB l 13=true:=by unfold lgB;rw[hgr];simpa using hm
 have Hs:=zh (And.intro hB (br7 (P:=sidP l) hB));have cF:=fun W (hW:Ext wb W)=>(show Calls Tryz.prog 182 #[.agg #[v],.int .i64 0,.int .i64 0] W fun e w'=>e=.returned (.int .i64 (fsS (sidP l) (ord l) (ord l+1) 0 0:Nat))∧Ext W w' from by have q:=dw9 v l (sidP l) Hgr (zh fun W b hb' hbo=>by have q2:=c32 v l b W hb' Hgr (nlt hbo (C4 Hgr.out));unfold sidP;rw[ci8 (bm8 Hgr.out hbo)];exact q2) (ord l+1) 0 0 W (hg W hW) om om (by decide);exact q);obtain⟨R,hR⟩:=nq (fsS (sidP l) (ord l) (ord l+1) 0 0);rw[<-hR] at cF Hs;clear hB hgr hR;go_in;go_wp2_with fail;rw[<-Hwb.out];refine cG.mono ?_;rintro e w1 ⟨rfl,hE1⟩;have hb1:=hb w1 hE1;go_wp2_with (go_at_call 43;refine (cO _ hE1).mono ?_;rintro e w2 ⟨rfl,hE2⟩;have hE12:=hE1.trans hE2;have hb2:=hb w2 hE12);refine (cF _ hE12).mono ?_;rintro e w3 ⟨rfl,hE3⟩;go_wp2_with fail;exact bodyPost_ret (v:=.tuple #[.int .i64 R,.bool true]) (by simp[results,Tryz.results63,go_sem]) rfl ⟨by rw[Hs.out.1,Hs.out.2],hE0.trans (hE12.trans hE3)⟩
theorem c54(v:Value)(l:List Int)(w:World)(h:c9 w v l) :
 Calls Tryz.prog 64 #[.agg #[v]] w fun e w'=>e=.returned (.tuple #[.int .i64 (lgV (apP l) l 11:Nat),.bool (lgB l 11)])∧Ext w w':=by
 obtain⟨wb,Hwb,hE0,hb,hg,hE,Hsz⟩:=ju3 28 h;clear h;have hbx:=hb wb hE;have cG:=A3 v l wb (hg _ hE);cases hgr:j1 l
 . have hB:lgB l 11=false:=(by unfold lgB;rw[hgr];rfl);have Hs:=zh (And.intro hB (b60 (P:=apP l) hB));rw[hgr] at cG;clear hB;go_in;go_wp2_with fail;rw[<-Hwb.out];refine cG.mono ?_;rintro e w1 ⟨rfl,hE1⟩;go_wp2_with fail;exact bodyPost_ret (v:=.tuple #[.int .i64 0,.bool false]) (by simp[results,Tryz.results64,go_sem]) rfl ⟨by rw[Hs.out.1,Hs.out.2];rfl,hE0.trans hE1⟩
 rw[hgr] at cG;have Hgr:=zh hgr;have hob:=m8 hgr;have cO:=fun W (hW:Ext wb W)=>o5 v l W (hg _ hW) Hgr;by_cases hm:ord l<=11;rotate_left
 . have hB:lgB l 11=false:=(by unfold lgB;rw[hgr];simpa using hm);have Hs:=zh (And.intro hB (b60 (P:=apP l) hB));clear hB;go_in;go_wp2_with fail;rw[<-Hwb.out];refine cG.mono ?_;rintro e w1 ⟨rfl,hE1⟩;have hb1:=hb w1 hE1;go_wp2_with (refine (cO _ hE1).mono ?_;rintro e w2 ⟨rfl,hE2⟩);exact bodyPost_ret (v:=.tuple #[.int .i64 0,.bool false]) (by simp[results,Tryz.results64,go_sem]) rfl ⟨by rw[Hs.out.1,Hs.out.2];rfl,hE0.trans (hE1.trans hE2)⟩
 have hB:lgB l 11=true:=by unfold lgB;rw[hgr];simpa using hm
 have Hs:=zh (And.intro hB (br7 (P:=apP l) hB));have cF:=fun W (hW:Ext wb W)=>(show Calls Tryz.prog 183 #[.agg #[v],.int .i64 0,.int .i64 0] W fun e w'=>e=.returned (.int .i64 (fsS (apP l) (ord l) (ord l+1) 0 0:Nat))∧Ext W w' from by have q:=j52 v l (apP l) Hgr (zh fun W b hb' hbo=>(bs9 v l b W hb').mono fun e w' ⟨⟨n,q1,_,q2⟩,q3⟩=>⟨n,q1,q2,q3⟩) (ord l+1) 0 0 W (hg W hW) om om (by decide);exact q);obtain⟨R,hR⟩:=nq (fsS (apP l) (ord l) (ord l+1) 0 0);rw[<-hR] at cF Hs;clear hB hgr hR;go_in;go_wp2_with fail;rw[<-Hwb.out];refine cG.mono ?_;rintro e w1 ⟨rfl,hE1⟩;have hb1:=hb w1 hE1;go_wp2_with (go_at_call 43;refine (cO _ hE1).mono ?_;rintro e w2 ⟨rfl,hE2⟩;have hE12:=hE1.trans hE2;have hb2:=hb w2 hE12);refine (cF _ hE12).mono ?_;rintro e w3 ⟨rfl,hE3⟩;go_wp2_with fail;exact bodyPost_ret (v:=.tuple #[.int .i64 R,.bool true]) (by simp[results,Tryz.results64,go_sem]) rfl ⟨by rw[Hs.out.1,Hs.out.2],hE0.trans (hE12.trans hE3)⟩
theorem jd3(w:World)(s:ByteArray):Y8 w (w.alloc (.cells #[.string s] 9)) (.slice (some ⟨w.heap.size,0,none⟩) 1 1) [s]:=by
 have:=World.ownsRow_lit (base:=w.heap.size) (e:=9) (size:=1) w #[.string s] 1 (Nat.le_refl _) (by unfold maxLen;omega) zm;exact⟨by simpa using this,zm⟩
section
variable {ops:Array Oper} {rest:List Oper} {o:Oper} {a:Act} {Q:Exit->Act->World->Prop}
theorem dm5(hg:o.guard=none)(s x:Operand)(hop:o.op=Op.call { callee:=Callee.builtin Builtin.append,args:=#[s,x],argTypes:=#[24,24] })
 (w0 W:World) (v u:Value) (l m:List ByteArray) (hO:Y8 w0 W v l) (hM:bh8 W u m) (hE:Ext w0 W) (hm0:0<m.length) (hn:l.length+m.length<1000000) (hs:a.eval s=v) (hx:a.eval x=u)
 (hK:∀v' w',Y8 w0 w' v' (l++m)->Ext w0 w'->wpList Tryz.prog ops Q rest (a.put o.dst v') w') :
 wpList Tryz.prog ops Q (o :: rest) a W:=by
 obtain⟨i,hi,hz,hs1,hby⟩:=info_parts jh3;obtain⟨ao,c,rfl,hlen,hcell⟩:=hM;obtain⟨g,rfl,-⟩:=hcell 0 hm0;refine wpList_append_own _ hg s x 24 hop w0.heap.size 9 i (.string ⟨#[]⟩) 1 16 jt2 hi hz hs1 hby rfl om v l.length _ hs hO.1 ⟨g,0,none⟩ m.length c (m.map Value.string) hx zm ?_ ?_ (by unfold maxLen;omega) om hE.size ?_
 . intro j u hu;have hj:j<m.length:=(by have:=(List.getElem?_eq_some_iff.1 hu).1;simpa using this);obtain⟨g',hg',hc⟩:=hcell j hj;simp only[Option.some.injEq,Addr.mk.injEq,and_true] at hg';subst hg';rw[Addr.add_lit,Nat.zero_add,hc,<-hu];simp[C0,List.getD,hj]
 . intro u hu;obtain⟨y,_,rfl⟩:=List.mem_map.1 hu;rfl
 . intro v' w' h1 hg' _;exact hK v' w' ⟨by simpa using h1,by simp;omega⟩ (hE.grown hg' fun k hk=>(hO.blk k hk).1)
end
theorem jb1(s:ByteArray)(b:Bool)(v:Value)(m:List ByteArray)(w:World)(h:bh8 w v m)(hs:s.size<=5000)(hm:∀i,i<m.length->(C0 m i).size<=5000)(h0:0<m.length)(hn:m.length<=50) :
 Calls Tryz.prog 102 #[.string s,.bool b,v] w fun e w'=>e=.returned (.string (if b then C9 (s :: m) else s))∧Ext w w':=by
 cases b
 . go_in;go_wp2_with fail;go_ret;exact⟨rfl,er _⟩
 . have hE:=(er w).alloc (.cells #[.string s] 9);have hM:=h.ext hE;have hO:=jd3 w s;have hcL:=fun v' W (hv:bh8 W v' (s :: m))=>cg1 v' (s :: m) W hv (fun i hi=>by
    cases i with
    | zero=>exact hs
    | succ i=>exact hm i (by simpa using hi)) (by simp;omega)
   have hln:[s].length+m.length<1000000:=(by simp;omega);obtain⟨ao,c,rfl,-,-⟩:=h;clear hm hs;go_in;go_wp2_with (first | (at_builtin;refine dm5 rfl _ _ rfl w _ _ _ _ _ hO hM hE h0 hln rfl rfl ?_;intro v1 w1 hO1 hE1) | (go_at_call 96;refine (hcL _ _ hO1.strs).mono ?_;rintro e w2 ⟨rfl,rfl⟩));go_ret;exact⟨rfl,hE1⟩
theorem bh6(b:Bool)(s:ByteArray)(w:World) :
 Calls Tryz.prog 59 #[.bool b,.string s] w fun e w'=>e=.returned (.string (if b then s else ⟨#[]⟩))∧w=w':=by
 cases b
 . go_in;exact zz142
 . go_in;exact zz142
theorem Y0{x y:ByteArray}(h:x.data.toList=y.data.toList):x=y:=by
 cases x;cases y;simp only at h;congr 1;exact Array.toList_inj.1 h
noncomputable def elF (l:List Int):ByteArray:=if lzB l then (((((((⟨#[101,120,116,114,101,109,97,108,32,102,114,101,101,32]⟩:ByteArray)++fqF l (b9 (lzL l)))++(⟨#[32,115,117,109,102,114,101,101,32]⟩:ByteArray))++fsF l (lgV (M3 l) l 16:Nat))++(⟨#[32,115,105,100,111,110,32]⟩:ByteArray))++fsF l (lgV (sidP l) l 13:Nat))++(⟨#[32,97,112,102,114,101,101,32]⟩:ByteArray))++fsF l (lgV (apP l) l 11:Nat) else ⟨#[]⟩
theorem cl2{l:List Int}(h:lzB l=false):elF l=⟨#[]⟩:=by unfold elF;rw[h];rfl
theorem do9{l:List Int}(h:lzB l=true):elF l=(((((((⟨#[101,120,116,114,101,109,97,108,32,102,114,101,101,32]⟩:ByteArray)++fqF l (b9 (lzL l)))++(⟨#[32,115,117,109,102,114,101,101,32]⟩:ByteArray))++fsF l (lgV (M3 l) l 16:Nat))++(⟨#[32,115,105,100,111,110,32]⟩:ByteArray))++fsF l (lgV (sidP l) l 13:Nat))++(⟨#[32,97,112,102,114,101,101,32]⟩:ByteArray))++fsF l (lgV (apP l) l 11:Nat):=by unfold elF;rw[h];rfl
theorem jm3{l:List Int}(h:∀i,i<l.length -> -1<=nth l i∧nth l i<1000000000000)(hl:l.length<=40):(F7 l).size<=560:=by
 unfold F7;split
 . decide
 . have:=b81 b44 (fun i=>o3 (nth l i)) (by decide) l.length fun i hi=>o9 (h i hi);omega
theorem br2(l:List Int)(a:Int):(fsF l a).size<=600:=by
 cases h:j4 l a
 . rw[br1 h];decide
 . obtain⟨n,rfl,-,hn,-⟩:=o4 h;rw[br0 h];have:=jm3 (l:=b9 (j7 n)) (b66 n) (by rw[j2];have:=B7 n;omega);omega
theorem ja4(l xs:List Int):(fqF l xs).size<=60012:=by
 cases hs:D2 l xs
 . rw[c22 hs];decide
 . obtain⟨X,rfl,-,hX12,-,hX⟩:=N6 hs;by_cases h0:X.length=0
   . rw[bi7 hs (by rw[j2];exact h0)];decide
   . rw[bq9 hs h0];have hfl:=bb3 X X.length;have:=cf8 sp1 (C0 (fqL X X.length)) (by decide) (fqL X X.length).length (fun i hi=>by have:=bb4 (X:=X) om hX X.length (Nat.le_refl _) _ (bc1 hi);omega);omega
theorem zz65{P:Prop}(h:P:=by have hB:lzB l=false:=(by unfold lzB;rw[hgr];simpa using hm);have Hs:=zh (cl2 hB);clear hB;go_in;go_wp2_with fail;rw[<-Hwb.out];refine cG.mono ?_;rintro e w1 ⟨rfl,hE1⟩;have hb1:=hb w1 hE1;go_wp2_with (refine (cO _ hE1).mono ?_;rintro e w2 ⟨rfl,hE2⟩);go_ret;exact⟨j9 Hs.out.symm,hE0.trans (hE1.trans hE2)⟩):P:=h
theorem ca2(v:Value)(l:List Int)(w:World)(h:c9 w v l) :
 Calls Tryz.prog 17 #[.agg #[v]] w fun e w'=>e=.returned (.string (elF l))∧Ext w w':=by
 obtain⟨wb,Hwb,hE0,hb,hg,hE,Hsz⟩:=ju3 28 h;clear h;have hbx:=hb wb hE;have cG:=A3 v l wb (hg _ hE);cases hgr:j1 l
 . have hB:lzB l=false:=(by unfold lzB;rw[hgr];rfl);have Hs:=zh (cl2 hB);rw[hgr] at cG;clear hB;go_in;go_wp2_with fail;rw[<-Hwb.out];refine cG.mono ?_;exact zz44
 rw[hgr] at cG;have Hgr:=zh hgr;have hob:=m8 hgr;have cO:=fun W (hW:Ext wb W)=>o5 v l W (hg _ hW) Hgr;by_cases hm:ord l<=9;rotate_left
 . exact zz65
 have hB:lzB l=true:=by unfold lzB;rw[hgr];simpa using hm
 have Hs:=zh (do9 hB);have c1:=fun W (hW:Ext wb W)=>bx8 v l W (hg _ hW);have c2:=fun W (hW:Ext wb W)=>bz4 v l W (hg _ hW);have c3:=fun W (hW:Ext wb W)=>ca4 v l W (hg _ hW);have c4:=fun W (hW:Ext wb W)=>c54 v l W (hg _ hW);have cA:=fun W vZ (hW:Ext wb W) (hI:c9 W vZ (b9 (lzL l)))=>ba9 v vZ l (b9 (lzL l)) W (hg _ hW) hI;have cB:=fun W (hW:Ext wb W)=>M8 v l (lgV (M3 l) l 16:Nat) W (hg _ hW);have cC:=fun W (hW:Ext wb W)=>M8 v l (lgV (sidP l) l 13:Nat) W (hg _ hW);have cD:=fun W (hW:Ext wb W)=>M8 v l (lgV (apP l) l 11:Nat) W (hg _ hW);have sA:=ja4 l (b9 (lzL l));have sB:=br2 l (lgV (M3 l) l 16:Nat);have sC:=br2 l (lgV (sidP l) l 13:Nat);have sD:=br2 l (lgV (apP l) l 11:Nat);obtain⟨A,hA⟩:=nq (fqF l (b9 (lzL l)));obtain⟨B,hBd⟩:∃x,x=fsF l (lgV (M3 l) l 16:Nat):=⟨_,rfl⟩;obtain⟨C,hC⟩:∃x,x=fsF l (lgV (sidP l) l 13:Nat):=⟨_,rfl⟩;obtain⟨D,hD⟩:∃x,x=fsF l (lgV (apP l) l 11:Nat):=⟨_,rfl⟩;rw[<-hA] at cA sA Hs;rw[<-hBd] at cB sB Hs;rw[<-hC] at cC sC Hs;rw[<-hD] at cD sD Hs;obtain⟨n2,h2⟩:=nq (lgV (M3 l) l 16);obtain⟨n3,h3⟩:=nq (lgV (sidP l) l 13);obtain⟨n4,h4⟩:=nq (lgV (apP l) l 11);rw[<-h2] at c2 cB;rw[<-h3] at c3 cC;rw[<-h4] at c4 cD;clear hA hBd hC hD h2 h3 h4 hB hgr;go_in;go_wp2_with fail;rw[<-Hwb.out];refine cG.mono ?_;rintro e w1 ⟨rfl,hE1⟩;have hb1:=hb w1 hE1;go_wp2_with (go_at_call 43;refine (cO _ hE1).mono ?_;rintro e w2 ⟨rfl,hE2⟩;have hE12:=hE1.trans hE2;have hb2:=hb w2 hE12);refine (c1 _ hE12).mono ?_;rintro e w3 ⟨aoZ,cZ,rfl,hIZ,hE3⟩;have hE13:=hE12.trans hE3;have hb3:=hb w3 hE13;go_wp2_with fail;refine (c2 _ hE13).mono ?_;rintro e w4 ⟨rfl,hE4⟩;have hE14:=hE13.trans hE4;have hb4:=hb w4 hE14;go_wp2_with fail;refine (c3 _ hE14).mono ?_;rintro e w5 ⟨rfl,hE5⟩;have hE15:=hE14.trans hE5;have hb5:=hb w5 hE15;go_wp2_with fail;refine (c4 _ hE15).mono ?_;rintro e w6 ⟨rfl,hE6⟩;have hE16:=hE15.trans hE6;have hIZ6:=hIZ.ext (hE4.trans (hE5.trans hE6));have hb6:=fun U=>hb _ (hE16.trans (d5 w6 U));have hE:=er w6;go_wp2_with fail;(refine wl hE ?_);(repeat (go_big_quiet_step (first | (go_at_call 65;with_reducible exact Calls.lat (cA _ _ (hE16.trans (d5 w6 _)) (hIZ6.ext (d5 w6 _)))) | (go_at_call 11;first | with_reducible exact Calls.lat (cB _ (hE16.trans (d5 w6 _))) | with_reducible exact Calls.lat (cC _ (hE16.trans (d5 w6 _))) | with_reducible exact Calls.lat (cD _ (hE16.trans (d5 w6 _)))))));(refine zd ?_);(clear hE);(intro W hE);go_wp2_with fail;go_ret;exact⟨j9 Hs.out.symm,hE0.trans (hE16.trans hE)⟩
theorem jh4(s:ByteArray)(f:Nat->ByteArray)(hs:s.size<=1):∀k,(∀i,i<k->(f i).size<=27)->(jn s f k).size<=28*k
 | 0,_=>Nat.le_refl _
 | 1,h=>by
  have:=h 0 om
  rw[b69,ByteArray.size_append]
  have e:(⟨#[]⟩:ByteArray).size=0:=rfl
  omega
 | k+2,h=>by
  have ih:=jh4 s f hs (k+1) fun i hi=>h i om
  have:=h (k+1) om
  rw[b80 s f om,ByteArray.size_append,ByteArray.size_append];omega
theorem jq0(l xs:List Int):(fqF l xs).size<=400:=by
 cases hs:D2 l xs
 . rw[c22 hs];decide
 . obtain⟨X,rfl,-,hX12,-,hX⟩:=N6 hs;by_cases h0:X.length=0
   . rw[bi7 hs (by rw[j2];exact h0)];decide
   . rw[bq9 hs h0];have hfl:=bb3 X X.length;have:=jh4 sp1 (C0 (fqL X X.length)) (by decide) (fqL X X.length).length (fun i hi=>bb4 (X:=X) om hX X.length (Nat.le_refl _) _ (bc1 hi));omega
theorem zz189{P:Prop}(h:P:=by apply Y0;simp[C9,jn,C0,spB,List.getD]):P:=h
theorem jk2(A B C D:ByteArray):C9 [(⟨#[101,120,116,114,101,109,97,108,32,102,114,101,101]⟩:ByteArray),A,(⟨#[115,117,109,102,114,101,101]⟩:ByteArray),B,(⟨#[115,105,100,111,110]⟩:ByteArray),C,(⟨#[97,112,102,114,101,101]⟩:ByteArray),D]=(((((((⟨#[101,120,116,114,101,109,97,108,32,102,114,101,101,32]⟩:ByteArray)++A)++(⟨#[32,115,117,109,102,114,101,101,32]⟩:ByteArray))++B)++(⟨#[32,115,105,100,111,110,32]⟩:ByteArray))++C)++(⟨#[32,97,112,102,114,101,101,32]⟩:ByteArray))++D:=by
 exact zz189
theorem cd6(v:Value)(l:List Int)(w:World)(h:c9 w v l) :
 Calls Tryz.prog 33 #[.agg #[v]] w fun e w'=>e=.returned (.string (elF l))∧Ext w w':=by
 obtain⟨wb,Hwb,hE0,hb,hg,hE,Hsz⟩:=ju3 28 h;clear h;have hbx:=hb wb hE;have cG:=A1 v l wb (hg _ hE);cases hgr:j1 l
 . have hB:lzB l=false:=(by unfold lzB;rw[hgr];rfl);have Hs:=zh (cl2 hB);rw[hgr] at cG;clear hB;go_in;go_wp2_with fail;rw[<-Hwb.out];refine cG.mono ?_;exact zz44
 rw[hgr] at cG;have Hgr:=zh hgr;have hob:=m8 hgr;have cO:=fun W (hW:Ext wb W)=>p7 v l W (hg _ hW) Hgr;by_cases hm:ord l<=9;rotate_left
 . exact zz65
 have hB:lzB l=true:=by unfold lzB;rw[hgr];simpa using hm
 have Hs:=zh (do9 hB);have c1:=fun W (hW:Ext wb W)=>bz1 v l W (hg _ hW);have c2:=fun W (hW:Ext wb W)=>c02 v l W (hg _ hW);have c3:=fun W (hW:Ext wb W)=>cd8 v l W (hg _ hW);have c4:=fun W (hW:Ext wb W)=>c99 v l W (hg _ hW);have cA:=fun W vZ (hW:Ext wb W) (hI:c9 W vZ (b9 (lzL l)))=>bd9 v vZ l (b9 (lzL l)) W (hg _ hW) hI;have cB:=fun W (hW:Ext wb W)=>K7 v l (lgV (M3 l) l 16:Nat) W (hg _ hW);have cC:=fun W (hW:Ext wb W)=>K7 v l (lgV (sidP l) l 13:Nat) W (hg _ hW);have cD:=fun W (hW:Ext wb W)=>K7 v l (lgV (apP l) l 11:Nat) W (hg _ hW);have sA:=jq0 l (b9 (lzL l));have sB:=br2 l (lgV (M3 l) l 16:Nat);have sC:=br2 l (lgV (sidP l) l 13:Nat);have sD:=br2 l (lgV (apP l) l 11:Nat);obtain⟨A,hA⟩:=nq (fqF l (b9 (lzL l)));obtain⟨B,hBd⟩:∃x,x=fsF l (lgV (M3 l) l 16:Nat):=⟨_,rfl⟩;obtain⟨C,hC⟩:∃x,x=fsF l (lgV (sidP l) l 13:Nat):=⟨_,rfl⟩;obtain⟨D,hD⟩:∃x,x=fsF l (lgV (apP l) l 11:Nat):=⟨_,rfl⟩;rw[<-hA] at cA sA Hs;rw[<-hBd] at cB sB Hs;rw[<-hC] at cC sC Hs;rw[<-hD] at cD sD Hs;obtain⟨n2,h2⟩:=nq (lgV (M3 l) l 16);obtain⟨n3,h3⟩:=nq (lgV (sidP l) l 13);obtain⟨n4,h4⟩:=nq (lgV (apP l) l 11);rw[<-h2] at c2 cB;rw[<-h3] at c3 cC;rw[<-h4] at c4 cD;have hln:∀i,i<([(⟨#[101,120,116,114,101,109,97,108,32,102,114,101,101]⟩:ByteArray),A,(⟨#[115,117,109,102,114,101,101]⟩:ByteArray),B,(⟨#[115,105,100,111,110]⟩:ByteArray),C,(⟨#[97,112,102,114,101,101]⟩:ByteArray),D]:List ByteArray).length->(C0 [(⟨#[101,120,116,114,101,109,97,108,32,102,114,101,101]⟩:ByteArray),A,(⟨#[115,117,109,102,114,101,101]⟩:ByteArray),B,(⟨#[115,105,100,111,110]⟩:ByteArray),C,(⟨#[97,112,102,114,101,101]⟩:ByteArray),D] i).size<=5000:=by
  intro i hi;match i,hi with
  | 0,_=>exact (by decide:((⟨#[101,120,116,114,101,109,97,108,32,102,114,101,101]⟩:ByteArray):ByteArray).size<=5000)
  | 1,_=>exact nle sA (by decide)
  | 2,_=>exact (by decide:((⟨#[115,117,109,102,114,101,101]⟩:ByteArray):ByteArray).size<=5000)
  | 3,_=>exact nle sB (by decide)
  | 4,_=>exact (by decide:((⟨#[115,105,100,111,110]⟩:ByteArray):ByteArray).size<=5000)
  | 5,_=>exact nle sC (by decide)
  | 6,_=>exact (by decide:((⟨#[97,112,102,114,101,101]⟩:ByteArray):ByteArray).size<=5000)
  | 7,_=>exact nle sD (by decide)
 obtain⟨X,hX⟩:∃x,x=C9 [(⟨#[101,120,116,114,101,109,97,108,32,102,114,101,101]⟩:ByteArray),A,(⟨#[115,117,109,102,114,101,101]⟩:ByteArray),B,(⟨#[115,105,100,111,110]⟩:ByteArray),C,(⟨#[97,112,102,114,101,101]⟩:ByteArray),D]:=⟨_,rfl⟩;have hcL:∀(W:World),Calls Tryz.prog 96 #[.slice (some ⟨W.heap.size,0,none⟩) 8 8] (W.alloc (.cells #[.string (⟨#[101,120,116,114,101,109,97,108,32,102,114,101,101]⟩:ByteArray),.string A,.string (⟨#[115,117,109,102,114,101,101]⟩:ByteArray),.string B,.string (⟨#[115,105,100,111,110]⟩:ByteArray),.string C,.string (⟨#[97,112,102,114,101,101]⟩:ByteArray),.string D] 9)) fun e w'=>e=.returned (.string X)∧Ext (W.alloc (.cells #[.string (⟨#[101,120,116,114,101,109,97,108,32,102,114,101,101]⟩:ByteArray),.string A,.string (⟨#[115,117,109,102,114,101,101]⟩:ByteArray),.string B,.string (⟨#[115,105,100,111,110]⟩:ByteArray),.string C,.string (⟨#[97,112,102,114,101,101]⟩:ByteArray),.string D] 9)) w':=fun W =>
  (cg1 _ _ _ (cj0 W [(⟨#[101,120,116,114,101,109,97,108,32,102,114,101,101]⟩:ByteArray),A,(⟨#[115,117,109,102,114,101,101]⟩:ByteArray),B,(⟨#[115,105,100,111,110]⟩:ByteArray),C,(⟨#[97,112,102,114,101,101]⟩:ByteArray),D] 9 zm) hln zm).mono fun e w' ⟨h1,h2⟩=>⟨by rw[h1,hX],by rw[<-h2];exact er _⟩
 have Hfin:Hid (elF l=X):=zh (by rw[hX,Hs.out];exact (jk2 A B C D).symm);clear hln hX;clear hA hBd hC hD h2 h3 h4 hB hgr;go_in;go_wp2_with fail;rw[<-Hwb.out];refine cG.mono ?_;rintro e w1 ⟨rfl,hE1⟩;have hb1:=hb w1 hE1;go_wp2_with (go_at_call 99;refine (cO _ hE1).mono ?_;rintro e w2 ⟨rfl,hE2⟩;have hE12:=hE1.trans hE2;have hb2:=hb w2 hE12);refine (c1 _ hE12).mono ?_;rintro e w3 ⟨aoZ,cZ,rfl,hIZ,hE3⟩;have hE13:=hE12.trans hE3;have hb3:=hb w3 hE13;go_wp2_with fail;refine (c2 _ hE13).mono ?_;rintro e w4 ⟨rfl,hE4⟩;have hE14:=hE13.trans hE4;have hb4:=hb w4 hE14;go_wp2_with fail;refine (c3 _ hE14).mono ?_;rintro e w5 ⟨rfl,hE5⟩;have hE15:=hE14.trans hE5;have hb5:=hb w5 hE15;go_wp2_with fail;refine (c4 _ hE15).mono ?_;rintro e w6 ⟨rfl,hE6⟩;have hE16:=hE15.trans hE6;have hIZ6:=hIZ.ext (hE4.trans (hE5.trans hE6));have kb:=fun W (hW:Ext w6 W)=>hb W (hE16.trans hW);have hD:=(er w6).drew;have hE:=er w6;go_wp2_with fail;first | (go_region_held3 (fun W=>Ext w6 W∧W.cell? ⟨w.heap.size,0,none⟩=some v) (exact⟨xq,kb _ xq⟩) (first | (go_at_call 125;((with_reducible refine Calls.mono (cA _ _ (hE16.trans xq) (hIZ6.ext xq)) ?_);rintro e wH ⟨rfl,hX⟩;have hH:=Ext.trans (a:=w6) xq hX)) | (go_at_call 106;((first | (with_reducible refine Calls.mono (cB _ (hE16.trans xq)) ?_) | (with_reducible refine Calls.mono (cC _ (hE16.trans xq)) ?_) | (with_reducible refine Calls.mono (cD _ (hE16.trans xq)) ?_));rintro e wH ⟨rfl,hX⟩;have hH:=Ext.trans (a:=w6) xq hX)) | (go_at_call 96;((with_reducible refine Calls.mono (hcL _) ?_);rintro e wL ⟨rfl,hX⟩;have hHL:=Ext.trans (a:=w6) xq hX)))) | (fail "the region")
 all_goals
  go_wp2_with fail
  go_ret
  exact⟨j9 Hfin.out.symm,hE0.trans (hE16.trans hHL)⟩
theorem b38(X:ByteArray)(b:Bool)(t u:ByteArray)(h:u=(⟨#[32]⟩:ByteArray)++t):(if b then C9 [X,t] else X)=X++(if b then u else (⟨#[]⟩:ByteArray)):=by
 subst h;apply Y0;cases b<;>simp[C9,jn,C0,spB,List.getD]
theorem jg5(X t F u:ByteArray)(h:u=((⟨#[32]⟩:ByteArray)++t)++(⟨#[32]⟩:ByteArray)):C9 [X,t,F]=(X++u)++F:=by
 subst h;exact zz189
theorem jl6(f:Nat->ByteArray)(k:Nat):(jn spB f (k+1)).size<=(jn spB f k).size+1+(f k).size:=by
 show ((if 0<k then jn spB f k++spB else jn spB f k)++f k).size<=_;have e:spB.size=1:=rfl;split<;>(simp only[ByteArray.size_append];omega)
theorem o8(A:List UInt8):(⟨A.toArray⟩:ByteArray).size=A.length:=rfl
def G4:List ByteArray->Nat
 | []=>0
 | x :: r=>x.size+1+G4 r
theorem dq7(xs:List ByteArray):∀k,k<=xs.length->(jn spB (C0 xs) k).size<=G4 (xs.take k)
 | 0,_=>Nat.zero_le _
 | k+1,h=>by
  have h1:=jl6 (C0 xs) k
  have h2:=dq7 xs k om
  have e:∀(a:List ByteArray) (b:ByteArray),G4 (a++[b])=G4 a+b.size+1:=by
   intro a b;induction a with
   | nil=>show b.size+1+0=0+b.size+1;omega
   | cons x r ih=>show x.size+1+G4 (r++[b])=x.size+1+G4 r+b.size+1;omega
  have e2:C0 xs k=xs[k]'om:=by simp[C0,List.getD,show k<xs.length by omega]
  rw[List.take_succ_eq_append_getElem om,e,<-e2]
  omega
theorem b14(xs:List ByteArray):(C9 xs).size<=G4 xs:=by
 have:=dq7 xs xs.length (Nat.le_refl _);rw[List.take_length] at this;exact this
theorem d51{xs:List ByteArray}{B:Nat}(h:∀x∈xs,x.size<=B):∀i,i<xs.length->(C0 xs i).size<=B:=fun i hi=>by
 have e:C0 xs i=xs[i]:=by simp[C0,List.getD,hi]
 rw[e];exact h _ (List.getElem_mem _)
theorem b70(xs:List ByteArray)(h:∀x∈xs,x.size<=5000)(hn:xs.length<=100:=by simp):∃X,X=C9 xs∧∀W:World,Calls Tryz.prog 96 #[.slice (some ⟨W.heap.size,0,none⟩) xs.length xs.length] (W.alloc (.cells (xs.map Value.string).toArray 9)) fun e w'=>e=.returned (.string X)∧Ext (W.alloc (.cells (xs.map Value.string).toArray 9)) w' :=
 ⟨_,rfl,fun W=>(cg1 _ _ _ (cj0 W xs 9 om) (d51 h) hn).mono fun e w' ⟨h1,h2⟩=>⟨h1,h2 ▸ er _⟩⟩
theorem J0(s:ByteArray)(b:Bool)(xs:List ByteArray)(B:Nat)(hs:s.size<=B)(h:∀x∈xs,x.size<=5000)(hB:B+G4 xs+1<=5000)(h0:0<xs.length:=by simp)(hn:xs.length<=50:=by simp):∃X,X=(if b then C9 (s :: xs) else s)∧X.size<=B+G4 xs+1∧∀W:World,Calls Tryz.prog 102 #[.string s,.bool b,.slice (some ⟨W.heap.size,0,none⟩) xs.length xs.length] (W.alloc (.cells (xs.map Value.string).toArray 9)) fun e w'=>e=.returned (.string X)∧Ext (W.alloc (.cells (xs.map Value.string).toArray 9)) w' :=
 ⟨_,rfl,by
  have:=b14 (s :: xs)
  have e:G4 (s :: xs)=s.size+1+G4 xs:=rfl
  split<;>omega,fun W=>jb1 s b _ xs _ (cj0 W xs 9 om) om (d51 h) h0 hn⟩
theorem bt3(b:Bool)(s:ByteArray)(h:s.size<=20:=by decide):∃y,Hid (y=if b then s else ⟨#[]⟩)∧y.size<=20∧∀W,Calls Tryz.prog 59 #[.bool b,.string s] W fun e w'=>e=.returned (.string y)∧W=w' :=
 ⟨_,zh rfl,by split<;>first | exact h | decide,bh6 b s⟩
theorem j33{l:List Int}(h:∀i,i<l.length -> -1<=nth l i∧nth l i<1000000000000)(hl:l.length<=40):(F7 l).size<=560:=by
 unfold F7;split
 . decide
 . have:=b81 b44 (fun i=>o3 (nth l i)) (by decide) l.length fun i hi=>o9 (h i hi);omega
theorem bb5(l:List Int)(a:Int):(fsF l a).size<=600:=by
 cases h:j4 l a
 . rw[br1 h];decide
 . obtain⟨n,rfl,-,hn,-⟩:=o4 h;rw[br0 h];have:=j33 (l:=b9 (j7 n)) (b66 n) (by rw[j2];have:=B7 n;omega);omega
def enF(l:List Int)(a b:Int):Int:=if j4 l a&&j4 l b then bp8 (b73 l a.toNat b.toNat) (ord l) else -1
theorem j05{l:List Int}{a b:Int}(h:(j4 l a&&j4 l b)=false):enF l a b = -1:=by unfold enF;rw[h];rfl
theorem bg9{l:List Int}{a b:Nat}(h:(j4 l a&&j4 l b)=true):enF l a b=bp8 (b73 l a b) (ord l):=by unfold enF;rw[if_pos h];rfl
theorem zz165{P:Prop}(h:P:=by have hkl:k=ord l:=(by omega);subst hkl;go_wp2_with fail;go_ret;exact⟨o7 (by rw[Hs.out]),hE0.trans (hEb.trans hE)⟩):P:=h
theorem zz182{P:Prop}(h:P:=by go_wp2_with fail;go_roundw;(case rel=>exact⟨k+1,om,zg,by rw[hsq.out],hE⟩);case measure=>exact zm1):P:=h
theorem bz8(v:Value)(l:List Int)(a b:Int)(w:World)(h:c9 w v l) :
 Calls Tryz.prog 112 #[.agg #[v],.int .i64 a,.int .i64 b] w fun e w'=>e=.returned (.int .i64 (enF l a b))∧Ext w w':=by
 obtain⟨wb,Hwb,hE0,hb,hg,hE,Hsz⟩:=ju3 28 h;clear h;have hbx:=hb wb hE;have har:=bu1 l a b;cases hs:(j4 l a&&j4 l b)
 . have Hs:=zh (j05 hs);rw[hs] at har;clear hs;go_in;go_wp2_with fail;rw[<-Hwb.out];try rw[Hsz.out]
   go_wp2_with (first | (go_at_call 222;refine Calls.mono (T9 _ _ _ _ _ (hg _ xq) (b35 _ _ _ _) har) ?_;rintro e w' ⟨rfl,hE'⟩;replace hE:=hE.trans (Ext.trans xq hE');clear hE'));go_ret;exact zz56
 . obtain⟨h1,h2⟩:=Bool.and_eq_true_iff.1 hs;obtain⟨a,rfl,-,ha,hgr⟩:=o4 h1;obtain⟨b,rfl,-,hb',-⟩:=o4 h2;have Hs:=zh (bg9 hs);have Ht:=zh (j67 hs);rw[hs] at har;have Hgr:=zh hgr;have hob:=m8 hgr;clear hs hgr h1 h2;go_in;go_wp2_with fail;rw[<-Hwb.out];try rw[Hsz.out]
   go_wp2_with (first | (go_at_call 222;refine Calls.mono (T9 _ _ _ _ _ (hg _ xq) (b35 _ _ _ _) har) ?_;rintro e w' ⟨rfl,hE'⟩;replace hE:=hE.trans (Ext.trans xq hE');clear hE'));refine (d49 _ _ _ _ _ (hg _ hE)).mono ?_;rw[Ht.out];rintro e w1 ⟨v1,rfl,hL,hE1⟩;have hLs:=hL.ints;obtain⟨ao,c,adr,rfl,hlen,hadr,hcell⟩:=hLs.op;have hix:=j3 (c:=c) elI szI hadr;rw[dh3] at hcell hlen hix ⊢;clear hadr hL hLs;have hEb:=hE.trans hE1;clear hE hE1;have hE:=er w1;go_wp2_with fail;go_loopw [7,21] (fun nv i wr=>∃k:Nat,k<=ord l∧i=.int .i64 k∧nv=.int .i64 (bp8 (b73 l a b) k)∧Ext w1 wr) (fun _ i _=>ord l - (intOf i).toNat);(case atStart=>exact⟨0,om,rfl,rfl,hE⟩);case round =>
    clear hE;obtain⟨k,hk,rfl,rfl,hE⟩:=hrel;by_cases hlt:k<ord l
    . have hck:=hcell k _ hlt hE;have hsq:=zh (c63 (b73 l a b) k);have hb1:=bc9 Hgr.out a b k;obtain⟨hb2,hb3⟩:=cu7 Hgr.out a b k;obtain⟨hb4,hb5⟩:=dx3 hb2 hb3;exact zz182
    . exact zz165
theorem by4(v:Value)(l:List Int)(a b:Int)(w:World)(h:c9 w v l) :
 Calls Tryz.prog 71 #[.agg #[v],.int .i64 a,.int .i64 b] w fun e w'=>e=.returned (.int .i64 (enF l a b))∧Ext w w':=by
 obtain⟨wb,Hwb,hE0,hb,hg,hE,Hsz⟩:=ju3 28 h;clear h;cases hs:(j4 l a&&j4 l b)
 . have Hs:=zh (j05 hs);have Ht:Hid (by0 l a b=[]):=zh (by unfold by0;rw[hs];rfl);clear hs;go_in;go_wp2_with fail;rw[<-Hwb.out];refine (by6 _ _ _ _ _ (hg _ hE)).mono ?_;rw[Ht.out];rintro e w1 ⟨v1,rfl,hL,hE1⟩;obtain⟨ao,c,rfl,-⟩:=hL.shape;rw[show ([]:List Int).length=0 from rfl] at hL ⊢;go_wp2_with fail;go_ret;exact⟨o7 Hs.out.symm,hE0.trans (hE.trans hE1)⟩
 . obtain⟨h1,h2⟩:=Bool.and_eq_true_iff.1 hs;obtain⟨a,rfl,-,ha,hgr⟩:=o4 h1;obtain⟨b,rfl,-,hb',-⟩:=o4 h2;have Hs:=zh (bg9 hs);have Ht:=zh (j67 hs);have Hgr:=zh hgr;have hob:=m8 hgr;have hne:(((ord l:Nat):Int) == 0)=false:=(by rw[beq_eq_false_iff_ne];omega);clear hs hgr h1 h2;go_in;go_wp2_with fail;rw[<-Hwb.out];refine (by6 _ _ _ _ _ (hg _ hE)).mono ?_;rw[Ht.out];rintro e w1 ⟨v1,rfl,hL,hE1⟩;have hLs:=hL.ints;obtain⟨ao,c,adr,rfl,hlen,hadr,hcell⟩:=hLs.op;have hix:=j3 (c:=c) elI szI hadr;rw[dh3] at hcell hlen hix ⊢;clear hadr hL hLs;have hEb:=hE.trans hE1;clear hE hE1;have hE:=er w1;go_wp2_with fail;go_loopw [8,9] (fun nv i wr=>∃k:Nat,k<=ord l∧i=.int .i64 k∧nv=.int .i64 (bp8 (b73 l a b) k)∧Ext w1 wr) (fun _ i _=>ord l - (intOf i).toNat);(case atStart=>exact⟨0,om,rfl,rfl,hE⟩);case round =>
    clear hE;obtain⟨k,hk,rfl,rfl,hE⟩:=hrel;by_cases hlt:k<ord l
    . have hck:=fun U=>hcell k _ hlt (d5 w1 U);have hsq:=zh (c63 (b73 l a b) k);have hb1:=bc9 Hgr.out a b k;obtain⟨hb2,hb3⟩:=cu7 Hgr.out a b k;obtain⟨hb4,hb5⟩:=dx3 hb2 hb3;go_wp2_with fail;(refine wl hE ?_);(repeat (go_big_quiet_step (first | fail)));(refine zd ?_);(clear hE);(intro W hE);exact zz182
    . exact zz165
def drF(l:List Int)(a b:Int):Bool:=(j4 l a&&j4 l b)&&decide (cnt (l7 l a.toNat b.toNat)=cnt a.toNat*cnt b.toNat)
theorem d85{l:List Int}{a b:Int}(h:(j4 l a&&j4 l b)=false):drF l a b=false:=by unfold drF;rw[h];rfl
theorem do7{l:List Int}{a b:Nat}(h:(j4 l a&&j4 l b)=true):drF l a b=(((cnt (l7 l a b):Nat):Int) == (cnt a:Int)*(cnt b:Int)):=by
 unfold drF;rw[h,Bool.true_and,Bool.eq_iff_iff,decide_eq_true_iff,beq_iff_eq];show cnt (l7 l a b)=cnt a*cnt b↔_;constructor
 . intro e;rw[e];simp
 . intro e;rw[<-Int.natCast_mul] at e;exact Int.ofNat_inj.1 e
theorem do4(a b:Nat):0<=(cnt a:Int)*(cnt b:Int)∧(cnt a:Int)*(cnt b:Int)<=576:=by
 have h1:=r9 a;have h2:=r9 b;have:=Nat.mul_le_mul h1 h2;rw[<-Int.natCast_mul];omega
def b74(l:List Int)(a b:Int):Bool:=drF l a b&&decide (l7 l a.toNat b.toNat=l9 l)
theorem ds9{l:List Int}{a b:Int}(h:drF l a b=false):b74 l a b=false:=by unfold b74;rw[h];rfl
theorem dh7{l:List Int}{a b:Nat}(h:drF l a b=true):b74 l a b=(((l7 l a b:Nat):Int) == (l9 l:Int)):=by
 unfold b74;rw[h,Bool.true_and,Bool.eq_iff_iff,decide_eq_true_iff,beq_iff_eq];show l7 l a b=l9 l↔_;omega
theorem d86{l:List Int}{a b:Int}(h:drF l a b=true):(j4 l a&&j4 l b)=true:=by unfold drF at h;rw[Bool.and_eq_true] at h;exact h.1
theorem cj9(v:Value)(l:List Int)(a b:Int)(w:World)(h:c9 w v l) :
 Calls Tryz.prog 122 #[.agg #[v],.int .i64 a,.int .i64 b] w fun e w'=>e=.returned (.bool (drF l a b))∧Ext w w':=by
 obtain⟨wb,Hwb,hE0,hb,hg,hE,Hsz⟩:=ju3 28 h;clear h;have hbx:=hb wb hE;have har:=bu1 l a b;cases hs:(j4 l a&&j4 l b)
 . have Hs:=zh (d85 hs);rw[hs] at har;clear hs;go_in;go_wp2_with fail;rw[<-Hwb.out];try rw[Hsz.out]
   go_wp2_with (first | (go_at_call 222;refine Calls.mono (T9 _ _ _ _ _ (hg _ xq) (b35 _ _ _ _) har) ?_;rintro e w' ⟨rfl,hE'⟩;replace hE:=hE.trans (Ext.trans xq hE');clear hE'));exact zz17
 . obtain⟨h1,h2⟩:=Bool.and_eq_true_iff.1 hs;obtain⟨a,rfl,-,ha,hgr⟩:=o4 h1;obtain⟨b,rfl,-,hb',-⟩:=o4 h2;have Hs:=zh (do7 hs);rw[hs] at har;have Hgr:=zh hgr;have hsum:=G9 hgr a b;obtain⟨hm1,hm2⟩:=do4 a b;have q1:=fun W=>A9 (l7 l a b) hsum W;have q2:=fun W=>A9 a ha W;have q3:=fun W=>A9 b hb' W;clear hs hgr h1 h2;go_in;go_wp2_with fail;rw[<-Hwb.out];try rw[Hsz.out]
   go_wp2_with (first | (go_at_call 222;refine Calls.mono (T9 _ _ _ _ _ (hg _ xq) (b35 _ _ _ _) har) ?_;rintro e w' ⟨rfl,hE'⟩;replace hE:=hE.trans (Ext.trans xq hE');clear hE') | (go_at_call 119;refine cx (J4 _ _ _ _ _ (hg _ hE) (Hgr) (ha) (hb')) hE ?_;clear hE;intro w' hE) | (go_at_call 107;(first | (with_reducible refine Calls.mono (q1 _) ?_) | (with_reducible refine Calls.mono (q2 _) ?_) | (with_reducible refine Calls.mono (q3 _) ?_));rintro e w' ⟨rfl,rfl⟩));exact zz17
theorem cc6(v:Value)(l:List Int)(a b:Int)(w:World)(h:c9 w v l) :
 Calls Tryz.prog 79 #[.agg #[v],.int .i64 a,.int .i64 b] w fun e w'=>e=.returned (.bool (drF l a b))∧Ext w w':=by
 obtain⟨wb,Hwb,hE0,hb,hg,hE,Hsz⟩:=ju3 28 h;clear h;have hbx:=hb wb hE;cases h1:j4 l a
 . have Hs:=zh (d85 (l:=l) (a:=a) (b:=b) (by rw[h1];rfl));go_in;go_wp2_with fail;rw[<-Hwb.out];go_wp2_with (first | (go_at_call 46;refine cx (l8 _ _ _ _ (hg _ hE) (h1)) hE ?_;clear hE;intro w' hE));exact zz17
 . cases h2:j4 l b
   . have Hs:=zh (d85 (l:=l) (a:=a) (b:=b) (by rw[h1,h2];rfl));have c1:=fun W (hW:Ext wb W)=>l8 v l a W (hg W hW) h1;have c2:=fun W (hW:Ext wb W)=>l8 v l b W (hg W hW) h2;go_in;go_wp2_with fail;rw[<-Hwb.out];go_wp2_with (first | (go_at_call 46;(first | (with_reducible refine Calls.mono (c1 _ hE) ?_) | (with_reducible refine Calls.mono (c2 _ hE) ?_));rintro e w' ⟨rfl,hE'⟩;replace hE:=hE.trans hE';clear hE'));exact zz17
   . have c1:=fun W (hW:Ext wb W)=>l8 v l a W (hg W hW) h1;have c2:=fun W (hW:Ext wb W)=>l8 v l b W (hg W hW) h2;have hs:(j4 l a&&j4 l b)=true:=(by rw[h1,h2];rfl);obtain⟨a,rfl,-,ha,hgr⟩:=o4 h1;obtain⟨b,rfl,-,hb',-⟩:=o4 h2;have Hs:=zh (do7 hs);have Hgr:=zh hgr;have hsum:=G9 hgr a b;obtain⟨hm1,hm2⟩:=do4 a b;have q1:=fun W=>q8 (l7 l a b) hsum W;have q2:=fun W=>q8 a ha W;have q3:=fun W=>q8 b hb' W;clear hs hgr h1 h2;go_in;go_wp2_with fail;rw[<-Hwb.out];go_wp2_with (first | (go_at_call 46;(first | (with_reducible refine Calls.mono (c1 _ hE) ?_) | (with_reducible refine Calls.mono (c2 _ hE) ?_));rintro e w' ⟨rfl,hE'⟩;replace hE:=hE.trans hE';clear hE') | (go_at_call 49;refine cx (D6 _ _ _ _ _ (hg _ hE) (Hgr) (ha) (hb')) hE ?_;clear hE;intro w' hE) | (go_at_call 66;(first | (with_reducible refine Calls.mono (q1 _) ?_) | (with_reducible refine Calls.mono (q2 _) ?_) | (with_reducible refine Calls.mono (q3 _) ?_));rintro e w' ⟨rfl,rfl⟩));exact zz17
theorem c01(v:Value)(l:List Int)(a b:Int)(w:World)(h:c9 w v l) :
 Calls Tryz.prog 123 #[.agg #[v],.int .i64 a,.int .i64 b] w fun e w'=>e=.returned (.bool (b74 l a b))∧Ext w w':=by
 obtain⟨wb,Hwb,hE0,hb,hg,hE,Hsz⟩:=ju3 28 h;clear h;have kb:=fun U=>hb _ (d5 wb U);have cD:=fun U=>cj9 v l a b (Lat wb U) (hg _ (d5 wb U));cases hd:drF l a b
 . have Hs:=zh (ds9 hd);rw[hd] at cD;go_in;go_wp2_with fail;rw[<-Hwb.out];(refine wl hE ?_);(repeat (go_big_quiet_step (first | (go_at_call 122;exact Calls.lat (cD _)))));(refine zd ?_);(clear hE);(intro W hE);go_wp2_with fail;exact zz17
 . rw[hd] at cD;obtain⟨h1,h2⟩:=Bool.and_eq_true_iff.1 (d86 hd);obtain⟨a,rfl,-,ha,hgr⟩:=o4 h1;obtain⟨b,rfl,-,hb',-⟩:=o4 h2;have Hs:=zh (dh7 hd);have Hgr:=zh hgr;clear hgr h1 h2 hd;go_in;go_wp2_with fail;rw[<-Hwb.out];(refine wl hE ?_);(repeat (go_big_quiet_step (first | (go_at_call 122;exact Calls.lat (cD _)) | (go_at_call 119;exact Calls.lat (J4 _ _ _ _ _ (hg _ (d5 wb _)) (Hgr) (ha) (hb'))) | (go_at_call 215;exact Calls.lat (G1 _ _ _ (hg _ (d5 wb _)) (Hgr))))));(refine zd ?_);(clear hE);(intro W hE);go_wp2_with fail;exact zz17
theorem by5(v:Value)(l:List Int)(a b:Int)(w:World)(h:c9 w v l) :
 Calls Tryz.prog 80 #[.agg #[v],.int .i64 a,.int .i64 b] w fun e w'=>e=.returned (.bool (b74 l a b))∧Ext w w':=by
 obtain⟨wb,Hwb,hE0,hb,hg,hE,Hsz⟩:=ju3 28 h;clear h;have kb:=fun U=>hb _ (d5 wb U);have cD:=fun U=>cc6 v l a b (Lat wb U) (hg _ (d5 wb U));cases hd:drF l a b
 . have Hs:=zh (ds9 hd);rw[hd] at cD;go_in;go_wp2_with fail;rw[<-Hwb.out];(refine wl hE ?_);(repeat (go_big_quiet_step (first | (go_at_call 79;exact Calls.lat (cD _)))));(refine zd ?_);(clear hE);(intro W hE);go_wp2_with fail;exact zz17
 . rw[hd] at cD;obtain⟨h1,h2⟩:=Bool.and_eq_true_iff.1 (d86 hd);obtain⟨a,rfl,-,ha,hgr⟩:=o4 h1;obtain⟨b,rfl,-,hb',-⟩:=o4 h2;have Hs:=zh (dh7 hd);have Hgr:=zh hgr;have hob:=m8 hgr;have hs1:=p6 (n:=ord l) om;have hpw:=b51 (n:=ord l) hob.2;have hpw1:=T3 (ord l);have hwr:((pw (ord l):Nat):Int) - 1=((l9 l:Nat):Int):=(by unfold l9;omega);clear hgr h1 h2 hd;go_in;go_wp2_with fail;rw[<-Hwb.out];(refine wl hE ?_);(repeat (go_big_quiet_step (first | (go_at_call 79;exact Calls.lat (cD _)) | (go_at_call 49;exact Calls.lat (D6 _ _ _ _ _ (hg _ (d5 wb _)) (Hgr) (ha) (hb'))) | (go_at_call 43;exact Calls.lat (o5 _ _ _ (hg _ (d5 wb _)) (Hgr))))));(refine zd ?_);(clear hE);(intro W hE);go_wp2_with fail;exact zz17
def knI(l:List Int)(a b:Int):Int:=if D8 l a b then knF l a.toNat b.toNat else -1
theorem db8{l:List Int}{a b:Int}(h:D8 l a b=false):knI l a b = -1:=by unfold knI;rw[h];rfl
theorem c88{l:List Int}{a b:Nat}(h:D8 l a b=true):knI l a b=knF l a b:=by unfold knI;rw[h];rfl
theorem bj9(v:Value)(l:List Int)(a b:Int)(w:World)(h:c9 w v l) :
 Calls Tryz.prog 77 #[.agg #[v],.int .i64 a,.int .i64 b] w fun e w'=>e=.returned (.int .i64 (knI l a b))∧Ext w w':=by
 cases hf:D8 l a b
 . rw[db8 hf];exact co6 v l a b w h hf
 . have hf':=hf;obtain⟨m,n,rfl,rfl,-⟩:=U7 hf;rw[c88 hf'];exact ci2 v l m n w h hf'
theorem d18(v:Value)(l:List Int)(a b:Int)(w:World)(h:c9 w v l)(hf:D8 l a b=false) :
 Calls Tryz.prog 228 #[.agg #[v],.int .i64 a,.int .i64 b] w fun e w'=>e=.returned (.tuple #[.int .i64 0,.int .i64 0,.int .i64 0,.bool false])∧Ext w w':=by
 obtain⟨wb,Hwb,hE0,hb,hg,hE,Hsz⟩:=ju3 28 h;clear h;go_in;go_wp2_with fail;rw[<-Hwb.out];go_wp2_with (first | (go_at_call 118;refine cx (I4 _ _ _ _ _ (hg _ hE) hf) hE ?_;clear hE;intro w' hE));exact bodyPost_ret (v:=.tuple #[.int .i64 0,.int .i64 0,.int .i64 0,.bool false]) (by simp[results,Tryz.results228,go_sem]) rfl ⟨rfl,hE0.trans hE⟩
theorem cq4(v:Value)(l:List Int)(a b:Nat)(w:World)(h:c9 w v l)(hf:D8 l a b=true) :
 Calls Tryz.prog 228 #[.agg #[v],.int .i64 a,.int .i64 b] w fun e w'=>e=.returned (.tuple #[.int .i64 (kpH l a b:Nat),.int .i64 (l7 l (kpH l a b) a:Nat),.int .i64 (l7 l (kpH l a b) b:Nat),.bool true])∧Ext w w':=by
 obtain⟨wb,Hwb,hE0,hb,hg,hE,Hsz⟩:=ju3 28 h;clear h;have hbx:=fun U=>hb _ (d5 wb U);obtain⟨m,n,e1,e2,h3,h4,a1,-,ha,hb',hgr,-,-⟩:=U7 hf;obtain rfl:a=m:=om;obtain rfl:b=n:=om;have Hgr:=zh hgr;have hst:kpH l a b<2 ^ 24:=nlt (bk4 l _) (C4 hgr);have hss:j4 l ((l7 l a b:Nat):Int)=true:=bm8 hgr (bt2 (m9 hgr) a b);have hkp:D3 l (l7 l a b)=kpH l a b:=rfl;have Hkp:=zh hkp;clear hgr e1 e2 hkp h3 h4;go_in;go_wp2_with fail;rw[<-Hwb.out];go_wp2_with (first | (go_at_call 118;refine cx (I4 _ _ _ _ _ (hg _ hE) hf) hE ?_;clear hE;intro w' hE));(refine wl hE ?_);(repeat (go_big_quiet_step (first | (go_at_call 119;exact Calls.lat (J4 _ _ _ _ _ (hg _ (d5 wb _)) (Hgr) (ha) (hb'))) | (go_at_call 109;exact Calls.lat (b63 _ _ _ _ (hg _ (d5 wb _)) hss)))));(refine zd ?_);(clear hE);(intro W hE);rw[Hkp.out];go_wp2_with fail;(refine wl hE ?_);(repeat (go_big_quiet_step (first | (go_at_call 119;exact Calls.lat (J4 _ _ _ _ _ (hg _ (d5 wb _)) (Hgr) (hst) (ha))) | (go_at_call 119;exact Calls.lat (J4 _ _ _ _ _ (hg _ (d5 wb _)) (Hgr) (hst) (hb'))))));(refine zd ?_);(clear hE);(intro W hE);go_wp2_with fail;exact bodyPost_ret (v:=.tuple #[.int .i64 (kpH l a b:Nat),.int .i64 (l7 l (kpH l a b) a:Nat),.int .i64 (l7 l (kpH l a b) b:Nat),.bool true]) (by simp[results,Tryz.results228,go_sem]) rfl ⟨rfl,hE0.trans hE⟩
theorem ck0(v:Value)(l:List Int)(a b:Int)(w:World)(h:c9 w v l) :
 Calls Tryz.prog 120 #[.agg #[v],.int .i64 a,.int .i64 b] w fun e w'=>e=.returned (.int .i64 (knI l a b))∧Ext w w':=by
 obtain⟨wb,Hwb,hE0,hb,hg,hE,Hsz⟩:=ju3 28 h;clear h;cases hf:D8 l a b
 . have Hs:=zh (db8 hf);go_in;go_wp2_with fail;rw[<-Hwb.out];go_wp2_with (first | (go_at_call 228;refine cx (d18 _ _ _ _ _ (hg _ hE) hf) hE ?_;clear hE;intro w' hE));go_ret;exact zz56
 . have hf':=hf;obtain⟨m,n,rfl,rfl,h3,h4,-,-,ha,hb',hgr,-,-⟩:=U7 hf;have hst:kpH l m n<2 ^ 24:=nlt (bk4 l _) (C4 hgr);have hx1:=G9 hgr (kpH l m n) m;have hx2:=G9 hgr (kpH l m n) n;have Hs:Hid (knI l m n=(cnt (l7 l (kpH l m n) m):Int)+cnt (l7 l (kpH l m n) n) - cnt (kpH l m n)):=zh (by
    rw[c88 hf'];unfold knF kpH;rw[bn8 l m,bn8 l n])
   have q1:=fun W=>A9 (l7 l (kpH l m n) m) hx1 W;have q2:=fun W=>A9 (l7 l (kpH l m n) n) hx2 W;have q3:=fun W=>A9 (kpH l m n) hst W;have r1:=r9 (l7 l (kpH l m n) m);have r2:=r9 (l7 l (kpH l m n) n);have r3:=r9 (kpH l m n);clear hgr hf;go_in;go_wp2_with fail;rw[<-Hwb.out];go_wp2_with (first | (go_at_call 228;refine cx (cq4 _ _ _ _ _ (hg _ hE) hf') hE ?_;clear hE;intro w' hE) | (go_at_call 107;(first | (with_reducible refine Calls.mono (q1 _) ?_) | (with_reducible refine Calls.mono (q2 _) ?_) | (with_reducible refine Calls.mono (q3 _) ?_));rintro e w' ⟨rfl,rfl⟩));go_ret;exact zz56
end Go.Zz
