/- Whether a map keeps sums: of the program and of the reference. -/
import Derived.Test.YtnnbhcalddkmmaaGreatGr5
import Derived.Test.YtnnbhcalddkmmaaGreatGr3
import Derived.Deep.RegionHeld3
import Derived.Deep.RegionWith
import Derived.Deep.RegionLaw
import Derived.Test.YtnnbhcalddkmmaaGreatGr4
namespace Go.Zz
open Go.RowKit Go.Proofs
set_option maxHeartbeats 4000000
set_option maxRecDepth 8000
end Go.Zz
namespace Go.Zz
open Go.RowKit Go.Proofs
set_option maxHeartbeats 400000
theorem b69(v:Value)(l:List Int)(a:Nat)(w:World)(h:c8 w v l)(Hgr:Hid (c9 l=true))(ha:a<2 ^ 24) :
 Calls Tryz.prog 207 #[.agg #[v],.int .i64 a] w fun e w'=>e=.returned (.int .i64 (genF l a))∧Ext w w':=by
 obtain⟨wb,Hwb,hE0,hb,hg,hE,Hsz⟩:=j60 28 h;clear h;have hgb:=bi4 Hgr.out a;have ho:=dw6 Hgr.out a;have Hone:=Lib.hid (c31 l a);go_enter Tryz.func207,Tryz.ntmps207;go_wp2_with fail;rw[←Hwb.out];go_loopw [5] (fun hv wr=>∃h:Nat,Sub 1 h∧Sub h (genF l a)∧hv=.int .i64 h∧Ext wb wr) (fun hv _=>16777216 - (intOf hv).toNat);case atStart=>exact⟨1,Sub.refl 1,Hone.out,rfl,hE⟩
 case round =>
  clear hE;obtain⟨h,h1,h2,rfl,hE⟩:=hrel;have hbx:=fun U=>hb _ (b9 wb U);have hh:=c99 hgb h2;have hs1:=F5 Hgr.out h a;have hs2:=F5 Hgr.out h (bb6 l a);have i1:=Q0 (a:=h) (b:=j3 l h a) (by omega) (by omega);have ho1:h ||| j3 l h a<2 ^ 24:=Nat.or_lt_two_pow hh hs1
  have i2:=Q0 (a:=h ||| j3 l h a) (b:=j3 l h (bb6 l a)) (by omega) (by omega);have hN2:=df2 Hgr.out h2;have hN1:=dm7 l a h;have hend:=df1 h1 h2;have hNb:=c99 hgb hN2;rw[show h ||| j3 l h a ||| j3 l h (bb6 l a)=c68 l a h from rfl] at i2;generalize c68 l a h=N at i2 hN2 hN1 hend hNb;have H1:=Lib.hid h1;have H2:=Lib.hid h2;have HN1:=Lib.hid hN1;have HN2:=Lib.hid hN2;have He:=Lib.hid hend;clear h1 h2 hN1 hN2 hend;by_cases hq:N=h
  · have hq':((N:Int) == (h:Int))=true:=(by simp[hq]);have Hq:=Lib.hid hq;clear hq;go_wp2_with fail;(refine d0 (wb) (by kernel_rfl) (by kernel_rfl) hE ?_);(repeat (go_big_quiet_step (first | (go_at_call 119;exact Calls.lat (H5 _ _ _ _ _ (hg _ (b9 wb _)) (Hgr) (hh) (ha))) | (go_at_call 119;exact Calls.lat (H5 _ _ _ _ _ (hg _ (b9 wb _)) (Hgr) (hh) (ho))) | (go_at_call 294;exact Calls.lat (bb7 _ _ _ _ (hg _ (b9 wb _)) (Hgr) (ha))))));(refine wpQuiet_nil ?_);(intro W hE');(replace hE:=l7 hE');(clear hE');go_wp2_with fail;go_ret;exact⟨m8 (by rw[←He.out Hq.out]),hE0.trans hE⟩
  · have hq':((N:Int) == (h:Int))=false:=(by simp;omega);have Hlt:=Lib.hid (bk4 hNb HN1.out (fun e=>hq e.symm)).1;clear hq;go_wp2_with fail;(refine d0 (wb) (by kernel_rfl) (by kernel_rfl) hE ?_);(repeat (go_big_quiet_step (first | (go_at_call 119;exact Calls.lat (H5 _ _ _ _ _ (hg _ (b9 wb _)) (Hgr) (hh) (ha))) | (go_at_call 119;exact Calls.lat (H5 _ _ _ _ _ (hg _ (b9 wb _)) (Hgr) (hh) (ho))) | (go_at_call 294;exact Calls.lat (bb7 _ _ _ _ (hg _ (b9 wb _)) (Hgr) (ha))))));(refine wpQuiet_nil ?_);(intro W hE');(replace hE:=l7 hE');(clear hE');go_wp2_with fail;go_roundw;(case rel=>exact⟨N,H1.out.trans HN1.out,HN2.out,rfl,hE⟩);case measure=>(simp[intOf];have:=Hlt.out;omega)
theorem b70(v:Value)(l:List Int)(a:Nat)(w:World)(h:c8 w v l)(Hgr:Hid (c9 l=true))(ha:a<2 ^ 24) :
 Calls Tryz.prog 176 #[.agg #[v],.int .i64 a] w fun e w'=>e=.returned (.int .i64 (genF l a))∧Ext w w':=by
 obtain⟨wb,Hwb,hE0,hb,hg,hE,Hsz⟩:=j60 28 h;clear h;have hbx:=hb wb hE;have hgb:=bi4 Hgr.out a;have Hone:=Lib.hid (c31 l a);have h1b:(1:Nat)<2 ^ 24:=by omega
 have hs1:=F5 Hgr.out 1 a;have i1:=Q0 (a:=1) (b:=j3 l 1 a) (by omega) (by omega);go_enter Tryz.func176,Tryz.ntmps176;go_wp2_with fail;rw[←Hwb.out];go_wp2_with (first | (go_at_call 49;refine cx (E4 _ _ _ _ _ (hg _ hE) (Hgr) (h1b) (ha)) hE ?_;clear hE;intro w' hE));clear hbx hs1;go_loopw [5,6] (fun hv nv wr=>∃h:Nat,Sub 1 h∧Sub h (genF l a)∧hv=.int .i64 h∧nv=.int .i64 (bg2 l a h:Nat)∧Ext wb wr) (fun hv _ _=>16777216 - (intOf hv).toNat);case atStart=>exact⟨1,Sub.refl 1,Hone.out,rfl,by unfold bg2;rw[←i1];rfl,hE⟩
 case round =>
  clear hE i1;obtain⟨h,h1,h2,rfl,rfl,hE⟩:=hrel;have hbx:=hb _ hE;have hh:=c99 hgb h2;have hN2:=dm9 Hgr.out h2;have hN1:Sub h (bg2 l a h):=Sub.or_left _ _;have hend:=dm8 h1 h2;have hNb:=c99 hgb hN2;generalize bg2 l a h=N at hN2 hN1 hend hNb ⊢;have hs1:=F5 Hgr.out N a;have i1:=Q0 (a:=N) (b:=j3 l N a) (by omega) (by omega);have Hi:Hid (N ||| j3 l N a=bg2 l a N):=Lib.hid rfl;have H1:=Lib.hid h1;have H2:=Lib.hid h2;have HN1:=Lib.hid hN1;have HN2:=Lib.hid hN2;have He:=Lib.hid hend;clear h1 h2 hN1 hN2 hend;by_cases hq:N=h
  · have hq':((N:Int) != (h:Int))=false:=(by simp[hq]);have Hq:=Lib.hid hq;clear hq;go_wp2_with fail;go_ret;exact⟨m8 (by rw[←He.out Hq.out]),hE0.trans hE⟩
  · have hq':((N:Int) != (h:Int))=true:=(by simp;omega);have Hlt:=Lib.hid (bk4 hNb HN1.out (fun e=>hq e.symm)).1;clear hq;go_wp2_with (first | (go_at_call 49;refine cx (E4 _ _ _ _ _ (hg _ hE) (Hgr) (hNb) (ha)) hE ?_;clear hE;intro w' hE));go_roundw;(case rel=>exact⟨N,H1.out.trans HN1.out,HN2.out,rfl,by rw[Hi.out],hE⟩);case measure=>(simp[intOf];have:=Hlt.out;omega)
theorem bg9(v:Value)(l:List Int)(a:Int)(w:World)(h:c8 w v l) :
 Calls Tryz.prog 302 #[.agg #[v],.int .i64 a] w fun e w'=>e=.returned (.int .i64 (bm0 l a))∧Ext w w':=by
 obtain⟨wb,Hwb,hE0,hb,hg,hE,Hsz⟩:=j60 28 h;clear h;have hbx:=hb wb hE;cases hs:d8 l a
 · have Hs:=Lib.hid (ct5 (I5 hs));go_enter Tryz.func302,Tryz.ntmps302;go_wp2_with fail;rw[←Hwb.out];go_wp2_with (first | (go_at_call 105;refine cx (H6 _ _ _ _ (hg _ hE)) hE ?_;clear hE;intro w' hE));go_ret;exact⟨m8 Hs.out.symm,hE0.trans hE⟩
 · obtain⟨n,rfl,h1,h2,hgr⟩:=m3 hs;by_cases h0:n=0
   · subst h0;have Hs:=Lib.hid (ct5 (F4 l));go_enter Tryz.func302,Tryz.ntmps302;go_wp2_with fail;rw[←Hwb.out];go_wp2_with (first | (go_at_call 105;refine cx (H6 _ _ _ _ (hg _ hE)) hE ?_;clear hE;intro w' hE));go_ret;exact⟨m8 (by have:=Hs.out;simp_all),hE0.trans hE⟩
   · have Hs:=Lib.hid (ch1 (J5 hs (by omega)));obtain⟨l1,l2,l3,l4⟩:=bm3 h0 h2;have h0':((n:Int) == 0)=false:=(by simp;omega);have Hgr:=Lib.hid hgr;have hn:=b91 hgr (J8 n);have hs1:=M5 hgr n (p4 l (J8 n));have hs2:=bi4 hgr (j2 l n (p4 l (J8 n)));clear hgr h0;go_enter Tryz.func302,Tryz.ntmps302;go_wp2_with fail;rw[←Hwb.out];go_wp2_with (first | (go_at_call 105;refine cx (H6 _ _ _ _ (hg _ hE)) hE ?_;clear hE;intro w' hE) | (go_at_call 214;refine (I9 n h2 _).mono ?_;rintro e w1 ⟨v1,rfl,hL,hE1⟩;replace hE:=hE.trans hE1;obtain⟨aoL,cL,adrL,rfl,hadrL,hcellL⟩:=hL.ints.nats;have hixL:=j6 (c:=cL) elI szI hadrL;clear hadrL;have hck:=hcellL 0 _ l2 (Ext.refl _);rw[l1] at hck;have hix0:∀W,(Instr.indexAt 26 (.slice aoL (j1 n).length cL) (.int .i64 0)).run Tryz.prog W=.ok (.pointer (some (adrL 0))) W:=fun W=>hixL 0 W l2));replace hbx:=fun U=>hb _ (b9 wb U);(refine d0 (wb) (by kernel_rfl) (by kernel_rfl) hE ?_);(repeat (go_big_quiet_step (first | (go_at_call 307;exact Calls.lat (b80 _ _ _ _ (hg _ (b9 wb _)) (Hgr) ((by omega)))) | (go_at_call 220;exact Calls.lat (J9 _ _ _ _ _ (hg _ (b9 wb _)) (Hgr) (h2) (hn))) | (go_at_call 220;exact Calls.lat (J9 _ _ _ _ _ (hg _ (b9 wb _)) (Hgr) (hs2) (l4))) | (go_at_call 207;exact Calls.lat (b69 _ _ _ _ (hg _ (b9 wb _)) (Hgr) (hs1))))));(refine wpQuiet_nil ?_);(intro W hE');(replace hE:=l7 hE');(clear hE');go_wp2_with fail;go_ret;exact⟨m8 (by rw[Hs.out];rfl),hE0.trans hE⟩
theorem ch5(a:Nat)(h0:a≠0)(ha:a<2 ^ 24)(w:World) :
 Calls Tryz.prog 283 #[.int .i64 a] w fun e w'=>e=.returned (.int .i64 (J8 a:Int))∧w=w':=by
 obtain⟨-,-,l3,l4⟩:=bm3 h0 ha;have L3:=Lib.hid l3;clear l3;go_enter Tryz.func283,Tryz.ntmps283;go_wp2_with fail;go_loop [3] (fun i=>∃k:Nat,k≤J8 a∧(∀j,j<k→a.testBit j=false)∧i=.int .i64 k) (fun i=>24 - (intOf i).toNat);case atStart=>exact⟨0,by omega,by omega,rfl⟩
 case round =>
  obtain⟨k,hk,hall,rfl⟩:=hrel;have Hall:=Lib.hid hall;clear hall;have hsh:=P3 (a:=a) (n:=k) (by omega);have hle:=c95 a k;cases hb:a.testBit k
  · have hm:shr a k % 2=0:=by
     rw[Nat.testBit_eq_decide_div_mod_eq,←Nat.shiftRight_eq_div_pow] at hb;have:=of_decide_eq_false hb;unfold shr;omega
    have hand:Z6 ((shr a k:Nat):Int) 1=0:=by rw[b10 (by omega),hm];rfl
    have hne:k≠J8 a:=by intro e;have:=L3.out;rw[←e,hb] at this;cases this
    have Hb:=Lib.hid hb
    clear hb hm
    go_wp2_with fail
    go_round
    case rel=>exact⟨k+1,by omega,fun j hj=>by by_cases e:j=k;(subst e;exact Hb.out);exact Hall.out j (by omega),by go_num⟩
    case measure=>(simp[intOf];omega)
  · have hm:shr a k % 2=1:=by
     rw[Nat.testBit_eq_decide_div_mod_eq,←Nat.shiftRight_eq_div_pow] at hb;exact of_decide_eq_true hb
    have hand:Z6 ((shr a k:Nat):Int) 1=1:=by rw[b10 (by omega),hm];rfl
    have He:=Lib.hid (dw1 (by omega) Hall.out hb)
    clear hb hm
    go_wp2_with fail
    go_ret
    exact⟨m8 (by rw[He.out]),rfl⟩
end Go.Zz
namespace Go.Zz
open Go.RowKit Go.Proofs
set_option maxHeartbeats 400000
theorem df5(a x:Nat)(ha:a<2 ^ 24)(hx:x≤64)(w:World) :
 Calls Tryz.prog 225 #[.int .i64 a,.int .i64 x] w fun e w'=>e=.returned (.bool (a.testBit x))∧w=w':=by
 have hsh:=P3 (a:=a) (n:=x) hx;have hbt:=b15 (a:=a) (n:=x) (by omega) hx;go_enter Tryz.func225,Tryz.ntmps225;go_wp2_with fail;go_ret;exact⟨rfl,rfl⟩
theorem V1(a x:Nat)(ha:a<2 ^ 24)(hx:x≤64)(w:World){b:Bool}(hb:a.testBit x=b) :
 Calls Tryz.prog 225 #[.int .i64 a,.int .i64 x] w fun e w'=>e=.returned (.bool b)∧w=w':=by
 subst hb;exact df5 a x ha hx w
theorem bi5(v:Value)(l:List Int)(x:Int)(w:World)(h:c8 w v l) :
 Calls Tryz.prog 231 #[.agg #[v],.int .i64 x] w fun e w'=>e=.returned (.bool (K2 l x))∧Ext w w':=by
 obtain⟨wb,Hwb,hE0,hb,hg,hE,Hsz⟩:=j60 28 h;clear h;have ho:=d64 l;go_enter Tryz.func231,Tryz.ntmps231;go_wp2_with fail;rw[←Hwb.out];go_wp2_with (first | (go_at_call 99;refine cx (N7 _ _ _ (hg _ hE)) hE ?_;clear hE;intro w' hE) | (go_at_call 206;refine (N9 _ _ _ _).mono ?_;rintro e w' ⟨rfl,rfl⟩));go_ret;exact⟨rfl,hE0.trans hE⟩
theorem cc2(v:Value)(l:List Int)(x:Int)(w:World)(h:c8 w v l){b:Bool}(hb:K2 l x=b) :
 Calls Tryz.prog 231 #[.agg #[v],.int .i64 x] w fun e w'=>e=.returned (.bool b)∧Ext w w':=by
 subst hb;exact bi5 v l x w h
theorem Y0(v:Value)(l:List Int)(w:World)(h:c8 w v l) :
 Calls Tryz.prog 179 #[.agg #[v]] w fun e w'=>e=.returned (.int .i64 (b71 l))∧Ext w w':=by
 obtain⟨wb,Hwb,hE0,hb,hg,hE,Hsz⟩:=j60 28 h;clear h;cases hgr:c9 l
 · have Ho:=Lib.hid (c79 hgr);go_enter Tryz.func179,Tryz.ntmps179;go_wp2_with fail;rw[←Hwb.out];go_wp2_with (first | (go_at_call 42;refine cx (q9 _ _ _ (hg _ hE)) hE ?_;clear hE;intro w' hE));go_ret;exact⟨m8 Ho.out.symm,hE0.trans hE⟩
 · have Ho:=Lib.hid (Z9 hgr);have Hgr:=Lib.hid hgr;go_enter Tryz.func179,Tryz.ntmps179;go_wp2_with fail;rw[←Hwb.out];go_wp2_with (first | (go_at_call 42;refine cx (q9 _ _ _ (hg _ hE)) hE ?_;clear hE;intro w' hE) | (go_at_call 43;refine cx (m4 _ _ _ (hg _ hE) (Hgr)) hE ?_;clear hE;intro w' hE));go_ret;exact⟨m8 Ho.out.symm,hE0.trans hE⟩
theorem ct9(v:Value)(l:List Int)(x:Int)(w:World)(h:c8 w v l) :
 Calls Tryz.prog 243 #[.agg #[v],.int .i64 x] w fun e w'=>e=.returned (.bool (K2 l x))∧Ext w w':=by
 obtain⟨wb,Hwb,hE0,hb,hg,hE,Hsz⟩:=j60 28 h;clear h;have ho:=d64 l;by_cases h0:0≤x
 · by_cases h1:x<b71 l
   · have Hh:Hid (K2 l x=true):=Lib.hid (b01.2 (by omega));go_enter Tryz.func243,Tryz.ntmps243;go_wp2_with fail;rw[←Hwb.out];go_wp2_with (first | (go_at_call 179;refine cx (Y0 _ _ _ (hg _ hE)) hE ?_;clear hE;intro w' hE));go_ret;exact⟨l9 (by rw[Hh.out]),hE0.trans hE⟩
   · have Hh:Hid (K2 l x=false):=Lib.hid (bm1.2 (by omega));have h1':decide (x<b71 l)=false:=(by simp;omega);go_enter Tryz.func243,Tryz.ntmps243;go_wp2_with fail;rw[←Hwb.out];go_wp2_with (first | (go_at_call 179;refine cx (Y0 _ _ _ (hg _ hE)) hE ?_;clear hE;intro w' hE));go_ret;exact⟨l9 (by rw[Hh.out]),hE0.trans hE⟩
 · have Hh:Hid (K2 l x=false):=Lib.hid (bm1.2 (by omega));have h0':decide (0≤x)=false:=(by simp;omega);go_enter Tryz.func243,Tryz.ntmps243;go_wp2_with fail;rw[←Hwb.out];go_wp2_with (first | (go_at_call 179;refine cx (Y0 _ _ _ (hg _ hE)) hE ?_;clear hE;intro w' hE));go_ret;exact⟨l9 (by rw[Hh.out]),hE0.trans hE⟩
theorem b11(v:Value)(l:List Int)(x:Int)(w:World)(h:c8 w v l){b:Bool}(hb:K2 l x=b) :
 Calls Tryz.prog 243 #[.agg #[v],.int .i64 x] w fun e w'=>e=.returned (.bool b)∧Ext w w':=by
 subst hb;exact ct9 v l x w h
end Go.Zz
namespace Go.Zz
open Go.RowKit Go.Proofs
set_option maxHeartbeats 1000000
set_option maxRecDepth 4000
theorem db1(v:Value)(l:List Int)(vX:Value)(X:List Int)(w:World)(h:c8 w v l)(hX:c8 w vX X) :
 Calls Tryz.prog 332 #[.agg #[v],vX] w fun e w'=>e=.returned (.tuple #[.int .i64 (soV l X),.bool (soB l X)])∧Ext w w':=by
 obtain⟨wb,Hwb,hE0,hb,hg,hE,Hsz⟩:=j60 28 h;clear h;obtain⟨ao,c,adr,rfl,hlen,hadr,hcell⟩:=hX.op;have hix:=j6 (c:=c) elI szI hadr;clear hadr hX;go_enter Tryz.func332,Tryz.ntmps332;go_wp2_with fail;rw[←Hwb.out];go_loopw [6,7] (fun av iv wr=>∃(k a:Nat),k≤X.length∧iv=.int .i64 k∧av=.int .i64 a∧a<2 ^ 24∧Ext wb wr∧Hid (soG l X 0=soG l (X.drop k) a)) (fun _ iv _=>X.length - (intOf iv).toNat);case atStart=>exact⟨0,0,by omega,rfl,rfl,by decide,hE,Lib.hid rfl⟩
 case round =>
  clear hE;obtain⟨k,a,hk,rfl,rfl,ha,hE,H⟩:=hrel;by_cases hlt:k<X.length
  · have hd:=bl5 X k hlt;have hck:=fun U=>hcell k _ hlt (hE0.trans (hE.trans (b9 wr U)));have kb:=fun U=>hb _ (hE.trans (b9 wr U));have cI:=fun U=>ct9 v l (nth X k) (Lat wr U) (hg _ (hE.trans (b9 wr U)));have hEb:=hE;clear hE;have hE:=Ext.refl wr;cases hh:K2 l (nth X k)
    · have Hn:Hid (soB l X=false∧soV l X=0):=Lib.hid (c97 (by rw[H.out,hd,d74 hh]));rw[hh] at cI;clear hd hh;go_wp2_with fail;(refine d0 (wr) (by kernel_rfl) (by kernel_rfl) hE ?_);(repeat (go_big_quiet_step (first | (go_at_call 243;with_reducible exact Calls.lat (cI _)))));(refine wpQuiet_nil ?_);(intro W hE');(replace hE:=l7 hE');(clear hE');go_wp2_with fail;exact bodyPost_ret (v:=.tuple #[.int .i64 0,.bool false]) (by simp[results,Tryz.results332,go_sem]) rfl ⟨by rw[Hn.out.1,Hn.out.2],hE0.trans (hEb.trans hE)⟩
    · rw[hh] at cI;obtain⟨n,hn,hno,hgr⟩:=bb0 hh;have hob:=l8 hgr;have hck3:∀W,Ext wr W→W.cell? (adr k)=some (.int .i64 (n:Int)):=fun W hW=>(by rw[←hn];exact hcell k _ hlt (hE0.trans (hEb.trans hW)));rw[hn] at hd hh cI hck;have hsh:=P3 (a:=a) (n:=n) (by omega);have hbt:=b15 (a:=a) (n:=n) (by omega) (by omega);have hs1:=p0 (n:=n) (by omega);have hpw:=b04 (n:=n) (by omega);cases ht:a.testBit n
      · rw[ht] at hbt;have Hn:Hid (soG l X 0=soG l (X.drop (k+1)) (a ||| 2 ^ n)):=Lib.hid (by rw[H.out,hd,dj2 hh ht]);have Ha:Hid (((a:Int)+((pw n:Nat):Int))=((a ||| 2 ^ n:Nat):Int)):=Lib.hid (by rw[←dt0 ht,cm6];simp);have hab:a ||| 2 ^ n<2 ^ 24:=Nat.or_lt_two_pow ha (Nat.pow_lt_pow_right (by omega) (by omega))
        clear hd hh ht hgr hn;go_wp2_with fail;(refine d0 (wr) (by kernel_rfl) (by kernel_rfl) hE ?_);(repeat (go_big_quiet_step (first | (go_at_call 243;with_reducible exact Calls.lat (cI _)))));(refine wpQuiet_nil ?_);(intro W hE');(replace hE:=l7 hE');(clear hE');go_wp2_with fail;go_roundw;(case rel=>exact⟨k+1,a ||| 2 ^ n,by omega,by go_num,by rw[Ha.out],hab,hEb.trans hE,Hn⟩);case measure=>(simp[intOf];omega)
      · rw[ht] at hbt;have Hn:Hid (soB l X=false∧soV l X=0):=Lib.hid (c97 (by rw[H.out,hd,d73 ht]));clear hd hh ht hgr hn;go_wp2_with fail;(refine d0 (wr) (by kernel_rfl) (by kernel_rfl) hE ?_);(repeat (go_big_quiet_step (first | (go_at_call 243;with_reducible exact Calls.lat (cI _)))));(refine wpQuiet_nil ?_);(intro W hE');(replace hE:=l7 hE');(clear hE');go_wp2_with fail;exact bodyPost_ret (v:=.tuple #[.int .i64 0,.bool false]) (by simp[results,Tryz.results332,go_sem]) rfl ⟨by rw[Hn.out.1,Hn.out.2],hE0.trans (hEb.trans hE)⟩
  · have hkl:k=X.length:=(by omega);have Hn:Hid (soB l X=c9 l∧soV l X=(a:Int)):=Lib.hid (d75 (by rw[H.out,hkl,List.drop_length];rfl));clear hkl;go_wp2_with (refine (q9 _ _ _ (hg _ hE)).mono ?_;rintro e w' ⟨rfl,hE'⟩;replace hE:=hE.trans hE');exact bodyPost_ret (v:=.tuple #[.int .i64 a,.bool (c9 l)]) (by simp[results,Tryz.results332,go_sem]) rfl ⟨by rw[Hn.out.1,Hn.out.2],hE0.trans hE⟩
end Go.Zz
namespace Go.Zz
open Go.RowKit Go.Proofs
set_option maxHeartbeats 400000
def At(W:World)(a:Addr):Value:=(W.cell? a).getD (.int .i64 0)
def Res(W:World)(r n:Nat):Prop:=∀i,i<n→W.cell? ⟨r,i,none⟩=some (At W ⟨r,i,none⟩)∧W.frozen? ⟨r,i,none⟩=false
theorem d81{W:World}{a:Addr}{v:Value}(h:W.cell? a=some v):At W a=v:=by unfold At;rw[h];rfl
theorem Res.ext{W W':World}{r n:Nat}(h:Res W r n)(hE:Ext W W'):Res W' r n:=fun i hi=>by
 obtain⟨h1,h2⟩:=h i hi
 have h3:=hE.cell h1
 exact⟨by rw[d81 h3];exact h3,by rw[Below.frozen hE (World.block_lt_of_cell? W _ h1),h2]⟩
theorem Res.drew{W:World}{r n:Nat}(h:Res W r n):Res W.drew r n:=h.ext ((Ext.refl W).drew)
theorem Blk.res{W:World}{r:Nat}{T:TypeId}{cs:Array Value}(h:Blk W r T cs){n:Nat}(hn:n≤cs.size):Res W r n:=fun i hi=>by
 have h1:W.cell? ⟨r,i,none⟩=some (cs[i]'(by omega)):=h.cell (by simp)
 exact⟨by rw[d81 h1];exact h1,h.free i⟩
theorem Res.setCell{W:World}{r n:Nat}(h:Res W r n)(p:Addr)(x:Value):Res (W.setCell p x) r n:=fun i hi=>by
 obtain⟨h1,h2⟩:=h i hi
 obtain⟨v',hv⟩:=cell?_setCell_some (w:=W) (p:=p) (x:=x) h1
 exact⟨by rw[d81 hv];exact hv,by rw[World.frozen?_setCell,h2]⟩
theorem Blk.new'{w:World}{T:TypeId}{cs:Array Value}{b:Nat}(h:w.heap.size=b):Blk (w.alloc (.cells cs T)) b T cs:=by subst h;exact Blk.new _ _ _
theorem Calls.sh{P:Program}{f:FuncId}{args:Array Value}{TI:TypeId}{w:World}{L:List Int}(h:Calls P f args w fun e w'=>∃v,e=.returned v∧Own TI w w' v L∧Ext w w') :
 Calls P f args w fun e w'=>∃ao c,e=.returned (.slice ao L.length c)∧Own TI w w' (.slice ao L.length c) L∧Ext w w' :=
 h.mono fun e w' ⟨v,he,hO,hE⟩=>by
  obtain⟨ao,c,rfl,-⟩:=hO.shape
  exact⟨ao,c,he,hO,hE⟩
end Go.Zz
namespace Go.Zz
open Go.RowKit Go.Proofs
set_option maxHeartbeats 400000
def N0(TI:TypeId)(wb w0 w:World)(v:Value)(l:List Int):Prop :=
 (∃g,wb.heap.size≤g∧v=.slice (some ⟨g,0,none⟩) 0 0∧l=[]∧Blk w g TI #[])∨Own TI w0 w v l
theorem N0.ext{TI:TypeId}{wb w0 w w':World}{v:Value}{l:List Int}(h:N0 TI wb w0 w v l)(hE:Ext w w'):N0 TI wb w0 w' v l:=by
 rcases h with ⟨g,h0,h1,h2,h3⟩ | h
 · exact Or.inl ⟨g,h0,h1,h2,h3.ext hE⟩
 · exact Or.inr (h.ext hE)
theorem N0.own{TI:TypeId}{wb w0 w:World}{v:Value}{l:List Int}(h:N0 TI wb w0 w v l)(hE:Ext wb w0):Own TI wb w v l:=by
 rcases h with ⟨g,h0,rfl,rfl,h3⟩ | h
 · exact⟨⟨by simp,Or.inr ⟨g,0,#[],rfl,h0,h3,Nat.le_refl _,Nat.zero_le _,by simp,by simp⟩⟩,by simp⟩
 · exact h.mono hE
theorem N0.start{TI:TypeId}{wb w1 w:World}(w0:World)(hB:Blk w1 wb.heap.size TI #[])(hE:Ext w1 w):N0 TI wb w0 w (.slice (some ⟨wb.heap.size,0,none⟩) 0 0) []:=Or.inl ⟨_,Nat.le_refl _,rfl,rfl,hB.ext hE⟩
section
variable {P:Program} {ops:Array Oper} {rest:List Oper} {o:Oper} {a:Act} {Q:Exit→Act→World→Prop} {T TI:TypeId}
theorem d33(hT:IntSl P T TI)(hg:o.guard=none)(s x:Operand)(hop:o.op=Op.call { callee:=Callee.builtin Builtin.append,args:=#[s,x],argTypes:=#[T,T] })
 (wb w0 W:World) (v:Value) (l:List Int) (y:Int) (hO:N0 TI wb w0 W v l) (hE:Ext w0 W) (hn:l.length<17592186044416) (hs:a.eval s=v) (hx:a.eval x=.slice (some ⟨W.heap.size,0,none⟩) 1 1)
 (hK:∀v' w',Own TI w0 w' v' (l++[y])→Ext w0 w'→wpList P ops Q rest (a.put o.dst v') w') :
 wpList P ops Q (o :: rest) a (W.alloc (.cells #[.int .i64 y] TI)):=by
 rcases hO with ⟨g,-,rfl,rfl,hB⟩ | hO
 · obtain⟨i,hi,hz,hs1,hby⟩:=hT.info;have hE1:=hE.alloc (.cells #[.int .i64 y] TI);obtain⟨v',w',hrun,r1,r2⟩:=run_append_arg_grows (P:=P) (w:=W.alloc (.cells #[.int .i64 y] TI)) T o.type TI i (.int .i64 0) 1 8 hT.und hi hz hs1 hby rfl (by omega) ⟨g,0,none⟩ 0 0 [] (by simp) (by simp) ⟨W.heap.size,0,none⟩ 1 1 [.int .i64 y] rfl (cell_one_new _ _ _) (by omega) (by unfold maxLen;omega) (by omega);refine wpList_plain hg fun K hK'=>?_;unfold Oper.wp;simp[execOp,hop,resolve,invoke,builtin,hs,hx,hrun,Result.andThen];have hO':Own TI (W.alloc (.cells #[.int .i64 y] TI)) w' v' [y]:=⟨by simpa using r1,by simp⟩;exact hK' _ _ (hK _ _ (by simpa using hO'.mono hE1) (hE1.grown r2 (by simp)))
 · exact K4 hT hg s x hop w0 W v l y hO hE hn hs hx hK
end
end Go.Zz
namespace Go.Zz
open Go.RowKit Go.Proofs
set_option maxHeartbeats 400000
def bump(t:List Int)(z:Nat):List Int:=t.set z (nth t z+1)
theorem bl1(t:List Int)(z:Nat):(bump t z).length=t.length:=by simp[bump]
def L0(l:List Int)(x:Nat)(t:List Int)(L:List Nat):List Int:=L.foldl (fun t y=>bump t (j9 l x y)) t
def G3(l:List Int)(b:Nat)(t:List Int)(L:List Nat):List Int:=L.foldl (fun t x=>L0 l x t (j1 b)) t
theorem ca2(l:List Int)(x:Nat)(t:List Int)(L:List Nat)(y:Nat):L0 l x t (L++[y])=bump (L0 l x t L) (j9 l x y):=by
 unfold L0;rw[List.foldl_append];rfl
theorem c10(l:List Int)(b:Nat)(t:List Int)(L:List Nat)(x:Nat):G3 l b t (L++[x])=L0 l x (G3 l b t L) (j1 b):=by
 unfold G3;rw[List.foldl_append];rfl
theorem cv0(t:List Int)(z i:Nat)(hz:z<t.length):nth (bump t z) i=if i=z then nth t z+1 else nth t i:=by
 unfold bump nth;simp only[List.getD_eq_getElem?_getD,List.getElem?_set];by_cases h:i=z
 · subst h;simp[hz]
 · have h':¬z=i:=fun e=>h e.symm;simp[h,h']
def b66(t:List Int)(B:Int):Prop:=∀i,0≤nth t i∧nth t i≤B
theorem b66.bump{t:List Int}{B:Int}(h:b66 t B){z:Nat}(hz:z<t.length):b66 (bump t z) (B+1):=fun i=>by
 rw[cv0 t z i hz]
 have h1:=h z
 have h2:=h i
 split<;>omega
theorem b66.zeros(n:Nat):b66 (List.replicate n 0) 0:=fun i=>by
 unfold nth
 simp only[List.getD_eq_getElem?_getD,List.getElem?_replicate]
 split<;>simp
def bo0(l:List Int)(a b:Int):List Int:=if d8 l a&&d8 l b then G3 l b.toNat (List.replicate (ord l) 0) (j1 a.toNat) else []
theorem d78{l:List Int}{a b:Int}(h:(d8 l a&&d8 l b)=false):bo0 l a b=[]:=by unfold bo0;rw[h];rfl
theorem c53{l:List Int}{a b:Nat}(h:(d8 l a&&d8 l b)=true):bo0 l a b=G3 l b (List.replicate (ord l) 0) (j1 a):=by unfold bo0;rw[h];rfl
end Go.Zz
namespace Go.Zz
open Go.RowKit Go.Proofs
set_option maxHeartbeats 400000
theorem Own.cellAt{TI:TypeId}{w0 w:World}{g n c:Nat}{l:List Int}(h:Own TI w0 w (.slice (some ⟨g,0,none⟩) n c) l)(hn:l.length=n){i:Nat}(hi:i<n) :
 w.cell? ⟨g,i,none⟩=some (.int .i64 (nth l i))∧w.frozen? ⟨g,i,none⟩=false:=by
 obtain⟨ao',c',hv,-,-,hs⟩:=h.shape;obtain⟨g',hg1,hc1,hf1⟩:=hs i (by omega);simp only[Value.slice.injEq] at hv;obtain⟨hv1,-,-⟩:=hv;rw[←hv1] at hg1;simp only[Option.some.injEq,Addr.mk.injEq,and_true] at hg1;obtain rfl:=hg1;exact⟨hc1,hf1⟩
theorem Own.row{TI:TypeId}{w0 w:World}{ao:Option Addr}{n c:Nat}{l:List Int}(h:Own TI w0 w (.slice ao n c) l)(hn:l.length=n)(hp:0<n) :
 ∃g,ao=some ⟨g,0,none⟩∧w0.heap.size≤g∧g<w.heap.size:=by
 obtain⟨ao',c',hv,-,hb,hs⟩:=h.shape;obtain⟨g',hg1,hc1,hf1⟩:=hs 0 (by omega);simp only[Value.slice.injEq] at hv;obtain⟨hv1,-,-⟩:=hv;subst hv1;obtain⟨g,e,h1,h2⟩:=hb _ hg1;exact⟨g,by rw[hg1,e],h1,h2⟩
theorem Own.nshape{TI:TypeId}{w0 w:World}{v:Value}{L:List Nat}(h:Own TI w0 w v (d6 L)):∃(ao:Option Addr) (c:Nat),v=.slice ao L.length c:=by
 obtain⟨ao,c,e,-,-,-⟩:=h.shape;exact⟨ao,c,by rw[e,j8]⟩
theorem b23(g n c:Nat):∀(i:Nat) W,i<n→(Instr.indexAt 26 (.slice (some ⟨g,0,none⟩) n c) (.int .i64 (i:Int))).run Tryz.prog W=.ok (.pointer (some ⟨g,i,none⟩)) W:=by
 intro i W hi;rw[run_indexAt_slice (h:=elI),if_pos (by omega),szI];simp[Result.andThen,Addr.add_lit]
theorem bd5{L:List Nat}{i:Nat}:nth (d6 L) i=(d5 L i:Int):=b22 L i
theorem b63(l:List Int)(x:Nat):∀(L:List Nat) (t:List Int),(L0 l x t L).length=t.length
 | [],t=>rfl
 | y :: L,t=>by
  show (L0 l x (bump t (j9 l x y)) L).length=t.length
  rw[b63 l x L,bl1]
theorem b83(l:List Int)(b:Nat):∀(L:List Nat) (t:List Int),(G3 l b t L).length=t.length
 | [],t=>rfl
 | x :: L,t=>by
  show (G3 l b (L0 l x t (j1 b)) L).length=t.length
  rw[b83 l b L,b63]
theorem bo1{l:List Int}(hg:c9 l=true)(x:Nat):∀(L:List Nat) (t:List Int) (B:Int),t.length=ord l→b66 t B→b66 (L0 l x t L) (B+L.length)
 | [],t,B,_,h=>by simpa[L0] using h
 | y :: L,t,B,hl,h=>by
  have hz:j9 l x y<t.length:=by rw[hl];exact E9 l (m0 hg) x y
  have:=bo1 hg x L (bump t (j9 l x y)) (B+1) (by rw[bl1];exact hl) (h.bump hz)
  show b66 (L0 l x (bump t (j9 l x y)) L) _
  rw[List.length_cons]
  intro i;have:=this i;push_cast at this ⊢;omega
theorem c11{l:List Int}(hg:c9 l=true)(b:Nat):∀(L:List Nat) (t:List Int) (B:Int),t.length=ord l→b66 t B→b66 (G3 l b t L) (B+24*L.length)
 | [],t,B,_,h=>by simpa[G3] using h
 | x :: L,t,B,hl,h=>by
  have h1:=bo1 hg x (j1 b) t B hl h
  have h2:=c11 hg b L (L0 l x t (j1 b)) (B+(j1 b).length) (by rw[b63];exact hl) h1
  have h3:=C9 b
  show b66 (G3 l b (L0 l x t (j1 b)) L) _
  rw[List.length_cons]
  intro i;have:=h2 i;push_cast at this ⊢;omega
theorem cz0{l:List Int}(hg:c9 l=true){b x:Nat}{L M:List Nat}(hL:L.length≤24)(hM:M.length≤24)(i:Nat) :
 0≤nth (L0 l x (G3 l b (List.replicate (ord l) 0) L) M) i∧nth (L0 l x (G3 l b (List.replicate (ord l) 0) L) M) i≤1000:=by
 have h1:=c11 hg b L _ 0 (by simp) (b66.zeros (ord l));have h2:=bo1 hg x M _ _ (by rw[b83];simp) h1;have:=h2 i;omega
theorem cn6(v:Value)(l:List Int)(a b:Int)(w:World)(h:c8 w v l) :
 Calls Tryz.prog 223 #[.agg #[v],.int .i64 a,.int .i64 b] w fun e w'=>∃u,e=.returned u∧Own 3 w w' u (bo0 l a b)∧Ext w w':=by
 obtain⟨wb,Hwb,hE0,hb,hg,hE,Hsz⟩:=j60 28 h;clear h;have hbx:=hb wb hE;have har:=ba0 l a b;cases hs:(d8 l a&&d8 l b)
 · have Hs:=Lib.hid (d78 hs);rw[hs] at har;clear hs;go_enter Tryz.func223,Tryz.ntmps223;go_wp2_with fail;rw[←Hwb.out];rw[Hsz.out];go_wp2_with (first | (go_at_call 222;refine Calls.mono (F3 _ _ _ _ _ (hg _ xq) (S9 _ _ _ _) har) ?_;rintro e w' ⟨rfl,hE'⟩;replace hE:=hE.trans (Ext.trans xq hE');clear hE'));go_ret;exact⟨_,rfl,by rw[Hs.out];exact q5 (by omega) (hE0.trans hE) [] rfl,(hE0.trans hE).alloc _⟩
 · obtain⟨h1,h2⟩:=Bool.and_eq_true_iff.1 hs;obtain⟨a,rfl,-,ha,hgr⟩:=m3 h1;obtain⟨b,rfl,-,hb',-⟩:=m3 h2;have Hs:=Lib.hid (c53 hs);rw[hs] at har;have Hgr:=Lib.hid hgr;have hob:=l8 hgr;clear hs hgr h1 h2;go_enter Tryz.func223,Tryz.ntmps223;go_wp2_with fail;rw[←Hwb.out];rw[Hsz.out];go_wp2_with (first | (go_at_call 222;refine Calls.mono (F3 _ _ _ _ _ (hg _ xq) (S9 _ _ _ _) har) ?_;rintro e w' ⟨rfl,hE'⟩;replace hE:=hE.trans (Ext.trans xq hE');clear hE') | (go_at_call 99;refine cx (m9 _ _ _ (hg _ hE) (Hgr)) hE ?_;clear hE;intro w' hE) | (at_make;refine bc7 slI rfl _ _ rfl wb _ (ord l) rfl rfl (by omega) hE ?_;intro w2 hO hE2) | (go_at_call 214;refine (I9 a ha _).mono ?_;rintro e w1 ⟨v1,rfl,hL,hE1⟩;obtain⟨aoL,cL,rfl⟩:=hL.nshape));obtain⟨g,hgd⟩:∃g,g=w'.heap.size:=⟨_,rfl⟩;rw[←hgd] at hO ⊢;clear hgd;obtain⟨_,_,hg1,hg2⟩:=hO.row (by simp) (by omega);rename_i hge;simp only[Option.some.injEq,Addr.mk.injEq,and_true] at hge;subst hge;replace hO:=hO.ext hE1;replace hE:=hE2.trans hE1;have hixO:=b23 g (ord l) (ord l);have hall:∀y∈j1 a,y<24:=fun y hy=>G7 hy;have hlen:=C9 a;clear hE1 hE2;generalize j1 a=L at hL hall hlen Hs ⊢;go_loopw [25] (fun i wr=>∃k:Nat,k≤L.length∧i=.int .i64 k∧Own 3 wb wr (.slice (some ⟨g,0,none⟩) (ord l) (ord l)) (G3 l b (List.replicate (ord l) 0) (L.take k))∧Own 3 w2 wr (.slice aoL L.length cL) (d6 L)∧Ext wb wr) (fun i _=>L.length - (intOf i).toNat);(case atStart=>exact⟨0,by omega,rfl,hO,hL,hE⟩);case round =>
    clear hE hO hL;obtain⟨k,hk,rfl,hO,hL,hE⟩:=hrel;have hbx:=hb _ hE;by_cases hlt:k<L.length
    · obtain⟨gL,rfl,-,-⟩:=hL.row (j8 L) (by omega);have hck:=(hL.cellAt (j8 L) hlt).1;rw[bd5] at hck;have hixL:=b23 gL L.length cL;have hgw:g<wr.heap.size:=(hO.blk g rfl).2;have hx24:=hall _ (o6 hlt);have Hsn:=Lib.hid (c10 l b (List.replicate (ord l) 0) (L.take k) (d5 L k));have Htk:=Lib.hid (S0 L k hlt);have hLk:(L.take k).length≤24:=(by rw[List.length_take];omega);go_wp2_with (first | (go_at_call 214;refine (I9 b hb' _).mono ?_;rintro e w3 ⟨v3,rfl,hM,hE3⟩;obtain⟨aoM,cM,rfl⟩:=hM.nshape));replace hO:=hO.ext hE3;replace hL:=hL.ext hE3;replace hE:=hE.trans hE3;have hallM:∀y∈j1 b,y<24:=fun y hy=>G7 hy;have hlenM:=C9 b;obtain⟨M,hMd⟩:∃M,M=j1 b:=⟨_,rfl⟩;rw[←hMd] at hM hallM hlenM ⊢;have HMd:=Lib.hid hMd;clear hMd hck hixL;go_loopw [32] (fun i wq=>∃j:Nat,j≤M.length∧i=.int .i64 j∧Own 3 wb wq (.slice (some ⟨g,0,none⟩) (ord l) (ord l)) (L0 l (d5 L k) (G3 l b (List.replicate (ord l) 0) (L.take k)) (M.take j))∧Own 3 w2 wq (.slice (some ⟨gL,0,none⟩) L.length cL) (d6 L)∧Own 3 wr wq (.slice aoM M.length cM) (d6 M)∧Ext wb wq) (fun i _=>M.length - (intOf i).toNat);(case atStart=>exact⟨0,by omega,rfl,hO,hL,hM,hE⟩);case round =>
       clear hE hO hL hM hbx;obtain⟨j,hj,rfl,hO,hL,hM,hE⟩:=hrel;have hbx:=hb _ hE;by_cases hlt2:j<M.length
       · obtain⟨gM,rfl,-,-⟩:=hM.row (j8 M) (by omega);have hck:=(hM.cellAt (j8 M) hlt2).1;rw[bd5] at hck;have hixM:=b23 gM M.length cM;have hy24:=hallM _ (o6 hlt2);have Hsn2:=Lib.hid (ca2 l (d5 L k) (G3 l b (List.replicate (ord l) 0) (L.take k)) (M.take j) (d5 M j));have Htk2:=Lib.hid (S0 M j hlt2);have hMj:(M.take j).length≤24:=(by rw[List.length_take];omega);have hfit:=cz0 Hgr.out (b:=b) (x:=d5 L k) hLk hMj (j9 l (d5 L k) (d5 M j));have hzo:=E9 l (m0 Hgr.out) (d5 L k) (d5 M j);have hT:Hid ((L0 l (d5 L k) (G3 l b (List.replicate (ord l) 0) (L.take k)) (M.take j)).length=ord l):=Lib.hid (by rw[b63,b83];simp);generalize L0 l (d5 L k) (G3 l b (List.replicate (ord l) 0) (L.take k)) (M.take j)=T at hO hfit Hsn2 hT;go_wp2_with (first | (go_at_call 224;refine (N2 _ _ _ _ _ (hg _ hE) Hgr (by omega) (by omega)).mono ?_;rintro e w4 ⟨rfl,hE'⟩;replace hO:=hO.ext hE';replace hL:=hL.ext hE';replace hM:=hM.ext hE';replace hE:=hE.trans hE';obtain⟨hzc,hzf⟩:=hO.cellAt hT.out hzo;clear hE'));go_roundw;case rel =>
          refine⟨j+1,by omega,by go_num,?_,hL.setCell_below hg2 _,hM.setCell_below hgw _,hE.setCell hg1 _⟩;rw[Htk2.out,Hsn2.out];exact (hO.stored_grown hT.out _ _).1
         case measure=>(simp[intOf];omega)
       · have hkl:j=M.length:=(by omega);subst hkl;have hO':Own 3 wb wr (.slice (some ⟨g,0,none⟩) (ord l) (ord l)) (G3 l b (List.replicate (ord l) 0) (L.take (k+1))):=by
          rw[Htk.out,Hsn.out,←HMd.out];rw[List.take_length] at hO;exact hO
         go_wp2_with fail;go_roundw;(case rel=>exact⟨k+1,by omega,by go_num,hO',hL,hE⟩);case measure=>(simp[intOf];omega)
    · have hkl:k=L.length:=(by omega);subst hkl;rw[List.take_length,←Hs.out] at hO;go_wp2_with fail;go_ret;exact⟨_,rfl,hO.mono hE0,hE0.trans hE⟩
end Go.Zz
namespace Go.Zz
open Go.RowKit Go.Proofs
set_option maxHeartbeats 400000
end Go.Zz
namespace Go.Zz
open Go.RowKit Go.Proofs
set_option maxHeartbeats 400000
def M8(l:List Int)(a:Int):Int:=if d8 l a && !(a == 0) then ((ord l:Int)+cnt a.toNat - 1) / cnt a.toNat else -1
theorem c38{l:List Int}{a:Int}(h:d8 l a=false):M8 l a = -1:=by unfold M8;rw[h];rfl
theorem bm4(l:List Int):M8 l 0 = -1:=by unfold M8;simp
theorem bt7{l:List Int}{n:Nat}(h:d8 l n=true)(h0:0<n):M8 l n=((ord l:Int)+cnt n - 1) / cnt n:=by
 unfold M8;have:((n:Int) == 0)=false:=by simp;omega
 rw[h,this];simp
theorem b97(v:Value)(l:List Int)(a:Int)(w:World)(h:c8 w v l) :
 Calls Tryz.prog 149 #[.agg #[v],.int .i64 a] w fun e w'=>e=.returned (.int .i64 (M8 l a))∧Ext w w':=by
 have hE0:=(Ext.refl w).alloc (.cells #[v] 28);have hE:=Ext.refl (w.alloc (.cells #[v] 28));have hb:=d7 w v 28;have hg:∀W,Ext (w.alloc (.cells #[v] 28)) W→c8 W v l:=fun W hW=>h.ext (hE0.trans hW);clear h;cases hs:d8 l a
 · have Hs:=Lib.hid hs;go_enter Tryz.func149,Tryz.ntmps149;go_wp2_with (first | (go_at_call 105;refine cx (H6 _ _ _ _ (hg _ hE)) hE ?_;clear hE;intro w' hE));go_ret;exact⟨m8 (c38 Hs.out).symm,hE0.trans hE⟩
 · obtain⟨n,rfl,h1,h2,h3⟩:=m3 hs;by_cases h0:n=0
   · subst h0;go_enter Tryz.func149,Tryz.ntmps149;go_wp2_with (first | (go_at_call 105;refine cx (H6 _ _ _ _ (hg _ hE)) hE ?_;clear hE;intro w' hE));go_ret;exact⟨m8 (bm4 l).symm,hE0.trans hE⟩
   · have h0':((n:Int) == 0)=false:=(by simp;omega);have hm:=Lib.hid (bt7 hs (by omega));have hb1:=l8 h3;have hb2:=Q8 (by omega) h2;have hb3:=p7 n;have ho:=Z9 h3;have h3':=Lib.hid h3;clear h3;have hq1:0≤(ord l:Int)+cnt n - 1:=(by omega);go_enter Tryz.func149,Tryz.ntmps149;go_wp2_with (first | (go_at_call 105;refine cx (H6 _ _ _ _ (hg _ hE)) hE ?_;clear hE;intro w' hE) | (go_at_call 99;refine cx (N7 _ _ _ (hg _ hE)) hE ?_;clear hE;intro w' hE) | (go_at_call 107;refine (E0 _ (h2) _).mono ?_;rintro e w' ⟨rfl,rfl⟩));go_ret;exact⟨m8 hm.out.symm,hE0.trans hE⟩
theorem b74(v:Value)(l:List Int)(a:Int)(w:World)(h:c8 w v l) :
 Calls Tryz.prog 84 #[.agg #[v],.int .i64 a] w fun e w'=>e=.returned (.int .i64 (M8 l a))∧Ext w w':=by
 have hE0:=(Ext.refl w).alloc (.cells #[v] 28);have hE:=Ext.refl (w.alloc (.cells #[v] 28));have hb:=d7 w v 28;have hg:∀W,Ext (w.alloc (.cells #[v] 28)) W→c8 W v l:=fun W hW=>h.ext (hE0.trans hW);clear h;cases hs:d8 l a
 · have Hs:=Lib.hid hs;go_enter Tryz.func84,Tryz.ntmps84;go_wp2_with (first | (go_at_call 46;refine cx (M2 _ _ _ _ (hg _ hE)) hE ?_;clear hE;intro w' hE));go_ret;exact⟨m8 (c38 Hs.out).symm,hE0.trans hE⟩
 · obtain⟨n,rfl,h1,h2,h3⟩:=m3 hs;by_cases h0:n=0
   · subst h0;go_enter Tryz.func84,Tryz.ntmps84;go_wp2_with (first | (go_at_call 46;refine cx (M2 _ _ _ _ (hg _ hE)) hE ?_;clear hE;intro w' hE));go_ret;exact⟨m8 (bm4 l).symm,hE0.trans hE⟩
   · have h0':((n:Int) == 0)=false:=(by simp;omega);have hm:=Lib.hid (bt7 hs (by omega));have hb1:=l8 h3;have hb2:=Q8 (by omega) h2;have hb3:=p7 n;have ho:=trivial;have h3':=Lib.hid h3;clear h3;have hq1:0≤(ord l:Int)+cnt n - 1:=(by omega);go_enter Tryz.func84,Tryz.ntmps84;go_wp2_with (first | (go_at_call 46;refine cx (M2 _ _ _ _ (hg _ hE)) hE ?_;clear hE;intro w' hE) | (go_at_call 43;refine cx (m4 _ _ _ (hg _ hE) (h3')) hE ?_;clear hE;intro w' hE) | (go_at_call 66;refine (o9 _ (h2) _).mono ?_;rintro e w' ⟨rfl,rfl⟩));go_ret;exact⟨m8 hm.out.symm,hE0.trans hE⟩
end Go.Zz
namespace Go.Zz
open Go.RowKit Go.Proofs
set_option maxHeartbeats 400000
def IsK(w:World)(c:Value)(l:List Int)(n:Int)(m:List Int):Prop:=∃v u,c=.agg #[v,.int .i64 n,u]∧c8 w v l∧c8 w u m
theorem IsK.ext{w w':World}{c:Value}{l m:List Int}{n:Int}(h:IsK w c l n m)(hE:Ext w w'):IsK w' c l n m:=by
 obtain⟨v,u,rfl,h1,h2⟩:=h;exact⟨v,u,rfl,h1.ext hE,h2.ext hE⟩
end Go.Zz
