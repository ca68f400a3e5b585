/- Defects of sums, periods, dz7 differences, the case of Kemperman. -/
import Derived.Test.YtnnbhcalddkmmaaGreatGr21
import Derived.Test.YtnnbhcalddkmmaaGreatGr5
import Derived.Deep.RegionHeld3
import Derived.Deep.RegionWith
set_option linter.unusedSimpArgs false
set_option linter.unusedVariables false
set_option linter.unnecessarySimpa false
namespace Go.Zz
open Go.RowKit Go.Proofs
set_option maxHeartbeats 1000000
set_option maxRecDepth 20000
def sdF(l:List Int)(a b:Int):Int:=if p8 l a b then (cnt (j3 l a.toNat b.toNat):Int) - cnt a.toNat - cnt b.toNat+1 else -100
theorem cx5{l:List Int}{a b:Int}(h:p8 l a b=false):sdF l a b = -100:=by unfold sdF;rw[h];rfl
theorem ce4{l:List Int}{a b:Nat}(h:p8 l a b=true):sdF l a b=(cnt (j3 l a b):Int) - cnt a - cnt b+1:=by unfold sdF;rw[if_pos h];rfl
theorem di3(l:List Int)(a b:Int)(h:p8 l a b=true) : -47≤sdF l a b∧sdF l a b≤25:=by
 obtain⟨m,n,rfl,rfl,-⟩:=I4 h;rw[ce4 h];have:=p7 (j3 l m n);have:=p7 m;have:=p7 n;omega
theorem d28{l:List Int}(h:c9 l=true){a:Nat}(ha:a<2 ^ ord l):j2 l a 0=a:=by
 apply Nat.eq_of_testBit_eq;intro i;apply R0;rw[D0];constructor
 · rintro⟨y,_,hy,e⟩;rw[C5 l (m0 h) y (G9 ha hy)] at e;subst e;exact hy
 · intro hi;have:=G9 ha hi;exact⟨i,Nat.lt_of_lt_of_le this (l8 h).2,hi,C5 l (m0 h) i this⟩
theorem cf0{l:List Int}{a k x:Nat}:(R9 l a k).testBit x=true↔x<k∧j2 l a x=a:=by
 unfold R9;rw[I7];simp
theorem db5{l:List Int}(h:c9 l=true){a:Nat}(ha:a<2 ^ ord l):(C7 l a).testBit 0=true :=
 cf0.2 ⟨(l8 h).1,d28 h ha⟩
theorem d89{n:Nat}(h:n.testBit 0=true)(hn:n<2 ^ 24):1<cnt n↔1<n:=by
 rw[Nat.testBit_zero] at h;have h1:n % 2=1:=of_decide_eq_true h;have h2:=cp6 n hn;by_cases h3:1<n
 · have:=Q8 (a:=n / 2) (by omega) (by omega);omega
 · have e:n / 2=0:=(by omega);rw[e,S8] at h2;omega
def I6(l:List Int)(a:Int):Bool:=d8 l a&&decide (1<C7 l a.toNat)
theorem d67{l:List Int}{a:Int}(h:d8 l a=false):I6 l a=false:=by unfold I6;rw[h];rfl
theorem cv6{l:List Int}{n:Nat}(h:d8 l n=true):I6 l n=decide (1<C7 l n):=by unfold I6;rw[h];rfl
def bt0(M:List Int)(x:Int):Int:=match (List.range M.length).find? (fun k=>decide (nth M k=x)) with | some k=>(k:Int) | none=>-1
theorem dv7{M:List Int}{x:Int}{k:Nat}(hk:k<M.length)(h:∀j,j<k→nth M j≠x)(e:nth M k=x):bt0 M x=k:=by
 unfold bt0;rw[bx2 hk (fun j hj=>decide_eq_false (h j hj)) (decide_eq_true e)]
theorem ch2{M:List Int}{x:Int}(h:∀j,j<M.length→nth M j≠x):bt0 M x = -1:=by
 unfold bt0;rw[bs2 (fun j hj=>decide_eq_false (h j hj))]
theorem d61{M:List Int}{x:Int}(h:∀j,j<M.length→nth M j≠x):x ∉ M:=fun hx=>by
 obtain⟨k,hk,e⟩:=b90 hx;exact h k hk e
def Z7(M:List Int)(x:Int):Bool:=decide (x∈M)
theorem dn7(M:List Int)(x:Int):decide (0≤bt0 M x)=Z7 M x:=by
 by_cases h:∃k,k<M.length∧nth M k=x
 · have:x∈M:=(by obtain⟨k,hk,e⟩:=h;rw[←e];exact b92 hk);have hm:Z7 M x=true:=decide_eq_true this;rw[hm,decide_eq_true_eq];unfold bt0;cases hf:(List.range M.length).find? (fun k=>decide (nth M k=x)) with
   | some k=>simp only[];omega
   | none =>
    rw[List.find?_eq_none] at hf;obtain⟨k,hk,e⟩:=h;exact absurd (decide_eq_true e) (hf k (List.mem_range.2 hk))
 · have h':∀j,j<M.length→nth M j≠x:=fun j hj e=>h ⟨j,hj,e⟩;rw[ch2 h'];have hm:Z7 M x=false:=decide_eq_false (d61 h');rw[hm];rfl
def d91(L M:List Int):Option Nat:=(List.range L.length).find? (fun k=>Z7 M (nth L k))
def br1(L M:List Int):Int:=match d91 L M with | some k=>nth L k | none=>0
def ba3(L M:List Int):Bool:=(d91 L M).isSome
theorem dd6{L M:List Int}{k:Nat}(hk:k<L.length)(h:∀j,j<k→Z7 M (nth L j)=false)(e:Z7 M (nth L k)=true):br1 L M=nth L k∧ba3 L M=true:=by
 unfold br1 ba3 d91;rw[bx2 hk h e];exact⟨rfl,rfl⟩
theorem cp8{L M:List Int}(h:∀j,j<L.length→Z7 M (nth L j)=false):br1 L M=0∧ba3 L M=false:=by
 unfold br1 ba3 d91;rw[bs2 h];exact⟨rfl,rfl⟩
theorem H4(v:Value)(l:List Int)(a b:Int)(w:World)(h:c8 w v l){c:Bool}(hc:p8 l a b=c) :
 Calls Tryz.prog 118 #[.agg #[v],.int .i64 a,.int .i64 b] w fun e w'=>e=.returned (.bool c)∧Ext w w':=by subst hc;exact bf9 v l a b w h
theorem P0(v:Value)(l:List Int)(a b:Int)(w:World)(h:c8 w v l) :
 Calls Tryz.prog 230 #[.agg #[v],.int .i64 a,.int .i64 b] w fun e w'=>e=.returned (.int .i64 (sdF l a b))∧Ext w w':=by
 obtain⟨wb,Hwb,hE0,hb,hg,hE,Hsz⟩:=j60 28 h;clear h;have hbx:=hb wb hE;cases hf:p8 l a b
 · have Hs:=Lib.hid (cx5 hf);go_enter Tryz.func230,Tryz.ntmps230;go_wp2_with fail;rw[←Hwb.out];go_wp2_with (first | (go_at_call 118;refine cx (H4 _ _ _ _ _ (hg _ hE) hf) hE ?_;clear hE;intro w' hE));go_ret;exact⟨m8 Hs.out.symm,hE0.trans hE⟩
 · have hf':=hf;obtain⟨m,n,rfl,rfl,-,-,-,-,ha,hb',hgr,-,-⟩:=I4 hf;have Hs:=Lib.hid (ce4 hf');have Hgr:=Lib.hid hgr;have q:=F5 hgr m n;have q1:=p7 (j3 l m n);have q2:=p7 m;have q3:=p7 n;clear hgr hf';go_enter Tryz.func230,Tryz.ntmps230;go_wp2_with fail;rw[←Hwb.out];go_wp2_with (first | (go_at_call 118;refine cx (H4 _ _ _ _ _ (hg _ hE) hf) hE ?_;clear hE;intro w' hE) | (go_at_call 119;refine cx (H5 _ _ _ _ _ (hg _ hE) (Hgr) (ha) (hb')) hE ?_;clear hE;intro w' hE) | (go_at_call 107;(first | (with_reducible refine Calls.mono (E0 _ q _) ?_) | (with_reducible refine Calls.mono (E0 _ ha _) ?_) | (with_reducible refine Calls.mono (E0 _ hb' _) ?_));rintro e w' ⟨rfl,rfl⟩));go_ret;exact⟨m8 Hs.out.symm,hE0.trans hE⟩
theorem N6(v:Value)(l:List Int)(a b:Int)(w:World)(h:c8 w v l) :
 Calls Tryz.prog 194 #[.agg #[v],.int .i64 a,.int .i64 b] w fun e w'=>e=.returned (.int .i64 (sdF l a b))∧Ext w w':=by
 obtain⟨wb,Hwb,hE0,hb,hg,hE,Hsz⟩:=j60 28 h;clear h;have hbx:=hb wb hE;cases hf:p8 l a b
 · have Hs:=Lib.hid (cx5 hf);cases h1:d8 l a
   ·
      go_enter Tryz.func194,Tryz.ntmps194
      go_wp2_with fail
      rw[←Hwb.out]
      go_wp2_with (first | (go_at_call 46;refine cx (l5 _ _ _ _ (hg _ hE) (h1)) hE ?_;clear hE;intro w' hE))
      go_ret
      exact⟨m8 Hs.out.symm,hE0.trans hE⟩
   · cases h2:d8 l b
     ·
        go_enter Tryz.func194,Tryz.ntmps194
        go_wp2_with fail
        rw[←Hwb.out]
        go_wp2_with (first | (go_at_call 46;(first | (with_reducible refine Calls.mono (l5 _ _ a _ (hg _ hE) h1) ?_) | (with_reducible refine Calls.mono (l5 _ _ b _ (hg _ hE) h2) ?_));rintro e w' ⟨rfl,hE'⟩;replace hE:=hE.trans hE';clear hE'))
        go_ret
        exact⟨m8 Hs.out.symm,hE0.trans hE⟩
     · cases h3:(a == 0)
       · have h4:(b == 0)=true:=(by unfold p8 at hf;rw[h1,h2,h3] at hf;simpa using hf);clear hf
         ·
            go_enter Tryz.func194,Tryz.ntmps194
            go_wp2_with fail
            rw[←Hwb.out]
            go_wp2_with (first | (go_at_call 46;(first | (with_reducible refine Calls.mono (l5 _ _ a _ (hg _ hE) h1) ?_) | (with_reducible refine Calls.mono (l5 _ _ b _ (hg _ hE) h2) ?_));rintro e w' ⟨rfl,hE'⟩;replace hE:=hE.trans hE';clear hE'))
            go_ret
            exact⟨m8 Hs.out.symm,hE0.trans hE⟩
       · clear hf
         ·
            go_enter Tryz.func194,Tryz.ntmps194
            go_wp2_with fail
            rw[←Hwb.out]
            go_wp2_with (first | (go_at_call 46;(first | (with_reducible refine Calls.mono (l5 _ _ a _ (hg _ hE) h1) ?_) | (with_reducible refine Calls.mono (l5 _ _ b _ (hg _ hE) h2) ?_));rintro e w' ⟨rfl,hE'⟩;replace hE:=hE.trans hE';clear hE'))
            go_ret
            exact⟨m8 Hs.out.symm,hE0.trans hE⟩
 · have hf':=hf;obtain⟨m,n,rfl,rfl,h3,h4,-,-,ha,hb',hgr,h1,h2⟩:=I4 hf;have Hs:=Lib.hid (ce4 hf');have Hgr:=Lib.hid hgr;have q:=F5 hgr m n;have q1:=p7 (j3 l m n);have q2:=p7 m;have q3:=p7 n;have h3':((m:Int) == 0)=false:=(by simp;omega);have h4':((n:Int) == 0)=false:=(by simp;omega);clear hgr hf' hf h3 h4;go_enter Tryz.func194,Tryz.ntmps194;go_wp2_with fail;rw[←Hwb.out];go_wp2_with (first | (go_at_call 46;(first | (with_reducible refine Calls.mono (l5 _ _ (m:Int) _ (hg _ hE) h1) ?_) | (with_reducible refine Calls.mono (l5 _ _ (n:Int) _ (hg _ hE) h2) ?_));rintro e w' ⟨rfl,hE'⟩;replace hE:=hE.trans hE';clear hE') | (go_at_call 49;refine cx (E4 _ _ _ _ _ (hg _ hE) (Hgr) (ha) (hb')) hE ?_;clear hE;intro w' hE) | (go_at_call 66;(first | (with_reducible refine Calls.mono (o9 _ q _) ?_) | (with_reducible refine Calls.mono (o9 _ ha _) ?_) | (with_reducible refine Calls.mono (o9 _ hb' _) ?_));rintro e w' ⟨rfl,rfl⟩));go_ret;exact⟨m8 Hs.out.symm,hE0.trans hE⟩
theorem b39(v:Value)(l:List Int)(a:Int)(w:World)(h:c8 w v l) :
 Calls Tryz.prog 217 #[.agg #[v],.int .i64 a] w fun e w'=>e=.returned (.bool (I6 l a))∧Ext w w':=by
 obtain⟨wb,Hwb,hE0,hb,hg,hE,Hsz⟩:=j60 28 h;clear h;have hbx:=hb wb hE;cases hs:d8 l a
 · have Hs:=Lib.hid (d67 hs);go_enter Tryz.func217,Tryz.ntmps217;go_wp2_with fail;rw[←Hwb.out];go_wp2_with (first | (go_at_call 105;refine cx (o7 _ _ _ _ (hg _ hE) (hs)) hE ?_;clear hE;intro w' hE));go_ret;exact⟨l9 Hs.out.symm,hE0.trans hE⟩
 · obtain⟨n,rfl,h1,h2,hgr⟩:=m3 hs;have hst:C7 l n<2 ^ 24:=Nat.lt_of_lt_of_le (b12 l _) (E1 hgr);have Hs:Hid (I6 l n=decide ((1:Int)<(cnt (C7 l n):Int))):=Lib.hid (by
    rw[cv6 hs];have:=d89 (db5 hgr h1) hst;by_cases e:1<C7 l n
    · rw[decide_eq_true e,decide_eq_true (by omega)]
    · rw[decide_eq_false e,decide_eq_false (by omega)])
   clear hgr h1;go_enter Tryz.func217,Tryz.ntmps217;go_wp2_with fail;rw[←Hwb.out];go_wp2_with (first | (go_at_call 105;refine cx (o7 _ _ _ _ (hg _ hE) (hs)) hE ?_;clear hE;intro w' hE) | (go_at_call 109;refine cx (U5 _ _ _ _ (hg _ hE) hs) hE ?_;clear hE;intro w' hE) | (go_at_call 107;refine (E0 _ (hst) _).mono ?_;rintro e w' ⟨rfl,rfl⟩));go_ret;exact⟨l9 (by rw[Hs.out]),hE0.trans hE⟩
theorem H3(v:Value)(l:List Int)(a:Int)(w:World)(h:c8 w v l){c:Bool}(hc:I6 l a=c) :
 Calls Tryz.prog 217 #[.agg #[v],.int .i64 a] w fun e w'=>e=.returned (.bool c)∧Ext w w':=by subst hc;exact b39 v l a w h
theorem b35(v:Value)(l:List Int)(a:Int)(w:World)(h:c8 w v l) :
 Calls Tryz.prog 186 #[.agg #[v],.int .i64 a] w fun e w'=>e=.returned (.bool (I6 l a))∧Ext w w':=by
 obtain⟨wb,Hwb,hE0,hb,hg,hE,Hsz⟩:=j60 28 h;clear h;have hbx:=hb wb hE;cases hs:d8 l a
 · have Hs:=Lib.hid (d67 hs);go_enter Tryz.func186,Tryz.ntmps186;go_wp2_with fail;rw[←Hwb.out];go_wp2_with (first | (go_at_call 46;refine cx (l5 _ _ _ _ (hg _ hE) (hs)) hE ?_;clear hE;intro w' hE));go_ret;exact⟨l9 Hs.out.symm,hE0.trans hE⟩
 · obtain⟨n,rfl,h1,h2,hgr⟩:=m3 hs;have Hgr:=Lib.hid hgr;have Hs:Hid (I6 l n=decide ((1:Int)<(C7 l n:Int))):=Lib.hid (by
    rw[cv6 hs];by_cases e:1<C7 l n
    · rw[decide_eq_true e,decide_eq_true (by omega)]
    · rw[decide_eq_false e,decide_eq_false (by omega)])
   clear hgr h1;go_enter Tryz.func186,Tryz.ntmps186;go_wp2_with fail;rw[←Hwb.out];go_wp2_with (first | (go_at_call 46;refine cx (l5 _ _ _ _ (hg _ hE) (hs)) hE ?_;clear hE;intro w' hE) | (go_at_call 68;refine cx (Q4 _ _ _ _ (hg _ hE) (Hgr) (h2)) hE ?_;clear hE;intro w' hE));go_ret;exact⟨l9 (by rw[Hs.out]),hE0.trans hE⟩
theorem G4(v:Value)(l:List Int)(a:Int)(w:World)(h:c8 w v l){c:Bool}(hc:I6 l a=c) :
 Calls Tryz.prog 186 #[.agg #[v],.int .i64 a] w fun e w'=>e=.returned (.bool c)∧Ext w w':=by subst hc;exact b35 v l a w h
theorem c96(u:Value)(M:List Int)(x:Int)(w:World)(h:c8 w u M) :
 Calls Tryz.prog 295 #[u,.int .i64 x] w fun e w'=>e=.returned (.int .i64 (bt0 M x))∧w=w':=by
 obtain⟨ao,c,adr,rfl,hlen,hadr,hcell⟩:=h.op;have hix:=j6 (c:=c) elI szI hadr;have HD:Hid (∀k,k<M.length→(∀j,j<k→nth M j≠x)→nth M k=x→bt0 M x=k):=Lib.hid fun k hk h e=>dv7 hk h e;clear h hadr;go_enter Tryz.func295,Tryz.ntmps295;go_wp2_with fail;go_loop [8] (fun i=>∃k:Nat,k≤M.length∧i=.int .i64 k∧∀j,j<k→nth M j≠x) (fun i=>M.length - (intOf i).toNat);case atStart=>exact⟨0,by omega,rfl,by omega⟩
 case round =>
  obtain⟨k,hk,rfl,hno⟩:=hrel;have Hno:=Lib.hid hno;clear hno;by_cases hlt:k<M.length
  · have hck:=hcell k w hlt (Ext.refl w);by_cases e:nth M k=x
    · have He:=Lib.hid (HD.out k hlt Hno.out e);have hq:(x == nth M k)=true:=(by rw[e];simp);clear e;go_wp2_with fail;go_ret;exact⟨m8 He.out.symm,rfl⟩
    · have Hq:=Lib.hid e;have hq:(x == nth M k)=false:=(by simp;exact fun h=>e h.symm);clear e;go_wp2_with fail;go_round;(case rel=>exact⟨k+1,by omega,by go_num,fun j hj=>by by_cases e:j=k;(subst e;exact Hq.out);exact Hno.out j (by omega)⟩);case measure=>(simp[intOf];omega)
  · have hkl:k=M.length:=(by omega);subst hkl;have He:=Lib.hid (ch2 Hno.out);go_wp2_with fail;go_ret;exact⟨m8 He.out.symm,rfl⟩
theorem bv7(u:Value)(M:List Int)(x:Int)(w:World)(h:c8 w u M) :
 Calls Tryz.prog 208 #[u,.int .i64 x] w fun e w'=>e=.returned (.bool (Z7 M x))∧w=w':=by
 have Hm:=Lib.hid (dn7 M x);go_enter Tryz.func208,Tryz.ntmps208;go_wp2_with (first | (go_at_call 295;refine (c96 _ _ _ _ h).mono ?_;rintro e w' ⟨rfl,rfl⟩));go_ret;exact⟨l9 (by rw[Hm.out]),rfl⟩
theorem R8(u:Value)(M:List Int)(x:Int)(w:World)(h:c8 w u M){c:Bool}(hc:Z7 M x=c) :
 Calls Tryz.prog 208 #[u,.int .i64 x] w fun e w'=>e=.returned (.bool c)∧w=w':=by subst hc;exact bv7 u M x w h
theorem bk6(v:Value)(l:List Int)(a b:Int)(w:World)(h:c8 w v l) :
 Calls Tryz.prog 229 #[.agg #[v],.int .i64 a,.int .i64 b] w fun e w'=>e=.returned (.tuple #[.int .i64 (br1 (J7 l a) (J7 l b)),.bool (ba3 (J7 l a) (J7 l b))])∧Ext w w':=by
 obtain⟨wb,Hwb,hE0,hb,hg,hE,Hsz⟩:=j60 28 h;clear h;have hbx:=hb wb hE;go_enter Tryz.func229,Tryz.ntmps229;go_wp2_with fail;rw[←Hwb.out];refine (Z4 _ _ _ _ (hg _ hE)).mono ?_;rintro e w1 ⟨u1,rfl,hO1,hE1⟩;have hbx1:=hb _ hE1;go_wp2_with fail;refine (Z4 _ _ _ _ (hg _ hE1)).mono ?_;rintro e w2 ⟨u2,rfl,hO2,hE2⟩;have hM:=fun W (hW:Ext w2 W)=>(hO1.ints.ext hE2).ext hW;have hL:=hO2.ints;obtain⟨M,HM⟩:∃M,Hid (M=J7 l b):=⟨_,Lib.hid rfl⟩;obtain⟨L,HL⟩:∃L,Hid (L=J7 l a):=⟨_,Lib.hid rfl⟩;have hEa:=hE1.trans hE2;rw[←HM.out] at hM;rw[←HL.out] at hL;clear hO1 hO2 hE1 hE2 hE hbx hbx1;obtain⟨aoL,cL,adrL,rfl,hlenL,hadrL,hcellL⟩:=hL.op;have hixL:=j6 (c:=cL) elI szI hadrL;have hMw:=hM w2 (Ext.refl w2);clear hadrL hL hM;go_wp2_with fail;go_loop [18] (fun i=>∃k:Nat,k≤L.length∧i=.int .i64 k∧∀j,j<k→Z7 M (nth L j)=false) (fun i=>L.length - (intOf i).toNat);case atStart=>exact⟨0,by omega,rfl,by omega⟩
 case round =>
  obtain⟨k,hk,rfl,hno⟩:=hrel;have Hno:=Lib.hid hno;clear hno;by_cases hlt:k<L.length
  · have hck:=hcellL k w2 hlt (Ext.refl w2);cases hm:Z7 M (nth L k)
    · have Hm:=Lib.hid hm;go_wp2_with (first | (go_at_call 208;refine (R8 _ _ _ _ hMw hm).mono ?_;rintro e w' ⟨rfl,rfl⟩));go_round;(case rel=>exact⟨k+1,by omega,by go_num,fun j hj=>by by_cases e:j=k;(subst e;exact Hm.out);exact Hno.out j (by omega)⟩);case measure=>(simp[intOf];omega)
    · have Hc:=Lib.hid (dd6 hlt Hno.out hm);go_wp2_with (first | (go_at_call 208;refine (R8 _ _ _ _ hMw hm).mono ?_;rintro e w' ⟨rfl,rfl⟩));exact bodyPost_ret (v:=.tuple #[.int .i64 (nth L k),.bool true]) (by simp[results,Tryz.results229,go_sem]) rfl ⟨by rw[←HL.out,←HM.out,Hc.out.1,Hc.out.2],hE0.trans hEa⟩
  · have hkl:k=L.length:=(by omega);subst hkl;have Hc:=Lib.hid (cp8 Hno.out);go_wp2_with fail;exact bodyPost_ret (v:=.tuple #[.int .i64 0,.bool false]) (by simp[results,Tryz.results229,go_sem]) rfl ⟨by rw[←HL.out,←HM.out,Hc.out.1,Hc.out.2],hE0.trans hEa⟩
theorem bj9(v:Value)(l:List Int)(a b:Int)(w:World)(h:c8 w v l) :
 Calls Tryz.prog 195 #[.agg #[v],.int .i64 a,.int .i64 b] w fun e w'=>e=.returned (.tuple #[.int .i64 (br1 (J7 l a) (J7 l b)),.bool (ba3 (J7 l a) (J7 l b))])∧Ext w w':=by
 obtain⟨wb,Hwb,hE0,hb,hg,hE,Hsz⟩:=j60 28 h;clear h;have hbx:=hb wb hE;go_enter Tryz.func195,Tryz.ntmps195;go_wp2_with fail;rw[←Hwb.out];refine (X9 _ _ _ _ (hg _ hE)).mono ?_;rintro e w1 ⟨u1,rfl,hO1,hE1⟩;have hbx1:=hb _ hE1;go_wp2_with fail;refine (X9 _ _ _ _ (hg _ hE1)).mono ?_;rintro e w2 ⟨u2,rfl,hO2,hE2⟩;have hL:=hO1.ints.ext hE2;have hM:=hO2.ints;obtain⟨M,HM⟩:∃M,Hid (M=J7 l b):=⟨_,Lib.hid rfl⟩;obtain⟨L,HL⟩:∃L,Hid (L=J7 l a):=⟨_,Lib.hid rfl⟩;have hEa:=hE1.trans hE2;rw[←HM.out] at hM;rw[←HL.out] at hL;clear hO1 hO2 hE1 hE2 hE hbx hbx1;obtain⟨aoL,cL,adrL,rfl,hlenL,hadrL,hcellL⟩:=hL.op;have hixL:=j6 (c:=cL) elI szI hadrL;obtain⟨aoM,cM,adrM,rfl,hlenM,hadrM,hcellM⟩:=hM.op;have hixM:=j6 (c:=cM) elI szI hadrM;clear hadrL hL hM hadrM;have hE:=Ext.refl w2;go_wp2_with fail;go_loopw [10] (fun i wr=>∃k:Nat,k≤L.length∧i=.int .i64 k∧(∀j,j<k→Z7 M (nth L j)=false)∧Ext w2 wr) (fun i _=>L.length - (intOf i).toNat);case atStart=>exact⟨0,by omega,rfl,by omega,hE⟩
 case round =>
  clear hE;obtain⟨k,hk,rfl,hno,hE⟩:=hrel;have Hno:=Lib.hid hno;clear hno;by_cases hlt:k<L.length
  · go_wp2_with fail;go_loopw [11] (fun i wr=>∃q:Nat,q≤M.length∧i=.int .i64 q∧(∀j,j<q→nth M j≠nth L k)∧Ext w2 wr) (fun i _=>M.length - (intOf i).toNat);(case atStart=>exact⟨0,by omega,rfl,by omega,hE⟩);case round =>
     clear hE;obtain⟨q,hq,rfl,hno2,hE⟩:=hrel;have Hno2:=Lib.hid hno2;clear hno2;by_cases hlt2:q<M.length
     · have hck:=fun U=>hcellL k _ hlt (b9 w2 U);have hcq:=fun U=>hcellM q _ hlt2 (b9 w2 U);by_cases e:nth L k=nth M q
       · have Hc:=Lib.hid (dd6 hlt Hno.out (show Z7 M (nth L k)=true from decide_eq_true (by rw[e];exact b92 hlt2)));have hqe:(nth L k == nth M q)=true:=(by rw[e];simp);clear e;go_wp2_with fail;(refine d0 (w2) (by kernel_rfl) (by kernel_rfl) hE ?_);(repeat (go_big_quiet_step (first | fail)));(refine wpQuiet_nil ?_);(intro W hE');(replace hE:=l7 hE');(clear hE');have hck2:=hcellL k _ hlt hE;go_wp2_with fail;exact bodyPost_ret (v:=.tuple #[.int .i64 (nth L k),.bool true]) (by simp[results,Tryz.results195,go_sem]) rfl ⟨by rw[←HL.out,←HM.out,Hc.out.1,Hc.out.2],hE0.trans (hEa.trans hE)⟩
       · have Hq:=Lib.hid e;have hqe:(nth L k == nth M q)=false:=(by simp;exact e);clear e;go_wp2_with fail;(refine d0 (w2) (by kernel_rfl) (by kernel_rfl) hE ?_);(repeat (go_big_quiet_step (first | fail)));(refine wpQuiet_nil ?_);(intro W hE');(replace hE:=l7 hE');(clear hE');go_wp2_with fail;go_roundw;(case rel=>exact⟨q+1,by omega,by go_num,fun j hj=>by by_cases e:j=q;(subst e;exact fun e=>Hq.out e.symm);exact Hno2.out j (by omega),hE⟩);case measure=>(simp[intOf];omega)
     · have hql:q=M.length:=(by omega);subst hql;have Hm:Hid (Z7 M (nth L k)=false):=Lib.hid (decide_eq_false (d61 Hno2.out));go_wp2_with fail;go_roundw;(case rel=>exact⟨k+1,by omega,by go_num,fun j hj=>by by_cases e:j=k;(subst e;exact Hm.out);exact Hno.out j (by omega),hE⟩);case measure=>(simp[intOf];omega)
  · have hkl:k=L.length:=(by omega);subst hkl;have Hc:=Lib.hid (cp8 Hno.out);go_wp2_with fail;exact bodyPost_ret (v:=.tuple #[.int .i64 0,.bool false]) (by simp[results,Tryz.results195,go_sem]) rfl ⟨by rw[←HL.out,←HM.out,Hc.out.1,Hc.out.2],hE0.trans (hEa.trans hE)⟩
def kcF(l:List Int)(a b:Int):ByteArray :=
 if p8 l a b then
  if 0<sdF l a b then ⟨#[108,97,114,103,101]⟩ else if I6 l (j3 l a.toNat b.toNat:Nat) then ⟨#[112,101,114,105,111,100,105,99]⟩
  else if cnt a.toNat=1∨cnt b.toNat=1 then ⟨#[111,110,101]⟩ else if ba3 (J7 l a) (J7 l b) then ⟨#[115,116,101,112,115]⟩ else ⟨#[111,116,104,101,114]⟩
 else ⟨#[]⟩
theorem ds3{l:List Int}{a b:Int}(h:p8 l a b=false):kcF l a b=⟨#[]⟩:=by unfold kcF;rw[h];rfl
theorem j07{l:List Int}{a b:Nat}(h:p8 l a b=true)(h1:0<sdF l a b):kcF l a b=⟨#[108,97,114,103,101]⟩:=by unfold kcF;rw[if_pos h,if_pos h1]
theorem j08{l:List Int}{a b:Nat}(h:p8 l a b=true)(h1:¬0<sdF l a b)(h2:I6 l (j3 l a b:Nat)=true):kcF l a b=⟨#[112,101,114,105,111,100,105,99]⟩:=by
 unfold kcF;rw[if_pos h,if_neg h1];exact if_pos h2
theorem j09{l:List Int}{a b:Nat}(h:p8 l a b=true)(h1:¬0<sdF l a b)(h2:I6 l (j3 l a b:Nat)=false)(h3:cnt a=1∨cnt b=1):kcF l a b=⟨#[111,110,101]⟩:=by
 unfold kcF;rw[if_pos h,if_neg h1,if_neg (by simp only[Int.toNat_natCast];rw[h2];decide)];exact if_pos h3
theorem j10{l:List Int}{a b:Nat}(h:p8 l a b=true)(h1:¬0<sdF l a b)(h2:I6 l (j3 l a b:Nat)=false)(h3:¬(cnt a=1∨cnt b=1))(h4:ba3 (J7 l a) (J7 l b)=true):kcF l a b=⟨#[115,116,101,112,115]⟩:=by
 unfold kcF;rw[if_pos h,if_neg h1,if_neg (by simp only[Int.toNat_natCast];rw[h2];decide),if_neg (by simpa using h3)];exact if_pos h4
theorem j11{l:List Int}{a b:Nat}(h:p8 l a b=true)(h1:¬0<sdF l a b)(h2:I6 l (j3 l a b:Nat)=false)(h3:¬(cnt a=1∨cnt b=1))(h4:ba3 (J7 l a) (J7 l b)=false):kcF l a b=⟨#[111,116,104,101,114]⟩:=by
 unfold kcF;rw[if_pos h,if_neg h1,if_neg (by simp only[Int.toNat_natCast];rw[h2];decide),if_neg (by simpa using h3),if_neg (by rw[h4];decide)]
theorem by9(v:Value)(l:List Int)(a b:Int)(w:World)(h:c8 w v l) :
 Calls Tryz.prog 121 #[.agg #[v],.int .i64 a,.int .i64 b] w fun e w'=>e=.returned (.string (kcF l a b))∧Ext w w':=by
 obtain⟨wb,Hwb,hE0,hb,hg,hE,Hsz⟩:=j60 28 h;clear h;have hbx:=hb wb hE;cases hf:p8 l a b
 · have Hs:=Lib.hid (ds3 hf);go_enter Tryz.func121,Tryz.ntmps121;go_wp2_with fail;rw[←Hwb.out];go_wp2_with (first | (go_at_call 118;refine cx (H4 _ _ _ _ _ (hg _ hE) hf) hE ?_;clear hE;intro w' hE) | (go_at_call 230;refine (P0 _ _ _ _ _ (hg _ hE)).mono ?_;try rw[hsd];rintro e w' ⟨rfl,hE'⟩;replace hE:=hE.trans hE';clear hE'));go_ret;exact⟨d9 Hs.out.symm,hE0.trans hE⟩
 · have hf':=hf;obtain⟨m,n,rfl,rfl,h3,h4,-,-,ha,hb',hgr,h1,h2⟩:=I4 hf;obtain⟨D,HD⟩:∃D,Hid (D=br1 (J7 l m) (J7 l n)):=⟨_,Lib.hid rfl⟩;obtain⟨C,HC⟩:∃C,Hid (C=ba3 (J7 l m) (J7 l n)):=⟨_,Lib.hid rfl⟩;have Hgr:=Lib.hid hgr;have hsb:=di3 l m n hf';have hsum:=F5 hgr m n;have hbu:=fun U=>hb _ (b9 wb U);have hne:(sdF l m n == -100)=false:=(by simp;omega);have cCom:∀W,Ext wb W→Calls Tryz.prog 229 #[.agg #[v],.int .i64 m,.int .i64 n] W fun e w'=>e=.returned (.tuple #[.int .i64 D,.bool C])∧Ext W w':=fun W hW=>(by rw[HD.out,HC.out];exact bk6 _ _ _ _ _ (hg _ hW));have Hf:=Lib.hid hf';have w1:((cnt m:Int) == 1)=decide (cnt m=1):=(by rw[Bool.eq_iff_iff];simp;omega);have w2:((cnt n:Int) == 1)=decide (cnt n=1):=(by rw[Bool.eq_iff_iff];simp;omega);clear hgr h3 h4 h1 h2 hf';by_cases c1:0<sdF l m n
   · have Hz:=Lib.hid (j07 Hf.out c1);clear w1 w2;go_enter Tryz.func121,Tryz.ntmps121;go_wp2_with fail;rw[←Hwb.out];go_wp2_with (first | (go_at_call 118;refine cx (H4 _ _ _ _ _ (hg _ hE) hf) hE ?_;clear hE;intro w' hE) | (go_at_call 229;refine cx (cCom _ hE) hE ?_;clear hE;intro w' hE) | (go_at_call 230;refine cx (P0 _ _ _ _ _ (hg _ hE)) hE ?_;clear hE;intro w' hE));go_ret;exact⟨d9 Hz.out.symm,hE0.trans hE⟩
   · have C1:=Lib.hid c1;have c1':sdF l m n≤0:=(by omega);clear c1;cases c2:I6 l (j3 l m n:Nat)
     · have C2:=Lib.hid c2;by_cases c3:cnt m=1∨cnt n=1
       · have Hz:=Lib.hid (j09 Hf.out C1.out c2 c3);rcases (by omega:cnt m=1∨(¬cnt m=1∧cnt n=1)) with d | ⟨d,d2⟩
         · have k1:((cnt m:Int) == 1)=true:=(by rw[w1,decide_eq_true d]);clear w1 w2 c3 d;go_enter Tryz.func121,Tryz.ntmps121;go_wp2_with fail;rw[←Hwb.out];go_wp2_with (first | (go_at_call 118;refine cx (H4 _ _ _ _ _ (hg _ hE) hf) hE ?_;clear hE;intro w' hE) | (go_at_call 229;refine cx (cCom _ hE) hE ?_;clear hE;intro w' hE) | (go_at_call 230;refine cx (P0 _ _ _ _ _ (hg _ hE)) hE ?_;clear hE;intro w' hE));(refine d0 (wb) (by kernel_rfl) (by kernel_rfl) hE ?_);(repeat (go_big_quiet_step (first | (go_at_call 119;exact Calls.lat (H5 _ _ _ _ _ (hg _ (b9 wb _)) Hgr ha hb')) | (go_at_call 217;exact Calls.lat (H3 _ _ _ _ (hg _ (b9 wb _)) c2)))));(refine wpQuiet_nil ?_);(intro W hE');(replace hE:=l7 hE');(clear hE');go_wp2_with (first | (go_at_call 107;(first | (with_reducible refine Calls.mono (E0 _ ha _) ?_) | (with_reducible refine Calls.mono (E0 _ hb' _) ?_));rintro e w' ⟨rfl,rfl⟩));go_ret;exact⟨d9 Hz.out.symm,hE0.trans hE⟩
         · have k1:((cnt m:Int) == 1)=false:=(by rw[w1,decide_eq_false d]);have k2:((cnt n:Int) == 1)=true:=(by rw[w2,decide_eq_true d2]);clear w1 w2 c3 d d2;go_enter Tryz.func121,Tryz.ntmps121;go_wp2_with fail;rw[←Hwb.out];go_wp2_with (first | (go_at_call 118;refine cx (H4 _ _ _ _ _ (hg _ hE) hf) hE ?_;clear hE;intro w' hE) | (go_at_call 229;refine cx (cCom _ hE) hE ?_;clear hE;intro w' hE) | (go_at_call 230;refine cx (P0 _ _ _ _ _ (hg _ hE)) hE ?_;clear hE;intro w' hE));(refine d0 (wb) (by kernel_rfl) (by kernel_rfl) hE ?_);(repeat (go_big_quiet_step (first | (go_at_call 119;exact Calls.lat (H5 _ _ _ _ _ (hg _ (b9 wb _)) Hgr ha hb')) | (go_at_call 217;exact Calls.lat (H3 _ _ _ _ (hg _ (b9 wb _)) c2)))));(refine wpQuiet_nil ?_);(intro W hE');(replace hE:=l7 hE');(clear hE');go_wp2_with (first | (go_at_call 107;(first | (with_reducible refine Calls.mono (E0 _ ha _) ?_) | (with_reducible refine Calls.mono (E0 _ hb' _) ?_));rintro e w' ⟨rfl,rfl⟩));go_ret;exact⟨d9 Hz.out.symm,hE0.trans hE⟩
       · have C3:=Lib.hid c3;have k1:((cnt m:Int) == 1)=false:=(by rw[w1,decide_eq_false (fun e=>c3 (Or.inl e))]);have k2:((cnt n:Int) == 1)=false:=(by rw[w2,decide_eq_false (fun e=>c3 (Or.inr e))]);clear w1 w2 c3;cases C
         · have Hz:=Lib.hid (j11 Hf.out C1.out C2.out C3.out HC.out.symm);go_enter Tryz.func121,Tryz.ntmps121;go_wp2_with fail;rw[←Hwb.out];go_wp2_with (first | (go_at_call 118;refine cx (H4 _ _ _ _ _ (hg _ hE) hf) hE ?_;clear hE;intro w' hE) | (go_at_call 229;refine cx (cCom _ hE) hE ?_;clear hE;intro w' hE) | (go_at_call 230;refine cx (P0 _ _ _ _ _ (hg _ hE)) hE ?_;clear hE;intro w' hE));(refine d0 (wb) (by kernel_rfl) (by kernel_rfl) hE ?_);(repeat (go_big_quiet_step (first | (go_at_call 119;exact Calls.lat (H5 _ _ _ _ _ (hg _ (b9 wb _)) Hgr ha hb')) | (go_at_call 217;exact Calls.lat (H3 _ _ _ _ (hg _ (b9 wb _)) c2)))));(refine wpQuiet_nil ?_);(intro W hE');(replace hE:=l7 hE');(clear hE');go_wp2_with (first | (go_at_call 107;(first | (with_reducible refine Calls.mono (E0 _ ha _) ?_) | (with_reducible refine Calls.mono (E0 _ hb' _) ?_));rintro e w' ⟨rfl,rfl⟩));go_ret;exact⟨d9 Hz.out.symm,hE0.trans hE⟩
         · have Hz:=Lib.hid (j10 Hf.out C1.out C2.out C3.out HC.out.symm);go_enter Tryz.func121,Tryz.ntmps121;go_wp2_with fail;rw[←Hwb.out];go_wp2_with (first | (go_at_call 118;refine cx (H4 _ _ _ _ _ (hg _ hE) hf) hE ?_;clear hE;intro w' hE) | (go_at_call 229;refine cx (cCom _ hE) hE ?_;clear hE;intro w' hE) | (go_at_call 230;refine cx (P0 _ _ _ _ _ (hg _ hE)) hE ?_;clear hE;intro w' hE));(refine d0 (wb) (by kernel_rfl) (by kernel_rfl) hE ?_);(repeat (go_big_quiet_step (first | (go_at_call 119;exact Calls.lat (H5 _ _ _ _ _ (hg _ (b9 wb _)) Hgr ha hb')) | (go_at_call 217;exact Calls.lat (H3 _ _ _ _ (hg _ (b9 wb _)) c2)))));(refine wpQuiet_nil ?_);(intro W hE');(replace hE:=l7 hE');(clear hE');go_wp2_with (first | (go_at_call 107;(first | (with_reducible refine Calls.mono (E0 _ ha _) ?_) | (with_reducible refine Calls.mono (E0 _ hb' _) ?_));rintro e w' ⟨rfl,rfl⟩));go_ret;exact⟨d9 Hz.out.symm,hE0.trans hE⟩
     · have Hz:=Lib.hid (j08 Hf.out C1.out c2);clear w1 w2;go_enter Tryz.func121,Tryz.ntmps121;go_wp2_with fail;rw[←Hwb.out];go_wp2_with (first | (go_at_call 118;refine cx (H4 _ _ _ _ _ (hg _ hE) hf) hE ?_;clear hE;intro w' hE) | (go_at_call 229;refine cx (cCom _ hE) hE ?_;clear hE;intro w' hE) | (go_at_call 230;refine cx (P0 _ _ _ _ _ (hg _ hE)) hE ?_;clear hE;intro w' hE));(refine d0 (wb) (by kernel_rfl) (by kernel_rfl) hE ?_);(repeat (go_big_quiet_step (first | (go_at_call 119;exact Calls.lat (H5 _ _ _ _ _ (hg _ (b9 wb _)) Hgr ha hb')) | (go_at_call 217;exact Calls.lat (H3 _ _ _ _ (hg _ (b9 wb _)) c2)))));(refine wpQuiet_nil ?_);(intro W hE');(replace hE:=l7 hE');(clear hE');go_wp2_with fail;go_ret;exact⟨d9 Hz.out.symm,hE0.trans hE⟩
theorem bv2(v:Value)(l:List Int)(a b:Int)(w:World)(h:c8 w v l) :
 Calls Tryz.prog 78 #[.agg #[v],.int .i64 a,.int .i64 b] w fun e w'=>e=.returned (.string (kcF l a b))∧Ext w w':=by
 obtain⟨wb,Hwb,hE0,hb,hg,hE,Hsz⟩:=j60 28 h;clear h;have hbx:=hb wb hE;cases hf:p8 l a b
 · have Hs:=Lib.hid (ds3 hf);have hsd:=cx5 hf;go_enter Tryz.func78,Tryz.ntmps78;go_wp2_with fail;rw[←Hwb.out];go_wp2_with (first | (fail) | (go_at_call 194;refine (N6 _ _ _ _ _ (hg _ hE)).mono ?_;try rw[hsd];rintro e w' ⟨rfl,hE'⟩;replace hE:=hE.trans hE';clear hE'));go_ret;exact⟨d9 Hs.out.symm,hE0.trans hE⟩
 · have hf':=hf;obtain⟨m,n,rfl,rfl,h3,h4,-,-,ha,hb',hgr,h1,h2⟩:=I4 hf;obtain⟨D,HD⟩:∃D,Hid (D=br1 (J7 l m) (J7 l n)):=⟨_,Lib.hid rfl⟩;obtain⟨C,HC⟩:∃C,Hid (C=ba3 (J7 l m) (J7 l n)):=⟨_,Lib.hid rfl⟩;have Hgr:=Lib.hid hgr;have hsb:=di3 l m n hf';have hsum:=F5 hgr m n;have hbu:=fun U=>hb _ (b9 wb U);have hne:(sdF l m n == -100)=false:=(by simp;omega);have cCom:∀W,Ext wb W→Calls Tryz.prog 195 #[.agg #[v],.int .i64 m,.int .i64 n] W fun e w'=>e=.returned (.tuple #[.int .i64 D,.bool C])∧Ext W w':=fun W hW=>(by rw[HD.out,HC.out];exact bj9 _ _ _ _ _ (hg _ hW));have Hf:=Lib.hid hf';have w1:((cnt m:Int) == 1)=decide (cnt m=1):=(by rw[Bool.eq_iff_iff];simp;omega);have w2:((cnt n:Int) == 1)=decide (cnt n=1):=(by rw[Bool.eq_iff_iff];simp;omega);clear hgr h3 h4 h1 h2 hf';by_cases c1:0<sdF l m n
   · have Hz:=Lib.hid (j07 Hf.out c1);clear w1 w2;go_enter Tryz.func78,Tryz.ntmps78;go_wp2_with fail;rw[←Hwb.out];go_wp2_with (first | (fail) | (go_at_call 195;refine cx (cCom _ hE) hE ?_;clear hE;intro w' hE) | (go_at_call 194;refine cx (N6 _ _ _ _ _ (hg _ hE)) hE ?_;clear hE;intro w' hE));go_ret;exact⟨d9 Hz.out.symm,hE0.trans hE⟩
   · have C1:=Lib.hid c1;have c1':sdF l m n≤0:=(by omega);clear c1;cases c2:I6 l (j3 l m n:Nat)
     · have C2:=Lib.hid c2;by_cases c3:cnt m=1∨cnt n=1
       · have Hz:=Lib.hid (j09 Hf.out C1.out c2 c3);rcases (by omega:cnt m=1∨(¬cnt m=1∧cnt n=1)) with d | ⟨d,d2⟩
         · have k1:((cnt m:Int) == 1)=true:=(by rw[w1,decide_eq_true d]);clear w1 w2 c3 d;go_enter Tryz.func78,Tryz.ntmps78;go_wp2_with fail;rw[←Hwb.out];go_wp2_with (first | (fail) | (go_at_call 195;refine cx (cCom _ hE) hE ?_;clear hE;intro w' hE) | (go_at_call 194;refine cx (N6 _ _ _ _ _ (hg _ hE)) hE ?_;clear hE;intro w' hE));(refine d0 (wb) (by kernel_rfl) (by kernel_rfl) hE ?_);(repeat (go_big_quiet_step (first | (go_at_call 49;exact Calls.lat (E4 _ _ _ _ _ (hg _ (b9 wb _)) Hgr ha hb')) | (go_at_call 186;exact Calls.lat (G4 _ _ _ _ (hg _ (b9 wb _)) c2)))));(refine wpQuiet_nil ?_);(intro W hE');(replace hE:=l7 hE');(clear hE');go_wp2_with (first | (go_at_call 66;(first | (with_reducible refine Calls.mono (o9 _ ha _) ?_) | (with_reducible refine Calls.mono (o9 _ hb' _) ?_));rintro e w' ⟨rfl,rfl⟩));go_ret;exact⟨d9 Hz.out.symm,hE0.trans hE⟩
         · have k1:((cnt m:Int) == 1)=false:=(by rw[w1,decide_eq_false d]);have k2:((cnt n:Int) == 1)=true:=(by rw[w2,decide_eq_true d2]);clear w1 w2 c3 d d2;go_enter Tryz.func78,Tryz.ntmps78;go_wp2_with fail;rw[←Hwb.out];go_wp2_with (first | (fail) | (go_at_call 195;refine cx (cCom _ hE) hE ?_;clear hE;intro w' hE) | (go_at_call 194;refine cx (N6 _ _ _ _ _ (hg _ hE)) hE ?_;clear hE;intro w' hE));(refine d0 (wb) (by kernel_rfl) (by kernel_rfl) hE ?_);(repeat (go_big_quiet_step (first | (go_at_call 49;exact Calls.lat (E4 _ _ _ _ _ (hg _ (b9 wb _)) Hgr ha hb')) | (go_at_call 186;exact Calls.lat (G4 _ _ _ _ (hg _ (b9 wb _)) c2)))));(refine wpQuiet_nil ?_);(intro W hE');(replace hE:=l7 hE');(clear hE');go_wp2_with (first | (go_at_call 66;(first | (with_reducible refine Calls.mono (o9 _ ha _) ?_) | (with_reducible refine Calls.mono (o9 _ hb' _) ?_));rintro e w' ⟨rfl,rfl⟩));go_ret;exact⟨d9 Hz.out.symm,hE0.trans hE⟩
       · have C3:=Lib.hid c3;have k1:((cnt m:Int) == 1)=false:=(by rw[w1,decide_eq_false (fun e=>c3 (Or.inl e))]);have k2:((cnt n:Int) == 1)=false:=(by rw[w2,decide_eq_false (fun e=>c3 (Or.inr e))]);clear w1 w2 c3;cases C
         · have Hz:=Lib.hid (j11 Hf.out C1.out C2.out C3.out HC.out.symm);go_enter Tryz.func78,Tryz.ntmps78;go_wp2_with fail;rw[←Hwb.out];go_wp2_with (first | (fail) | (go_at_call 195;refine cx (cCom _ hE) hE ?_;clear hE;intro w' hE) | (go_at_call 194;refine cx (N6 _ _ _ _ _ (hg _ hE)) hE ?_;clear hE;intro w' hE));(refine d0 (wb) (by kernel_rfl) (by kernel_rfl) hE ?_);(repeat (go_big_quiet_step (first | (go_at_call 49;exact Calls.lat (E4 _ _ _ _ _ (hg _ (b9 wb _)) Hgr ha hb')) | (go_at_call 186;exact Calls.lat (G4 _ _ _ _ (hg _ (b9 wb _)) c2)))));(refine wpQuiet_nil ?_);(intro W hE');(replace hE:=l7 hE');(clear hE');go_wp2_with (first | (go_at_call 66;(first | (with_reducible refine Calls.mono (o9 _ ha _) ?_) | (with_reducible refine Calls.mono (o9 _ hb' _) ?_));rintro e w' ⟨rfl,rfl⟩));go_ret;exact⟨d9 Hz.out.symm,hE0.trans hE⟩
         · have Hz:=Lib.hid (j10 Hf.out C1.out C2.out C3.out HC.out.symm);go_enter Tryz.func78,Tryz.ntmps78;go_wp2_with fail;rw[←Hwb.out];go_wp2_with (first | (fail) | (go_at_call 195;refine cx (cCom _ hE) hE ?_;clear hE;intro w' hE) | (go_at_call 194;refine cx (N6 _ _ _ _ _ (hg _ hE)) hE ?_;clear hE;intro w' hE));(refine d0 (wb) (by kernel_rfl) (by kernel_rfl) hE ?_);(repeat (go_big_quiet_step (first | (go_at_call 49;exact Calls.lat (E4 _ _ _ _ _ (hg _ (b9 wb _)) Hgr ha hb')) | (go_at_call 186;exact Calls.lat (G4 _ _ _ _ (hg _ (b9 wb _)) c2)))));(refine wpQuiet_nil ?_);(intro W hE');(replace hE:=l7 hE');(clear hE');go_wp2_with (first | (go_at_call 66;(first | (with_reducible refine Calls.mono (o9 _ ha _) ?_) | (with_reducible refine Calls.mono (o9 _ hb' _) ?_));rintro e w' ⟨rfl,rfl⟩));go_ret;exact⟨d9 Hz.out.symm,hE0.trans hE⟩
     · have Hz:=Lib.hid (j08 Hf.out C1.out c2);clear w1 w2;go_enter Tryz.func78,Tryz.ntmps78;go_wp2_with fail;rw[←Hwb.out];go_wp2_with (first | (fail) | (go_at_call 195;refine cx (cCom _ hE) hE ?_;clear hE;intro w' hE) | (go_at_call 194;refine cx (N6 _ _ _ _ _ (hg _ hE)) hE ?_;clear hE;intro w' hE));(refine d0 (wb) (by kernel_rfl) (by kernel_rfl) hE ?_);(repeat (go_big_quiet_step (first | (go_at_call 49;exact Calls.lat (E4 _ _ _ _ _ (hg _ (b9 wb _)) Hgr ha hb')) | (go_at_call 186;exact Calls.lat (G4 _ _ _ _ (hg _ (b9 wb _)) c2)))));(refine wpQuiet_nil ?_);(intro W hE');(replace hE:=l7 hE');(clear hE');go_wp2_with fail;go_ret;exact⟨d9 Hz.out.symm,hE0.trans hE⟩
end Go.Zz
namespace Go.Zz
open Go.RowKit Go.Proofs
set_option maxHeartbeats 400000
end Go.Zz
namespace Go.Zz
open Go.RowKit Go.Proofs
set_option maxHeartbeats 400000
end Go.Zz
namespace Go.Zz
open Go.RowKit Go.Proofs
set_option maxHeartbeats 400000
end Go.Zz
