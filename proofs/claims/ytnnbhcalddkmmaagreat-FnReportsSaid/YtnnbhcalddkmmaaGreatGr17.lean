/- Defects of sums, periods, jp7 differences, the case of Kemperman. -/
import Derived.Test.YtnnbhcalddkmmaaGreatGr16
set_option linter.unusedSimpArgs false
set_option linter.unusedVariables false
set_option linter.unnecessarySimpa false
set_option maxHeartbeats 2000000
set_option maxRecDepth 20000
namespace Go.Zz
open Go.RowKit Go.Proofs
def sdF(l:List Int)(a b:Int):Int:=if D8 l a b then (cnt (l7 l a.toNat b.toNat):Int) - cnt a.toNat - cnt b.toNat+1 else -100
theorem df8{l:List Int}{a b:Int}(h:D8 l a b=false):sdF l a b = -100:=by unfold sdF;rw[h];rfl
theorem cu1{l:List Int}{a b:Nat}(h:D8 l a b=true):sdF l a b=(cnt (l7 l a b):Int) - cnt a - cnt b+1:=by unfold sdF;rw[if_pos h];rfl
theorem j53(l:List Int)(a b:Int)(h:D8 l a b=true) : -47<=sdF l a b∧sdF l a b<=25:=by
 obtain⟨m,n,rfl,rfl,-⟩:=U7 h;rw[cu1 h];have:=r9 (l7 l m n);have:=r9 m;have:=r9 n;omega
theorem dl5{l:List Int}(h:j1 l=true){a:Nat}(ha:a<2 ^ ord l):j6 l a 0=a:=by
 apply Nat.eq_of_testBit_eq;intro i;apply b91;rw[D0];constructor
 . rintro⟨y,_,hy,e⟩;rw[A7 l (m9 h) y (N0 ha hy)] at e;subst e;exact hy
 . intro hi;have:=N0 ha hi;exact⟨i,nlt this (m8 h).2,hi,A7 l (m9 h) i this⟩
theorem cu8{l:List Int}{a k x:Nat}:(Y7 l a k).testBit x=true↔x<k∧j6 l a x=a:=by
 unfold Y7;rw[O6];simp
theorem dx4{l:List Int}(h:j1 l=true){a:Nat}(ha:a<2 ^ ord l):(D3 l a).testBit 0=true :=
 cu8.2 ⟨(m8 h).1,dl5 h ha⟩
theorem du1{n:Nat}(h:n.testBit 0=true)(hn:n<2 ^ 24):1<cnt n↔1<n:=by
 rw[Nat.testBit_zero] at h;have h1:n % 2=1:=of_decide_eq_true h;have h2:=d72 n hn;by_cases h3:1<n
 . have:=R6 (a:=n / 2) om om;omega
 . have e:n / 2=0:=(by omega);rw[e,W7] at h2;omega
def K4(l:List Int)(a:Int):Bool:=j4 l a&&decide (1<D3 l a.toNat)
theorem dr4{l:List Int}{a:Int}(h:j4 l a=false):K4 l a=false:=by unfold K4;rw[h];rfl
theorem de1{l:List Int}{n:Nat}(h:j4 l n=true):K4 l n=decide (1<D3 l n):=by unfold K4;rw[h];rfl
def c29(M:List Int)(x:Int):Int:=match (List.range M.length).find? (fun k=>decide (nth M k=x)) with | some k=>(k:Int) | none=>-1
theorem jl5{M:List Int}{x:Int}{k:Nat}(hk:k<M.length)(h:∀j,j<k->nth M j≠x)(e:nth M k=x):c29 M x=k:=by
 unfold c29;rw[bb2 hk (fun j hj=>decide_eq_false (h j hj)) (decide_eq_true e)]
theorem cx8{M:List Int}{x:Int}(h:∀j,j<M.length->nth M j≠x):c29 M x = -1:=by
 unfold c29;rw[b79 (fun j hj=>decide_eq_false (h j hj))]
theorem dr0{M:List Int}{x:Int}(h:∀j,j<M.length->nth M j≠x):x ∉ M:=fun hx=>by
 obtain⟨k,hk,e⟩:=bb8 hx;exact h k hk e
def b56(M:List Int)(x:Int):Bool:=decide (x∈M)
theorem jc1(M:List Int)(x:Int):decide (0<=c29 M x)=b56 M x:=by
 by_cases h:∃k,k<M.length∧nth M k=x
 . have:x∈M:=(by obtain⟨k,hk,e⟩:=h;rw[<-e];exact b49 hk);have hm:b56 M x=true:=decide_eq_true this;rw[hm,decide_eq_true_eq];unfold c29;cases hf:(List.range M.length).find? (fun k=>decide (nth M k=x)) with
   | some k=>simp only[];omega
   | none =>
    rw[List.find?_eq_none] at hf;obtain⟨k,hk,e⟩:=h;exact absurd (decide_eq_true e) (hf k (List.mem_range.2 hk))
 . have h':∀j,j<M.length->nth M j≠x:=fun j hj e=>h ⟨j,hj,e⟩;rw[cx8 h'];have hm:b56 M x=false:=decide_eq_false (dr0 h');rw[hm];rfl
def du4(L M:List Int):Option Nat:=(List.range L.length).find? (fun k=>b56 M (nth L k))
def c10(L M:List Int):Int:=match du4 L M with | some k=>nth L k | none=>0
def bi3(L M:List Int):Bool:=(du4 L M).isSome
theorem dz9{L M:List Int}{k:Nat}(hk:k<L.length)(h:∀j,j<k->b56 M (nth L j)=false)(e:b56 M (nth L k)=true):c10 L M=nth L k∧bi3 L M=true:=by
 unfold c10 bi3 du4;rw[bb2 hk h e];exact⟨rfl,rfl⟩
theorem d76{L M:List Int}(h:∀j,j<L.length->b56 M (nth L j)=false):c10 L M=0∧bi3 L M=false:=by
 unfold c10 bi3 du4;rw[b79 h];exact⟨rfl,rfl⟩
theorem I4(v:Value)(l:List Int)(a b:Int)(w:World)(h:c9 w v l){c:Bool}(hc:D8 l a b=c) :
 Calls Tryz.prog 118 #[.agg #[v],.int .i64 a,.int .i64 b] w fun e w'=>e=.returned (.bool c)∧Ext w w':=by subst hc;exact di9 v l a b w h
theorem V6(v:Value)(l:List Int)(a b:Int)(w:World)(h:c9 w v l) :
 Calls Tryz.prog 230 #[.agg #[v],.int .i64 a,.int .i64 b] w fun e w'=>e=.returned (.int .i64 (sdF l a b))∧Ext w w':=by
 obtain⟨wb,Hwb,hE0,hb,hg,hE,Hsz⟩:=ju3 28 h;clear h;have hbx:=hb wb hE;cases hf:D8 l a b
 . have Hs:=zh (df8 hf);go_in;go_wp2_with fail;rw[<-Hwb.out];go_wp2_with (first | (go_at_call 118;refine cx (I4 _ _ _ _ _ (hg _ hE) hf) hE ?_;clear hE;intro w' hE));go_ret;exact zz56
 . have hf':=hf;obtain⟨m,n,rfl,rfl,-,-,-,-,ha,hb',hgr,-,-⟩:=U7 hf;have Hs:=zh (cu1 hf');have Hgr:=zh hgr;have q:=G9 hgr m n;have q1:=r9 (l7 l m n);have q2:=r9 m;have q3:=r9 n;clear hgr hf';go_in;go_wp2_with fail;rw[<-Hwb.out];go_wp2_with (first | (go_at_call 118;refine cx (I4 _ _ _ _ _ (hg _ hE) hf) hE ?_;clear hE;intro w' hE) | (go_at_call 119;refine cx (J4 _ _ _ _ _ (hg _ hE) (Hgr) (ha) (hb')) hE ?_;clear hE;intro w' hE) | (go_at_call 107;(first | (with_reducible refine Calls.mono (A9 _ q _) ?_) | (with_reducible refine Calls.mono (A9 _ ha _) ?_) | (with_reducible refine Calls.mono (A9 _ hb' _) ?_));rintro e w' ⟨rfl,rfl⟩));go_ret;exact zz56
theorem T7(v:Value)(l:List Int)(a b:Int)(w:World)(h:c9 w v l) :
 Calls Tryz.prog 194 #[.agg #[v],.int .i64 a,.int .i64 b] w fun e w'=>e=.returned (.int .i64 (sdF l a b))∧Ext w w':=by
 obtain⟨wb,Hwb,hE0,hb,hg,hE,Hsz⟩:=ju3 28 h;clear h;have hbx:=hb wb hE;cases hf:D8 l a b
 . have Hs:=zh (df8 hf);cases h1:j4 l a
   ·
      go_in
      go_wp2_with fail
      rw[<-Hwb.out]
      go_wp2_with (first | (go_at_call 46;refine cx (l8 _ _ _ _ (hg _ hE) (h1)) hE ?_;clear hE;intro w' hE))
      go_ret
      exact zz56
   . cases h2:j4 l b
     ·
        go_in
        go_wp2_with fail
        rw[<-Hwb.out]
        go_wp2_with (first | (go_at_call 46;(first | (with_reducible refine Calls.mono (l8 _ _ a _ (hg _ hE) h1) ?_) | (with_reducible refine Calls.mono (l8 _ _ b _ (hg _ hE) h2) ?_));rintro e w' ⟨rfl,hE'⟩;replace hE:=hE.trans hE';clear hE'))
        go_ret
        exact zz56
     . cases h3:(a == 0)
       . have h4:(b == 0)=true:=(by unfold D8 at hf;rw[h1,h2,h3] at hf;simpa using hf);clear hf
         ·
            go_in
            go_wp2_with fail
            rw[<-Hwb.out]
            go_wp2_with (first | (go_at_call 46;(first | (with_reducible refine Calls.mono (l8 _ _ a _ (hg _ hE) h1) ?_) | (with_reducible refine Calls.mono (l8 _ _ b _ (hg _ hE) h2) ?_));rintro e w' ⟨rfl,hE'⟩;replace hE:=hE.trans hE';clear hE'))
            go_ret
            exact zz56
       . clear hf
         ·
            go_in
            go_wp2_with fail
            rw[<-Hwb.out]
            go_wp2_with (first | (go_at_call 46;(first | (with_reducible refine Calls.mono (l8 _ _ a _ (hg _ hE) h1) ?_) | (with_reducible refine Calls.mono (l8 _ _ b _ (hg _ hE) h2) ?_));rintro e w' ⟨rfl,hE'⟩;replace hE:=hE.trans hE';clear hE'))
            go_ret
            exact zz56
 . have hf':=hf;obtain⟨m,n,rfl,rfl,h3,h4,-,-,ha,hb',hgr,h1,h2⟩:=U7 hf;have Hs:=zh (cu1 hf');have Hgr:=zh hgr;have q:=G9 hgr m n;have q1:=r9 (l7 l m n);have q2:=r9 m;have q3:=r9 n;have h3':((m:Int) == 0)=false:=(by simp;omega);have h4':((n:Int) == 0)=false:=(by simp;omega);clear hgr hf' hf h3 h4;go_in;go_wp2_with fail;rw[<-Hwb.out];go_wp2_with (first | (go_at_call 46;(first | (with_reducible refine Calls.mono (l8 _ _ (m:Int) _ (hg _ hE) h1) ?_) | (with_reducible refine Calls.mono (l8 _ _ (n:Int) _ (hg _ hE) h2) ?_));rintro e w' ⟨rfl,hE'⟩;replace hE:=hE.trans hE';clear hE') | (go_at_call 49;refine cx (D6 _ _ _ _ _ (hg _ hE) (Hgr) (ha) (hb')) hE ?_;clear hE;intro w' hE) | (go_at_call 66;(first | (with_reducible refine Calls.mono (q8 _ q _) ?_) | (with_reducible refine Calls.mono (q8 _ ha _) ?_) | (with_reducible refine Calls.mono (q8 _ hb' _) ?_));rintro e w' ⟨rfl,rfl⟩));go_ret;exact zz56
theorem bb0(v:Value)(l:List Int)(a:Int)(w:World)(h:c9 w v l) :
 Calls Tryz.prog 217 #[.agg #[v],.int .i64 a] w fun e w'=>e=.returned (.bool (K4 l a))∧Ext w w':=by
 obtain⟨wb,Hwb,hE0,hb,hg,hE,Hsz⟩:=ju3 28 h;clear h;have hbx:=hb wb hE;cases hs:j4 l a
 . have Hs:=zh (dr4 hs);go_in;go_wp2_with fail;rw[<-Hwb.out];go_wp2_with (first | (go_at_call 105;refine cx (p8 _ _ _ _ (hg _ hE) (hs)) hE ?_;clear hE;intro w' hE));exact zz17
 . obtain⟨n,rfl,h1,h2,hgr⟩:=o4 hs;have hst:D3 l n<2 ^ 24:=nlt (bk4 l _) (C4 hgr);have Hs:Hid (K4 l n=decide ((1:Int)<(cnt (D3 l n):Int))):=zh (by
    rw[de1 hs];have:=du1 (dx4 hgr h1) hst;by_cases e:1<D3 l n
    . rw[decide_eq_true e,decide_eq_true om]
    . rw[decide_eq_false e,decide_eq_false om])
   clear hgr h1;go_in;go_wp2_with fail;rw[<-Hwb.out];go_wp2_with (first | (go_at_call 105;refine cx (p8 _ _ _ _ (hg _ hE) (hs)) hE ?_;clear hE;intro w' hE) | (go_at_call 109;refine cx (b63 _ _ _ _ (hg _ hE) hs) hE ?_;clear hE;intro w' hE) | (go_at_call 107;refine (A9 _ (hst) _).mono ?_;rintro e w' ⟨rfl,rfl⟩));go_ret;exact⟨j5 (by rw[Hs.out]),hE0.trans hE⟩
theorem I3(v:Value)(l:List Int)(a:Int)(w:World)(h:c9 w v l){c:Bool}(hc:K4 l a=c) :
 Calls Tryz.prog 217 #[.agg #[v],.int .i64 a] w fun e w'=>e=.returned (.bool c)∧Ext w w':=by subst hc;exact bb0 v l a w h
theorem ba5(v:Value)(l:List Int)(a:Int)(w:World)(h:c9 w v l) :
 Calls Tryz.prog 186 #[.agg #[v],.int .i64 a] w fun e w'=>e=.returned (.bool (K4 l a))∧Ext w w':=by
 obtain⟨wb,Hwb,hE0,hb,hg,hE,Hsz⟩:=ju3 28 h;clear h;have hbx:=hb wb hE;cases hs:j4 l a
 . have Hs:=zh (dr4 hs);go_in;go_wp2_with fail;rw[<-Hwb.out];go_wp2_with (first | (go_at_call 46;refine cx (l8 _ _ _ _ (hg _ hE) (hs)) hE ?_;clear hE;intro w' hE));exact zz17
 . obtain⟨n,rfl,h1,h2,hgr⟩:=o4 hs;have Hgr:=zh hgr;have Hs:Hid (K4 l n=decide ((1:Int)<(D3 l n:Int))):=zh (by
    rw[de1 hs];by_cases e:1<D3 l n
    . rw[decide_eq_true e,decide_eq_true om]
    . rw[decide_eq_false e,decide_eq_false om])
   clear hgr h1;go_in;go_wp2_with fail;rw[<-Hwb.out];go_wp2_with (first | (go_at_call 46;refine cx (l8 _ _ _ _ (hg _ hE) (hs)) hE ?_;clear hE;intro w' hE) | (go_at_call 68;refine cx (b13 _ _ _ _ (hg _ hE) (Hgr) (h2)) hE ?_;clear hE;intro w' hE));go_ret;exact⟨j5 (by rw[Hs.out]),hE0.trans hE⟩
theorem H7(v:Value)(l:List Int)(a:Int)(w:World)(h:c9 w v l){c:Bool}(hc:K4 l a=c) :
 Calls Tryz.prog 186 #[.agg #[v],.int .i64 a] w fun e w'=>e=.returned (.bool c)∧Ext w w':=by subst hc;exact ba5 v l a w h
theorem co8(u:Value)(M:List Int)(x:Int)(w:World)(h:c9 w u M) :
 Calls Tryz.prog 295 #[u,.int .i64 x] w fun e w'=>e=.returned (.int .i64 (c29 M x))∧w=w':=by
 obtain⟨ao,c,adr,rfl,hlen,hadr,hcell⟩:=h.op;have hix:=j3 (c:=c) elI szI hadr;have HD:Hid (∀k,k<M.length->(∀j,j<k->nth M j≠x)->nth M k=x->c29 M x=k):=zh fun k hk h e=>jl5 hk h e;clear h hadr;go_in;go_wp2_with fail;go_loop [8] (fun i=>∃k:Nat,k<=M.length∧i=.int .i64 k∧∀j,j<k->nth M j≠x) (fun i=>M.length - (intOf i).toNat);case atStart=>exact⟨0,om,rfl,om⟩
 case round =>
  obtain⟨k,hk,rfl,hno⟩:=hrel;have Hno:=zh hno;clear hno;by_cases hlt:k<M.length
  . have hck:=hcell k w hlt (er w);by_cases e:nth M k=x
    . have He:=zh (HD.out k hlt Hno.out e);have hq:(x == nth M k)=true:=(by rw[e];simp);clear e;go_wp2_with fail;go_ret;exact⟨o7 He.out.symm,rfl⟩
    . have Hq:=zh e;have hq:(x == nth M k)=false:=(by simp;exact fun h=>e h.symm);clear e;go_wp2_with fail;go_round;(case rel=>exact⟨k+1,om,zg,fun j hj=>by by_cases e:j=k;(subst e;exact Hq.out);exact Hno.out j om⟩);case measure=>exact zm1
  . have hkl:k=M.length:=(by omega);subst hkl;have He:=zh (cx8 Hno.out);go_wp2_with fail;go_ret;exact⟨o7 He.out.symm,rfl⟩
theorem c61(u:Value)(M:List Int)(x:Int)(w:World)(h:c9 w u M) :
 Calls Tryz.prog 208 #[u,.int .i64 x] w fun e w'=>e=.returned (.bool (b56 M x))∧w=w':=by
 have Hm:=zh (jc1 M x);go_in;go_wp2_with (first | (go_at_call 295;refine (co8 _ _ _ _ h).mono ?_;rintro e w' ⟨rfl,rfl⟩));go_ret;exact⟨j5 (by rw[Hm.out]),rfl⟩
theorem Y6(u:Value)(M:List Int)(x:Int)(w:World)(h:c9 w u M){c:Bool}(hc:b56 M x=c) :
 Calls Tryz.prog 208 #[u,.int .i64 x] w fun e w'=>e=.returned (.bool c)∧w=w':=by subst hc;exact c61 u M x w h
theorem bt4(v:Value)(l:List Int)(a b:Int)(w:World)(h:c9 w v l) :
 Calls Tryz.prog 229 #[.agg #[v],.int .i64 a,.int .i64 b] w fun e w'=>e=.returned (.tuple #[.int .i64 (c10 (N2 l a) (N2 l b)),.bool (bi3 (N2 l a) (N2 l b))])∧Ext w w':=by
 obtain⟨wb,Hwb,hE0,hb,hg,hE,Hsz⟩:=ju3 28 h;clear h;have hbx:=hb wb hE;go_in;go_wp2_with fail;rw[<-Hwb.out];refine (b52 _ _ _ _ (hg _ hE)).mono ?_;rintro e w1 ⟨u1,rfl,hO1,hE1⟩;have hbx1:=hb _ hE1;go_wp2_with fail;refine (b52 _ _ _ _ (hg _ hE1)).mono ?_;rintro e w2 ⟨u2,rfl,hO2,hE2⟩;have hM:=fun W (hW:Ext w2 W)=>(hO1.ints.ext hE2).ext hW;have hL:=hO2.ints;obtain⟨M,HM⟩:∃M,Hid (M=N2 l b):=⟨_,zh rfl⟩;obtain⟨L,HL⟩:∃L,Hid (L=N2 l a):=⟨_,zh rfl⟩;have hEa:=hE1.trans hE2;rw[<-HM.out] at hM;rw[<-HL.out] at hL;clear hO1 hO2 hE1 hE2 hE hbx hbx1;obtain⟨aoL,cL,adrL,rfl,hlenL,hadrL,hcellL⟩:=hL.op;have hixL:=j3 (c:=cL) elI szI hadrL;have hMw:=hM w2 (er w2);clear hadrL hL hM;go_wp2_with fail;go_loop [18] (fun i=>∃k:Nat,k<=L.length∧i=.int .i64 k∧∀j,j<k->b56 M (nth L j)=false) (fun i=>L.length - (intOf i).toNat);case atStart=>exact⟨0,om,rfl,om⟩
 case round =>
  obtain⟨k,hk,rfl,hno⟩:=hrel;have Hno:=zh hno;clear hno;by_cases hlt:k<L.length
  . have hck:=hcellL k w2 hlt (er w2);cases hm:b56 M (nth L k)
    . have Hm:=zh hm;go_wp2_with (first | (go_at_call 208;refine (Y6 _ _ _ _ hMw hm).mono ?_;rintro e w' ⟨rfl,rfl⟩));go_round;(case rel=>exact⟨k+1,om,zg,fun j hj=>by by_cases e:j=k;(subst e;exact Hm.out);exact Hno.out j om⟩);case measure=>exact zm1
    . have Hc:=zh (dz9 hlt Hno.out hm);go_wp2_with (first | (go_at_call 208;refine (Y6 _ _ _ _ hMw hm).mono ?_;rintro e w' ⟨rfl,rfl⟩));exact bodyPost_ret (v:=.tuple #[.int .i64 (nth L k),.bool true]) (by simp[results,Tryz.results229,go_sem]) rfl ⟨by rw[<-HL.out,<-HM.out,Hc.out.1,Hc.out.2],hE0.trans hEa⟩
  . have hkl:k=L.length:=(by omega);subst hkl;have Hc:=zh (d76 Hno.out);go_wp2_with fail;exact bodyPost_ret (v:=.tuple #[.int .i64 0,.bool false]) (by simp[results,Tryz.results229,go_sem]) rfl ⟨by rw[<-HL.out,<-HM.out,Hc.out.1,Hc.out.2],hE0.trans hEa⟩
theorem bs5(v:Value)(l:List Int)(a b:Int)(w:World)(h:c9 w v l) :
 Calls Tryz.prog 195 #[.agg #[v],.int .i64 a,.int .i64 b] w fun e w'=>e=.returned (.tuple #[.int .i64 (c10 (N2 l a) (N2 l b)),.bool (bi3 (N2 l a) (N2 l b))])∧Ext w w':=by
 obtain⟨wb,Hwb,hE0,hb,hg,hE,Hsz⟩:=ju3 28 h;clear h;have hbx:=hb wb hE;go_in;go_wp2_with fail;rw[<-Hwb.out];refine (b41 _ _ _ _ (hg _ hE)).mono ?_;rintro e w1 ⟨u1,rfl,hO1,hE1⟩;have hbx1:=hb _ hE1;go_wp2_with fail;refine (b41 _ _ _ _ (hg _ hE1)).mono ?_;rintro e w2 ⟨u2,rfl,hO2,hE2⟩;have hL:=hO1.ints.ext hE2;have hM:=hO2.ints;obtain⟨M,HM⟩:∃M,Hid (M=N2 l b):=⟨_,zh rfl⟩;obtain⟨L,HL⟩:∃L,Hid (L=N2 l a):=⟨_,zh rfl⟩;have hEa:=hE1.trans hE2;rw[<-HM.out] at hM;rw[<-HL.out] at hL;clear hO1 hO2 hE1 hE2 hE hbx hbx1;obtain⟨aoL,cL,adrL,rfl,hlenL,hadrL,hcellL⟩:=hL.op;have hixL:=j3 (c:=cL) elI szI hadrL;obtain⟨aoM,cM,adrM,rfl,hlenM,hadrM,hcellM⟩:=hM.op;have hixM:=j3 (c:=cM) elI szI hadrM;clear hadrL hL hM hadrM;have hE:=er w2;go_wp2_with fail;go_loopw [10] (fun i wr=>∃k:Nat,k<=L.length∧i=.int .i64 k∧(∀j,j<k->b56 M (nth L j)=false)∧Ext w2 wr) (fun i _=>L.length - (intOf i).toNat);case atStart=>exact⟨0,om,rfl,om,hE⟩
 case round =>
  clear hE;obtain⟨k,hk,rfl,hno,hE⟩:=hrel;have Hno:=zh hno;clear hno;by_cases hlt:k<L.length
  . go_wp2_with fail;go_loopw [11] (fun i wr=>∃q:Nat,q<=M.length∧i=.int .i64 q∧(∀j,j<q->nth M j≠nth L k)∧Ext w2 wr) (fun i _=>M.length - (intOf i).toNat);(case atStart=>exact⟨0,om,rfl,om,hE⟩);case round =>
     clear hE;obtain⟨q,hq,rfl,hno2,hE⟩:=hrel;have Hno2:=zh hno2;clear hno2;by_cases hlt2:q<M.length
     . have hck:=fun U=>hcellL k _ hlt (d5 w2 U);have hcq:=fun U=>hcellM q _ hlt2 (d5 w2 U);by_cases e:nth L k=nth M q
       . have Hc:=zh (dz9 hlt Hno.out (show b56 M (nth L k)=true from decide_eq_true (by rw[e];exact b49 hlt2)));have hqe:(nth L k == nth M q)=true:=(by rw[e];simp);clear e;go_wp2_with fail;(refine wl hE ?_);(repeat (go_big_quiet_step (first | fail)));(refine zd ?_);(clear hE);(intro W hE);have hck2:=hcellL k _ hlt hE;go_wp2_with fail;exact bodyPost_ret (v:=.tuple #[.int .i64 (nth L k),.bool true]) (by simp[results,Tryz.results195,go_sem]) rfl ⟨by rw[<-HL.out,<-HM.out,Hc.out.1,Hc.out.2],hE0.trans (hEa.trans hE)⟩
       . have Hq:=zh e;have hqe:(nth L k == nth M q)=false:=(by simp;exact e);clear e;go_wp2_with fail;(refine wl hE ?_);(repeat (go_big_quiet_step (first | fail)));(refine zd ?_);(clear hE);(intro W hE);go_wp2_with fail;go_roundw;(case rel=>exact⟨q+1,om,zg,fun j hj=>by by_cases e:j=q;(subst e;exact fun e=>Hq.out e.symm);exact Hno2.out j om,hE⟩);case measure=>exact zm1
     . have hql:q=M.length:=(by omega);subst hql;have Hm:Hid (b56 M (nth L k)=false):=zh (decide_eq_false (dr0 Hno2.out));go_wp2_with fail;go_roundw;(case rel=>exact⟨k+1,om,zg,fun j hj=>by by_cases e:j=k;(subst e;exact Hm.out);exact Hno.out j om,hE⟩);case measure=>exact zm1
  . have hkl:k=L.length:=(by omega);subst hkl;have Hc:=zh (d76 Hno.out);go_wp2_with fail;exact bodyPost_ret (v:=.tuple #[.int .i64 0,.bool false]) (by simp[results,Tryz.results195,go_sem]) rfl ⟨by rw[<-HL.out,<-HM.out,Hc.out.1,Hc.out.2],hE0.trans (hEa.trans hE)⟩
def kcF(l:List Int)(a b:Int):ByteArray :=
 if D8 l a b then
  if 0<sdF l a b then ⟨#[108,97,114,103,101]⟩ else if K4 l (l7 l a.toNat b.toNat:Nat) then ⟨#[112,101,114,105,111,100,105,99]⟩
  else if cnt a.toNat=1∨cnt b.toNat=1 then ⟨#[111,110,101]⟩ else if bi3 (N2 l a) (N2 l b) then ⟨#[115,116,101,112,115]⟩ else ⟨#[111,116,104,101,114]⟩
 else ⟨#[]⟩
theorem jh5{l:List Int}{a b:Int}(h:D8 l a b=false):kcF l a b=⟨#[]⟩:=by unfold kcF;rw[h];rfl
theorem jq3{l:List Int}{a b:Nat}(h:D8 l a b=true)(h1:0<sdF l a b):kcF l a b=⟨#[108,97,114,103,101]⟩:=by unfold kcF;rw[if_pos h,if_pos h1]
theorem jq4{l:List Int}{a b:Nat}(h:D8 l a b=true)(h1:¬0<sdF l a b)(h2:K4 l (l7 l a b:Nat)=true):kcF l a b=⟨#[112,101,114,105,111,100,105,99]⟩:=by
 unfold kcF;rw[if_pos h,if_neg h1];exact if_pos h2
theorem jq5{l:List Int}{a b:Nat}(h:D8 l a b=true)(h1:¬0<sdF l a b)(h2:K4 l (l7 l a b:Nat)=false)(h3:cnt a=1∨cnt b=1):kcF l a b=⟨#[111,110,101]⟩:=by
 unfold kcF;rw[if_pos h,if_neg h1,if_neg (by simp only[Int.toNat_natCast];rw[h2];decide)];exact if_pos h3
theorem jq6{l:List Int}{a b:Nat}(h:D8 l a b=true)(h1:¬0<sdF l a b)(h2:K4 l (l7 l a b:Nat)=false)(h3:¬(cnt a=1∨cnt b=1))(h4:bi3 (N2 l a) (N2 l b)=true):kcF l a b=⟨#[115,116,101,112,115]⟩:=by
 unfold kcF;rw[if_pos h,if_neg h1,if_neg (by simp only[Int.toNat_natCast];rw[h2];decide),if_neg (by simpa using h3)];exact if_pos h4
theorem jq7{l:List Int}{a b:Nat}(h:D8 l a b=true)(h1:¬0<sdF l a b)(h2:K4 l (l7 l a b:Nat)=false)(h3:¬(cnt a=1∨cnt b=1))(h4:bi3 (N2 l a) (N2 l b)=false):kcF l a b=⟨#[111,116,104,101,114]⟩:=by
 unfold kcF;rw[if_pos h,if_neg h1,if_neg (by simp only[Int.toNat_natCast];rw[h2];decide),if_neg (by simpa using h3),if_neg (by rw[h4];decide)]
theorem zz2{P:Prop}(h:P:=by go_in;go_wp2_with fail;rw[<-Hwb.out];go_wp2_with (first | (go_at_call 118;refine cx (I4 _ _ _ _ _ (hg _ hE) hf) hE ?_;clear hE;intro w' hE) | (go_at_call 229;refine cx (cCom _ hE) hE ?_;clear hE;intro w' hE) | (go_at_call 230;refine cx (V6 _ _ _ _ _ (hg _ hE)) hE ?_;clear hE;intro w' hE));(refine wl hE ?_);(repeat (go_big_quiet_step (first | (go_at_call 119;exact Calls.lat (J4 _ _ _ _ _ (hg _ (d5 wb _)) Hgr ha hb')) | (go_at_call 217;exact Calls.lat (I3 _ _ _ _ (hg _ (d5 wb _)) c2)))));(refine zd ?_);(clear hE);(intro W hE);go_wp2_with (first | (go_at_call 107;(first | (with_reducible refine Calls.mono (A9 _ ha _) ?_) | (with_reducible refine Calls.mono (A9 _ hb' _) ?_));rintro e w' ⟨rfl,rfl⟩));go_ret;exact⟨j9 Hz.out.symm,hE0.trans hE⟩):P:=h
theorem zz20{P:Prop}(h:P:=by exact⟨j9 Hz.out.symm,hE0.trans hE⟩):P:=h
theorem zz62{P:Prop}(h:P:=by go_ret;exact⟨j9 Hs.out.symm,hE0.trans hE⟩):P:=h
theorem c98(v:Value)(l:List Int)(a b:Int)(w:World)(h:c9 w v l) :
 Calls Tryz.prog 121 #[.agg #[v],.int .i64 a,.int .i64 b] w fun e w'=>e=.returned (.string (kcF l a b))∧Ext w w':=by
 obtain⟨wb,Hwb,hE0,hb,hg,hE,Hsz⟩:=ju3 28 h;clear h;have hbx:=hb wb hE;cases hf:D8 l a b
 . have Hs:=zh (jh5 hf);go_in;go_wp2_with fail;rw[<-Hwb.out];go_wp2_with (first | (go_at_call 118;refine cx (I4 _ _ _ _ _ (hg _ hE) hf) hE ?_;clear hE;intro w' hE) | (go_at_call 230;refine (V6 _ _ _ _ _ (hg _ hE)).mono ?_;try rw[hsd];rintro e w' ⟨rfl,hE'⟩;replace hE:=hE.trans hE';clear hE'));exact zz62
 . have hf':=hf;obtain⟨m,n,rfl,rfl,h3,h4,-,-,ha,hb',hgr,h1,h2⟩:=U7 hf;obtain⟨D,HD⟩:∃D,Hid (D=c10 (N2 l m) (N2 l n)):=⟨_,zh rfl⟩;obtain⟨C,HC⟩:∃C,Hid (C=bi3 (N2 l m) (N2 l n)):=⟨_,zh rfl⟩;have Hgr:=zh hgr;have hsb:=j53 l m n hf';have hsum:=G9 hgr m n;have hbu:=fun U=>hb _ (d5 wb U);have hne:(sdF l m n == -100)=false:=(by simp;omega);have cCom:∀W,Ext wb W->Calls Tryz.prog 229 #[.agg #[v],.int .i64 m,.int .i64 n] W fun e w'=>e=.returned (.tuple #[.int .i64 D,.bool C])∧Ext W w':=fun W hW=>(by rw[HD.out,HC.out];exact bt4 _ _ _ _ _ (hg _ hW));have Hf:=zh hf';have w1:((cnt m:Int) == 1)=decide (cnt m=1):=(by rw[Bool.eq_iff_iff];simp;omega);have w2:((cnt n:Int) == 1)=decide (cnt n=1):=(by rw[Bool.eq_iff_iff];simp;omega);clear hgr h3 h4 h1 h2 hf';by_cases c1:0<sdF l m n
   . have Hz:=zh (jq3 Hf.out c1);clear w1 w2;go_in;go_wp2_with fail;rw[<-Hwb.out];go_wp2_with (first | (go_at_call 118;refine cx (I4 _ _ _ _ _ (hg _ hE) hf) hE ?_;clear hE;intro w' hE) | (go_at_call 229;refine cx (cCom _ hE) hE ?_;clear hE;intro w' hE) | (go_at_call 230;refine cx (V6 _ _ _ _ _ (hg _ hE)) hE ?_;clear hE;intro w' hE));go_ret;exact zz20
   . have C1:=zh c1;have c1':sdF l m n<=0:=om;clear c1;cases c2:K4 l (l7 l m n:Nat)
     . have C2:=zh c2;by_cases c3:cnt m=1∨cnt n=1
       . have Hz:=zh (jq5 Hf.out C1.out c2 c3);rcases (by omega:cnt m=1∨(¬cnt m=1∧cnt n=1)) with d | ⟨d,d2⟩
         . have k1:((cnt m:Int) == 1)=true:=(by rw[w1,decide_eq_true d]);clear w1 w2 c3 d;exact zz2
         . have k1:((cnt m:Int) == 1)=false:=(by rw[w1,decide_eq_false d]);have k2:((cnt n:Int) == 1)=true:=(by rw[w2,decide_eq_true d2]);clear w1 w2 c3 d d2;exact zz2
       . have C3:=zh c3;have k1:((cnt m:Int) == 1)=false:=(by rw[w1,decide_eq_false (fun e=>c3 (Or.inl e))]);have k2:((cnt n:Int) == 1)=false:=(by rw[w2,decide_eq_false (fun e=>c3 (Or.inr e))]);clear w1 w2 c3;cases C
         . have Hz:=zh (jq7 Hf.out C1.out C2.out C3.out HC.out.symm);exact zz2
         . have Hz:=zh (jq6 Hf.out C1.out C2.out C3.out HC.out.symm);exact zz2
     . have Hz:=zh (jq4 Hf.out C1.out c2);clear w1 w2;go_in;go_wp2_with fail;rw[<-Hwb.out];go_wp2_with (first | (go_at_call 118;refine cx (I4 _ _ _ _ _ (hg _ hE) hf) hE ?_;clear hE;intro w' hE) | (go_at_call 229;refine cx (cCom _ hE) hE ?_;clear hE;intro w' hE) | (go_at_call 230;refine cx (V6 _ _ _ _ _ (hg _ hE)) hE ?_;clear hE;intro w' hE));(refine wl hE ?_);(repeat (go_big_quiet_step (first | (go_at_call 119;exact Calls.lat (J4 _ _ _ _ _ (hg _ (d5 wb _)) Hgr ha hb')) | (go_at_call 217;exact Calls.lat (I3 _ _ _ _ (hg _ (d5 wb _)) c2)))));(refine zd ?_);(clear hE);(intro W hE);go_wp2_with fail;go_ret;exact zz20
theorem zz3{P:Prop}(h:P:=by go_in;go_wp2_with fail;rw[<-Hwb.out];go_wp2_with (first | (fail) | (go_at_call 195;refine cx (cCom _ hE) hE ?_;clear hE;intro w' hE) | (go_at_call 194;refine cx (T7 _ _ _ _ _ (hg _ hE)) hE ?_;clear hE;intro w' hE));(refine wl hE ?_);(repeat (go_big_quiet_step (first | (go_at_call 49;exact Calls.lat (D6 _ _ _ _ _ (hg _ (d5 wb _)) Hgr ha hb')) | (go_at_call 186;exact Calls.lat (H7 _ _ _ _ (hg _ (d5 wb _)) c2)))));(refine zd ?_);(clear hE);(intro W hE);go_wp2_with (first | (go_at_call 66;(first | (with_reducible refine Calls.mono (q8 _ ha _) ?_) | (with_reducible refine Calls.mono (q8 _ hb' _) ?_));rintro e w' ⟨rfl,rfl⟩));go_ret;exact⟨j9 Hz.out.symm,hE0.trans hE⟩):P:=h
theorem c53(v:Value)(l:List Int)(a b:Int)(w:World)(h:c9 w v l) :
 Calls Tryz.prog 78 #[.agg #[v],.int .i64 a,.int .i64 b] w fun e w'=>e=.returned (.string (kcF l a b))∧Ext w w':=by
 obtain⟨wb,Hwb,hE0,hb,hg,hE,Hsz⟩:=ju3 28 h;clear h;have hbx:=hb wb hE;cases hf:D8 l a b
 . have Hs:=zh (jh5 hf);have hsd:=df8 hf;go_in;go_wp2_with fail;rw[<-Hwb.out];go_wp2_with (first | (fail) | (go_at_call 194;refine (T7 _ _ _ _ _ (hg _ hE)).mono ?_;try rw[hsd];rintro e w' ⟨rfl,hE'⟩;replace hE:=hE.trans hE';clear hE'));exact zz62
 . have hf':=hf;obtain⟨m,n,rfl,rfl,h3,h4,-,-,ha,hb',hgr,h1,h2⟩:=U7 hf;obtain⟨D,HD⟩:∃D,Hid (D=c10 (N2 l m) (N2 l n)):=⟨_,zh rfl⟩;obtain⟨C,HC⟩:∃C,Hid (C=bi3 (N2 l m) (N2 l n)):=⟨_,zh rfl⟩;have Hgr:=zh hgr;have hsb:=j53 l m n hf';have hsum:=G9 hgr m n;have hbu:=fun U=>hb _ (d5 wb U);have hne:(sdF l m n == -100)=false:=(by simp;omega);have cCom:∀W,Ext wb W->Calls Tryz.prog 195 #[.agg #[v],.int .i64 m,.int .i64 n] W fun e w'=>e=.returned (.tuple #[.int .i64 D,.bool C])∧Ext W w':=fun W hW=>(by rw[HD.out,HC.out];exact bs5 _ _ _ _ _ (hg _ hW));have Hf:=zh hf';have w1:((cnt m:Int) == 1)=decide (cnt m=1):=(by rw[Bool.eq_iff_iff];simp;omega);have w2:((cnt n:Int) == 1)=decide (cnt n=1):=(by rw[Bool.eq_iff_iff];simp;omega);clear hgr h3 h4 h1 h2 hf';by_cases c1:0<sdF l m n
   . have Hz:=zh (jq3 Hf.out c1);clear w1 w2;go_in;go_wp2_with fail;rw[<-Hwb.out];go_wp2_with (first | (fail) | (go_at_call 195;refine cx (cCom _ hE) hE ?_;clear hE;intro w' hE) | (go_at_call 194;refine cx (T7 _ _ _ _ _ (hg _ hE)) hE ?_;clear hE;intro w' hE));go_ret;exact zz20
   . have C1:=zh c1;have c1':sdF l m n<=0:=om;clear c1;cases c2:K4 l (l7 l m n:Nat)
     . have C2:=zh c2;by_cases c3:cnt m=1∨cnt n=1
       . have Hz:=zh (jq5 Hf.out C1.out c2 c3);rcases (by omega:cnt m=1∨(¬cnt m=1∧cnt n=1)) with d | ⟨d,d2⟩
         . have k1:((cnt m:Int) == 1)=true:=(by rw[w1,decide_eq_true d]);clear w1 w2 c3 d;exact zz3
         . have k1:((cnt m:Int) == 1)=false:=(by rw[w1,decide_eq_false d]);have k2:((cnt n:Int) == 1)=true:=(by rw[w2,decide_eq_true d2]);clear w1 w2 c3 d d2;exact zz3
       . have C3:=zh c3;have k1:((cnt m:Int) == 1)=false:=(by rw[w1,decide_eq_false (fun e=>c3 (Or.inl e))]);have k2:((cnt n:Int) == 1)=false:=(by rw[w2,decide_eq_false (fun e=>c3 (Or.inr e))]);clear w1 w2 c3;cases C
         . have Hz:=zh (jq7 Hf.out C1.out C2.out C3.out HC.out.symm);exact zz3
         . have Hz:=zh (jq6 Hf.out C1.out C2.out C3.out HC.out.symm);exact zz3
     . have Hz:=zh (jq4 Hf.out C1.out c2);clear w1 w2;go_in;go_wp2_with fail;rw[<-Hwb.out];go_wp2_with (first | (fail) | (go_at_call 195;refine cx (cCom _ hE) hE ?_;clear hE;intro w' hE) | (go_at_call 194;refine cx (T7 _ _ _ _ _ (hg _ hE)) hE ?_;clear hE;intro w' hE));(refine wl hE ?_);(repeat (go_big_quiet_step (first | (go_at_call 49;exact Calls.lat (D6 _ _ _ _ _ (hg _ (d5 wb _)) Hgr ha hb')) | (go_at_call 186;exact Calls.lat (H7 _ _ _ _ (hg _ (d5 wb _)) c2)))));(refine zd ?_);(clear hE);(intro W hE);go_wp2_with fail;go_ret;exact zz20
theorem di5(v:Value)(l:List Int)(a:Int)(w:World)(h:c9 w v l) :
 Calls Tryz.prog 216 #[.agg #[v],.int .i64 a] w fun e w'=>e=.returned (.bool (b27 l a))∧Ext w w':=by
 obtain⟨wb,Hwb,hE0,hb,hg,hE,Hsz⟩:=ju3 28 h;clear h;have hbx:=hb wb hE;cases hs:j4 l a
 . have Hs:=zh (c75 (J9 hs));go_in;go_wp2_with fail;rw[<-Hwb.out];go_wp2_with (first | (go_at_call 105;refine cx (p8 _ _ _ _ (hg _ hE) (hs)) hE ?_;clear hE;intro w' hE));exact zz17
 . obtain⟨n,rfl,h1,h2,hgr⟩:=o4 hs;by_cases h0:n=0
   . subst h0;have Hs:=zh (c75 (G2 l));go_in;go_wp2_with fail;rw[<-Hwb.out];go_wp2_with (first | (go_at_call 105;refine cx (p8 _ _ _ _ (hg _ hE) (hs)) hE ?_;clear hE;intro w' hE));go_ret;exact⟨j5 (by have:=Hs.out;simp_all),hE0.trans hE⟩
   . have Hs:=zh (cw0 (M5 hs om));have h0':((n:Int) != 0)=true:=(by simp;omega);clear hgr h0;go_in;go_wp2_with fail;rw[<-Hwb.out];go_wp2_with (first | (go_at_call 105;refine cx (p8 _ _ _ _ (hg _ hE) (hs)) hE ?_;clear hE;intro w' hE) | (go_at_call 302;refine cx (bq0 _ _ _ _ (hg _ hE)) hE ?_;clear hE;intro w' hE));exact zz17
theorem b21(v:Value)(l:List Int)(a:Int)(w:World)(h:c9 w v l){c:Bool}(hc:b27 l a=c) :
 Calls Tryz.prog 216 #[.agg #[v],.int .i64 a] w fun e w'=>e=.returned (.bool c)∧Ext w w':=by subst hc;exact di5 v l a w h
theorem df4(v:Value)(l:List Int)(a:Int)(w:World)(h:c9 w v l) :
 Calls Tryz.prog 185 #[.agg #[v],.int .i64 a] w fun e w'=>e=.returned (.bool (b27 l a))∧Ext w w':=by
 obtain⟨wb,Hwb,hE0,hb,hg,hE,Hsz⟩:=ju3 28 h;clear h;have hbx:=fun U=>hb _ (d5 wb U);cases hs:j4 l a
 . have Hs:=zh (c75 (J9 hs));go_in;go_wp2_with fail;rw[<-Hwb.out];(refine wl hE ?_);(repeat (go_big_quiet_step (first | (go_at_call 46;exact Calls.lat (l8 _ _ _ _ (hg _ (d5 wb _)) (hs))))));(refine zd ?_);(clear hE);(intro W hE);go_wp2_with fail;exact zz17
 . obtain⟨n,rfl,h1,h2,hgr⟩:=o4 hs;by_cases h0:n=0
   . subst h0;have Hs:=zh (c75 (G2 l));go_in;go_wp2_with fail;rw[<-Hwb.out];(refine wl hE ?_);(repeat (go_big_quiet_step (first | (go_at_call 46;exact Calls.lat (l8 _ _ _ _ (hg _ (d5 wb _)) (hs))))));(refine zd ?_);(clear hE);(intro W hE);go_wp2_with fail;go_ret;exact⟨j5 (by have:=Hs.out;simp_all),hE0.trans hE⟩
   . have Hs:=zh (j96 (M5 hs om));have h0':(0:Int)<(n:Int):=om;have h0n:0<n:=om;have Hgr:=zh hgr;obtain⟨-,-,-,l4⟩:=bw6 h0 h2;have hn:=bh1 hgr (N5 n);clear hgr;go_in;go_wp2_with fail;rw[<-Hwb.out];(refine wl hE ?_);(repeat (go_big_quiet_step (first | (go_at_call 46;exact Calls.lat (l8 _ _ _ _ (hg _ (d5 wb _)) (hs))) | (go_at_call 283;exact Calls.lat_same (cy2 _ (h0) (h2) _)) | (go_at_call 202;exact Calls.lat (W8 _ _ _ _ (hg _ (d5 wb _)) Hgr om)) | (go_at_call 166;exact Calls.lat (F5 _ _ _ _ _ (hg _ (d5 wb _)) (Hgr) (h2) (hn))) | (go_at_call 282;exact Calls.lat (bn5 _ _ _ _ (hg _ (d5 wb _)))))));(refine zd ?_);(clear hE);(intro W hE);go_wp2_with fail;go_ret;exact⟨j5 (by rw[Hs.out]),hE0.trans hE⟩
theorem b03(v:Value)(l:List Int)(a:Int)(w:World)(h:c9 w v l){c:Bool}(hc:b27 l a=c) :
 Calls Tryz.prog 185 #[.agg #[v],.int .i64 a] w fun e w'=>e=.returned (.bool c)∧Ext w w':=by subst hc;exact df4 v l a w h
def bc5(l:List Int)(a:Int):Bool:=decide (0<(N2 l a).length)
theorem c97(v:Value)(l:List Int)(a:Int)(w:World)(h:c9 w v l) :
 Calls Tryz.prog 218 #[.agg #[v],.int .i64 a] w fun e w'=>e=.returned (.bool (bc5 l a))∧Ext w w':=by
 obtain⟨wb,Hwb,hE0,hb,hg,hE,Hsz⟩:=ju3 28 h;clear h;have hbx:=hb wb hE;go_in;go_wp2_with fail;rw[<-Hwb.out];go_wp2_with (first | (go_at_call 303;refine (Calls.sh (b52 _ _ _ _ (hg _ hE))).mono ?_;rintro e w1 ⟨ao,c,rfl,hO,hE'⟩;replace hE:=hE.trans hE';clear hE'));go_ret;exact⟨j5 (by unfold bc5;rw[Bool.eq_iff_iff];try simp),hE0.trans hE⟩
theorem Z4(v:Value)(l:List Int)(a:Int)(w:World)(h:c9 w v l){c:Bool}(hc:bc5 l a=c) :
 Calls Tryz.prog 218 #[.agg #[v],.int .i64 a] w fun e w'=>e=.returned (.bool c)∧Ext w w':=by subst hc;exact c97 v l a w h
theorem c50(v:Value)(l:List Int)(a:Int)(w:World)(h:c9 w v l) :
 Calls Tryz.prog 187 #[.agg #[v],.int .i64 a] w fun e w'=>e=.returned (.bool (bc5 l a))∧Ext w w':=by
 obtain⟨wb,Hwb,hE0,hb,hg,hE,Hsz⟩:=ju3 28 h;clear h;have hbx:=hb wb hE;go_in;go_wp2_with fail;rw[<-Hwb.out];go_wp2_with (first | (go_at_call 284;refine (Calls.sh (b41 _ _ _ _ (hg _ hE))).mono ?_;rintro e w1 ⟨ao,c,rfl,hO,hE'⟩;replace hE:=hE.trans hE';clear hE'));go_ret;exact⟨j5 (by unfold bc5;rw[Bool.eq_iff_iff];try simp),hE0.trans hE⟩
theorem Y4(v:Value)(l:List Int)(a:Int)(w:World)(h:c9 w v l){c:Bool}(hc:bc5 l a=c) :
 Calls Tryz.prog 187 #[.agg #[v],.int .i64 a] w fun e w'=>e=.returned (.bool c)∧Ext w w':=by subst hc;exact c50 v l a w h
theorem c9.natc{w:World}{v:Value}{L:List Nat}(h:c9 w v (b9 L)) :
 ∃(ao:Option Addr) (c:Nat) (adr:Nat->Addr),v=.slice ao L.length c∧L.length<=c ∧
  (∀i,i<L.length->ao=some (adr 0)∧adr i=(adr 0).add i) ∧
  (∀i W,i<L.length->Ext w W->W.cell? (adr i)=some (.int .i64 (d8 L i:Int))):=by
 have hc:∀ao n c,v=.slice ao n c->n<=c:=by
  obtain⟨ao,c,rfl,h1,_⟩:=h;intro ao' n' c' e;simp only[Value.slice.injEq] at e;omega
 obtain⟨ao,c,adr,rfl,h2,h3⟩:=h.nats
 exact⟨ao,c,adr,rfl,hc _ _ _ rfl,h2,h3⟩
theorem Addr.add_add'(a:Addr)(i j:Nat):(a.add i).add j=a.add (i+j):=by
 unfold Addr.add;by_cases hi:i=0<;>by_cases hj:j=0<;>simp[hi,hj,Nat.add_assoc]
theorem bo4(v:Value)(l:List Int)(a:Int)(w:World)(h:c9 w v l) :
 Calls Tryz.prog 115 #[.agg #[v],.int .i64 a] w fun e w'=>e=.returned (.bool (sidB l a))∧Ext w w':=by
 obtain⟨wb,Hwb,hE0,hb,hg,hE,Hsz⟩:=ju3 28 h;clear h;have hbx:=hb wb hE;cases hs:j4 l a
 . have Hs:=zh (dr9 hs);go_in;go_wp2_with fail;rw[<-Hwb.out];go_wp2_with (first | (go_at_call 105;refine cx (p8 _ _ _ _ (hg _ hE) (hs)) hE ?_;clear hE;intro w' hE));exact zz17
 . obtain⟨n,rfl,h1,h2,hgr⟩:=o4 hs;have Hs:=zh (ci8 hs);have Hgr:=zh hgr;clear hgr;go_in;go_wp2_with fail;rw[<-Hwb.out];go_wp2_with (first | (go_at_call 105;refine cx (p8 _ _ _ _ (hg _ hE) (hs)) hE ?_;clear hE;intro w' hE) | (go_at_call 214;refine (I5 n h2 _).mono ?_;rintro e w1 ⟨v1,rfl,hL,hE1⟩;obtain⟨aoL,cL,adrL,rfl,hcap,hadrL,hcellL⟩:=hL.ints.natc;have hixL:=j3 (c:=cL) elI szI hadrL));have hb1:∀W,Ext w1 W->W.cell? ⟨w.heap.size,0,none⟩=some v:=fun W hW=>hb W (hE.trans (hE1.trans hW));have hg1:∀W,Ext w1 W->c9 W v l:=fun W hW=>hg W (hE.trans (hE1.trans hW));have eW:=hE0.trans (hE.trans hE1);have hall:∀y∈j7 n,y<24:=fun y hy=>I9 hy;have hlen:=B7 n;clear hb hg hbx hE hE1 hL hs;generalize j7 n=L at hcellL hixL hall hlen Hs hcap hadrL ⊢;have Hadr:=zh hadrL;clear hadrL;have hE:=er w1;have Hst:=zh (b08.start l L);go_loopw [20,5] (fun i s wr=>∃k seen:Nat,k<=L.length∧seen<2 ^ 24∧i=.int .i64 k∧s=.int .i64 seen∧b08 l L k k seen∧Ext w1 wr) (fun i _ _=>L.length - (intOf i).toNat);(case atStart=>exact⟨0,0,om,om,rfl,rfl,Hst.out,hE⟩);case round =>
    clear hE Hst;obtain⟨k,seen,hk,hseen,rfl,rfl,hS,hE⟩:=hrel;have HS:=zh hS;clear hS;by_cases hlt:k<L.length
    . have hck:=hcellL k _ hlt hE;obtain⟨M,hM⟩:=nq (L.length - k);have HM:Hid (k+M=L.length):=zh om;have hsub:L.length - k=M:=hM.symm;obtain⟨rfl,-⟩:=Hadr.out k hlt;have hak:(adrL 0).add k=adrL k:=(Hadr.out k hlt).2.symm;have hne:¬cL=k:=om;have hixk:=j3 (P:=Tryz.prog) (t:=26) (ao:=some (adrL k)) (n:=M) (c:=cL - k) (adr:=fun t=>adrL (k+t)) elI szI (fun t ht=>⟨rfl,by
       have q:=HM.out
       show adrL (k+t)=(adrL (k+0)).add t
       rw[(Hadr.out (k+t) om).2,Nat.add_zero,(Hadr.out k hlt).2,Addr.add_add']⟩)
      clear hM;go_wp2_with fail;clear hsub hak hne;have hk24:=hall _ (o6 hlt);go_loopw [29,5] (fun i s wq=>∃t sn:Nat,t<=M∧sn<2 ^ 24∧i=.int .i64 t∧s=.int .i64 sn∧b08 l L k (k+t) sn∧Ext w1 wq) (fun i _ _=>M - (intOf i).toNat);(case atStart=>exact⟨0,seen,om,hseen,rfl,rfl,HS.out,hE⟩);case round =>
       clear hE HS hseen hck;obtain⟨t,sn,ht,hseen,rfl,rfl,hS,hE⟩:=hrel;have HS:=zh hS;clear hS;have hbx:=hb1 _ hE;by_cases hlt2:t<M
       . have hkt:k+t<L.length:=(by have:=HM.out;omega);have hct:=hcellL (k+t) _ hkt hE;have hy24:=hall _ (o6 hkt);obtain⟨s,hs⟩:=nq (m6 l (d8 L k) (d8 L (k+t)));have hs24:s<24:=(by rw[hs];exact X7 Hgr.out _ _);have Hsd:=zh hs;clear hs;have hs1:=p6 (n:=s) om;have hs2:=F6 hseen hs24;cases hb:sn.testBit s
         . have Hn:=zh (HS.out.next (Nat.le_add_right k t) hkt (by rw[<-Hsd.out];exact hb));go_wp2_with (first | (go_at_call 224;refine (R5 _ _ _ _ _ (hg1 _ hE) Hgr om om).mono ?_;rw[<-Hsd.out];rintro e w' ⟨rfl,hE'⟩;replace hE:=hE.trans hE';clear hE') | (go_at_call 225;refine (T1 sn s hseen om _ hb).mono ?_;rintro e w' ⟨rfl,rfl⟩));go_roundw;(case rel=>exact⟨t+1,sn ||| 2 ^ s,om,Nat.or_lt_two_pow hseen (Nat.pow_lt_pow_right om hs24),zg,rfl,by rw[Hsd.out];exact Hn.out,hE⟩);case measure=>exact zm1
         . have Hz:=zh (j57 (HS.out.hit (Nat.le_add_right k t) hkt (by rw[<-Hsd.out];exact hb)));go_wp2_with (first | (go_at_call 224;refine (R5 _ _ _ _ _ (hg1 _ hE) Hgr om om).mono ?_;rw[<-Hsd.out];rintro e w' ⟨rfl,hE'⟩;replace hE:=hE.trans hE';clear hE') | (go_at_call 225;refine (T1 sn s hseen om _ hb).mono ?_;rintro e w' ⟨rfl,rfl⟩));go_ret;exact⟨j5 (by rw[Hs.out,Hz.out]),eW.trans hE⟩
       . have htM:k+t=L.length:=(by have:=HM.out;omega);have Hn:=zh (HS.out.row htM);go_wp2_with fail;go_roundw;(case rel=>exact⟨k+1,sn,om,hseen,zg,rfl,Hn.out,hE⟩);case measure=>exact zm1
    . have hkl:k=L.length:=(by omega);subst hkl;have Hz:=zh (j58 (HS.out.all rfl));go_wp2_with fail;go_ret;exact⟨j5 (by rw[Hs.out,Hz.out]),eW.trans hE⟩
theorem cb0(v:Value)(l:List Int)(a:Int)(w:World)(h:c9 w v l){c:Bool}(hc:sidB l a=c) :
 Calls Tryz.prog 115 #[.agg #[v],.int .i64 a] w fun e w'=>e=.returned (.bool c)∧Ext w w':=by subst hc;exact bo4 v l a w h
def Col(l:List Int)(L:List Nat)(i j k m:Nat):Prop:=¬(k=i∧m=j)∧m6 l (d8 L i) (d8 L j)=m6 l (d8 L k) (d8 L m)
theorem jr6{l:List Int}{L:List Nat}(h:∀i j k m,i<L.length->i<=j->j<L.length->k<=i->k<=m->m<L.length->¬Col l L i j k m):Sid l L:=by
 intro p q r t h1 h2 h3 h4 e;rcases Nat.le_total r p with c | c
 . have:=h p q r t om h1 h2 c h3 h4;by_cases d:r=p∧t=q
   . exact⟨d.1.symm,d.2.symm⟩
   . exact absurd ⟨d,e⟩ this
 . have:=h r t p q om h3 h4 c h1 h2;by_cases d:p=r∧q=t
   . exact d
   . exact absurd ⟨d,e.symm⟩ this
theorem jn8{l:List Int}{L:List Nat}{i j k m:Nat}(h1:i<=j)(h2:j<L.length)(h3:k<=m)(h4:m<L.length)(h:Col l L i j k m):¬Sid l L:=fun hS=>by
 obtain⟨e1,e2⟩:=hS i j k m h1 h2 h3 h4 h.2
 exact h.1 ⟨e1.symm,e2.symm⟩
theorem zz19{P:Prop}(h:P:=by go_wp2_with fail;(refine wl hE ?_);(repeat (go_big_quiet_step (first | (go_at_call 190;exact Calls.lat (G5 _ _ _ _ _ (hgr' _ (d5 wr _)) (Hgr) (om) (om))))));(refine zd ?_);(clear hE);(intro W hE);go_wp2_with fail;go_roundw;(case rel=>exact⟨m+1,om,om,zg,fun m' h1 h2=>by by_cases e:m'=m;(subst e;exact Hc.out);exact Hno4.out m' h1 om,hE4.trans hE⟩);case measure=>exact zm1):P:=h
theorem zz66{P:Prop}(h:P:=by clear hp hs hki;go_wp2_with fail;(refine wl hE ?_);(repeat (go_big_quiet_step (first | (go_at_call 190;exact Calls.lat (G5 _ _ _ _ _ (hgr' _ (d5 wr _)) (Hgr) (om) (om))))));(refine zd ?_);(clear hE);(intro W hE);go_wp2_with fail;go_ret;exact⟨j5 (by rw[<-HR1.out,HR2.out,Hz.out]),eW.trans (hE4.trans hE)⟩):P:=h
theorem c32(v:Value)(l:List Int)(a:Nat)(w:World)(h:c9 w v l)(Hgr:Hid (j1 l=true))(h2:a<2 ^ 24) :
 Calls Tryz.prog 191 #[.agg #[v],.int .i64 a] w fun e w'=>e=.returned (.bool (sidL l (j7 a)))∧Ext w w':=by
 obtain⟨wb,Hwb,hE0,hb,hg,hE,Hsz⟩:=ju3 28 h;clear h;go_in;go_wp2_with fail;rw[<-Hwb.out];refine (M6 a h2 _).mono ?_;rintro e w1 ⟨v1,rfl,hL,hE1⟩;obtain⟨aoL,cL,adrL,rfl,hadrL,hcellL⟩:=hL.ints.nats;have hixL:=j3 (c:=cL) elI szI hadrL;have hb1:∀W,Ext w1 W->W.cell? ⟨w.heap.size,0,none⟩=some v:=fun W hW=>hb W (hE1.trans hW);have hg1:∀W,Ext w1 W->c9 W v l:=fun W hW=>hg W (hE1.trans hW);have eW:=hE0.trans hE1;have hall:∀y∈j7 a,y<24:=fun y hy=>I9 hy;have hlen:=B7 a;clear hb hg hE hE1 hL hadrL;obtain⟨R,HR1⟩:∃R,Hid (R=sidL l (j7 a)):=⟨_,zh rfl⟩;have HR2:=HR1;generalize j7 a=L at hcellL hixL hall hlen HR2 ⊢;have hE:=er w1;go_wp2_with fail;go_loopw [6] (fun s wr=>∃i:Nat,i<=L.length∧s=.int .i64 i∧(∀i' j k m,i'<i->i'<=j->j<L.length->k<=i'->k<=m->m<L.length->¬Col l L i' j k m)∧Ext w1 wr) (fun s _=>L.length - (intOf s).toNat);case atStart=>exact⟨0,om,rfl,om,hE⟩
 case round =>
  clear hE;obtain⟨i,hi,rfl,hno,hE⟩:=hrel;have Hno1:=zh hno;clear hno;by_cases hlt:i<L.length
  . go_wp2_with fail;go_loopw [7] (fun s wr=>∃j:Nat,i<=j∧j<=L.length∧s=.int .i64 j∧(∀j' k m,i<=j'->j'<j->k<=i->k<=m->m<L.length->¬Col l L i j' k m)∧Ext w1 wr) (fun s _=>L.length - (intOf s).toNat);(case atStart=>exact⟨i,om,om,rfl,om,hE⟩);case round =>
     clear hE;obtain⟨j,hij,hj,rfl,hno,hE⟩:=hrel;have Hno2:=zh hno;clear hno;by_cases hltj:j<L.length
     . go_wp2_with fail;go_loopw [8] (fun s wr=>∃k:Nat,k<=i+1∧s=.int .i64 k∧(∀k' m,k'<k->k'<=m->m<L.length->¬Col l L i j k' m)∧Ext w1 wr) (fun s _=>i+1 - (intOf s).toNat);(case atStart=>exact⟨0,om,rfl,om,hE⟩);case round =>
        clear hE;obtain⟨k,hk,rfl,hno,hE⟩:=hrel;have Hno3:=zh hno;clear hno;by_cases hltk:k<=i
        . go_wp2_with fail;go_loopw [9] (fun s wr=>∃m:Nat,k<=m∧m<=L.length∧s=.int .i64 m∧(∀m',k<=m'->m'<m->¬Col l L i j k m')∧Ext w1 wr) (fun s _=>L.length - (intOf s).toNat);(case atStart=>exact⟨k,om,om,rfl,om,hE⟩);case round =>
           clear hE;obtain⟨m,hkm,hm,rfl,hno,hE⟩:=hrel;have Hno4:=zh hno;clear hno;by_cases hltm:m<L.length
           . have hci:=fun U=>hcellL i _ hlt (hE.trans (d5 wr U));have hcj:=fun U=>hcellL j _ hltj (hE.trans (d5 wr U));have hkl:k<L.length:=om;have hck:=fun U=>hcellL k _ hkl (hE.trans (d5 wr U));have hcm:=fun U=>hcellL m _ hltm (hE.trans (d5 wr U));have hbu:=fun U=>hb1 _ (hE.trans (d5 wr U));have hgr':∀W,Ext wr W->c9 W v l:=fun W hW=>hg1 W (hE.trans hW);have q1:=hall _ (o6 hlt);have q2:=hall _ (o6 hltj);have q3:=hall _ (o6 hkl);have q4:=hall _ (o6 hltm);have hE4:=hE;clear hE;have hE:=er wr;by_cases hp:k=i∧m=j
             . have Hc:Hid (¬Col l L i j k m):=zh (fun c=>c.1 hp);have b1:((k:Int) != (i:Int))=false:=(by simp;omega);have b2:((m:Int) != (j:Int))=false:=(by simp;omega);clear hp;exact zz19
             . by_cases hs:m6 l (d8 L i) (d8 L j)=m6 l (d8 L k) (d8 L m)
               . have Hz:=zh (j57 (jn8 hij hltj hkm hltm ⟨hp,hs⟩));have b3:((m6 l (d8 L i) (d8 L j):Int) == (m6 l (d8 L k) (d8 L m):Int))=true:=(by rw[hs];simp);by_cases hki:k=i
                 . have b1:((k:Int) != (i:Int))=false:=(by simp;omega);have b2:((m:Int) != (j:Int))=true:=(by simp;omega);exact zz66
                 . have b1:((k:Int) != (i:Int))=true:=(by simp;omega);exact zz66
               . have Hc:Hid (¬Col l L i j k m):=zh (fun c=>hs c.2);have b3:((m6 l (d8 L i) (d8 L j):Int) == (m6 l (d8 L k) (d8 L m):Int))=false:=(by simp;omega);by_cases hki:k=i
                 . have b1:((k:Int) != (i:Int))=false:=(by simp;omega);have b2:((m:Int) != (j:Int))=true:=(by simp;omega);clear hp hs hki;exact zz19
                 . have b1:((k:Int) != (i:Int))=true:=(by simp;omega);clear hp hs hki;exact zz19
           . have hml:m=L.length:=(by omega);go_wp2_with fail;go_roundw;(case rel=>exact⟨k+1,om,zg,fun k' m' h1 h2 h3=>by by_cases e:k'=k;(subst e;exact Hno4.out m' h2 om);exact Hno3.out k' m' om h2 h3,hE⟩);case measure=>exact zm1
        . go_wp2_with fail;go_roundw;(case rel=>exact⟨j+1,om,om,zg,fun j' k' m' h1 h2 h3 h4 h5=>by by_cases e:j'=j;(subst e;exact Hno3.out k' m' om h4 h5);exact Hno2.out j' k' m' h1 om h3 h4 h5,hE⟩);case measure=>exact zm1
     . go_wp2_with fail;go_roundw;(case rel=>exact⟨i+1,om,zg,fun i' j' k' m' h1 h2 h3 h4 h5 h6=>by by_cases e:i'=i;(subst e;exact Hno2.out j' k' m' h2 om h4 h5 h6);exact Hno1.out i' j' k' m' om h2 h3 h4 h5 h6,hE⟩);case measure=>exact zm1
  . have hil:i=L.length:=(by omega);have Hz:=zh (j58 (jr6 (l:=l) (L:=L) fun i' j' k' m' h1=>Hno1.out i' j' k' m' om));go_wp2_with fail;go_ret;exact⟨j5 (by rw[<-HR1.out,HR2.out,Hz.out]),eW.trans hE⟩
theorem c51(v:Value)(l:List Int)(a:Int)(w:World)(h:c9 w v l) :
 Calls Tryz.prog 74 #[.agg #[v],.int .i64 a] w fun e w'=>e=.returned (.bool (sidB l a))∧Ext w w':=by
 obtain⟨wb,Hwb,hE0,hb,hg,hE,Hsz⟩:=ju3 28 h;clear h;have hbx:=hb wb hE;cases hs:j4 l a
 . have Hs:=zh (dr9 hs);go_in;go_wp2_with fail;rw[<-Hwb.out];go_wp2_with (first | (go_at_call 46;refine cx (l8 _ _ _ _ (hg _ hE) (hs)) hE ?_;clear hE;intro w' hE));exact zz17
 . obtain⟨n,rfl,h1,h2,hgr⟩:=o4 hs;have Hs:=zh (ci8 hs);have Hgr:=zh hgr;clear hgr;go_in;go_wp2_with fail;rw[<-Hwb.out];go_wp2_with (first | (go_at_call 46;refine cx (l8 _ _ _ _ (hg _ hE) (hs)) hE ?_;clear hE;intro w' hE) | (go_at_call 191;refine cx (c32 _ _ _ _ (hg _ hE) Hgr h2) hE ?_;clear hE;intro w' hE));exact zz17
theorem c52(v:Value)(l:List Int)(a:Int)(w:World)(h:c9 w v l){c:Bool}(hc:sidB l a=c) :
 Calls Tryz.prog 74 #[.agg #[v],.int .i64 a] w fun e w'=>e=.returned (.bool c)∧Ext w w':=by subst hc;exact c51 v l a w h
end Go.Zz
