/- Cosets of small doubling. -/
import Derived.Test.YtnnbhcalddkmmaaGreatGr6
set_option linter.unusedSimpArgs false
set_option linter.unusedVariables false
set_option linter.unnecessarySimpa false
set_option maxHeartbeats 2000000
set_option maxRecDepth 20000
namespace Go.Zz
open Go.RowKit Go.Proofs
def Y7(l:List Int)(a k:Nat):Nat:=U6 ((List.range k).filter (fun x=>decide (j6 l a x=a)))
theorem cp1{l:List Int}{a k:Nat}(h:j6 l a k=a):Y7 l a (k+1)=Y7 l a k ||| 2 ^ k:=by
 unfold Y7;rw[List.range_succ,List.filter_append];simp only[List.filter_cons,List.filter_nil,h,decide_true,if_true];exact bl4 _ _
theorem d03{l:List Int}{a k:Nat}(h:¬j6 l a k=a):Y7 l a (k+1)=Y7 l a k:=by
 unfold Y7;rw[List.range_succ,List.filter_append];simp[h]
theorem c64(l:List Int)(a k:Nat):Y7 l a k<2 ^ k:=b43 fun _ hx=>List.mem_range.1 (List.mem_filter.1 hx).1
def D3(l:List Int)(a:Nat):Nat:=Y7 l a (ord l)
theorem bk4(l:List Int)(a:Nat):D3 l a<2 ^ ord l:=c64 l a _
def D8(l:List Int)(a b:Int):Bool:=j4 l a&&j4 l b && !(a == 0) && !(b == 0)
theorem j12{l:List Int}{a b:Int}(h:(j4 l a&&j4 l b)=false):D8 l a b=false:=by unfold D8;rw[h];rfl
theorem U7{l:List Int}{a b:Int}(h:D8 l a b=true):∃m n:Nat,a=m∧b=n∧m≠0∧n≠0∧m<2 ^ ord l∧n<2 ^ ord l∧m<2 ^ 24∧n<2 ^ 24∧j1 l=true∧j4 l a=true∧j4 l b=true:=by
 unfold D8 at h;simp only[Bool.and_eq_true,Bool.not_eq_true',beq_eq_false_iff_ne] at h;obtain⟨⟨⟨h1,h2⟩,h3⟩,h4⟩:=h;obtain⟨m,rfl,a1,a2,hg⟩:=o4 h1;obtain⟨n,rfl,b1,b2,-⟩:=o4 h2;exact⟨m,n,rfl,rfl,om,om,a1,b1,a2,b2,hg,h1,h2⟩
theorem du3{l:List Int}(h:j1 l=true){a b:Nat}(ha:a≠0)(ha2:a<2 ^ ord l)(hb:b<2 ^ ord l):cnt b<=cnt (l7 l a b):=by
 obtain⟨x,hx⟩:=b90 ha;rw[<-b78 h hb x];refine ce5 fun i hi=>?_;obtain⟨y,hy,by_,rfl⟩:=D0.1 hi;exact C7.2 ⟨x,y,nlt (N0 ha2 hx) (m8 h).2,hx,hy,by_,rfl⟩
theorem zz69{P:Prop}(h:P:=by go_wp2_with fail;go_ret;exact⟨rfl,hE0.trans hE⟩):P:=h
theorem zz97{P:Prop}(h:P:=by clear hq;go_wp2_with (first | (go_at_call 220;refine cx (H9 _ _ _ _ _ (hg _ hE) (Hgr) (ha2) (om)) hE ?_;clear hE;intro w' hE));go_roundw;(case rel=>exact⟨k+1,om,zg,by rw[Hn.out],hE⟩);case measure=>exact zm1):P:=h
theorem b63(v:Value)(l:List Int)(a:Nat)(w:World)(h:c9 w v l)(hs:j4 l a=true) :
 Calls Tryz.prog 109 #[.agg #[v],.int .i64 a] w fun e w'=>e=.returned (.int .i64 (D3 l a:Nat))∧Ext w w':=by
 obtain⟨wb,Hwb,hE0,hb,hg,hE,Hsz⟩:=ju3 28 h;clear h;obtain⟨a',e1,-,ha2,hgr⟩:=o4 hs;obtain rfl:a=a':=om;have Hgr:=zh hgr;have hob:=m8 hgr;clear hgr e1;go_in;go_wp2_with fail;rw[<-Hwb.out];go_wp2_with (first | (go_at_call 105;refine cx (p8 _ _ _ _ (hg _ hE) (hs)) hE ?_;clear hE;intro w' hE) | (go_at_call 99;refine cx (p7 _ _ _ (hg _ hE) (Hgr)) hE ?_;clear hE;intro w' hE));clear hs;go_loopw [5,13] (fun ov xv wr=>∃k:Nat,k<=ord l∧xv=.int .i64 k∧ov=.int .i64 (Y7 l a k:Nat)∧Ext wb wr) (fun _ x _=>ord l - (intOf x).toNat);case atStart=>exact⟨0,om,rfl,rfl,hE⟩
 case round =>
  clear hE;obtain⟨k,hk,rfl,rfl,hE⟩:=hrel;have hbx:=hb _ hE;by_cases hlt:k<ord l
  . have hst:Y7 l a k<2 ^ 24:=nlt (c64 l a k) (Nat.pow_le_pow_right om om);have hsf:=G0 Hgr.out a k;have hs1:=p6 (n:=k) om;have hs2:=F6 hst (show k<24 by omega);by_cases hq:j6 l a k=a
    . have Hn:=zh (cp1 hq);have hqi:((j6 l a k:Int) == (a:Int))=true:=(by rw[hq];simp);exact zz97
    . have Hn:=zh (d03 hq);have hqi:((j6 l a k:Int) == (a:Int))=false:=(by simp;omega);exact zz97
  . have hkl:k=ord l:=(by omega);subst hkl;exact zz69
theorem zz73{P:Prop}(h:P:=by clear hq;go_wp2_with (first | (go_at_call 43;refine cx (o5 _ _ _ (hg _ hE) (Hgr)) hE ?_;clear hE;intro w' hE) | (go_at_call 166;refine cx (F5 _ _ _ _ _ (hg _ hE) (Hgr) (ha2) (om)) hE ?_;clear hE;intro w' hE));go_roundw;(case rel=>exact⟨k+1,om,zg,by rw[Hn.out],hE⟩);case measure=>exact zm1):P:=h
theorem b13(v:Value)(l:List Int)(a:Nat)(w:World)(h:c9 w v l)(Hgr:Hid (j1 l=true))(ha2:a<2 ^ 24) :
 Calls Tryz.prog 68 #[.agg #[v],.int .i64 a] w fun e w'=>e=.returned (.int .i64 (D3 l a:Nat))∧Ext w w':=by
 obtain⟨wb,Hwb,hE0,hb,hg,hE,Hsz⟩:=ju3 28 h;clear h;have hob:=m8 Hgr.out;go_in;go_wp2_with fail;rw[<-Hwb.out];go_loopw [5,6] (fun ov xv wr=>∃k:Nat,k<=ord l∧xv=.int .i64 k∧ov=.int .i64 (Y7 l a k:Nat)∧Ext wb wr) (fun _ x _=>ord l - (intOf x).toNat);case atStart=>exact⟨0,om,rfl,rfl,hE⟩
 case round =>
  clear hE;obtain⟨k,hk,rfl,rfl,hE⟩:=hrel;have hbx:=hb _ hE;by_cases hlt:k<ord l
  . have hst:Y7 l a k<2 ^ 24:=nlt (c64 l a k) (Nat.pow_le_pow_right om om);have hsf:=G0 Hgr.out a k;have hs1:=p6 (n:=k) om;have hs2:=F6 hst (show k<24 by omega);by_cases hq:j6 l a k=a
    . have Hn:=zh (cp1 hq);have hqi:((j6 l a k:Int) == (a:Int))=true:=(by rw[hq];simp);exact zz73
    . have Hn:=zh (d03 hq);have hqi:((j6 l a k:Int) == (a:Int))=false:=(by simp;omega);exact zz73
  . have hkl:k=ord l:=(by omega);subst hkl;go_wp2_with (first | (go_at_call 43;refine cx (o5 _ _ _ (hg _ hE) (Hgr)) hE ?_;clear hE;intro w' hE));go_ret;exact zz85
theorem di9(v:Value)(l:List Int)(a b:Int)(w:World)(h:c9 w v l) :
 Calls Tryz.prog 118 #[.agg #[v],.int .i64 a,.int .i64 b] w fun e w'=>e=.returned (.bool (D8 l a b))∧Ext w w':=by
 obtain⟨wb,Hwb,hE0,hb,hg,hE,Hsz⟩:=ju3 28 h;clear h;have hbx:=hb wb hE;have har:=bu1 l a b;cases hs:(j4 l a&&j4 l b)
 . have Hs:=zh (j12 hs);rw[hs] at har;clear hs;go_in;go_wp2_with fail;rw[<-Hwb.out];try rw[Hsz.out]
   go_wp2_with (first | (go_at_call 222;refine Calls.mono (T9 _ _ _ _ _ (hg _ xq) (b35 _ _ _ _) har) ?_;rintro e w' ⟨rfl,hE'⟩;replace hE:=hE.trans (Ext.trans xq hE');clear hE'));exact zz17
 . have Hs:Hid (D8 l a b=(!(a == 0) && !(b == 0))):=zh (by unfold D8;rw[hs];rfl);rw[hs] at har;clear hs;cases ha:(a == 0)<;>cases hb0:(b == 0);all_goals
    have ha':(a != 0) = !(a == 0):=rfl
    have hb':(b != 0) = !(b == 0):=rfl
    rw[ha] at ha'
    rw[hb0] at hb'
    rw[ha,hb0] at Hs
    go_in
    go_wp2_with fail
    rw[<-Hwb.out];try rw[Hsz.out]
    go_wp2_with (first | (go_at_call 222;refine Calls.mono (T9 _ _ _ _ _ (hg _ xq) (b35 _ _ _ _) har) ?_;rintro e w' ⟨rfl,hE'⟩;replace hE:=hE.trans (Ext.trans xq hE');clear hE'))
    go_ret
    exact⟨j5 (by rw[Hs.out];simp_all),hE0.trans hE⟩
def knF(l:List Int)(a b:Nat):Int:=(cnt (l7 l a (D3 l (l7 l a b))):Int)+cnt (l7 l b (D3 l (l7 l a b))) - cnt (D3 l (l7 l a b))
theorem dq8{l:List Int}(h:j1 l=true){a b:Nat}(ha:a≠0)(ha2:a<2 ^ ord l):0<=knF l a b:=by
 have:=du3 h ha ha2 (bk4 l (l7 l a b));unfold knF;omega
theorem co6(v:Value)(l:List Int)(a b:Int)(w:World)(h:c9 w v l)(hf:D8 l a b=false) :
 Calls Tryz.prog 77 #[.agg #[v],.int .i64 a,.int .i64 b] w fun e w'=>e=.returned (.int .i64 (-1))∧Ext w w':=by
 obtain⟨wb,Hwb,hE0,hb,hg,hE,Hsz⟩:=ju3 28 h;clear h;have hbx:=hb wb hE;cases h1:j4 l a
 ·
    go_in
    go_wp2_with fail
    rw[<-Hwb.out]
    go_wp2_with (first | (go_at_call 46;refine cx (l8 _ _ _ _ (hg _ hE) (h1)) hE ?_;clear hE;intro w' hE))
    go_ret
    exact zz85
 . cases h2:j4 l b
   ·
      go_in
      go_wp2_with fail
      rw[<-Hwb.out]
      go_wp2_with (first | (go_at_call 46;(first | (with_reducible refine Calls.mono (l8 _ _ a _ (hg _ hE) h1) ?_) | (with_reducible refine Calls.mono (l8 _ _ b _ (hg _ hE) h2) ?_));rintro e w' ⟨rfl,hE'⟩;replace hE:=hE.trans hE';clear hE'))
      go_ret
      exact zz85
   . cases h3:(a == 0)
     . have h4:(b == 0)=true:=(by unfold D8 at hf;rw[h1,h2,h3] at hf;simpa using hf);clear hf
       ·
          go_in
          go_wp2_with fail
          rw[<-Hwb.out]
          go_wp2_with (first | (go_at_call 46;(first | (with_reducible refine Calls.mono (l8 _ _ a _ (hg _ hE) h1) ?_) | (with_reducible refine Calls.mono (l8 _ _ b _ (hg _ hE) h2) ?_));rintro e w' ⟨rfl,hE'⟩;replace hE:=hE.trans hE';clear hE'))
          go_ret
          exact zz85
     . clear hf
       ·
          go_in
          go_wp2_with fail
          rw[<-Hwb.out]
          go_wp2_with (first | (go_at_call 46;(first | (with_reducible refine Calls.mono (l8 _ _ a _ (hg _ hE) h1) ?_) | (with_reducible refine Calls.mono (l8 _ _ b _ (hg _ hE) h2) ?_));rintro e w' ⟨rfl,hE'⟩;replace hE:=hE.trans hE';clear hE'))
          go_ret
          exact zz85
theorem ci2(v:Value)(l:List Int)(a b:Nat)(w:World)(h:c9 w v l)(hf:D8 l a b=true) :
 Calls Tryz.prog 77 #[.agg #[v],.int .i64 a,.int .i64 b] w fun e w'=>e=.returned (.int .i64 (knF l a b))∧Ext w w':=by
 obtain⟨wb,Hwb,hE0,hb,hg,hE,Hsz⟩:=ju3 28 h;clear h;have hbx:=fun U=>hb _ (d5 wb U);have hbx1:=hb wb hE;obtain⟨m,n,e1,e2,h3,h4,-,-,ha,hb',hgr,h1,h2⟩:=U7 hf;obtain rfl:a=m:=om;obtain rfl:b=n:=om;have Hgr:=zh hgr;have hst:D3 l (l7 l a b)<2 ^ 24:=nlt (bk4 l _) (C4 hgr);have hsum:=G9 hgr a b;have q1:=G9 hgr a (D3 l (l7 l a b));have q2:=G9 hgr b (D3 l (l7 l a b));have r1:=r9 (l7 l a (D3 l (l7 l a b)));have r2:=r9 (l7 l b (D3 l (l7 l a b)));have r3:=r9 (D3 l (l7 l a b));have h3':((a:Int) == 0)=false:=by simp;omega
 have h4':((b:Int) == 0)=false:=by simp;omega
 have w1:IntKind.i64.wrap ((cnt (l7 l a (D3 l (l7 l a b))):Int)+(cnt (l7 l b (D3 l (l7 l a b))):Int))=(cnt (l7 l a (D3 l (l7 l a b))):Int)+(cnt (l7 l b (D3 l (l7 l a b))):Int):=IntWalk.i64_in _ om;have w2:IntKind.i64.wrap ((cnt (l7 l a (D3 l (l7 l a b))):Int)+(cnt (l7 l b (D3 l (l7 l a b))):Int) - (cnt (D3 l (l7 l a b)):Int))=(cnt (l7 l a (D3 l (l7 l a b))):Int)+(cnt (l7 l b (D3 l (l7 l a b))):Int) - (cnt (D3 l (l7 l a b)):Int):=IntWalk.i64_in _ om;clear hgr e1 e2 hf;go_in;go_wp2_with fail;rw[<-Hwb.out];go_wp2_with (first | (go_at_call 46;(first | (with_reducible refine Calls.mono (l8 _ _ (a:Int) _ (hg _ hE) h1) ?_) | (with_reducible refine Calls.mono (l8 _ _ (b:Int) _ (hg _ hE) h2) ?_));rintro e w' ⟨rfl,hE'⟩;replace hE:=hE.trans hE';clear hE'));(refine wl hE ?_);(repeat (go_big_quiet_step (first | (go_at_call 49;exact Calls.lat (D6 _ _ _ _ _ (hg _ (d5 wb _)) (Hgr) (ha) (hb'))) | (go_at_call 68;exact Calls.lat (b13 _ _ _ _ (hg _ (d5 wb _)) (Hgr) (hsum))))));(refine zd ?_);(clear hE);(intro W hE);go_wp2_with fail;(refine wl hE ?_);(repeat (go_big_quiet_step (first | (go_at_call 49;exact Calls.lat (D6 _ _ _ _ _ (hg _ (d5 wb _)) (Hgr) (ha) (hst))) | (go_at_call 49;exact Calls.lat (D6 _ _ _ _ _ (hg _ (d5 wb _)) (Hgr) (hb') (hst))) | (go_at_call 66;(first | (with_reducible exact Calls.lat_same (q8 _ q1 _)) | (with_reducible exact Calls.lat_same (q8 _ q2 _)) | (with_reducible exact Calls.lat_same (q8 _ hst _)))))));(refine zd ?_);(clear hE);(intro W hE);go_wp2_with fail;go_ret;exact⟨o7 (by unfold knF;rfl),hE0.trans hE⟩
def kpH(l:List Int)(a b:Nat):Nat:=D3 l (l7 l a b)
def bn4(l:List Int)(s d:Nat):Nat->Nat
 | 0=>s
 | k+1=>m6 l (bn4 l s d k) d
def F9(l:List Int)(s d n:Nat):Nat:=U6 ((List.range n).map (bn4 l s d))
theorem cn8(l:List Int)(s d k:Nat):F9 l s d (k+1)=F9 l s d k ||| 2 ^ bn4 l s d k:=by
 unfold F9;rw[List.range_succ,List.map_append];exact bl4 _ _
theorem ch5{l:List Int}(h:j1 l=true){s:Nat}(hs:s<24)(d:Nat):∀k,bn4 l s d k<24
 | 0=>hs
 | _+1=>X7 h _ _
theorem b16{l:List Int}(h:j1 l=true){s:Nat}(hs:s<24)(d n:Nat):F9 l s d n<2 ^ 24:=by
 refine b43 fun x hx=>?_;obtain⟨k,_,rfl⟩:=List.mem_map.1 hx;exact ch5 h hs d k
theorem ba4(v:Value)(l:List Int)(s d n:Nat)(w:World)(h:c9 w v l)(Hgr:Hid (j1 l=true))(hs:s<24)(hd:d<24)(hn:n<=24) :
 Calls Tryz.prog 348 #[.agg #[v],.int .i64 s,.int .i64 d,.int .i64 n] w fun e w'=>e=.returned (.int .i64 (F9 l s d n:Nat))∧Ext w w':=by
 obtain⟨wb,Hwb,hE0,hb,hg,hE,Hsz⟩:=ju3 28 h;clear h;go_in;go_wp2_with fail;rw[<-Hwb.out];go_loopw [1,9,11] (fun sv ov xv wr=>∃k:Nat,k<=n∧xv=.int .i64 k∧sv=.int .i64 (bn4 l s d k:Nat)∧ov=.int .i64 (F9 l s d k:Nat)∧Ext wb wr) (fun _ _ x _=>n - (intOf x).toNat);case atStart=>exact⟨0,om,rfl,rfl,rfl,hE⟩
 case round =>
  clear hE;obtain⟨k,hk,rfl,rfl,rfl,hE⟩:=hrel;have hbx:=hb _ hE;by_cases hlt:k<n
  . have hc:=ch5 Hgr.out hs d k;have hp:=b16 Hgr.out hs d k;have hs1:=p6 (n:=bn4 l s d k) om;have hs2:=F6 hp hc;have Hn:=zh (cn8 l s d k);go_wp2_with (first | (go_at_call 224;refine cx (R5 _ _ _ _ _ (hg _ hE) (Hgr) (om) (om)) hE ?_;clear hE;intro w' hE));go_roundw;(case rel=>exact⟨k+1,om,zg,rfl,by rw[Hn.out],hE⟩);case measure=>exact zm1
  . have hkl:k=n:=(by omega);subst hkl;exact zz69
theorem U9(v:Value)(l:List Int)(s d n:Nat)(w:World)(h:c9 w v l)(Hgr:Hid (j1 l=true))(hs:s<24)(hd:d<24)(hn:n<=24) :
 Calls Tryz.prog 333 #[.agg #[v],.int .i64 s,.int .i64 d,.int .i64 n] w fun e w'=>e=.returned (.int .i64 (F9 l s d n:Nat))∧Ext w w':=by
 obtain⟨wb,Hwb,hE0,hb,hg,hE,Hsz⟩:=ju3 28 h;clear h;go_in;go_wp2_with fail;rw[<-Hwb.out];go_loopw [10,9,11] (fun sv ov xv wr=>∃k:Nat,k<=n∧xv=.int .i64 k∧sv=.int .i64 (bn4 l s d k:Nat)∧ov=.int .i64 (F9 l s d k:Nat)∧Ext wb wr) (fun _ _ x _=>n - (intOf x).toNat);case atStart=>exact⟨0,om,rfl,rfl,rfl,hE⟩
 case round =>
  clear hE;obtain⟨k,hk,rfl,rfl,rfl,hE⟩:=hrel;have hbx:=hb _ hE;by_cases hlt:k<n
  . have hc:=ch5 Hgr.out hs d k;have hp:=b16 Hgr.out hs d k;have hs1:=p6 (n:=bn4 l s d k) om;have hs2:=F6 hp hc;have Hn:=zh (cn8 l s d k);go_wp2_with (first | (go_at_call 190;refine cx (G5 _ _ _ _ _ (hg _ hE) (Hgr) (om) (om)) hE ?_;clear hE;intro w' hE));go_roundw;(case rel=>exact⟨k+1,om,zg,rfl,by rw[Hn.out],hE⟩);case measure=>exact zm1
  . have hkl:k=n:=(by omega);subst hkl;exact zz69
def bm0(l:List Int)(a d:Nat)(L:List Nat):Bool:=L.any (fun x=>decide (F9 l x d (cnt a)=a))
def cl0(l:List Int)(a d:Nat):Bool:=bm0 l a d (j7 a)
def Z5(l:List Int)(a k:Nat):List Nat:=(List.range k).filter (cl0 l a)
theorem cw2{l:List Int}{a k:Nat}(h:cl0 l a k=true):Z5 l a (k+1)=Z5 l a k++[k]:=by
 unfold Z5;rw[List.range_succ,List.filter_append];simp[h]
theorem d83{l:List Int}{a k:Nat}(h:cl0 l a k=false):Z5 l a (k+1)=Z5 l a k:=by
 unfold Z5;rw[List.range_succ,List.filter_append];simp[h]
theorem cw1(l:List Int)(a k:Nat):(Z5 l a k).length<=k:=by
 unfold Z5;exact nle (List.length_filter_le _ _) zm
def N2(l:List Int)(a:Int):List Int:=if B9 l a then b9 (Z5 l a.toNat (ord l)) else []
theorem c76{l:List Int}{a:Int}(h:B9 l a=false):N2 l a=[]:=by unfold N2;rw[h];rfl
theorem d82{l:List Int}{n:Nat}(h:B9 l n=true):N2 l n=b9 (Z5 l n (ord l)):=by unfold N2;rw[if_pos h];rfl
theorem cl1{l:List Int}{a d:Nat}{L:List Nat}(h:∀j,j<L.length->F9 l (d8 L j) d (cnt a)≠a):bm0 l a d L=false:=by
 unfold bm0;rw[<-Bool.not_eq_true,List.any_eq_true];rintro⟨x,hx,hd⟩;obtain⟨j,hj,rfl⟩:=List.getElem_of_mem hx;have:=h j hj;unfold d8 at this;rw[List.getD_eq_getElem?_getD,List.getElem?_eq_getElem hj] at this;exact this (of_decide_eq_true hd)
theorem d84{l:List Int}{a d:Nat}{L:List Nat}{j:Nat}(hj:j<L.length)(h:F9 l (d8 L j) d (cnt a)=a):bm0 l a d L=true:=by
 unfold bm0;rw[List.any_eq_true];exact⟨_,o6 hj,decide_eq_true h⟩
theorem c60{l:List Int}(h:j1 l=true)(a x y:Nat):j6 l (j6 l a x) y=j6 l a (m6 l y x):=by
 have ho:=m9 h;apply Nat.eq_of_testBit_eq;intro z;apply b91;rw[D0,D0];constructor
 . rintro⟨u,_,hu,rfl⟩;obtain⟨t,ht,hb,rfl⟩:=D0.1 hu;exact⟨t,ht,hb,I0 l ho y x t⟩
 . rintro⟨t,ht,hb,rfl⟩;exact⟨m6 l x t,X7 h x t,D0.2 ⟨t,ht,hb,rfl⟩,(I0 l ho y x t).symm⟩
theorem bp7{l:List Int}(h:j1 l=true){a:Nat}(ha:a<2 ^ ord l):j6 l a 0=a:=by
 apply Nat.eq_of_testBit_eq;intro i;apply b91;rw[D0];constructor
 . rintro⟨y,_,hy,e⟩;rw[A7 l (m9 h) y (N0 ha hy)] at e;subst e;exact hy
 . intro hi;have:=N0 ha hi;exact⟨i,nlt this (m8 h).2,hi,A7 l (m9 h) i this⟩
theorem j00{l:List Int}(h:j1 l=true){n:Nat}(hn:n<2 ^ ord l):j6 l (bu7 l n) (N5 n)=n↔bu7 l n=j6 l n (p9 l (N5 n)):=by
 have ho:=m9 h;have e1:m6 l (p9 l (N5 n)) (N5 n)=0:=by rw[D4];exact J6 l ho _
 constructor
 . intro e;have:j6 l (j6 l (bu7 l n) (N5 n)) (p9 l (N5 n))=j6 l n (p9 l (N5 n)):=(by rw[e]);rw[c60 h,e1,bp7 h (show bu7 l n<2 ^ ord l from b22 h _)] at this;exact this
 . intro e;rw[e,c60 h,J6 l ho,bp7 h hn]
def b27(l:List Int)(a:Int):Bool:=B9 l a&&decide (bw1 l a=a)
theorem c75{l:List Int}{a:Int}(h:B9 l a=false):b27 l a=false:=by unfold b27;rw[h];rfl
theorem cw0{l:List Int}{n:Nat}(h:B9 l n=true):b27 l n=(bw1 l n == (n:Int)):=by unfold b27;rw[h];rfl
theorem j96{l:List Int}{n:Nat}(h:B9 l n=true):b27 l n=b05 l (j6 l n (p9 l (N5 n)):Nat):=by
 obtain⟨n',e,h0,h1,h2,hg⟩:=cm1 h;obtain rfl:n=n':=om;have hs:j4 l (j6 l n (p9 l (N5 n)):Nat)=true:=bm8 hg (Y5 (m9 hg) _ _);rw[cw0 h,cx7 h,cj1 hs];have:=j00 hg h1;unfold bu7 at this ⊢;by_cases e:genF l (j6 l n (p9 l (N5 n)))=j6 l n (p9 l (N5 n))
 . rw[this.2 e,e];simp
 . have e':¬j6 l (genF l (j6 l n (p9 l (N5 n)))) (N5 n)=n:=fun q=>e (this.1 q);have i1:((j6 l (genF l (j6 l n (p9 l (N5 n)))) (N5 n):Int) == (n:Int))=false:=(by simp;omega);have i2:((genF l (j6 l n (p9 l (N5 n))):Int) == (j6 l n (p9 l (N5 n)):Int))=false:=(by simp;omega);rw[i1,i2]
def bxS(l:List Int)(n m d e:Nat):Nat:=l7 l (F9 l 0 d m) (F9 l 0 e (cnt n / m))
def b92(l:List Int)(n m d e:Nat):Bool:=decide (cnt (bxS l n m d e)=cnt n)&&(List.range (ord l)).any (fun x=>decide (j6 l (bxS l n m d e) x=n))
def bxM(l:List Int)(n m:Nat):Bool:=decide (cnt n % m=0)&&(List.range (ord l)).any (fun d=>(List.range (ord l)).any (fun e=>b92 l n m d e))
def bxN(l:List Int)(n:Nat):Bool:=(List.range (cnt n+1)).any (fun m=>decide (1<=m∧m*m<=cnt n)&&bxM l n m)
def b26(l:List Int)(a:Int):Bool:=B9 l a&&bxN l a.toNat
theorem c72{l:List Int}{a:Int}(h:B9 l a=false):b26 l a=false:=by unfold b26;rw[h];rfl
theorem d65{l:List Int}{n:Nat}(h:B9 l n=true):b26 l n=bxN l n:=by unfold b26;rw[h];rfl
theorem d67{l:List Int}{n m d e:Nat}(h:¬cnt (bxS l n m d e)=cnt n):b92 l n m d e=false:=by unfold b92;simp[h]
theorem dn6{l:List Int}{n m d e:Nat}(h:∀x,x<ord l->¬j6 l (bxS l n m d e) x=n):b92 l n m d e=false:=by
 unfold b92;have:(List.range (ord l)).any (fun x=>decide (j6 l (bxS l n m d e) x=n))=false:=by
  rw[<-Bool.not_eq_true,List.any_eq_true];rintro⟨x,hx,hd⟩;exact h x (List.mem_range.1 hx) (of_decide_eq_true hd)
 rw[this];simp
theorem dn7{l:List Int}{n m:Nat}(h:¬cnt n % m=0):bxM l n m=false:=by unfold bxM;simp[h]
theorem dz0{l:List Int}{n m:Nat}(h:∀d,d<ord l->∀e,e<ord l->b92 l n m d e=false):bxM l n m=false:=by
 unfold bxM;have:(List.range (ord l)).any (fun d=>(List.range (ord l)).any (fun e=>b92 l n m d e))=false:=by
  rw[<-Bool.not_eq_true,List.any_eq_true];rintro⟨d,hd,hx⟩;rw[List.any_eq_true] at hx;obtain⟨e,he,hy⟩:=hx;rw[h d (List.mem_range.1 hd) e (List.mem_range.1 he)] at hy;cases hy
 rw[this];simp
theorem dz1{l:List Int}{n k:Nat}(h:∀m,1<=m->m<k->bxM l n m=false)(hk:¬k*k<=cnt n):bxN l n=false:=by
 unfold bxN;rw[<-Bool.not_eq_true,List.any_eq_true];rintro⟨m,_,hx⟩;rw[Bool.and_eq_true,decide_eq_true_eq] at hx;obtain⟨⟨h1,h2⟩,h3⟩:=hx;rcases Nat.lt_or_ge m k with hlt | hge
 . rw[h m h1 hlt] at h3;cases h3
 . have:=Nat.mul_le_mul hge hge;omega
theorem dn8{l:List Int}{n m d e x:Nat}(h1:1<=m)(h2:m*m<=cnt n)(h3:cnt n % m=0)(hd:d<ord l)(he:e<ord l)(hx:x<ord l)(h4:cnt (bxS l n m d e)=cnt n)(h5:j6 l (bxS l n m d e) x=n):bxN l n=true:=by
 unfold bxN bxM b92;rw[List.any_eq_true];refine⟨m,List.mem_range.2 (by have:=Nat.le_mul_of_pos_left m h1;omega),?_⟩;rw[Bool.and_eq_true,Bool.and_eq_true,decide_eq_true_eq,decide_eq_true_eq];refine⟨⟨h1,h2⟩,h3,?_⟩;rw[List.any_eq_true];refine⟨d,List.mem_range.2 hd,?_⟩;rw[List.any_eq_true];refine⟨e,List.mem_range.2 he,?_⟩;rw[Bool.and_eq_true,decide_eq_true_eq,List.any_eq_true];exact⟨h4,x,List.mem_range.2 hx,decide_eq_true h5⟩
def Sid(l:List Int)(L:List Nat):Prop:=∀i j k m,i<=j->j<L.length->k<=m->m<L.length->m6 l (d8 L i) (d8 L j)=m6 l (d8 L k) (d8 L m)->i=k∧j=m
open Classical in
noncomputable def sidL (l:List Int) (L:List Nat):Bool:=decide (Sid l L)
noncomputable def sidB (l:List Int) (a:Int):Bool:=j4 l a&&sidL l (j7 a.toNat)
theorem dr9{l:List Int}{a:Int}(h:j4 l a=false):sidB l a=false:=by unfold sidB;rw[h];rfl
theorem ci8{l:List Int}{n:Nat}(h:j4 l n=true):sidB l n=sidL l (j7 n):=by unfold sidB;rw[h];rfl
open Classical in
theorem j58{l:List Int}{L:List Nat}(h:Sid l L):sidL l L=true:=by unfold sidL;exact decide_eq_true h
open Classical in
theorem j57{l:List Int}{L:List Nat}(h:¬Sid l L):sidL l L=false:=by unfold sidL;exact decide_eq_false h
def Bef(i j p q:Nat):Prop:=p<i∨(p=i∧q<j)
def b08(l:List Int)(L:List Nat)(i j seen:Nat):Prop :=
 (∀p q r t,p<=q->q<L.length->r<=t->t<L.length->Bef i j p q->Bef i j r t->m6 l (d8 L p) (d8 L q)=m6 l (d8 L r) (d8 L t)->p=r∧q=t) ∧
  (∀z,seen.testBit z=true↔∃p q,p<=q∧q<L.length∧Bef i j p q∧m6 l (d8 L p) (d8 L q)=z)
theorem b08.start(l:List Int)(L:List Nat):b08 l L 0 0 0:=by
 refine⟨fun p q r t _ _ _ _ h=>?_,fun z=>?_⟩
 . rcases h with h | ⟨_,h⟩<;>omega
 . rw[Nat.zero_testBit];constructor
   . intro h;cases h
   . rintro⟨p,q,_,_,h,_⟩;rcases h with h | ⟨_,h⟩<;>omega
theorem b08.hit{l:List Int}{L:List Nat}{i j seen:Nat}(h:b08 l L i j seen)(hij:i<=j)(hj:j<L.length)(hs:seen.testBit (m6 l (d8 L i) (d8 L j))=true):¬Sid l L:=by
 intro hS;obtain⟨p,q,hpq,hq,hb,e⟩:=(h.2 _).1 hs;obtain⟨rfl,rfl⟩:=hS p q i j hpq hq hij hj e;rcases hb with hb | ⟨_,hb⟩<;>omega
theorem b08.next{l:List Int}{L:List Nat}{i j seen:Nat}(h:b08 l L i j seen)(hij:i<=j)(hj:j<L.length)(hs:seen.testBit (m6 l (d8 L i) (d8 L j))=false) :
 b08 l L i (j+1) (seen ||| 2 ^ m6 l (d8 L i) (d8 L j)):=by
 have hb:∀p q,Bef i (j+1) p q↔(Bef i j p q∨(p=i∧q=j)):=fun p q=>by unfold Bef;omega
 refine⟨fun p q r t h1 h2 h3 h4 h5 h6 e=>?_,fun z=>?_⟩
 . rcases (hb p q).1 h5 with a | ⟨rfl,rfl⟩<;>rcases (hb r t).1 h6 with b | ⟨rfl,rfl⟩
   . exact h.1 p q r t h1 h2 h3 h4 a b e
   . have:=(h.2 _).2 ⟨p,q,h1,h2,a,e⟩;rw[hs] at this;cases this
   . have:=(h.2 _).2 ⟨r,t,h3,h4,b,e.symm⟩;rw[hs] at this;cases this
   . exact⟨rfl,rfl⟩
 . rw[Nat.testBit_or,Nat.testBit_two_pow,Bool.or_eq_true,decide_eq_true_eq,h.2 z];constructor
   . rintro (⟨p,q,h1,h2,h3,h4⟩ | e)
     . exact⟨p,q,h1,h2,(hb p q).2 (Or.inl h3),h4⟩
     . exact⟨i,j,hij,hj,(hb i j).2 (Or.inr ⟨rfl,rfl⟩),e⟩
   . rintro⟨p,q,h1,h2,h3,h4⟩;rcases (hb p q).1 h3 with a | ⟨rfl,rfl⟩
     . exact Or.inl ⟨p,q,h1,h2,a,h4⟩
     . exact Or.inr h4
theorem b08.row{l:List Int}{L:List Nat}{i j seen:Nat}(h:b08 l L i j seen)(hj:j=L.length):b08 l L (i+1) (i+1) seen:=by
 have hb:∀p q,p<=q->q<L.length->(Bef (i+1) (i+1) p q↔Bef i j p q):=fun p q h1 h2=>by unfold Bef;omega
 refine⟨fun p q r t h1 h2 h3 h4 h5 h6 e=>h.1 p q r t h1 h2 h3 h4 ((hb p q h1 h2).1 h5) ((hb r t h3 h4).1 h6) e,fun z=>?_⟩;rw[h.2 z];constructor
 . rintro⟨p,q,h1,h2,h3,h4⟩;exact⟨p,q,h1,h2,(hb p q h1 h2).2 h3,h4⟩
 . rintro⟨p,q,h1,h2,h3,h4⟩;exact⟨p,q,h1,h2,(hb p q h1 h2).1 h3,h4⟩
theorem b08.all{l:List Int}{L:List Nat}{i seen:Nat}(h:b08 l L i i seen)(hi:i=L.length):Sid l L:=fun p q r t h1 h2 h3 h4 e =>
 h.1 p q r t h1 h2 h3 h4 (by unfold Bef;omega) (by unfold Bef;omega) e
end Go.Zz
