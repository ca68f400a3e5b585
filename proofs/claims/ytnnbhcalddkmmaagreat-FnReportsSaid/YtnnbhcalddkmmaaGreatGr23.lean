/- What a set is: StructureOf. -/
import Derived.Test.YtnnbhcalddkmmaaGreatGr22
set_option linter.unusedSimpArgs false
set_option linter.unusedVariables false
set_option linter.unnecessarySimpa false
set_option maxHeartbeats 2000000
set_option maxRecDepth 20000
namespace Go.Zz
open Go.RowKit Go.Proofs
noncomputable def stF (l:List Int) (a:Int):ByteArray :=
 if j4 l a then if a=0 then ⟨#[101,109,112,116,121]⟩ else if (decide (a.toNat=l9 l)) then ⟨#[119,104,111,108,101]⟩ else if b27 l a then ⟨#[99,111,115,101,116]⟩ else if K4 l a then ⟨#[112,101,114,105,111,100,105,99]⟩ else if bc5 l a then ⟨#[112,114,111,103,114,101,115,115,105,111,110]⟩ else if b26 l a then ⟨#[98,111,120]⟩ else if sidB l a then ⟨#[115,105,100,111,110]⟩ else ⟨#[111,116,104,101,114]⟩
 else ⟨#[]⟩
theorem ji1{l:List Int}{a:Int}(h:j4 l a=false):stF l a=⟨#[]⟩:=by unfold stF;rw[h];rfl
theorem ds5{l:List Int}(h:j4 l ((0:Nat):Int)=true):stF l ((0:Nat):Int)=⟨#[101,109,112,116,121]⟩:=by unfold stF;rw[h];rfl
theorem jr9{l:List Int}{n:Nat}(h:j4 l n=true)(h0':n≠0)(h0:decide (n=l9 l)=true):stF l n=⟨#[119,104,111,108,101]⟩:=by
 unfold stF;rw[if_pos h,if_neg om];simp only[Int.toNat_natCast,h0,if_true,if_false,Bool.false_eq_true]
theorem js0{l:List Int}{n:Nat}(h:j4 l n=true)(h0':n≠0)(h0:decide (n=l9 l)=false)(h1:b27 l n=true):stF l n=⟨#[99,111,115,101,116]⟩:=by
 unfold stF;rw[if_pos h,if_neg om];simp only[Int.toNat_natCast,h0,h1,if_true,if_false,Bool.false_eq_true]
theorem js1{l:List Int}{n:Nat}(h:j4 l n=true)(h0':n≠0)(h0:decide (n=l9 l)=false)(h1:b27 l n=false)(h2:K4 l n=true):stF l n=⟨#[112,101,114,105,111,100,105,99]⟩:=by
 unfold stF;rw[if_pos h,if_neg om];simp only[Int.toNat_natCast,h0,h1,h2,if_true,if_false,Bool.false_eq_true]
theorem js2{l:List Int}{n:Nat}(h:j4 l n=true)(h0':n≠0)(h0:decide (n=l9 l)=false)(h1:b27 l n=false)(h2:K4 l n=false)(h3:bc5 l n=true):stF l n=⟨#[112,114,111,103,114,101,115,115,105,111,110]⟩:=by
 unfold stF;rw[if_pos h,if_neg om];simp only[Int.toNat_natCast,h0,h1,h2,h3,if_true,if_false,Bool.false_eq_true]
theorem js3{l:List Int}{n:Nat}(h:j4 l n=true)(h0':n≠0)(h0:decide (n=l9 l)=false)(h1:b27 l n=false)(h2:K4 l n=false)(h3:bc5 l n=false)(h4:b26 l n=true):stF l n=⟨#[98,111,120]⟩:=by
 unfold stF;rw[if_pos h,if_neg om];simp only[Int.toNat_natCast,h0,h1,h2,h3,h4,if_true,if_false,Bool.false_eq_true]
theorem zz166{P:Prop}(h:P:=by unfold stF;rw[if_pos h,if_neg om];simp only[Int.toNat_natCast,h0,h1,h2,h3,h4,h5,if_true,if_false,Bool.false_eq_true]):P:=h
theorem js4{l:List Int}{n:Nat}(h:j4 l n=true)(h0':n≠0)(h0:decide (n=l9 l)=false)(h1:b27 l n=false)(h2:K4 l n=false)(h3:bc5 l n=false)(h4:b26 l n=false)(h5:sidB l n=true):stF l n=⟨#[115,105,100,111,110]⟩:=by
 exact zz166
theorem js5{l:List Int}{n:Nat}(h:j4 l n=true)(h0':n≠0)(h0:decide (n=l9 l)=false)(h1:b27 l n=false)(h2:K4 l n=false)(h3:bc5 l n=false)(h4:b26 l n=false)(h5:sidB l n=false):stF l n=⟨#[111,116,104,101,114]⟩:=by
 exact zz166
theorem zz53{P:Prop}(h:P:=by go_in;go_wp2_with fail;rw[<-Hwb.out];go_wp2_with (first | (go_at_call 105;refine cx (p8 _ _ _ _ (hg _ hE) (hs)) hE ?_;clear hE;intro w' hE));go_ret;exact⟨j9 Hs.out.symm,hE0.trans hE⟩):P:=h
theorem ck3(v:Value)(l:List Int)(a:Int)(w:World)(h:c9 w v l) :
 Calls Tryz.prog 108 #[.agg #[v],.int .i64 a] w fun e w'=>e=.returned (.string (stF l a))∧Ext w w':=by
 obtain⟨wb,Hwb,hE0,hb,hg,hE,Hsz⟩:=ju3 28 h;clear h;have hbx:=hb wb hE;cases hs:j4 l a
 . have Hs:=zh (ji1 hs);exact zz53
 . obtain⟨n,rfl,h1,h2,hgr⟩:=o4 hs;by_cases h0:n=0
   . subst h0;have Hs:=zh (ds5 hs);exact zz53
   . have h0':((n:Int) == 0)=false:=(by simp;omega);have H0:=zh h0;have Hgr:=zh hgr;have hob:=m8 hgr;have hfl:=bv7 l;have hfb:=nlt hfl (C4 hgr);have hs1:=p6 (n:=ord l) om;have hpw:=b51 hob.2;have hpp:=T3 (ord l);have Hfw:Hid (((pw (ord l):Nat):Int) - 1=(l9 l:Int)):=zh (by unfold l9;omega);clear hgr h0;cases c0:decide (n=l9 l);rotate_left
     ·
        have Hz:=zh (jr9 hs H0.out c0)
        have hfe:((n:Int) == (l9 l:Int))=decide (n=l9 l):=(by rw[Bool.eq_iff_iff];simp;omega);rw[c0] at hfe
        skip
        go_in
        go_wp2_with fail
        rw[<-Hwb.out]
        go_wp2_with (first | (go_at_call 105;refine cx (p8 _ _ _ _ (hg _ hE) (hs)) hE ?_;clear hE;intro w' hE) | (go_at_call 215;refine cx (G1 _ _ _ (hg _ hE) (Hgr)) hE ?_;clear hE;intro w' hE))
        go_ret
        exact zz20
     cases c1:b27 l n;rotate_left
     ·
        have Hz:=zh (js0 hs H0.out c0 c1)
        have hfe:((n:Int) == (l9 l:Int))=decide (n=l9 l):=(by rw[Bool.eq_iff_iff];simp;omega);rw[c0] at hfe
        skip
        go_in
        go_wp2_with fail
        rw[<-Hwb.out]
        go_wp2_with (first | (go_at_call 105;refine cx (p8 _ _ _ _ (hg _ hE) (hs)) hE ?_;clear hE;intro w' hE) | (go_at_call 215;refine cx (G1 _ _ _ (hg _ hE) (Hgr)) hE ?_;clear hE;intro w' hE) | (go_at_call 216;refine cx (b21 _ _ _ _ (hg _ hE) c1) hE ?_;clear hE;intro w' hE))
        go_ret
        exact zz20
     cases c2:K4 l n;rotate_left
     ·
        have Hz:=zh (js1 hs H0.out c0 c1 c2)
        have hfe:((n:Int) == (l9 l:Int))=decide (n=l9 l):=(by rw[Bool.eq_iff_iff];simp;omega);rw[c0] at hfe
        skip
        go_in
        go_wp2_with fail
        rw[<-Hwb.out]
        go_wp2_with (first | (go_at_call 105;refine cx (p8 _ _ _ _ (hg _ hE) (hs)) hE ?_;clear hE;intro w' hE) | (go_at_call 215;refine cx (G1 _ _ _ (hg _ hE) (Hgr)) hE ?_;clear hE;intro w' hE) | (go_at_call 216;refine cx (b21 _ _ _ _ (hg _ hE) c1) hE ?_;clear hE;intro w' hE) | (go_at_call 217;refine cx (I3 _ _ _ _ (hg _ hE) c2) hE ?_;clear hE;intro w' hE))
        go_ret
        exact zz20
     cases c3:bc5 l n;rotate_left
     ·
        have Hz:=zh (js2 hs H0.out c0 c1 c2 c3)
        have hfe:((n:Int) == (l9 l:Int))=decide (n=l9 l):=(by rw[Bool.eq_iff_iff];simp;omega);rw[c0] at hfe
        skip
        go_in
        go_wp2_with fail
        rw[<-Hwb.out]
        go_wp2_with (first | (go_at_call 105;refine cx (p8 _ _ _ _ (hg _ hE) (hs)) hE ?_;clear hE;intro w' hE) | (go_at_call 215;refine cx (G1 _ _ _ (hg _ hE) (Hgr)) hE ?_;clear hE;intro w' hE) | (go_at_call 216;refine cx (b21 _ _ _ _ (hg _ hE) c1) hE ?_;clear hE;intro w' hE) | (go_at_call 217;refine cx (I3 _ _ _ _ (hg _ hE) c2) hE ?_;clear hE;intro w' hE) | (go_at_call 218;refine cx (Z4 _ _ _ _ (hg _ hE) c3) hE ?_;clear hE;intro w' hE))
        go_ret
        exact zz20
     cases c4:b26 l n;rotate_left
     ·
        have Hz:=zh (js3 hs H0.out c0 c1 c2 c3 c4)
        have hfe:((n:Int) == (l9 l:Int))=decide (n=l9 l):=(by rw[Bool.eq_iff_iff];simp;omega);rw[c0] at hfe
        skip
        go_in
        go_wp2_with fail
        rw[<-Hwb.out]
        go_wp2_with (first | (go_at_call 105;refine cx (p8 _ _ _ _ (hg _ hE) (hs)) hE ?_;clear hE;intro w' hE) | (go_at_call 215;refine cx (G1 _ _ _ (hg _ hE) (Hgr)) hE ?_;clear hE;intro w' hE) | (go_at_call 216;refine cx (b21 _ _ _ _ (hg _ hE) c1) hE ?_;clear hE;intro w' hE) | (go_at_call 217;refine cx (I3 _ _ _ _ (hg _ hE) c2) hE ?_;clear hE;intro w' hE) | (go_at_call 218;refine cx (Z4 _ _ _ _ (hg _ hE) c3) hE ?_;clear hE;intro w' hE) | (go_at_call 219;refine cx (c00 _ _ _ _ (hg _ hE) c4) hE ?_;clear hE;intro w' hE))
        go_ret
        exact zz20
     cases c5:sidB l n;rotate_left
     ·
        have Hz:=zh (js4 hs H0.out c0 c1 c2 c3 c4 c5)
        have hfe:((n:Int) == (l9 l:Int))=decide (n=l9 l):=(by rw[Bool.eq_iff_iff];simp;omega);rw[c0] at hfe
        skip
        go_in
        go_wp2_with fail
        rw[<-Hwb.out]
        go_wp2_with (first | (go_at_call 105;refine cx (p8 _ _ _ _ (hg _ hE) (hs)) hE ?_;clear hE;intro w' hE) | (go_at_call 215;refine cx (G1 _ _ _ (hg _ hE) (Hgr)) hE ?_;clear hE;intro w' hE) | (go_at_call 216;refine cx (b21 _ _ _ _ (hg _ hE) c1) hE ?_;clear hE;intro w' hE) | (go_at_call 217;refine cx (I3 _ _ _ _ (hg _ hE) c2) hE ?_;clear hE;intro w' hE) | (go_at_call 218;refine cx (Z4 _ _ _ _ (hg _ hE) c3) hE ?_;clear hE;intro w' hE) | (go_at_call 219;refine cx (c00 _ _ _ _ (hg _ hE) c4) hE ?_;clear hE;intro w' hE) | (go_at_call 115;refine cx (cb0 _ _ _ _ (hg _ hE) c5) hE ?_;clear hE;intro w' hE))
        go_ret
        exact zz20
     have Hz:=zh (js5 hs H0.out c0 c1 c2 c3 c4 c5);have hfe:((n:Int) == (l9 l:Int))=decide (n=l9 l):=(by rw[Bool.eq_iff_iff];simp;omega);rw[c0] at hfe;skip;go_in;go_wp2_with fail;rw[<-Hwb.out];go_wp2_with (first | (go_at_call 105;refine cx (p8 _ _ _ _ (hg _ hE) (hs)) hE ?_;clear hE;intro w' hE) | (go_at_call 215;refine cx (G1 _ _ _ (hg _ hE) (Hgr)) hE ?_;clear hE;intro w' hE) | (go_at_call 216;refine cx (b21 _ _ _ _ (hg _ hE) c1) hE ?_;clear hE;intro w' hE) | (go_at_call 217;refine cx (I3 _ _ _ _ (hg _ hE) c2) hE ?_;clear hE;intro w' hE) | (go_at_call 218;refine cx (Z4 _ _ _ _ (hg _ hE) c3) hE ?_;clear hE;intro w' hE) | (go_at_call 219;refine cx (c00 _ _ _ _ (hg _ hE) c4) hE ?_;clear hE;intro w' hE) | (go_at_call 115;refine cx (cb0 _ _ _ _ (hg _ hE) c5) hE ?_;clear hE;intro w' hE));go_ret;exact zz20
theorem zz54{P:Prop}(h:P:=by go_in;go_wp2_with fail;rw[<-Hwb.out];go_wp2_with (first | (go_at_call 46;refine cx (l8 _ _ _ _ (hg _ hE) (hs)) hE ?_;clear hE;intro w' hE));go_ret;exact⟨j9 Hs.out.symm,hE0.trans hE⟩):P:=h
theorem ci4(v:Value)(l:List Int)(a:Int)(w:World)(h:c9 w v l) :
 Calls Tryz.prog 67 #[.agg #[v],.int .i64 a] w fun e w'=>e=.returned (.string (stF l a))∧Ext w w':=by
 obtain⟨wb,Hwb,hE0,hb,hg,hE,Hsz⟩:=ju3 28 h;clear h;have hbx:=hb wb hE;cases hs:j4 l a
 . have Hs:=zh (ji1 hs);exact zz54
 . obtain⟨n,rfl,h1,h2,hgr⟩:=o4 hs;by_cases h0:n=0
   . subst h0;have Hs:=zh (ds5 hs);exact zz54
   . have h0':((n:Int) == 0)=false:=(by simp;omega);have H0:=zh h0;have Hgr:=zh hgr;have hob:=m8 hgr;have hfl:=bv7 l;have hfb:=nlt hfl (C4 hgr);have hs1:=p6 (n:=ord l) om;have hpw:=b51 hob.2;have hpp:=T3 (ord l);have Hfw:Hid (((pw (ord l):Nat):Int) - 1=(l9 l:Int)):=zh (by unfold l9;omega);clear hgr h0;cases c0:decide (n=l9 l);rotate_left
     ·
        have Hz:=zh (jr9 hs H0.out c0)
        have hfe:((n:Int) == ((pw (ord l):Nat):Int) - 1)=decide (n=l9 l):=(by rw[Hfw.out,Bool.eq_iff_iff];simp;omega);rw[c0] at hfe
        skip
        go_in
        go_wp2_with fail
        rw[<-Hwb.out]
        go_wp2_with (first | (go_at_call 46;refine cx (l8 _ _ _ _ (hg _ hE) (hs)) hE ?_;clear hE;intro w' hE) | (go_at_call 43;refine cx (o5 _ _ _ (hg _ hE) (Hgr)) hE ?_;clear hE;intro w' hE))
        go_ret
        exact zz20
     cases c1:b27 l n;rotate_left
     ·
        have Hz:=zh (js0 hs H0.out c0 c1)
        have hfe:((n:Int) == ((pw (ord l):Nat):Int) - 1)=decide (n=l9 l):=(by rw[Hfw.out,Bool.eq_iff_iff];simp;omega);rw[c0] at hfe
        skip
        go_in
        go_wp2_with fail
        rw[<-Hwb.out]
        go_wp2_with (first | (go_at_call 46;refine cx (l8 _ _ _ _ (hg _ hE) (hs)) hE ?_;clear hE;intro w' hE) | (go_at_call 43;refine cx (o5 _ _ _ (hg _ hE) (Hgr)) hE ?_;clear hE;intro w' hE) | (go_at_call 185;refine cx (b03 _ _ _ _ (hg _ hE) c1) hE ?_;clear hE;intro w' hE))
        go_ret
        exact zz20
     cases c2:K4 l n;rotate_left
     ·
        have Hz:=zh (js1 hs H0.out c0 c1 c2)
        have hfe:((n:Int) == ((pw (ord l):Nat):Int) - 1)=decide (n=l9 l):=(by rw[Hfw.out,Bool.eq_iff_iff];simp;omega);rw[c0] at hfe
        skip
        go_in
        go_wp2_with fail
        rw[<-Hwb.out]
        go_wp2_with (first | (go_at_call 46;refine cx (l8 _ _ _ _ (hg _ hE) (hs)) hE ?_;clear hE;intro w' hE) | (go_at_call 43;refine cx (o5 _ _ _ (hg _ hE) (Hgr)) hE ?_;clear hE;intro w' hE) | (go_at_call 185;refine cx (b03 _ _ _ _ (hg _ hE) c1) hE ?_;clear hE;intro w' hE) | (go_at_call 186;refine cx (H7 _ _ _ _ (hg _ hE) c2) hE ?_;clear hE;intro w' hE))
        go_ret
        exact zz20
     cases c3:bc5 l n;rotate_left
     ·
        have Hz:=zh (js2 hs H0.out c0 c1 c2 c3)
        have hfe:((n:Int) == ((pw (ord l):Nat):Int) - 1)=decide (n=l9 l):=(by rw[Hfw.out,Bool.eq_iff_iff];simp;omega);rw[c0] at hfe
        skip
        go_in
        go_wp2_with fail
        rw[<-Hwb.out]
        go_wp2_with (first | (go_at_call 46;refine cx (l8 _ _ _ _ (hg _ hE) (hs)) hE ?_;clear hE;intro w' hE) | (go_at_call 43;refine cx (o5 _ _ _ (hg _ hE) (Hgr)) hE ?_;clear hE;intro w' hE) | (go_at_call 185;refine cx (b03 _ _ _ _ (hg _ hE) c1) hE ?_;clear hE;intro w' hE) | (go_at_call 186;refine cx (H7 _ _ _ _ (hg _ hE) c2) hE ?_;clear hE;intro w' hE) | (go_at_call 187;refine cx (Y4 _ _ _ _ (hg _ hE) c3) hE ?_;clear hE;intro w' hE))
        go_ret
        exact zz20
     cases c4:b26 l n;rotate_left
     ·
        have Hz:=zh (js3 hs H0.out c0 c1 c2 c3 c4)
        have hfe:((n:Int) == ((pw (ord l):Nat):Int) - 1)=decide (n=l9 l):=(by rw[Hfw.out,Bool.eq_iff_iff];simp;omega);rw[c0] at hfe
        skip
        go_in
        go_wp2_with fail
        rw[<-Hwb.out]
        go_wp2_with (first | (go_at_call 46;refine cx (l8 _ _ _ _ (hg _ hE) (hs)) hE ?_;clear hE;intro w' hE) | (go_at_call 43;refine cx (o5 _ _ _ (hg _ hE) (Hgr)) hE ?_;clear hE;intro w' hE) | (go_at_call 185;refine cx (b03 _ _ _ _ (hg _ hE) c1) hE ?_;clear hE;intro w' hE) | (go_at_call 186;refine cx (H7 _ _ _ _ (hg _ hE) c2) hE ?_;clear hE;intro w' hE) | (go_at_call 187;refine cx (Y4 _ _ _ _ (hg _ hE) c3) hE ?_;clear hE;intro w' hE) | (go_at_call 188;refine cx (bx7 _ _ _ _ (hg _ hE) c4) hE ?_;clear hE;intro w' hE))
        go_ret
        exact zz20
     cases c5:sidB l n;rotate_left
     ·
        have Hz:=zh (js4 hs H0.out c0 c1 c2 c3 c4 c5)
        have hfe:((n:Int) == ((pw (ord l):Nat):Int) - 1)=decide (n=l9 l):=(by rw[Hfw.out,Bool.eq_iff_iff];simp;omega);rw[c0] at hfe
        skip
        go_in
        go_wp2_with fail
        rw[<-Hwb.out]
        go_wp2_with (first | (go_at_call 46;refine cx (l8 _ _ _ _ (hg _ hE) (hs)) hE ?_;clear hE;intro w' hE) | (go_at_call 43;refine cx (o5 _ _ _ (hg _ hE) (Hgr)) hE ?_;clear hE;intro w' hE) | (go_at_call 185;refine cx (b03 _ _ _ _ (hg _ hE) c1) hE ?_;clear hE;intro w' hE) | (go_at_call 186;refine cx (H7 _ _ _ _ (hg _ hE) c2) hE ?_;clear hE;intro w' hE) | (go_at_call 187;refine cx (Y4 _ _ _ _ (hg _ hE) c3) hE ?_;clear hE;intro w' hE) | (go_at_call 188;refine cx (bx7 _ _ _ _ (hg _ hE) c4) hE ?_;clear hE;intro w' hE) | (go_at_call 74;refine cx (c52 _ _ _ _ (hg _ hE) c5) hE ?_;clear hE;intro w' hE))
        go_ret
        exact zz20
     have Hz:=zh (js5 hs H0.out c0 c1 c2 c3 c4 c5);have hfe:((n:Int) == ((pw (ord l):Nat):Int) - 1)=decide (n=l9 l):=(by rw[Hfw.out,Bool.eq_iff_iff];simp;omega);rw[c0] at hfe;skip;go_in;go_wp2_with fail;rw[<-Hwb.out];go_wp2_with (first | (go_at_call 46;refine cx (l8 _ _ _ _ (hg _ hE) (hs)) hE ?_;clear hE;intro w' hE) | (go_at_call 43;refine cx (o5 _ _ _ (hg _ hE) (Hgr)) hE ?_;clear hE;intro w' hE) | (go_at_call 185;refine cx (b03 _ _ _ _ (hg _ hE) c1) hE ?_;clear hE;intro w' hE) | (go_at_call 186;refine cx (H7 _ _ _ _ (hg _ hE) c2) hE ?_;clear hE;intro w' hE) | (go_at_call 187;refine cx (Y4 _ _ _ _ (hg _ hE) c3) hE ?_;clear hE;intro w' hE) | (go_at_call 188;refine cx (bx7 _ _ _ _ (hg _ hE) c4) hE ?_;clear hE;intro w' hE) | (go_at_call 74;refine cx (c52 _ _ _ _ (hg _ hE) c5) hE ?_;clear hE;intro w' hE));go_ret;exact zz20
def O0(l:List Int)(a:Nat):Nat->Nat
 | 0=>1
 | k+1=>l7 l (O0 l a k) a
theorem br9{l:List Int}(h:j1 l=true)(a k:Nat):O0 l a k<2 ^ 24:=by
 cases k with
 | zero=>show 1<_;decide
 | succ k=>exact G9 h _ _
def J2(l:List Int)(a k:Nat):List Nat:=(List.range k).map (fun i=>cnt (O0 l a (i+1)))
theorem cl8(l:List Int)(a k:Nat):J2 l a (k+1)=J2 l a k++[cnt (O0 l a (k+1))]:=by unfold J2;rw[List.range_succ,List.map_append];rfl
theorem bm6(l:List Int)(a k:Nat):(J2 l a k).length=k:=by simp[J2]
def obF(l:List Int)(a:Nat):Option Nat:=(List.range 31).find? (fun k=>O0 l a k == l9 l)
def obV(l:List Int)(a:Nat):Int:=match obF l a with | some k=>k | none=>-1
def bu6(l:List Int)(a:Nat):Bool:=decide (0<=obV l a)
theorem j34{l:List Int}{a k:Nat}(hk:k<31)(h:∀j,j<k->(O0 l a j == l9 l)=false)(hp:(O0 l a k == l9 l)=true):obV l a=k:=by unfold obV obF;rw[bb2 hk h hp]
theorem dd6{l:List Int}{a:Nat}(h:∀j,j<31->(O0 l a j == l9 l)=false):obV l a = -1:=by unfold obV obF;rw[b79 h]
theorem jq9(l:List Int)(a:Nat) : -1<=obV l a:=by unfold obV;split<;>omega
theorem bc8{l:List Int}{n:Nat}(hs:j4 l (n:Int)=true):n<2 ^ 24∧j1 l=true:=by
 obtain⟨m,hm,h1,h2,hgr⟩:=o4 hs;have e:m=n:=om;subst e;exact⟨h2,hgr⟩
theorem bl2(v:Value)(l:List Int)(n k:Nat)(w:World)(h:c9 w v l)(hs:j4 l (n:Int)=true)(hk:k<=30) :
 Calls Tryz.prog 221 #[.agg #[v],.int .i64 n,.int .i64 k] w fun e w'=>e=.returned (.int .i64 (O0 l n k))∧Ext w w':=by
 obtain⟨wb,Hwb,hE0,hb,hg,hE,Hsz⟩:=ju3 28 h;clear h;have hbx:=hb wb hE;obtain⟨h2,hgr⟩:=bc8 hs;have Hgr:=zh hgr;have hin:inB (k:Int) 0 30=true:=Z9.2 om;have cW:=fun W=>P1 (k:Int) 0 30 W;rw[hin] at cW;clear hgr hin;go_in;go_wp2_with fail;rw[<-Hwb.out];go_wp2_with (first | (go_at_call 105;refine cx (p8 _ _ _ _ (hg _ hE) (hs)) hE ?_;clear hE;intro w' hE) | (go_at_call 206;refine (cW _).mono ?_;rintro e w' ⟨rfl,rfl⟩));go_loopw [7,18] (fun ss sj wr=>∃j:Nat,j<=k∧sj=.int .i64 j∧ss=.int .i64 (O0 l n j)∧Ext wb wr) (fun _ sj _=>k - (intOf sj).toNat);case atStart=>exact⟨0,om,rfl,rfl,hE⟩
 case round =>
  clear hE;obtain⟨j,hj,rfl,rfl,hE⟩:=hrel;have hbx:=hb _ hE;have hM:=br9 Hgr.out n j;have Hn:Hid (O0 l n (j+1)=l7 l (O0 l n j) n):=zh rfl;by_cases hlt:j<k
  . have hltI:(j:Int)<(k:Int):=(by omega);obtain⟨M,hMd⟩:=nq (O0 l n j);rw[<-hMd] at hM Hn ⊢;clear hMd;go_wp2_with (first | (go_at_call 119;refine cx (J4 _ _ _ _ _ (hg _ hE) (Hgr) (hM) (h2)) hE ?_;clear hE;intro w' hE));go_roundw;(case rel=>exact⟨j+1,om,zg,by rw[Hn.out],hE⟩);case measure=>exact zm1
  . have hltI:¬(j:Int)<(k:Int):=(by omega);have hjk:j=k:=om;subst hjk;exact zz69
theorem d45(v:Value)(l:List Int)(n:Nat)(w:World)(h:c9 w v l)(hs:j4 l (n:Int)=true) :
 Calls Tryz.prog 111 #[.agg #[v],.int .i64 n,.int .i64 4] w fun e w'=>∃v',e=.returned v'∧Own 3 w w' v' (b9 (J2 l n 4))∧Ext w w':=by
 obtain⟨wb,Hwb,hE0,hb,hg,hE,Hsz⟩:=ju3 28 h;clear h;obtain⟨wc,hwc⟩:=nq (wb.alloc (.cells #[] 3));have hO:Own 3 wb wc (.slice (some ⟨wb.heap.size,0,none⟩) 0 0) []:=by rw[hwc];exact m7 om hE [] rfl
 replace hE:Ext wb wc:=by rw[hwc];exact hE.alloc _
 have Hsz2:Hid (wb.heap.size+1=wc.heap.size):=zh (by rw[hwc];simp[go_sem]);have Hwc:=zh hwc;clear hwc;obtain⟨h2,hgr⟩:=bc8 hs;have Hgr:=zh hgr;have hin:inB (4:Int) 0 30=true:=by decide
 have cW:=fun W=>P1 (4:Int) 0 30 W;rw[hin] at cW;have hbx:=hb _ hE;clear hgr hin;go_in;go_wp2_with fail;rw[<-Hwb.out,<-Hwc.out];rw[Hsz.out];try rw[Hsz2.out]
 go_wp2_with (first | (go_at_call 105;refine (p8 _ _ _ _ (hg _ hE) hs).mono ?_;rintro e w3 ⟨rfl,hE3⟩) | (go_at_call 206;refine (cW _).mono ?_;rintro e w' ⟨rfl,rfl⟩));go_loopw [7,8] (fun sv sk wr=>∃j:Nat,1<=j∧j<=5∧sk=.int .i64 j∧Own 3 wb wr sv (b9 (J2 l n (j - 1)))∧Ext wb wr) (fun _ sk _=>5 - (intOf sk).toNat);case atStart=>exact⟨1,om,om,rfl,(hO.ext hE3:Own 3 wb _ _ []),hE.trans hE3⟩
 case round =>
  clear hE hO hE3;rename World=>wr;obtain⟨j,hj1,hj2,rfl,hO,hE⟩:=hrel;have hbx:=hb _ hE;have hln:(b9 (J2 l n (j - 1))).length<17592186044416:=by rw[j2,bm6];omega
  by_cases hlt:j<=4
  . have hltI:(j:Int)<=4:=(by omega);have cM:=bl2 v l n j wr (hg _ hE) hs om;have hM:=br9 Hgr.out n j;have Hn:Hid (J2 l n (j+1 - 1)=J2 l n (j - 1)++[cnt (O0 l n j)]):=zh (by
     have:=cl8 l n (j - 1);rw[show j - 1+1=j by omega] at this;rw[show j+1 - 1=j by omega];exact this)
    obtain⟨M,hMd⟩:=nq (O0 l n j);rw[<-hMd] at hM Hn cM;have cB:=fun W=>A9 M hM W;clear hMd;go_wp2_with (first | (go_at_call 221;refine cM.mono ?_;rintro e w3 ⟨rfl,hE3⟩) | (go_at_call 107;refine (cB _).mono ?_;rintro e w' ⟨rfl,rfl⟩) | (at_builtin;refine A6 slI rfl _ _ rfl wb _ _ _ _ (hO.ext hE3) (hE.trans hE3) hln rfl rfl ?_;intro v1 w1 hO1 hE1));go_roundw;(case rel=>exact⟨j+1,om,om,zg,by rw[Hn.out];simpa[D5] using hO1,hE1⟩);case measure=>exact zm1
  . have hltI:¬(j:Int)<=4:=(by omega);have hj5:j=5:=om;subst hj5;exact zz86
theorem d31(v:Value)(l:List Int)(n:Nat)(w:World)(h:c9 w v l)(hs:j4 l (n:Int)=true) :
 Calls Tryz.prog 70 #[.agg #[v],.int .i64 n,.int .i64 4] w fun e w'=>∃v',e=.returned v'∧Own 3 w w' v' (b9 (J2 l n 4))∧Ext w w':=by
 obtain⟨wb,Hwb,hE0,hb,hg,hE,Hsz⟩:=ju3 28 h;clear h;obtain⟨wc,hwc⟩:=nq (wb.alloc (.cells #[] 3));have hO:Own 3 wb wc (.slice (some ⟨wb.heap.size,0,none⟩) 0 0) []:=by rw[hwc];exact m7 om hE [] rfl
 replace hE:Ext wb wc:=by rw[hwc];exact hE.alloc _
 have Hsz2:Hid (wb.heap.size+1=wc.heap.size):=zh (by rw[hwc];simp[go_sem]);have Hwc:=zh hwc;clear hwc;obtain⟨h2,hgr⟩:=bc8 hs;have Hgr:=zh hgr;have hin:inB (4:Int) 0 30=true:=by decide
 have cW:=fun W=>Q8 (4:Int) 0 30 W;rw[hin] at cW;have hbx:=hb _ hE;clear hgr hin;go_in;go_wp2_with fail;rw[<-Hwb.out,<-Hwc.out];rw[Hsz.out];try rw[Hsz2.out]
 go_wp2_with (first | (go_at_call 46;refine (l8 _ _ _ _ (hg _ hE) hs).mono ?_;rintro e w3 ⟨rfl,hE3⟩) | (go_at_call 164;refine (cW _).mono ?_;rintro e w' ⟨rfl,rfl⟩));go_loopw [7,8,9] (fun sv ss sk wr=>∃j:Nat,j<=4∧sk=.int .i64 j∧ss=.int .i64 (O0 l n j)∧Own 3 wb wr sv (b9 (J2 l n j))∧Ext wb wr) (fun _ _ sk _=>4 - (intOf sk).toNat);case atStart=>exact⟨0,om,rfl,rfl,(hO.ext hE3:Own 3 wb _ _ []),hE.trans hE3⟩
 case round =>
  clear hE hO hE3;rename World=>wr;obtain⟨j,hj2,rfl,rfl,hO,hE⟩:=hrel;have hbx:=hb _ hE;have hln:(b9 (J2 l n j)).length<17592186044416:=by rw[j2,bm6];omega
  by_cases hlt:j<4
  . have hltI:(j:Int)<4:=(by omega);have hM:=br9 Hgr.out n j;have hM1:=br9 Hgr.out n (j+1);have Hm:Hid (O0 l n (j+1)=l7 l (O0 l n j) n):=zh rfl;have cS:=D6 v l (O0 l n j) n wr (hg _ hE) Hgr hM h2;have Hn:=zh (cl8 l n j);rw[<-Hm.out] at cS;obtain⟨M1,hM1d⟩:=nq (O0 l n (j+1));obtain⟨M,hMd⟩:=nq (O0 l n j);rw[<-hMd] at cS ⊢;rw[<-hM1d] at hM1 Hn cS;have HM1:=zh hM1d;have cB:=fun W=>q8 M1 hM1 W;clear hMd hM1d Hm hM;go_wp2_with (first | (go_at_call 49;refine cS.mono ?_;rintro e w3 ⟨rfl,hE3⟩) | (go_at_call 66;refine (cB _).mono ?_;rintro e w' ⟨rfl,rfl⟩) | (at_builtin;refine A6 slI rfl _ _ rfl wb _ _ _ _ (hO.ext hE3) (hE.trans hE3) hln rfl rfl ?_;intro v1 w1 hO1 hE1));go_roundw;(case rel=>exact⟨j+1,om,zg,by rw[HM1.out],by rw[Hn.out];simpa[D5] using hO1,hE1⟩);case measure=>exact zm1
  . have hltI:¬(j:Int)<4:=(by omega);have hj5:j=4:=om;subst hj5;exact zz86
theorem zz137{P:Prop}(h:P:=by have hltI:¬(k:Int)<=30:=(by omega);have Hq:=zh (dd6 (l:=l) (a:=n) fun j hj=>HN.out j om);go_wp2_with fail;go_ret;exact⟨o7 Hq.out.symm,hE0.trans hE⟩):P:=h
theorem cd9(v:Value)(l:List Int)(n:Nat)(w:World)(h:c9 w v l)(hs:j4 l (n:Int)=true) :
 Calls Tryz.prog 227 #[.agg #[v],.int .i64 n] w fun e w'=>e=.returned (.int .i64 (obV l n))∧Ext w w':=by
 obtain⟨wb,Hwb,hE0,hb,hg,hE,Hsz⟩:=ju3 28 h;clear h;obtain⟨h2,hgr⟩:=bc8 hs;have Hgr:=zh hgr;clear hgr;go_in;go_wp2_with fail;rw[<-Hwb.out];go_loopw [5] (fun sk wr=>∃k:Nat,k<=31∧sk=.int .i64 k∧Ext wb wr∧Hid (∀j,j<k->(O0 l n j == l9 l)=false)) (fun sk _=>31 - (intOf sk).toNat);case atStart=>exact⟨0,om,rfl,hE,zh fun j hj=>absurd hj om⟩
 case round =>
  clear hE;rename World=>wr;obtain⟨k,hk,rfl,hE,HN⟩:=hrel;have hbx:=hb _ hE;by_cases hlt:k<=30
  . have hltI:(k:Int)<=30:=(by omega);go_wp2_with (go_at_call 105;refine (p8 _ _ _ _ (hg _ hE) hs).mono ?_;rintro e w3 ⟨rfl,hE3⟩);have hE03:=hE.trans hE3;have hbU:=fun U=>hb _ (hE03.trans (d5 w3 U));have cM:=fun U=>bl2 v l n k (Lat w3 U) (hg _ (hE03.trans (d5 w3 U))) hs om;have cF:=fun U=>G1 v l (Lat w3 U) (hg _ (hE03.trans (d5 w3 U))) Hgr;obtain⟨M,hMd⟩:=nq (O0 l n k);obtain⟨F,hFd⟩:=nq (l9 l);simp only[<-hMd] at cM;simp only[<-hFd] at cF;cases hq:(M == F)
    . have hqI:((M:Int) == (F:Int))=false:=(by rw[beq_eq_false_iff_ne] at hq ⊢;omega);have Hq:Hid ((O0 l n k == l9 l)=false):=zh (by rw[<-hMd,<-hFd];exact hq);clear hq hMd hFd hE hE3;have hE:=er w3;(refine wl hE ?_);(repeat (go_big_quiet_step (first | (go_at_call 221;with_reducible exact Calls.lat (cM _)) | (go_at_call 215;with_reducible exact Calls.lat (cF _)))));(refine zd ?_);(clear hE);(intro W hE);go_wp2_with fail;go_roundw;(case rel=>exact⟨k+1,om,zg,hE03.trans hE,zh fun j hj=>by by_cases q:j=k;(rw[q];exact Hq.out);exact HN.out j om⟩);case measure=>exact zm1
    . have hqI:((M:Int) == (F:Int))=true:=(by rw[beq_iff_eq] at hq ⊢;omega);have Hq:Hid (obV l n=(k:Int)):=zh (j34 om HN.out (by rw[<-hMd,<-hFd];exact hq));clear hq hMd hFd hE hE3;have hE:=er w3;(refine wl hE ?_);(repeat (go_big_quiet_step (first | (go_at_call 221;with_reducible exact Calls.lat (cM _)) | (go_at_call 215;with_reducible exact Calls.lat (cF _)))));(refine zd ?_);(clear hE);(intro W hE);go_wp2_with fail;go_ret;exact⟨o7 Hq.out.symm,hE0.trans (hE03.trans hE)⟩
  . exact zz137
theorem di4(v:Value)(l:List Int)(n:Nat)(w:World)(h:c9 w v l)(hs:j4 l (n:Int)=true) :
 Calls Tryz.prog 117 #[.agg #[v],.int .i64 n] w fun e w'=>e=.returned (.bool (bu6 l n))∧Ext w w':=by
 obtain⟨wb,Hwb,hE0,hb,hg,hE,Hsz⟩:=ju3 28 h;clear h;have hbx:=hb wb hE;have cO:=cd9 v l n wb (hg _ hE) hs;have hbd:=jq9 l n;have Hq:Hid ((obV l n != -1)=bu6 l n):=zh (by
  unfold bu6;rw[Bool.eq_iff_iff,bne_iff_ne,decide_eq_true_iff];omega)
 obtain⟨O,hO⟩:=nq (obV l n);rw[<-hO] at cO Hq;clear hO hbd;go_in;go_wp2_with fail;rw[<-Hwb.out];go_wp2_with (go_at_call 227;refine cO.mono ?_;rintro e w3 ⟨rfl,hE3⟩);go_ret;exact⟨j5 Hq.out,hE0.trans hE3⟩
theorem ca5(v:Value)(l:List Int)(n:Nat)(w:World)(h:c9 w v l)(hs:j4 l (n:Int)=true) :
 Calls Tryz.prog 193 #[.agg #[v],.int .i64 n] w fun e w'=>e=.returned (.int .i64 (obV l n))∧Ext w w':=by
 obtain⟨wb,Hwb,hE0,hb,hg,hE,Hsz⟩:=ju3 28 h;clear h;have hbx:=hb wb hE;obtain⟨h2,hgr⟩:=bc8 hs;have Hgr:=zh hgr;have hob:=m8 hgr;have hs1:=p6 (n:=ord l) om;have hfl:((pw (ord l):Nat):Int) - 1=(l9 l:Int):=by unfold l9;have:=T3 (ord l);omega
 have hp2:=b51 hob.2;have hfw:IntKind.i64.wrap (((pw (ord l):Nat):Int) - 1)=(l9 l:Int):=by rw[hfl];exact IntWalk.i64_in _ (by unfold l9;omega)
 obtain⟨F,hFd⟩:=nq (l9 l);rw[<-hFd] at hfw;have HF:=zh hFd;clear hgr hfl hFd;go_in;go_wp2_with fail;rw[<-Hwb.out];go_wp2_with (first | (go_at_call 46;refine cx (l8 _ _ _ _ (hg _ hE) (hs)) hE ?_;clear hE;intro w' hE));go_loopw [5,6] (fun ss sk wr=>∃k:Nat,k<=31∧sk=.int .i64 k∧ss=.int .i64 (O0 l n k)∧Ext wb wr∧Hid (∀j,j<k->(O0 l n j == l9 l)=false)) (fun _ sk _=>31 - (intOf sk).toNat);case atStart=>exact⟨0,om,rfl,rfl,hE,zh fun j hj=>absurd hj om⟩
 case round =>
  clear hE;rename World=>wr;obtain⟨k,hk,rfl,rfl,hE,HN⟩:=hrel;have hbx:=hb _ hE;by_cases hlt:k<=30
  . have hltI:(k:Int)<=30:=(by omega);have hM:=br9 Hgr.out n k;have Hm:Hid (O0 l n (k+1)=l7 l (O0 l n k) n):=zh rfl;obtain⟨M,hMd⟩:=nq (O0 l n k);rw[<-hMd] at hM Hm ⊢;cases hq:(M == F)
    . have hqI:((M:Int) == (F:Int))=false:=(by rw[beq_eq_false_iff_ne] at hq ⊢;omega);have Hq:Hid ((O0 l n k == l9 l)=false):=zh (by rw[<-hMd,<-HF.out];exact hq);clear hq hMd;go_wp2_with (first | (go_at_call 43;refine cx (o5 _ _ _ (hg _ hE) (Hgr)) hE ?_;clear hE;intro w' hE) | (go_at_call 49;refine cx (D6 _ _ _ _ _ (hg _ hE) (Hgr) (hM) (h2)) hE ?_;clear hE;intro w' hE));go_roundw;(case rel=>exact⟨k+1,om,zg,by rw[Hm.out],hE,zh fun j hj=>by by_cases q:j=k;(rw[q];exact Hq.out);exact HN.out j om⟩);case measure=>exact zm1
    . have hqI:((M:Int) == (F:Int))=true:=(by rw[beq_iff_eq] at hq ⊢;omega);have Hq:Hid (obV l n=(k:Int)):=zh (j34 om HN.out (by rw[<-hMd,<-HF.out];exact hq));clear hq hMd;go_wp2_with (first | (go_at_call 43;refine cx (o5 _ _ _ (hg _ hE) (Hgr)) hE ?_;clear hE;intro w' hE));go_ret;exact⟨o7 Hq.out.symm,hE0.trans hE⟩
  . exact zz137
theorem df3(v:Value)(l:List Int)(n:Nat)(w:World)(h:c9 w v l)(hs:j4 l (n:Int)=true) :
 Calls Tryz.prog 76 #[.agg #[v],.int .i64 n] w fun e w'=>e=.returned (.bool (bu6 l n))∧Ext w w':=by
 obtain⟨wb,Hwb,hE0,hb,hg,hE,Hsz⟩:=ju3 28 h;clear h;have hbx:=hb wb hE;have cO:=ca5 v l n wb (hg _ hE) hs;have Hq:Hid (decide (0<=obV l n)=bu6 l n):=zh rfl;obtain⟨O,hO⟩:=nq (obV l n);rw[<-hO] at cO Hq;clear hO;go_in;go_wp2_with fail;rw[<-Hwb.out];go_wp2_with (go_at_call 193;refine cO.mono ?_;rintro e w3 ⟨rfl,hE3⟩);go_ret;exact⟨j5 Hq.out,hE0.trans hE3⟩
def ptF(l:List Int)(x d:Nat):Nat->Nat
 | 0=>x
 | j+1=>m6 l (ptF l x d j) d
theorem bs3{l:List Int}(h:j1 l=true){x d:Nat}(hx:x<ord l):∀j,ptF l x d j<ord l
 | 0=>hx
 | j+1=>F2 l (m9 h) _ _
theorem ch6{l:List Int}(h:j1 l=true){x d:Nat}(hx:x<ord l):∀i j,ptF l x d i=ptF l x d (i+j)->ptF l x d j=x
 | 0,j,e=>by rw[Nat.zero_add] at e;exact e.symm
 | i+1,j,e=>by
  refine ch6 h hx i j ?_
  rw[show i+1+j=(i+j)+1 by omega] at e
  have e':m6 l d (ptF l x d i)=m6 l d (ptF l x d (i+j)):=by rw[D4 l d,D4 l d];exact e
  exact Y9 (m9 h) (bs3 h hx _) (bs3 h hx _) e'
def Run(l:List Int)(a x d c:Nat):Prop:=∀i,1<=i->i<c->ptF l x d i≠x∧a.testBit (ptF l x d i)=true
theorem Run.ne{l:List Int}(h:j1 l=true){a x d c:Nat}(hx:x<ord l)(hR:Run l a x d c){i j:Nat}(hij:i<j)(hj:j<c):ptF l x d i≠ptF l x d j:=fun e=>by
 have:=ch6 h hx i (j - i) (by rw[show i+(j - i)=j by omega];exact e)
 exact (hR (j - i) om om).1 this
theorem Run.le{l:List Int}(h:j1 l=true){a x d c:Nat}(hx:x<ord l)(hR:Run l a x d c):c<=24:=by
 have hn:((List.range c).map (ptF l x d)).Nodup:=by
  unfold List.Nodup;rw[List.pairwise_map];refine List.Pairwise.imp_of_mem ?_ List.pairwise_lt_range;intro i j hi hj hij;exact Run.ne h hx hR hij (List.mem_range.1 hj)
 have hb:=d70 hn (fun y hy=>by
  rw[List.mem_map] at hy
  obtain⟨j,-,rfl⟩:=hy
  exact nlt (bs3 h hx j) (m8 h).2)
 have:=r9 (U6 ((List.range c).map (ptF l x d)));rw[hb,List.length_map,List.length_range] at this;exact this
def ct4(l:List Int)(a x d:Nat):Nat:=match (List.range 24).find? (fun j=>(ptF l x d (j+1) == x) || !(a.testBit (ptF l x d (j+1)))) with | some j=>j+1 | none=>0
theorem ct5{l:List Int}(h:j1 l=true){a x d c:Nat}(hx:x<ord l)(hc:1<=c)(hR:Run l a x d c)(hs:ptF l x d c=x∨a.testBit (ptF l x d c)=false):ct4 l a x d=c:=by
 have hle:=Run.le h hx hR;have e:(List.range 24).find? (fun j=>(ptF l x d (j+1) == x) || !(a.testBit (ptF l x d (j+1))))=some (c - 1):=by
  refine bb2 om (fun j hj=>?_) ?_
  . obtain⟨h1,h2⟩:=hR (j+1) om om;rw[h2,beq_eq_false_iff_ne.2 h1];rfl
  . rw[show c - 1+1=c by omega];rcases hs with hs | hs
    . rw[hs];simp
    . rw[hs];simp
 unfold ct4;rw[e];show c - 1+1=c;omega
theorem Run.one(l:List Int)(a x d:Nat):Run l a x d 1:=fun i h1 h2=>om
theorem Run.next{l:List Int}{a x d c:Nat}(hR:Run l a x d c)(h1:ptF l x d c≠x)(h2:a.testBit (ptF l x d c)=true):Run l a x d (c+1):=fun i hi1 hi2=>by
 by_cases q:i=c
 . subst q;exact⟨h1,h2⟩
 . exact hR i hi1 om
def b61(l:List Int)(x d:Nat):Nat->Nat
 | 0=>0
 | c+1=>b61 l x d c ||| 2 ^ ptF l x d c
theorem ci7{l:List Int}(h:j1 l=true){x d:Nat}(hx:x<ord l):∀c,b61 l x d c<2 ^ 24
 | 0=>by show 0<_;decide
 | c+1=>Nat.or_lt_two_pow (ci7 h hx c) (Nat.pow_lt_pow_right om (nlt (bs3 h hx c) (m8 h).2))
theorem c59(l:List Int)(x d y:Nat):∀c,(b61 l x d c).testBit y=true↔∃i,i<c∧ptF l x d i=y
 | 0=>by simp[b61]
 | c+1=>by
  show (b61 l x d c ||| 2 ^ ptF l x d c).testBit y=true↔_
  rw[Nat.testBit_or,Bool.or_eq_true,c59 l x d y c,Nat.testBit_two_pow,decide_eq_true_iff]
  constructor
  . rintro (⟨i,h1,h2⟩ | h)
    . exact⟨i,om,h2⟩
    . exact⟨c,om,h⟩
  . rintro⟨i,h1,h2⟩
    by_cases q:i=c
    . subst q;exact Or.inr h2
    . exact Or.inl ⟨i,om,h2⟩
theorem j54{l:List Int}(h:j1 l=true){a x d c:Nat}(hx:x<ord l)(hc:1<=c)(hR:Run l a x d c)(hs:(b61 l x d c).testBit (ptF l x d c)=true):ptF l x d c=x:=by
 obtain⟨i,h1,h2⟩:=(c59 l x d _ c).1 hs;by_cases q:i=0
 . subst q;exact h2.symm
 . have:=ch6 h hx i (c - i) (by rw[show i+(c - i)=c by omega];exact h2);exact absurd this (hR (c - i) om om).1
theorem je5{l:List Int}{x d c:Nat}(hc:1<=c)(hs:(b61 l x d c).testBit (ptF l x d c)=false):ptF l x d c≠x:=fun e=>by
 have:=(c59 l x d (ptF l x d c) c).2 ⟨0,om,e.symm⟩
 rw[this] at hs;cases hs
def lpD(l:List Int)(a x m k:Nat):Nat:=(List.range k).foldl (fun b d=>max b (ct4 l a x d)) m
theorem cg4(l:List Int)(a x m k:Nat):lpD l a x m (k+1)=max (lpD l a x m k) (ct4 l a x k):=by unfold lpD;rw[List.range_succ,List.foldl_append];rfl
def lpX(l:List Int)(a:Nat)(L:List Nat):Nat:=L.foldl (fun m x=>lpD l a x m (ord l)) 0
theorem jb9(l:List Int)(a:Nat)(L:List Nat)(x:Nat):lpX l a (L++[x])=lpD l a x (lpX l a L) (ord l):=by unfold lpX;rw[List.foldl_append];rfl
def lpF(l:List Int)(a:Nat):Nat:=lpX l a (j7 a)
theorem jn2(l:List Int)(a x d:Nat):ct4 l a x d<=24:=by
 unfold ct4;split
 . rename_i j hj;have:=List.mem_of_find?_eq_some hj;rw[List.mem_range] at this;omega
 . omega
theorem cm7(l:List Int)(a x m:Nat)(hm:m<=24):∀k,lpD l a x m k<=24
 | 0=>hm
 | k+1=>by rw[cg4];have:=cm7 l a x m hm k;have:=jn2 l a x k;omega
theorem cg5{l:List Int}{a:Nat}{L:List Nat}{k:Nat}(h:k<L.length):lpX l a (L.take (k+1))=lpD l a (d8 L k) (lpX l a (L.take k)) (ord l):=by
 rw[List.take_add_one,show L[k]?.toList=[d8 L k] by simp[d8,List.getD,h],jb9]
theorem c34(l:List Int)(a:Nat)(L:List Nat):∀k,lpX l a (L.take k)<=24
 | 0=>by simp[lpX]
 | k+1=>by
  by_cases h:k<L.length
  . rw[cg5 h];exact cm7 _ _ _ _ (c34 l a L k) _
  . rw[List.take_of_length_le om,<-List.take_of_length_le (l:=L) (i:=k) om];exact c34 l a L k
theorem j56{l:List Int}{n:Nat}(hs:j4 l (n:Int)=true):n<2 ^ ord l:=by
 obtain⟨m,hm,h1,h2,hgr⟩:=o4 hs;have e:m=n:=om;subst e;exact h1
theorem j04{l:List Int}{n x:Nat}(h:n<2 ^ ord l)(hx:x∈j7 n):x<ord l:=by
 rw[F3] at hx;exact Nat.lt_of_not_le fun c=>by
  have:=Nat.testBit_lt_two_pow (nlt h (Nat.pow_le_pow_right om c))
  rw[hx.2] at this;cases this
theorem zz93{P:Prop}(h:P:=by go_roundw;(case rel=>exact⟨t+1,om,zg,by rw[Hnd.out,Hr.out];congr 1;split<;>omega,hE⟩);case measure=>exact zm1):P:=h
theorem zz105{P:Prop}(h:P:=by have hltI:¬(k:Int)<(L.length:Int):=(by omega);have hkl:k=L.length:=om;subst hkl;go_wp2_with fail;go_ret;exact⟨o7 (by first | rw[Hfin.out] | rw[Hfin.out,List.take_length]),eW.trans hE⟩):P:=h
theorem bo5(v:Value)(l:List Int)(n:Nat)(w:World)(h:c9 w v l)(hs:j4 l (n:Int)=true) :
 Calls Tryz.prog 113 #[.agg #[v],.int .i64 n] w fun e w'=>e=.returned (.int .i64 (lpF l n))∧Ext w w':=by
 obtain⟨wb,Hwb,hE0,hb,hg,hE,Hsz⟩:=ju3 28 h;clear h;have hbx:=hb wb hE;obtain⟨h2,hgr⟩:=bc8 hs;have hnl:=j56 hs;have Hgr:=zh hgr;have hob:=m8 hgr;clear hgr;go_in;go_wp2_with fail;rw[<-Hwb.out];go_wp2_with (first | (go_at_call 105;refine cx (p8 _ _ _ _ (hg _ hE) (hs)) hE ?_;clear hE;intro w' hE) | (go_at_call 214;refine (I5 n h2 _).mono ?_;rintro e w1 ⟨v1,rfl,hL,hE1⟩;obtain⟨aoL,cL,adrL,rfl,hcap,hadrL,hcellL⟩:=hL.ints.natc;have hixL:=j3 (c:=cL) elI szI hadrL));have hb1:∀W,Ext w1 W->W.cell? ⟨w.heap.size,0,none⟩=some v:=fun W hW=>hb W (hE.trans (hE1.trans hW));have hg1:∀W,Ext w1 W->c9 W v l:=fun W hW=>hg W (hE.trans (hE1.trans hW));have eW:=hE0.trans (hE.trans hE1);have Hall:Hid (∀y∈j7 n,y<ord l∧n.testBit y=true):=zh fun y hy=>⟨j04 hnl hy,(F3.1 hy).2⟩;have Hfin:Hid (lpF l n=lpX l n (j7 n)):=zh rfl;clear hb hg hbx hE hE1 hL hs hnl;have hlen:=B7 n;generalize j7 n=L at hcellL hixL Hall hlen hcap hadrL Hfin ⊢;have HcL:=zh hcellL;clear hadrL hcap hcellL;have hE:=er w1;go_loopw [18,5] (fun i s wr=>∃k:Nat,k<=L.length∧i=.int .i64 k∧s=.int .i64 (lpX l n (L.take k))∧Ext w1 wr) (fun i _ _=>L.length - (intOf i).toNat);case atStart=>exact⟨0,om,rfl,rfl,hE⟩
 case round =>
  clear hE;rename World=>wr;obtain⟨k,hk,rfl,rfl,hE⟩:=hrel;have hm24:=c34 l n L k;by_cases hlt:k<L.length
  . have hltI:(k:Int)<(L.length:Int):=(by omega);have hck:=HcL.out k _ hlt hE;have hbx:=hb1 _ hE;obtain⟨hxo,hxb⟩:=Hall.out _ (o6 hlt);have Hnx:=zh (cg5 (l:=l) (a:=n) hlt);obtain⟨x,hxd⟩:=nq (d8 L k);obtain⟨m,hmd⟩:=nq (lpX l n (L.take k));rw[<-hxd] at hck hxo hxb Hnx;rw[<-hmd] at hm24 Hnx ⊢;have hixk:=fun W=>hixL k W hlt;clear hxd hmd;go_wp2_with (first | (go_at_call 99;refine cx (p7 _ _ _ (hg1 _ hE) (Hgr)) hE ?_;clear hE;intro w' hE));go_loopw [24,5] (fun d s wq=>∃t:Nat,t<=ord l∧d=.int .i64 t∧s=.int .i64 (lpD l n x m t)∧Ext w1 wq) (fun d _ _=>ord l - (intOf d).toNat);(case atStart=>exact⟨0,om,rfl,rfl,hE⟩);case round =>
     clear hE hck hbx;rename World=>wq;obtain⟨t,ht,rfl,rfl,hE⟩:=hrel;have hbx:=hb1 _ hE;have hM24:=cm7 l n x m hm24 t;by_cases hlt2:t<ord l
     . have hlt2I:(t:Int)<(ord l:Int):=(by omega);have Hnd:=zh (cg4 l n x m t);obtain⟨M,hMd⟩:=nq (lpD l n x m t);rw[<-hMd] at hM24 Hnd ⊢;have Hp1:Hid (m6 l x t=ptF l x t 1):=zh rfl;clear hMd;go_wp2_with (first | (go_at_call 224;with_reducible refine Calls.mono (R5 _ _ _ _ _ (hg1 _ hE) Hgr om om) ?_;rw[Hp1.out];rintro e w' ⟨rfl,hE'⟩;replace hE:=hE.trans hE';clear hE'));go_loopw [9,10] (fun sc sy wz=>∃j:Nat,1<=j∧sc=.int .i64 j∧sy=.int .i64 (ptF l x t j)∧Ext w1 wz∧Hid (Run l n x t j)) (fun sc _ _=>25 - (intOf sc).toNat);(case atStart=>exact⟨1,om,rfl,rfl,hE,zh (Run.one l n x t)⟩);case round =>
        clear hE hbx;rename World=>wz;obtain⟨j,hj1,rfl,rfl,hE,HR⟩:=hrel;have hbx:=hb1 _ hE;have hj24:=Run.le Hgr.out hxo HR.out;have hyo:=bs3 (d:=t) Hgr.out hxo j;have Hst:=zh (fun h=>ct5 Hgr.out hxo hj1 HR.out h);have Hnx2:=zh (fun h1 h2=>HR.out.next h1 h2);have Hp2:Hid (m6 l (ptF l x t j) t=ptF l x t (j+1)):=zh rfl;obtain⟨y,hyd⟩:=nq (ptF l x t j);rw[<-hyd] at hyo Hst Hnx2 Hp2 ⊢;clear hyd;by_cases hyx:y=x
        . have hq:((y:Int) != (x:Int))=false:=(by simp[hyx]);have Hr:=zh (Hst.out (Or.inl hyx));clear hyx;go_wp2_with fail;exact zz93
        . have hq:((y:Int) != (x:Int))=true:=(by simp;omega);cases hbit:n.testBit y
          . have Hr:=zh (Hst.out (Or.inr hbit));go_wp2_with (first | (go_at_call 225;refine (T1 n y h2 om _ hbit).mono ?_;rintro e w' ⟨rfl,rfl⟩));exact zz93
          . have Hn:=zh (Hnx2.out hyx hbit);go_wp2_with (first | (go_at_call 225;refine (T1 n y h2 om _ hbit).mono ?_;rintro e w' ⟨rfl,rfl⟩) | (go_at_call 224;with_reducible refine Calls.mono (R5 _ _ _ _ _ (hg1 _ hE) Hgr om om) ?_;rw[Hp2.out];rintro e w' ⟨rfl,hE'⟩;replace hE:=hE.trans hE';clear hE'));go_roundw;(case rel=>exact⟨j+1,om,zg,rfl,hE,Hn⟩);case measure=>exact zm1
     . have hlt2I:¬(t:Int)<(ord l:Int):=(by omega);have hto:t=ord l:=om;subst hto;go_wp2_with fail;go_roundw;(case rel=>exact⟨k+1,om,zg,by rw[Hnx.out],hE⟩);case measure=>exact zm1
  . exact zz105
theorem dn4{a n:Nat}(ha:a<2 ^ 24)(hb:a.testBit n=true):W1 ((shr a n:Nat):Int) 1=1:=by
 have h1:=bt0 a n;rw[Q6 om];have:a.testBit n=decide (shr a n % 2=1):=by rw[Nat.testBit_eq_decide_div_mod_eq,<-Nat.shiftRight_eq_div_pow];rfl
 rw[hb] at this;have h2:=of_decide_eq_true this.symm;rw[h2];rfl
theorem d62{a n:Nat}(ha:a<2 ^ 24)(hb:a.testBit n=false):W1 ((shr a n:Nat):Int) 1=0:=by
 have h1:=bt0 a n;rw[Q6 om];have:a.testBit n=decide (shr a n % 2=1):=by rw[Nat.testBit_eq_decide_div_mod_eq,<-Nat.shiftRight_eq_div_pow];rfl
 rw[hb] at this;have h2:=of_decide_eq_false this.symm;have:shr a n % 2=0:=om;rw[this];rfl
theorem bk9(v:Value)(l:List Int)(n:Nat)(w:World)(h:c9 w v l)(hs:j4 l (n:Int)=true) :
 Calls Tryz.prog 72 #[.agg #[v],.int .i64 n] w fun e w'=>e=.returned (.int .i64 (lpF l n))∧Ext w w':=by
 obtain⟨wb,Hwb,hE0,hb,hg,hE,Hsz⟩:=ju3 28 h;clear h;have hbx:=hb wb hE;obtain⟨h2,hgr⟩:=bc8 hs;have hnl:=j56 hs;have Hgr:=zh hgr;have hob:=m8 hgr;clear hgr;go_in;go_wp2_with fail;rw[<-Hwb.out];go_wp2_with (first | (go_at_call 46;refine cx (l8 _ _ _ _ (hg _ hE) (hs)) hE ?_;clear hE;intro w' hE) | (go_at_call 165;refine (M6 n h2 _).mono ?_;rintro e w1 ⟨v1,rfl,hL,hE1⟩;obtain⟨aoL,cL,adrL,rfl,hcap,hadrL,hcellL⟩:=hL.ints.natc;have hixL:=j3 (c:=cL) elI szI hadrL));have hb1:∀W,Ext w1 W->W.cell? ⟨w.heap.size,0,none⟩=some v:=fun W hW=>hb W (hE.trans (hE1.trans hW));have hg1:∀W,Ext w1 W->c9 W v l:=fun W hW=>hg W (hE.trans (hE1.trans hW));have eW:=hE0.trans (hE.trans hE1);have Hall:Hid (∀y∈j7 n,y<ord l∧n.testBit y=true):=zh fun y hy=>⟨j04 hnl hy,(F3.1 hy).2⟩;have Hfin:Hid (lpF l n=lpX l n (j7 n)):=zh rfl;clear hb hg hbx hE hE1 hL hs hnl;have hlen:=B7 n;generalize j7 n=L at hcellL hixL Hall hlen hcap hadrL Hfin ⊢;have HcL:=zh hcellL;clear hadrL hcap hcellL;have hE:=er w1;go_loopw [7,5] (fun i s wr=>∃k:Nat,k<=L.length∧i=.int .i64 k∧s=.int .i64 (lpX l n (L.take k))∧Ext w1 wr) (fun i _ _=>L.length - (intOf i).toNat);case atStart=>exact⟨0,om,rfl,rfl,hE⟩
 case round =>
  clear hE;rename World=>wr;obtain⟨k,hk,rfl,rfl,hE⟩:=hrel;have hm24:=c34 l n L k;by_cases hlt:k<L.length
  . have hltI:(k:Int)<(L.length:Int):=(by omega);obtain⟨hxo,hxb⟩:=Hall.out _ (o6 hlt);have Hnx:=zh (cg5 (l:=l) (a:=n) hlt);have HcK:=zh (fun W hW=>HcL.out k W hlt hW);obtain⟨x,hxd⟩:=nq (d8 L k);obtain⟨m,hmd⟩:=nq (lpX l n (L.take k));rw[<-hxd] at HcK hxo hxb Hnx;rw[<-hmd] at hm24 Hnx ⊢;have hixk:=fun W=>hixL k W hlt;have Hxb:=zh hxb;clear hxd hmd hxb;go_wp2_with fail;go_loopw [8,5] (fun d s wq=>∃t:Nat,t<=ord l∧d=.int .i64 t∧s=.int .i64 (lpD l n x m t)∧Ext w1 wq) (fun d _ _=>ord l - (intOf d).toNat);(case atStart=>exact⟨0,om,rfl,rfl,hE⟩);case round =>
     clear hE;rename World=>wq;obtain⟨t,ht,rfl,rfl,hE⟩:=hrel;have hbx:=hb1 _ hE;have hM24:=cm7 l n x m hm24 t;by_cases hlt2:t<ord l
     . have hlt2I:(t:Int)<(ord l:Int):=(by omega);have Hnd:=zh (cg4 l n x m t);obtain⟨M,hMd⟩:=nq (lpD l n x m t);rw[<-hMd] at hM24 Hnd ⊢;clear hMd;go_wp2_with (go_at_call 43;refine (o5 _ _ _ (hg1 _ hE) Hgr).mono ?_;rintro e w3 ⟨rfl,hE3⟩;have hE4:=hE.trans hE3;have hck:=HcK.out _ hE4);go_loopw [9,10,11] (fun sc ss sy wz=>∃j:Nat,sc=.int .i64 j∧ss=.int .i64 (b61 l x t j)∧sy=.int .i64 (ptF l x t j)∧Ext w1 wz∧Hid (Run l n x t j)) (fun sc _ _ _=>25 - (intOf sc).toNat);(case atStart=>exact⟨0,rfl,rfl,rfl,hE4,zh fun i h1 h2=>om⟩);case round =>
        clear hE hbx hE3 hE4 hck;rename World=>wz;obtain⟨j,rfl,rfl,rfl,hE,HR⟩:=hrel;have hbx:=hb1 _ hE;have hj24:=Run.le Hgr.out hxo HR.out;have hyo:=bs3 (d:=t) Hgr.out hxo j;have hS24:=ci7 (d:=t) Hgr.out hxo j;have hS25:=ci7 (d:=t) Hgr.out hxo (j+1);have Hp2:Hid (m6 l (ptF l x t j) t=ptF l x t (j+1)):=zh rfl;have Hs2:Hid (b61 l x t j ||| 2 ^ ptF l x t j=b61 l x t (j+1)):=zh rfl;obtain⟨y,hyd⟩:=nq (ptF l x t j);obtain⟨S,hSd⟩:=nq (b61 l x t j);rw[<-hyd] at hyo Hp2 Hs2 ⊢;rw[<-hSd] at hS24 Hs2 ⊢;have Hyd:=zh hyd;have HSd:=zh hSd;clear hyd hSd;have hsh1:=K0 (a:=n) (n:=y) om;cases hbit:n.testBit y
        . have hj1:1<=j:=Nat.pos_of_ne_zero fun e=>by
           subst e
           have h1:y=x:=Hyd.out
           rw[h1,Hxb.out] at hbit;cases hbit
          have Hr:=zh (ct5 Hgr.out hxo hj1 HR.out (Or.inr (by rw[<-Hyd.out];exact hbit)))
          have hb0:=d62 h2 hbit
          clear hbit
          go_wp2_with fail
          go_roundw
          case rel=>exact⟨t+1,om,zg,by rw[Hnd.out,Hr.out];congr 1;split<;>omega,hE⟩
          case measure=>exact zm1
        . have hb0:=dn4 h2 hbit;have hsh2:=K0 (a:=S) (n:=y) om;cases hsb:S.testBit y
          . have hb1':=d62 hS24 hsb;have hs1:=p6 (n:=y) om;have hs2:=F6 (z:=y) hS24 om;rw[Hs2.out] at hs2;have Hn:Hid (Run l n x t (j+1)):=zh (by
             by_cases e:j=0
             . subst e;exact Run.one l n x t
             . exact HR.out.next (je5 om (by rw[<-Hyd.out,<-HSd.out];exact hsb)) (by rw[<-Hyd.out];exact hbit))
            obtain⟨S2,hS2⟩:=nq (b61 l x t (j+1));rw[<-hS2] at hs2 hS25;have HS2:=zh hS2;clear hbit hsb hS2;go_wp2_with (first | (go_at_call 190;with_reducible refine Calls.mono (G5 _ _ _ _ _ (hg1 _ hE) Hgr om om) ?_;rw[Hp2.out];rintro e w' ⟨rfl,hE'⟩;replace hE:=hE.trans hE';clear hE'));go_roundw;(case rel=>exact⟨j+1,zg,by rw[HS2.out],rfl,hE,Hn⟩);case measure=>exact zm1
          . have hb1':=dn4 hS24 hsb;have hj1:1<=j:=Nat.pos_of_ne_zero fun e=>by
             subst e
             have h1:S=0:=HSd.out
             rw[h1] at hsb;simp at hsb
            have Hr:=zh (ct5 Hgr.out hxo hj1 HR.out (Or.inl (j54 Hgr.out hxo hj1 HR.out (by rw[<-Hyd.out,<-HSd.out];exact hsb))));clear hbit hsb;go_wp2_with fail;exact zz93
     . have hlt2I:¬(t:Int)<(ord l:Int):=(by omega);have hto:t=ord l:=om;subst hto;go_wp2_with (go_at_call 43;refine (o5 _ _ _ (hg1 _ hE) Hgr).mono ?_;rintro e w3 ⟨rfl,hE3⟩;have hE4:=hE.trans hE3);go_roundw;(case rel=>exact⟨k+1,om,zg,by rw[Hnx.out],hE4⟩);case measure=>exact zm1
  . exact zz105
theorem zz167{P:Prop}(h:P:=by obtain⟨n,rfl,-,hn,-⟩:=o4 h;rw[br0 h];exact O7 (fun i hi=>by have:=b66 n i hi;omega) (by rw[j2];have:=B7 n;omega)):P:=h
theorem bm5(l:List Int)(a:Int):(fsF l a).size<=560:=by
 cases h:j4 l a
 . rw[br1 h];decide
 . exact zz167
theorem dg5(l:List Int)(a:Int):(stF l a).size<=20:=by
 unfold stF;(repeat' split)<;>decide
theorem dq4(l:List Int)(n:Nat):(∀i,i<(b9 (J2 l n 4)).length -> -9<=nth (b9 (J2 l n 4)) i∧nth (b9 (J2 l n 4)) i<1000000000000)∧(b9 (J2 l n 4)).length<=40:=by
 refine⟨fun i hi=>?_,by rw[j2,bm6];omega⟩;rw[j2,bm6] at hi;rw[H8];have e:d8 (J2 l n 4) i=cnt (O0 l n (i+1)):=by simp[J2,d8,List.getD,hi]
 rw[e];have:=r9 (O0 l n (i+1));omega
theorem j28(l:List Int)(n:Nat):lpF l n<=24:=by
 have:=c34 l n (j7 n) (j7 n).length;rw[List.take_length] at this;exact this
theorem d32(v:Value)(l:List Int)(a:Int)(w:World)(h:c9 w v l) :
 Calls Tryz.prog 75 #[.agg #[v],.int .i64 a] w fun e w'=>e=.returned (.bool (apB l a))∧Ext w w':=by
 obtain⟨wb,Hwb,hE0,hb,hg,hE,Hsz⟩:=ju3 28 h;clear h;have hbx:=hb wb hE;have cT:=bs9 v l a wb (hg wb hE);go_in;go_wp2_with fail;rw[<-Hwb.out];go_wp2_with (go_at_call 192;refine cT.mono ?_;rintro e w3 ⟨⟨z,rfl,hz,-⟩,hE3⟩);go_ret;exact⟨j5 rfl,hE0.trans hE3⟩
end Go.Zz
