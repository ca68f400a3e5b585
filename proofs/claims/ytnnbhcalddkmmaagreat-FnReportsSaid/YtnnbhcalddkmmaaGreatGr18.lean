/- Triples in progression: both; sets without progressions of the program. -/
import Derived.Test.YtnnbhcalddkmmaaGreatGr17
set_option linter.unusedSimpArgs false
set_option linter.unusedVariables false
set_option linter.unnecessarySimpa false
set_option maxHeartbeats 2000000
set_option maxRecDepth 4000
namespace Go.Zz
open Go.RowKit Go.Proofs
def apT(l:List Int)(L:List Nat)(i k j:Nat):Bool:=((m6 l (d8 L i) (d8 L k):Nat):Int) == ((m6 l (d8 L j) (d8 L j):Nat):Int)
def ZT(l:List Int)(L:List Nat)(C:Nat->Nat->Nat->Prop)(n:Nat):Prop:=n=0↔∀i k j,C i k j->apT l L i k j=false
theorem ZT.congr{l:List Int}{L:List Nat}{C C':Nat->Nat->Nat->Prop}{n:Nat}(h:ZT l L C n)(e:∀i k j,C i k j↔C' i k j):ZT l L C' n :=
 h.trans ⟨fun H i k j hc=>H i k j ((e i k j).2 hc),fun H i k j hc=>H i k j ((e i k j).1 hc)⟩
theorem ZT.hit{l:List Int}{L:List Nat}{C C':Nat->Nat->Nat->Prop}{n i k j:Nat}(ht:apT l L i k j=true)(hc:C' i k j):ZT l L C' (n+1) :=
 ⟨fun e=>om,fun H=>by have:=H i k j hc;rw[ht] at this;cases this⟩
theorem ZT.miss{l:List Int}{L:List Nat}{C C':Nat->Nat->Nat->Prop}{n i k j:Nat}(h:ZT l L C n)(ht:apT l L i k j=false)(e:∀a b c,C' a b c↔C a b c∨(a=i∧b=k∧c=j)):ZT l L C' n :=
 h.trans ⟨fun H a b c hc=>by
  rcases (e a b c).1 hc with h | ⟨rfl,rfl,rfl⟩
  . exact H a b c h
  . exact ht,fun H a b c hc=>H a b c ((e a b c).2 (Or.inl hc))⟩
def apL(l:List Int)(L:List Nat):Bool:=(List.range L.length).all fun i=>(List.range L.length).all fun k=>(List.range L.length).all fun j=>decide (k<=i) || !apT l L i k j
theorem ji7{l:List Int}{L:List Nat}:apL l L=true↔∀i k j,(i<k∧k<L.length∧j<L.length)->apT l L i k j=false:=by
 unfold apL;simp only[List.all_eq_true,List.mem_range];constructor
 . rintro H i k j ⟨h1,h2,h3⟩;have:=H i om k h2 j h3;simpa[show ¬k<=i by omega] using this
 . intro H i h1 k h2 j h3;by_cases hk:k<=i
   . simp[hk]
   . rw[H i k j ⟨om,h2,h3⟩];simp
def apB(l:List Int)(a:Int):Bool:=j4 l a&&apL l (j7 a.toNat)
theorem dy1{l:List Int}{a:Int}(h:j4 l a=false):apB l a=false:=by unfold apB;rw[h];rfl
theorem dm9{l:List Int}{n:Nat}(h:j4 l n=true):apB l n=apL l (j7 n):=by unfold apB;rw[h];rfl
theorem ZT.all{l:List Int}{L:List Nat}{n:Nat}(h:ZT l L (fun i k j=>i<k∧k<L.length∧j<L.length) n):((n:Int) == 0)=apL l L:=by
 rw[Bool.eq_iff_iff,beq_iff_eq,ji7];exact⟨fun e=>h.1 om,fun H=>by have:=h.2 H;omega⟩
def ZN(b:Bool)(e:Ending):Prop:=∃n:Int,e=.returned (.int .i64 n)∧(n == 0)=b∧(n != 0) = !b
theorem ZN.mk{n:Int}{b:Bool}(h:(n == 0)=b):ZN b (.returned (.int .i64 n)):=⟨n,rfl,h,by rw[<-h];rfl⟩
theorem zz101{P:Prop}(h:P:=by have hil:i=L.length:=(by omega);have Hz:Hid (((z:Int) == 0)=apL l L):=zh (ZT.all (HZ.out.congr fun a b c=>om));clear hil;go_wp2_with fail;go_ret;exact⟨by rw[Hs.out];exact ZN.mk Hz.out,eW.trans hE⟩):P:=h
theorem zz157{P:Prop}(h:P:=by have hz2:z<=576*(i+1):=om;go_wp2_with fail;go_roundw;(case rel=>exact⟨i+1,z,om,zg,rfl,hz2,Hn,hE⟩);case measure=>exact zm1):P:=h
theorem d21(v:Value)(l:List Int)(a:Int)(w:World)(h:c9 w v l) :
 Calls Tryz.prog 226 #[.agg #[v],.int .i64 a] w fun e w'=>ZN (apB l a) e∧Ext w w':=by
 obtain⟨wb,Hwb,hE0,hb,hg,hE,Hsz⟩:=ju3 28 h;clear h;have hbx:=hb wb hE;cases hs:j4 l a
 . have Hs:=zh (dy1 hs);go_in;go_wp2_with fail;rw[<-Hwb.out];go_wp2_with (first | (go_at_call 105;refine cx (p8 _ _ _ _ (hg _ hE) (hs)) hE ?_;clear hE;intro w' hE));go_ret;exact⟨by rw[Hs.out];exact ZN.mk (by decide),hE0.trans hE⟩
 . obtain⟨n,rfl,h1,h2,hgr⟩:=o4 hs;have Hs:=zh (dm9 hs);have Hgr:=zh hgr;clear hgr;go_in;go_wp2_with fail;rw[<-Hwb.out];go_wp2_with (first | (go_at_call 105;refine cx (p8 _ _ _ _ (hg _ hE) (hs)) hE ?_;clear hE;intro w' hE) | (go_at_call 214;refine (I5 n h2 _).mono ?_;rintro e w1 ⟨v1,rfl,hL,hE1⟩;obtain⟨aoL,cL,adrL,rfl,hcap,hadrL,hcellL⟩:=hL.ints.natc;have hixL:=j3 (c:=cL) elI szI hadrL));have hb1:∀W,Ext w1 W->W.cell? ⟨w.heap.size,0,none⟩=some v:=fun W hW=>hb W (hE.trans (hE1.trans hW));have hg1:∀W,Ext w1 W->c9 W v l:=fun W hW=>hg W (hE.trans (hE1.trans hW));have eW:=hE0.trans (hE.trans hE1);have hall:∀y∈j7 n,y<24:=fun y hy=>I9 hy;have hlen:=B7 n;have HLI:=zh (fun W (hW:Ext w1 W)=>(hL.ext hW).ints);clear hb hg hbx hE hE1 hL hs;generalize j7 n=L at hcellL hixL hall hlen Hs hcap hadrL HLI ⊢;have HcL:=zh hcellL;clear hadrL hcellL;have hE:=er w1;go_loopw [5,21] (fun nv iv wr=>∃i z:Nat,i<=L.length∧iv=.int .i64 i∧nv=.int .i64 z∧z<=576*i∧Hid (ZT l L (fun a b c=>a<i∧a<b∧b<L.length∧c<L.length) z)∧Ext w1 wr) (fun _ iv _=>L.length - (intOf iv).toNat);(case atStart=>exact⟨0,0,om,rfl,rfl,om,zh ⟨fun _ a b c hc=>om,fun _=>rfl⟩,hE⟩);case round =>
    clear hE;obtain⟨i,z,hi,rfl,rfl,hz,HZ,hE⟩:=hrel;by_cases hlt:i<L.length
    . have hck:=HcL.out i _ hlt hE;have hix24:=hall _ (o6 hlt);obtain⟨X,hX⟩:=nq (d8 L i);rw[<-hX] at hck hix24;have HX:=zh hX;clear hX;have hfl:=fun W=>Q1 (P:=Tryz.prog) elI szI aoL L.length cL ((i:Int)+1) om om W;have hfa:=fun W=>O9 (P:=Tryz.prog) elI szI aoL L.length cL ((i:Int)+1) om om W;rw[show ((i:Int)+1).toNat=i+1 by omega] at hfl hfa;obtain⟨ao2,c2,adr2,hv2,hlen2,hadr2,hcell2⟩:=((HLI.out _ hE).drop (k:=i+1) (by rw[j2];omega)).op;have hl2:((b9 L).drop (i+1)).length=L.length - (i+1):=(by rw[List.length_drop,j2]);have hix2:=j3 (c:=c2) elI szI hadr2;obtain⟨M,hM⟩:=nq (((b9 L).drop (i+1)).length);rw[<-hM] at hv2 hix2 hl2;have HM:Hid (i+1+M=L.length):=zh om;have hM24:M<=24:=om;have hc2:∀t W,t<M->Ext wr W->W.cell? (adr2 t)=some (.int .i64 (d8 L (i+1+t):Int)):=fun t W ht hW=>by
       rw[hcell2 t W (by rw[<-hM];exact ht) hW]
       simp[nth,List.getD,List.getElem?_drop,d8,b9]
       cases L[i+1+t]?<;>rfl
      rw[hv2] at hfl hfa;have Hc2:=zh hc2;clear hv2 hcell2 hadr2 hl2 hM hlen2 hc2;go_wp2_with fail;rename World=>wi;go_loopw [5,31] (fun nv kv wr=>∃t z:Nat,t<=M∧kv=.int .i64 t∧nv=.int .i64 z∧z<=576*i+24*t∧Hid (ZT l L (fun a b c=>(a<i∧a<b∧b<L.length∧c<L.length)∨(a=i∧i<b∧b<i+1+t∧c<L.length)) z)∧Ext w1 wr∧Ext wi wr) (fun _ kv _=>M - (intOf kv).toNat);(case atStart=>exact⟨0,z,om,rfl,rfl,om,zh (HZ.out.congr fun a b c=>om),hE,er _⟩);case round =>
       clear hE hck hz HZ;obtain⟨t,z,ht,rfl,rfl,hz,HZ,hE,hEi⟩:=hrel;by_cases hlt2:t<M
       . have hkt:i+1+t<L.length:=(by have:=HM.out;omega);have hct:=Hc2.out t _ hlt2 hEi;have hy24:=hall _ (o6 hkt);obtain⟨Y,hY⟩:=nq (d8 L (i+1+t));rw[<-hY] at hct hy24;have HY:=zh hY;clear hY;go_wp2_with fail;go_loopw [5,37] (fun nv jv wr=>∃j z:Nat,j<=L.length∧jv=.int .i64 j∧nv=.int .i64 z∧z<=576*i+24*t+j∧Hid (ZT l L (fun a b c=>(a<i∧a<b∧b<L.length∧c<L.length)∨(a=i∧i<b∧b<i+1+t∧c<L.length)∨(a=i∧b=i+1+t∧c<j)) z)∧Ext w1 wr∧Ext wi wr) (fun _ jv _=>L.length - (intOf jv).toNat);(case atStart=>exact⟨0,z,om,rfl,rfl,om,zh (HZ.out.congr fun a b c=>om),hE,hEi⟩);case round =>
          clear hE hct hz HZ hEi;obtain⟨j,z,hj,rfl,rfl,hz,HZ,hE,hEi⟩:=hrel;by_cases hlt3:j<L.length
          . have hcj:=HcL.out j _ hlt3 hE;have hz24:=hall _ (o6 hlt3);obtain⟨Z,hZ⟩:=nq (d8 L j);rw[<-hZ] at hcj hz24;have HZd:=zh hZ;clear hZ;rename World=>wj;have hbj:=fun U=>hb1 _ (hE.trans (d5 wj U));have cA:=fun U=>R5 v l X Y (Lat wj U) (hg1 _ (hE.trans (d5 wj U))) Hgr om om;have cB:=fun U=>R5 v l Z Z (Lat wj U) (hg1 _ (hE.trans (d5 wj U))) Hgr om om;have hEj:=hE;clear hE;have hE:=er wj;cases hq:(((m6 l X Y:Nat):Int) == ((m6 l Z Z:Nat):Int))
            . have Hap:Hid (apT l L i (i+1+t) j=false):=zh (by unfold apT;rw[<-HX.out,<-HY.out,<-HZd.out];exact hq);go_wp2_with fail;(refine wl hE ?_);(repeat (go_big_quiet_step (first | (go_at_call 224;first | with_reducible exact Calls.lat (cA _) | with_reducible exact Calls.lat (cB _)))));(refine zd ?_);(clear hE);(intro W hE);go_wp2_with fail;go_roundw;(case rel=>exact⟨j+1,z,om,zg,rfl,om,zh (HZ.out.miss Hap.out fun a b c=>om),hEj.trans hE,hEi.trans hE⟩);case measure=>exact zm1
            . have Hap:Hid (apT l L i (i+1+t) j=true):=zh (by unfold apT;rw[<-HX.out,<-HY.out,<-HZd.out];exact hq);go_wp2_with fail;(refine wl hE ?_);(repeat (go_big_quiet_step (first | (go_at_call 224;first | with_reducible exact Calls.lat (cA _) | with_reducible exact Calls.lat (cB _)))));(refine zd ?_);(clear hE);(intro W hE);go_wp2_with fail;go_roundw;(case rel=>exact⟨j+1,z+1,om,zg,zg,om,zh (ZT.hit (C:=fun _ _ _=>True) Hap.out om),hEj.trans hE,hEi.trans hE⟩);case measure=>exact zm1
          . have hjl:j=L.length:=(by omega);have Hn:=zh (HZ.out.congr (C':=fun a b c=>(a<i∧a<b∧b<L.length∧c<L.length)∨(a=i∧i<b∧b<i+1+(t+1)∧c<L.length)) fun a b c=>om);have hz2:z<=576*i+24*(t+1):=om;clear hjl;go_wp2_with fail;go_roundw;(case rel=>exact⟨t+1,z,om,zg,rfl,hz2,Hn,hE,hEi⟩);case measure=>exact zm1
       . have Hn:Hid (ZT l L (fun a b c=>a<i+1∧a<b∧b<L.length∧c<L.length) z):=zh (HZ.out.congr fun a b c=>by have:=HM.out;omega);exact zz157
    . exact zz101
theorem zz110{P:Prop}(h:P:=by go_wp2_with fail;go_ret;exact⟨rfl,hE0.trans hE1⟩):P:=h
theorem bz9(v:Value)(l:List Int)(a:Int)(w:World)(h:c9 w v l) :
 Calls Tryz.prog 116 #[.agg #[v],.int .i64 a] w fun e w'=>e=.returned (.bool (apB l a))∧Ext w w':=by
 obtain⟨wb,Hwb,hE0,hb,hg,hE,Hsz⟩:=ju3 28 h;clear h;have hbx:=hb wb hE;have cT:=d21 v l a wb (hg _ hE);go_in;go_wp2_with fail;rw[<-Hwb.out];refine cT.mono ?_;rintro e w1 ⟨⟨n,rfl,hn,-⟩,hE1⟩;exact zz110
def fsK(P:Nat->Bool)(N f b fr k:Nat):Nat:=(B8 (b98 P N b fr) k).foldl (fun (best x:Nat)=>if cnt best<cnt (fsS P N f (b ||| 2 ^ x) (x+1)) then fsS P N f (b ||| 2 ^ x) (x+1) else best) b
theorem c23(P:Nat->Bool)(N f b fr:Nat):fsK P N f b fr fr=b:=by
 unfold fsK;rw[c14 fun i hi=>by rw[Z1];simp;intro _ h;omega];rfl
theorem cs3{P:Nat->Bool}{N:Nat}(hN:N<=24)(f b fr:Nat):fsS P N (f+1) b fr=fsK P N f b fr N:=by
 unfold fsK;rw[U0 hN (cs9 P N b fr)];rfl
theorem da5{P:Nat->Bool}{N f b fr k:Nat}(h:P (b ||| 2 ^ k)=false):fsK P N f b fr (k+1)=fsK P N f b fr k:=by
 unfold fsK;rw[E2,show (b98 P N b fr).testBit k=false by rw[Z1,h];simp];simp
theorem cf2{P:Nat->Bool}{N f b fr k:Nat}(h1:k<N)(h2:fr<=k)(h:P (b ||| 2 ^ k)=true)(hq:cnt (fsK P N f b fr k)<cnt (fsS P N f (b ||| 2 ^ k) (k+1))):fsK P N f b fr (k+1)=fsS P N f (b ||| 2 ^ k) (k+1):=by
 unfold fsK at hq ⊢;rw[E2,show (b98 P N b fr).testBit k=true by rw[Z1,h];simp[h1,h2],if_pos rfl,List.foldl_append];simp only[List.foldl_cons,List.foldl_nil];rw[if_pos hq]
theorem cf1{P:Nat->Bool}{N f b fr k:Nat}(h1:k<N)(h2:fr<=k)(h:P (b ||| 2 ^ k)=true)(hq:¬cnt (fsK P N f b fr k)<cnt (fsS P N f (b ||| 2 ^ k) (k+1))):fsK P N f b fr (k+1)=fsK P N f b fr k:=by
 unfold fsK at hq ⊢;rw[E2,show (b98 P N b fr).testBit k=true by rw[Z1,h];simp[h1,h2],if_pos rfl,List.foldl_append];simp only[List.foldl_cons,List.foldl_nil];rw[if_neg hq]
theorem j09{P:Nat->Bool}{N f:Nat}(h:P 1=false):fsS P N (f+1) 0 0=fsS P N (f+1) 0 1:=by
 have e:b98 P N 0 0=b98 P N 0 1:=Nat.eq_of_testBit_eq fun i=>by
  rw[Z1,Z1]
  by_cases hi:i=0
  . subst hi;simp[h]
  . simp[show 1<=i by omega]
 unfold fsS;rw[e]
def M3(l:List Int)(b:Nat):Bool:=j4 l b&&decide (l7 l b b &&& b=0)
theorem da4(P:Nat->Bool)(N:Nat)(hN:N<=24)(f b fr k:Nat)(hb:b<2 ^ 24):fsK P N f b fr k<2 ^ 24:=by
 unfold fsK;have:∀(L:List Nat) (r:Nat),r<2 ^ 24->(∀x∈L,x<24)->L.foldl (fun (best x:Nat)=>if cnt best<cnt (fsS P N f (b ||| 2 ^ x) (x+1)) then fsS P N f (b ||| 2 ^ x) (x+1) else best) r<2 ^ 24:=by
  intro L;induction L with
  | nil=>intro r hr _;exact hr
  | cons x L ih =>
   intro r hr hL;rw[List.foldl_cons];refine ih _ ?_ fun y hy=>hL y (by simp[hy]);split
   . exact cl4 P N hN f _ _ (Nat.or_lt_two_pow hb (Nat.pow_lt_pow_right om (hL x zm)))
   . exact hr
 refine this _ b hb fun x hx=>?_;have h1:=(List.mem_filter.1 hx).2;have:=N0 (cs9 P N b fr) h1;omega
theorem zz26{P:Prop}(h:P:=by clear hP;go_wp2_with (first | (go_at_call 43;refine cO.mono ?_;rintro e1 w1 ⟨rfl,hE1⟩;have hE01:=hE.trans hE1) | (go_at_call 73;refine (hcP _ hE1).mono ?_;rintro e2 w2 ⟨rfl,hE2⟩;have hE12:=hE1.trans hE2;have hE02:=hE.trans hE12;skip) | (go_at_call 181;refine (hcR _ hE12).mono ?_;rintro e3 w3 ⟨rfl,hE3⟩;have hE03:=hE02.trans hE3) | (go_at_call 66;with_reducible refine Calls.mono (hbY _) ?_;rintro e' w' ⟨rfl,rfl⟩) | (go_at_call 66;with_reducible refine Calls.mono (hbB _) ?_;rintro e' w' ⟨rfl,rfl⟩));go_roundw;(case rel=>exact⟨k+1,om,om,zg,by rw[Hn.out],hE03⟩);case measure=>exact zm1):P:=h
theorem zz31{P:Prop}(h:P:=by have hkl:k=ord l:=(by omega);have Hn:=zh (show fsS P (ord l) (f+1) b fr=fsK P (ord l) f b fr k by rw[He.out,hkl]);clear hkl;go_wp2_with (go_at_call 43;refine cO.mono ?_;rintro e1 w1 ⟨rfl,hE1⟩);go_ret;exact⟨o7 (by rw[Hn.out]),hE0.trans (hE.trans hE1)⟩):P:=h
theorem zz118{P:Prop}(h:P:=by go_roundw;(case rel=>exact⟨k+1,om,om,zg,by rw[Hn.out],hE02⟩);case measure=>exact zm1):P:=h
theorem dl3(v:Value)(l:List Int)(P:Nat->Bool)(Hgr:Hid (j1 l=true))(HP:Hid (∀W b,c9 W v l->b<2 ^ ord l->Calls Tryz.prog 73 #[.agg #[v],.int .i64 (b:Nat)] W fun e w'=>e=.returned (.bool (P b))∧Ext W w')) :
 ∀(f b fr:Nat) (w:World),c9 w v l->ord l<fr+f->fr<=ord l->b<2 ^ fr ->
 Calls Tryz.prog 181 #[.agg #[v],.int .i64 b,.int .i64 fr] w fun e w'=>e=.returned (.int .i64 (fsS P (ord l) f b fr:Nat))∧Ext w w':=by
 intro f;induction f with
 | zero=>intro b fr w h hf hfr;omega
 | succ f ih =>
  intro b fr w h hf hfr hbf;have hob:=m8 Hgr.out;have hp24:=C4 Hgr.out;have hb24:b<2 ^ 24:=nlt hbf (Nat.pow_le_pow_right om om);obtain⟨wb,Hwb,hE0,hb,hg,hE,Hsz⟩:=ju3 28 h;clear h;have Hih:=zh ih;clear ih;have He:Hid (fsS P (ord l) (f+1) b fr=fsK P (ord l) f b fr (ord l)):=zh (cs3 hob.2 f b fr);have Hst:=zh (c23 P (ord l) f b fr);have HB:=zh (fun k=>da4 P (ord l) hob.2 f b fr k hb24);go_in;go_wp2_with fail;rw[<-Hwb.out];go_loopw [7,8] (fun bv xv wr=>∃k:Nat,fr<=k∧k<=ord l∧xv=.int .i64 k∧bv=.int .i64 (fsK P (ord l) f b fr k:Nat)∧Ext wb wr) (fun _ xv _=>ord l - (intOf xv).toNat);case atStart=>exact⟨fr,Nat.le_refl _,hfr,rfl,by rw[Hst.out],hE⟩
  case round =>
   clear hE;obtain⟨k,hk1,hk2,rfl,rfl,hE⟩:=hrel;have hB24:=HB.out k;have cO:=o5 v l wr (hg _ hE) Hgr;by_cases hlt:k<ord l
   . have hk24:k<24:=(by omega);have hs1:=p6 (n:=k) om;have hs2:=F6 hb24 hk24;have hbk:b ||| 2 ^ k<2 ^ (k+1):=Nat.or_lt_two_pow (nlt hbf (Nat.pow_le_pow_right om om)) (Nat.pow_lt_pow_right om om)
     have hbo:b ||| 2 ^ k<2 ^ ord l:=nlt hbk (Nat.pow_le_pow_right om om)
     have hcP:=fun W (hW:Ext wr W)=>HP.out W (b ||| 2 ^ k) (hg _ (hE.trans hW)) hbo;have hcR:=fun W (hW:Ext wr W)=>Hih.out (b ||| 2 ^ k) (k+1) W (hg _ (hE.trans hW)) om om hbk;rw[show ((k+1:Nat):Int)=(k:Int)+1 by omega] at hcR;obtain⟨Y,hY⟩:=nq (fsS P (ord l) f (b ||| 2 ^ k) (k+1));have hY24:Y<2 ^ 24:=(by rw[hY];exact cl4 P (ord l) hob.2 f _ _ (nlt hbo hp24));obtain⟨B,hB⟩:=nq (fsK P (ord l) f b fr k);have Hno:=zh (fun h=>da5 (P:=P) (N:=ord l) (f:=f) (b:=b) (fr:=fr) (k:=k) h);have Hmo:=zh (fun h=>cf2 (P:=P) (N:=ord l) (f:=f) (b:=b) (fr:=fr) (k:=k) hlt hk1 h);have Hle:=zh (fun h=>cf1 (P:=P) (N:=ord l) (f:=f) (b:=b) (fr:=fr) (k:=k) hlt hk1 h);rw[<-hB,<-hY] at Hmo Hle;rw[<-hB] at Hno hB24 ⊢;rw[<-hY] at hcR;have hbY:=fun W=>q8 Y hY24 W;have hbB:=fun W=>q8 B hB24 W;have hcB1:=r9 B;have hcY1:=r9 Y;clear hY hB hbk hbo;cases hP:P (b ||| 2 ^ k)
     . have Hn:=zh (Hno.out hP);rw[hP] at hcP;clear hP;go_wp2_with (first | (go_at_call 43;refine cO.mono ?_;rintro e1 w1 ⟨rfl,hE1⟩;have hE01:=hE.trans hE1) | (go_at_call 73;refine (hcP _ hE1).mono ?_;rintro e2 w2 ⟨rfl,hE2⟩;have hE12:=hE1.trans hE2;have hE02:=hE.trans hE12;skip));exact zz118
     . rw[hP] at hcP;by_cases hq:cnt B<cnt Y
       . have Hn:=zh (Hmo.out hP hq);exact zz26
       . have Hn:=zh (Hle.out hP hq);exact zz26
   . exact zz31
theorem zz25{P:Prop}(h:P:=by clear hP;go_wp2_with (first | (go_at_call 43;refine cO.mono ?_;rintro e1 w1 ⟨rfl,hE1⟩;have hE01:=hE.trans hE1) | (go_at_call 191;refine (hcP _ hE1).mono ?_;rintro e2 w2 ⟨rfl,hE2⟩;have hE12:=hE1.trans hE2;have hE02:=hE.trans hE12;skip) | (go_at_call 182;refine (hcR _ hE12).mono ?_;rintro e3 w3 ⟨rfl,hE3⟩;have hE03:=hE02.trans hE3) | (go_at_call 66;with_reducible refine Calls.mono (hbY _) ?_;rintro e' w' ⟨rfl,rfl⟩) | (go_at_call 66;with_reducible refine Calls.mono (hbB _) ?_;rintro e' w' ⟨rfl,rfl⟩));go_roundw;(case rel=>exact⟨k+1,om,om,zg,by rw[Hn.out],hE03⟩);case measure=>exact zm1):P:=h
theorem dw9(v:Value)(l:List Int)(P:Nat->Bool)(Hgr:Hid (j1 l=true))(HP:Hid (∀W b,c9 W v l->b<2 ^ ord l->Calls Tryz.prog 191 #[.agg #[v],.int .i64 (b:Nat)] W fun e w'=>e=.returned (.bool (P b))∧Ext W w')) :
 ∀(f b fr:Nat) (w:World),c9 w v l->ord l<fr+f->fr<=ord l->b<2 ^ fr ->
 Calls Tryz.prog 182 #[.agg #[v],.int .i64 b,.int .i64 fr] w fun e w'=>e=.returned (.int .i64 (fsS P (ord l) f b fr:Nat))∧Ext w w':=by
 intro f;induction f with
 | zero=>intro b fr w h hf hfr;omega
 | succ f ih =>
  intro b fr w h hf hfr hbf;have hob:=m8 Hgr.out;have hp24:=C4 Hgr.out;have hb24:b<2 ^ 24:=nlt hbf (Nat.pow_le_pow_right om om);obtain⟨wb,Hwb,hE0,hb,hg,hE,Hsz⟩:=ju3 28 h;clear h;have Hih:=zh ih;clear ih;have He:Hid (fsS P (ord l) (f+1) b fr=fsK P (ord l) f b fr (ord l)):=zh (cs3 hob.2 f b fr);have Hst:=zh (c23 P (ord l) f b fr);have HB:=zh (fun k=>da4 P (ord l) hob.2 f b fr k hb24);go_in;go_wp2_with fail;rw[<-Hwb.out];go_loopw [7,8] (fun bv xv wr=>∃k:Nat,fr<=k∧k<=ord l∧xv=.int .i64 k∧bv=.int .i64 (fsK P (ord l) f b fr k:Nat)∧Ext wb wr) (fun _ xv _=>ord l - (intOf xv).toNat);case atStart=>exact⟨fr,Nat.le_refl _,hfr,rfl,by rw[Hst.out],hE⟩
  case round =>
   clear hE;obtain⟨k,hk1,hk2,rfl,rfl,hE⟩:=hrel;have hB24:=HB.out k;have cO:=o5 v l wr (hg _ hE) Hgr;by_cases hlt:k<ord l
   . have hk24:k<24:=(by omega);have hs1:=p6 (n:=k) om;have hs2:=F6 hb24 hk24;have hbk:b ||| 2 ^ k<2 ^ (k+1):=Nat.or_lt_two_pow (nlt hbf (Nat.pow_le_pow_right om om)) (Nat.pow_lt_pow_right om om)
     have hbo:b ||| 2 ^ k<2 ^ ord l:=nlt hbk (Nat.pow_le_pow_right om om)
     have hcP:=fun W (hW:Ext wr W)=>HP.out W (b ||| 2 ^ k) (hg _ (hE.trans hW)) hbo;have hcR:=fun W (hW:Ext wr W)=>Hih.out (b ||| 2 ^ k) (k+1) W (hg _ (hE.trans hW)) om om hbk;rw[show ((k+1:Nat):Int)=(k:Int)+1 by omega] at hcR;obtain⟨Y,hY⟩:=nq (fsS P (ord l) f (b ||| 2 ^ k) (k+1));have hY24:Y<2 ^ 24:=(by rw[hY];exact cl4 P (ord l) hob.2 f _ _ (nlt hbo hp24));obtain⟨B,hB⟩:=nq (fsK P (ord l) f b fr k);have Hno:=zh (fun h=>da5 (P:=P) (N:=ord l) (f:=f) (b:=b) (fr:=fr) (k:=k) h);have Hmo:=zh (fun h=>cf2 (P:=P) (N:=ord l) (f:=f) (b:=b) (fr:=fr) (k:=k) hlt hk1 h);have Hle:=zh (fun h=>cf1 (P:=P) (N:=ord l) (f:=f) (b:=b) (fr:=fr) (k:=k) hlt hk1 h);rw[<-hB,<-hY] at Hmo Hle;rw[<-hB] at Hno hB24 ⊢;rw[<-hY] at hcR;have hbY:=fun W=>q8 Y hY24 W;have hbB:=fun W=>q8 B hB24 W;have hcB1:=r9 B;have hcY1:=r9 Y;clear hY hB hbk hbo;cases hP:P (b ||| 2 ^ k)
     . have Hn:=zh (Hno.out hP);rw[hP] at hcP;clear hP;go_wp2_with (first | (go_at_call 43;refine cO.mono ?_;rintro e1 w1 ⟨rfl,hE1⟩;have hE01:=hE.trans hE1) | (go_at_call 191;refine (hcP _ hE1).mono ?_;rintro e2 w2 ⟨rfl,hE2⟩;have hE12:=hE1.trans hE2;have hE02:=hE.trans hE12;skip));exact zz118
     . rw[hP] at hcP;by_cases hq:cnt B<cnt Y
       . have Hn:=zh (Hmo.out hP hq);exact zz25
       . have Hn:=zh (Hle.out hP hq);exact zz25
   . exact zz31
theorem zz22{P:Prop}(h:P:=by clear hP;go_wp2_with (first | (go_at_call 43;refine cO.mono ?_;rintro e1 w1 ⟨rfl,hE1⟩;have hE01:=hE.trans hE1) | (go_at_call 192;refine (hcP _ hE1).mono ?_;rintro e2 w2 ⟨n,rfl,hn,hE2⟩;have hE12:=hE1.trans hE2;have hE02:=hE.trans hE12;simp only[Bool.not_true] at hn) | (go_at_call 183;refine (hcR _ hE12).mono ?_;rintro e3 w3 ⟨rfl,hE3⟩;have hE03:=hE02.trans hE3) | (go_at_call 66;with_reducible refine Calls.mono (hbY _) ?_;rintro e' w' ⟨rfl,rfl⟩) | (go_at_call 66;with_reducible refine Calls.mono (hbB _) ?_;rintro e' w' ⟨rfl,rfl⟩));go_roundw;(case rel=>exact⟨k+1,om,om,zg,by rw[Hn.out],hE03⟩);case measure=>exact zm1):P:=h
theorem j52(v:Value)(l:List Int)(P:Nat->Bool)(Hgr:Hid (j1 l=true))(HP:Hid (∀W b,c9 W v l->b<2 ^ ord l->Calls Tryz.prog 192 #[.agg #[v],.int .i64 (b:Nat)] W fun e w'=>∃n:Int,e=.returned (.int .i64 n)∧(n != 0) = !(P b)∧Ext W w')) :
 ∀(f b fr:Nat) (w:World),c9 w v l->ord l<fr+f->fr<=ord l->b<2 ^ fr ->
 Calls Tryz.prog 183 #[.agg #[v],.int .i64 b,.int .i64 fr] w fun e w'=>e=.returned (.int .i64 (fsS P (ord l) f b fr:Nat))∧Ext w w':=by
 intro f;induction f with
 | zero=>intro b fr w h hf hfr;omega
 | succ f ih =>
  intro b fr w h hf hfr hbf;have hob:=m8 Hgr.out;have hp24:=C4 Hgr.out;have hb24:b<2 ^ 24:=nlt hbf (Nat.pow_le_pow_right om om);obtain⟨wb,Hwb,hE0,hb,hg,hE,Hsz⟩:=ju3 28 h;clear h;have Hih:=zh ih;clear ih;have He:Hid (fsS P (ord l) (f+1) b fr=fsK P (ord l) f b fr (ord l)):=zh (cs3 hob.2 f b fr);have Hst:=zh (c23 P (ord l) f b fr);have HB:=zh (fun k=>da4 P (ord l) hob.2 f b fr k hb24);go_in;go_wp2_with fail;rw[<-Hwb.out];go_loopw [7,8] (fun bv xv wr=>∃k:Nat,fr<=k∧k<=ord l∧xv=.int .i64 k∧bv=.int .i64 (fsK P (ord l) f b fr k:Nat)∧Ext wb wr) (fun _ xv _=>ord l - (intOf xv).toNat);case atStart=>exact⟨fr,Nat.le_refl _,hfr,rfl,by rw[Hst.out],hE⟩
  case round =>
   clear hE;obtain⟨k,hk1,hk2,rfl,rfl,hE⟩:=hrel;have hB24:=HB.out k;have cO:=o5 v l wr (hg _ hE) Hgr;by_cases hlt:k<ord l
   . have hk24:k<24:=(by omega);have hs1:=p6 (n:=k) om;have hs2:=F6 hb24 hk24;have hbk:b ||| 2 ^ k<2 ^ (k+1):=Nat.or_lt_two_pow (nlt hbf (Nat.pow_le_pow_right om om)) (Nat.pow_lt_pow_right om om)
     have hbo:b ||| 2 ^ k<2 ^ ord l:=nlt hbk (Nat.pow_le_pow_right om om)
     have hcP:=fun W (hW:Ext wr W)=>HP.out W (b ||| 2 ^ k) (hg _ (hE.trans hW)) hbo;have hcR:=fun W (hW:Ext wr W)=>Hih.out (b ||| 2 ^ k) (k+1) W (hg _ (hE.trans hW)) om om hbk;rw[show ((k+1:Nat):Int)=(k:Int)+1 by omega] at hcR;obtain⟨Y,hY⟩:=nq (fsS P (ord l) f (b ||| 2 ^ k) (k+1));have hY24:Y<2 ^ 24:=(by rw[hY];exact cl4 P (ord l) hob.2 f _ _ (nlt hbo hp24));obtain⟨B,hB⟩:=nq (fsK P (ord l) f b fr k);have Hno:=zh (fun h=>da5 (P:=P) (N:=ord l) (f:=f) (b:=b) (fr:=fr) (k:=k) h);have Hmo:=zh (fun h=>cf2 (P:=P) (N:=ord l) (f:=f) (b:=b) (fr:=fr) (k:=k) hlt hk1 h);have Hle:=zh (fun h=>cf1 (P:=P) (N:=ord l) (f:=f) (b:=b) (fr:=fr) (k:=k) hlt hk1 h);rw[<-hB,<-hY] at Hmo Hle;rw[<-hB] at Hno hB24 ⊢;rw[<-hY] at hcR;have hbY:=fun W=>q8 Y hY24 W;have hbB:=fun W=>q8 B hB24 W;have hcB1:=r9 B;have hcY1:=r9 Y;clear hY hB hbk hbo;cases hP:P (b ||| 2 ^ k)
     . have Hn:=zh (Hno.out hP);rw[hP] at hcP;clear hP;go_wp2_with (first | (go_at_call 43;refine cO.mono ?_;rintro e1 w1 ⟨rfl,hE1⟩;have hE01:=hE.trans hE1) | (go_at_call 192;refine (hcP _ hE1).mono ?_;rintro e2 w2 ⟨n,rfl,hn,hE2⟩;have hE12:=hE1.trans hE2;have hE02:=hE.trans hE12;simp only[Bool.not_false] at hn));exact zz118
     . rw[hP] at hcP;by_cases hq:cnt B<cnt Y
       . have Hn:=zh (Hmo.out hP hq);exact zz22
       . have Hn:=zh (Hle.out hP hq);exact zz22
   . exact zz31
theorem cc1(v:Value)(l:List Int)(a:Nat)(w:World)(h:c9 w v l)(Hgr:Hid (j1 l=true))(ha:a<2 ^ 24) :
 Calls Tryz.prog 73 #[.agg #[v],.int .i64 a] w fun e w'=>e=.returned (.bool (decide (l7 l a a &&& a=0)))∧Ext w w':=by
 obtain⟨wb,Hwb,hE0,hb,hg,hE,Hsz⟩:=ju3 28 h;clear h;have hbx:=hb wb hE;have hs:=G9 Hgr.out a a;have ho:W1 ((l7 l a a:Nat):Int) (a:Int)=((l7 l a a &&& a:Nat):Int):=b34 om om;have cS:=D6 v l a a wb (hg _ hE) Hgr ha ha;go_in;go_wp2_with fail;rw[<-Hwb.out];refine cS.mono ?_;rintro e w1 ⟨rfl,hE1⟩;go_wp2_with fail;go_ret;exact⟨j5 (by rw[Bool.eq_iff_iff,beq_iff_eq,decide_eq_true_iff];omega),hE0.trans hE1⟩
theorem by2(v:Value)(l:List Int)(a:Int)(w:World)(h:c9 w v l) :
 Calls Tryz.prog 114 #[.agg #[v],.int .i64 a] w fun e w'=>e=.returned (.bool (j4 l a&&decide (l7 l a.toNat a.toNat &&& a.toNat=0)))∧Ext w w':=by
 obtain⟨wb,Hwb,hE0,hb,hg,hE,Hsz⟩:=ju3 28 h;clear h;have hbx:=hb wb hE;have cI:=I6 v l a wb (hg _ hE);cases hs:j4 l a
 . rw[hs] at cI;go_in;go_wp2_with fail;rw[<-Hwb.out];refine cI.mono ?_;rintro e w1 ⟨rfl,hE1⟩;exact zz110
 . rw[hs] at cI;obtain⟨n,rfl,-,hn,hgr⟩:=o4 hs;have hs24:=G9 hgr n n;have ho:W1 ((l7 l n n:Nat):Int) (n:Int)=((l7 l n n &&& n:Nat):Int):=b34 om om;have cS:=fun W (hW:Ext wb W)=>J4 v l n n W (hg _ hW) (zh hgr) hn hn;have Hv:Hid ((true&&decide (l7 l ((n:Nat):Int).toNat ((n:Nat):Int).toNat &&& ((n:Nat):Int).toNat=0))=(((l7 l n n &&& n:Nat):Int) == 0)):=zh (by
    rw[show ((n:Nat):Int).toNat=n by omega,Bool.true_and,Bool.eq_iff_iff,beq_iff_eq,decide_eq_true_iff];omega)
   clear hs hgr;go_in;go_wp2_with fail;rw[<-Hwb.out];refine cI.mono ?_;rintro e w1 ⟨rfl,hE1⟩;have hb1:=hb w1 hE1;go_wp2_with fail;refine (cS _ hE1).mono ?_;rintro e w2 ⟨rfl,hE2⟩;go_wp2_with fail;go_ret;exact⟨j5 Hv.out.symm,hE0.trans (hE1.trans hE2)⟩
noncomputable def sidP (l:List Int) (b:Nat):Bool:=sidB l b
def lgB(l:List Int)(m:Nat):Bool:=j1 l&&decide (ord l<=m)
def lgV(P:Nat->Bool)(l:List Int)(m:Nat):Nat:=if lgB l m then fsS P (ord l) (ord l+1) 0 0 else 0
theorem b60{P:Nat->Bool}{l:List Int}{m:Nat}(h:lgB l m=false):lgV P l m=0:=by unfold lgV;rw[h];rfl
theorem br7{P:Nat->Bool}{l:List Int}{m:Nat}(h:lgB l m=true):lgV P l m=fsS P (ord l) (ord l+1) 0 0:=by unfold lgV;rw[h];rfl
theorem zz7{P:Prop}(h:P:=by have Hn:Hid (H5 P (ord l) f b n fr s (k+1)=fsI P (ord l) f (b ||| 2 ^ k) (n+1) (k+1) z):=zh (by rw[cx3 hlt hk1 hP,hz]);have hcP:=fun W (hW:Ext wr W)=>HP W (b ||| 2 ^ k) (hEr.trans hW) hbk;rw[hP] at hcP;have hcR:=fun W (hE:Ext wr W)=>Hih.out (b ||| 2 ^ k) (n+1) (k+1) W z c' om om hbk om hb1 hb2 (hEr.trans hE) (HB.out.ext hE) (HS.out.ext hE) (HC.out.ext hE) (hTr.ext hE);rw[show ((n+1:Nat):Int)=(n:Int)+1 by omega,show ((k+1:Nat):Int)=(k:Int)+1 by omega] at hcR;have kt:∀W,Ext wr W->W.cell? ⟨bT,0,none⟩=some (.func (.func 313) #[] #[.pointer (some ⟨bC,0,none⟩),.pointer (some ⟨bS,0,none⟩),.pointer (some ⟨bB,0,none⟩),.pointer (some ⟨bG,0,none⟩),.pointer (some ⟨bI,0,none⟩),.pointer (some ⟨bT,0,none⟩)]):=fun W hW=>(hTr.ext hW).cell (i:=0) rfl;clear hz hP;go_wp2_with (first | (go_at_call 99;refine (p7 _ _ _ (HI.out _ hEr) Hgr).mono ?_;rintro e1 w1 ⟨rfl,hE1⟩;have hE01:=hEr.trans hE1) | (with_reducible refine Calls.mono (hcP _ hE1) ?_;rintro e2 w2 ⟨rfl,hE2⟩;have hE12:=hE1.trans hE2) | (go_at_call 313;refine (hcR _ hE12).mono ?_;rintro e3 w3 ⟨rfl,c3,hB3,hS3',hC3,hF3,hb3,hb4⟩));go_roundw;(case rel=>exact⟨k+1,c3,om,om,zg,by rw[Hn.out];exact hB3,by rw[Hn.out];exact hS3',hC3,HFw.out.trans ((hE12.fw _).trans hF3),by rw[Hn.out];exact hb3,by rw[Hn.out];exact hb4⟩);case measure=>exact zm1):P:=h
theorem zz23{P:Prop}(h:P:=by have Hn:Hid (H5 P (ord l) f b n fr s (k+1)=z):=zh (by rw[da3 hP,hz]);have hcP:=fun W (hW:Ext wr W)=>HP W (b ||| 2 ^ k) (hEr.trans hW) hbk;rw[hP] at hcP;clear hz hP;go_wp2_with (first | (go_at_call 99;refine (p7 _ _ _ (HI.out _ hEr) Hgr).mono ?_;rintro e1 w1 ⟨rfl,hE1⟩;have hE01:=hEr.trans hE1) | (with_reducible refine Calls.mono (hcP _ hE1) ?_;rintro e2 w2 ⟨rfl,hE2⟩;have hE12:=hE1.trans hE2));go_roundw;(case rel=>exact⟨k+1,c',om,om,zg,by rw[Hn.out];exact HB.out.ext hE12,by rw[Hn.out];exact HS.out.ext hE12,HC.out.ext hE12,HFw.out.trans (hE12.fw _),by rw[Hn.out];exact hb1,by rw[Hn.out];exact hb2⟩);case measure=>exact zm1):P:=h
theorem zz43{P:Prop}(h:P:=by have hkl:k=ord l:=(by omega);have Hn:Hid (fsI P (ord l) (f+1) b n fr s=z):=zh (by rw[dp9 hob.2,hz,hkl]);clear hz;go_wp2_with (go_at_call 99;refine (p7 _ _ _ (HI.out _ hEr) Hgr).mono ?_;rintro e1 w1 ⟨rfl,hE1⟩;have hE01:=hEr.trans hE1);go_end0;exact⟨rfl,c',by rw[Hn.out];exact HB.out.ext hE1,by rw[Hn.out];exact HS.out.ext hE1,HC.out.ext hE1,HFw.out.trans (hE1.fw _),by rw[Hn.out];exact hb1,by rw[Hn.out];exact hb2⟩):P:=h
theorem du7{fid:FuncId}(HEn:∀args W,(callFunc fid args).run Tryz.prog W=.ok (.enter fid args) W)(v:Value)(l:List Int)(P:Nat->Bool)(Hgr:Hid (j1 l=true))(W0:World)(bC bS bB bG bI bT:Nat)(hCS:bC≠bS)(hCB:bC≠bB)(hSB:bS≠bB)(hTC:bT≠bC)(hTS:bT≠bS)(hTB:bT≠bB)(h0C:W0.heap.size<=bC)(h0S:W0.heap.size<=bS)(h0B:W0.heap.size<=bB)
 (p1 p2:Value) (HG:∀W,Ext W0 W->W.cell? ⟨bG,0,none⟩=some v) (HF:∀W,Ext W0 W->W.cell? ⟨bI,0,none⟩=some (.func (.func fid) #[] #[p1])) (HI:Hid (∀W,Ext W0 W->c9 W v l))
 (HP:∀W b,Ext W0 W->b<2 ^ 24->Calls Tryz.prog fid #[.int .i64 (b:Nat),p1] W fun e w'=>e=.returned (.bool (P b))∧Ext W w') :
 ∀(f b n fr:Nat) (w:World) (s:Nat × Int) (c:Int),ord l<fr+f->fr<=ord l->b<2 ^ 24->n<=fr -> -1<=s.2->s.2<=24->Ext W0 w->Blk w bB 3 #[.int .i64 s.1]->Blk w bS 3 #[.int .i64 s.2]->Blk w bC 3 #[.int .i64 c] ->
 Blk w bT 162 #[.func (.func 313) #[] #[.pointer (some ⟨bC,0,none⟩),.pointer (some ⟨bS,0,none⟩),.pointer (some ⟨bB,0,none⟩),.pointer (some ⟨bG,0,none⟩),.pointer (some ⟨bI,0,none⟩),.pointer (some ⟨bT,0,none⟩)]] ->
 Calls Tryz.prog 313 #[.int .i64 b,.int .i64 n,.int .i64 fr,.pointer (some ⟨bC,0,none⟩),.pointer (some ⟨bS,0,none⟩),.pointer (some ⟨bB,0,none⟩),.pointer (some ⟨bG,0,none⟩),.pointer (some ⟨bI,0,none⟩),.pointer (some ⟨bT,0,none⟩)] w fun e w' =>
  e=.returned (.tuple #[])∧∃c',Blk w' bB 3 #[.int .i64 (fsI P (ord l) f b n fr s).1]∧Blk w' bS 3 #[.int .i64 (fsI P (ord l) f b n fr s).2]∧Blk w' bC 3 #[.int .i64 c']∧Fw (S3 bC bS bB) w w' ∧ -1<=(fsI P (ord l) f b n fr s).2∧(fsI P (ord l) f b n fr s).2<=24:=by
 intro f
 induction f with
 | zero=>intro b n fr w s c hf hfr;omega
 | succ f ih =>
  intro b n fr w s c hf hfr hb24 hn hs1 hs2 hE0 hB hS hC hT
  have hob:=m8 Hgr.out
  have Hih:=zh ih
  clear ih
  obtain⟨c1,hc1⟩:=nq (wrap64 (c+1))
  have kc:=hC.cell (i:=0) (v:=.int .i64 c) rfl
  have fc:=hC.free 0
  have B1:Blk (w.setCell ⟨bC,0,none⟩ (.int .i64 (wrap64 (c+1)))) bB 3 #[.int .i64 s.1]:=hB.other (by simpa using hCB.symm) _
  have S1:Blk (w.setCell ⟨bC,0,none⟩ (.int .i64 (wrap64 (c+1)))) bS 3 #[.int .i64 s.2]:=hS.other (by simpa using hCS.symm) _
  have C1:Blk (w.setCell ⟨bC,0,none⟩ (.int .i64 (wrap64 (c+1)))) bC 3 #[.int .i64 (wrap64 (c+1))]:=hC.set 0 _
  have F1:Fw (S3 bC bS bB) w (w.setCell ⟨bC,0,none⟩ (.int .i64 (wrap64 (c+1)))):=cl5 (Or.inl rfl) w 0 _
  have ks1:=S1.cell (i:=0) (v:=.int .i64 s.2) rfl
  have kb1:=B1.cell (i:=0) (v:=.int .i64 s.1) rfl
  have fb1:=B1.free 0
  have hS3:∀k,S3 bC bS bB k->W0.heap.size<=k:=by rintro k (rfl | rfl | rfl)<;>assumption
  have hT3:¬S3 bC bS bB bT:=by rintro (h | h | h)<;>contradiction
  by_cases hq:s.2<(n:Int)
  . have B2:Blk ((w.setCell ⟨bC,0,none⟩ (.int .i64 (wrap64 (c+1)))).setCell ⟨bB,0,none⟩ (.int .i64 b)) bB 3 #[.int .i64 b]:=B1.set 0 _
    have S2:Blk ((w.setCell ⟨bC,0,none⟩ (.int .i64 (wrap64 (c+1)))).setCell ⟨bB,0,none⟩ (.int .i64 b)) bS 3 #[.int .i64 s.2]:=S1.other (by simpa using hSB) _
    have C2:Blk ((w.setCell ⟨bC,0,none⟩ (.int .i64 (wrap64 (c+1)))).setCell ⟨bB,0,none⟩ (.int .i64 b)) bC 3 #[.int .i64 (wrap64 (c+1))]:=C1.other (by simpa using hCB) _
    have ks2:=S2.cell (i:=0) (v:=.int .i64 s.2) rfl
    have fs2:=S2.free 0
    have s0:=cb6 (P:=P) (N:=ord l) (f:=f) (b:=b) (n:=n) (fr:=fr) (s:=s)
    rw[if_pos hq] at s0
    have HB0:Hid (Blk (((w.setCell ⟨bC,0,none⟩ (.int .i64 (wrap64 (c+1)))).setCell ⟨bB,0,none⟩ (.int .i64 b)).setCell ⟨bS,0,none⟩ (.int .i64 n)) bB 3 #[.int .i64 (H5 P (ord l) f b n fr s fr).1]):=zh (by rw[s0];exact B2.other (by simpa using hSB.symm) _)
    have HS0:Hid (Blk (((w.setCell ⟨bC,0,none⟩ (.int .i64 (wrap64 (c+1)))).setCell ⟨bB,0,none⟩ (.int .i64 b)).setCell ⟨bS,0,none⟩ (.int .i64 n)) bS 3 #[.int .i64 (H5 P (ord l) f b n fr s fr).2]):=zh (by rw[s0];exact S2.set 0 _)
    have HC0:Hid (Blk (((w.setCell ⟨bC,0,none⟩ (.int .i64 (wrap64 (c+1)))).setCell ⟨bB,0,none⟩ (.int .i64 b)).setCell ⟨bS,0,none⟩ (.int .i64 n)) bC 3 #[.int .i64 (wrap64 (c+1))]):=zh (C2.other (by simpa using hCS) _)
    have HF0:Hid (Fw (S3 bC bS bB) w (((w.setCell ⟨bC,0,none⟩ (.int .i64 (wrap64 (c+1)))).setCell ⟨bB,0,none⟩ (.int .i64 b)).setCell ⟨bS,0,none⟩ (.int .i64 n))):=zh ((F1.trans (cl5 (Or.inr (Or.inr rfl)) _ 0 _)).trans (cl5 (Or.inr (Or.inl rfl)) _ 0 _))
    have Hb0:Hid (-1<=(H5 P (ord l) f b n fr s fr).2∧(H5 P (ord l) f b n fr s fr).2<=24):=zh (by rw[s0];simp only;omega)
    clear s0 B1 S1 C1 F1 B2 S2 C2 hB hS hC hc1
    go_in
    go_wp2_with fail
    clear kc fc ks1 kb1 fb1 ks2 fs2 hq
    go_loopw [12] (fun xv wr=>∃(k:Nat) (c':Int),fr<=k∧k<=ord l∧xv=.int .i64 k∧Blk wr bB 3 #[.int .i64 (H5 P (ord l) f b n fr s k).1]∧Blk wr bS 3 #[.int .i64 (H5 P (ord l) f b n fr s k).2]∧Blk wr bC 3 #[.int .i64 c']∧Fw (S3 bC bS bB) w wr ∧ -1<=(H5 P (ord l) f b n fr s k).2∧(H5 P (ord l) f b n fr s k).2<=24) (fun x _=>ord l - (intOf x).toNat)
    case atStart=>exact⟨fr,_,om,om,rfl,HB0.out,HS0.out,HC0.out,HF0.out,Hb0.out.1,Hb0.out.2⟩
    case round =>
     obtain⟨k,c',hk1,hk2,rfl,hB,hS,hC,hF,hb1,hb2⟩:=hrel;clear HB0 HS0 HC0 HF0 Hb0;have hEr:=hF.ext hE0 hS3;have hTr:=hF.blk hT hT3;obtain⟨z,hz⟩:=nq (H5 P (ord l) f b n fr s k);rw[<-hz] at hB hS hb1 hb2;have HB:=zh hB;have HS:=zh hS;have HC:=zh hC;have HFw:=zh hF;clear hB hS hC hF;by_cases hlt:k<ord l
     . have hk24:k<24:=(by omega);have hs1':=p6 (n:=k) om;have hs2':=F6 hb24 hk24;have hbk:b ||| 2 ^ k<2 ^ 24:=Nat.or_lt_two_pow hb24 (Nat.pow_lt_pow_right om hk24)
       cases hP:P (b ||| 2 ^ k)
       . exact zz23
       . exact zz7
     . exact zz43
  . have s0:=cb6 (P:=P) (N:=ord l) (f:=f) (b:=b) (n:=n) (fr:=fr) (s:=s)
    rw[if_neg hq] at s0
    have HB0:Hid (Blk (w.setCell ⟨bC,0,none⟩ (.int .i64 (wrap64 (c+1)))) bB 3 #[.int .i64 (H5 P (ord l) f b n fr s fr).1]):=zh (by rw[s0];exact B1)
    have HS0:Hid (Blk (w.setCell ⟨bC,0,none⟩ (.int .i64 (wrap64 (c+1)))) bS 3 #[.int .i64 (H5 P (ord l) f b n fr s fr).2]):=zh (by rw[s0];exact S1)
    have HC0:=zh C1
    have HF0:=zh F1
    have Hb0:Hid (-1<=(H5 P (ord l) f b n fr s fr).2∧(H5 P (ord l) f b n fr s fr).2<=24):=zh (by rw[s0];exact⟨hs1,hs2⟩)
    clear s0 B1 S1 C1 F1 hB hS hC hc1
    go_in
    go_wp2_with fail
    clear kc fc ks1 kb1 fb1 hq
    go_loopw [12] (fun xv wr=>∃(k:Nat) (c':Int),fr<=k∧k<=ord l∧xv=.int .i64 k∧Blk wr bB 3 #[.int .i64 (H5 P (ord l) f b n fr s k).1]∧Blk wr bS 3 #[.int .i64 (H5 P (ord l) f b n fr s k).2]∧Blk wr bC 3 #[.int .i64 c']∧Fw (S3 bC bS bB) w wr ∧ -1<=(H5 P (ord l) f b n fr s k).2∧(H5 P (ord l) f b n fr s k).2<=24) (fun x _=>ord l - (intOf x).toNat)
    case atStart=>exact⟨fr,_,om,om,rfl,HB0.out,HS0.out,HC0.out,HF0.out,Hb0.out.1,Hb0.out.2⟩
    case round =>
     obtain⟨k,c',hk1,hk2,rfl,hB,hS,hC,hF,hb1,hb2⟩:=hrel;clear HB0 HS0 HC0 HF0 Hb0;have hEr:=hF.ext hE0 hS3;have hTr:=hF.blk hT hT3;obtain⟨z,hz⟩:=nq (H5 P (ord l) f b n fr s k);rw[<-hz] at hB hS hb1 hb2;have HB:=zh hB;have HS:=zh hS;have HC:=zh hC;have HFw:=zh hF;clear hB hS hC hF;by_cases hlt:k<ord l
     . have hk24:k<24:=(by omega);have hs1':=p6 (n:=k) om;have hs2':=F6 hb24 hk24;have hbk:b ||| 2 ^ k<2 ^ 24:=Nat.or_lt_two_pow hb24 (Nat.pow_lt_pow_right om hk24)
       cases hP:P (b ||| 2 ^ k)
       . exact zz23
       . exact zz7
     . exact zz43
theorem c20{fid:FuncId}(HEn:∀args W,(callFunc fid args).run Tryz.prog W=.ok (.enter fid args) W)(v:Value)(l:List Int)(P:Nat->Bool)(Hgr:Hid (j1 l=true))(w:World)(h:c9 w v l)(p1 p2:Value)
 (HP:∀W b,Ext w W->b<2 ^ 24->Calls Tryz.prog fid #[.int .i64 (b:Nat),p1] W fun e w'=>e=.returned (.bool (P b))∧Ext W w') :
 Calls Tryz.prog 249 #[.agg #[v],.func (.func fid) #[] #[p1]] w fun e w'=>∃c,e=.returned (.tuple #[.int .i64 (fsS P (ord l) (ord l+1) 0 0:Nat),.int .i64 c])∧Ext w w':=by
 have hob:=m8 Hgr.out;have hmf:∀(fn:Fn) (first cap:Array Value) (w:World),(Instr.makeFunc fn first cap).run Tryz.prog w=.ok (.func fn first cap) w:=fun _ _ _ _=>rfl;have He:=zh (jq2 P (ord l) hob.2 (ord l+1) 0 0 (0,-1) zm om);have HH:=zh h;have HPP:=zh HP;clear h HP;go_in;go_wp2_with fail;obtain⟨w1,h1⟩:=nq (w.alloc (.cells #[v] 28));obtain⟨w2,h2⟩:=nq (w1.alloc (.cells #[.func (.func fid) #[] #[p1]] 127));obtain⟨w3,h3⟩:=nq (w2.alloc (.cells #[.int .i64 0] 3));obtain⟨w4,h4⟩:=nq (w3.alloc (.cells #[.int .i64 (-1)] 3));obtain⟨w5,h5⟩:=nq (w4.alloc (.cells #[.int .i64 0] 3));obtain⟨w6,h6⟩:=nq (w5.alloc (.cells #[.func (.func 313) #[] #[.pointer (some ⟨w.heap.size+1+1+1+1,0,none⟩),.pointer (some ⟨w.heap.size+1+1+1,0,none⟩),.pointer (some ⟨w.heap.size+1+1,0,none⟩),.pointer (some ⟨w.heap.size,0,none⟩),.pointer (some ⟨w.heap.size+1,0,none⟩),.pointer (some ⟨w.heap.size+1+1+1+1+1,0,none⟩)]] 162));rw[<-h1,<-h2,<-h3,<-h4,<-h5,<-h6];have s1:w1.heap.size=w.heap.size+1:=by rw[h1];simp
 have s2:w2.heap.size=w.heap.size+1+1:=by rw[h2];simp[s1]
 have s3:w3.heap.size=w.heap.size+1+1+1:=by rw[h3];simp[s2]
 have s4:w4.heap.size=w.heap.size+1+1+1+1:=by rw[h4];simp[s3]
 have s5:w5.heap.size=w.heap.size+1+1+1+1+1:=by rw[h5];simp[s4]
 have e01:Ext w w1:=by rw[h1];exact (er _).alloc _
 have e12:Ext w1 w2:=by rw[h2];exact (er _).alloc _
 have e23:Ext w2 w3:=by rw[h3];exact (er _).alloc _
 have e34:Ext w3 w4:=by rw[h4];exact (er _).alloc _
 have e45:Ext w4 w5:=by rw[h5];exact (er _).alloc _
 have e56:Ext w5 w6:=by rw[h6];exact (er _).alloc _
 have B1:Blk w1 w.heap.size 28 #[v]:=by rw[h1];exact Blk.new _ _ _
 have B2:Blk w2 (w.heap.size+1) 127 #[.func (.func fid) #[] #[p1]]:=by rw[h2,<-s1];exact Blk.new _ _ _
 have B3:Blk w3 (w.heap.size+1+1) 3 #[.int .i64 ((0:Nat):Int)]:=by rw[h3,<-s2];exact Blk.new _ _ _
 have B4:Blk w4 (w.heap.size+1+1+1) 3 #[.int .i64 (-1)]:=by rw[h4,<-s3];exact Blk.new _ _ _
 have B5:Blk w5 (w.heap.size+1+1+1+1) 3 #[.int .i64 0]:=by rw[h5,<-s4];exact Blk.new _ _ _
 have B6:Blk w6 (w.heap.size+1+1+1+1+1) 162 #[.func (.func 313) #[] #[.pointer (some ⟨w.heap.size+1+1+1+1,0,none⟩),.pointer (some ⟨w.heap.size+1+1+1,0,none⟩),.pointer (some ⟨w.heap.size+1+1,0,none⟩),.pointer (some ⟨w.heap.size,0,none⟩),.pointer (some ⟨w.heap.size+1,0,none⟩),.pointer (some ⟨w.heap.size+1+1+1+1+1,0,none⟩)]]:=by rw[h6,<-s5];exact Blk.new _ _ _
 have e02:=e01.trans e12;have e26:=e23.trans (e34.trans (e45.trans e56));refine (du7 HEn v l P Hgr w2 (w.heap.size+1+1+1+1) (w.heap.size+1+1+1) (w.heap.size+1+1) w.heap.size (w.heap.size+1) (w.heap.size+1+1+1+1+1) om om om om om om om om om p1 p2 (fun W hW=>((B1.ext e12).ext hW).cell (i:=0) rfl) (fun W hW=>(B2.ext hW).cell (i:=0) rfl) (zh fun W hW=>HH.out.ext (e02.trans hW)) (fun W b hW hb=>HPP.out W b (e02.trans hW) hb) (ord l+1) 0 0 0 w6 (0,-1) 0 om om (by decide) om zm zm e26 (B3.ext (e34.trans (e45.trans e56))) (B4.ext (e45.trans e56)) (B5.ext e56) B6).mono ?_;rintro e w7 ⟨rfl,c7,hB7,hS7,hC7,hF7,-,-⟩;have hc0:(cnt 0)=0:=W7;have hfin:(fsI P (ord l) (ord l+1) 0 0 0 (0,-1)).1=fsS P (ord l) (ord l+1) 0 0:=by
  have:=He.out;rw[hc0] at this;rw[this,if_pos (by show (-1:Int)<_;omega)]
 rw[hfin] at hB7;have hx7:=hB7.cell (i:=0) (v:=.int .i64 (fsS P (ord l) (ord l+1) 0 0:Nat)) rfl;have hy7:=hC7.cell (i:=0) (v:=.int .i64 c7) rfl;have hE7:Ext w w7:=hF7.ext (e02.trans e26) (by rintro k (rfl | rfl | rfl)<;>omega);have kx:=fun U=>cr2 hx7 _ (d5 w7 U);have ky:=fun U=>cr2 hy7 _ (d5 w7 U);have hE:=er w7;clear hfin hc0 hx7 hy7 s1 s2 s3 s4 s5;go_wp2_with fail;(refine wl hE ?_);(repeat (go_big_quiet_step (first | fail)));(refine zd ?_);(clear hE);(intro W hE);go_wp2_with fail;exact bodyPost_ret (v:=.tuple #[.int .i64 (fsS P (ord l) (ord l+1) 0 0:Nat),.int .i64 c7]) (by simp[results,Tryz.results249,go_sem]) rfl ⟨_,rfl,hE7.trans hE⟩
theorem zz88{P:Prop}(h:P:=by clear hG h;go_in;go_wp2_with fail;refine hc.mono ?_;rintro e w1 ⟨rfl,hE1⟩;go_wp2_with fail;go_ret;exact⟨rfl,hE1⟩):P:=h
theorem jn5(v:Value)(l:List Int)(b bG:Nat)(w:World)(hG:∀W,Ext w W->W.cell? ⟨bG,0,none⟩=some v)(h:c9 w v l) :
 Calls Tryz.prog 250 #[.int .i64 b,.pointer (some ⟨bG,0,none⟩)] w fun e w'=>e=.returned (.bool (M3 l b))∧Ext w w':=by
 have kG:=hG _ (er w);have hc:=by2 v l (b:Int) w h;exact zz88
theorem c02(v:Value)(l:List Int)(w:World)(h:c9 w v l) :
 Calls Tryz.prog 142 #[.agg #[v]] w fun e w'=>e=.returned (.tuple #[.int .i64 (lgV (M3 l) l 16:Nat),.bool (lgB l 16)])∧Ext w w':=by
 obtain⟨wb,Hwb,hE0,hb,hg,hE,Hsz⟩:=ju3 28 h;clear h;have hbx:=hb wb hE;have hmf:∀(fn:Fn) (first cap:Array Value) (w:World),(Instr.makeFunc fn first cap).run Tryz.prog w=.ok (.func fn first cap) w:=fun _ _ _ _=>rfl;have cG:=A1 v l wb (hg _ hE);cases hgr:j1 l
 . have hB:lgB l 16=false:=(by unfold lgB;rw[hgr];rfl);have Hs:=zh (And.intro hB (b60 (P:=M3 l) hB));rw[hgr] at cG;clear hB;go_in;go_wp2_with fail;rw[<-Hwb.out];refine cG.mono ?_;rintro e w1 ⟨rfl,hE1⟩;go_wp2_with fail;exact bodyPost_ret (v:=.tuple #[.int .i64 0,.bool false]) (by simp[results,Tryz.results142,go_sem]) rfl ⟨by rw[Hs.out.1,Hs.out.2];rfl,hE0.trans hE1⟩
 rw[hgr] at cG;have Hgr:=zh hgr;have hob:=m8 hgr;have cO:=fun W (hW:Ext wb W)=>p7 v l W (hg _ hW) Hgr;by_cases hm:ord l<=16;rotate_left
 . have hB:lgB l 16=false:=(by unfold lgB;rw[hgr];simpa using hm);have Hs:=zh (And.intro hB (b60 (P:=M3 l) hB));clear hB;go_in;go_wp2_with fail;rw[<-Hwb.out];refine cG.mono ?_;rintro e w1 ⟨rfl,hE1⟩;have hb1:=hb w1 hE1;go_wp2_with (refine (cO _ hE1).mono ?_;rintro e w2 ⟨rfl,hE2⟩);exact bodyPost_ret (v:=.tuple #[.int .i64 0,.bool false]) (by simp[results,Tryz.results142,go_sem]) rfl ⟨by rw[Hs.out.1,Hs.out.2];rfl,hE0.trans (hE1.trans hE2)⟩
 have hB:lgB l 16=true:=by unfold lgB;rw[hgr];simpa using hm
 have Hs:=zh (And.intro hB (br7 (P:=M3 l) hB));have cF:=fun W (hW:Ext wb W)=>c20 (d92 Tryz.func250 (by kernel_rfl) rfl) v l (M3 l) Hgr W (hg W hW) (.pointer (some ⟨w.heap.size,0,none⟩)) (.pointer none) (fun W' b hW' hb'=>jn5 v l b w.heap.size W' (fun X hX=>hb X (hW.trans (hW'.trans hX))) (hg W' (hW.trans hW')));obtain⟨R,hR⟩:=nq (fsS (M3 l) (ord l) (ord l+1) 0 0);rw[<-hR] at cF Hs;clear hB hgr hR;go_in;go_wp2_with fail;rw[<-Hwb.out];refine cG.mono ?_;rintro e w1 ⟨rfl,hE1⟩;have hb1:=hb w1 hE1;go_wp2_with (go_at_call 99;refine (cO _ hE1).mono ?_;rintro e w2 ⟨rfl,hE2⟩;have hE12:=hE1.trans hE2;have hb2:=hb w2 hE12);refine (cF _ hE12).mono ?_;rintro e w3 ⟨c,rfl,hE3⟩;go_wp2_with fail;exact bodyPost_ret (v:=.tuple #[.int .i64 R,.bool true]) (by simp[results,Tryz.results142,go_sem]) rfl ⟨by rw[Hs.out.1,Hs.out.2],hE0.trans (hE12.trans hE3)⟩
theorem jn7(v:Value)(l:List Int)(b bG:Nat)(w:World)(hG:∀W,Ext w W->W.cell? ⟨bG,0,none⟩=some v)(h:c9 w v l) :
 Calls Tryz.prog 251 #[.int .i64 b,.pointer (some ⟨bG,0,none⟩)] w fun e w'=>e=.returned (.bool (sidP l b))∧Ext w w':=by
 have kG:=hG _ (er w);have hc:=bo4 v l (b:Int) w h;exact zz88
theorem cd8(v:Value)(l:List Int)(w:World)(h:c9 w v l) :
 Calls Tryz.prog 143 #[.agg #[v]] w fun e w'=>e=.returned (.tuple #[.int .i64 (lgV (sidP l) l 13:Nat),.bool (lgB l 13)])∧Ext w w':=by
 obtain⟨wb,Hwb,hE0,hb,hg,hE,Hsz⟩:=ju3 28 h;clear h;have hbx:=hb wb hE;have hmf:∀(fn:Fn) (first cap:Array Value) (w:World),(Instr.makeFunc fn first cap).run Tryz.prog w=.ok (.func fn first cap) w:=fun _ _ _ _=>rfl;have cG:=A1 v l wb (hg _ hE);cases hgr:j1 l
 . have hB:lgB l 13=false:=(by unfold lgB;rw[hgr];rfl);have Hs:=zh (And.intro hB (b60 (P:=sidP l) hB));rw[hgr] at cG;clear hB;go_in;go_wp2_with fail;rw[<-Hwb.out];refine cG.mono ?_;rintro e w1 ⟨rfl,hE1⟩;go_wp2_with fail;exact bodyPost_ret (v:=.tuple #[.int .i64 0,.bool false]) (by simp[results,Tryz.results143,go_sem]) rfl ⟨by rw[Hs.out.1,Hs.out.2];rfl,hE0.trans hE1⟩
 rw[hgr] at cG;have Hgr:=zh hgr;have hob:=m8 hgr;have cO:=fun W (hW:Ext wb W)=>p7 v l W (hg _ hW) Hgr;by_cases hm:ord l<=13;rotate_left
 . have hB:lgB l 13=false:=(by unfold lgB;rw[hgr];simpa using hm);have Hs:=zh (And.intro hB (b60 (P:=sidP l) hB));clear hB;go_in;go_wp2_with fail;rw[<-Hwb.out];refine cG.mono ?_;rintro e w1 ⟨rfl,hE1⟩;have hb1:=hb w1 hE1;go_wp2_with (refine (cO _ hE1).mono ?_;rintro e w2 ⟨rfl,hE2⟩);exact bodyPost_ret (v:=.tuple #[.int .i64 0,.bool false]) (by simp[results,Tryz.results143,go_sem]) rfl ⟨by rw[Hs.out.1,Hs.out.2];rfl,hE0.trans (hE1.trans hE2)⟩
 have hB:lgB l 13=true:=by unfold lgB;rw[hgr];simpa using hm
 have Hs:=zh (And.intro hB (br7 (P:=sidP l) hB));have cF:=fun W (hW:Ext wb W)=>c20 (d92 Tryz.func251 (by kernel_rfl) rfl) v l (sidP l) Hgr W (hg W hW) (.pointer (some ⟨w.heap.size,0,none⟩)) (.pointer none) (fun W' b hW' hb'=>jn7 v l b w.heap.size W' (fun X hX=>hb X (hW.trans (hW'.trans hX))) (hg W' (hW.trans hW')));obtain⟨R,hR⟩:=nq (fsS (sidP l) (ord l) (ord l+1) 0 0);rw[<-hR] at cF Hs;clear hB hgr hR;go_in;go_wp2_with fail;rw[<-Hwb.out];refine cG.mono ?_;rintro e w1 ⟨rfl,hE1⟩;have hb1:=hb w1 hE1;go_wp2_with (go_at_call 99;refine (cO _ hE1).mono ?_;rintro e w2 ⟨rfl,hE2⟩;have hE12:=hE1.trans hE2;have hb2:=hb w2 hE12);refine (cF _ hE12).mono ?_;rintro e w3 ⟨c,rfl,hE3⟩;go_wp2_with fail;exact bodyPost_ret (v:=.tuple #[.int .i64 R,.bool true]) (by simp[results,Tryz.results143,go_sem]) rfl ⟨by rw[Hs.out.1,Hs.out.2],hE0.trans (hE12.trans hE3)⟩
end Go.Zz
