/- HasPeriodicFactor of both. -/
import Derived.Test.YtnnbhcalddkmmaaGreatLsT
import Derived.Test.YtnnbhcalddkmmaaGreatGr27
set_option linter.unusedSimpArgs false
set_option linter.unusedVariables false
set_option linter.unnecessarySimpa false
set_option maxHeartbeats 4000000
set_option maxRecDepth 20000
namespace Go.Zz
open Go.RowKit Go.Proofs
def hpF(l:List Int)(a b:Int):Bool:=b74 l a b&&(K4 l a || K4 l b)
theorem bq2(v:Value)(l:List Int)(a b:Int)(w:World)(h:c9 w v l) :
 Calls Tryz.prog 147 #[.agg #[v],.int .i64 a,.int .i64 b] w fun e w'=>e=.returned (.bool (hpF l a b))∧Ext w w':=by
 obtain⟨wb,Hwb,hE0,hb,hg,hE,Hsz⟩:=ju3 28 h;clear h;have kb:=hb _ hE;have cT:=fun W (hW:Ext wb W)=>c01 v l a b W (hg _ hW);have cP:=fun W (hW:Ext wb W)=>bb0 v l a W (hg _ hW);have cQ:=fun W (hW:Ext wb W)=>bb0 v l b W (hg _ hW);have Hs:Hid (hpF l a b=(b74 l a b&&(K4 l a || K4 l b))):=zh rfl;obtain⟨t,ht⟩:=nq (b74 l a b);obtain⟨p,hp⟩:=nq (K4 l a);obtain⟨q,hq⟩:=nq (K4 l b);rw[<-ht] at cT Hs;rw[<-hp] at cP Hs;rw[<-hq] at cQ Hs;clear ht hp hq;cases t<;>cases p<;>cases q;all_goals
  go_in
  go_wp2_with fail
  rw[<-Hwb.out]
  go_wp2_with (first | (go_at_call 123;refine (cT _ hE).mono ?_;rintro e w1 ⟨rfl,hE1⟩;replace hE:=hE.trans hE1;have kb1:=hb _ hE) | (go_at_call 217;(first | with_reducible refine Calls.mono (cP _ hE) ?_ | with_reducible refine Calls.mono (cQ _ hE) ?_);rintro e w2 ⟨rfl,hE2⟩;replace hE:=hE.trans hE2;have kb2:=hb _ hE))
  go_ret
  exact⟨j5 Hs.out.symm,hE0.trans hE⟩
theorem bp6(v:Value)(l:List Int)(a b:Int)(w:World)(h:c9 w v l) :
 Calls Tryz.prog 82 #[.agg #[v],.int .i64 a,.int .i64 b] w fun e w'=>e=.returned (.bool (hpF l a b))∧Ext w w':=by
 obtain⟨wb,Hwb,hE0,hb,hg,hE,Hsz⟩:=ju3 28 h;clear h;have kb:=hb _ hE;have cT:=fun W (hW:Ext wb W)=>by5 v l a b W (hg _ hW);have cP:=fun W (hW:Ext wb W)=>ba5 v l a W (hg _ hW);have cQ:=fun W (hW:Ext wb W)=>ba5 v l b W (hg _ hW);have Hs:Hid (hpF l a b=(b74 l a b&&(K4 l a || K4 l b))):=zh rfl;obtain⟨t,ht⟩:=nq (b74 l a b);obtain⟨p,hp⟩:=nq (K4 l a);obtain⟨q,hq⟩:=nq (K4 l b);rw[<-ht] at cT Hs;rw[<-hp] at cP Hs;rw[<-hq] at cQ Hs;clear ht hp hq;cases t<;>cases p<;>cases q;all_goals
  go_in
  go_wp2_with fail
  rw[<-Hwb.out]
  go_wp2_with (first | (go_at_call 80;refine (cT _ hE).mono ?_;rintro e w1 ⟨rfl,hE1⟩;replace hE:=hE.trans hE1;have kb1:=hb _ hE) | (go_at_call 186;(first | with_reducible refine Calls.mono (cP _ hE) ?_ | with_reducible refine Calls.mono (cQ _ hE) ?_);rintro e w2 ⟨rfl,hE2⟩;replace hE:=hE.trans hE2;have kb2:=hb _ hE))
  go_ret
  exact⟨j5 Hs.out.symm,hE0.trans hE⟩
theorem j71(l:List Int)(a:Int):tlN l a<=200:=by
 cases h:B9 l a
 . rw[c65 h];omega
 . obtain⟨n,rfl,-⟩:=cm1 h;rw[cu9 h];exact bh5 _ _ _ _ _ _ om
theorem dc8(l:List Int)(a:Int) : -1<=U1 l a∧U1 l a<=50:=by
 cases h:j4 l a
 . rw[cg6 h];omega
 . obtain⟨n,rfl,h1,h2,hg⟩:=o4 h;by_cases h0:n=0
   . subst h0;have:U1 l ((0:Nat):Int) = -1:=bw8 l;rw[this];omega
   . rw[c35 h om];have hb1:=m8 hg;have hb2:=R6 om h2;have hb3:=r9 n;have e1:0<=((ord l:Int)+cnt n - 1) / (cnt n:Int):=Int.ediv_nonneg om om;have e2:((ord l:Int)+cnt n - 1) / (cnt n:Int)<=(ord l:Int)+cnt n - 1:=Int.ediv_le_self _ om;omega
def cv0(A B C D:ByteArray)(fb pf:Bool):ByteArray:=(((((if fb then ((((⟨#[116,105,108,101,115,32]⟩:ByteArray)++A)++(⟨#[32,102,105,114,115,116,32]⟩:ByteArray))++B)++(if pf then (⟨#[32,112,101,114,105,111,100,105,99]⟩:ByteArray) else ⟨#[]⟩) else ((⟨#[116,105,108,101,115,32]⟩:ByteArray)++A))++(⟨#[32,103,114,101,101,100,121,32]⟩:ByteArray))++C)++(⟨#[32,108,101,97,115,116,32]⟩:ByteArray))++D)
def c66(l:List Int)(a:Int):ByteArray :=
 if B9 l a then
  cv0 (o3 (tlN l a:Nat)) (fsF l (ftV l a)) (fsF l (R7 l a)) (o3 (U1 l a)) (ftB l a) (hpF l a (ftV l a))
 else ⟨#[]⟩
theorem j74{l:List Int}{a:Int}(h:B9 l a=false):c66 l a=⟨#[]⟩:=by unfold c66;rw[h];rfl
theorem dt1{l:List Int}{a:Int}(h:B9 l a=true):c66 l a=cv0 (o3 (tlN l a:Nat)) (fsF l (ftV l a)) (fsF l (R7 l a)) (o3 (U1 l a)) (ftB l a) (hpF l a (ftV l a)):=by
 unfold c66;rw[if_pos h]
theorem jg3(A B C D:ByteArray)(fb pf:Bool):C9 [(if fb&&pf then C9 [(if fb then C9 [C9 [(⟨#[116,105,108,101,115]⟩:ByteArray),A],(⟨#[102,105,114,115,116]⟩:ByteArray),B] else C9 [(⟨#[116,105,108,101,115]⟩:ByteArray),A]),(⟨#[112,101,114,105,111,100,105,99]⟩:ByteArray)] else (if fb then C9 [C9 [(⟨#[116,105,108,101,115]⟩:ByteArray),A],(⟨#[102,105,114,115,116]⟩:ByteArray),B] else C9 [(⟨#[116,105,108,101,115]⟩:ByteArray),A])),(⟨#[103,114,101,101,100,121]⟩:ByteArray),C,(⟨#[108,101,97,115,116]⟩:ByteArray),D]=cv0 A B C D fb pf:=by
 unfold cv0;apply Y0;cases fb<;>cases pf<;>simp[C9,jn,C0,spB,List.getD]
theorem zz60{P:Prop}(h:P:=by go_ret;exact⟨j9 Hs.out.symm,hE0.trans hE1⟩):P:=h
theorem d50(v:Value)(l:List Int)(a:Int)(w:World)(h:c9 w v l) :
 Calls Tryz.prog 34 #[.agg #[v],.int .i64 a] w fun e w'=>e=.returned (.string (c66 l a))∧Ext w w':=by
 obtain⟨wb,Hwb,hE0,hb,hg,hE,Hsz⟩:=ju3 28 h;clear h;have cT:=di7 v l a wb (hg _ hE);have hbx:=hb wb hE;cases ho:B9 l a
 . have Hs:=zh (j74 ho);rw[ho] at cT;go_in;go_wp2_with fail;rw[<-Hwb.out];refine cT.mono ?_;rintro e w1 ⟨vT,L,rfl,hI,-,hE1⟩;obtain⟨aT,kT,rfl,-⟩:=hI;go_wp2_with fail;exact zz60
 have Hs:=zh (dt1 ho);rw[ho] at cT;have hN:=j71 l a;have hM:=dc8 l a;have sA:=o9 (n:=((tlN l a:Nat):Int)) om;have sB:=bb5 l (ftV l a);have sC:=bb5 l (R7 l a);have sD:=o9 (n:=U1 l a) om;have cA:=fun W=>A4 ((tlN l a:Nat):Int) om W;have cB:=fun W (hW:Ext wb W)=>K7 v l (ftV l a) W (hg W hW);have cC:=fun W (hW:Ext wb W)=>K7 v l (R7 l a) W (hg W hW);have cD:=fun W=>A4 (U1 l a) om W;have cF:=fun W (hW:Ext wb W)=>d43 v l a W (hg W hW);have cG:=fun W (hW:Ext wb W)=>bt9 v l a W (hg W hW);have cM:=fun W (hW:Ext wb W)=>bh7 v l a W (hg W hW);have cP:=fun W (hW:Ext wb W)=>bq2 v l a (ftV l a) W (hg W hW);obtain⟨A,hA⟩:∃x,x=o3 ((tlN l a:Nat):Int):=⟨_,rfl⟩;obtain⟨B,hB⟩:=nq (fsF l (ftV l a));obtain⟨C,hC⟩:=nq (fsF l (R7 l a));obtain⟨D,hD⟩:=nq (o3 (U1 l a));obtain⟨pf,hpf⟩:=nq (hpF l a (ftV l a));obtain⟨fb,hfb⟩:=nq (ftB l a);rw[<-hA] at cA sA Hs;rw[<-hB] at cB sB Hs;rw[<-hC] at cC sC Hs;rw[<-hD] at cD sD Hs;rw[<-hpf] at cP Hs;rw[<-hfb] at cF Hs;obtain⟨N,hNd⟩:=nq (tlN l a);obtain⟨fv,hfv⟩:=nq (ftV l a);obtain⟨gv,hgv⟩:=nq (R7 l a);obtain⟨mv,hmv⟩:=nq (U1 l a);rw[<-hNd] at cT cA hN;rw[<-hfv] at cB cF cP;rw[<-hgv] at cC cG;rw[<-hmv] at cD cM hM;rw[ho] at cG;clear hA hB hC hD hpf hfb hNd hfv hgv hmv ho;obtain⟨X0,hX0,cL0⟩:=b70 [(⟨#[116,105,108,101,115]⟩:ByteArray),A] (by simp[o8];omega);have z0:X0.size<=100:=hX0 ▸ nle (b14 _) (by simp[G4,o8];omega);simp only[List.map_cons,List.map_nil,List.length_cons,List.length_nil,Nat.reduceAdd,Nat.zero_add] at cL0;obtain⟨X1,hX1,z1,cI1⟩:=J0 X0 fb [(⟨#[102,105,114,115,116]⟩:ByteArray),B] _ z0 (by simp[o8];omega) (by simp[G4,o8];omega);replace z1:X1.size<=800:=nle z1 (by simp[G4,o8];omega);simp only[List.map_cons,List.map_nil,List.length_cons,List.length_nil,Nat.reduceAdd,Nat.zero_add] at cI1;obtain⟨X2,hX2,z2,cI2⟩:=J0 X1 (fb&&pf) [(⟨#[112,101,114,105,111,100,105,99]⟩:ByteArray)] _ z1 (by simp[o8]) (by simp[G4,o8]);replace z2:X2.size<=900:=nle z2 (by simp[G4,o8]);simp only[List.map_cons,List.map_nil,List.length_cons,List.length_nil,Nat.reduceAdd,Nat.zero_add] at cI2;obtain⟨X3,hX3,cL3⟩:=b70 [X2,(⟨#[103,114,101,101,100,121]⟩:ByteArray),C,(⟨#[108,101,97,115,116]⟩:ByteArray),D] (by simp[o8];omega);simp only[List.map_cons,List.map_nil,List.length_cons,List.length_nil,Nat.reduceAdd,Nat.zero_add] at cL3;have Hfin:Hid (c66 l a=X3):=zh (by rw[hX3,hX2,hX1,hX0,Hs.out];exact (jg3 A B C D fb pf).symm);clear hX0 hX1 hX2 hX3 z0 z1 z2 sA sB sC sD;cases fb;all_goals
  try simp only[Bool.true_and,Bool.false_and] at cI2
  go_in
  go_wp2_with fail
  rw[<-Hwb.out]
  refine cT.mono ?_
  rintro e w1 ⟨vT,L,rfl,hI,hL,hE1⟩
  obtain⟨aT,kT,rfl,-⟩:=hI
  rw[hL]
  clear hL cT
  go_wp2_with (first
   | (go_at_call 98;refine (cA _).mono ?_;rintro e w2 ⟨rfl,hE2⟩;have hE02:=hE1.trans hE2)
   | (go_at_call 96;refine (cL0 _).mono ?_;rintro e w3 ⟨rfl,hE3⟩;have hE03:=hE02.trans (Ext.trans ((er _).alloc _) hE3);have kb3:=hb _ hE03)
   | (go_at_call 146;refine (cF _ hE03).mono ?_;rintro e w4 ⟨rfl,hE4⟩;have hE04:=hE03.trans hE4;have kb4:=hb _ hE04)
   | (go_at_call 106;with_reducible refine Calls.mono (cB _ hE04) ?_;rintro e w5 ⟨rfl,hE5⟩;have hE05:=hE04.trans hE5)
   | (go_at_call 102;with_reducible refine Calls.mono (cI1 _) ?_;rintro e w6 ⟨rfl,hE6⟩;have hE06:=hE05.trans (Ext.trans ((er _).alloc _) hE6);have kb6:=hb _ hE06)
   | (go_at_call 147;with_reducible refine Calls.mono (cP _ hE06) ?_;rintro e w7 ⟨rfl,hE7⟩;have hE08:=hE06.trans hE7)
   | (go_at_call 102;with_reducible refine Calls.mono (cI2 _) ?_;rintro e w8 ⟨rfl,hE8⟩;first | (have hE09:=hE08.trans (Ext.trans ((er _).alloc _) hE8);have kb9:=hb _ hE09) | (have hE09:=hE06.trans (Ext.trans ((er _).alloc _) hE8);have kb9:=hb _ hE09))
   | (go_at_call 148;refine (cG _ hE09).mono ?_;rintro e w10 ⟨rfl,hE10⟩;have hE010:=hE09.trans hE10))
  have kb:=fun W (hW:Ext w10 W)=>hb W (hE010.trans hW)
  have hD:=(er w10).drew
  first | (go_region_held3 (fun W=>Ext w10 W∧W.cell? ⟨w.heap.size,0,none⟩=some v) (exact⟨xq,kb _ xq⟩) (first | (go_at_call 106;((with_reducible refine Calls.mono (cC _ (hE010.trans xq)) ?_);rintro e wH ⟨rfl,hX⟩;have hH:=Ext.trans (a:=w10) xq hX)) | (go_at_call 98;((with_reducible refine Calls.mono (cD _) ?_);rintro e wH ⟨rfl,hX⟩;have hH:=Ext.trans (a:=w10) xq hX)) | (go_at_call 149;((with_reducible refine Calls.mono (cM _ (hE010.trans xq)) ?_);rintro e wH ⟨rfl,hX⟩;have hH:=Ext.trans (a:=w10) xq hX)) | (go_at_call 96;((with_reducible refine Calls.mono (cL3 _) ?_);rintro e wL ⟨rfl,hX⟩;have hHL:=Ext.trans (a:=w10) xq hX)))) | (fail "the region")
  all_goals
   go_wp2_with fail
   go_ret
   exact⟨j9 Hfin.out.symm,hE0.trans (hE010.trans hHL)⟩
theorem d36(v:Value)(l:List Int)(a:Int)(w:World)(h:c9 w v l) :
 Calls Tryz.prog 20 #[.agg #[v],.int .i64 a] w fun e w'=>e=.returned (.string (c66 l a))∧Ext w w':=by
 obtain⟨wb,Hwb,hE0,hb,hg,hE,Hsz⟩:=ju3 28 h;clear h;have cT:=df6 v l a wb (hg _ hE);have hbx:=hb wb hE;cases ho:B9 l a
 . have Hs:=zh (j74 ho);rw[ho] at cT;go_in;go_wp2_with fail;rw[<-Hwb.out];refine cT.mono ?_;rintro e w1 ⟨vT,L,rfl,hI,-,hE1⟩;obtain⟨aT,kT,rfl,-⟩:=hI;go_wp2_with fail;exact zz60
 have Hs:=zh (dt1 ho);rw[ho] at cT;have hN:=j71 l a;have hM:=dc8 l a;have sA:=o9 (n:=((tlN l a:Nat):Int)) om;have sB:=bb5 l (ftV l a);have sC:=bb5 l (R7 l a);have sD:=o9 (n:=U1 l a) om;have cA:=fun W=>A2 ((tlN l a:Nat):Int) om W;have cB:=fun W (hW:Ext wb W)=>M8 v l (ftV l a) W (hg W hW);have cC:=fun W (hW:Ext wb W)=>M8 v l (R7 l a) W (hg W hW);have cD:=fun W=>A2 (U1 l a) om W;have cF:=fun W (hW:Ext wb W)=>bf0 v l a W (hg W hW);have cG:=fun W (hW:Ext wb W)=>bs7 v l a W (hg W hW);have cM:=fun W (hW:Ext wb W)=>bf1 v l a W (hg W hW);have cP:=fun W (hW:Ext wb W)=>bp6 v l a (ftV l a) W (hg W hW);obtain⟨A,hA⟩:∃x,x=o3 ((tlN l a:Nat):Int):=⟨_,rfl⟩;obtain⟨B,hB⟩:=nq (fsF l (ftV l a));obtain⟨C,hC⟩:=nq (fsF l (R7 l a));obtain⟨D,hD⟩:=nq (o3 (U1 l a));obtain⟨pf,hpf⟩:=nq (hpF l a (ftV l a));obtain⟨fb,hfb⟩:=nq (ftB l a);rw[<-hA] at cA sA Hs;rw[<-hB] at cB sB Hs;rw[<-hC] at cC sC Hs;rw[<-hD] at cD sD Hs;rw[<-hpf] at cP Hs;rw[<-hfb] at cF Hs;obtain⟨N,hNd⟩:=nq (tlN l a);obtain⟨fv,hfv⟩:=nq (ftV l a);obtain⟨gv,hgv⟩:=nq (R7 l a);obtain⟨mv,hmv⟩:=nq (U1 l a);rw[<-hNd] at cT cA hN;rw[<-hfv] at cB cF cP;rw[<-hgv] at cC cG;rw[<-hmv] at cD cM hM;rw[ho] at cG;clear hA hB hC hD hpf hfb hNd hfv hgv hmv ho;have cY:=fun W=>bh6 pf (⟨#[32,112,101,114,105,111,100,105,99]⟩:ByteArray) W;have zY:(if pf then (⟨#[32,112,101,114,105,111,100,105,99]⟩:ByteArray) else (⟨#[]⟩:ByteArray)).size<=20:=by cases pf<;>decide
 obtain⟨y,hy⟩:∃x,x=(if pf then (⟨#[32,112,101,114,105,111,100,105,99]⟩:ByteArray) else (⟨#[]⟩:ByteArray)):=⟨_,rfl⟩;rw[<-hy] at cY zY;have Hy:=zh hy;clear hy;cases fb;all_goals
  go_in
  go_wp2_with fail
  rw[<-Hwb.out]
  refine cT.mono ?_
  rintro e w1 ⟨vT,L,rfl,hI,hL,hE1⟩
  obtain⟨aT,kT,rfl,-⟩:=hI
  rw[hL]
  clear hL cT
  go_wp2_with (go_at_call 45;refine (cA _).mono ?_;rintro e w2 ⟨rfl,hE2⟩;have hE02:=hE1.trans hE2;have kb2:=hb _ hE02)
  refine (cF _ hE02).mono ?_
  rintro e w4 ⟨rfl,hE4⟩
  have hE04:=hE02.trans hE4
  have kb4:=hb _ hE04
  have kc4:=fun U=>hb _ (hE04.trans (d5 w4 U))
  replace hE:=er w4
  go_wp2_with fail
 . refine (cG _ hE04).mono ?_;rintro e w5 ⟨rfl,hE5⟩;have hE05:=hE04.trans hE5;have kc5:=fun U=>hb _ (hE05.trans (d5 w5 U));replace hE:=er w5;go_wp2_with fail;(refine wl hE ?_);(repeat (go_big_quiet_step (first | (go_at_call 11;with_reducible exact Calls.lat (cC _ (hE05.trans (d5 w5 _)))) | (go_at_call 45;with_reducible exact Calls.lat (cD _)) | (go_at_call 84;with_reducible exact Calls.lat (cM _ (hE05.trans (d5 w5 _)))))));(refine zd ?_);(clear hE);(intro W hE);go_wp2_with fail;go_ret;exact⟨j9 (by rw[Hs.out,cv0];rfl),hE0.trans (hE05.trans hE)⟩
 . (refine wl hE ?_);(repeat (go_big_quiet_step (first | (go_at_call 11;with_reducible exact Calls.lat (cB _ (hE04.trans (d5 w4 _)))) | (go_at_call 82;with_reducible exact Calls.lat (cP _ (hE04.trans (d5 w4 _)))) | (go_at_call 59;with_reducible exact Calls.lat_same (cY _)))));(refine zd ?_);(clear hE);(intro W hE);rename World=>w45;have hE04b:=hE04.trans hE;have kb5:=hb _ hE04b;go_wp2_with fail;refine (cG _ hE04b).mono ?_;rintro e w5 ⟨rfl,hE5⟩;have hE05:=hE04b.trans hE5;have kc5:=fun U=>hb _ (hE05.trans (d5 w5 U));replace hE:=er w5;go_wp2_with fail;(refine wl hE ?_);(repeat (go_big_quiet_step (first | (go_at_call 11;with_reducible exact Calls.lat (cC _ (hE05.trans (d5 w5 _)))) | (go_at_call 45;with_reducible exact Calls.lat (cD _)) | (go_at_call 84;with_reducible exact Calls.lat (cM _ (hE05.trans (d5 w5 _)))))));(refine zd ?_);(clear hE);(intro W hE);go_wp2_with fail;go_ret;exact⟨j9 (by rw[Hs.out,Hy.out,cv0];rfl),hE0.trans (hE05.trans hE)⟩
def caF(l:List Int):Int:=if auB l then (b54 l (ord l ^ l.length):Int) else -1
theorem dz2(l:List Int) : -1<=caF l∧caF l<=729:=by
 unfold caF;cases hn:auB l
 . simp
 . have hh:j1 l=true∧ord l<=9:=(by unfold auB at hn;simpa using hn);have:=nle (cq9 l _) (ch4 hh.2 (C6 hh.1));simp only[if_true];omega
theorem jt7(l:List Int):(if auB l then (L0 l l.length []:Int) else -1)=caF l:=by
 unfold caF;cases hn:auB l
 . rfl
 . have hh:j1 l=true∧ord l<=9:=(by unfold auB at hn;simpa using hn);rw[j91 hh.1 hh.2]
theorem cx1(l:List Int):(fgF l).size<=600:=by
 cases h:j1 l
 . rw[d97 h];decide
 . rw[cr8 h];have:=C6 h;split
   . decide
   . have:=b81 ex (fun i=>o3 (nth l i)) (by decide) l.length fun i hi=>o9 (da9 h i hi);omega
theorem d88{l:List Int}(h:j1 l=true):V3 dvT (Q0 l)<=73:=by
 have h1:=c13 (do8 h);have h2:=(bv6 (Q5 dvT (Q0 l).length (Q0 l) (Q0 l).length) (by rw[h1.1];exact h1.2) (Q0 l).length (by rw[h1.1];exact Nat.le_refl _)).2;have h3:=C6 h;have h4:(Q0 l).length=l.length:=by simp[Q0]
 unfold V3;omega
def cs6(A B C D E F:ByteArray)(b1 b2:Bool):ByteArray:=((if b1 then ((((((((((((⟨#[103,114,111,117,112,32]⟩:ByteArray)++A)++(⟨#[32,111,114,100,101,114,32]⟩:ByteArray))++B)++(⟨#[32,101,120,112,111,110,101,110,116,32]⟩:ByteArray))++C)++(⟨#[32,115,117,98,103,114,111,117,112,115,32]⟩:ByteArray))++D)++(⟨#[32,100,97,118,101,110,112,111,114,116,32]⟩:ByteArray))++E)++(⟨#[32,97,117,116,111,109,111,114,112,104,105,115,109,115,32]⟩:ByteArray))++F) else ((((((((((⟨#[103,114,111,117,112,32]⟩:ByteArray)++A)++(⟨#[32,111,114,100,101,114,32]⟩:ByteArray))++B)++(⟨#[32,101,120,112,111,110,101,110,116,32]⟩:ByteArray))++C)++(⟨#[32,115,117,98,103,114,111,117,112,115,32]⟩:ByteArray))++D)++(⟨#[32,100,97,118,101,110,112,111,114,116,32]⟩:ByteArray))++E))++(if b2 then (⟨#[32,112,114,105,109,101]⟩:ByteArray) else (⟨#[]⟩:ByteArray)))
def bv8(l:List Int):ByteArray :=
 if j1 l then
  cs6 (fgF l) (o3 (ord l:Nat)) (o3 (b55 l:Nat)) (o3 ((sgL l).length:Nat)) (o3 (V3 dvT (Q0 l):Nat)) (o3 (caF l)) (decide (ord l<=9)) (ba3 (ord l))
 else ⟨#[]⟩
theorem j13{l:List Int}(h:j1 l=false):bv8 l=⟨#[]⟩:=by unfold bv8;rw[h];rfl
theorem dq3{l:List Int}(h:j1 l=true):bv8 l=cs6 (fgF l) (o3 (ord l:Nat)) (o3 (b55 l:Nat)) (o3 ((sgL l).length:Nat)) (o3 (V3 dvT (Q0 l):Nat)) (o3 (caF l)) (decide (ord l<=9)) (ba3 (ord l)):=by
 unfold bv8;rw[if_pos h]
theorem da7(A B C D E:ByteArray):C9 [(⟨#[103,114,111,117,112]⟩:ByteArray),A,(⟨#[111,114,100,101,114]⟩:ByteArray),B,(⟨#[101,120,112,111,110,101,110,116]⟩:ByteArray),C,(⟨#[115,117,98,103,114,111,117,112,115]⟩:ByteArray),D,(⟨#[100,97,118,101,110,112,111,114,116]⟩:ByteArray),E]=((((((((((⟨#[103,114,111,117,112,32]⟩:ByteArray)++A)++(⟨#[32,111,114,100,101,114,32]⟩:ByteArray))++B)++(⟨#[32,101,120,112,111,110,101,110,116,32]⟩:ByteArray))++C)++(⟨#[32,115,117,98,103,114,111,117,112,115,32]⟩:ByteArray))++D)++(⟨#[32,100,97,118,101,110,112,111,114,116,32]⟩:ByteArray))++E):=by
 exact zz189
theorem zz10{P:Prop}(h:P:=by have cI1g:=cI1;rw[<-hd9] at cI1g;clear hd9 hX1 hX2 z0 z1 sF Hs h9;go_wp2_with fail;(first | (go_region_held3 (fun W=>Ext wL W∧W.cell? ⟨w.heap.size,0,none⟩=some v) (exact⟨xq,kb3 _ xq⟩) (first | (go_at_call 99;((first | (with_reducible refine Calls.mono (cO _ (hE3.trans xq)) ?_));rintro e wH ⟨rfl,hX⟩;have hH:=Ext.trans (a:=wL) xq hX)) | (go_at_call 103;((first | (with_reducible refine Calls.mono (cU _ (hE3.trans xq)) ?_));rintro e wH ⟨rfl,hX⟩;have hH:=Ext.trans (a:=wL) xq hX)) | (go_at_call 98;((first | (with_reducible refine Calls.mono (cF _) ?_));rintro e wH ⟨rfl,hX⟩;have hH:=Ext.trans (a:=wL) xq hX)) | (go_at_call 102;((first | (with_reducible refine Calls.mono (cI1g _) ?_) | (with_reducible refine Calls.mono (cI1 _) ?_));rintro e wM ⟨rfl,hX⟩;have hHM:=Ext.trans (a:=wL) xq hX)))) | (fail "the region"));have hE4:=hE3.trans hHM;have kb4:=hb _ hE4;go_wp2_with (first | (go_at_call 104;refine (cP _ hE4).mono ?_;rintro e w5 ⟨rfl,hE5⟩;have hE45:=hE4.trans hE5) | (go_at_call 102;with_reducible refine Calls.mono (cI2 _) ?_;rintro e w6 ⟨rfl,hE6⟩;have hE56:=hE45.trans (Ext.trans ((er _).alloc _) hE6)));go_ret;exact⟨j9 Hfin.out.symm,hE0.trans hE56⟩):P:=h
theorem d16(v:Value)(l:List Int)(w:World)(h:c9 w v l) :
 Calls Tryz.prog 28 #[.agg #[v]] w fun e w'=>e=.returned (.string (bv8 l))∧Ext w w':=by
 obtain⟨wb,Hwb,hE0,hb,hg,hE,Hsz⟩:=ju3 28 h;clear h;have hbx:=hb wb hE;have cG0:=fun W (hW:Ext wb W)=>A1 v l W (hg W hW);cases hgr:j1 l
 . rw[hgr] at cG0;have Hs:=zh (j13 hgr);go_in;go_wp2_with fail;rw[<-Hwb.out];go_wp2_with (refine (cG0 _ hE).mono ?_;rintro e w1 ⟨rfl,hE1⟩);exact zz60
 rw[hgr] at cG0;have Hgr:=zh hgr;have Hs:=zh (dq3 hgr);have hob:=m8 hgr;have hex:=bh0 hgr (Nat.le_refl l.length);have hsg:=c93 hgr;have hdv:=d88 hgr;have hca:=dz2 l;have sA:=cx1 l;have sB:=o9 (n:=((ord l:Nat):Int)) om;have sC:=o9 (n:=((b55 l:Nat):Int)) (by unfold b55;omega);have sD:=o9 (n:=(((sgL l).length:Nat):Int)) om;have sE:=o9 (n:=((V3 dvT (Q0 l):Nat):Int)) om;have sF:=o9 (n:=caF l) om;have cA:=fun W (hW:Ext wb W)=>bl1 v l W (hg W hW);have cO:=fun W (hW:Ext wb W)=>p7 v l W (hg W hW) Hgr;have cX:=fun W (hW:Ext wb W)=>cp9 v l W (hg W hW) Hgr;have cV:=fun W (hW:Ext wb W)=>bz7 v l W (hg W hW) Hgr;have cU:=fun W (hW:Ext wb W)=>bo2 v l W (hg W hW);have cP:=fun W (hW:Ext wb W)=>cd7 v l W (hg W hW) Hgr;have cS:∀W,Ext wb W->Calls Tryz.prog 95 #[.agg #[v]] W fun e w'=>∃ao c n,n=(sgL l).length∧e=.returned (.tuple #[.slice ao n c,.bool true])∧Ext W w':=fun W hW=>cq7 v l W (hg W hW) Hgr (fun w0 W u L hO hE hn=>dg3 hO hE hn);simp only[jt7] at cU;simp only[jk1 hgr] at cV;have cB:=fun W=>A4 ((ord l:Nat):Int) om W;have cC:=fun W=>A4 ((b55 l:Nat):Int) (by unfold b55;omega) W;have cD:=fun W=>A4 (((sgL l).length:Nat):Int) om W;have cE:=fun W=>A4 ((V3 dvT (Q0 l):Nat):Int) om W;have cF:=fun W=>A4 (caF l) om W;obtain⟨b2,hb2⟩:=nq (ba3 (ord l));rw[<-hb2] at Hs;simp only[<-hb2] at cP;obtain⟨A,hA⟩:=nq (fgF l);obtain⟨B,hB⟩:∃x,x=o3 ((ord l:Nat):Int):=⟨_,rfl⟩;obtain⟨C,hC⟩:∃x,x=o3 ((b55 l:Nat):Int):=⟨_,rfl⟩;obtain⟨D,hD⟩:∃x,x=o3 (((sgL l).length:Nat):Int):=⟨_,rfl⟩;obtain⟨E,hE'⟩:∃x,x=o3 ((V3 dvT (Q0 l):Nat):Int):=⟨_,rfl⟩;obtain⟨F,hF⟩:=nq (o3 (caF l));rw[<-hA,<-hB,<-hC,<-hD,<-hE',<-hF] at Hs;simp only[<-hA] at cA sA;simp only[<-hB] at cB sB;simp only[<-hC] at cC sC;simp only[<-hD] at cD sD;simp only[<-hE'] at cE sE;simp only[<-hF] at cF sF;obtain⟨ex,hex'⟩:∃x,x=b55 l:=⟨_,rfl⟩;obtain⟨sg,hsg'⟩:∃x,x=(sgL l).length:=⟨_,rfl⟩;obtain⟨dv,hdv'⟩:∃x,x=V3 dvT (Q0 l):=⟨_,rfl⟩;obtain⟨ca,hca'⟩:∃x,x=caF l:=⟨_,rfl⟩;simp only[<-hex'] at cX cC;simp only[<-hsg'] at cS cD;simp only[<-hdv'] at cV cE;simp only[<-hca'] at cU cF;clear hb2 hA hB hC hD hE' hF hex' hsg' hdv' hca' hgr hex hsg hdv hca;obtain⟨X0,hX0,cL0⟩:=b70 [(⟨#[103,114,111,117,112]⟩:ByteArray),A,(⟨#[111,114,100,101,114]⟩:ByteArray),B,(⟨#[101,120,112,111,110,101,110,116]⟩:ByteArray),C,(⟨#[115,117,98,103,114,111,117,112,115]⟩:ByteArray),D,(⟨#[100,97,118,101,110,112,111,114,116]⟩:ByteArray),E] (by simp[o8];omega);have z0:X0.size<=900:=hX0 ▸ nle (b14 _) (by simp[G4,o8];omega);simp only[List.map_cons,List.map_nil,List.length_cons,List.length_nil,Nat.reduceAdd,Nat.zero_add] at cL0;have HX0:=zh hX0;clear hX0 sA sB sC sD sE;go_in;go_wp2_with fail;rw[<-Hwb.out];go_wp2_with (first | (go_at_call 94;refine (cG0 _ hE).mono ?_;rintro e w1 ⟨rfl,hE1⟩;have hb1:=hb _ hE1) | (go_at_call 95;refine (cS _ hE1).mono ?_;rintro e w2 ⟨aoS,cS2,nS,hnS,rfl,hE2⟩;subst hnS));replace hE:=hE1.trans hE2;clear hE1 hE2 hb1 hbx;have kb:=fun W (hW:Ext w2 W)=>hb W (hE.trans hW);have hD:=(er w2).drew;go_wp2_with fail;first | (go_region_held3 (fun W=>Ext w2 W∧W.cell? ⟨w.heap.size,0,none⟩=some v) (exact⟨xq,kb _ xq⟩) (first | (go_at_call 97;((first | (with_reducible refine Calls.mono (cA _ (hE.trans xq)) ?_));rintro e wH ⟨rfl,hX⟩;have hH:=Ext.trans (a:=w2) xq hX)) | (go_at_call 99;((first | (with_reducible refine Calls.mono (cO _ (hE.trans xq)) ?_));rintro e wH ⟨rfl,hX⟩;have hH:=Ext.trans (a:=w2) xq hX)) | (go_at_call 98;((first | (with_reducible refine Calls.mono (cB _) ?_) | (with_reducible refine Calls.mono (cC _) ?_) | (with_reducible refine Calls.mono (cD _) ?_) | (with_reducible refine Calls.mono (cE _) ?_));rintro e wH ⟨rfl,hX⟩;have hH:=Ext.trans (a:=w2) xq hX)) | (go_at_call 100;((first | (with_reducible refine Calls.mono (cX _ (hE.trans xq)) ?_));rintro e wH ⟨rfl,hX⟩;have hH:=Ext.trans (a:=w2) xq hX)) | (go_at_call 101;((first | (with_reducible refine Calls.mono (cV _ (hE.trans xq)) ?_));rintro e wH ⟨rfl,hX⟩;have hH:=Ext.trans (a:=w2) xq hX)) | (go_at_call 96;((with_reducible refine Calls.mono (cL0 _) ?_);rintro e wL ⟨rfl,hX⟩;have hHL:=Ext.trans (a:=w2) xq hX)))) | (fail "the region")
 have hE3:=hE.trans hHL;have kb3:=fun W (hW:Ext wL W)=>hb W (hE3.trans hW);have hD3:=(er wL).drew;clear hD hHL;by_cases h9:ord l<=9
 . have h9I:((ord l:Nat):Int)<=9:=(by omega);rw[decide_eq_true h9] at Hs;have hd9:decide (((ord l:Nat):Int)<=9)=true:=decide_eq_true h9I;obtain⟨X1,hX1,z1,cI1⟩:=J0 X0 true [(⟨#[97,117,116,111,109,111,114,112,104,105,115,109,115]⟩:ByteArray),F] _ z0 (by simp[o8];omega) (by simp[G4,o8];omega);replace z1:X1.size<=950:=nle z1 (by simp[G4,o8];omega);simp only[List.map_cons,List.map_nil,List.length_cons,List.length_nil,Nat.reduceAdd,Nat.zero_add] at cI1;obtain⟨X2,hX2,-,cI2⟩:=J0 X1 b2 [(⟨#[112,114,105,109,101]⟩:ByteArray)] _ z1 (by simp[o8]) (by simp[G4,o8]);simp only[List.map_cons,List.map_nil,List.length_cons,List.length_nil,Nat.reduceAdd,Nat.zero_add] at cI2;have Hfin:Hid (bv8 l=X2):=zh (by rw[hX2,b38 X1 b2 (⟨#[112,114,105,109,101]⟩:ByteArray) (⟨#[32,112,114,105,109,101]⟩:ByteArray) rfl,hX1,if_pos rfl,jg5 X0 (⟨#[97,117,116,111,109,111,114,112,104,105,115,109,115]⟩:ByteArray) F (⟨#[32,97,117,116,111,109,111,114,112,104,105,115,109,115,32]⟩:ByteArray) rfl,HX0.out,da7,Hs.out,cs6];rfl);exact zz10
 . have h9I:¬((ord l:Nat):Int)<=9:=(by omega);rw[decide_eq_false h9] at Hs;have hd9:decide (((ord l:Nat):Int)<=9)=false:=decide_eq_false h9I;obtain⟨X1,hX1,z1,cI1⟩:=J0 X0 false [(⟨#[97,117,116,111,109,111,114,112,104,105,115,109,115]⟩:ByteArray),F] _ z0 (by simp[o8];omega) (by simp[G4,o8];omega);replace z1:X1.size<=950:=nle z1 (by simp[G4,o8];omega);simp only[List.map_cons,List.map_nil,List.length_cons,List.length_nil,Nat.reduceAdd,Nat.zero_add] at cI1;obtain⟨X2,hX2,-,cI2⟩:=J0 X1 b2 [(⟨#[112,114,105,109,101]⟩:ByteArray)] _ z1 (by simp[o8]) (by simp[G4,o8]);simp only[List.map_cons,List.map_nil,List.length_cons,List.length_nil,Nat.reduceAdd,Nat.zero_add] at cI2;have Hfin:Hid (bv8 l=X2):=zh (by rw[hX2,b38 X1 b2 (⟨#[112,114,105,109,101]⟩:ByteArray) (⟨#[32,112,114,105,109,101]⟩:ByteArray) rfl,hX1,if_neg (by decide),HX0.out,da7,Hs.out,cs6];rfl);exact zz10
theorem ct9(v:Value)(l:List Int)(w:World)(h:c9 w v l) :
 Calls Tryz.prog 16 #[.agg #[v]] w fun e w'=>e=.returned (.string (bv8 l))∧Ext w w':=by
 obtain⟨wb,Hwb,hE0,hb,hg,hE,Hsz⟩:=ju3 28 h;clear h;have hbx:=hb wb hE;have cG0:=fun W (hW:Ext wb W)=>A3 v l W (hg W hW);cases hgr:j1 l
 . rw[hgr] at cG0;have Hs:=zh (j13 hgr);go_in;go_wp2_with fail;rw[<-Hwb.out];go_wp2_with (refine (cG0 _ hE).mono ?_;rintro e w1 ⟨rfl,hE1⟩);exact zz60
 rw[hgr] at cG0;have Hgr:=zh hgr;have Hs:=zh (dq3 hgr);have hob:=m8 hgr;have hex:=bh0 hgr (Nat.le_refl l.length);have hsg:=c93 hgr;have hdv:=d88 hgr;have hca:=dz2 l;have sA:=cx1 l;have sB:=o9 (n:=((ord l:Nat):Int)) om;have sC:=o9 (n:=((b55 l:Nat):Int)) (by unfold b55;omega);have sD:=o9 (n:=(((sgL l).length:Nat):Int)) om;have sE:=o9 (n:=((V3 dvT (Q0 l):Nat):Int)) om;have sF:=o9 (n:=caF l) om;have cA:=fun W (hW:Ext wb W)=>ci0 v l W (hg W hW);have cO:=fun W (hW:Ext wb W)=>o5 v l W (hg W hW) Hgr;have cX:=fun W (hW:Ext wb W)=>co1 v l W (hg W hW) Hgr;have cV:=fun W (hW:Ext wb W)=>bz3 v l W (hg W hW) Hgr;have cU:=fun W (hW:Ext wb W)=>bk8 v l W (hg W hW);have cP:=fun W (hW:Ext wb W)=>ca3 v l W (hg W hW) Hgr;have cS:∀W,Ext wb W->Calls Tryz.prog 55 #[.agg #[v]] W fun e w'=>∃ao c n,n=(sgL l).length∧e=.returned (.tuple #[.slice ao n c,.bool true])∧Ext W w':=fun W hW=>(bk0 v l W (hg W hW)).mono fun e w' ⟨ao,L,c,h1,_,h3,h4⟩=>⟨ao,c,L.length,by rw[h3,if_pos hgr],by rw[h1,hgr],h4⟩;simp only[show (if auB l then (b54 l (ord l ^ l.length):Int) else -1)=caF l from rfl] at cU;have cB:=fun W=>A2 ((ord l:Nat):Int) om W;have cC:=fun W=>A2 ((b55 l:Nat):Int) (by unfold b55;omega) W;have cD:=fun W=>A2 (((sgL l).length:Nat):Int) om W;have cE:=fun W=>A2 ((V3 dvT (Q0 l):Nat):Int) om W;have cF:=fun W=>A2 (caF l) om W;obtain⟨b2,hb2⟩:=nq (ba3 (ord l));rw[<-hb2] at Hs;simp only[<-hb2] at cP;obtain⟨A,hA⟩:=nq (fgF l);obtain⟨B,hB⟩:∃x,x=o3 ((ord l:Nat):Int):=⟨_,rfl⟩;obtain⟨C,hC⟩:∃x,x=o3 ((b55 l:Nat):Int):=⟨_,rfl⟩;obtain⟨D,hD⟩:∃x,x=o3 (((sgL l).length:Nat):Int):=⟨_,rfl⟩;obtain⟨E,hE'⟩:∃x,x=o3 ((V3 dvT (Q0 l):Nat):Int):=⟨_,rfl⟩;obtain⟨F,hF⟩:=nq (o3 (caF l));rw[<-hA,<-hB,<-hC,<-hD,<-hE',<-hF] at Hs;simp only[<-hA] at cA sA;simp only[<-hB] at cB sB;simp only[<-hC] at cC sC;simp only[<-hD] at cD sD;simp only[<-hE'] at cE sE;simp only[<-hF] at cF sF;obtain⟨ex,hex'⟩:∃x,x=b55 l:=⟨_,rfl⟩;obtain⟨sg,hsg'⟩:∃x,x=(sgL l).length:=⟨_,rfl⟩;obtain⟨dv,hdv'⟩:∃x,x=V3 dvT (Q0 l):=⟨_,rfl⟩;obtain⟨ca,hca'⟩:∃x,x=caF l:=⟨_,rfl⟩;simp only[<-hex'] at cX cC;simp only[<-hsg'] at cS cD;simp only[<-hdv'] at cV cE;simp only[<-hca'] at cU cF;clear hb2 hA hB hC hD hE' hF hex' hsg' hdv' hca' hgr hex hsg hdv hca;obtain⟨y,Hy,zY,cY⟩:=bt3 b2 (⟨#[32,112,114,105,109,101]⟩:ByteArray);go_in;go_wp2_with fail;rw[<-Hwb.out];go_wp2_with (first | (go_at_call 42;refine (cG0 _ hE).mono ?_;rintro e w1 ⟨rfl,hE1⟩;have hb1:=hb _ hE1) | (go_at_call 55;refine (cS _ hE1).mono ?_;rintro e w2 ⟨aoS,cS2,nS,hnS,rfl,hE2⟩;subst hnS));have hE3:=hE1.trans hE2;clear hE1 hE2 hb1 hbx;have kc3:=fun U=>hb _ (hE3.trans (d5 w2 U));replace hE:=er w2;go_wp2_with fail;(refine wl hE ?_);(repeat (go_big_quiet_step (first | (go_at_call 41;with_reducible exact Calls.lat (cA _ (hE3.trans (d5 w2 _)))) | (go_at_call 43;with_reducible exact Calls.lat (cO _ (hE3.trans (d5 w2 _)))) | (go_at_call 45;first | with_reducible exact Calls.lat (cB _) | with_reducible exact Calls.lat (cC _) | with_reducible exact Calls.lat (cD _) | with_reducible exact Calls.lat (cE _)) | (go_at_call 56;with_reducible exact Calls.lat (cX _ (hE3.trans (d5 w2 _)))) | (go_at_call 57;with_reducible exact Calls.lat (cV _ (hE3.trans (d5 w2 _)))))));(refine zd ?_);(clear hE);(intro W hE);replace hE:=hE3.trans hE;have hb4:=hb _ hE;by_cases h9:ord l<=9
 . have h9I:((ord l:Nat):Int)<=9:=(by omega);rw[decide_eq_true h9] at Hs;go_wp2_with (first | (go_at_call 43;refine (cO _ hE).mono ?_;rintro e w5 ⟨rfl,hE5⟩;have hE45:=hE.trans hE5;have hb5:=hb _ hE45) | (go_at_call 58;refine (cU _ hE45).mono ?_;rintro e w6 ⟨rfl,hE6⟩;have hE46:=hE45.trans hE6) | (go_at_call 45;refine (cF _).mono ?_;rintro e w7 ⟨rfl,hE7⟩;have hE47:=hE46.trans hE7;have hb7:=hb _ hE47) | (go_at_call 60;refine (cP _ hE47).mono ?_;rintro e w8 ⟨rfl,hE8⟩) | (go_at_call 59;refine (cY _).mono ?_;rintro e w' ⟨rfl,rfl⟩));go_ret;exact⟨j9 (by rw[Hs.out,Hy.out,cs6];rfl),hE0.trans (hE47.trans hE8)⟩
 . have h9I:¬((ord l:Nat):Int)<=9:=(by omega);rw[decide_eq_false h9] at Hs;go_wp2_with (first | (go_at_call 43;refine (cO _ hE).mono ?_;rintro e w5 ⟨rfl,hE5⟩;have hE45:=hE.trans hE5;have hb5:=hb _ hE45) | (go_at_call 60;refine (cP _ hE45).mono ?_;rintro e w8 ⟨rfl,hE8⟩) | (go_at_call 59;refine (cY _).mono ?_;rintro e w' ⟨rfl,rfl⟩));go_ret;exact⟨j9 (by rw[Hs.out,Hy.out,cs6];rfl),hE0.trans (hE45.trans hE8)⟩
end Go.Zz
