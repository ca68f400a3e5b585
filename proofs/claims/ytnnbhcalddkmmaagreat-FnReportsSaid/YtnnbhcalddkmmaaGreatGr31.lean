/- Factorizations, by their lengths: l19Factor of the reference. -/
import Derived.Test.YtnnbhcalddkmmaaGreatGr30
set_option linter.unusedSimpArgs false
set_option linter.unusedVariables false
set_option linter.unnecessarySimpa false
set_option maxHeartbeats 1000000
set_option maxRecDepth 8000
namespace Go.Zz
open Go.RowKit Go.Proofs
theorem D7.kept{w0 wz w w':World}{v u:Value}{A:List Nat}{L:List Value}(h:D7 w0 w v A)(hO:A5 93 wz w u L)(hne:∀g,v.ownBlock=some g->u.ownBlock≠some g)(hg:w.grownBy w' u.ownBlock):D7 w0 w' v A:=by
 obtain⟨M,h1,⟨h2,h3,h4⟩,h5⟩:=h;refine⟨M,h1,⟨h2,h3.kept hg ?_,h4⟩,fun i hi=>(h5 i hi).grown hO (by decide) hg⟩;cases hv:v.ownBlock with
 | none=>simp
 | some g=>have:=hne g hv;simp;exact fun e=>this e.symm
theorem jk5{F:List Nat}{j:Nat}(hj:j<F.length):(F.take (j+1)).map (· + 1)=(F.take j).map (· + 1)++[F.getD j 0+1]:=by
 rw[List.take_succ_eq_append_getElem hj,List.map_append];simp[List.getD,hj]
theorem dl1(va:Value)(A:List (List Nat))(w00 w0:World)(HA:Hid (E6 w00 w0 va A))(h48:A.length<=48)(h1a:∀a∈A,1<=a.length)(hBd:Hid (∀f i0 (R:List Int),R.length<=10->(R8 A f i0 R).length<=254803968)) :
 ∀(f i0:Nat) (R:List Int) (vR:Value) (w:World),Ext w0 w->c9 w vR R->R.length<f->R.length<=10->i0<=A.length ->
 Calls Tryz.prog 312 #[va,vR,.int .i64 i0] w fun e w'=>∃v',e=.returned v'∧D7 w w' v' (R8 A f i0 R)∧Ext w w':=by
 intro f;induction f with
 | zero=>intro i0 R vR w hw hR hf;omega
 | succ f ih =>
  intro i0 R vR w hw hR hf hR10 hi0;obtain⟨aoR,cR,adrR,rfl,hlR,hadrR,hcellR⟩:=hR.op;have HR:=zh hR;clear hadrR hcellR hlR;by_cases hR0:R.length=0
  . have Hz:=zh (bm4 (A:=A) (f:=f) (i0:=i0) hR0);have hq:(((R.length:Nat):Int) == 0)=true:=(by rw[hR0];rfl);clear hR0 ih hR;have hx:=er w;have hO0:A5 26 w (w.alloc (.cells #[] 26)) (.slice (some ⟨w.heap.size,0,none⟩) 0 0) []:=bn2 hx;have hBr:Blk (w.alloc (.cells #[] 26)) w.heap.size 26 #[]:=Blk.new _ _ _;have hex1:=hx.alloc (.cells #[] 26);have hO1:A5 93 w ((w.alloc (.cells #[] 26)).alloc (.cells #[.slice (some ⟨w.heap.size,0,none⟩) 0 0] 93)) (.slice (some ⟨(w.alloc (.cells #[] 26)).heap.size,0,none⟩) 1 1) [.slice (some ⟨w.heap.size,0,none⟩) 0 0]:=dd7 hex1 rfl;have hRw:=j49 (hBr.ext ((er _).alloc (.cells #[.slice (some ⟨w.heap.size,0,none⟩) 0 0] 93)));have hFin:=jm7 hO1 (V2.one hRw);rw[show (w.alloc (.cells #[] 26)).heap.size=w.heap.size+1 by simp] at hFin;clear hO1 hRw hBr hO0;go_in;go_wp2_with fail;go_ret;exact⟨_,rfl,by rw[Hz.out];exact hFin,hex1.alloc _⟩
  . have Hend:=zh (bi6 (A:=A) (f:=f) (i0:=i0) hR0);have Hst:=zh (b12 A f i0 R i0 (Nat.le_refl _));have hq:(((R.length:Nat):Int) == 0)=false:=(by rw[beq_eq_false_iff_ne];omega);have hF0:D7 w (w.alloc (.cells #[] 93)) (.slice (some ⟨w.heap.size,0,none⟩) 0 0) []:=b82 (er w);have hx0:=(er w).alloc (.cells #[] 93);have Hih:=zh ih;have hRl:=hR0;obtain⟨aoA,cA,rfl,hcA0,hcA⟩:=HA.out.shape;have HcA:=zh hcA;have HBd:=zh (hBd.out (f+1) i0 R hR10);clear hR0 ih hR hcA;go_in;go_wp2_with fail;go_loopw [7,8] (fun so si wr=>∃k:Nat,i0<=k∧k<=A.length∧si=.int .i64 k∧D7 w wr so (R9 A f i0 R k)∧Ext w wr) (fun _ si _=>A.length - (intOf si).toNat);(case atStart=>exact⟨i0,Nat.le_refl _,hi0,rfl,by rw[Hst.out];exact hF0,hx0⟩);case round =>
     clear hF0 hx0;obtain⟨k,hk0,hk,rfl,hF,hE⟩:=hrel;obtain⟨aoO,cO,rfl,-⟩:=hF.shape;have HF:=zh hF;have HE:=zh hE;clear hF;by_cases hlt:k<A.length
     . have hltI:(k:Int)<(A.length:Int):=(by omega);obtain⟨gA,y,rfl,hcy,hRy⟩:=HcA.out k hlt;have hixA:=b84 elV szV gA A.length cA;have hE0r:=hw.trans hE;have hcy1:=hE0r.cell hcy;have HRy:=zh (fun W (hW:Ext w0 W)=>(hRy.ext hW).ints);have ha1:=h1a _ (c85 hlt);obtain⟨a,ha⟩:=nq (A.getD k []);rw[<-ha] at HRy ha1;have Hno:=zh (dp3 (A:=A) (f:=f) (i0:=i0) (R:=R) (k:=k));have Hye:=zh (d94 (A:=A) (f:=f) (R:=R) hk0);rw[<-ha] at Hno Hye;have cM:=fun W (hW:Ext w W)=>dc1 _ _ R (b9 a) W (HR.out.ext hW) (HRy.out W (hw.trans hW));have Hcy:=zh hcy;clear ha hRy hcy;cases hs:P2 R (b9 a)
       . have Hn:=zh (Hno.out hs);simp only[hs] at cM;clear hs Hno Hye;go_wp2_with (go_at_call 354;refine (cM _ hE).mono ?_;rintro e w1 ⟨⟨v1,rfl,-⟩,hE1⟩);go_roundw;(case rel=>exact⟨k+1,om,om,zg,by rw[Hn.out];exact HF.out.ext hE1,HE.out.trans hE1⟩);case measure=>exact zm1
       . have Hy:=zh (Hye.out hs);simp only[hs] at cM;have hrl:=bh3 a R hs;have hmono:=c19 A f i0 R (k+1) (A.length - (k+1));rw[show k+1+(A.length - (k+1))=A.length by omega,<-Hend.out,Hy.out] at hmono;have Hlen:=zh (nle hmono HBd.out);have hvals:∀x∈R8 A f k (O5 R a),x<=10:=fun x hx=>nle (cw9 A h1a f k (O5 R a) x hx) om;have cF:=fun vN W (hW:Ext w0 W) (hI:c9 W vN (O5 R a))=>Hih.out k (O5 R a) vN W hW hI om om om;have hk3:=hk;obtain⟨F,hFd⟩:=nq (R8 A f k (O5 R a));have Hri:=zh (j48 R a);simp only[<-hFd] at cF hvals Hlen Hy;obtain⟨B,hBd2⟩:=nq (R9 A f i0 R k);have HB:=zh hBd2;rw[<-hBd2] at Hlen Hy;have HFB:Hid (D7 w wr (.slice aoO B.length cO) B):=zh (by rw[hBd2];exact HF.out);have hbl:(R9 A f i0 R k).length=B.length:=(by rw[hBd2]);rw[hbl];clear hs Hno Hye hrl hmono hFd hBd2 HF hbl;go_wp2_with (first | (go_at_call 354;refine (cM _ hE).mono ?_;rintro e w1 ⟨⟨v1,rfl,hO1⟩,hE1⟩;have hO1':=hO1 trivial;rw[Hri.out] at hO1';have hE01:=hE0r.trans hE1) | (go_at_call 312;refine (cF _ _ hE01 hO1'.ints).mono ?_;rintro e w2 ⟨v2,rfl,hF2,hE2⟩;obtain⟨ao2,c2,rfl,-⟩:=hF2.shape));have hE12:=hE1.trans hE2;have HF0:=zh (HFB.out.ext hE12);have hne0:∀g,(Value.slice ao2 F.length c2).ownBlock=some g->(Value.slice aoO B.length cO).ownBlock≠some g:=fun g hg e=>by
          have q1:=(hF2.blk g hg).1
          have q2:=(HFB.out.blk g e).2
          have q3:=hE1.size
          omega
         have hEw2:=HE.out.trans hE12;have HlF:=zh (show B.length+F.length<=254803968 by have:=Hlen.out;simpa using this);clear cM cF hO1 hO1';go_loopw [7,12] (fun so sj wq=>∃j:Nat,j<=F.length∧sj=.int .i64 j∧D7 w wq so (B++(F.take j).map (· + 1))∧D7 w1 wq (.slice ao2 F.length c2) F∧Ext w wq∧(∀g,(Value.slice ao2 F.length c2).ownBlock=some g->so.ownBlock≠some g)) (fun _ sj _=>F.length - (intOf sj).toNat);(case atStart=>exact⟨0,om,rfl,by simpa using HF0.out,hF2,hEw2,hne0⟩);case round =>
          clear hF2 hne0 hEw2 HF0;rename World=>wq;obtain⟨j,hj,rfl,hP1,hP2,hE,hP3⟩:=hrel;have HP1:=zh hP1;have HP2:=zh hP2;have HP3:=zh hP3;have HEq:=zh hE;obtain⟨aoQ,cQ,rfl,-⟩:=hP1.shape;have hlQ:(B++(F.take j).map (· + 1)).length=B.length+j:=(by rw[List.length_append,List.length_map,List.length_take];omega);rw[hlQ] at HP1 HP3 ⊢;clear hP1 hP3 hE hlQ;by_cases hlj:j<F.length
          . have hljI:(j:Int)<(F.length:Int):=(by omega);obtain⟨ao3,c3,hv3,-,hc3⟩:=hP2.shape;simp only[Value.slice.injEq] at hv3;obtain⟨rfl,-,rfl⟩:=hv3;obtain⟨gF,uF,rfl,hcu,hRu⟩:=hc3 j hlj;have hixF:=b84 elW szW gF F.length c2;have hF25:F.length<=254803968:=(by have:=HlF.out;omega);have hd10:=hvals _ (show F.getD j 0∈F by simp[List.getD,hlj]);have HFat:=zh (jk5 hlj);obtain⟨d,hd⟩:=nq (F.getD j 0);rw[<-hd] at hRu hd10 HFat;obtain⟨aoU,cU,rfl⟩:=hRu.shape;obtain⟨M,hM1,hM2,hM3⟩:=hRu.cells;have HM3:=zh hM3;have HM1:=zh hM1;clear hM1;have hE0q:=hw.trans HEq.out;have kA:=hE0q.cell Hcy.out;have kA2:=(hE0q.trans ((er wq).alloc (.cells #[] 3))).cell Hcy.out;have hOe:Own 3 wq (wq.alloc (.cells #[] 3)) (.slice (some ⟨wq.heap.size,0,none⟩) 0 0) []:=m7 om (er wq) [] rfl;have hEe:=(er wq).alloc (.cells #[] 3);have hIX:=HRy.out _ (hE0q.trans hEe);have hla:(b9 a).length<=17592186044416:=(by obtain⟨_,_,_,_,h',_⟩:=hIX;exact h');obtain⟨L,hL1,hL2,hL3⟩:=HP1.out;have HL1:=zh hL1;have HL3:=zh hL3;clear hP2 hc3 hd hRu hM3 hL1 hL3;go_upto_region 13 with fail;go_upto_region 14 with (first | (at_builtin;refine I2 slI rfl _ _ rfl wq _ _ _ _ _ hOe hIX hEe (by simpa using hla) rfl rfl ?_;intro v1 wA hO1 hE1;rw[List.nil_append] at hO1;obtain⟨ao1,c1,rfl,-⟩:=hO1.shape));have hOB:A5 26 wq (wA.alloc (.cells #[.slice ao1 (b9 a).length c1] 26)) (.slice (some ⟨wA.heap.size,0,none⟩) 1 1) [.slice ao1 (b9 a).length c1]:=dd7 hE1 rfl;have hEB:=hE1.alloc (.cells #[.slice ao1 (b9 a).length c1] 26);have hMB:=HM3.out.ext hEB;have kF:=hEB.cell hcu;have hnB:[(Value.slice ao1 (b9 a).length c1)].length+M.length<=1000000000000:=(by rw[HM1.out,List.length_singleton];omega);have hnL:L.length<1000000000000:=(by rw[HL1.out,List.length_append,List.length_map,List.length_take];have:=HlF.out;omega);clear hOe hIX hEe kA kA2;go_wp2_with (first | (at_builtin;refine b25 slW rfl _ _ rfl w wD (.slice aoQ (B.length+j) cQ) L (.slice aoD ([(Value.slice ao1 (b9 a).length c1)]++M).length cD) rfl (hL2.ext hXD) (HEq.out.trans hXD) hnL rfl rfl ?_;intro v5 w5 hO5 hG5 hN5) | (at_builtin;refine dm4 slV rfl _ _ rfl wq _ _ _ _ M hOB hMB hM2 hEB hnB rfl rfl ?_;intro vD wD hOD hGD hND hXD;obtain⟨aoD,cD,rfl,-⟩:=hOD.shape));have hlD:([(Value.slice ao1 (b9 a).length c1)]++M).length=d+1:=(by rw[List.length_append,List.length_singleton,HM1.out];omega);have hRD:=de9 hOD (by rw[hlD];omega);have hOF:=D7.more HL1.out (hL2.ext hXD) (fun i hi=>(HL3.out i hi).ext hXD) hRD hO5 hG5;rw[hlD] at hOF;go_roundw;case rel =>
             refine⟨j+1,om,zg,by rw[HFat.out,<-List.append_assoc];exact hOF,(HP2.out.ext hXD).kept (hL2.ext hXD) HP3.out hG5,(HEq.out.trans hXD).grown hG5 (fun g hg=>(hL2.blk g hg).1),fun g hg e=>?_⟩;rcases hN5 with hN5 | hN5
             . exact HP3.out g hg (by rw[<-hN5];exact e)
             . have q1:=hN5 g e;have q2:=(HP2.out.blk g hg).2;have q3:=hXD.size;omega
            case measure=>exact zm1
          . have hljI:¬(j:Int)<(F.length:Int):=(by omega);have hjl:j=F.length:=om;have Hn:Hid (R9 A f i0 R (k+1)=B++(F.take j).map (· + 1)):=zh (by rw[Hy.out,hjl,List.take_length]);clear hjl;go_wp2_with fail;go_roundw;(case rel=>exact⟨k+1,om,om,zg,by rw[Hn.out];exact HP1.out,HEq.out⟩);case measure=>exact zm1
     . have hltI:¬(k:Int)<(A.length:Int):=(by omega);have hkl:k=A.length:=om;have Hn:=zh (show R8 A (f+1) i0 R=R9 A f i0 R k by rw[Hend.out,hkl]);clear hkl;go_wp2_with fail;go_ret;exact⟨_,rfl,by rw[Hn.out];exact HF.out,HE.out⟩
def P9(l R:List Int):Bool:=atB l&&(zsB l R&&decide (R.length<=10))
def J8(l R:List Int):List Nat:=if P9 l R then R8 (atS l) (R.length+1) 0 R else []
theorem bq8{l R:List Int}(h:P9 l R=false):J8 l R=[]:=by unfold J8;rw[h];rfl
theorem zz42{P:Prop}(h:P:=by go_in;go_wp2_with fail;rw[<-Hwb.out];go_wp2_with (first | (go_at_call 311;refine cA.mono ?_;rintro e w1 ⟨v1,rfl,-,hE1⟩;have hb2:=hb _ hE1) | (go_at_call 137;refine (cZ _ hE1).mono ?_;rintro e w2 ⟨rfl,hE2⟩));have hE3:=hE0.trans (hE1.trans hE2);exact bodyPost_ret (v:=.tuple #[.slice (some ⟨w2.heap.size,0,none⟩) 0 0,.bool false]) (by simp[results,Tryz.results245,go_sem]) rfl ⟨⟨_,rfl,b82 hE3⟩,hE3.alloc _⟩):P:=h
theorem bs6(v u:Value)(l R:List Int)(w:World)(h:c9 w v l)(hu:c9 w u R) :
 Calls Tryz.prog 245 #[.agg #[v],u] w fun e w'=>(∃v',e=.returned (.tuple #[v',.bool (P9 l R)])∧D7 w w' v' (J8 l R))∧Ext w w':=by
 obtain⟨wb,Hwb,hE0,hb,hg,hE,Hsz⟩:=ju3 28 h;clear h;have hu2:∀W,Ext wb W->c9 W u R:=fun W hW=>hu.ext (hE0.trans hW);obtain⟨aoU,cU,adrU,rfl,hlU,hadrU,hcU⟩:=hu.op;have hb1:=hb _ hE;clear hadrU hcU hu;have cZ:=fun W (hW:Ext wb W)=>bc7 v _ l R W (hg W hW) (hu2 W hW);cases hA:atB l
 . have cA:=dk8 v l wb (hg _ hE) hA;have hf:P9 l R=false:=(by unfold P9;rw[hA];rfl);rw[hf,bq8 hf];clear hA hf cZ;go_in;go_wp2_with fail;rw[<-Hwb.out];go_wp2_with (go_at_call 311;refine cA.mono ?_;rintro e w1 ⟨v1,rfl,hE1⟩);exact bodyPost_ret (v:=.tuple #[.slice (some ⟨w1.heap.size,0,none⟩) 0 0,.bool false]) (by simp[results,Tryz.results245,go_sem]) rfl ⟨⟨_,rfl,b82 (hE0.trans hE1)⟩,(hE0.trans hE1).alloc _⟩
 . have cA:=df1 v l wb (hg _ hE) hA;cases hZ:zsB l R
   . rw[hZ] at cZ;have hf:P9 l R=false:=(by unfold P9;rw[hA,hZ];rfl);rw[hf,bq8 hf];clear hA hf hZ;exact zz42
   . rw[hZ] at cZ;by_cases hl:R.length<=10
     . have hf:P9 l R=true:=(by unfold P9;rw[hA,hZ,decide_eq_true hl];rfl);obtain⟨hgr,h7⟩:j1 l=true∧ord l<=7:=(by unfold atB at hA;simpa using hA);have hlI:¬(10:Int)<(R.length:Int):=om;have h48:(atS l).length<=48:=(by rw[bg5];exact c08 hgr h7);have h1a:∀a∈atS l,1<=a.length:=fun a ha=>(bu4 hgr h7 (c71 ha)).1;have hBd:=zh (fun f i0 (R:List Int) (hR:R.length<=10)=>d96 hgr h7 f i0 hR);have hV:J8 l R=R8 (atS l) (R.length+1) 0 R:=(by unfold J8;rw[hf];rfl);rw[hf,hV];have hl10:=hl;obtain⟨A,hAd⟩:=nq (atS l);rw[<-hAd] at h48 h1a hBd cA ⊢;have cF:=fun va w1 (hO:E6 wb w1 va A) vR W (hW:Ext w1 W) (hI:c9 W vR R)=>dl1 va A wb w1 (zh hO) h48 h1a hBd (R.length+1) 0 R vR W hW hI om hl10 om;clear hA hf hZ hV hgr h7 hAd hl hBd;go_in;go_wp2_with fail;rw[<-Hwb.out];go_wp2_with (first | (go_at_call 311;refine cA.mono ?_;rintro e w1 ⟨v1,rfl,hO1,hE1⟩;have hb2:=hb _ hE1) | (go_at_call 137;refine (cZ _ hE1).mono ?_;rintro e w2 ⟨rfl,hE2⟩;have hE12:=hE1.trans hE2) | (go_at_call 312;refine (cF _ _ hO1 _ _ hE2 (hu2 _ hE12)).mono ?_;rintro e w3 ⟨v3,rfl,hO3,hE3⟩;obtain⟨ao3,c3,rfl,-⟩:=hO3.shape));have hE4:=hE0.trans hE12;exact bodyPost_ret (v:=.tuple #[_,.bool true]) (by simp[results,Tryz.results245,go_sem]) rfl ⟨⟨_,rfl,hO3.mono hE4⟩,hE4.trans hE3⟩
     . have hf:P9 l R=false:=(by unfold P9;rw[decide_eq_false hl,Bool.and_false,Bool.and_false]);rw[hf,bq8 hf];have hlI:(10:Int)<(R.length:Int):=om;clear hA hf hZ hl;exact zz42
theorem dn0(n:Nat):∀(L:List Nat) (m:Nat),L.Pairwise (· < ·)->(∀x∈L,m<=x∧x<n)->L.length<=n - m
 | [],_,_,_=>by simp
 | a :: L,m,h,k=>by
  rw[List.pairwise_cons] at h
  have ha:=k a zm
  have:=dn0 n L (a+1) h.2 (fun x hx=>⟨h.1 x hx,(k x (by simp[hx])).2⟩)
  rw[List.length_cons];omega
theorem cx0{l R:List Int}:∀x∈J8 l R,x<=10:=fun x hx=>by
 unfold J8 at hx
 cases hf:P9 l R
 . rw[hf] at hx;simp at hx
 . rw[hf] at hx
   unfold P9 at hf
   rw[Bool.and_eq_true,Bool.and_eq_true,decide_eq_true_iff] at hf
   obtain⟨hgr,h7⟩:j1 l=true∧ord l<=7:=by have:=hf.1;unfold atB at this;simpa using this
   exact nle (cw9 (atS l) (fun a ha=>(bu4 hgr h7 (c71 ha)).1) _ _ _ x hx) hf.2.2
theorem d95{l R:List Int}:(J8 l R).length<=254803968:=by
 unfold J8;cases hf:P9 l R
 . simp
 . unfold P9 at hf;rw[Bool.and_eq_true,Bool.and_eq_true,decide_eq_true_iff] at hf;obtain⟨hgr,h7⟩:j1 l=true∧ord l<=7:=(by have:=hf.1;unfold atB at this;simpa using this);exact d96 hgr h7 _ _ hf.2.2
theorem dk7{T:List Nat}(h:∀x∈T,x<=10){k:Nat}(hk:k<=T.length):(H6 T k).length<=11:=by
 have hp:=bg1 T k hk;have:=dn0 11 (H6 T k) 0 hp.1 (fun x hx=>⟨Nat.zero_le _,by have:=h x (List.mem_of_mem_take ((hp.2 x).1 hx));omega⟩);omega
theorem cu0(v u:Value)(l R:List Int)(w:World)(h:c9 w v l)(hu:c9 w u R) :
 Calls Tryz.prog 138 #[.agg #[v],u] w fun e w'=>(∃v',e=.returned v'∧Own 3 w w' v' (b9 (S8 (J8 l R))))∧Ext w w':=by
 obtain⟨wb,Hwb,hE0,hb,hg,hE,Hsz⟩:=ju3 28 h;clear h;have hu2:∀W,Ext wb W->c9 W u R:=fun W hW=>hu.ext (hE0.trans hW);have hO0:Own 3 wb (wb.alloc (.cells #[] 3)) (.slice (some ⟨wb.heap.size,0,none⟩) 0 0) []:=m7 om hE [] rfl;have hE1:=hE.alloc (.cells #[] 3);have hb1:=hb _ hE1;have cF:=fun W (hW:Ext wb W)=>bs6 v u l R W (hg W hW) (hu2 W hW);have hF1:=d95 (l:=l) (R:=R);have hF2:=cx0 (l:=l) (R:=R);obtain⟨F,hFd⟩:=nq (J8 l R);have hbt:Hid (0<F.length->P9 l R=true):=zh (fun hp=>by
  cases hf:P9 l R
  . rw[hFd,bq8 hf] at hp;simp at hp
  . rfl)
 rw[<-hFd] at hF1 hF2 ⊢;simp only[<-hFd] at cF;obtain⟨b,hbd⟩:=nq (P9 l R);simp only[<-hbd] at cF hbt;have HP:=zh (fun k=>dk7 hF2 (k:=k));clear hFd hbd hF2;go_in;go_wp2_with fail;rw[<-Hwb.out];rw[Hsz.out];go_wp2_with (go_at_call 245;refine (cF _ hE1).mono ?_;rintro e w1 ⟨⟨v1,rfl,hF⟩,hE2⟩;obtain⟨aoF,cF2,rfl,-⟩:=hF.shape);have hO1:=hO0.ext hE2;have hE3:=hE1.trans hE2;clear hO0;go_loopw [5,8] (fun so sj wr=>∃j:Nat,j<=F.length∧sj=.int .i64 j∧Own 3 wb wr so (b9 (H6 F j))∧Ext w1 wr) (fun _ sj _=>F.length - (intOf sj).toNat);case atStart=>exact⟨0,om,rfl,hO1,er _⟩
 case round =>
  clear hO1;obtain⟨j,hj,rfl,hO,hEr⟩:=hrel;obtain⟨aoO,cO,rfl,-⟩:=hO.shape;by_cases hlt:j<F.length
  . have hltI:(j:Int)<(F.length:Int):=(by omega);have hbT:=hbt.out om;subst hbT;obtain⟨ao3,c3,hv3,-,hc3⟩:=(hF.ext hEr).shape;simp only[Value.slice.injEq] at hv3;obtain⟨rfl,-,rfl⟩:=hv3;obtain⟨gF,uF,rfl,hcu,hRu⟩:=hc3 j hlt;have hixF:=b84 elW szW gF F.length cF2;obtain⟨d,hd⟩:=nq (F.getD j 0);rw[<-hd] at hRu;obtain⟨aoU,cU,rfl⟩:=hRu.shape;have Hs:Hid (H6 F (j+1)=M7 (H6 F j) d):=zh (by rw[hd];rfl);have cP:=bm9 _ (H6 F j) d wb wr hO (by have:=hE3.size;have:=hEr.size;omega) (by have:=HP.out j hj;omega);clear hd hc3 hRu;go_wp2_with (go_at_call 175;refine cP.mono ?_;rintro e w2 ⟨v2,rfl,hO2,hE4⟩);go_roundw;(case rel=>exact⟨j+1,om,zg,by rw[Hs.out];exact hO2,hEr.trans hE4⟩);case measure=>exact zm1
  . have hltI:¬(j:Int)<(F.length:Int):=(by omega);have hjl:j=F.length:=om;have Hl:Hid (S8 F=H6 F j):=zh (by rw[hjl];rfl);clear hjl;go_wp2_with fail;go_ret;exact⟨⟨_,rfl,by rw[Hl.out];exact hO.mono hE0⟩,hE0.trans (hE3.trans hEr)⟩
end Go.Zz
