/- The lengths of factorizations: LengthsOf of the program, by FactorizationsOf's contract. -/
import Derived.Test.YtnnbhcalddkmmaaGreatLy
import Derived.Test.YtnnbhcalddkmmaaGreatGr34
import Derived.Test.YtnnbhcalddkmmaaGreatGr26
set_option linter.unusedSimpArgs false
set_option linter.unusedVariables false
set_option linter.unnecessarySimpa false
set_option maxHeartbeats 4000000
set_option maxRecDepth 20000
namespace Go.Zz
open Go.RowKit Go.Proofs
theorem dc4(F:List Nat):Lib.compact ((b9 F).mergeSort fun x y=>decide (x<=y))=b9 (S8 F):=by
 have hp:((b9 F).mergeSort fun x y=>decide (x<=y)).Pairwise (·<=·):=by
  have:=List.pairwise_mergeSort (le:=fun x y:Int=>decide (x<=y)) (fun a b c h1 h2=>by simp at *;omega) (fun a b=>by simp;omega) (b9 F);exact this.imp (fun h=>by simpa using h)
 obtain⟨h1,h2⟩:=cr5 _ hp;refine dn1 (fun x=>?_) h1 ?_
 . rw[h2,List.mem_mergeSort];unfold b9;rw[List.mem_map,List.mem_map];constructor
   . rintro⟨n,hn,e⟩;exact⟨n,(cg0 F n).2 hn,e⟩
   . rintro⟨n,hn,e⟩;exact⟨n,(cg0 F n).1 hn,e⟩
 . unfold b9;rw[List.pairwise_map];exact (dc3 F).imp (fun h=>om)
theorem D7.grownI{w0 wz w w':World}{v u:Value}{A:List Nat}{l:List Int}(h:D7 w0 w v A)(hO:Own 3 wz w u l)(hg:w.grownBy w' u.ownBlock):D7 w0 w' v A:=by
 have hB:∀g,u.ownBlock=some g->∃cs,Blk w g 3 cs:=fun g e=>by
  obtain⟨⟨-,h2⟩,-⟩:=hO
  rcases h2 with ⟨rfl,-⟩ | ⟨g',cap,cur,rfl,-,hh,-⟩
  . cases e
  . cases e;exact⟨cur,hh⟩
 obtain⟨M,h1,hL,h5⟩:=h;obtain⟨h2,h3,h4⟩:=id hL;refine⟨M,h1,⟨h2,h3.kept hg ?_,h4⟩,fun i hi=>?_⟩
 . cases hv:v.ownBlock with
   | none=>simp
   | some g =>
    simp;intro e;obtain⟨cs,hb⟩:=hB g e.symm;exact hL.not hb (by decide) hv
 . obtain⟨k0,M',k1,k2,k3⟩:=h5 i hi;refine⟨k0,M',k1,k2,?_⟩;rcases k3 with k3 | ⟨g,cap,cs,k3,k4,k5,k6⟩
   . exact Or.inl k3
   . refine Or.inr ⟨g,cap,cs,k3,k4,k5.grown hg (fun k hk e=>?_),k6⟩;subst e;obtain⟨cs2,hb⟩:=hB k hk;have hb':w.heap[k]?=some (.cells cs2 3 (0,0)):=hb;have k5':w.heap[k]?=some (.cells cs 26 (0,0)):=k5;rw[hb'] at k5';simp at k5'
theorem d47(v u:Value)(l R:List Int)(w:World)(h:c9 w v l)(hu:c9 w u R)
 (cF:∀W,c9 W v l->c9 W u R->Calls Tryz.prog 129 #[.agg #[v],u] W fun e w'=>(∃v',e=.returned (.tuple #[v',.bool (P9 l R)])∧D7 W w' v' (J8 l R))∧Ext W w') :
 Calls Tryz.prog 130 #[.agg #[v],u] w fun e w'=>(∃v',e=.returned v'∧Own 3 w w' v' (b9 (S8 (J8 l R))))∧Ext w w':=by
 obtain⟨wb,Hwb,hE0,hb,hg,hE,Hsz⟩:=ju3 28 h;clear h;have hu2:∀W,Ext wb W->c9 W u R:=fun W hW=>hu.ext (hE0.trans hW);have hO0:Own 3 wb (wb.alloc (.cells #[] 3)) (.slice (some ⟨wb.heap.size,0,none⟩) 0 0) []:=m7 om hE [] rfl;have hE1:=hE.alloc (.cells #[] 3);have hb1:=hb _ hE1;have cF2:=fun W (hW:Ext wb W)=>cF W (hg W hW) (hu2 W hW);have hF1:=d95 (l:=l) (R:=R);obtain⟨F,hFd⟩:=nq (J8 l R);rw[<-hFd] at hF1 ⊢;simp only[<-hFd] at cF2;have HC:=zh (dc4 F);clear hFd cF;go_in;go_wp2_with fail;rw[<-Hwb.out];rw[Hsz.out];go_wp2_with (go_at_call 129;refine (cF2 _ hE1).mono ?_;rintro e w1 ⟨⟨v1,rfl,hF⟩,hE2⟩;obtain⟨aoF,cFa,rfl,-⟩:=hF.shape);have hO1:=hO0.ext hE2;have hE3:=hE1.trans hE2;clear hO0 hE1 hE2;go_loopw [5,19] (fun so sj wr=>∃j:Nat,j<=F.length∧sj=.int .i64 j∧Own 3 wb wr so (b9 (F.take j))∧D7 (wb.alloc (.cells #[] 3)) wr (.slice aoF F.length cFa) F∧Ext wb wr) (fun _ sj _=>F.length - (RowKit.intOf sj).toNat);case atStart=>exact⟨0,om,rfl,hO1,hF,hE3⟩
 case round =>
  clear hO1 hF hE3;obtain⟨j,hj,rfl,hO,hF,hEr⟩:=hrel;by_cases hlt:j<F.length
  . have hltI:(j:Int)<(F.length:Int):=(by omega);have hF':=hF;obtain⟨ao3,c3,hv3,-,hc3⟩:=hF'.shape;simp only[Value.slice.injEq] at hv3;obtain⟨rfl,-,rfl⟩:=hv3;obtain⟨gF,uF,rfl,hcu,hRu⟩:=hc3 j hlt;have hixF:=b84 elW szW gF F.length cFa;obtain⟨d,hd⟩:=nq (F.getD j 0);rw[<-hd] at hRu;obtain⟨aoU,cU,rfl⟩:=hRu.shape;have Hs:Hid (b9 (F.take (j+1))=b9 (F.take j)++[(d:Int)]):=zh (by rw[show F.take (j+1)=F.take j++[d] by rw[hd,List.take_succ_eq_append_getElem hlt];simp[List.getD,hlt],D5]);have hln:(b9 (F.take j)).length<17592186044416:=(by rw[j2,List.length_take];omega);clear hd hc3 hRu;go_wp2_with (at_builtin;refine K9 slI rfl _ _ rfl wb _ _ _ _ hO hEr hln rfl rfl ?_;intro v2 w2 hO2 hG2 hN2);go_roundw;(case rel=>exact⟨j+1,om,zg,by rw[Hs.out];exact hO2,hF'.grownI hO hG2,hEr.grown hG2 (fun g hg=>(hO.blk g hg).1)⟩);case measure=>(simp[RowKit.intOf];omega)
  . have hltI:¬(j:Int)<(F.length:Int):=(by omega);have hjl:j=F.length:=om;subst hjl;rw[List.take_length] at hO;have cS:=j63 hO hEr (by rw[j2];omega);go_wp2_with (first | (go_at_call 209;refine cS.mono ?_;rintro e w2 ⟨rfl,hO2,hE2⟩;have cC:=d77 hO2 hE2 (by rw[List.length_mergeSort,j2];omega)) | (go_at_call 241;refine cC.mono ?_;rintro e w3 ⟨v3,rfl,hO3,hE3⟩));go_ret;exact⟨⟨_,rfl,by rw[HC.out] at hO3;exact hO3.mono hE0⟩,hE0.trans hE3⟩
theorem E6.keep{w0 w W:World}{v:Value}{A:List (List Nat)}(h:E6 w0 w v A)(hk:∀k T cs,Blk w k T cs->(T=3∨T=26)->Blk W k T cs):∃L:List Value,L.length=A.length∧A5 26 w0 W v L∧∀i,i<A.length->N8 w (L.getD i (.slice none 0 0)) (A.getD i [])∧N8 W (L.getD i (.slice none 0 0)) (A.getD i []):=by
 obtain⟨L,h1,⟨h2,h3,h4⟩,h5⟩:=h;refine⟨L,h1,⟨h2,⟨h3.1,?_⟩,h4⟩,fun i hi=>?_⟩
 . rcases h3.2 with h | ⟨g,cap,cur,rfl,hg,hh,rest⟩
   . exact Or.inl h
   . exact Or.inr ⟨g,cap,cur,rfl,hg,hk g _ cur hh (Or.inr rfl),rest⟩
 . have h:=h5 i hi;obtain⟨k0,g,cap,cs,k1,k2,k3,k4⟩:=id h;exact⟨h,k0,g,cap,cs,k1,k2,hk g _ cs k3 (Or.inl rfl),k4⟩
theorem jk6{w00 w1 w10:World}{gA cA:Nat}{A:List (List Nat)}{n bA bO bL bT bY gL o:Nat}{vT vY vo0:Value}{cs0:Array Value}{C:List Int}
 (hO:E6 w00 w1 (.slice (some ⟨gA,0,none⟩) A.length cA) A) (hE:Ext w1 w10) (hgL:w1.heap.size<=gL)
 (hBO:Blk w10 bO 88 #[vo0]) (hBo:Blk w10 o 93 cs0) (hR:U5 w10 gL C)
 (hBA:Blk w10 bA 93 #[.slice (some ⟨gA,0,none⟩) A.length cA]) (hoA:o≠bA) (hBL:Blk w10 bL 26 #[.slice (some ⟨gL,0,none⟩) n n])
 (hT:Blk w10 bT 122 #[vT]) (hY:Blk w10 bY 130 #[vY]) :
 ∃Y:Nat->Value,∀W,Fr2 bO gL (some o) w10 W->FacS w00 gA cA Y A n bA bL gL bT bY vT vY W:=by
 obtain⟨L,h1,h2,h3⟩:=hO;refine⟨fun i=>L.getD i (.slice none 0 0),fun W hF=>?_⟩;have keep:∀k T cs,Blk w1 k T cs->(T=3∨T=26)->Blk W k T cs:=fun k T cs hB hT=>by
  have hB':=hB.ext hE
  have hlt:=hB.lt
  refine hF.blk hB' (N7 hB' hBO ?_) om (fun e=>?_)
  . rcases hT with rfl | rfl<;>decide
  . cases e
    refine N7 hB' hBo ?_ rfl
    rcases hT with rfl | rfl<;>decide
 obtain⟨L2,k1,k2,k3⟩:=E6.keep ⟨L,h1,h2,h3⟩ keep;have hL2:∀i,i<A.length->L2.getD i (.slice none 0 0)=L.getD i (.slice none 0 0):=fun i hi=>by
  obtain⟨ao,c,hv,-,hc⟩:=h2.shape
  obtain⟨ao2,c2,hv2,-,hc2⟩:=k2.shape
  simp only[Value.slice.injEq] at hv hv2
  obtain⟨rfl,-,rfl⟩:=hv
  obtain⟨rfl,-,rfl⟩:=hv2
  obtain⟨g,hg,hh⟩:=hc i om
  obtain⟨g2,hg2,hh2⟩:=hc2 i om
  cases hg
  cases hg2
  obtain⟨a1,a2,a3⟩:=h2
  rcases a2.2 with ⟨hv,-⟩ | ⟨g',cap,cur,hv,hg',hh',-⟩
  . cases hv
  . simp only[Value.slice.injEq,Option.some.injEq,Addr.mk.injEq,and_true] at hv
    obtain⟨rfl,-,rfl⟩:=hv
    have q:=keep gA 26 cur hh' (Or.inr rfl)
    have e1:w1.cell? ⟨gA,i,none⟩=W.cell? ⟨gA,i,none⟩:=by
     unfold World.cell?;have q':W.heap[gA]?=some (.cells cur 26 (0,0)):=q;simp only[hh',q']
    rw[e1,hh2] at hh
    exact (Option.some.inj hh)
 refine⟨hF.blk hBA (N7 hBA hBO (by decide)) (N7 hBA hR (by decide)) (fun e=>hoA (by cases e;rfl)),⟨L2,k1,k2,fun i hi=>(k3 i hi).2⟩,fun i hi=>?_,hF.blk hBL (N7 hBL hBO (by decide)) (N7 hBL hR (by decide)) (fun e=>by cases e;exact N7 hBL hBo (by decide) rfl),?_,?_⟩
 . obtain⟨ao,c,hv,-,hc⟩:=k2.shape;simp only[Value.slice.injEq] at hv;obtain⟨rfl,-,rfl⟩:=hv;obtain⟨g,hg,hh⟩:=hc i om;cases hg;rw[hL2 i hi] at hh;have r:=k3 i hi;rw[hL2 i hi] at r;refine⟨hh,r.2,fun e=>?_⟩;obtain⟨-,g,cap,cs,q1,-,q3,-⟩:=r.1;rw[q1] at e;have e2:g=gL:=(by simpa[Value.ownBlock] using e);have:=q3.lt;omega
 . exact (hF.blk hT (N7 hT hBO (by decide)) (N7 hT hR (by decide)) (fun e=>by cases e;exact N7 hT hBo (by decide) rfl)).cell (i:=0) rfl
 . exact (hF.blk hY (N7 hY hBO (by decide)) (N7 hY hR (by decide)) (fun e=>by cases e;exact N7 hY hBo (by decide) rfl)).cell (i:=0) rfl
theorem j94(n:Nat):bd4 n (List.replicate n 0) (b9 []):=⟨zm,fun x hx=>by simp[nth,List.getD,hx,b9]⟩
theorem j95{n:Nat}{C:List Int}{X:List Nat}{j:Nat}(h:bd4 n C (b9 (X.take j)))(hj:j<X.length)(hx:d8 X j<n):bd4 n (C.set (d8 X j) (nth C (d8 X j)+1)) (b9 (X.take (j+1))):=by
 refine⟨by rw[List.length_set];exact h.1,fun y hy=>?_⟩;rw[ch2 (by rw[h.1];exact hx),I8 X j hj,bd5,List.count_append,List.count_singleton];have hy2:=h.2 y hy;rw[bd5] at hy2;by_cases e:d8 X j=y
 . subst e;rw[if_pos rfl,hy2];simp
 . have:(d8 X j == y)=false:=(by simpa using e);rw[if_neg e,hy2,this];simp
theorem zz24{P:Prop}(h:P:=by go_in;go_wp2_with fail;rw[<-Hwb.out];rw[Hsz.out];rw[<-Hwc.out];go_wp2_with (first | (go_at_call 237;refine cA.mono ?_;rintro e w1 ⟨v1,rfl,hO5,hE2⟩;obtain⟨ao1,c1,rfl,-⟩:=hO5.shape;have hE3:=hE2.alloc (.cells #[.slice ao1 (atS l).length c1] 93);have hE13:=hE1.trans hE3;have hb2:=hb _ hE13) | (go_at_call 238;refine (cZ _ hE13).mono ?_;rintro e w2 ⟨rfl,hE4⟩;have hE5:=hE3.trans hE4;have kO3:=kO2 _ hE5));exact bodyPost_ret (v:=.tuple #[.slice (some ⟨wb.heap.size,0,none⟩) 0 0,.bool false]) (by simp[results,Tryz.results129,go_sem]) rfl ⟨⟨_,rfl,(hO1.ext hE5).mono hE0⟩,hE0.trans (hE1.trans hE5)⟩):P:=h
theorem by9(v u:Value)(l R:List Int)(w:World)(h:c9 w v l)(hu:c9 w u R)(hf:P9 l R=false) :
 Calls Tryz.prog 129 #[.agg #[v],u] w fun e w'=>(∃v',e=.returned (.tuple #[v',.bool false])∧D7 w w' v' [])∧Ext w w':=by
 obtain⟨wb,Hwb,hE0,hb,hg,hE,Hsz⟩:=ju3 28 h;clear h;have hu2:∀W,Ext wb W->c9 W u R:=fun W hW=>hu.ext (hE0.trans hW);obtain⟨aoU,cU,adrU,rfl,hlU,hadrU,hcU⟩:=hu.op;clear hadrU hcU hu;have hO0:D7 wb (wb.alloc (.cells #[] 93)) (.slice (some ⟨wb.heap.size,0,none⟩) 0 0) []:=b82 hE;have hE1:=(hE.alloc (.cells #[] 93)).alloc (.cells #[.slice (some ⟨wb.heap.size,0,none⟩) 0 0] 88);have hb1:=hb _ hE1;have kO:((wb.alloc (.cells #[] 93)).alloc (.cells #[.slice (some ⟨wb.heap.size,0,none⟩) 0 0] 88)).cell? ⟨(wb.alloc (.cells #[] 93)).heap.size,0,none⟩=some (.slice (some ⟨wb.heap.size,0,none⟩) 0 0):=(Blk.new _ _ _).cell (i:=0) rfl;have hs1:(wb.alloc (.cells #[] 93)).heap.size=wb.heap.size+1:=zm;rw[hs1] at kO;have hO1:=hO0.ext ((er _).alloc (.cells #[.slice (some ⟨wb.heap.size,0,none⟩) 0 0] 88));clear hs1 hO0;obtain⟨wc,hwc⟩:=nq ((wb.alloc (.cells #[] 93)).alloc (.cells #[.slice (some ⟨wb.heap.size,0,none⟩) 0 0] 88));rw[<-hwc] at hE1 hb1 kO hO1;have Hwc:=zh hwc;clear hwc;have kO2:=fun W (hW:Ext wc W)=>hW.cell kO;have cZ:=fun W (hW:Ext wb W)=>be5 v _ l R W (hg W hW) (hu2 W hW);cases hA:atB l
 . have cA:=dt5 v l wc (hg _ hE1) hA;clear hA hf cZ;go_in;go_wp2_with fail;rw[<-Hwb.out];rw[Hsz.out];rw[<-Hwc.out];go_wp2_with (go_at_call 237;refine cA.mono ?_;rintro e w1 ⟨ao1,rfl,hE2⟩;have kO3:=kO2 (w1.alloc (.cells #[.slice ao1 0 0] 93)) (hE2.alloc _));have hE3:=hE2.alloc (.cells #[.slice ao1 0 0] 93);exact bodyPost_ret (v:=.tuple #[.slice (some ⟨wb.heap.size,0,none⟩) 0 0,.bool false]) (by simp[results,Tryz.results129,go_sem]) rfl ⟨⟨_,rfl,(hO1.ext hE3).mono hE0⟩,hE0.trans (hE1.trans hE3)⟩
 . have cA:=ca8 v l wc (hg _ hE1) hA;cases hZ:zsB l R
   . rw[hZ] at cZ;clear hA hf hZ;exact zz24
   . rw[hZ] at cZ;have hl:¬R.length<=10:=fun hl=>(by unfold P9 at hf;rw[hA,hZ,decide_eq_true hl] at hf;cases hf);have hlI:(10:Int)<(R.length:Int):=om;clear hA hf hZ hl;exact zz24
theorem bt8(v u:Value)(l R:List Int)(w:World)(h:c9 w v l)(hu:c9 w u R)(hf:P9 l R=true) :
 Calls Tryz.prog 129 #[.agg #[v],u] w fun e w'=>(∃v',e=.returned (.tuple #[v',.bool true])∧D7 w w' v' (R8 (atS l) (R.length+1) 0 R))∧Ext w w':=by
 obtain⟨wb,Hwb,hE0,hb,hg,hE,Hsz⟩:=ju3 28 h;clear h;have hu2:∀W,Ext wb W->c9 W u R:=fun W hW=>hu.ext (hE0.trans hW);obtain⟨hA,hZ,hl⟩:atB l=true∧zsB l R=true∧R.length<=10:=by unfold P9 at hf;simpa using hf
 obtain⟨hgr,h7⟩:j1 l=true∧ord l<=7:=by unfold atB at hA;simpa using hA
 have Hgr:=zh hgr;have cZ:=fun W (hW:Ext wb W)=>be5 v _ l R W (hg W hW) (hu2 W hW);have cO:=fun W (hW:Ext wb W)=>p7 v l W (hg W hW) Hgr;simp only[hZ] at cZ;have h48:(atS l).length<=48:=by rw[bg5];exact c08 hgr h7
 have h1a:∀a∈atS l,1<=a.length:=fun a ha=>(bu4 hgr h7 (c71 ha)).1;have hAn:∀a∈atS l,a.length<=50∧∀x∈a,x<ord l:=fun a ha=>by have:=bu4 hgr h7 (c71 ha);exact⟨om,this.2.2⟩
 have hpos:0<(atS l).length:=by rw[bg5];rw[<-bg5];exact (db0 (cf5 hgr h7)).one
 have HBd:=zh (d96 hgr h7 (R.length+1) 0 hl);have hseq:D2 l R=true:=by unfold zsB at hZ;simp only[Bool.and_eq_true] at hZ;exact hZ.1
 have hlI:¬(10:Int)<(R.length:Int):=om;obtain⟨X,rfl,hXn,-,-,-⟩:=N6 hseq;rw[j2] at hl hlI HBd ⊢;obtain⟨aoU,cU,adrU,rfl,hadrU,hcU⟩:=hu.nats;have hixU:=j3 (c:=cU) elI szI hadrU;have HcU:=zh (fun W (hW:Ext wb W) i hi=>hcU i W hi (hE0.trans hW));have hO0:D7 wb (wb.alloc (.cells #[] 93)) (.slice (some ⟨wb.heap.size,0,none⟩) 0 0) []:=b82 hE;have hBo0:Blk (wb.alloc (.cells #[] 93)) wb.heap.size 93 #[]:=Blk.new _ _ _;have hE1:=(hE.alloc (.cells #[] 93)).alloc (.cells #[.slice (some ⟨wb.heap.size,0,none⟩) 0 0] 88);have hb1:=hb _ hE1;have hs1:(wb.alloc (.cells #[] 93)).heap.size=wb.heap.size+1:=zm;have BO:Blk ((wb.alloc (.cells #[] 93)).alloc (.cells #[.slice (some ⟨wb.heap.size,0,none⟩) 0 0] 88)) (wb.heap.size+1) 88 #[.slice (some ⟨wb.heap.size,0,none⟩) 0 0]:=by rw[<-hs1];exact Blk.new _ _ _
 have eE:=(er (wb.alloc (.cells #[] 93))).alloc (.cells #[.slice (some ⟨wb.heap.size,0,none⟩) 0 0] 88);have hO1:=hO0.ext eE;have Bo:=hBo0.ext eE;obtain⟨wc,hwc⟩:=nq ((wb.alloc (.cells #[] 93)).alloc (.cells #[.slice (some ⟨wb.heap.size,0,none⟩) 0 0] 88));rw[<-hwc] at hE1 hb1 hO1 BO Bo;have Hwc:=zh hwc;have cA:=ca8 v l wc (hg _ hE1) hA;obtain⟨A,hAd⟩:=nq (atS l);rw[<-hAd] at h48 h1a hAn hpos HBd cA ⊢;obtain⟨n,hnd⟩:=nq (ord l);simp only[<-hnd] at cO h7 hAn hXn;have H1a:=zh h1a;have HAn:=zh hAn;have HXn:=zh hXn;have hmf:∀(fn:Fn) (first cap:Array Value) (w:World),(Instr.makeFunc fn first cap).run Tryz.prog w=.ok (.func fn first cap) w:=fun _ _ _ _=>rfl;clear hwc hO0 hs1 eE hBo0 hA hZ hf hgr hseq hadrU hcU hu hAd hnd h1a hAn hXn;go_in;go_wp2_with fail;rw[<-Hwb.out];rw[Hsz.out];rw[<-Hwc.out];go_wp2_with (first | (go_at_call 237;refine cA.mono ?_;rintro e w1 ⟨v1,rfl,hO5,hE2⟩;obtain⟨ao1,c1,rfl,-,hcA⟩:=hO5.shape;obtain⟨gA,-,rfl,-,-⟩:=hcA 0 hpos;have hE3:=hE2.alloc (.cells #[.slice (some ⟨gA,0,none⟩) A.length c1] 93);have hE13:=hE1.trans hE3;have hb2:=hb _ hE13) | (go_at_call 238;refine (cZ _ hE13).mono ?_;rintro e w2 ⟨rfl,hE4⟩;have hE5:=hE13.trans hE4;have hb3:=hb _ hE5) | (go_at_call 99;refine (cO _ hE5).mono ?_;rintro e w3 ⟨rfl,hE6⟩;have hE7:=hE5.trans hE6) | (at_make;refine X5 slI rfl _ _ rfl _ _ n rfl rfl om (er _) ?_;intro w4 hO4 hE8));obtain⟨w5,h5⟩:=nq (w4.alloc (.cells #[.slice (some ⟨w3.heap.size,0,none⟩) n n] 26));rw[<-h5];have s5:w5.heap.size=w4.heap.size+1:=by rw[h5];simp
 have e45:Ext w4 w5:=by rw[h5];exact (er _).alloc _
 have R4:U5 w4 w3.heap.size (List.replicate n 0):=dd8 hO4 zm;have BL:Blk w5 w4.heap.size 26 #[.slice (some ⟨w3.heap.size,0,none⟩) n n]:=by rw[h5];exact Blk.new _ _ _
 have s1:=(hO5.ext ((er w1).alloc (.cells #[.slice (some ⟨gA,0,none⟩) A.length c1] 93)));have BA:Blk (w1.alloc (.cells #[.slice (some ⟨gA,0,none⟩) A.length c1] 93)) w1.heap.size 93 #[.slice (some ⟨gA,0,none⟩) A.length c1]:=Blk.new _ _ _;have e1a:=(er w1).alloc (.cells #[.slice (some ⟨gA,0,none⟩) A.length c1] 93);have e15:Ext w1 w5:=e1a.trans (hE4.trans (hE6.trans (hE8.trans e45)));have e1a5:Ext (w1.alloc (.cells #[.slice (some ⟨gA,0,none⟩) A.length c1] 93)) w5:=hE4.trans (hE6.trans (hE8.trans e45));have ec5:Ext wc w5:=hE2.trans e15;have z1:w1.heap.size<w3.heap.size:=nlt BA.lt (hE4.trans hE6).size;have z34:w3.heap.size<w4.heap.size:=R4.lt;have hR5:U5 w5 w3.heap.size (List.replicate n 0):=R4.ext e45;have BA5:=BA.ext e1a5;have BO5:=BO.ext ec5;have Bo5:=Bo.ext ec5;have hO15:=hO1.ext ec5;have zo:wb.heap.size<w1.heap.size:=by have:=BO.lt;have:=hE2.size;omega
 have eb5:Ext wb w5:=hE1.trans ec5;have HO5:=zh hO5;have HR5:=zh hR5;have H15:=zh e15;have HBA:=zh BA5;have HBO:=zh BO5;have HBo:=zh Bo5;have HBL:=zh BL;have HO15:=zh hO15;have Heb:=zh eb5;have hixL:=b65 w3.heap.size n n;clear h5 hO4 BL R4 s1 BA e1a e15 e1a5 ec5 e45 hO5 BA5 BO5 Bo5 hO15 hO1 BO Bo hE8 hb2 hb3 hE13 hE5 hE3 hE7 cA cZ cO eb5;go_loopw [11,39] (fun _ sj wr=>∃(j:Nat) (C:List Int),j<=X.length∧sj=.int .i64 j∧bd4 n C (b9 (X.take j))∧U5 wr w3.heap.size C∧w5.grownBy wr (some w3.heap.size)) (fun _ sj _=>X.length - (RowKit.intOf sj).toNat);case atStart=>exact⟨0,_,om,rfl,j94 n,hR5,bf8 _ _⟩
 case round =>
  clear hR5;obtain⟨j,C,hj,rfl,hC,hR,hG⟩:=hrel;have hEr:Ext wb wr:=Heb.out.grown hG (fun g hg=>by cases hg;have:=Heb.out.size;have:=zo;have:=z1;omega);have kL:wr.cell? ⟨w4.heap.size,0,none⟩=some (.slice (some ⟨w3.heap.size,0,none⟩) n n):=(HBL.out.grown hG (fun g hg e=>by cases hg;omega)).cell (i:=0) rfl;by_cases hlt:j<X.length
  . have hltI:(j:Int)<(X.length:Int):=(by omega);have hcx:=HcU.out wr hEr j hlt;have hx:=HXn.out _ (o6 hlt);have hlen:C.length=n:=hC.1;have hst:=j95 hC hlt hx;have hcc:=hR.cell (i:=d8 X j) om;have hbd:0<=nth C (d8 X j)∧nth C (d8 X j)<=10:=d69 hC (by rw[j2,List.length_take];omega) _;have hfr:=hR.fr (d8 X j);have hRf:=hR.set (d8 X j) (nth C (d8 X j)+1);have hGf:=bp1 hG (Nw.refl _ _) (cx6 wr w3.heap.size (d8 X j) (.int .i64 (nth C (d8 X j)+1)));obtain⟨x,hxd⟩:=nq (d8 X j);rw[<-hxd] at hcx hx hst hcc hbd hfr hRf hGf;obtain⟨y,hyd⟩:=nq (nth C x);rw[<-hyd] at hst hcc hbd hRf hGf;have hwk:IntKind.i64.wrap (y+1)=y+1:=IntWalk.i64_in _ om;have Hst:=zh hst;have HRf:=zh hRf;have HGf:=zh hGf;have Hlen:=zh hlen;clear hxd hyd hC hR hst hRf hGf hlen;go_wp2_with fail;go_roundw;(case rel=>exact⟨j+1,_,om,zg,Hst.out,HRf.out,HGf.out⟩);case measure=>(simp[RowKit.intOf];omega)
  . have hltI:¬(j:Int)<(X.length:Int):=(by omega);have hjl:j=X.length:=om;subst hjl;rw[List.take_length] at hC;have HC:=zh hC;have HR:=zh hR;have HG:=zh hG;clear hC hR hG;go_wp2_with fail;obtain⟨w7,h7⟩:=nq (wr.alloc (.cells #[.func (.func 239) #[] #[.pointer (some ⟨w4.heap.size,0,none⟩)]] 122));rw[<-h7];obtain⟨w8,h8⟩:=nq (w7.alloc (.cells #[.func (.func 240) #[] #[.pointer (some ⟨w1.heap.size,0,none⟩),.pointer (some ⟨wb.heap.size+1,0,none⟩),.pointer (some ⟨wr.heap.size,0,none⟩),.pointer (some ⟨wr.heap.size+1,0,none⟩)]] 130));rw[<-h8];have hs7:w7.heap.size=wr.heap.size+1:=(by rw[h7];simp);have BT:Blk w7 wr.heap.size 122 #[.func (.func 239) #[] #[.pointer (some ⟨w4.heap.size,0,none⟩)]]:=(by rw[h7];exact Blk.new _ _ _);have BY:Blk w8 (wr.heap.size+1) 130 #[.func (.func 240) #[] #[.pointer (some ⟨w1.heap.size,0,none⟩),.pointer (some ⟨wb.heap.size+1,0,none⟩),.pointer (some ⟨wr.heap.size,0,none⟩),.pointer (some ⟨wr.heap.size+1,0,none⟩)]]:=(by rw[h8,<-hs7];exact Blk.new _ _ _);have e7:Ext wr w7:=(by rw[h7];exact (er _).alloc _);have e8:Ext w7 w8:=(by rw[h8];exact (er _).alloc _);obtain⟨w9,h9⟩:=nq (w8.alloc (.cells #[] 3));rw[<-h9];have e9:Ext w8 w9:=(by rw[h9];exact (er _).alloc _);clear h7 h8 h9;have er9:=e7.trans (e8.trans e9);have e15:=(H15.out.grown HG.out (fun g hg=>by cases hg;omega)).trans er9;have BA9:=(HBA.out.grown HG.out (fun g hg e=>by cases hg;omega)).ext er9;have BO9:=(HBO.out.grown HG.out (fun g hg e=>by cases hg;omega)).ext er9;have Bo9:=(HBo.out.grown HG.out (fun g hg e=>by cases hg;omega)).ext er9;have BL9:=(HBL.out.grown HG.out (fun g hg e=>by cases hg;omega)).ext er9;have hO9:=((HO15.out.row HR5.out HG.out).ext er9).mono hE0;have hR9:=HR.out.ext er9;have eW9:Ext w w9:=hE0.trans ((Heb.out.grown HG.out (fun g hg=>by cases hg;omega)).trans er9);have zw:=hE0.size;obtain⟨Y,hY⟩:=jk6 HO5.out e15 om BO9 Bo9 hR9 BA9 om BL9 ((BT.ext e8).ext e9) (BY.ext e9);have ho0:∀k,some wb.heap.size=some k->w.heap.size<=k:=fun k hk=>(by cases hk;omega);have q:=jg4 gA c1 Y A n w1.heap.size (wb.heap.size+1) w4.heap.size wr.heap.size (wr.heap.size+1) w3.heap.size (some wb.heap.size) wc w w9 h48 H1a.out HAn.out (zh hY) eW9 om om ho0 hR9.lt
     (X.length+1) 0 (b9 X) [] [] C (.slice (some ⟨wr.heap.size+1+1,0,none⟩) 0 0) (.slice (some ⟨wb.heap.size,0,none⟩) 0 0) w9 (by rw[j2];omega) (by rw[j2];simp;omega) om (Fr2.refl _ _ _ _) (Or.inl rfl) (Or.inl ⟨rfl,_,_,rfl⟩) zm BO9 hO9 hR9 HC.out (by have:=HBd.out;simp;omega)
    rw[j2,show ((0:Nat):Int)=0 from rfl] at q;have eF:([]:List Nat)++(R8 A (X.length+1) 0 (b9 X)).map (([]:List Nat).length + ·)=R8 A (X.length+1) 0 (b9 X):=zm;rw[eF] at q;obtain⟨F,hF⟩:=nq (R8 A (X.length+1) 0 (b9 X));rw[<-hF] at q;have HF:=zh hF;refine Calls.mono q ?_;rintro e wz ⟨rfl,vF,hP⟩;obtain⟨hP1,hP2,-,hP4,-⟩:=hP;obtain⟨aoF,cF,rfl,-⟩:=hP2.shape;have kF:=hP1.cell (i:=0) (v:=.slice aoF F.length cF) rfl;have eWz:=hP4.ext eW9 om om ho0;clear q eF hF;go_wp2_with fail;exact bodyPost_ret (v:=.tuple #[.slice aoF F.length cF,.bool true]) (by simp[results,Tryz.results129,go_sem]) rfl ⟨⟨_,rfl,by rw[<-HF.out];exact hP2⟩,eWz⟩
theorem b87(v u:Value)(l R:List Int)(w:World)(h:c9 w v l)(hu:c9 w u R) :
 Calls Tryz.prog 129 #[.agg #[v],u] w fun e w'=>(∃v',e=.returned (.tuple #[v',.bool (P9 l R)])∧D7 w w' v' (J8 l R))∧Ext w w':=by
 cases hf:P9 l R
 . rw[bq8 hf];exact by9 v u l R w h hu hf
 . have e:J8 l R=R8 (atS l) (R.length+1) 0 R:=(by unfold J8;rw[hf];rfl);rw[e];exact bt8 v u l R w h hu hf
theorem d19(v u:Value)(l R:List Int)(w:World)(h:c9 w v l)(hu:c9 w u R) :
 Calls Tryz.prog 130 #[.agg #[v],u] w fun e w'=>(∃v',e=.returned v'∧Own 3 w w' v' (b9 (S8 (J8 l R))))∧Ext w w' :=
 d47 v u l R w h hu fun W h1 h2=>b87 v u l R W h1 h2
theorem d56:∀(L:List Nat) (m n:Nat),L.Pairwise (· < ·)->(∀x∈L,m<=x∧x<=n)->L.length<=n+1 - m
 | [],_,_,_,_=>Nat.zero_le _
 | x :: L,m,n,h,hb=>by
  rw[List.pairwise_cons] at h
  have h1:=hb x zm
  have:=d56 L (x+1) n h.2 fun y hy=>⟨h.1 y hy,(hb y (by simp[hy])).2⟩
  rw[List.length_cons];omega
theorem dc2(l R:List Int):(∀i,i<(b9 (S8 (J8 l R))).length -> -9<=nth (b9 (S8 (J8 l R))) i∧nth (b9 (S8 (J8 l R))) i<1000000000000)∧(b9 (S8 (J8 l R))).length<=40:=by
 have hb:∀x∈S8 (J8 l R),0<=x∧x<=10:=fun x hx=>⟨Nat.zero_le _,cx0 x ((cg0 _ x).1 hx)⟩;constructor
 . intro i hi;rw[j2] at hi;rw[H8];have:=hb _ (o6 hi);omega
 . rw[j2];have:=d56 _ 0 10 (dc3 (J8 l R)) hb;omega
theorem j66{l:List Int}{X:List Nat}(h12:X.length<=12)(hX:∀x∈X,x<24):(∀i,i<(b9 (szR l X)).length -> -9<=nth (b9 (szR l X)) i∧nth (b9 (szR l X)) i<1000000000000)∧(b9 (szR l X)).length<=40:=by
 have key:(∀x∈szR l X,x<24)∧(szR l X).length<=36:=by
  unfold szR bk6;split
  . simp
  . have:=jd5 X (szN l X);exact⟨fun x hx=>hX x (Y2 hx),om⟩
 constructor
 . intro i hi;rw[j2] at hi;rw[H8];have:=key.1 _ (o6 hi);omega
 . rw[j2];omega
theorem j22(s:ByteArray)(f:Nat->ByteArray)(hs:s.size<=1):∀k,(∀i,i<k->(f i).size<=27)->(jn s f k).size<=28*k
 | 0,_=>Nat.le_refl _
 | 1,h=>by
  have:=h 0 om
  rw[b69,ByteArray.size_append]
  have e:(⟨#[]⟩:ByteArray).size=0:=rfl
  omega
 | k+2,h=>by
  have ih:=j22 s f hs (k+1) fun i hi=>h i om
  have:=h (k+1) om
  rw[b80 s f om,ByteArray.size_append,ByteArray.size_append];omega
theorem dp7(l xs:List Int):(fqF l xs).size<=400:=by
 cases hs:D2 l xs
 . rw[c22 hs];decide
 . obtain⟨X,rfl,-,hX12,-,hX⟩:=N6 hs;by_cases h0:X.length=0
   . rw[bi7 hs (by rw[j2];exact h0)];decide
   . rw[bq9 hs h0];have hfl:=bb3 X X.length;have:=j22 sp1 (C0 (fqL X X.length)) (by decide) (fqL X X.length).length (fun i hi=>bb4 (X:=X) om hX X.length (Nat.le_refl _) _ (bc1 hi));omega
theorem dp8(l:List Int)(a:Int):(fsF l a).size<=560:=by
 cases h:j4 l a
 . rw[br1 h];decide
 . exact zz167
theorem ca0(v u:Value)(l:List Int)(X:List Nat)(w:World)(h:c9 w v l)(hu:c9 w u (b9 X))(hs:D2 l (b9 X)=true) :
 Calls Tryz.prog 126 #[.agg #[v],u] w fun e w'=>e=.returned (.int .i64 (tot l X:Nat))∧Ext w w':=by
 obtain⟨wb,Hwb,hE0,hb,hg,hE,Hsz⟩:=ju3 28 h;clear h;obtain⟨-,hgr,hX⟩:=b85 hs;have hu2:∀W,Ext wb W->c9 W u (b9 X):=fun W hW=>hu.ext (hE0.trans hW);have cS:=fun W (hW:Ext wb W)=>E5 v u l (b9 X) W (hg W hW) (hu2 W hW) hs;have cT:=fun W (hW:Ext wb W)=>b42 v u l X W (hg W hW) (hu2 W hW) (zh hgr) (zh hX);have hbx:=hb wb hE;obtain⟨n,hn⟩:=nq (tot l X);simp only[<-hn] at cT ⊢;clear hX hgr hs hu hn;go_in;go_wp2_with fail;rw[<-Hwb.out];go_wp2_with (first | (go_at_call 124;refine (cS _ hE).mono ?_;rintro e w1 ⟨rfl,hE1⟩;have hb1:=hb _ hE1) | (go_at_call 234;refine (cT _ hE1).mono ?_;rintro e w2 ⟨rfl,hE2⟩));go_ret;exact⟨rfl,hE0.trans (hE1.trans hE2)⟩
theorem d20(v u:Value)(l:List Int)(X:List Nat)(w:World)(h:c9 w v l)(hu:c9 w u (b9 X))(hs:D2 l (b9 X)=true) :
 Calls Tryz.prog 127 #[.agg #[v],u] w fun e w'=>e=.returned (.int .i64 (sbs l X:Nat))∧Ext w w':=by
 obtain⟨wb,Hwb,hE0,hb,hg,hE,Hsz⟩:=ju3 28 h;clear h;obtain⟨-,hgr,hX⟩:=b85 hs;have hu2:∀W,Ext wb W->c9 W u (b9 X):=fun W hW=>hu.ext (hE0.trans hW);have cS:=fun W (hW:Ext wb W)=>E5 v u l (b9 X) W (hg W hW) (hu2 W hW) hs;have cT:=fun W (hW:Ext wb W)=>cc9 v u l X W (hg W hW) (hu2 W hW) (zh hgr) (zh hX);have hbx:=hb wb hE;obtain⟨n,hn⟩:=nq (sbs l X);simp only[<-hn] at cT ⊢;clear hX hgr hs hu hn;go_in;go_wp2_with fail;rw[<-Hwb.out];go_wp2_with (first | (go_at_call 124;refine (cS _ hE).mono ?_;rintro e w1 ⟨rfl,hE1⟩;have hb1:=hb _ hE1) | (go_at_call 235;refine (cT _ hE1).mono ?_;rintro e w2 ⟨rfl,hE2⟩));go_ret;exact⟨rfl,hE0.trans (hE1.trans hE2)⟩
def bk3(A B C D E:ByteArray)(b1 b2 b3 b4:Bool):ByteArray:=(((if b2 then (((if b1 then ((((((((⟨#[115,101,113,117,101,110,99,101,32]⟩:ByteArray)++A)++(⟨#[32,115,117,109,32]⟩:ByteArray))++B)++(⟨#[32,115,117,98,115,117,109,115,32]⟩:ByteArray))++C)++(⟨#[32,115,104,111,114,116,101,115,116,32]⟩:ByteArray))++D) else ((((((⟨#[115,101,113,117,101,110,99,101,32]⟩:ByteArray)++A)++(⟨#[32,115,117,109,32]⟩:ByteArray))++B)++(⟨#[32,115,117,98,115,117,109,115,32]⟩:ByteArray))++C))++(⟨#[32,108,101,110,103,116,104,115,32]⟩:ByteArray))++E) else (if b1 then ((((((((⟨#[115,101,113,117,101,110,99,101,32]⟩:ByteArray)++A)++(⟨#[32,115,117,109,32]⟩:ByteArray))++B)++(⟨#[32,115,117,98,115,117,109,115,32]⟩:ByteArray))++C)++(⟨#[32,115,104,111,114,116,101,115,116,32]⟩:ByteArray))++D) else ((((((⟨#[115,101,113,117,101,110,99,101,32]⟩:ByteArray)++A)++(⟨#[32,115,117,109,32]⟩:ByteArray))++B)++(⟨#[32,115,117,98,115,117,109,115,32]⟩:ByteArray))++C)))++(if b3 then (⟨#[32,97,116,111,109]⟩:ByteArray) else (⟨#[]⟩:ByteArray)))++(if b4 then (⟨#[32,102,114,101,101]⟩:ByteArray) else (⟨#[]⟩:ByteArray)))
noncomputable def sqlF (l xs:List Int):ByteArray :=
 if D2 l xs then
  bk3 (fqF l xs) (o3 (tot l (xs.map Int.toNat):Nat)) (fsF l (sbs l (xs.map Int.toNat):Nat)) (F7 (b9 (szR l (xs.map Int.toNat)))) (F7 (b9 (S8 (J8 l xs)))) (szB l (xs.map Int.toNat)) (P9 l xs) (b09 l xs) (zfB l xs)
 else ⟨#[]⟩
theorem j64{l xs:List Int}(h:D2 l xs=false):sqlF l xs=⟨#[]⟩:=by unfold sqlF;rw[h];rfl
theorem ds4{l:List Int}{X:List Nat}(h:D2 l (b9 X)=true):sqlF l (b9 X)=bk3 (fqF l (b9 X)) (o3 (tot l X:Nat)) (fsF l (sbs l X:Nat)) (F7 (b9 (szR l X))) (F7 (b9 (S8 (J8 l (b9 X))))) (szB l X) (P9 l (b9 X)) (b09 l (b9 X)) (zfB l (b9 X)):=by
 unfold sqlF;rw[if_pos h,dz5]
theorem je7(A B C D E:ByteArray)(b1 b2:Bool):(if b2 then C9 [(if b1 then C9 [C9 [(⟨#[115,101,113,117,101,110,99,101]⟩:ByteArray),A,(⟨#[115,117,109]⟩:ByteArray),B,(⟨#[115,117,98,115,117,109,115]⟩:ByteArray),C],(⟨#[115,104,111,114,116,101,115,116]⟩:ByteArray),D] else C9 [(⟨#[115,101,113,117,101,110,99,101]⟩:ByteArray),A,(⟨#[115,117,109]⟩:ByteArray),B,(⟨#[115,117,98,115,117,109,115]⟩:ByteArray),C]),(⟨#[108,101,110,103,116,104,115]⟩:ByteArray),E] else (if b1 then C9 [C9 [(⟨#[115,101,113,117,101,110,99,101]⟩:ByteArray),A,(⟨#[115,117,109]⟩:ByteArray),B,(⟨#[115,117,98,115,117,109,115]⟩:ByteArray),C],(⟨#[115,104,111,114,116,101,115,116]⟩:ByteArray),D] else C9 [(⟨#[115,101,113,117,101,110,99,101]⟩:ByteArray),A,(⟨#[115,117,109]⟩:ByteArray),B,(⟨#[115,117,98,115,117,109,115]⟩:ByteArray),C]))=(if b2 then (((if b1 then ((((((((⟨#[115,101,113,117,101,110,99,101,32]⟩:ByteArray)++A)++(⟨#[32,115,117,109,32]⟩:ByteArray))++B)++(⟨#[32,115,117,98,115,117,109,115,32]⟩:ByteArray))++C)++(⟨#[32,115,104,111,114,116,101,115,116,32]⟩:ByteArray))++D) else ((((((⟨#[115,101,113,117,101,110,99,101,32]⟩:ByteArray)++A)++(⟨#[32,115,117,109,32]⟩:ByteArray))++B)++(⟨#[32,115,117,98,115,117,109,115,32]⟩:ByteArray))++C))++(⟨#[32,108,101,110,103,116,104,115,32]⟩:ByteArray))++E) else (if b1 then ((((((((⟨#[115,101,113,117,101,110,99,101,32]⟩:ByteArray)++A)++(⟨#[32,115,117,109,32]⟩:ByteArray))++B)++(⟨#[32,115,117,98,115,117,109,115,32]⟩:ByteArray))++C)++(⟨#[32,115,104,111,114,116,101,115,116,32]⟩:ByteArray))++D) else ((((((⟨#[115,101,113,117,101,110,99,101,32]⟩:ByteArray)++A)++(⟨#[32,115,117,109,32]⟩:ByteArray))++B)++(⟨#[32,115,117,98,115,117,109,115,32]⟩:ByteArray))++C))):=by
 apply Y0;cases b1<;>cases b2<;>simp[C9,jn,C0,spB,List.getD]
theorem ce0(v u:Value)(l xs:List Int)(w:World)(h:c9 w v l)(hu:c9 w u xs) :
 Calls Tryz.prog 31 #[.agg #[v],u] w fun e w'=>e=.returned (.string (sqlF l xs))∧Ext w w':=by
 obtain⟨wb,Hwb,hE0,hb,hg,hE,Hsz⟩:=ju3 28 h;clear h;have hbx:=hb wb hE;have hU0:∀W,Ext wb W->c9 W u xs:=fun W hW=>hu.ext (hE0.trans hW);cases hs:D2 l xs
 . have cQ:=fun W (hW:Ext wb W)=>E5 v u l xs W (hg W hW) (hU0 W hW) hs;have Hs:=zh (j64 hs);clear hU0 hu;go_in;go_wp2_with fail;rw[<-Hwb.out];refine (cQ _ hE).mono ?_;exact zz44
 obtain⟨X,rfl,-,-,-,-⟩:=N6 hs;obtain⟨h12,hgr,hX⟩:=b85 hs;have hU:=hU0;have hsb:=ba6 hgr X hX;have htb:=be3 hgr X;have hzr:=j66 (l:=l) h12 hX;have hlv:=dc2 l (b9 X);have Hs:=zh (ds4 hs);have sA:=dp7 l (b9 X);have sB:=o9 (n:=((tot l X:Nat):Int)) om;have sC:=dp8 l (sbs l X:Nat);have sD:=O7 hzr.1 hzr.2;have sE:=O7 hlv.1 hlv.2;have cQ:=fun W (hW:Ext wb W)=>E5 v u l (b9 X) W (hg W hW) (hU W hW) hs;have cA:=fun W (hW:Ext wb W)=>bd9 v u l (b9 X) W (hg W hW) (hU W hW);have cB0:=fun W (hW:Ext wb W)=>ca0 v u l X W (hg W hW) (hU W hW) hs;have cB:=fun W=>A4 ((tot l X:Nat):Int) om W;have cC0:=fun W (hW:Ext wb W)=>d20 v u l X W (hg W hW) (hU W hW) hs;have cC:=fun W (hW:Ext wb W)=>K7 v l (sbs l X:Nat) W (hg W hW);have cZ:=fun W (hW:Ext wb W)=>ce1 v u l X W (hg W hW) (hU W hW) hs;have cD:=fun p W (hp:c9 W p (b9 (szR l X)))=>b37 p (b9 (szR l X)) W hp hzr.1 om;have cL:=fun W (hW:Ext wb W)=>d19 v u l (b9 X) W (hg W hW) (hU W hW);have cE:=fun p W (hp:c9 W p (b9 (S8 (J8 l (b9 X)))))=>b37 p (b9 (S8 (J8 l (b9 X)))) W hp hlv.1 om;have c3:=fun W (hW:Ext wb W)=>cj8 v u l (b9 X) W (hg W hW) (hU W hW);have c4:=fun W (hW:Ext wb W)=>cq3 v u l (b9 X) W (hg W hW) (hU W hW);have cF:=fun W (hW:Ext wb W)=>b87 v u l (b9 X) W (hg W hW) (hU W hW);obtain⟨b2,hb2⟩:=nq (P9 l (b9 X));rw[<-hb2] at Hs;simp only[<-hb2] at cF;obtain⟨fv,hfv⟩:=nq (J8 l (b9 X));simp only[<-hfv] at cF;clear hfv;obtain⟨b3,hb3⟩:=nq (b09 l (b9 X));obtain⟨b4,hb4⟩:=nq (zfB l (b9 X));rw[<-hb3,<-hb4] at Hs;simp only[<-hb3] at c3;simp only[<-hb4] at c4;obtain⟨b1,hb1⟩:=nq (szB l X);rw[<-hb1] at Hs;simp only[<-hb1] at cZ;obtain⟨A,hA⟩:=nq (fqF l (b9 X));obtain⟨B,hB⟩:∃x,x=o3 ((tot l X:Nat):Int):=⟨_,rfl⟩;obtain⟨C,hC⟩:∃x,x=fsF l (sbs l X:Nat):=⟨_,rfl⟩;obtain⟨D,hD⟩:=nq (F7 (b9 (szR l X)));obtain⟨E,hE'⟩:∃x,x=F7 (b9 (S8 (J8 l (b9 X)))):=⟨_,rfl⟩;rw[<-hA,<-hB,<-hC,<-hD,<-hE'] at Hs;simp only[<-hA] at cA sA;simp only[<-hB] at cB sB;simp only[<-hC] at cC sC;simp only[<-hD] at cD sD;simp only[<-hE'] at cE sE;obtain⟨tn,htn⟩:=nq (tot l X);obtain⟨sn,hsn⟩:=nq (sbs l X);obtain⟨zl,hzl⟩:=nq (b9 (szR l X));obtain⟨ll,hll⟩:=nq (b9 (S8 (J8 l (b9 X))));simp only[<-htn] at cB0 cB;simp only[<-hsn] at cC0 cC;simp only[<-hzl] at cZ cD;simp only[<-hll] at cL cE;obtain⟨aoU,cU,adrU,rfl,hadrU,hcU⟩:=(hU _ hE).nats;clear hadrU hcU;clear hb1 hb2 hb3 hb4 hA hB hC hD hE' htn hsn hzl hll hsb htb hzr hlv hs hX hgr hU0 hU hu;obtain⟨X0,hX0,cL0⟩:=b70 [(⟨#[115,101,113,117,101,110,99,101]⟩:ByteArray),A,(⟨#[115,117,109]⟩:ByteArray),B,(⟨#[115,117,98,115,117,109,115]⟩:ByteArray),C] (by simp[o8];omega);have z0:X0.size<=1200:=hX0 ▸ nle (b14 _) (by simp[G4,o8];omega);simp only[List.map_cons,List.map_nil,List.length_cons,List.length_nil,Nat.reduceAdd,Nat.zero_add] at cL0;obtain⟨X1,hX1,z1,cI1⟩:=J0 X0 b1 [(⟨#[115,104,111,114,116,101,115,116]⟩:ByteArray),D] _ z0 (by simp[o8];omega) (by simp[G4,o8];omega);replace z1:X1.size<=1800:=nle z1 (by simp[G4,o8];omega);simp only[List.map_cons,List.map_nil,List.length_cons,List.length_nil,Nat.reduceAdd,Nat.zero_add] at cI1;obtain⟨X2,hX2,z2,cI2⟩:=J0 X1 b2 [(⟨#[108,101,110,103,116,104,115]⟩:ByteArray),E] _ z1 (by simp[o8];omega) (by simp[G4,o8];omega);replace z2:X2.size<=2400:=nle z2 (by simp[G4,o8];omega);simp only[List.map_cons,List.map_nil,List.length_cons,List.length_nil,Nat.reduceAdd,Nat.zero_add] at cI2;obtain⟨X3,hX3,z3,cI3⟩:=J0 X2 b3 [(⟨#[97,116,111,109]⟩:ByteArray)] _ z2 (by simp[o8]) (by simp[G4,o8]);simp only[List.map_cons,List.map_nil,List.length_cons,List.length_nil,Nat.reduceAdd,Nat.zero_add] at cI3;obtain⟨X4,hX4,-,cI4⟩:=J0 X3 b4 [(⟨#[102,114,101,101]⟩:ByteArray)] _ z3 (by simp[o8]) (by simp[G4,o8]);simp only[List.map_cons,List.map_nil,List.length_cons,List.length_nil,Nat.reduceAdd,Nat.zero_add] at cI4;have Hfin:Hid (sqlF l (b9 X)=X4):=zh (by
  rw[hX4,b38 X3 b4 (⟨#[102,114,101,101]⟩:ByteArray) (⟨#[32,102,114,101,101]⟩:ByteArray) rfl,hX3,b38 X2 b3 (⟨#[97,116,111,109]⟩:ByteArray) (⟨#[32,97,116,111,109]⟩:ByteArray) rfl,hX2,hX1,hX0,je7,Hs.out,bk3])
 clear hX0 hX1 hX2 hX3 hX4 z0 z1 z2 z3 sA sB sC sD sE Hs;go_in;go_wp2_with fail;rw[<-Hwb.out];refine (cQ _ hE).mono ?_;rintro e w2 ⟨rfl,hE'⟩;replace hE:=hE.trans hE';clear hE' cQ;have kb:=fun W (hW:Ext w2 W)=>hb W (hE.trans hW);go_wp2_with fail;have hD:=(er w2).drew;first | (go_region_held3 (fun W=>Ext w2 W∧W.cell? ⟨w.heap.size,0,none⟩=some v) (exact⟨xq,kb _ xq⟩) (first | (go_at_call 125;((first | (with_reducible refine Calls.mono (cA _ (hE.trans xq)) ?_));rintro e wH ⟨rfl,hX⟩;have hH:=Ext.trans (a:=w2) xq hX)) | (go_at_call 126;((first | (with_reducible refine Calls.mono (cB0 _ (hE.trans xq)) ?_));rintro e wH ⟨rfl,hX⟩;have hH:=Ext.trans (a:=w2) xq hX)) | (go_at_call 98;((first | (with_reducible refine Calls.mono (cB _) ?_));rintro e wH ⟨rfl,hX⟩;have hH:=Ext.trans (a:=w2) xq hX)) | (go_at_call 127;((first | (with_reducible refine Calls.mono (cC0 _ (hE.trans xq)) ?_));rintro e wH ⟨rfl,hX⟩;have hH:=Ext.trans (a:=w2) xq hX)) | (go_at_call 106;((first | (with_reducible refine Calls.mono (cC _ (hE.trans xq)) ?_));rintro e wH ⟨rfl,hX⟩;have hH:=Ext.trans (a:=w2) xq hX)) | (go_at_call 96;((with_reducible refine Calls.mono (cL0 _) ?_);rintro e wL ⟨rfl,hX⟩;have hHL:=Ext.trans (a:=w2) xq hX)))) | (fail "the region")
 have hE3:=hE.trans hHL;have kb3:=hb _ hE3;go_wp2_with (first
  | (go_at_call 128;refine (cZ _ hE3).mono ?_;rintro e w6 ⟨p,rfl,hOP,hX6⟩;obtain⟨aoP,cP,rfl,-⟩:=hOP.shape;have hE6:=hE3.trans hX6)
  | (go_at_call 110;with_reducible refine Calls.mono (cD _ _ hOP.ints) ?_;rintro e w7 ⟨rfl,hX7⟩;have hE7:=hE6.trans hX7)
  | (go_at_call 102;with_reducible refine Calls.mono (cI1 _) ?_;rintro e w8 ⟨rfl,hX8⟩;have hE8:=hE7.trans (Ext.trans ((er _).alloc _) hX8);have kb8:=hb _ hE8)
  | (go_at_call 129;refine (cF _ hE8).mono ?_;rintro e w9 ⟨⟨vF,rfl,hOF⟩,hX9⟩;obtain⟨aoF,cFv,rfl,-⟩:=hOF.shape;have hE9:=hE8.trans hX9;have kb9:=hb _ hE9)
  | (go_at_call 130;refine (cL _ hE9).mono ?_;rintro e w10 ⟨⟨vL,rfl,hOL⟩,hX10⟩;obtain⟨aoL,cLv,rfl,-⟩:=hOL.shape;have hE10:=hE9.trans hX10)
  | (go_at_call 110;with_reducible refine Calls.mono (cE _ _ hOL.ints) ?_;rintro e w11 ⟨rfl,hX11⟩;have hE11:=hE10.trans hX11)
  | (go_at_call 102;with_reducible refine Calls.mono (cI2 _) ?_;rintro e w12 ⟨rfl,hX12⟩;have hE12:=hE11.trans (Ext.trans ((er _).alloc _) hX12);have kb12:=hb _ hE12)
  | (go_at_call 131;refine (c3 _ hE12).mono ?_;rintro e w13 ⟨rfl,hX13⟩;have hE13:=hE12.trans hX13)
  | (go_at_call 102;with_reducible refine Calls.mono (cI3 _) ?_;rintro e w14 ⟨rfl,hX14⟩;have hE14:=hE13.trans (Ext.trans ((er _).alloc _) hX14);have kb14:=hb _ hE14)
  | (go_at_call 132;refine (c4 _ hE14).mono ?_;rintro e w15 ⟨rfl,hX15⟩;have hE15:=hE14.trans hX15)
  | (go_at_call 102;with_reducible refine Calls.mono (cI4 _) ?_;rintro e w16 ⟨rfl,hX16⟩;have hE16:=hE15.trans (Ext.trans ((er _).alloc _) hX16)))
 go_ret;exact⟨j9 Hfin.out.symm,hE0.trans hE16⟩
theorem zz6{P:Prop}(h:P:=by (refine wl hE ?_);(repeat (go_big_quiet_step (first | (go_at_call 139;with_reducible exact Calls.lat (c3 _ (hE10.trans (d5 w10 _)))) | (go_at_call 140;with_reducible exact Calls.lat (c4 _ (hE10.trans (d5 w10 _)))) | (go_at_call 59;first | with_reducible exact Calls.lat_same (cY0 _) | with_reducible exact Calls.lat_same (cY1 _)))));(refine zd ?_);(clear hE);(intro W hE);go_wp2_with fail;go_ret;exact⟨j9 (by rw[Hs.out,Hy0.out,Hy1.out,Hb2.out,bk3];rfl),hE0.trans (hE10.trans hE)⟩):P:=h
theorem zz36{P:Prop}(h:P:=by (refine wl hE ?_);(repeat (go_big_quiet_step (first | (go_at_call 139;with_reducible exact Calls.lat (c3 _ (hE12.trans (d5 w12 _)))) | (go_at_call 140;with_reducible exact Calls.lat (c4 _ (hE12.trans (d5 w12 _)))) | (go_at_call 59;first | with_reducible exact Calls.lat_same (cY0 _) | with_reducible exact Calls.lat_same (cY1 _)))));(refine zd ?_);(clear hE);(intro W hE);go_wp2_with fail;go_ret;exact⟨j9 (by rw[Hs.out,Hy0.out,Hy1.out,Hb2.out,bk3];rfl),hE0.trans (hE12.trans hE)⟩):P:=h
theorem zz37{P:Prop}(h:P:=by (refine wl hE ?_);(repeat (go_big_quiet_step (first | (go_at_call 139;with_reducible exact Calls.lat (c3 _ (hE9.trans (d5 w9 _)))) | (go_at_call 140;with_reducible exact Calls.lat (c4 _ (hE9.trans (d5 w9 _)))) | (go_at_call 59;first | with_reducible exact Calls.lat_same (cY0 _) | with_reducible exact Calls.lat_same (cY1 _)))));(refine zd ?_);(clear hE);(intro W hE);go_wp2_with fail;go_ret;exact⟨j9 (by rw[Hs.out,Hy0.out,Hy1.out,Hb2.out,bk3];rfl),hE0.trans (hE9.trans hE)⟩):P:=h
theorem ca6(v u:Value)(l xs:List Int)(w:World)(h:c9 w v l)(hu:c9 w u xs) :
 Calls Tryz.prog 32 #[.agg #[v],u] w fun e w'=>e=.returned (.string (sqlF l xs))∧Ext w w':=by
 obtain⟨wb,Hwb,hE0,hb,hg,hE,Hsz⟩:=ju3 28 h;clear h;have hbx:=hb wb hE;have hU0:∀W,Ext wb W->c9 W u xs:=fun W hW=>hu.ext (hE0.trans hW);cases hs:D2 l xs
 . have cQ:=fun W (hW:Ext wb W)=>E8 v u l xs W (hg W hW) (hU0 W hW) hs;have Hs:=zh (j64 hs);clear hU0 hu;go_in;go_wp2_with fail;rw[<-Hwb.out];refine (cQ _ hE).mono ?_;exact zz44
 obtain⟨X,rfl,-,-,-,-⟩:=N6 hs;obtain⟨h12,hgr,hX⟩:=b85 hs;have hU:=hU0;have hsb:=ba6 hgr X hX;have htb:=be3 hgr X;have hzr:=j66 (l:=l) h12 hX;have hlv:=dc2 l (b9 X);have Hs:=zh (ds4 hs);have sA:=dp7 l (b9 X);have sB:=o9 (n:=((tot l X:Nat):Int)) om;have sC:=dp8 l (sbs l X:Nat);have sD:=O7 hzr.1 hzr.2;have sE:=O7 hlv.1 hlv.2;have cQ:=fun W (hW:Ext wb W)=>E8 v u l (b9 X) W (hg W hW) (hU W hW) hs;have cA:=fun W (hW:Ext wb W)=>ba9 v u l (b9 X) W (hg W hW) (hU W hW);have cB0:=fun W (hW:Ext wb W)=>Y1 v u l X W (hg W hW) (hU W hW) (zh hgr) (zh hX);have cB:=fun W=>A2 ((tot l X:Nat):Int) om W;have cC0:=fun W (hW:Ext wb W)=>b47 v u l X W (hg W hW) (hU W hW) (zh hgr) (zh hX);have cC:=fun W (hW:Ext wb W)=>M8 v l (sbs l X:Nat) W (hg W hW);have cZ:=fun W (hW:Ext wb W)=>ca7 v u l X W (hg W hW) (hU W hW) hs;have cD:=fun p W (hp:c9 W p (b9 (szR l X)))=>b19 p (b9 (szR l X)) W hp hzr.1 om;have cL:=fun W (hW:Ext wb W)=>cu0 v u l (b9 X) W (hg W hW) (hU W hW);have cE:=fun p W (hp:c9 W p (b9 (S8 (J8 l (b9 X)))))=>b19 p (b9 (S8 (J8 l (b9 X)))) W hp hlv.1 om;have c3:=fun W (hW:Ext wb W)=>dl2 v u l (b9 X) W (hg W hW) (hU W hW);have c4:=fun W (hW:Ext wb W)=>co5 v u l (b9 X) W (hg W hW) (hU W hW);have cS:=fun W (hW:Ext wb W)=>bc7 v u l (b9 X) W (hg W hW) (hU W hW);have cO:=fun W (hW:Ext wb W)=>o5 v l W (hg W hW) (zh hgr);obtain⟨b2,hb2⟩:=nq (P9 l (b9 X));have hfb:b2=(decide (ord l<=7)&&(zsB l (b9 X)&&decide (X.length<=10))):=by rw[hb2];unfold P9 atB;rw[hgr,j2,Bool.true_and]
 rw[<-hb2] at Hs;obtain⟨zb,hzb⟩:=nq (zsB l (b9 X));simp only[<-hzb] at cS;rw[<-hzb] at hfb;have hob:=m8 hgr;obtain⟨on,hon⟩:=nq (ord l);simp only[<-hon] at cO;rw[<-hon] at hfb hob;clear hzb hon;obtain⟨b3,hb3⟩:=nq (b09 l (b9 X));obtain⟨b4,hb4⟩:=nq (zfB l (b9 X));rw[<-hb3,<-hb4] at Hs;simp only[<-hb3] at c3;simp only[<-hb4] at c4;obtain⟨b1,hb1⟩:=nq (szB l X);rw[<-hb1] at Hs;simp only[<-hb1] at cZ;obtain⟨A,hA⟩:=nq (fqF l (b9 X));obtain⟨B,hB⟩:∃x,x=o3 ((tot l X:Nat):Int):=⟨_,rfl⟩;obtain⟨C,hC⟩:∃x,x=fsF l (sbs l X:Nat):=⟨_,rfl⟩;obtain⟨D,hD⟩:=nq (F7 (b9 (szR l X)));obtain⟨E,hE'⟩:∃x,x=F7 (b9 (S8 (J8 l (b9 X)))):=⟨_,rfl⟩;rw[<-hA,<-hB,<-hC,<-hD,<-hE'] at Hs;simp only[<-hA] at cA sA;simp only[<-hB] at cB sB;simp only[<-hC] at cC sC;simp only[<-hD] at cD sD;simp only[<-hE'] at cE sE;obtain⟨tn,htn⟩:=nq (tot l X);obtain⟨sn,hsn⟩:=nq (sbs l X);obtain⟨zl,hzl⟩:=nq (b9 (szR l X));obtain⟨ll,hll⟩:=nq (b9 (S8 (J8 l (b9 X))));simp only[<-htn] at cB0 cB;simp only[<-hsn] at cC0 cC;simp only[<-hzl] at cZ cD;simp only[<-hll] at cL cE;obtain⟨aoU,cU,adrU,rfl,hadrU,hcU⟩:=(hU _ hE).nats;clear hadrU hcU;clear hb1 hb2 hb3 hb4 hA hB hC hD hE' htn hsn hzl hll hsb htb hzr hlv hs hX hgr hU0 hU hu;have cY0:=fun W=>bh6 b3 (⟨#[32,97,116,111,109]⟩:ByteArray) W;have zY0:(if b3 then (⟨#[32,97,116,111,109]⟩:ByteArray) else (⟨#[]⟩:ByteArray)).size<=20:=by cases b3<;>decide
 obtain⟨y0,hy0⟩:∃x,x=(if b3 then (⟨#[32,97,116,111,109]⟩:ByteArray) else (⟨#[]⟩:ByteArray)):=⟨_,rfl⟩;rw[<-hy0] at cY0 zY0;have Hy0:=zh hy0;clear hy0;have cY1:=fun W=>bh6 b4 (⟨#[32,102,114,101,101]⟩:ByteArray) W;have zY1:(if b4 then (⟨#[32,102,114,101,101]⟩:ByteArray) else (⟨#[]⟩:ByteArray)).size<=20:=by cases b4<;>decide
 obtain⟨y1,hy1⟩:∃x,x=(if b4 then (⟨#[32,102,114,101,101]⟩:ByteArray) else (⟨#[]⟩:ByteArray)):=⟨_,rfl⟩;rw[<-hy1] at cY1 zY1;have Hy1:=zh hy1;clear hy1;have Hw:∀(c:Bool),c=b1->True:=fun _ _=>trivial;clear Hw;go_in;go_wp2_with fail;rw[<-Hwb.out];refine (cQ _ hE).mono ?_;rintro e w2 ⟨rfl,hE2⟩;clear cQ;have kb2:=fun U=>hb _ (hE2.trans (d5 w2 U));replace hE:=er w2;go_wp2_with fail;(refine wl hE ?_);(repeat (go_big_quiet_step (first | (go_at_call 65;with_reducible exact Calls.lat (cA _ (hE2.trans (d5 w2 _)))) | (go_at_call 134;with_reducible exact Calls.lat (cB0 _ (hE2.trans (d5 w2 _)))) | (go_at_call 45;with_reducible exact Calls.lat (cB _)) | (go_at_call 135;with_reducible exact Calls.lat (cC0 _ (hE2.trans (d5 w2 _)))) | (go_at_call 11;with_reducible exact Calls.lat (cC _ (hE2.trans (d5 w2 _)))))));(refine zd ?_);(clear hE);(intro W hE);rename World=>w3;have hE3:=hE2.trans hE;have kb3:=hb _ hE3;clear kb2 hE cA cB0 cB cC0 cC;cases b1
 . have Hfb:=zh hfb;clear hfb;rcases zb with _ | _
   . have Hb2:Hid (b2=false):=zh (by rw[Hfb.out];simp);go_wp2_with (first
      | (go_at_call 136;refine (cZ _ hE3).mono ?_;rintro e w6 ⟨p,rfl,hOP,hX6⟩;obtain⟨aoP,cP,rfl,-⟩:=hOP.shape;have hE6:=hE3.trans hX6;have hE8:=hE6;have kb8:=hb _ hE8;have hE9:=hE8;have wX:=w6)
      | (go_at_call 137;refine (cS _ hE8).mono ?_;rintro e w9 ⟨rfl,hX9⟩;have hE9:=hE8.trans hX9;have kb9:=hb _ hE9;have kq:=fun U=>hb _ (hE9.trans (d5 w9 U));have hE:=er w9))
     exact zz37
   . by_cases h7:on<=7
     . by_cases h10:X.length<=10
       . have Hb2:Hid (b2=true):=zh (by rw[Hfb.out,decide_eq_true h7,decide_eq_true h10];rfl);have h7I:((on:Nat):Int)<=7:=om;have h10I:((X.length:Nat):Int)<=10:=om;clear h7;clear h10;go_wp2_with (first
          | (go_at_call 136;refine (cZ _ hE3).mono ?_;rintro e w6 ⟨p,rfl,hOP,hX6⟩;obtain⟨aoP,cP,rfl,-⟩:=hOP.shape;have hE6:=hE3.trans hX6;have hE8:=hE6;have kb8:=hb _ hE8;have hE9:=hE8;have wX:=w6)
          | (go_at_call 137;refine (cS _ hE8).mono ?_;rintro e w9 ⟨rfl,hX9⟩;have hE9:=hE8.trans hX9;have kb9:=hb _ hE9;have kq:=fun U=>hb _ (hE9.trans (d5 w9 U));have hE:=er w9)
          | (go_at_call 43;refine (cO _ hE9).mono ?_;rintro e w10 ⟨rfl,hX10⟩;have hE10:=hE9.trans hX10;have kb10:=hb _ hE10;have kq:=fun U=>hb _ (hE10.trans (d5 w10 U));replace hE:=er w10)
          | (go_at_call 138;refine (cL _ hE10).mono ?_;rintro e w11 ⟨⟨vL,rfl,hOL⟩,hX11⟩;obtain⟨aoL,cLv,rfl,-⟩:=hOL.shape;have hE11:=hE10.trans hX11)
          | (go_at_call 69;with_reducible refine Calls.mono (cE _ _ hOL.ints) ?_;rintro e w12 ⟨rfl,hX12⟩;have hE12:=hE11.trans hX12;have kb12:=hb _ hE12;have kq:=fun U=>hb _ (hE12.trans (d5 w12 U));replace hE:=er w12))
         exact zz36
       . have Hb2:Hid (b2=false):=zh (by rw[Hfb.out,decide_eq_false h10];simp);have h7I:((on:Nat):Int)<=7:=om;have h10I:¬((X.length:Nat):Int)<=10:=om;clear h7;clear h10;go_wp2_with (first
          | (go_at_call 136;refine (cZ _ hE3).mono ?_;rintro e w6 ⟨p,rfl,hOP,hX6⟩;obtain⟨aoP,cP,rfl,-⟩:=hOP.shape;have hE6:=hE3.trans hX6;have hE8:=hE6;have kb8:=hb _ hE8;have hE9:=hE8;have wX:=w6)
          | (go_at_call 137;refine (cS _ hE8).mono ?_;rintro e w9 ⟨rfl,hX9⟩;have hE9:=hE8.trans hX9;have kb9:=hb _ hE9;have kq:=fun U=>hb _ (hE9.trans (d5 w9 U));have hE:=er w9)
          | (go_at_call 43;refine (cO _ hE9).mono ?_;rintro e w10 ⟨rfl,hX10⟩;have hE10:=hE9.trans hX10;have kb10:=hb _ hE10;have kq:=fun U=>hb _ (hE10.trans (d5 w10 U));replace hE:=er w10))
         exact zz6
     . have Hb2:Hid (b2=false):=zh (by rw[Hfb.out,decide_eq_false h7];rfl);have h7I:¬((on:Nat):Int)<=7:=om;clear h7;go_wp2_with (first
        | (go_at_call 136;refine (cZ _ hE3).mono ?_;rintro e w6 ⟨p,rfl,hOP,hX6⟩;obtain⟨aoP,cP,rfl,-⟩:=hOP.shape;have hE6:=hE3.trans hX6;have hE8:=hE6;have kb8:=hb _ hE8;have hE9:=hE8;have wX:=w6)
        | (go_at_call 137;refine (cS _ hE8).mono ?_;rintro e w9 ⟨rfl,hX9⟩;have hE9:=hE8.trans hX9;have kb9:=hb _ hE9;have kq:=fun U=>hb _ (hE9.trans (d5 w9 U));have hE:=er w9)
        | (go_at_call 43;refine (cO _ hE9).mono ?_;rintro e w10 ⟨rfl,hX10⟩;have hE10:=hE9.trans hX10;have kb10:=hb _ hE10;have kq:=fun U=>hb _ (hE10.trans (d5 w10 U));replace hE:=er w10))
       exact zz6
 . have Hfb:=zh hfb;clear hfb;rcases zb with _ | _
   . have Hb2:Hid (b2=false):=zh (by rw[Hfb.out];simp);go_wp2_with (first
      | (go_at_call 136;refine (cZ _ hE3).mono ?_;rintro e w6 ⟨p,rfl,hOP,hX6⟩;obtain⟨aoP,cP,rfl,-⟩:=hOP.shape;have hE6:=hE3.trans hX6)
      | (go_at_call 69;with_reducible refine Calls.mono (cD _ _ hOP.ints) ?_;rintro e w8 ⟨rfl,hX8⟩;have hE8:=hE6.trans hX8;have kb8:=hb _ hE8)
      | (go_at_call 137;refine (cS _ hE8).mono ?_;rintro e w9 ⟨rfl,hX9⟩;have hE9:=hE8.trans hX9;have kb9:=hb _ hE9;have kq:=fun U=>hb _ (hE9.trans (d5 w9 U));have hE:=er w9))
     exact zz37
   . by_cases h7:on<=7
     . by_cases h10:X.length<=10
       . have Hb2:Hid (b2=true):=zh (by rw[Hfb.out,decide_eq_true h7,decide_eq_true h10];rfl);have h7I:((on:Nat):Int)<=7:=om;have h10I:((X.length:Nat):Int)<=10:=om;clear h7;clear h10;go_wp2_with (first
          | (go_at_call 136;refine (cZ _ hE3).mono ?_;rintro e w6 ⟨p,rfl,hOP,hX6⟩;obtain⟨aoP,cP,rfl,-⟩:=hOP.shape;have hE6:=hE3.trans hX6)
          | (go_at_call 69;with_reducible refine Calls.mono (cD _ _ hOP.ints) ?_;rintro e w8 ⟨rfl,hX8⟩;have hE8:=hE6.trans hX8;have kb8:=hb _ hE8)
          | (go_at_call 137;refine (cS _ hE8).mono ?_;rintro e w9 ⟨rfl,hX9⟩;have hE9:=hE8.trans hX9;have kb9:=hb _ hE9;have kq:=fun U=>hb _ (hE9.trans (d5 w9 U));have hE:=er w9)
          | (go_at_call 43;refine (cO _ hE9).mono ?_;rintro e w10 ⟨rfl,hX10⟩;have hE10:=hE9.trans hX10;have kb10:=hb _ hE10;have kq:=fun U=>hb _ (hE10.trans (d5 w10 U));replace hE:=er w10)
          | (go_at_call 138;refine (cL _ hE10).mono ?_;rintro e w11 ⟨⟨vL,rfl,hOL⟩,hX11⟩;obtain⟨aoL,cLv,rfl,-⟩:=hOL.shape;have hE11:=hE10.trans hX11)
          | (go_at_call 69;with_reducible refine Calls.mono (cE _ _ hOL.ints) ?_;rintro e w12 ⟨rfl,hX12⟩;have hE12:=hE11.trans hX12;have kb12:=hb _ hE12;have kq:=fun U=>hb _ (hE12.trans (d5 w12 U));replace hE:=er w12))
         exact zz36
       . have Hb2:Hid (b2=false):=zh (by rw[Hfb.out,decide_eq_false h10];simp);have h7I:((on:Nat):Int)<=7:=om;have h10I:¬((X.length:Nat):Int)<=10:=om;clear h7;clear h10;go_wp2_with (first
          | (go_at_call 136;refine (cZ _ hE3).mono ?_;rintro e w6 ⟨p,rfl,hOP,hX6⟩;obtain⟨aoP,cP,rfl,-⟩:=hOP.shape;have hE6:=hE3.trans hX6)
          | (go_at_call 69;with_reducible refine Calls.mono (cD _ _ hOP.ints) ?_;rintro e w8 ⟨rfl,hX8⟩;have hE8:=hE6.trans hX8;have kb8:=hb _ hE8)
          | (go_at_call 137;refine (cS _ hE8).mono ?_;rintro e w9 ⟨rfl,hX9⟩;have hE9:=hE8.trans hX9;have kb9:=hb _ hE9;have kq:=fun U=>hb _ (hE9.trans (d5 w9 U));have hE:=er w9)
          | (go_at_call 43;refine (cO _ hE9).mono ?_;rintro e w10 ⟨rfl,hX10⟩;have hE10:=hE9.trans hX10;have kb10:=hb _ hE10;have kq:=fun U=>hb _ (hE10.trans (d5 w10 U));replace hE:=er w10))
         exact zz6
     . have Hb2:Hid (b2=false):=zh (by rw[Hfb.out,decide_eq_false h7];rfl);have h7I:¬((on:Nat):Int)<=7:=om;clear h7;go_wp2_with (first
        | (go_at_call 136;refine (cZ _ hE3).mono ?_;rintro e w6 ⟨p,rfl,hOP,hX6⟩;obtain⟨aoP,cP,rfl,-⟩:=hOP.shape;have hE6:=hE3.trans hX6)
        | (go_at_call 69;with_reducible refine Calls.mono (cD _ _ hOP.ints) ?_;rintro e w8 ⟨rfl,hX8⟩;have hE8:=hE6.trans hX8;have kb8:=hb _ hE8)
        | (go_at_call 137;refine (cS _ hE8).mono ?_;rintro e w9 ⟨rfl,hX9⟩;have hE9:=hE8.trans hX9;have kb9:=hb _ hE9;have kq:=fun U=>hb _ (hE9.trans (d5 w9 U));have hE:=er w9)
        | (go_at_call 43;refine (cO _ hE9).mono ?_;rintro e w10 ⟨rfl,hX10⟩;have hE10:=hE9.trans hX10;have kb10:=hb _ hE10;have kq:=fun U=>hb _ (hE10.trans (d5 w10 U));replace hE:=er w10))
       exact zz6
end Go.Zz
