/- All atoms in their order: the reference. -/
import Derived.Test.YtnnbhcalddkmmaaGreatGr29
set_option linter.unusedSimpArgs false
set_option linter.unusedVariables false
set_option linter.unnecessarySimpa false
set_option maxHeartbeats 4000000
set_option maxRecDepth 8000
namespace Go.Zz
open Go.RowKit Go.Proofs
def atB(l:List Int):Bool:=j1 l&&decide (ord l<=7)
theorem jb3{A:List (List Nat)}{i:Nat}(hi:i<A.length):isA (A.take (i+1))=bw2 (A.getD i []) (isA (A.take i)):=by
 rw[List.take_succ_eq_append_getElem hi,cf7];congr 1;simp[List.getD,hi]
theorem db5{A:List (List Nat)}{i:Nat}(hi:i<=A.length):(isA (A.take i)).length=i:=by
 rw[(bw4 _).length_eq,List.length_take];omega
theorem j18{x:List Nat}{o:List (List Nat)}{k:Nat}(h:L7 x (o.getD k [])<0):Q7 x o (k+1)=Q7 x o k:=by rw[Q7,if_pos h]
theorem j19{x:List Nat}{o:List (List Nat)}{k:Nat}(h:¬L7 x (o.getD k [])<0):Q7 x o (k+1)=k+1:=by rw[Q7,if_neg h]
theorem dk8(v:Value)(l:List Int)(w:World)(h:c9 w v l)(hn:atB l=false) :
 Calls Tryz.prog 311 #[.agg #[v]] w fun e w'=>∃v',e=.returned (.tuple #[v',.bool false])∧Ext w w':=by
 obtain⟨wb,Hwb,hE0,hb,hg,hE,Hsz⟩:=ju3 28 h;clear h;have cG:=fun W (hW:Ext wb W)=>A3 v l W (hg W hW);have hE1:=hE.alloc (.cells #[] 26);have hb1:=hb _ hE1;cases hgr:j1 l
 . rw[hgr] at cG;go_in;go_wp2_with fail;rw[<-Hwb.out];rw[Hsz.out];go_wp2_with (go_at_call 42;refine (cG _ hE1).mono ?_;rintro e w1 ⟨rfl,hE2⟩;have hb2:=hb _ (hE1.trans hE2));exact bodyPost_ret (v:=.tuple #[.slice (some ⟨wb.heap.size,0,none⟩) 0 0,.bool false]) (by simp[results,Tryz.results311,go_sem]) rfl ⟨_,rfl,hE0.trans (hE1.trans hE2)⟩
 . rw[hgr] at cG;have Hgr:=zh hgr;have h9:¬(ord l<=7):=by
    intro h9;unfold atB at hn;rw[hgr,decide_eq_true h9] at hn;cases hn
   have h9I:(7:Int)<(ord l:Int):=om;have cO:=fun W (hW:Ext wb W)=>o5 v l W (hg W hW) Hgr;clear hgr hn;go_in;go_wp2_with fail;rw[<-Hwb.out];rw[Hsz.out];go_wp2_with (first | (go_at_call 42;refine (cG _ hE1).mono ?_;rintro e w1 ⟨rfl,hE2⟩;have hE12:=hE1.trans hE2;have hb2:=hb _ hE12) | (go_at_call 43;refine (cO _ hE12).mono ?_;rintro e w3 ⟨rfl,hE3⟩));exact bodyPost_ret (v:=.tuple #[.slice (some ⟨wb.heap.size,0,none⟩) 0 0,.bool false]) (by simp[results,Tryz.results311,go_sem]) rfl ⟨_,rfl,hE0.trans (hE12.trans hE3)⟩
theorem zz145{P:Prop}(h:P:=by exact⟨i+1,om,zg,by rw[Hin.out];exact (ct2 hOF (hRows2.out.ext (hEs.trans hXF))).mono (HE06.out.trans (HE6.out.trans hEq)),hEq.trans hXF⟩):P:=h
theorem df1(v:Value)(l:List Int)(w:World)(h:c9 w v l)(hn:atB l=true) :
 Calls Tryz.prog 311 #[.agg #[v]] w fun e w'=>∃v',e=.returned (.tuple #[v',.bool true])∧E6 w w' v' (atS l)∧Ext w w':=by
 obtain⟨wb,Hwb,hE0,hb,hg,hE,Hsz⟩:=ju3 28 h;clear h;obtain⟨hgr,h9⟩:j1 l=true∧ord l<=7:=by unfold atB at hn;simpa using hn
 have Hgr:=zh hgr;have cG:=fun W (hW:Ext wb W)=>A3 v l W (hg W hW);rw[hgr] at cG;have hA48:=c08 hgr h9;have hob:=m8 hgr;clear hgr hn;have cO:=fun W (hW:Ext wb W)=>o5 v l W (hg W hW) Hgr;have h9I:¬(7:Int)<(ord l:Int):=om;have hE1:=hE.alloc (.cells #[] 26);have hO0:E6 wb (wb.alloc (.cells #[] 26)) (.slice (some ⟨wb.heap.size,0,none⟩) 0 0) []:=c39 hE;have cA:∀W,Ext wb W->Calls Tryz.prog 352 #[.agg #[v],.slice (some ⟨W.heap.size,0,none⟩) 0 0,.int .i64 0,.int .i64 0,.slice (some ⟨W.heap.size+1,0,none⟩) 0 0] ((W.alloc (.cells #[] 3)).alloc (.cells #[] 26)) fun e w'=>∃vo',e=.returned vo'∧E6 wb w' vo' (atL l)∧Ext W w':=fun W hW=>by
  have hs1:(W.alloc (.cells #[] 3)).heap.size=W.heap.size+1:=zm
  have hX1:=(er W).alloc (.cells #[] 3)
  have hX2:=hX1.alloc (.cells #[] 26)
  have hOc:=c39 (w0:=wb) (hW.trans hX1)
  rw[hs1] at hOc
  refine (dw7 v l Hgr wb (zh hg) (ord l+1) [] 0 0 [] _ _ _ (hW.trans hX2) (Or.inl ⟨rfl,_,_,rfl⟩) hOc (Nat.two_pow_pos _) (Nat.zero_testBit 0) om om zm zm (by simpa[atL] using hA48)).mono ?_
  rintro e w' ⟨vo',rfl,h1,h2,h3⟩
  exact⟨vo',rfl,by simpa[atL] using h1,hX2.grown h2 fun k hk=>by simp[Value.ownBlock] at hk;omega⟩
 obtain⟨wc,hwc⟩:=nq (wb.alloc (.cells #[] 26));rw[<-hwc] at hE1 hO0;have hb1:=hb _ hE1;have Hwc:=zh hwc;clear hwc;have Hfin:Hid (atS l=isA ((atL l).take (atL l).length)):=zh (by rw[List.take_length];rfl);obtain⟨A,hAd⟩:=nq (atL l);rw[<-hAd] at hA48 Hfin;simp only[<-hAd] at cA;clear hAd;go_in;go_wp2_with fail;rw[<-Hwb.out];rw[Hsz.out];rw[<-Hwc.out];go_wp2_with (first | (go_at_call 42;refine (cG _ hE1).mono ?_;rintro e w1 ⟨rfl,hE2⟩;have hE12:=hE1.trans hE2;have hb2:=hb _ hE12) | (go_at_call 43;refine (cO _ hE12).mono ?_;rintro e w3 ⟨rfl,hE3⟩;replace hE12:=hE12.trans hE3;replace hE2:=hE2.trans hE3;have hb3:=hb _ hE12;have hb5:=hb _ ((hE12.alloc (.cells #[] 3)).alloc (.cells #[] 26))) | (go_at_call 352;refine (cA _ hE12).mono ?_;rintro e w6 ⟨vl,rfl,hA6,hE6⟩;have hRA:=hA6;obtain⟨aoA,cA',rfl,hcapA,hcellA⟩:=hA6.shape));have HO6:=zh (hO0.ext (hE2.trans hE6));have HE06:=zh (hE0);have hE06:=hE12.trans hE6;have HE6:=zh hE06;have HcA:=zh hcellA;clear hO0 hE2 hE1 hb1 hE hE3 hE6 hE12 cA hcellA hA6 hRA;go_loopw [4,6] (fun so si wr=>∃i:Nat,i<=A.length∧si=.int .i64 i∧E6 w wr so (isA (A.take i))∧Ext w6 wr) (fun _ si _=>A.length - (intOf si).toNat);case atStart=>exact⟨0,om,rfl,by simpa[isA] using HO6.out.mono hE0,er _⟩
 case round =>
  clear HO6;obtain⟨i,hi,rfl,hO,hEr⟩:=hrel;have hOl:=db5 hi;by_cases hlt:i<A.length
  . have hltI:(i:Int)<(A.length:Int):=(by omega);have HIs:=zh (jb3 hlt);obtain⟨O,hOd⟩:=nq (isA (A.take i));rw[<-hOd] at hO hOl HIs;obtain⟨gA,y,rfl,hcy,hRy⟩:=HcA.out i hlt;obtain⟨aoY,nY,cY,rfl⟩:∃ao n c,y=.slice ao n c:=(by obtain⟨-,g,cap,cs,h,-⟩:=hRy;exact⟨_,_,_,h⟩);obtain⟨L,hL,hRows⟩:=hO.rows;have hcO:=hO.shape;obtain⟨aoO,cO,rfl,hcapO,hcellO⟩:=hcO;rename World=>wo;have HL:=zh hL;have HRows:=zh hRows;have HRy:=zh (hRy.ext hEr);have HKy:Hid (∀W,Ext wo W->W.cell? ⟨gA,i,none⟩=some (Value.slice aoY nY cY)):=zh (fun W hW=>(hEr.trans hW).cell hcy);have HcO:=zh hcellO;have HEr:=zh hEr;have HOl:=zh hOl;have hO48:O.length<=48:=om;have hixA:=b84 elV szV gA A.length cA';obtain⟨aI,haI⟩:=nq (A.getD i []);rw[<-haI] at HIs HRy;have HaI:=zh haI;have hEs:=er wo;clear hL hRows hcellO hEr hOl hOd hcy hRy haI hO hb2 hb3 hb5;go_wp2_with fail;go_loopw [7] (fun sk wq=>∃k:Nat,k<=O.length∧sk=.int .i64 k∧Hid (Q7 aI O O.length=Q7 aI O k)∧Ext wo wq) (fun sk _=>(intOf sk).toNat);(case atStart=>exact⟨O.length,Nat.le_refl _,rfl,zh rfl,hEs⟩);case round =>
     clear hEs;obtain⟨k,hk,rfl,HKk,hEs⟩:=hrel;have hEs0:=hEs;by_cases hk0:k=0
     . subst hk0;have hE:=er wr;go_wp2_with fail;(refine wl hE ?_);(repeat (go_big_quiet_step (first | (fail "no call"))));(refine zd ?_);(clear hE);(intro W hE);have hEs:=hEs0.trans hE;clear hE hEs0;rename World=>wr;have hsl:=fun W=>b23 (P:=Tryz.prog) elV szV aoO O.length cO (0:Int) om om W;have hsa:=fun W=>Y3 (P:=Tryz.prog) elV szV aoO O.length cO (0:Int) om om W;have hfl:=fun W=>Q1 (P:=Tryz.prog) elV szV aoO O.length cO (0:Int) om om W;have hfa:=fun W=>O9 (P:=Tryz.prog) elV szV aoO O.length cO (0:Int) om om W;rw[show ((0:Int):Int).toNat=0 by omega] at hsl hsa hfl hfa;have hEq:=HEr.out.trans hEs;have hlL:L.length=O.length:=HRows.out.1;have HA:=zh (fun W (hW:Ext wr W)=>(ck6 (HL.out.cells) (k:=0) om hlL).ext (hEs.trans hW));have HB:=zh (fun W (hW:Ext wr W)=>(ck5 (HL.out.cells) (k:=0) om hlL hcapO).ext (hEs.trans hW));have hLall:=HRows.out.all;have hM1:∀u∈L.take 0,u.oneCell'=true:=fun u hu=>hLall u (List.mem_of_mem_take hu);have hM2:∀u∈L.drop 0,u.oneCell'=true:=fun u hu=>hLall u (List.mem_of_mem_drop hu);have hM3:∀u∈[(Value.slice aoY nY cY)],u.oneCell'=true:=(by intro u hu;rw[List.mem_singleton] at hu;subst hu;exact HRy.out.one);have hn1:(L.take 0).length<=1000000000000:=(by rw[List.length_take];omega);have hn2:(L.take 0).length+[(Value.slice aoY nY cY)].length<=1000000000000:=(by rw[List.length_take,List.length_singleton];omega);have hn3:(L.take 0++[(Value.slice aoY nY cY)]).length+(L.drop 0).length<=1000000000000:=(by rw[List.length_append,List.length_take,List.length_singleton,List.length_drop];omega);have K1:=fun W (hW:Ext wr W)=>HKy.out W (hEs.trans hW);have hRows2:=zh (((HRows.out.take 0).append (Q3.one HRy.out)).append (HRows.out.drop 0));have Hin:Hid (isA (A.take (i+1))=O.take 0++[aI]++O.drop 0):=zh (by rw[HIs.out];unfold bw2;rw[HKk.out];try rfl);obtain⟨M1,hMd1⟩:=nq (L.take 0);obtain⟨M2,hMd2⟩:=nq (L.drop 0);rw[<-hMd1] at HA hM1 hn1 hn2 hn3 hRows2;rw[<-hMd2] at HB hM2 hn3 hRows2;clear hMd1 hMd2 hLall hlL;have hE:=er wr;go_wp2_with fail;(first | (go_region_held3 (fun W=>Ext wr W∧W.cell? ⟨gA,i,none⟩=some (Value.slice aoY nY cY)) (exact⟨xr,K1 _ xr⟩) (first | (have hOq:=hOD;(refine b20 slV rfl _ _ rfl wr vD (bg4 aoO O.length cO 0) (M1++[(Value.slice aoY nY cY)]) M2 (by repeat (first | (with_reducible exact hOD) | (with_reducible apply A5.alloc) | (with_reducible apply A5.drew))) (HB.out _ xr) hM2 xr hn3 rfl rfl ?_);intro vF wF hOF hGF hNF hXF) | (have hOq:=hOC;(refine b20 slV rfl _ _ rfl wr vC _ M1 [(Value.slice aoY nY cY)] (by repeat (first | (with_reducible exact hOC) | (with_reducible apply A5.alloc) | (with_reducible apply A5.drew))) (cb3 (TE:=26) (by first | (with_reducible exact Blk.new _ _ _) | (refine Blk.grown ?_ hXCC (by intro k hk;have hk2:=Option.some.inj hk;omega);refine Blk.drew ?_;first | (refine Blk.new' ?_;simp;done) | (refine Blk.alloc ?_ _;exact Blk.new _ _ _)))) hM3 xr hn2 rfl rfl ?_);intro vD wD hOD hGD hND hXD) | ((refine cp2 slV rfl _ _ rfl _ (.slice aoO 0 cO) M1 rfl rfl ?_ ?_ hM1 wr ?_ ?_ hn1 ?_);(focus (repeat (first | (with_reducible assumption) | (with_reducible exact Blk.new _ _ _) | ((with_reducible refine Blk.new' ?_);first | rfl | (simp[go_sem];done)) | (with_reducible apply Blk.alloc) | (with_reducible apply Blk.drew))));(exact HA.out _ xr);(focus (first | exact Nat.le_refl _ | omega | (simp;omega)));(exact xr);(intro vC wC hOC hXC hXCC)))) | (fail "the region"));all_goals
        go_wp2_with fail
        go_roundw
        case rel=>exact zz145
        case measure=>exact zm1
     . have hk1:(0:Int)<(k:Int):=(by omega);have hkn:0<k:=om;obtain⟨gO,uO,rfl,hcu,hRu⟩:=HcO.out (k - 1) om;have ix1:∀W,(Instr.indexAt 93 (.slice (some ⟨gO,0,none⟩) O.length cO) (.int .i64 ((k:Int) - 1))).run Tryz.prog W=.ok (.pointer (some ⟨gO,k - 1,none⟩)) W:=fun W=>(by rw[show ((k:Int) - 1)=((k - 1:Nat):Int) by omega];exact b84 elV szV gO O.length cO (k - 1) W om);have kA:=fun U=>HKy.out _ (hEs.trans (d5 wr U));have kO:=fun U=>(hEs.trans (d5 wr U)).cell hcu;have cB:=fun W (hW:Ext wo W)=>dk9 _ uO aI (O.getD (k - 1) []) W (HRy.out.ext hW).ints (hRu.ext hW).ints;have Hdn:=zh (fun h=>j18 (x:=aI) (o:=O) (k:=k - 1) h);have Hst:=zh (fun h=>j19 (x:=aI) (o:=O) (k:=k - 1) h);rw[show k - 1+1=k by omega] at Hdn Hst;have hEb:=hEs;have hE:=er wr;by_cases hd:L7 aI (O.getD (k - 1) [])<0
       . have Hn:Hid (Q7 aI O O.length=Q7 aI O (k - 1)):=zh (by rw[HKk.out,Hdn.out hd]);simp only[decide_eq_true hd] at cB;clear hd hEs hEs0;go_wp2_with fail;(refine wl hE ?_);(repeat (go_big_quiet_step (first | (go_at_call 353;with_reducible exact Calls.lat (cB _ (hEb.trans (d5 wr _)))))));(refine zd ?_);(clear hE);(intro W hE);go_wp2_with fail;go_roundw;(case rel=>exact⟨k - 1,om,by congr 1;omega,Hn,hEb.trans hE⟩);case measure=>exact zm1
       . have HK2:Hid (Q7 aI O O.length=k):=zh (by rw[HKk.out,Hst.out hd]);simp only[decide_eq_false hd] at cB;clear hd hEs hEs0;go_wp2_with fail;(refine wl hE ?_);(repeat (go_big_quiet_step (first | (go_at_call 353;with_reducible exact Calls.lat (cB _ (hEb.trans (d5 wr _)))))));(refine zd ?_);(clear hE);(intro W hE);have hEs:=hEb.trans hE;have HKk:=HK2;clear hE;rename World=>wr;have hsl:=fun W=>b23 (P:=Tryz.prog) elV szV (some ⟨gO,0,none⟩) O.length cO (k:Int) om om W;have hsa:=fun W=>Y3 (P:=Tryz.prog) elV szV (some ⟨gO,0,none⟩) O.length cO (k:Int) om om W;have hfl:=fun W=>Q1 (P:=Tryz.prog) elV szV (some ⟨gO,0,none⟩) O.length cO (k:Int) om om W;have hfa:=fun W=>O9 (P:=Tryz.prog) elV szV (some ⟨gO,0,none⟩) O.length cO (k:Int) om om W;rw[show ((k:Int):Int).toNat=k by omega] at hsl hsa hfl hfa;have hEq:=HEr.out.trans hEs;have hlL:L.length=O.length:=HRows.out.1;have HA:=zh (fun W (hW:Ext wr W)=>(ck6 (HL.out.cells) (k:=k) om hlL).ext (hEs.trans hW));have HB:=zh (fun W (hW:Ext wr W)=>(ck5 (HL.out.cells) (k:=k) om hlL hcapO).ext (hEs.trans hW));have hLall:=HRows.out.all;have hM1:∀u∈L.take k,u.oneCell'=true:=fun u hu=>hLall u (List.mem_of_mem_take hu);have hM2:∀u∈L.drop k,u.oneCell'=true:=fun u hu=>hLall u (List.mem_of_mem_drop hu);have hM3:∀u∈[(Value.slice aoY nY cY)],u.oneCell'=true:=(by intro u hu;rw[List.mem_singleton] at hu;subst hu;exact HRy.out.one);have hn1:(L.take k).length<=1000000000000:=(by rw[List.length_take];omega);have hn2:(L.take k).length+[(Value.slice aoY nY cY)].length<=1000000000000:=(by rw[List.length_take,List.length_singleton];omega);have hn3:(L.take k++[(Value.slice aoY nY cY)]).length+(L.drop k).length<=1000000000000:=(by rw[List.length_append,List.length_take,List.length_singleton,List.length_drop];omega);have K1:=fun W (hW:Ext wr W)=>HKy.out W (hEs.trans hW);have hRows2:=zh (((HRows.out.take k).append (Q3.one HRy.out)).append (HRows.out.drop k));have Hin:Hid (isA (A.take (i+1))=O.take k++[aI]++O.drop k):=zh (by rw[HIs.out];unfold bw2;rw[HKk.out];try rfl);obtain⟨M1,hMd1⟩:=nq (L.take k);obtain⟨M2,hMd2⟩:=nq (L.drop k);rw[<-hMd1] at HA hM1 hn1 hn2 hn3 hRows2;rw[<-hMd2] at HB hM2 hn3 hRows2;clear hMd1 hMd2 hLall hlL;have hE:=er wr;go_wp2_with fail;(first | (go_region_held3 (fun W=>Ext wr W∧W.cell? ⟨gA,i,none⟩=some (Value.slice aoY nY cY)) (exact⟨xr,K1 _ xr⟩) (first | (have hOq:=hOD;(refine b20 slV rfl _ _ rfl wr vD (bg4 (some ⟨gO,0,none⟩) O.length cO k) (M1++[(Value.slice aoY nY cY)]) M2 (by repeat (first | (with_reducible exact hOD) | (with_reducible apply A5.alloc) | (with_reducible apply A5.drew))) (HB.out _ xr) hM2 xr hn3 rfl rfl ?_);intro vF wF hOF hGF hNF hXF) | (have hOq:=hOC;(refine b20 slV rfl _ _ rfl wr vC _ M1 [(Value.slice aoY nY cY)] (by repeat (first | (with_reducible exact hOC) | (with_reducible apply A5.alloc) | (with_reducible apply A5.drew))) (cb3 (TE:=26) (by first | (with_reducible exact Blk.new _ _ _) | (refine Blk.grown ?_ hXCC (by intro k hk;have hk2:=Option.some.inj hk;omega);refine Blk.drew ?_;first | (refine Blk.new' ?_;simp;done) | (refine Blk.alloc ?_ _;exact Blk.new _ _ _)))) hM3 xr hn2 rfl rfl ?_);intro vD wD hOD hGD hND hXD) | ((refine cp2 slV rfl _ _ rfl _ (.slice (some ⟨gO,0,none⟩) k cO) M1 rfl rfl ?_ ?_ hM1 wr ?_ ?_ hn1 ?_);(focus (repeat (first | (with_reducible assumption) | (with_reducible exact Blk.new _ _ _) | ((with_reducible refine Blk.new' ?_);first | rfl | (simp[go_sem];done)) | (with_reducible apply Blk.alloc) | (with_reducible apply Blk.drew))));(exact HA.out _ xr);(focus (first | exact Nat.le_refl _ | omega | (simp;omega)));(exact xr);(intro vC wC hOC hXC hXCC)))) | (fail "the region"));all_goals
          go_wp2_with fail
          go_roundw
          case rel=>exact zz145
          case measure=>exact zm1
  . have hltI:¬(i:Int)<(A.length:Int):=(by omega);have hil:i=A.length:=om;rw[hil,<-Hfin.out] at hO;obtain⟨aoO,cO,rfl,hcapO,hcellO⟩:=hO.shape;go_wp2_with fail;exact bodyPost_ret (v:=.tuple #[.slice aoO (atS l).length cO,.bool true]) (by simp[results,Tryz.results311,go_sem]) rfl ⟨_,rfl,hO,hE0.trans (HE6.out.trans hEr)⟩
theorem j31{l:List Int}(h:j1 l=true):p9 l 0=0:=by
 have ho:=m9 h;have h1:=J6 l ho 0;rwa [A7 l ho _ (P3 l ho 0)] at h1
theorem bn7{X:List Nat}{z:Nat}(h:W3 (b9 X)=true)(hz:X.length≠0->d8 X (X.length - 1)<=z):W3 (b9 (X++[z]))=true:=by
 rw[bn6] at h ⊢;intro j h0 hj;rw[j2,List.length_append,List.length_singleton] at hj;rw[H8,H8];by_cases e:j<X.length
 . have:=h j h0 (by rw[j2];exact e);rw[H8,H8] at this;have e1:d8 (X++[z]) (j - 1)=d8 X (j - 1):=(by simp[d8,List.getD,List.getElem?_append_left (show j - 1<X.length by omega)]);have e2:d8 (X++[z]) j=d8 X j:=(by simp[d8,List.getD,List.getElem?_append_left e]);rw[e1,e2];exact this
 . have ej:j=X.length:=(by omega);have e1:d8 (X++[z]) (j - 1)=d8 X (X.length - 1):=by
    subst ej;simp[d8,List.getD,List.getElem?_append_left (show X.length - 1<X.length by omega)]
   have e2:d8 (X++[z]) j=z:=(by subst ej;simp[d8,List.getD]);rw[e1,e2];have:=hz om;omega
theorem dt4{l:List Int}(hg:j1 l=true){X:List Nat}(hX:∀x∈X,x<ord l)(hl:X.length<=11)(hs:W3 (b9 (X++[atZ l X]))=true):zsB l (b9 (X++[atZ l X]))=true:=by
 have hz:atZ l X<ord l:=P3 l (m9 hg) _;have hq:D2 l (b9 (X++[atZ l X]))=true:=by
  unfold D2;rw[hg,hs];have h1:(b9 (X++[atZ l X])).all (N3 l)=true:=by
   rw[List.all_eq_true];intro y hy;obtain⟨n,hn,rfl⟩:=List.mem_map.1 hy;rw[List.mem_append,List.mem_singleton] at hn;refine c86 hg ?_;rcases hn with hn | rfl
   . exact hX n hn
   . exact hz
  rw[h1];have h2:(b9 (X++[atZ l X])).length<=12:=by rw[j2,List.length_append,List.length_singleton];omega
  simp[h2]
 rw[cv1 hq,bd1];have:m6 l (tot l X) (atZ l X)=0:=J6 l (m9 hg) _;rw[this];rfl
def F4(X:List Nat):Nat:=if X.length=0 then 0 else d8 X (X.length - 1)
theorem j89{l:List Int}(hg:j1 l=true){X:List Nat}(hX:∀x∈X,x<ord l)(hl:X.length<=11)(hs:W3 (b9 X)=true) :
 atC l X (F4 X)=((decide (X.length=0) || decide (d8 X (X.length - 1)<=atZ l X))&&b09 l (b9 (X++[atZ l X]))):=by
 unfold atC F4;by_cases h0:X.length=0
 . have hXn:X=[]:=List.eq_nil_of_length_eq_zero h0;subst hXn;have hz:atZ l []=0:=j31 hg;have hzs:=dt4 hg hX hl (bn7 hs (fun h=>absurd rfl h));rw[bu5 hzs zm,hz];simp
 . rw[if_neg h0,decide_eq_false h0,Bool.false_or];have hnd:decide (X.length≠0)=true:=decide_eq_true h0;rw[hnd,Bool.true_or,Bool.and_true];by_cases h1:d8 X (X.length - 1)<=atZ l X
   . have hzs:=dt4 hg hX hl (bn7 hs (fun _=>h1));rw[bu5 hzs zm]
   . rw[decide_eq_false h1];rfl
def b53(w0:World)(bO:Nat)(w:World)(vo:Value)(A:List (List Nat))(vo':Value)(w':World):Prop:=Blk w' bO 93 #[vo']∧E6 w0 w' vo' A∧Fr bO vo.ownBlock w w'∧Nw vo.ownBlock w vo'.ownBlock
theorem cn4{w0 w W w':World}{v v' y:Value}{A:List (List Nat)}{a:List Nat}{L:List Value}(hR:Q3 w L A)(hO5:A5 26 w0 W v L)(hE:Ext w W)(hy:N8 W y a)(hO:A5 26 w0 w' v' (L++[y]))(hG:W.grownBy w' v.ownBlock):E6 w0 w' v' (A++[a]) :=
 E6.more hR.1 hO5 (fun i hi=>(hR.ext hE).2 i hi) hy hO hG
theorem zz164{P:Prop}(h:P:=by obtain⟨L,h1,h2,h3⟩:=h;exact⟨L,h1,h2.set_ne (h2.not hB (by decide)) u,fun j hj=>(h3 j hj).other hB (by decide) i u⟩):P:=h
theorem E6.set_ne{w0 w:World}{v:Value}{A:List (List Nat)}(h:E6 w0 w v A){b i:Nat}{cs:Array Value}(hB:Blk w b 93 cs)(u:Value):E6 w0 (w.setCell ⟨b,i,none⟩ u) v A:=by
 exact zz164
theorem zz9{P:Prop}(h:P:=by rw[ha] at cA;clear ha;go_wp2_with (first | (go_at_call 212;refine (F8 _ _ _ (HX.out _ hE)).mono ?_;rintro e w3 ⟨v3,rfl,hO3,hE3⟩) | (at_builtin;refine A6 slI rfl _ _ rfl w1 _ _ _ _ hO3 hE3 hlX rfl rfl ?_;intro v4 w4 hO4 hE4;rw[<-Hsn.out] at hO4;obtain⟨ao4,c4,rfl,-⟩:=hO4.shape;have hE14:=hE.trans hE4;have kG4:=kG _ hE14;have hI4:=hO4.ints;have hR4:=b72 hO4 zm hXl2) | (go_at_call 131;refine (cA _ _ hE14 hI4).mono ?_;rintro e w5 ⟨rfl,hE5⟩;have hE15:=hE14.trans hE5;have kO5:=kO _ hE15;have hR5:=hR4.ext hE5;have h15:=hR5.one;have hO5:=HL.out.ext hE15;have hX5:=hw.trans hE15;have hB5:=HB.out.ext hE15) | (at_builtin;refine b25 slV rfl _ _ rfl w0 _ _ L _ h15 hO5 hX5 hLn rfl rfl ?_;intro v6 w6 hO6 hG6 hN6;have hB6:=hB5.grown hG6 Hne.out;have hc6:=hB6.cell (i:=0) (v:=.slice aoO O.length cO) rfl;have hf6:=hB6.free 0;obtain⟨a6,c6,rfl,-⟩:=hO6.shape));go_end0;have hC6:=cn4 HRows.out hO5 hE15 hR5 hO6 hG6;rw[List.length_append,List.length_singleton] at hN6 hC6;refine⟨rfl,_,hB6.set 0 _,?_,((hE15.fr bO _).trans (Nw.refl _ _) (bi8 hG6)).trans ((Nw.refl _ _).trans (Nat.le_refl _) (Nw.refl _ _)) (b96 bO _ w6 0 _),(Nw.refl _ _).trans hE15.size hN6⟩;rw[Hv.out];exact hC6.set_ne hB6 _):P:=h
theorem zz28{P:Prop}(h:P:=by rw[ha] at cA;clear ha;go_wp2_with (first | (go_at_call 212;refine (F8 _ _ _ (HX.out _ hE)).mono ?_;rintro e w3 ⟨v3,rfl,hO3,hE3⟩) | (at_builtin;refine A6 slI rfl _ _ rfl w1 _ _ _ _ hO3 hE3 hlX rfl rfl ?_;intro v4 w4 hO4 hE4;rw[<-Hsn.out] at hO4;have hE14:=hE.trans hE4;have kG4:=kG _ hE14;have hI4:=hO4.ints) | (go_at_call 131;refine (cA _ _ hE14 hI4).mono ?_;rintro e w5 ⟨rfl,hE5⟩));go_end0;have hE15:=hE14.trans hE5;exact⟨rfl,_,by rw[Hv.out,List.append_nil];exact⟨HB.out.ext hE15,HO.out.ext hE15,hE15.fr _ _,Nw.refl _ _⟩⟩):P:=h
theorem dm2(v:Value)(l:List Int)(Hgr:Hid (j1 l=true))(w0:World)(bG bO:Nat)(HG:∀W,Ext w0 W->W.cell? ⟨bG,0,none⟩=some v)(HI:Hid (∀W,Ext w0 W->c9 W v l))
 (X:List Nat) (O:List (List Nat)) (S:Int) (vX vo:Value) (w:World) (hw:Ext w0 w) (hX:W6 w vX X) (hB:Blk w bO 93 #[vo]) (hO:E6 w0 w vo O) (hXl:X.length<=11) (hXo:∀x∈X,x<ord l) (hs:W3 (b9 X)=true) (hO48:O.length<=48) :
 Calls Tryz.prog 306 #[vX,.int .i64 S,.pointer (some ⟨bG,0,none⟩),.pointer (some ⟨bO,0,none⟩)] w fun e w'=>e=.returned (.tuple #[])∧∃vo',b53 w0 bO w vo (O++atV l X (F4 X)) vo' w':=by
 have hob:=m8 Hgr.out;have hz:atZ l X<ord l:=P3 l (m9 Hgr.out) _;have hX24:∀x∈X,x<24:=fun x hx=>by have:=hXo x hx;omega
 have HC:=zh (j89 Hgr.out hXo hXl hs);have hg:∀W,Ext w W->c9 W v l:=fun W hW=>HI.out W (hw.trans hW);have kG:∀W,Ext w W->W.cell? ⟨bG,0,none⟩=some v:=fun W hW=>HG W (hw.trans hW);have HX:=zh (fun W (hW:Ext w W)=>(hX.ext hW).ints);have htot:=be3 Hgr.out X;have cT:=fun W (hW:Ext w W)=>b42 v _ l X W (hg W hW) (HX.out W hW) Hgr (zh hX24);have cN:=fun W (hW:Ext w W)=>ba1 v l (tot l X) W (hg W hW) Hgr om;have cA:=fun W vy (hW:Ext w W) (hy:c9 W vy (b9 (X++[atZ l X])))=>cj8 v vy l (b9 (X++[atZ l X])) W (hg W hW) hy;obtain⟨z,hzd⟩:=nq (atZ l X);have hzd2:z=p9 l (tot l X):=hzd;rw[<-hzd] at hz HC;simp only[<-hzd2] at cN;simp only[<-hzd] at cA;have Hz:=zh hzd;obtain⟨t,ht⟩:=nq (tot l X);simp only[<-ht] at cT cN;clear hzd hzd2 ht htot;have hlX:(b9 X).length<17592186044416:=by rw[j2];omega
 have hXl2:(X++[z]).length<=1000:=by simp;omega
 have Hsn:=zh (D5 X z);obtain⟨L,hL,hRows⟩:=hO.rows;have hLn:L.length<1000000000000:=by rw[hRows.1];omega
 have hnb:=hO.not hB (by decide);obtain⟨aoO,cO,rfl,hcapO,-⟩:=hO.shape;have Hne:Hid (∀k,(Value.slice aoO O.length cO).ownBlock=some k->k≠bO):=zh (fun k hk e=>hnb (by rw[hk,e]));have kO:∀W,Ext w W->W.cell? ⟨bO,0,none⟩=some (.slice aoO O.length cO):=fun W hW=>(hB.ext hW).cell (i:=0) rfl;have HL:=zh hL;have HRows:=zh hRows;have HO:=zh hO;have HB:=zh hB;have HXe:=zh hX;obtain⟨aoX,cX,rfl⟩:=hX.shape;have hlast:X.length≠0->∃adr:Nat->Addr,(∀W,(Instr.indexAt 26 (.slice aoX X.length cX) (.int .i64 ((X.length:Int) - 1))).run Tryz.prog W=.ok (.pointer (some (adr (X.length - 1)))) W)∧(∀W,Ext w W->W.cell? (adr (X.length - 1))=some (.int .i64 (d8 X (X.length - 1):Nat))):=fun h0=>by
  obtain⟨ao',c',adrX,hvX,hadrX,hcellX⟩:=hX.ints.nats
  have hix:=j3 (c:=c') elI szI hadrX
  simp only[Value.slice.injEq] at hvX
  obtain⟨rfl,-,rfl⟩:=hvX
  refine⟨adrX,fun W=>?_,fun W hW=>hcellX _ W om hW⟩
  rw[show ((X.length:Int) - 1)=((X.length - 1:Nat):Int) by omega]
  exact hix _ W om
 clear hX hB hO hL hRows hnb;have hE:=er w;have kU:=fun U=>kG _ (d5 w U);by_cases h0:X.length=0
 . have hXn:X=[]:=List.eq_nil_of_length_eq_zero h0;have Hcond:Hid ((decide (X.length=0) || decide (d8 X (X.length - 1)<=z))=true):=zh (by rw[decide_eq_true h0];rfl);subst hXn;clear hlast h0;go_in;go_wp2_with fail;(refine wl hE ?_);(repeat (go_big_quiet_step (first | (go_at_call 234;with_reducible exact Calls.lat (cT _ (d5 w _))) | (go_at_call 307;with_reducible exact Calls.lat (cN _ (d5 w _))))));(refine zd ?_);(clear hE);(intro W hE);rename World=>w1;have kG1:=kG _ hE;clear kU;cases ha:b09 l (b9 (([]:List Nat)++[z]))
   . have Hv:Hid (atV l ([]:List Nat) (F4 ([]:List Nat))=[]):=zh (by unfold atV;rw[HC.out,Hcond.out,ha];rfl);exact zz28
   . have Hv:Hid (atV l ([]:List Nat) (F4 ([]:List Nat))=[([]:List Nat)++[z]]):=zh (by unfold atV;rw[HC.out,Hcond.out,ha,<-Hz.out];rfl);exact zz9
 . have hl0:(0:Int)<((X.length:Nat):Int):=(by omega);have hlq:(((X.length:Nat):Int) == 0)=false:=(by rw[beq_eq_false_iff_ne];omega);have hXn:X≠[]:=fun e=>h0 (by rw[e];rfl);obtain⟨adrX,hixL,hckL⟩:=hlast h0;have hd0:decide (X.length=0)=false:=decide_eq_false h0;rw[hd0,Bool.false_or] at HC;obtain⟨la,hla⟩:=nq (d8 X (X.length - 1));rw[<-hla] at HC;simp only[<-hla] at hckL;have Hl0:=zh h0;clear hla hlast h0 hd0;go_in;go_wp2_with fail;(refine wl hE ?_);(repeat (go_big_quiet_step (first | (go_at_call 234;with_reducible exact Calls.lat (cT _ (d5 w _))) | (go_at_call 307;with_reducible exact Calls.lat (cN _ (d5 w _))))));(refine zd ?_);(clear hE);(intro W hE);rename World=>w1;have kG1:=kG _ hE;have ck1:=hckL _ hE;clear kU hckL;by_cases hz1:la<=z
   . have hzI:(la:Int)<=(z:Int):=(by omega);have Hcond:Hid (decide (la<=z)=true):=zh (decide_eq_true hz1);clear hz1;cases ha:b09 l (b9 (X++[z]))
     . have Hv:Hid (atV l X (F4 X)=[]):=zh (by unfold atV;rw[HC.out,Hcond.out,ha];rfl);exact zz28
     . have Hv:Hid (atV l X (F4 X)=[X++[z]]):=zh (by unfold atV;rw[HC.out,Hcond.out,ha,<-Hz.out];rfl);exact zz9
   . have hzI:¬(la:Int)<=(z:Int):=(by omega);have Hv:Hid (atV l X (F4 X)=[]):=zh (by unfold atV;rw[HC.out,decide_eq_false hz1];rfl);clear hz1;go_wp2_with fail;go_end0;exact⟨rfl,_,by rw[Hv.out,List.append_nil];exact⟨HB.out.ext hE,HO.out.ext hE,hE.fr _ _,Nw.refl _ _⟩⟩
theorem W6.fr{w0 w w':World}{u v:Value}{a:List Nat}{b:Nat}{cs:Array Value}{A:List (List Nat)}(h:W6 w u a)(hB:Blk w b 93 cs)(hO:E6 w0 w v A)(hF:Fr b v.ownBlock w w'):W6 w' u a:=by
 rcases h with h | ⟨h0,g,cap,cs',h1,h2,h3,h4⟩
 . exact Or.inl h
 . refine Or.inr ⟨h0,g,cap,cs',h1,h2,hF.blk h3 (fun e=>?_) (hO.not h3 (by decide)),h4⟩;subst e;have hB':w.heap[g]?=some (.cells cs 93 (0,0)):=hB;have h3':w.heap[g]?=some (.cells cs' 3 (0,0)):=h3;rw[h3'] at hB';simp at hB'
theorem b53.trans{w0 w w1 w2 w3:World}{b:Nat}{vo vo1 vo2:Value}{A B:List (List Nat)}(h:b53 w0 b w vo A vo1 w1)(hE:Ext w1 w2)(k:b53 w0 b w2 vo1 B vo2 w3):b53 w0 b w vo B vo2 w3 :=
 ⟨k.1,k.2.1,h.2.2.1.trans h.2.2.2 ((hE.fr b vo1.ownBlock).trans (Nw.refl _ _) k.2.2.1),h.2.2.2.trans h.2.2.1.size ((Nw.refl _ _).trans hE.size k.2.2.2)⟩
theorem b53.ext{w0 w w1 w2:World}{b:Nat}{vo vo1:Value}{A:List (List Nat)}(h:b53 w0 b w vo A vo1 w1)(hE:Ext w1 w2):b53 w0 b w vo A vo1 w2 :=
 ⟨h.1.ext hE,h.2.1.ext hE,h.2.2.1.trans h.2.2.2 (hE.fr b vo1.ownBlock),h.2.2.2⟩
theorem b53.back{w0 w w1 w2:World}{b:Nat}{vo vo1:Value}{A:List (List Nat)}(hE:Ext w w1)(h:b53 w0 b w1 vo A vo1 w2):b53 w0 b w vo A vo1 w2 :=
 ⟨h.1,h.2.1,(hE.fr b vo.ownBlock).trans (Nw.refl _ _) h.2.2.1,(Nw.refl _ _).trans hE.size h.2.2.2⟩
theorem bn0(X:List Nat)(k:Nat):F4 (X++[k])=k:=by unfold F4;simp[d8,List.getD]
theorem zz67{P:Prop}(h:P:=by have hltI:¬(k:Int)<(ord l:Int):=(by omega);have hkl:k=ord l:=om;have Hn:=zh (show atR l (f+1) X S (F4 X)=atK l f X S (F4 X) k by rw[Hend.out,hkl]);clear hkl;go_wp2_with (go_at_call 99;refine cO.mono ?_;rintro e1 w1 ⟨rfl,hE1⟩);go_end0;exact⟨rfl,u,by rw[Hn.out];exact (HP.out.ext hE1).back HE0.out⟩):P:=h
theorem zz79{P:Prop}(h:P:=by have cI:=fun W=>T1 N 0 hN24 om W ht;have Hn:=zh (Hno.out ht);clear ht;go_wp2_with (go_at_call 225;refine (cI _).mono ?_;rintro e' w' ⟨rfl,hw'⟩;subst hw');go_roundw;(case rel=>exact⟨k+1,u,om,om,zg,by rw[Hn.out];exact HP.out.ext hE2⟩);case measure=>exact zm1):P:=h
theorem jg6(v:Value)(l:List Int)(Hgr:Hid (j1 l=true))(h7:ord l<=7)(w0:World)(bG bO:Nat)(HG:∀W,Ext w0 W->W.cell? ⟨bG,0,none⟩=some v)(HI:Hid (∀W,Ext w0 W->c9 W v l))(h0O:w0.heap.size<=bO) :
 ∀(f:Nat) (X:List Nat) (S:Nat) (O:List (List Nat)) (vX vo:Value) (w:World),Ext w0 w->W6 w vX X->Blk w bO 93 #[vo]->E6 w0 w vo O->S<2 ^ ord l->S.testBit 0=false->ord l<cnt S+f->X.length<=cnt S->(∀x∈X,x<ord l)->W3 (b9 X)=true->(X.length≠0->1<=d8 X (X.length - 1))->O.length+(atR l f X S (F4 X)).length<=48 ->
 Calls Tryz.prog 247 #[.agg #[v],vX,.int .i64 S,.func (.func 306) #[] #[.pointer (some ⟨bG,0,none⟩),.pointer (some ⟨bO,0,none⟩)]] w fun e w'=>e=.returned (.tuple #[])∧∃vo',b53 w0 bO w vo (O++atR l f X S (F4 X)) vo' w':=by
 intro f;induction f with
 | zero=>intro X S O vX vo w hw hX hB hO hS h0 hf;have:=b77 Hgr.out hS;omega
 | succ f ih =>
  intro X S O vX vo w hw hX hB hO hS h0 hf hXl hXo hs hX1 hK;have hob:=m8 Hgr.out;have hp24:=C4 Hgr.out;have hS24:S<2 ^ 24:=nlt hS hp24;have hcS:=b77 Hgr.out hS;obtain⟨wb,hwb⟩:=nq (w.alloc (.cells #[v] 28));have hE0:Ext w wb:=by rw[hwb];exact (er _).alloc _
  have BG:Blk wb w.heap.size 28 #[v]:=by rw[hwb];exact Blk.new _ _ _
  have hneO:w.heap.size≠bO:=by have:=hB.lt;omega
  have hWb:=hw.trans hE0;have HXb:=zh (hX.ext hE0);have HBb:=zh (hB.ext hE0);have HOb:=zh (hO.ext hE0);have HneG:=zh ((hO.ext hE0).not BG (by decide));have HE0:=zh hE0;have Hwb:=zh hwb;have Hih:=zh ih;have HK:=zh hK;have Hs:=zh hs;have hO48:O.length<=48:=om;have cV:=dm2 v l Hgr w0 bG bO HG HI X O S vX vo wb hWb (hX.ext hE0) (hB.ext hE0) (hO.ext hE0) om hXo hs hO48;have Hst0:=fun h=>c07 l f X S (F4 X) (max 1 (F4 X)) h;have Hend:=zh (dn2 l f X S (F4 X));have hmm:max 1 (F4 X)<=ord l:=by
   unfold F4;split
   . omega
   . next hn=>have:=hXo _ (o6 (L:=X) (k:=X.length - 1) om);omega
  obtain⟨m1,hmd⟩:=nq (max 1 (F4 X));rw[<-hmd] at Hst0 hmm;have Hst:=zh (Hst0 (Nat.le_refl _));have Hm1:=zh hmd;have hm1:=hmm;obtain⟨aoX,cX,rfl⟩:=hX.shape;clear ih hwb hE0 hB hO hK hs Hst0 hmd hmm;by_cases hXe:X.length=0
  . have Hm:Hid ((1:Int)=(m1:Int)):=zh (by rw[Hm1.out];unfold F4;rw[if_pos hXe];rfl);have hxI:¬(0:Int)<((X.length:Nat):Int):=om;clear hXe hX hX1;go_in;go_wp2_with fail;rw[<-Hwb.out];refine cV.mono ?_;rintro e w1 ⟨rfl,vo1,hP0⟩;have HP0:=zh hP0;clear hP0 cV;go_wp2_with fail;obtain⟨d17,hd17⟩:∃d:Bool,d=decide (0<X.length):=⟨_,rfl⟩;rw[<-hd17];clear hd17 hxI;go_loopw [9] (fun xv wr=>∃(k:Nat) (u:Value),m1<=k∧k<=ord l∧xv=.int .i64 k∧b53 w0 bO wb vo (O++atK l f X S (F4 X) k) u wr) (fun xv _=>ord l - (intOf xv).toNat);(case atStart=>exact⟨m1,vo1,Nat.le_refl _,hm1,by first | rfl | rw[Hm.out],by rw[Hst.out];exact HP0.out⟩);case round =>
     clear HP0;obtain⟨k,u,hk1,hk2,rfl,hP⟩:=hrel;have hEr:=hP.2.2.1.ext hWb h0O (fun g hg=>(HOb.out.blk g hg).1);have BGr:=hP.2.2.1.blk BG hneO HneG.out;have HXr:=zh (HXb.out.fr HBb.out HOb.out hP.2.2.1);have HP:=zh hP;have kG:∀W,Ext wr W->W.cell? ⟨w.heap.size,0,none⟩=some v:=fun W hW=>(BGr.ext hW).cell (i:=0) rfl;have kr:=kG wr (er wr);have hgr:∀W,Ext wr W->c9 W v l:=fun W hW=>HI.out W (hEr.trans hW);have cO:=p7 v l wr (hgr _ (er wr)) Hgr;clear hP;by_cases hlt:k<ord l
     . have hltI:(k:Int)<(ord l:Int):=(by omega);have hk24:k<24:=om;have hN:=bj0 Hgr.out hS hlt;have hNc:=b71 Hgr.out hS h0 hlt;have hN24:nxS l S k<2 ^ 24:=nlt hN hp24;have hsh:=G0 Hgr.out S k;have q1:=p6 (n:=k) om;have q2:ior (S:Int) (j6 l S k:Int)=((S ||| j6 l S k:Nat):Int):=M4 om om;have q3:ior ((S ||| j6 l S k:Nat):Int) ((pw k:Nat):Int)=((nxS l S k:Nat):Int):=F6 (Nat.or_lt_two_pow hS24 hsh) hk24;have Hno:=zh (fun h=>d57 (l:=l) (f:=f) (X:=X) (S:=S) (m:=F4 X) (k:=k) h);have Hye:=zh (fun h=>cq8 (l:=l) (f:=f) (X:=X) (S:=S) (m:=F4 X) (k:=k) (by rw[<-Hm1.out];exact hk1) h);have Hmono:=zh (fun d=>bu2 l f X S (F4 X) (k+1) d);obtain⟨N,hNd⟩:=nq (nxS l S k);rw[<-hNd] at hN hNc hN24 q3 Hno Hye;have cS:=fun W (hW:Ext wr W)=>H9 v l S k W (hgr _ hW) Hgr hS24 hk24;clear hNd;go_wp2_with (go_at_call 99;refine cO.mono ?_;rintro e1 w1 ⟨rfl,hE1⟩);have hbx:=fun U=>kG _ (hE1.trans (d5 w1 U));have hE:=er w1;(refine wl hE ?_);(repeat (go_big_quiet_step (first | (go_at_call 220;exact Calls.lat (cS _ (hE1.trans (d5 w1 _)))))));(refine zd ?_);(clear hE);(intro W hE);rename World=>w2;have hE2:=hE1.trans hE;clear hbx cS hE;cases ht:N.testBit 0
       . have cI:=fun W=>T1 N 0 hN24 om W ht;have Hy2:=zh (Hye.out ht);have hmX:∀x∈X++[k],x<ord l:=fun y hy=>by
          rw[List.mem_append,List.mem_singleton] at hy
          rcases hy with hy | rfl
          . exact hXo y hy
          . exact hlt
         have hsX:W3 (b9 (X++[k]))=true:=bn7 Hs.out (fun hn=>by
          have h1:m1=max 1 (F4 X):=Hm1.out
          have h2:F4 X=d8 X (X.length - 1):=by unfold F4;rw[if_neg hn]
          omega)
         have hcR:∀W vN,Ext w2 W->W6 W vN (X++[k])->Calls Tryz.prog 247 #[.agg #[v],vN,.int .i64 N,.func (.func 306) #[] #[.pointer (some ⟨bG,0,none⟩),.pointer (some ⟨bO,0,none⟩)]] W fun e w'=>e=.returned (.tuple #[])∧∃vo',b53 w0 bO W u (O++atK l f X S (F4 X) (k+1)) vo' w':=fun W vN hW hI=>by
          have q:=Hih.out (X++[k]) N (O++atK l f X S (F4 X) k) vN u W (hEr.trans (hE2.trans hW)) hI (HP.out.1.ext (hE2.trans hW)) (HP.out.2.1.ext (hE2.trans hW)) hN ht om (by simp;omega) hmX hsX (fun _=>by have hm1q:m1=max 1 (F4 X):=Hm1.out;simp[d8,List.getD];omega) (by
           have h1:=HK.out;have h2:=Hmono.out (ord l - (k+1));rw[show k+1+(ord l - (k+1))=ord l by omega,<-Hend.out,Hy2.out] at h2;rw[bn0];rw[List.length_append] at h2 ⊢;omega)
          rw[bn0,List.append_assoc,<-Hy2.out] at q
          exact q
         have HX2:=zh (fun W (hW:Ext w2 W)=>(HXr.out.ext (hE2.trans hW)).ints);have hln:(b9 X).length+[(k:Int)].length<=17592186044416:=(by rw[j2];simp;omega);have kG2:=fun W (hW:Ext w2 W)=>kG W (hE2.trans hW);have BG2:=BGr.ext hE2;have hXk:(X++[k]).length<=1000:=(by simp;omega);have HneU:=zh (HP.out.2.1.not BGr (by decide));have hFw:=hneO;clear ht hmX hsX;have hE:=er w2;go_wp2_with (go_at_call 225;refine (cI _).mono ?_;rintro e' w' ⟨rfl,hw'⟩;subst hw');(first | (go_region_held3 (fun W=>W.cell? ⟨w.heap.size,0,none⟩=some v) (first | exact hG5 | exact kG2 _ xr) (first | (go_at_call 212;(with_reducible refine Calls.mono (Calls.sh (F8 _ _ _ (HX2.out _ xr))) ?_);rintro eC wC ⟨aoC,cC,rfl,hOC,hXC⟩;have hHC:=Ext.trans (a:=w2) xr hXC;have hOC2:=hOC.mono (show Ext w2 _ by repeat (first | (with_reducible assumption) | (with_reducible exact er _) | (with_reducible apply Ext.drew) | (with_reducible apply Ext.alloc) | (with_reducible (apply And.left;assumption))))) | (go_at_call 247;have hDr:=b72 hON zm hXk;have hRE:W6 wD (.slice aoN (X.length+1) cN) (X++[k]):=Or.inr hDr;have hCL:=hcR wD _ hEN hRE;(with_reducible refine Calls.mono hCL ?_);rintro eF wF ⟨rfl,vF,hAF⟩;have hG5:=(hAF.2.2.1.blk (BG2.ext hEN) hneO HneU.out).cell (i:=0) (v:=v) rfl) | (have hOq:=hOC2;refine q9 slI rfl _ _ rfl w2 w2 _ _ (b9 X) [(k:Int)] (Or.inr (by first | exact hOq | exact hOq.alloc _ | exact (hOq.alloc _).drew)) (Blk.ints1 (T:=3) zq2) xr hln rfl rfl ?_;intro vD wD hOD hXD hTD;obtain⟨aoN,cN,rfl,hON,hEN⟩:=NxP.of hOD hXD))) | (fail "the region"));all_goals
          have hFin:=(HP.out.ext hE2).trans hEN hAF
          go_wp2_with fail
          go_roundw
          case rel=>exact⟨k+1,vF,om,om,zg,hFin⟩
          case measure=>exact zm1
       . exact zz79
     . exact zz67
  . have hxI:(0:Int)<((X.length:Nat):Int):=(by omega);have hXl1:X.length - 1<X.length:=om;have h1l:=hX1 hXe;have Hlast:Hid (d8 X (X.length - 1)=m1):=zh (by rw[Hm1.out];unfold F4;rw[if_neg hXe];omega);have Hm:Hid ((m1:Int)=(m1:Int)):=zh rfl;clear hXe hX hX1 h1l;go_in;go_wp2_with fail;rw[<-Hwb.out];refine cV.mono ?_;rintro e w1 ⟨rfl,vo1,hP0⟩;obtain⟨ao',c',adrX,hvX,hadrX,hcellX⟩:=(HXb.out.fr HBb.out HOb.out hP0.2.2.1).ints.nats;have hix:=j3 (c:=c') elI szI hadrX;simp only[Value.slice.injEq] at hvX;obtain⟨rfl,-,rfl⟩:=hvX;have ix1:∀W,(Instr.indexAt 26 (.slice aoX X.length cX) (.int .i64 ((X.length:Int) - 1))).run Tryz.prog W=.ok (.pointer (some (adrX (X.length - 1)))) W:=fun W=>(by rw[show ((X.length:Int) - 1)=((X.length - 1:Nat):Int) by omega];exact hix _ W hXl1);have hck:w1.cell? (adrX (X.length - 1))=some (.int .i64 (m1:Int)):=(by rw[<-Hlast.out];exact hcellX _ _ hXl1 (er _));have HP0:=zh hP0;clear hP0 cV hix hcellX hadrX;go_wp2_with fail;obtain⟨d17,hd17⟩:∃d:Bool,d=decide (0<X.length):=⟨_,rfl⟩;rw[<-hd17];clear hd17 hxI ix1 hck;go_loopw [9] (fun xv wr=>∃(k:Nat) (u:Value),m1<=k∧k<=ord l∧xv=.int .i64 k∧b53 w0 bO wb vo (O++atK l f X S (F4 X) k) u wr) (fun xv _=>ord l - (intOf xv).toNat);(case atStart=>exact⟨m1,vo1,Nat.le_refl _,hm1,by first | rfl | rw[Hm.out],by rw[Hst.out];exact HP0.out⟩);case round =>
     clear HP0;obtain⟨k,u,hk1,hk2,rfl,hP⟩:=hrel;have hEr:=hP.2.2.1.ext hWb h0O (fun g hg=>(HOb.out.blk g hg).1);have BGr:=hP.2.2.1.blk BG hneO HneG.out;have HXr:=zh (HXb.out.fr HBb.out HOb.out hP.2.2.1);have HP:=zh hP;have kG:∀W,Ext wr W->W.cell? ⟨w.heap.size,0,none⟩=some v:=fun W hW=>(BGr.ext hW).cell (i:=0) rfl;have kr:=kG wr (er wr);have hgr:∀W,Ext wr W->c9 W v l:=fun W hW=>HI.out W (hEr.trans hW);have cO:=p7 v l wr (hgr _ (er wr)) Hgr;clear hP;by_cases hlt:k<ord l
     . have hltI:(k:Int)<(ord l:Int):=(by omega);have hk24:k<24:=om;have hN:=bj0 Hgr.out hS hlt;have hNc:=b71 Hgr.out hS h0 hlt;have hN24:nxS l S k<2 ^ 24:=nlt hN hp24;have hsh:=G0 Hgr.out S k;have q1:=p6 (n:=k) om;have q2:ior (S:Int) (j6 l S k:Int)=((S ||| j6 l S k:Nat):Int):=M4 om om;have q3:ior ((S ||| j6 l S k:Nat):Int) ((pw k:Nat):Int)=((nxS l S k:Nat):Int):=F6 (Nat.or_lt_two_pow hS24 hsh) hk24;have Hno:=zh (fun h=>d57 (l:=l) (f:=f) (X:=X) (S:=S) (m:=F4 X) (k:=k) h);have Hye:=zh (fun h=>cq8 (l:=l) (f:=f) (X:=X) (S:=S) (m:=F4 X) (k:=k) (by rw[<-Hm1.out];exact hk1) h);have Hmono:=zh (fun d=>bu2 l f X S (F4 X) (k+1) d);obtain⟨N,hNd⟩:=nq (nxS l S k);rw[<-hNd] at hN hNc hN24 q3 Hno Hye;have cS:=fun W (hW:Ext wr W)=>H9 v l S k W (hgr _ hW) Hgr hS24 hk24;clear hNd;go_wp2_with (go_at_call 99;refine cO.mono ?_;rintro e1 w1 ⟨rfl,hE1⟩);have hbx:=fun U=>kG _ (hE1.trans (d5 w1 U));have hE:=er w1;(refine wl hE ?_);(repeat (go_big_quiet_step (first | (go_at_call 220;exact Calls.lat (cS _ (hE1.trans (d5 w1 _)))))));(refine zd ?_);(clear hE);(intro W hE);rename World=>w2;have hE2:=hE1.trans hE;clear hbx cS hE;cases ht:N.testBit 0
       . have cI:=fun W=>T1 N 0 hN24 om W ht;have Hy2:=zh (Hye.out ht);have hmX:∀x∈X++[k],x<ord l:=fun y hy=>by
          rw[List.mem_append,List.mem_singleton] at hy
          rcases hy with hy | rfl
          . exact hXo y hy
          . exact hlt
         have hsX:W3 (b9 (X++[k]))=true:=bn7 Hs.out (fun hn=>by
          have h1:m1=max 1 (F4 X):=Hm1.out
          have h2:F4 X=d8 X (X.length - 1):=by unfold F4;rw[if_neg hn]
          omega)
         have hcR:∀W vN,Ext w2 W->W6 W vN (X++[k])->Calls Tryz.prog 247 #[.agg #[v],vN,.int .i64 N,.func (.func 306) #[] #[.pointer (some ⟨bG,0,none⟩),.pointer (some ⟨bO,0,none⟩)]] W fun e w'=>e=.returned (.tuple #[])∧∃vo',b53 w0 bO W u (O++atK l f X S (F4 X) (k+1)) vo' w':=fun W vN hW hI=>by
          have q:=Hih.out (X++[k]) N (O++atK l f X S (F4 X) k) vN u W (hEr.trans (hE2.trans hW)) hI (HP.out.1.ext (hE2.trans hW)) (HP.out.2.1.ext (hE2.trans hW)) hN ht om (by simp;omega) hmX hsX (fun _=>by have hm1q:m1=max 1 (F4 X):=Hm1.out;simp[d8,List.getD];omega) (by
           have h1:=HK.out;have h2:=Hmono.out (ord l - (k+1));rw[show k+1+(ord l - (k+1))=ord l by omega,<-Hend.out,Hy2.out] at h2;rw[bn0];rw[List.length_append] at h2 ⊢;omega)
          rw[bn0,List.append_assoc,<-Hy2.out] at q
          exact q
         have HX2:=zh (fun W (hW:Ext w2 W)=>(HXr.out.ext (hE2.trans hW)).ints);have hln:(b9 X).length+[(k:Int)].length<=17592186044416:=(by rw[j2];simp;omega);have kG2:=fun W (hW:Ext w2 W)=>kG W (hE2.trans hW);have BG2:=BGr.ext hE2;have hXk:(X++[k]).length<=1000:=(by simp;omega);have HneU:=zh (HP.out.2.1.not BGr (by decide));have hFw:=hneO;clear ht hmX hsX;have hE:=er w2;go_wp2_with (go_at_call 225;refine (cI _).mono ?_;rintro e' w' ⟨rfl,hw'⟩;subst hw');(first | (go_region_held3 (fun W=>W.cell? ⟨w.heap.size,0,none⟩=some v) (first | exact hG5 | exact kG2 _ xr) (first | (go_at_call 212;(with_reducible refine Calls.mono (Calls.sh (F8 _ _ _ (HX2.out _ xr))) ?_);rintro eC wC ⟨aoC,cC,rfl,hOC,hXC⟩;have hHC:=Ext.trans (a:=w2) xr hXC;have hOC2:=hOC.mono (show Ext w2 _ by repeat (first | (with_reducible assumption) | (with_reducible exact er _) | (with_reducible apply Ext.drew) | (with_reducible apply Ext.alloc) | (with_reducible (apply And.left;assumption))))) | (go_at_call 247;have hDr:=b72 hON zm hXk;have hRE:W6 wD (.slice aoN (X.length+1) cN) (X++[k]):=Or.inr hDr;have hCL:=hcR wD _ hEN hRE;(with_reducible refine Calls.mono hCL ?_);rintro eF wF ⟨rfl,vF,hAF⟩;have hG5:=(hAF.2.2.1.blk (BG2.ext hEN) hneO HneU.out).cell (i:=0) (v:=v) rfl) | (have hOq:=hOC2;refine q9 slI rfl _ _ rfl w2 w2 _ _ (b9 X) [(k:Int)] (Or.inr (by first | exact hOq | exact hOq.alloc _ | exact (hOq.alloc _).drew)) (Blk.ints1 (T:=3) zq2) xr hln rfl rfl ?_;intro vD wD hOD hXD hTD;obtain⟨aoN,cN,rfl,hON,hEN⟩:=NxP.of hOD hXD))) | (fail "the region"));all_goals
          have hFin:=(HP.out.ext hE2).trans hEN hAF
          go_wp2_with fail
          go_roundw
          case rel=>exact⟨k+1,vF,om,om,zg,hFin⟩
          case measure=>exact zm1
       . exact zz79
     . exact zz67
def ch7(R P:List Int):List Int:=P.foldl (fun (T:List Int) (x:Int)=>I7 x T) R
theorem j48(R:List Int)(a:List Nat):ch7 R (b9 a)=O5 R a:=by unfold ch7 O5 b9;rw[List.foldl_map]
theorem zz82{P:Prop}(h:P:=by clear e;go_wp2_with fail;(refine wl hE ?_);(repeat (go_big_quiet_step (first | (fail "no call"))));(refine zd ?_);(clear hE);(intro W hE);go_wp2_with fail;go_roundw;(case rel=>exact⟨j+1,om,zg,by rw[Hn.out],hE1.trans hE⟩);case measure=>exact zm1):P:=h
theorem dc1(u1 u2:Value)(T P:List Int)(w:World)(h1:c9 w u1 T)(h2:c9 w u2 P) :
 Calls Tryz.prog 354 #[u1,u2] w fun e w'=>(∃v',e=.returned (.tuple #[v',.bool (P2 T P)])∧(P2 T P=true->Own 3 w w' v' (ch7 T P)))∧Ext w w':=by
 obtain⟨ao2,c2,adrP,rfl,hlenP,hadrP,hcellP⟩:=h2.op;have hixP:=j3 (c:=c2) elI szI hadrP;have hlenT:T.length<=17592186044416:=by obtain⟨_,_,_,_,h',_⟩:=h1;exact h'
 have hO:Own 3 w (w.alloc (.cells #[] 3)) (.slice (some ⟨w.heap.size,0,none⟩) 0 0) []:=m7 (TI:=3) (n:=0) om (er w) [] rfl;have hEl:=(er w).alloc (.cells #[] 3);have hI:=h1.ext hEl;clear hadrP h2 h1;go_in;go_wp2_with (at_builtin;refine I2 slI rfl _ _ rfl w _ _ _ _ _ hO hI hEl (by simpa using hlenT) rfl rfl ?_;intro v1 w1 hO1 hE1;rw[List.nil_append] at hO1;obtain⟨ao1,c1,rfl,-⟩:=hO1.shape);have HO1:=zh hO1;have HE1:=zh hE1;clear hO hEl hI hO1 hE1;go_loopw [6,7] (fun so si wr=>∃(k:Nat) (T':List Int) (ao:Option Addr) (c:Nat),k<=P.length∧si=.int .i64 k∧so=.slice ao T'.length c∧Own 3 w wr (.slice ao T'.length c) T'∧T'.length<=T.length∧Hid (P2 T P=P2 T' (P.drop k))∧Hid (ch7 T P=ch7 T' (P.drop k))∧Ext w wr) (fun _ si _=>P.length - (intOf si).toNat);case atStart=>exact⟨0,T,ao1,c1,om,rfl,rfl,HO1.out,Nat.le_refl _,zh rfl,zh rfl,HE1.out⟩
 case round =>
  clear HO1 HE1;obtain⟨k,T',ao,c,hk,rfl,rfl,hOr,hTl,HS,HR,hEr⟩:=hrel;have HO:=zh (fun W (hW:Ext wr W)=>hOr.ext hW);by_cases hlt:k<P.length
  . obtain⟨aoT,cT,adrT,hvT,hlT,hadrT,hcellT⟩:=hOr.ints.op;simp only[Value.slice.injEq] at hvT;obtain⟨rfl,-,rfl⟩:=hvT;have hixT:=j3 (c:=c) elI szI hadrT;have hckP:=fun W (hW:Ext wr W)=>hcellP k W hlt (hEr.trans hW);obtain⟨Y,hY⟩:=nq (nth P k);have Hdrop:Hid (P.drop k=Y :: P.drop (k+1)):=zh (by
     rw[hY,List.drop_eq_getElem_cons hlt];simp[nth,List.getD,hlt])
    have hcap:=hOr.ints.cap;rw[<-hY] at hckP;have HEr:=zh hEr;have HcP:=zh hcellP;clear hadrT hOr hY hcellP;have hE:=er wr;go_wp2_with fail;go_loopw [8,9] (fun sa sj wq=>∃j:Nat,j<=T'.length∧sj=.int .i64 j∧sa=.int .i64 (b02 T' Y j)∧Ext wr wq) (fun _ sj _=>T'.length - (intOf sj).toNat);(case atStart=>exact⟨0,om,rfl,rfl,hE⟩);case round =>
     clear hE;rename World=>wq;obtain⟨j,hj,rfl,rfl,hE⟩:=hrel;by_cases hlj:j<T'.length
     . have hk1:=fun U=>hcellT j _ hlj (hE.trans (d5 wq U));have hk2:=fun U=>hckP _ (hE.trans (d5 wq U));have hE1:=hE;clear hE;have hE:=er wq;by_cases e:nth T' j=Y
       . have Hn:=zh (cm4 e);have hq:(nth T' j == Y)=true:=(by rw[e];simp);exact zz82
       . have Hn:=zh (cy5 e);have hq:(nth T' j == Y)=false:=(by rw[beq_eq_false_iff_ne];exact e);exact zz82
     . have hjl:j=T'.length:=(by omega);subst hjl;clear hlj hj;by_cases hneg:b02 T' Y T'.length<0
       . have Hs:Hid (P2 T P=false):=zh (by rw[HS.out,Hdrop.out,cu3 (jl7 hneg)]);go_wp2_with fail;have hEf:=HEr.out.trans hE;exact bodyPost_ret (v:=.tuple #[.slice (some ⟨wq.heap.size,0,none⟩) 0 0,.bool false]) (by simp[results,Tryz.results354,go_sem]) rfl ⟨⟨_,by rw[Hs.out],fun hh=>by rw[Hs.out] at hh;cases hh⟩,hEf.alloc _⟩
       . obtain⟨a,ea,ha,hd,hm⟩:=jb5 hneg;have Hs:Hid (P2 T P=P2 (T'.take a++T'.drop (a+1)) (P.drop (k+1))):=zh (by rw[HS.out,Hdrop.out,cj2 hm,hd]);have Hr:Hid (ch7 T P=ch7 (T'.take a++T'.drop (a+1)) (P.drop (k+1))):=zh (by rw[HR.out,Hdrop.out,<-hd];rfl);have Hlen:Hid ((T'.take a++T'.drop (a+1)).length<=T.length):=zh (by rw[List.length_append,List.length_take,List.length_drop];omega);have hln:(T'.take a).length+(T'.drop (a+1)).length<=17592186044416:=(by rw[List.length_take,List.length_drop];omega);rw[ea];have hna:¬((a:Int)<0):=om;have hsl:=fun W=>b23 (P:=Tryz.prog) elI szI ao T'.length c (a:Int) om om W;have hsa:=fun W=>Y3 (P:=Tryz.prog) elI szI ao T'.length c (a:Int) om om W;have hfl:=fun W=>Q1 (P:=Tryz.prog) elI szI ao T'.length c ((a:Int)+1) om om W;have hfa:=fun W=>O9 (P:=Tryz.prog) elI szI ao T'.length c ((a:Int)+1) om om W;rw[show ((a:Int)).toNat=a by omega] at hsl hsa;rw[show ((a:Int)+1).toNat=a+1 by omega] at hfl hfa;have hw1:IntKind.i64.wrap ((a:Int)+1)=(a:Int)+1:=IntWalk.i64_in _ om;have HA:=zh (fun W (hW:Ext wq W)=>(HO.out W (hE.trans hW)).ints.take (k:=a) om);have HB:=zh (fun W (hW:Ext wq W)=>(HO.out W (hE.trans hW)).ints.drop (k:=a+1) om);have hEq:=HEr.out.trans hE;clear hneg ea hd hm hcellT hckP hixT hixP;have hE1:=hE;clear hE;have hE:=er wq;go_wp2_with fail;(first | (go_region_held3 (fun W=>Ext wq W) (exact xq) (first | (have hOq:=hOC;refine q9 slI rfl _ _ rfl wq wq _ _ (T'.take a) (T'.drop (a+1)) (Or.inr (by first | exact hOC | exact hOC.alloc _ | exact (hOC.alloc _).drew)) (HB.out _ xq) xq hln rfl rfl ?_;intro vD wD hOD hXD hTD) | (refine P0 slI rfl _ _ rfl _ _ (T'.take a) rfl rfl zq0 (HA.out _ xq) wq (by first | exact Nat.le_refl _ | omega | (simp;omega)) xq ?_;intro aoC cC wC hOC hZC hEC;have hXC:=Ext.trans (a:=wq) xq hEC))) | (fail "the region"));all_goals
          obtain⟨aoN,cN,rfl,hON,hEN⟩:=MiP.of hOD hXD
          go_wp2_with fail
          go_roundw
          case rel=>exact⟨k+1,_,aoN,cN,om,zg,rfl,hON.mono hEq,Hlen.out,Hs,Hr,hEq.trans hEN⟩
          case measure=>exact zm1
  . have hkl:k=P.length:=(by omega);have Hs:Hid (P2 T P=true):=zh (by rw[HS.out,hkl,List.drop_length];rfl);go_wp2_with fail;exact bodyPost_ret (v:=.tuple #[.slice ao T'.length c,.bool true]) (by simp[results,Tryz.results354,go_sem]) rfl ⟨⟨_,by rw[Hs.out],fun _=>by rw[HR.out,hkl,List.drop_length];exact HO.out wr (er _)⟩,hEr⟩
def V5(w:World)(u:Value)(n:Nat):Prop:=n<=1000∧∃M:List Value,M.length=n∧(∀x∈M,x.oneCell'=true)∧((n=0∧u=.slice none 0 0)∨∃(g cap:Nat) (cs:Array Value),u=.slice (some ⟨g,0,none⟩) n cap∧n<=cap∧Blk w g 26 cs∧∀(i:Nat) x,M[i]?=some x->cs[i]?=some x)
theorem V5.ext{w w':World}{u:Value}{n:Nat}(h:V5 w u n)(hE:Ext w w'):V5 w' u n:=by
 obtain⟨h0,M,h1,h2,h3⟩:=h;refine⟨h0,M,h1,h2,?_⟩;rcases h3 with h3 | ⟨g,cap,cs,h3,h4,h5,h6⟩
 . exact Or.inl h3
 . exact Or.inr ⟨g,cap,cs,h3,h4,h5.ext hE,h6⟩
theorem V5.one{w:World}{u:Value}{n:Nat}(h:V5 w u n):u.oneCell'=true:=by
 obtain⟨h0,M,h1,h2,⟨-,rfl⟩ | ⟨g,cap,cs,rfl,-⟩⟩:=h<;>rfl
theorem V5.shape{w:World}{u:Value}{n:Nat}(h:V5 w u n):∃ao c,u=.slice ao n c:=by
 obtain⟨h0,M,h1,h2,⟨rfl,rfl⟩ | ⟨g,cap,cs,rfl,-⟩⟩:=h
 . exact⟨_,_,rfl⟩
 . exact⟨_,_,rfl⟩
theorem V5.cells{w:World}{u:Value}{n:Nat}(h:V5 w u n):∃M:List Value,M.length=n∧(∀x∈M,x.oneCell'=true)∧V1 w u M:=by
 obtain⟨h0,M,h1,h2,⟨rfl,rfl⟩ | ⟨g,cap,cs,rfl,h4,h5,h6⟩⟩:=h
 . exact⟨[],rfl,zm,Or.inl ⟨rfl,rfl⟩⟩
 . refine⟨M,h1,h2,Or.inr ⟨⟨g,0,none⟩,cap,by rw[h1],fun j x hx=>?_⟩⟩;rw[Addr.add_lit,Nat.zero_add];exact h5.cell (i:=j) (h6 j x hx)
theorem j49{w:World}{g:Nat}(h:Blk w g 26 #[]):V5 w (.slice (some ⟨g,0,none⟩) 0 0) 0:=⟨om,[],rfl,zm,Or.inr ⟨g,0,_,rfl,om,h,fun i x hx=>by simp at hx⟩⟩
theorem de9{w0 w:World}{u:Value}{M:List Value}(h:A5 26 w0 w u M)(h1:M.length<=1000):V5 w u M.length:=by
 obtain⟨k1,k2,-⟩:=h;refine⟨h1,M,rfl,k1,?_⟩;rcases k2.2 with ⟨rfl,hl⟩ | ⟨g,cap,cur,rfl,hg,hh,hnc,hcm,hcs,htk⟩
 . exact Or.inl ⟨hl,rfl⟩
 . refine Or.inr ⟨g,cap,cur,rfl,hnc,hh,fun i x hx=>?_⟩;have hi:i<M.length:=(List.getElem?_eq_some_iff.1 hx).1;rw[<-htk,List.getElem?_take_of_lt om] at hx;simpa using hx
theorem V5.grown{w0 w w':World}{u v:Value}{n:Nat}{TE:TypeId}{L:List Value}(h:V5 w u n)(hO:A5 TE w0 w v L)(hT:26≠TE)(hg:w.grownBy w' v.ownBlock):V5 w' u n:=by
 obtain⟨h0,M,h1,h2,h3⟩:=h;refine⟨h0,M,h1,h2,?_⟩;rcases h3 with h3 | ⟨g,cap,cs,h3,h4,h5,h6⟩
 . exact Or.inl h3
 . exact Or.inr ⟨g,cap,cs,h3,h4,h5.grown hg fun k hk e=>hO.not h5 hT (by rw[hk,e]),h6⟩
theorem V5.other{w:World}{u:Value}{n:Nat}{b:Nat}{T:TypeId}{cs':Array Value}(h:V5 w u n)(hB:Blk w b T cs')(hT:T≠26)(i:Nat)(x:Value):V5 (w.setCell ⟨b,i,none⟩ x) u n:=by
 obtain⟨h0,M,h1,h2,h3⟩:=h;refine⟨h0,M,h1,h2,?_⟩;rcases h3 with h3 | ⟨g,cap,cs,h3,h4,h5,h6⟩
 . exact Or.inl h3
 . refine Or.inr ⟨g,cap,cs,h3,h4,h5.other (fun e=>?_) _,h6⟩;have e':g=b:=e;subst e';have hB':w.heap[g]?=some (.cells cs' T (0,0)):=hB;have h3':w.heap[g]?=some (.cells cs 26 (0,0)):=h5;rw[h3'] at hB';simp at hB';exact hT hB'.2.symm
def D7(w0 w:World)(v:Value)(A:List Nat):Prop:=∃L:List Value,L.length=A.length∧A5 93 w0 w v L∧∀i,i<A.length->V5 w (L.getD i (.slice none 0 0)) (A.getD i 0)
theorem D7.ext{w0 w w':World}{v:Value}{A:List Nat}(h:D7 w0 w v A)(hE:Ext w w'):D7 w0 w' v A:=by
 obtain⟨L,h1,h2,h3⟩:=h;exact⟨L,h1,h2.ext hE,fun i hi=>(h3 i hi).ext hE⟩
theorem D7.mono{w0 w1 w:World}{v:Value}{A:List Nat}(h:D7 w1 w v A)(hE:Ext w0 w1):D7 w0 w v A:=by
 obtain⟨L,h1,h2,h3⟩:=h;exact⟨L,h1,h2.mono hE,h3⟩
theorem b82{w0 w:World}(hE:Ext w0 w):D7 w0 (w.alloc (.cells #[] 93)) (.slice (some ⟨w.heap.size,0,none⟩) 0 0) []:=⟨[],rfl,bn2 hE,fun i hi=>by simp at hi⟩
theorem D7.blk{w0 w:World}{v:Value}{A:List Nat}(h:D7 w0 w v A):∀k,v.ownBlock=some k->w0.heap.size<=k∧k<w.heap.size:=by
 obtain⟨L,h1,h2,h3⟩:=h;exact h2.blk
theorem D7.not{w0 w:World}{v:Value}{A:List Nat}{T:TypeId}(h:D7 w0 w v A){g:Nat}{cs:Array Value}(hB:Blk w g T cs)(hT:T≠93):v.ownBlock≠some g:=by
 obtain⟨L,h1,h2,h3⟩:=h;exact h2.not hB hT
theorem D7.more{w0 W w':World}{v v' y:Value}{A:List Nat}{a:Nat}{L:List Value}(h1:L.length=A.length)(h2:A5 93 w0 W v L)(h3:∀i,i<A.length->V5 W (L.getD i (.slice none 0 0)) (A.getD i 0))(hy:V5 W y a)(hO:A5 93 w0 w' v' (L++[y]))(hG:W.grownBy w' v.ownBlock):D7 w0 w' v' (A++[a]):=by
 refine⟨L++[y],by simp[h1],hO,fun i hi=>?_⟩;by_cases e:i<A.length
 . have e1:(L++[y]).getD i (.slice none 0 0)=L.getD i (.slice none 0 0):=(by simp[List.getD,List.getElem?_append_left (show i<L.length by omega)]);have e2:(A++[a]).getD i 0=A.getD i 0:=(by simp[List.getD,List.getElem?_append_left e]);rw[e1,e2];exact (h3 i e).grown h2 (by decide) hG
 . have hi':i=A.length:=(by simp at hi;omega);have e1:(L++[y]).getD i (.slice none 0 0)=y:=(by rw[hi',<-h1];simp[List.getD]);have e2:(A++[a]).getD i 0=a:=(by rw[hi'];simp[List.getD]);rw[e1,e2];exact hy.grown h2 (by decide) hG
theorem D7.shape{w0 w:World}{v:Value}{A:List Nat}(h:D7 w0 w v A):∃(ao:Option Addr) (c:Nat),v=.slice ao A.length c∧A.length<=c∧(∀i,i<A.length->∃g u,ao=some ⟨g,0,none⟩∧w.cell? ⟨g,i,none⟩=some u∧V5 w u (A.getD i 0)):=by
 exact zz107
def V2(w:World)(L:List Value)(A:List Nat):Prop:=L.length=A.length∧∀i,i<A.length->V5 w (L.getD i (.slice none 0 0)) (A.getD i 0)
theorem V2.ext{w w':World}{L:List Value}{A:List Nat}(h:V2 w L A)(hE:Ext w w'):V2 w' L A:=⟨h.1,fun i hi=>(h.2 i hi).ext hE⟩
theorem V2.one{w:World}{u:Value}{a:Nat}(h:V5 w u a):V2 w [u] [a]:=⟨rfl,fun i hi=>by
 have:i=0:=by simp at hi;omega
 subst this;exact h⟩
theorem V2.append{w:World}{L M:List Value}{A B:List Nat}(h:V2 w L A)(k:V2 w M B):V2 w (L++M) (A++B):=by
 refine⟨by rw[List.length_append,List.length_append,h.1,k.1],fun i hi=>?_⟩;have hl:=h.1;by_cases e:i<A.length
 . have e1:(L++M).getD i (.slice none 0 0)=L.getD i (.slice none 0 0):=(by simp[List.getD,List.getElem?_append_left (show i<L.length by omega)]);have e2:(A++B).getD i 0=A.getD i 0:=(by simp[List.getD,List.getElem?_append_left e]);rw[e1,e2];exact h.2 i e
 . have e1:(L++M).getD i (.slice none 0 0)=M.getD (i - A.length) (.slice none 0 0):=(by simp[List.getD,List.getElem?_append_right (show L.length<=i by omega),hl]);have e2:(A++B).getD i 0=B.getD (i - A.length) 0:=(by simp[List.getD,List.getElem?_append_right (show A.length<=i by omega)]);rw[e1,e2];exact k.2 _ (by rw[List.length_append] at hi;omega)
theorem V2.take{w:World}{L:List Value}{A:List Nat}(h:V2 w L A)(k:Nat):V2 w (L.take k) (A.take k):=by
 refine⟨by rw[List.length_take,List.length_take,h.1],fun i hi=>?_⟩;rw[List.length_take] at hi;have e1:(L.take k).getD i (.slice none 0 0)=L.getD i (.slice none 0 0):=by simp[List.getD,List.getElem?_take_of_lt (show i<k by omega)]
 have e2:(A.take k).getD i 0=A.getD i 0:=by simp[List.getD,List.getElem?_take_of_lt (show i<k by omega)]
 rw[e1,e2];exact h.2 i om
theorem V2.drop{w:World}{L:List Value}{A:List Nat}(h:V2 w L A)(k:Nat):V2 w (L.drop k) (A.drop k):=by
 refine⟨by rw[List.length_drop,List.length_drop,h.1],fun i hi=>?_⟩;rw[List.length_drop] at hi;have e1:(L.drop k).getD i (.slice none 0 0)=L.getD (k+i) (.slice none 0 0):=by simp[List.getD,List.getElem?_drop]
 have e2:(A.drop k).getD i 0=A.getD (k+i) 0:=by simp[List.getD,List.getElem?_drop]
 rw[e1,e2];exact h.2 _ om
theorem V2.all{w:World}{L:List Value}{A:List Nat}(h:V2 w L A):∀u∈L,u.oneCell'=true:=fun u hu=>by
 obtain⟨i,hi,rfl⟩:=List.getElem_of_mem hu
 have:=h.2 i (by rw[<-h.1];exact hi)
 simpa[List.getD,hi] using this.one
theorem D7.rows{w0 w:World}{v:Value}{A:List Nat}(h:D7 w0 w v A):∃L,A5 93 w0 w v L∧V2 w L A:=by
 obtain⟨L,h1,h2,h3⟩:=h;exact⟨L,h2,h1,h3⟩
theorem jm7{w0 w:World}{v:Value}{A:List Nat}{L:List Value}(h:A5 93 w0 w v L)(k:V2 w L A):D7 w0 w v A:=⟨L,k.1,h,k.2⟩
end Go.Zz
