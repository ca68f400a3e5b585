/- FormatClaim of the program. -/
import Derived.Test.YtdlbbpeahicakaaGreatGr33
set_option linter.unusedSimpArgs false
set_option linter.unusedVariables false
set_option linter.unnecessarySimpa false
namespace Go.Zz
open Go.RowKit Go.Proofs
set_option maxHeartbeats 1000000
set_option maxRecDepth 8000
theorem FormatClaim_1(a b s p n:Int)(g o t q:List Int)(v1 v2 v3 v4:Value)(w:World)(h:Ints4 w v1 v2 v3 v4 g o t q) :
 Calls Tryz.prog 45 #[CV 1 v1 v2 a b s p v3 v4 n] w fun e w'=>e=.returned (.string (fcF 1 g o a b s p t q n))∧Ext w w':=by
 unfold CV
 have hop:=h.g.op
 obtain⟨ao1,k1,adr1,rfl,-,-,-⟩:=hop
 obtain⟨wb,hwb⟩:∃wb,wb=w.alloc (.cells #[.int .i64 1,.slice ao1 g.length k1,v2,.int .i64 a,.int .i64 b,.int .i64 s,.int .i64 p,v3,v4,.int .i64 n] 38):=⟨_,rfl⟩
 have hE0:Ext w wb:=by rw[hwb];exact (Ext.refl _).alloc _
 have B0:Blk wb w.heap.size 38 #[.int .i64 1,.slice ao1 g.length k1,v2,.int .i64 a,.int .i64 b,.int .i64 s,.int .i64 p,v3,v4,.int .i64 n]:=by rw[hwb];exact Blk.new _ _ _
 have Hsz:Hid (wb.heap.size=w.heap.size+1):=Lib.hid (by rw[hwb];simp)
 have A0:∀W,Ext wb W→W.cell? ⟨w.heap.size,0,none⟩=some (.int .i64 1):=fun W hW=>(B0.ext hW).cell (i:=0) (v:=.int .i64 1) rfl
 have A1:∀W,Ext wb W→W.cell? ⟨w.heap.size,1,none⟩=some (.slice ao1 g.length k1):=fun W hW=>(B0.ext hW).cell (i:=1) (v:=.slice ao1 g.length k1) rfl
 have A2:∀W,Ext wb W→W.cell? ⟨w.heap.size,2,none⟩=some (v2):=fun W hW=>(B0.ext hW).cell (i:=2) (v:=v2) rfl
 have A3:∀W,Ext wb W→W.cell? ⟨w.heap.size,3,none⟩=some (.int .i64 a):=fun W hW=>(B0.ext hW).cell (i:=3) (v:=.int .i64 a) rfl
 have A4:∀W,Ext wb W→W.cell? ⟨w.heap.size,4,none⟩=some (.int .i64 b):=fun W hW=>(B0.ext hW).cell (i:=4) (v:=.int .i64 b) rfl
 have A5:∀W,Ext wb W→W.cell? ⟨w.heap.size,5,none⟩=some (.int .i64 s):=fun W hW=>(B0.ext hW).cell (i:=5) (v:=.int .i64 s) rfl
 have A6:∀W,Ext wb W→W.cell? ⟨w.heap.size,6,none⟩=some (.int .i64 p):=fun W hW=>(B0.ext hW).cell (i:=6) (v:=.int .i64 p) rfl
 have A7:∀W,Ext wb W→W.cell? ⟨w.heap.size,7,none⟩=some (v3):=fun W hW=>(B0.ext hW).cell (i:=7) (v:=v3) rfl
 have A8:∀W,Ext wb W→W.cell? ⟨w.heap.size,8,none⟩=some (v4):=fun W hW=>(B0.ext hW).cell (i:=8) (v:=v4) rfl
 have A9:∀W,Ext wb W→W.cell? ⟨w.heap.size,9,none⟩=some (.int .i64 n):=fun W hW=>(B0.ext hW).cell (i:=9) (v:=.int .i64 n) rfl
 have HI:Hid (∀W,Ext wb W→Ints4 W (.slice ao1 g.length k1) v2 v3 v4 g o t q):=Lib.hid fun W hW=>h.ext (hE0.trans hW)
 have hE:=Ext.refl wb
 have Hwb:=Lib.hid hwb
 clear hwb h B0
 have cw1:(cwB 1).size≤6:=cwB_size _
 have cg1:(fgF g).size≤600:=fgF_size g
 have cg2:(fgF o).size≤600:=fgF_size o
 have ct1:(shortF t).size≤600:=shortF_size t
 have cq1:(shortF q).size≤600:=shortF_size q
 have csa:(fsF g a).size≤600:=fsF_size g a
 have csb:(fsF g b).size≤600:=fsF_size g b
 have css:(fsF g s).size≤600:=fsF_size g s
 have csp:(fsF g p).size≤600:=fsF_size g p
 have cn1:(fmtB (clampF n)).size≤13:=fmtB_size (clampF_in n)
 obtain⟨wc,hwc⟩:∃wc,wc=wb.alloc (.cells #[.slice ao1 g.length k1] 27):=⟨_,rfl⟩
 have hbc:Ext wb wc:=by rw[hwc];exact (Ext.refl _).alloc _
 have G0:∀W,Ext wc W→W.cell? ⟨w.heap.size+1,0,none⟩=some (.slice ao1 g.length k1):=by rw[hwc,←Hsz.out];exact box_cell wb _ _
 replace A0:=fun W (hW:Ext wc W)=>A0 W (hbc.trans hW)
 replace A1:=fun W (hW:Ext wc W)=>A1 W (hbc.trans hW)
 replace A2:=fun W (hW:Ext wc W)=>A2 W (hbc.trans hW)
 replace A3:=fun W (hW:Ext wc W)=>A3 W (hbc.trans hW)
 replace A4:=fun W (hW:Ext wc W)=>A4 W (hbc.trans hW)
 replace A5:=fun W (hW:Ext wc W)=>A5 W (hbc.trans hW)
 replace A6:=fun W (hW:Ext wc W)=>A6 W (hbc.trans hW)
 replace A7:=fun W (hW:Ext wc W)=>A7 W (hbc.trans hW)
 replace A8:=fun W (hW:Ext wc W)=>A8 W (hbc.trans hW)
 replace A9:=fun W (hW:Ext wc W)=>A9 W (hbc.trans hW)
 replace HI:Hid (∀W,Ext wc W→Ints4 W (.slice ao1 g.length k1) v2 v3 v4 g o t q):=Lib.hid fun W hW=>HI.out W (hbc.trans hW)
 replace hE0:=hE0.trans hbc
 replace hE:=Ext.refl wc
 have Hwc:=Lib.hid hwc
 clear hwc hbc
 have ew:(cwB 1).toList.isEmpty=false:=cwB_some (by omega)
 have Hv:Hid (fcF 1 g o a b s p t q n=bif areF g [a,b,s,p] then (((((((((((cwB 1)++(⟨#[32]⟩:ByteArray))++(fgF g))++(⟨#[32,124,32]⟩:ByteArray))++(fsF g a))++(⟨#[32,97,110,100,32]⟩:ByteArray))++(fsF g b))++(⟨#[32,105,115,32]⟩:ByteArray))++(fsF g s))++(⟨#[32,112,101,114,105,111,100,32]⟩:ByteArray))++(fsF g p)) else ⟨#[]⟩):=Lib.hid rfl
 cases hxg:isGrp g
 · have hx:areF g [a,b,s,p]=false:=by unfold areF;rw[hxg];simp
   rw[hx] at Hv
   go_enter Tryz.func45,Tryz.ntmps45
   go_wp2_with fail
   rw[←Hwb.out,←Hwc.out]
   go_wp2_with (first | (go_at_call 48;refine (ClaimWord_any _ _).mono ?_;rintro e w' ⟨rfl,hE'⟩;replace hE:=hE.trans hE';clear hE') | (go_at_call 132;first | (with_reducible refine Calls.mono (FormatGroup_any _ _ _ (HI.out _ hE).g) ?_;rintro e w' ⟨rfl,hE'⟩;replace hE:=hE.trans hE';clear hE') | (with_reducible refine Calls.mono (FormatGroup_any _ _ _ (HI.out _ hE).o) ?_;rintro e w' ⟨rfl,hE'⟩;replace hE:=hE.trans hE';clear hE')) | (go_at_call 131;first | (with_reducible refine Calls.mono (IsGroup_any _ _ _ (HI.out _ hE).g) ?_;rintro e w' ⟨rfl,hE'⟩;replace hE:=hE.trans hE';clear hE';try rw[hxg]) | (with_reducible refine Calls.mono (IsGroup_any _ _ _ (HI.out _ hE).o) ?_;rintro e w' ⟨rfl,hE'⟩;replace hE:=hE.trans hE';clear hE';try rw[hxo])))
   go_ret
   exact⟨ret_str Hv.out.symm,hE0.trans hE⟩
 cases hx:areF g [a,b,s,p]
 · rw[hx] at Hv
   go_enter Tryz.func45,Tryz.ntmps45
   go_wp2_with fail
   rw[←Hwb.out,←Hwc.out]
   go_wp2_with (first | (go_at_call 48;refine (ClaimWord_any _ _).mono ?_;rintro e w' ⟨rfl,hE'⟩;replace hE:=hE.trans hE';clear hE') | (go_at_call 132;first | (with_reducible refine Calls.mono (FormatGroup_any _ _ _ (HI.out _ hE).g) ?_;rintro e w' ⟨rfl,hE'⟩;replace hE:=hE.trans hE';clear hE') | (with_reducible refine Calls.mono (FormatGroup_any _ _ _ (HI.out _ hE).o) ?_;rintro e w' ⟨rfl,hE'⟩;replace hE:=hE.trans hE';clear hE')) | (go_at_call 131;first | (with_reducible refine Calls.mono (IsGroup_any _ _ _ (HI.out _ hE).g) ?_;rintro e w' ⟨rfl,hE'⟩;replace hE:=hE.trans hE';clear hE';try rw[hxg]) | (with_reducible refine Calls.mono (IsGroup_any _ _ _ (HI.out _ hE).o) ?_;rintro e w' ⟨rfl,hE'⟩;replace hE:=hE.trans hE';clear hE';try rw[hxo])) | (go_at_call 133;refine Calls.mono (areSets_val _ _ _ _ _ ((HI.out _ hE).g.ext (by repeat (first | assumption | exact Ext.refl _ | (apply And.left;assumption) | apply Ext.drew | apply Ext.alloc))) (ints_four _ _ _ _ _ _) hx) ?_;rintro e w' ⟨rfl,hE'⟩;replace hE:=hE.trans (Ext.trans (by repeat (first | assumption | exact Ext.refl _ | (apply And.left;assumption) | apply Ext.drew | apply Ext.alloc)) hE');clear hE'))
   go_ret
   exact⟨ret_str Hv.out.symm,hE0.trans hE⟩
 rw[hx] at Hv
 go_enter Tryz.func45,Tryz.ntmps45
 go_wp2_with fail
 rw[←Hwb.out,←Hwc.out]
 go_wp2_with (first | (go_at_call 48;refine (ClaimWord_any _ _).mono ?_;rintro e w' ⟨rfl,hE'⟩;replace hE:=hE.trans hE';clear hE') | (go_at_call 132;first | (with_reducible refine Calls.mono (FormatGroup_any _ _ _ (HI.out _ hE).g) ?_;rintro e w' ⟨rfl,hE'⟩;replace hE:=hE.trans hE';clear hE') | (with_reducible refine Calls.mono (FormatGroup_any _ _ _ (HI.out _ hE).o) ?_;rintro e w' ⟨rfl,hE'⟩;replace hE:=hE.trans hE';clear hE')) | (go_at_call 131;first | (with_reducible refine Calls.mono (IsGroup_any _ _ _ (HI.out _ hE).g) ?_;rintro e w' ⟨rfl,hE'⟩;replace hE:=hE.trans hE';clear hE';try rw[hxg]) | (with_reducible refine Calls.mono (IsGroup_any _ _ _ (HI.out _ hE).o) ?_;rintro e w' ⟨rfl,hE'⟩;replace hE:=hE.trans hE';clear hE';try rw[hxo])) | (go_at_call 133;refine Calls.mono (areSets_val _ _ _ _ _ ((HI.out _ hE).g.ext (by repeat (first | assumption | exact Ext.refl _ | (apply And.left;assumption) | apply Ext.drew | apply Ext.alloc))) (ints_four _ _ _ _ _ _) hx) ?_;rintro e w' ⟨rfl,hE'⟩;replace hE:=hE.trans (Ext.trans (by repeat (first | assumption | exact Ext.refl _ | (apply And.left;assumption) | apply Ext.drew | apply Ext.alloc)) hE');clear hE'))
 have G1:=fun U=>G0 (Lat wc U) (lat_ext wc U)
 have D1:=fun U=>A1 (Lat wc U) (lat_ext wc U)
 have D2:=fun U=>A2 (Lat wc U) (lat_ext wc U)
 have D3:=fun U=>A3 (Lat wc U) (lat_ext wc U)
 have D4:=fun U=>A4 (Lat wc U) (lat_ext wc U)
 have D5:=fun U=>A5 (Lat wc U) (lat_ext wc U)
 have D6:=fun U=>A6 (Lat wc U) (lat_ext wc U)
 have D7:=fun U=>A7 (Lat wc U) (lat_ext wc U)
 have D8:=fun U=>A8 (Lat wc U) (lat_ext wc U)
 have D9:=fun U=>A9 (Lat wc U) (lat_ext wc U)
 (refine wp_region_lat (wc) (by kernel_rfl) (by kernel_rfl) hE ?_);(repeat (go_big_quiet_step (first | (go_at_call 130;first | with_reducible exact Calls.lat (short_any _ _ _ (HI.out _ (lat_ext wc _)).t) | with_reducible exact Calls.lat (short_any _ _ _ (HI.out _ (lat_ext wc _)).q)) | (go_at_call 132;with_reducible exact Calls.lat (FormatGroup_any _ _ _ (HI.out _ (lat_ext wc _)).o)) | (go_at_call 68;with_reducible exact Calls.lat (FormatSet_any _ _ _ _ (HI.out _ (lat_ext wc _)).g)) | (go_at_call 66;with_reducible exact Calls.lat (FormatInt_any _ (clampF_in n) _)) | (go_at_call 129;with_reducible exact Calls.lat_same (narrow_any _ _)))));(refine wpQuiet_nil ?_);(intro W hE');(replace hE:=lat_of hE');(clear hE')
 go_wp2_with fail
 go_ret
 exact⟨ret_str Hv.out.symm,hE0.trans hE⟩
theorem FormatClaim_2(a b s p n:Int)(g o t q:List Int)(v1 v2 v3 v4:Value)(w:World)(h:Ints4 w v1 v2 v3 v4 g o t q) :
 Calls Tryz.prog 45 #[CV 2 v1 v2 a b s p v3 v4 n] w fun e w'=>e=.returned (.string (fcF 2 g o a b s p t q n))∧Ext w w':=by
 unfold CV
 have hop:=h.g.op
 obtain⟨ao1,k1,adr1,rfl,-,-,-⟩:=hop
 obtain⟨wb,hwb⟩:∃wb,wb=w.alloc (.cells #[.int .i64 2,.slice ao1 g.length k1,v2,.int .i64 a,.int .i64 b,.int .i64 s,.int .i64 p,v3,v4,.int .i64 n] 38):=⟨_,rfl⟩
 have hE0:Ext w wb:=by rw[hwb];exact (Ext.refl _).alloc _
 have B0:Blk wb w.heap.size 38 #[.int .i64 2,.slice ao1 g.length k1,v2,.int .i64 a,.int .i64 b,.int .i64 s,.int .i64 p,v3,v4,.int .i64 n]:=by rw[hwb];exact Blk.new _ _ _
 have Hsz:Hid (wb.heap.size=w.heap.size+1):=Lib.hid (by rw[hwb];simp)
 have A0:∀W,Ext wb W→W.cell? ⟨w.heap.size,0,none⟩=some (.int .i64 2):=fun W hW=>(B0.ext hW).cell (i:=0) (v:=.int .i64 2) rfl
 have A1:∀W,Ext wb W→W.cell? ⟨w.heap.size,1,none⟩=some (.slice ao1 g.length k1):=fun W hW=>(B0.ext hW).cell (i:=1) (v:=.slice ao1 g.length k1) rfl
 have A2:∀W,Ext wb W→W.cell? ⟨w.heap.size,2,none⟩=some (v2):=fun W hW=>(B0.ext hW).cell (i:=2) (v:=v2) rfl
 have A3:∀W,Ext wb W→W.cell? ⟨w.heap.size,3,none⟩=some (.int .i64 a):=fun W hW=>(B0.ext hW).cell (i:=3) (v:=.int .i64 a) rfl
 have A4:∀W,Ext wb W→W.cell? ⟨w.heap.size,4,none⟩=some (.int .i64 b):=fun W hW=>(B0.ext hW).cell (i:=4) (v:=.int .i64 b) rfl
 have A5:∀W,Ext wb W→W.cell? ⟨w.heap.size,5,none⟩=some (.int .i64 s):=fun W hW=>(B0.ext hW).cell (i:=5) (v:=.int .i64 s) rfl
 have A6:∀W,Ext wb W→W.cell? ⟨w.heap.size,6,none⟩=some (.int .i64 p):=fun W hW=>(B0.ext hW).cell (i:=6) (v:=.int .i64 p) rfl
 have A7:∀W,Ext wb W→W.cell? ⟨w.heap.size,7,none⟩=some (v3):=fun W hW=>(B0.ext hW).cell (i:=7) (v:=v3) rfl
 have A8:∀W,Ext wb W→W.cell? ⟨w.heap.size,8,none⟩=some (v4):=fun W hW=>(B0.ext hW).cell (i:=8) (v:=v4) rfl
 have A9:∀W,Ext wb W→W.cell? ⟨w.heap.size,9,none⟩=some (.int .i64 n):=fun W hW=>(B0.ext hW).cell (i:=9) (v:=.int .i64 n) rfl
 have HI:Hid (∀W,Ext wb W→Ints4 W (.slice ao1 g.length k1) v2 v3 v4 g o t q):=Lib.hid fun W hW=>h.ext (hE0.trans hW)
 have hE:=Ext.refl wb
 have Hwb:=Lib.hid hwb
 clear hwb h B0
 have cw1:(cwB 2).size≤6:=cwB_size _
 have cg1:(fgF g).size≤600:=fgF_size g
 have cg2:(fgF o).size≤600:=fgF_size o
 have ct1:(shortF t).size≤600:=shortF_size t
 have cq1:(shortF q).size≤600:=shortF_size q
 have csa:(fsF g a).size≤600:=fsF_size g a
 have csb:(fsF g b).size≤600:=fsF_size g b
 have css:(fsF g s).size≤600:=fsF_size g s
 have csp:(fsF g p).size≤600:=fsF_size g p
 have cn1:(fmtB (clampF n)).size≤13:=fmtB_size (clampF_in n)
 obtain⟨wc,hwc⟩:∃wc,wc=wb.alloc (.cells #[.slice ao1 g.length k1] 27):=⟨_,rfl⟩
 have hbc:Ext wb wc:=by rw[hwc];exact (Ext.refl _).alloc _
 have G0:∀W,Ext wc W→W.cell? ⟨w.heap.size+1,0,none⟩=some (.slice ao1 g.length k1):=by rw[hwc,←Hsz.out];exact box_cell wb _ _
 replace A0:=fun W (hW:Ext wc W)=>A0 W (hbc.trans hW)
 replace A1:=fun W (hW:Ext wc W)=>A1 W (hbc.trans hW)
 replace A2:=fun W (hW:Ext wc W)=>A2 W (hbc.trans hW)
 replace A3:=fun W (hW:Ext wc W)=>A3 W (hbc.trans hW)
 replace A4:=fun W (hW:Ext wc W)=>A4 W (hbc.trans hW)
 replace A5:=fun W (hW:Ext wc W)=>A5 W (hbc.trans hW)
 replace A6:=fun W (hW:Ext wc W)=>A6 W (hbc.trans hW)
 replace A7:=fun W (hW:Ext wc W)=>A7 W (hbc.trans hW)
 replace A8:=fun W (hW:Ext wc W)=>A8 W (hbc.trans hW)
 replace A9:=fun W (hW:Ext wc W)=>A9 W (hbc.trans hW)
 replace HI:Hid (∀W,Ext wc W→Ints4 W (.slice ao1 g.length k1) v2 v3 v4 g o t q):=Lib.hid fun W hW=>HI.out W (hbc.trans hW)
 replace hE0:=hE0.trans hbc
 replace hE:=Ext.refl wc
 have Hwc:=Lib.hid hwc
 clear hwc hbc
 have ew:(cwB 2).toList.isEmpty=false:=cwB_some (by omega)
 have Hv:Hid (fcF 2 g o a b s p t q n=bif isGrp g then (((((((cwB 2)++(⟨#[32]⟩:ByteArray))++(fgF g))++(⟨#[32,124,32]⟩:ByteArray))++(shortF t))++(⟨#[32,104,97,115,32]⟩:ByteArray))++(shortF q)) else ⟨#[]⟩):=Lib.hid rfl
 cases hxg:isGrp g
 · rw[hxg] at Hv
   go_enter Tryz.func45,Tryz.ntmps45
   go_wp2_with fail
   rw[←Hwb.out,←Hwc.out]
   go_wp2_with (first | (go_at_call 48;refine (ClaimWord_any _ _).mono ?_;rintro e w' ⟨rfl,hE'⟩;replace hE:=hE.trans hE';clear hE') | (go_at_call 132;first | (with_reducible refine Calls.mono (FormatGroup_any _ _ _ (HI.out _ hE).g) ?_;rintro e w' ⟨rfl,hE'⟩;replace hE:=hE.trans hE';clear hE') | (with_reducible refine Calls.mono (FormatGroup_any _ _ _ (HI.out _ hE).o) ?_;rintro e w' ⟨rfl,hE'⟩;replace hE:=hE.trans hE';clear hE')) | (go_at_call 131;first | (with_reducible refine Calls.mono (IsGroup_any _ _ _ (HI.out _ hE).g) ?_;rintro e w' ⟨rfl,hE'⟩;replace hE:=hE.trans hE';clear hE';try rw[hxg]) | (with_reducible refine Calls.mono (IsGroup_any _ _ _ (HI.out _ hE).o) ?_;rintro e w' ⟨rfl,hE'⟩;replace hE:=hE.trans hE';clear hE';try rw[hxo])))
   go_ret
   exact⟨ret_str Hv.out.symm,hE0.trans hE⟩
 rw[hxg] at Hv
 go_enter Tryz.func45,Tryz.ntmps45
 go_wp2_with fail
 rw[←Hwb.out,←Hwc.out]
 go_wp2_with (first | (go_at_call 48;refine (ClaimWord_any _ _).mono ?_;rintro e w' ⟨rfl,hE'⟩;replace hE:=hE.trans hE';clear hE') | (go_at_call 132;first | (with_reducible refine Calls.mono (FormatGroup_any _ _ _ (HI.out _ hE).g) ?_;rintro e w' ⟨rfl,hE'⟩;replace hE:=hE.trans hE';clear hE') | (with_reducible refine Calls.mono (FormatGroup_any _ _ _ (HI.out _ hE).o) ?_;rintro e w' ⟨rfl,hE'⟩;replace hE:=hE.trans hE';clear hE')) | (go_at_call 131;first | (with_reducible refine Calls.mono (IsGroup_any _ _ _ (HI.out _ hE).g) ?_;rintro e w' ⟨rfl,hE'⟩;replace hE:=hE.trans hE';clear hE';try rw[hxg]) | (with_reducible refine Calls.mono (IsGroup_any _ _ _ (HI.out _ hE).o) ?_;rintro e w' ⟨rfl,hE'⟩;replace hE:=hE.trans hE';clear hE';try rw[hxo])))
 have G1:=fun U=>G0 (Lat wc U) (lat_ext wc U)
 have D1:=fun U=>A1 (Lat wc U) (lat_ext wc U)
 have D2:=fun U=>A2 (Lat wc U) (lat_ext wc U)
 have D3:=fun U=>A3 (Lat wc U) (lat_ext wc U)
 have D4:=fun U=>A4 (Lat wc U) (lat_ext wc U)
 have D5:=fun U=>A5 (Lat wc U) (lat_ext wc U)
 have D6:=fun U=>A6 (Lat wc U) (lat_ext wc U)
 have D7:=fun U=>A7 (Lat wc U) (lat_ext wc U)
 have D8:=fun U=>A8 (Lat wc U) (lat_ext wc U)
 have D9:=fun U=>A9 (Lat wc U) (lat_ext wc U)
 (refine wp_region_lat (wc) (by kernel_rfl) (by kernel_rfl) hE ?_);(repeat (go_big_quiet_step (first | (go_at_call 130;first | with_reducible exact Calls.lat (short_any _ _ _ (HI.out _ (lat_ext wc _)).t) | with_reducible exact Calls.lat (short_any _ _ _ (HI.out _ (lat_ext wc _)).q)) | (go_at_call 132;with_reducible exact Calls.lat (FormatGroup_any _ _ _ (HI.out _ (lat_ext wc _)).o)) | (go_at_call 68;with_reducible exact Calls.lat (FormatSet_any _ _ _ _ (HI.out _ (lat_ext wc _)).g)) | (go_at_call 66;with_reducible exact Calls.lat (FormatInt_any _ (clampF_in n) _)) | (go_at_call 129;with_reducible exact Calls.lat_same (narrow_any _ _)))));(refine wpQuiet_nil ?_);(intro W hE');(replace hE:=lat_of hE');(clear hE')
 go_wp2_with fail
 go_ret
 exact⟨ret_str Hv.out.symm,hE0.trans hE⟩
theorem FormatClaim_3(a b s p n:Int)(g o t q:List Int)(v1 v2 v3 v4:Value)(w:World)(h:Ints4 w v1 v2 v3 v4 g o t q) :
 Calls Tryz.prog 45 #[CV 3 v1 v2 a b s p v3 v4 n] w fun e w'=>e=.returned (.string (fcF 3 g o a b s p t q n))∧Ext w w':=by
 unfold CV
 have hop:=h.g.op
 obtain⟨ao1,k1,adr1,rfl,-,-,-⟩:=hop
 obtain⟨wb,hwb⟩:∃wb,wb=w.alloc (.cells #[.int .i64 3,.slice ao1 g.length k1,v2,.int .i64 a,.int .i64 b,.int .i64 s,.int .i64 p,v3,v4,.int .i64 n] 38):=⟨_,rfl⟩
 have hE0:Ext w wb:=by rw[hwb];exact (Ext.refl _).alloc _
 have B0:Blk wb w.heap.size 38 #[.int .i64 3,.slice ao1 g.length k1,v2,.int .i64 a,.int .i64 b,.int .i64 s,.int .i64 p,v3,v4,.int .i64 n]:=by rw[hwb];exact Blk.new _ _ _
 have Hsz:Hid (wb.heap.size=w.heap.size+1):=Lib.hid (by rw[hwb];simp)
 have A0:∀W,Ext wb W→W.cell? ⟨w.heap.size,0,none⟩=some (.int .i64 3):=fun W hW=>(B0.ext hW).cell (i:=0) (v:=.int .i64 3) rfl
 have A1:∀W,Ext wb W→W.cell? ⟨w.heap.size,1,none⟩=some (.slice ao1 g.length k1):=fun W hW=>(B0.ext hW).cell (i:=1) (v:=.slice ao1 g.length k1) rfl
 have A2:∀W,Ext wb W→W.cell? ⟨w.heap.size,2,none⟩=some (v2):=fun W hW=>(B0.ext hW).cell (i:=2) (v:=v2) rfl
 have A3:∀W,Ext wb W→W.cell? ⟨w.heap.size,3,none⟩=some (.int .i64 a):=fun W hW=>(B0.ext hW).cell (i:=3) (v:=.int .i64 a) rfl
 have A4:∀W,Ext wb W→W.cell? ⟨w.heap.size,4,none⟩=some (.int .i64 b):=fun W hW=>(B0.ext hW).cell (i:=4) (v:=.int .i64 b) rfl
 have A5:∀W,Ext wb W→W.cell? ⟨w.heap.size,5,none⟩=some (.int .i64 s):=fun W hW=>(B0.ext hW).cell (i:=5) (v:=.int .i64 s) rfl
 have A6:∀W,Ext wb W→W.cell? ⟨w.heap.size,6,none⟩=some (.int .i64 p):=fun W hW=>(B0.ext hW).cell (i:=6) (v:=.int .i64 p) rfl
 have A7:∀W,Ext wb W→W.cell? ⟨w.heap.size,7,none⟩=some (v3):=fun W hW=>(B0.ext hW).cell (i:=7) (v:=v3) rfl
 have A8:∀W,Ext wb W→W.cell? ⟨w.heap.size,8,none⟩=some (v4):=fun W hW=>(B0.ext hW).cell (i:=8) (v:=v4) rfl
 have A9:∀W,Ext wb W→W.cell? ⟨w.heap.size,9,none⟩=some (.int .i64 n):=fun W hW=>(B0.ext hW).cell (i:=9) (v:=.int .i64 n) rfl
 have HI:Hid (∀W,Ext wb W→Ints4 W (.slice ao1 g.length k1) v2 v3 v4 g o t q):=Lib.hid fun W hW=>h.ext (hE0.trans hW)
 have hE:=Ext.refl wb
 have Hwb:=Lib.hid hwb
 clear hwb h B0
 have cw1:(cwB 3).size≤6:=cwB_size _
 have cg1:(fgF g).size≤600:=fgF_size g
 have cg2:(fgF o).size≤600:=fgF_size o
 have ct1:(shortF t).size≤600:=shortF_size t
 have cq1:(shortF q).size≤600:=shortF_size q
 have csa:(fsF g a).size≤600:=fsF_size g a
 have csb:(fsF g b).size≤600:=fsF_size g b
 have css:(fsF g s).size≤600:=fsF_size g s
 have csp:(fsF g p).size≤600:=fsF_size g p
 have cn1:(fmtB (clampF n)).size≤13:=fmtB_size (clampF_in n)
 obtain⟨wc,hwc⟩:∃wc,wc=wb.alloc (.cells #[.slice ao1 g.length k1] 27):=⟨_,rfl⟩
 have hbc:Ext wb wc:=by rw[hwc];exact (Ext.refl _).alloc _
 have G0:∀W,Ext wc W→W.cell? ⟨w.heap.size+1,0,none⟩=some (.slice ao1 g.length k1):=by rw[hwc,←Hsz.out];exact box_cell wb _ _
 replace A0:=fun W (hW:Ext wc W)=>A0 W (hbc.trans hW)
 replace A1:=fun W (hW:Ext wc W)=>A1 W (hbc.trans hW)
 replace A2:=fun W (hW:Ext wc W)=>A2 W (hbc.trans hW)
 replace A3:=fun W (hW:Ext wc W)=>A3 W (hbc.trans hW)
 replace A4:=fun W (hW:Ext wc W)=>A4 W (hbc.trans hW)
 replace A5:=fun W (hW:Ext wc W)=>A5 W (hbc.trans hW)
 replace A6:=fun W (hW:Ext wc W)=>A6 W (hbc.trans hW)
 replace A7:=fun W (hW:Ext wc W)=>A7 W (hbc.trans hW)
 replace A8:=fun W (hW:Ext wc W)=>A8 W (hbc.trans hW)
 replace A9:=fun W (hW:Ext wc W)=>A9 W (hbc.trans hW)
 replace HI:Hid (∀W,Ext wc W→Ints4 W (.slice ao1 g.length k1) v2 v3 v4 g o t q):=Lib.hid fun W hW=>HI.out W (hbc.trans hW)
 replace hE0:=hE0.trans hbc
 replace hE:=Ext.refl wc
 have Hwc:=Lib.hid hwc
 clear hwc hbc
 have ew:(cwB 3).toList.isEmpty=false:=cwB_some (by omega)
 have Hv:Hid (fcF 3 g o a b s p t q n=bif isGrp g then (((((cwB 3)++(⟨#[32]⟩:ByteArray))++(fgF g))++(⟨#[32,124,32]⟩:ByteArray))++(shortF t)) else ⟨#[]⟩):=Lib.hid rfl
 cases hxg:isGrp g
 · rw[hxg] at Hv
   go_enter Tryz.func45,Tryz.ntmps45
   go_wp2_with fail
   rw[←Hwb.out,←Hwc.out]
   go_wp2_with (first | (go_at_call 48;refine (ClaimWord_any _ _).mono ?_;rintro e w' ⟨rfl,hE'⟩;replace hE:=hE.trans hE';clear hE') | (go_at_call 132;first | (with_reducible refine Calls.mono (FormatGroup_any _ _ _ (HI.out _ hE).g) ?_;rintro e w' ⟨rfl,hE'⟩;replace hE:=hE.trans hE';clear hE') | (with_reducible refine Calls.mono (FormatGroup_any _ _ _ (HI.out _ hE).o) ?_;rintro e w' ⟨rfl,hE'⟩;replace hE:=hE.trans hE';clear hE')) | (go_at_call 131;first | (with_reducible refine Calls.mono (IsGroup_any _ _ _ (HI.out _ hE).g) ?_;rintro e w' ⟨rfl,hE'⟩;replace hE:=hE.trans hE';clear hE';try rw[hxg]) | (with_reducible refine Calls.mono (IsGroup_any _ _ _ (HI.out _ hE).o) ?_;rintro e w' ⟨rfl,hE'⟩;replace hE:=hE.trans hE';clear hE';try rw[hxo])))
   go_ret
   exact⟨ret_str Hv.out.symm,hE0.trans hE⟩
 rw[hxg] at Hv
 go_enter Tryz.func45,Tryz.ntmps45
 go_wp2_with fail
 rw[←Hwb.out,←Hwc.out]
 go_wp2_with (first | (go_at_call 48;refine (ClaimWord_any _ _).mono ?_;rintro e w' ⟨rfl,hE'⟩;replace hE:=hE.trans hE';clear hE') | (go_at_call 132;first | (with_reducible refine Calls.mono (FormatGroup_any _ _ _ (HI.out _ hE).g) ?_;rintro e w' ⟨rfl,hE'⟩;replace hE:=hE.trans hE';clear hE') | (with_reducible refine Calls.mono (FormatGroup_any _ _ _ (HI.out _ hE).o) ?_;rintro e w' ⟨rfl,hE'⟩;replace hE:=hE.trans hE';clear hE')) | (go_at_call 131;first | (with_reducible refine Calls.mono (IsGroup_any _ _ _ (HI.out _ hE).g) ?_;rintro e w' ⟨rfl,hE'⟩;replace hE:=hE.trans hE';clear hE';try rw[hxg]) | (with_reducible refine Calls.mono (IsGroup_any _ _ _ (HI.out _ hE).o) ?_;rintro e w' ⟨rfl,hE'⟩;replace hE:=hE.trans hE';clear hE';try rw[hxo])) | (go_at_call 130;refine Calls.mono (short_any _ _ _ (HI.out _ hE).t) ?_;rintro e w' ⟨rfl,hE'⟩;replace hE:=hE.trans hE';clear hE'))
 go_ret
 exact⟨ret_str Hv.out.symm,hE0.trans hE⟩
theorem FormatClaim_4(a b s p n:Int)(g o t q:List Int)(v1 v2 v3 v4:Value)(w:World)(h:Ints4 w v1 v2 v3 v4 g o t q) :
 Calls Tryz.prog 45 #[CV 4 v1 v2 a b s p v3 v4 n] w fun e w'=>e=.returned (.string (fcF 4 g o a b s p t q n))∧Ext w w':=by
 unfold CV
 have hop:=h.g.op
 obtain⟨ao1,k1,adr1,rfl,-,-,-⟩:=hop
 obtain⟨wb,hwb⟩:∃wb,wb=w.alloc (.cells #[.int .i64 4,.slice ao1 g.length k1,v2,.int .i64 a,.int .i64 b,.int .i64 s,.int .i64 p,v3,v4,.int .i64 n] 38):=⟨_,rfl⟩
 have hE0:Ext w wb:=by rw[hwb];exact (Ext.refl _).alloc _
 have B0:Blk wb w.heap.size 38 #[.int .i64 4,.slice ao1 g.length k1,v2,.int .i64 a,.int .i64 b,.int .i64 s,.int .i64 p,v3,v4,.int .i64 n]:=by rw[hwb];exact Blk.new _ _ _
 have Hsz:Hid (wb.heap.size=w.heap.size+1):=Lib.hid (by rw[hwb];simp)
 have A0:∀W,Ext wb W→W.cell? ⟨w.heap.size,0,none⟩=some (.int .i64 4):=fun W hW=>(B0.ext hW).cell (i:=0) (v:=.int .i64 4) rfl
 have A1:∀W,Ext wb W→W.cell? ⟨w.heap.size,1,none⟩=some (.slice ao1 g.length k1):=fun W hW=>(B0.ext hW).cell (i:=1) (v:=.slice ao1 g.length k1) rfl
 have A2:∀W,Ext wb W→W.cell? ⟨w.heap.size,2,none⟩=some (v2):=fun W hW=>(B0.ext hW).cell (i:=2) (v:=v2) rfl
 have A3:∀W,Ext wb W→W.cell? ⟨w.heap.size,3,none⟩=some (.int .i64 a):=fun W hW=>(B0.ext hW).cell (i:=3) (v:=.int .i64 a) rfl
 have A4:∀W,Ext wb W→W.cell? ⟨w.heap.size,4,none⟩=some (.int .i64 b):=fun W hW=>(B0.ext hW).cell (i:=4) (v:=.int .i64 b) rfl
 have A5:∀W,Ext wb W→W.cell? ⟨w.heap.size,5,none⟩=some (.int .i64 s):=fun W hW=>(B0.ext hW).cell (i:=5) (v:=.int .i64 s) rfl
 have A6:∀W,Ext wb W→W.cell? ⟨w.heap.size,6,none⟩=some (.int .i64 p):=fun W hW=>(B0.ext hW).cell (i:=6) (v:=.int .i64 p) rfl
 have A7:∀W,Ext wb W→W.cell? ⟨w.heap.size,7,none⟩=some (v3):=fun W hW=>(B0.ext hW).cell (i:=7) (v:=v3) rfl
 have A8:∀W,Ext wb W→W.cell? ⟨w.heap.size,8,none⟩=some (v4):=fun W hW=>(B0.ext hW).cell (i:=8) (v:=v4) rfl
 have A9:∀W,Ext wb W→W.cell? ⟨w.heap.size,9,none⟩=some (.int .i64 n):=fun W hW=>(B0.ext hW).cell (i:=9) (v:=.int .i64 n) rfl
 have HI:Hid (∀W,Ext wb W→Ints4 W (.slice ao1 g.length k1) v2 v3 v4 g o t q):=Lib.hid fun W hW=>h.ext (hE0.trans hW)
 have hE:=Ext.refl wb
 have Hwb:=Lib.hid hwb
 clear hwb h B0
 have cw1:(cwB 4).size≤6:=cwB_size _
 have cg1:(fgF g).size≤600:=fgF_size g
 have cg2:(fgF o).size≤600:=fgF_size o
 have ct1:(shortF t).size≤600:=shortF_size t
 have cq1:(shortF q).size≤600:=shortF_size q
 have csa:(fsF g a).size≤600:=fsF_size g a
 have csb:(fsF g b).size≤600:=fsF_size g b
 have css:(fsF g s).size≤600:=fsF_size g s
 have csp:(fsF g p).size≤600:=fsF_size g p
 have cn1:(fmtB (clampF n)).size≤13:=fmtB_size (clampF_in n)
 obtain⟨wc,hwc⟩:∃wc,wc=wb.alloc (.cells #[.slice ao1 g.length k1] 27):=⟨_,rfl⟩
 have hbc:Ext wb wc:=by rw[hwc];exact (Ext.refl _).alloc _
 have G0:∀W,Ext wc W→W.cell? ⟨w.heap.size+1,0,none⟩=some (.slice ao1 g.length k1):=by rw[hwc,←Hsz.out];exact box_cell wb _ _
 replace A0:=fun W (hW:Ext wc W)=>A0 W (hbc.trans hW)
 replace A1:=fun W (hW:Ext wc W)=>A1 W (hbc.trans hW)
 replace A2:=fun W (hW:Ext wc W)=>A2 W (hbc.trans hW)
 replace A3:=fun W (hW:Ext wc W)=>A3 W (hbc.trans hW)
 replace A4:=fun W (hW:Ext wc W)=>A4 W (hbc.trans hW)
 replace A5:=fun W (hW:Ext wc W)=>A5 W (hbc.trans hW)
 replace A6:=fun W (hW:Ext wc W)=>A6 W (hbc.trans hW)
 replace A7:=fun W (hW:Ext wc W)=>A7 W (hbc.trans hW)
 replace A8:=fun W (hW:Ext wc W)=>A8 W (hbc.trans hW)
 replace A9:=fun W (hW:Ext wc W)=>A9 W (hbc.trans hW)
 replace HI:Hid (∀W,Ext wc W→Ints4 W (.slice ao1 g.length k1) v2 v3 v4 g o t q):=Lib.hid fun W hW=>HI.out W (hbc.trans hW)
 replace hE0:=hE0.trans hbc
 replace hE:=Ext.refl wc
 have Hwc:=Lib.hid hwc
 clear hwc hbc
 have ew:(cwB 4).toList.isEmpty=false:=cwB_some (by omega)
 have Hv:Hid (fcF 4 g o a b s p t q n=bif areF g [a,b] then (((((((cwB 4)++(⟨#[32]⟩:ByteArray))++(fgF g))++(⟨#[32,124,32]⟩:ByteArray))++(fsF g a))++(⟨#[32,97,110,100,32]⟩:ByteArray))++(fsF g b)) else ⟨#[]⟩):=Lib.hid rfl
 cases hxg:isGrp g
 · have hx:areF g [a,b]=false:=by unfold areF;rw[hxg];simp
   rw[hx] at Hv
   go_enter Tryz.func45,Tryz.ntmps45
   go_wp2_with fail
   rw[←Hwb.out,←Hwc.out]
   go_wp2_with (first | (go_at_call 48;refine (ClaimWord_any _ _).mono ?_;rintro e w' ⟨rfl,hE'⟩;replace hE:=hE.trans hE';clear hE') | (go_at_call 132;first | (with_reducible refine Calls.mono (FormatGroup_any _ _ _ (HI.out _ hE).g) ?_;rintro e w' ⟨rfl,hE'⟩;replace hE:=hE.trans hE';clear hE') | (with_reducible refine Calls.mono (FormatGroup_any _ _ _ (HI.out _ hE).o) ?_;rintro e w' ⟨rfl,hE'⟩;replace hE:=hE.trans hE';clear hE')) | (go_at_call 131;first | (with_reducible refine Calls.mono (IsGroup_any _ _ _ (HI.out _ hE).g) ?_;rintro e w' ⟨rfl,hE'⟩;replace hE:=hE.trans hE';clear hE';try rw[hxg]) | (with_reducible refine Calls.mono (IsGroup_any _ _ _ (HI.out _ hE).o) ?_;rintro e w' ⟨rfl,hE'⟩;replace hE:=hE.trans hE';clear hE';try rw[hxo])))
   go_ret
   exact⟨ret_str Hv.out.symm,hE0.trans hE⟩
 cases hx:areF g [a,b]
 · rw[hx] at Hv
   go_enter Tryz.func45,Tryz.ntmps45
   go_wp2_with fail
   rw[←Hwb.out,←Hwc.out]
   go_wp2_with (first | (go_at_call 48;refine (ClaimWord_any _ _).mono ?_;rintro e w' ⟨rfl,hE'⟩;replace hE:=hE.trans hE';clear hE') | (go_at_call 132;first | (with_reducible refine Calls.mono (FormatGroup_any _ _ _ (HI.out _ hE).g) ?_;rintro e w' ⟨rfl,hE'⟩;replace hE:=hE.trans hE';clear hE') | (with_reducible refine Calls.mono (FormatGroup_any _ _ _ (HI.out _ hE).o) ?_;rintro e w' ⟨rfl,hE'⟩;replace hE:=hE.trans hE';clear hE')) | (go_at_call 131;first | (with_reducible refine Calls.mono (IsGroup_any _ _ _ (HI.out _ hE).g) ?_;rintro e w' ⟨rfl,hE'⟩;replace hE:=hE.trans hE';clear hE';try rw[hxg]) | (with_reducible refine Calls.mono (IsGroup_any _ _ _ (HI.out _ hE).o) ?_;rintro e w' ⟨rfl,hE'⟩;replace hE:=hE.trans hE';clear hE';try rw[hxo])) | (go_at_call 133;refine Calls.mono (areSets_val _ _ _ _ _ ((HI.out _ hE).g.ext (by repeat (first | assumption | exact Ext.refl _ | (apply And.left;assumption) | apply Ext.drew | apply Ext.alloc))) (ints_two _ _ _ _) hx) ?_;rintro e w' ⟨rfl,hE'⟩;replace hE:=hE.trans (Ext.trans (by repeat (first | assumption | exact Ext.refl _ | (apply And.left;assumption) | apply Ext.drew | apply Ext.alloc)) hE');clear hE'))
   go_ret
   exact⟨ret_str Hv.out.symm,hE0.trans hE⟩
 rw[hx] at Hv
 go_enter Tryz.func45,Tryz.ntmps45
 go_wp2_with fail
 rw[←Hwb.out,←Hwc.out]
 go_wp2_with (first | (go_at_call 48;refine (ClaimWord_any _ _).mono ?_;rintro e w' ⟨rfl,hE'⟩;replace hE:=hE.trans hE';clear hE') | (go_at_call 132;first | (with_reducible refine Calls.mono (FormatGroup_any _ _ _ (HI.out _ hE).g) ?_;rintro e w' ⟨rfl,hE'⟩;replace hE:=hE.trans hE';clear hE') | (with_reducible refine Calls.mono (FormatGroup_any _ _ _ (HI.out _ hE).o) ?_;rintro e w' ⟨rfl,hE'⟩;replace hE:=hE.trans hE';clear hE')) | (go_at_call 131;first | (with_reducible refine Calls.mono (IsGroup_any _ _ _ (HI.out _ hE).g) ?_;rintro e w' ⟨rfl,hE'⟩;replace hE:=hE.trans hE';clear hE';try rw[hxg]) | (with_reducible refine Calls.mono (IsGroup_any _ _ _ (HI.out _ hE).o) ?_;rintro e w' ⟨rfl,hE'⟩;replace hE:=hE.trans hE';clear hE';try rw[hxo])) | (go_at_call 133;refine Calls.mono (areSets_val _ _ _ _ _ ((HI.out _ hE).g.ext (by repeat (first | assumption | exact Ext.refl _ | (apply And.left;assumption) | apply Ext.drew | apply Ext.alloc))) (ints_two _ _ _ _) hx) ?_;rintro e w' ⟨rfl,hE'⟩;replace hE:=hE.trans (Ext.trans (by repeat (first | assumption | exact Ext.refl _ | (apply And.left;assumption) | apply Ext.drew | apply Ext.alloc)) hE');clear hE'))
 have G1:=fun U=>G0 (Lat wc U) (lat_ext wc U)
 have D1:=fun U=>A1 (Lat wc U) (lat_ext wc U)
 have D2:=fun U=>A2 (Lat wc U) (lat_ext wc U)
 have D3:=fun U=>A3 (Lat wc U) (lat_ext wc U)
 have D4:=fun U=>A4 (Lat wc U) (lat_ext wc U)
 have D5:=fun U=>A5 (Lat wc U) (lat_ext wc U)
 have D6:=fun U=>A6 (Lat wc U) (lat_ext wc U)
 have D7:=fun U=>A7 (Lat wc U) (lat_ext wc U)
 have D8:=fun U=>A8 (Lat wc U) (lat_ext wc U)
 have D9:=fun U=>A9 (Lat wc U) (lat_ext wc U)
 (refine wp_region_lat (wc) (by kernel_rfl) (by kernel_rfl) hE ?_);(repeat (go_big_quiet_step (first | (go_at_call 130;first | with_reducible exact Calls.lat (short_any _ _ _ (HI.out _ (lat_ext wc _)).t) | with_reducible exact Calls.lat (short_any _ _ _ (HI.out _ (lat_ext wc _)).q)) | (go_at_call 132;with_reducible exact Calls.lat (FormatGroup_any _ _ _ (HI.out _ (lat_ext wc _)).o)) | (go_at_call 68;with_reducible exact Calls.lat (FormatSet_any _ _ _ _ (HI.out _ (lat_ext wc _)).g)) | (go_at_call 66;with_reducible exact Calls.lat (FormatInt_any _ (clampF_in n) _)) | (go_at_call 129;with_reducible exact Calls.lat_same (narrow_any _ _)))));(refine wpQuiet_nil ?_);(intro W hE');(replace hE:=lat_of hE');(clear hE')
 go_wp2_with fail
 go_ret
 exact⟨ret_str Hv.out.symm,hE0.trans hE⟩
theorem FormatClaim_5(a b s p n:Int)(g o t q:List Int)(v1 v2 v3 v4:Value)(w:World)(h:Ints4 w v1 v2 v3 v4 g o t q) :
 Calls Tryz.prog 45 #[CV 5 v1 v2 a b s p v3 v4 n] w fun e w'=>e=.returned (.string (fcF 5 g o a b s p t q n))∧Ext w w':=by
 unfold CV
 have hop:=h.g.op
 obtain⟨ao1,k1,adr1,rfl,-,-,-⟩:=hop
 obtain⟨wb,hwb⟩:∃wb,wb=w.alloc (.cells #[.int .i64 5,.slice ao1 g.length k1,v2,.int .i64 a,.int .i64 b,.int .i64 s,.int .i64 p,v3,v4,.int .i64 n] 38):=⟨_,rfl⟩
 have hE0:Ext w wb:=by rw[hwb];exact (Ext.refl _).alloc _
 have B0:Blk wb w.heap.size 38 #[.int .i64 5,.slice ao1 g.length k1,v2,.int .i64 a,.int .i64 b,.int .i64 s,.int .i64 p,v3,v4,.int .i64 n]:=by rw[hwb];exact Blk.new _ _ _
 have Hsz:Hid (wb.heap.size=w.heap.size+1):=Lib.hid (by rw[hwb];simp)
 have A0:∀W,Ext wb W→W.cell? ⟨w.heap.size,0,none⟩=some (.int .i64 5):=fun W hW=>(B0.ext hW).cell (i:=0) (v:=.int .i64 5) rfl
 have A1:∀W,Ext wb W→W.cell? ⟨w.heap.size,1,none⟩=some (.slice ao1 g.length k1):=fun W hW=>(B0.ext hW).cell (i:=1) (v:=.slice ao1 g.length k1) rfl
 have A2:∀W,Ext wb W→W.cell? ⟨w.heap.size,2,none⟩=some (v2):=fun W hW=>(B0.ext hW).cell (i:=2) (v:=v2) rfl
 have A3:∀W,Ext wb W→W.cell? ⟨w.heap.size,3,none⟩=some (.int .i64 a):=fun W hW=>(B0.ext hW).cell (i:=3) (v:=.int .i64 a) rfl
 have A4:∀W,Ext wb W→W.cell? ⟨w.heap.size,4,none⟩=some (.int .i64 b):=fun W hW=>(B0.ext hW).cell (i:=4) (v:=.int .i64 b) rfl
 have A5:∀W,Ext wb W→W.cell? ⟨w.heap.size,5,none⟩=some (.int .i64 s):=fun W hW=>(B0.ext hW).cell (i:=5) (v:=.int .i64 s) rfl
 have A6:∀W,Ext wb W→W.cell? ⟨w.heap.size,6,none⟩=some (.int .i64 p):=fun W hW=>(B0.ext hW).cell (i:=6) (v:=.int .i64 p) rfl
 have A7:∀W,Ext wb W→W.cell? ⟨w.heap.size,7,none⟩=some (v3):=fun W hW=>(B0.ext hW).cell (i:=7) (v:=v3) rfl
 have A8:∀W,Ext wb W→W.cell? ⟨w.heap.size,8,none⟩=some (v4):=fun W hW=>(B0.ext hW).cell (i:=8) (v:=v4) rfl
 have A9:∀W,Ext wb W→W.cell? ⟨w.heap.size,9,none⟩=some (.int .i64 n):=fun W hW=>(B0.ext hW).cell (i:=9) (v:=.int .i64 n) rfl
 have HI:Hid (∀W,Ext wb W→Ints4 W (.slice ao1 g.length k1) v2 v3 v4 g o t q):=Lib.hid fun W hW=>h.ext (hE0.trans hW)
 have hE:=Ext.refl wb
 have Hwb:=Lib.hid hwb
 clear hwb h B0
 have cw1:(cwB 5).size≤6:=cwB_size _
 have cg1:(fgF g).size≤600:=fgF_size g
 have cg2:(fgF o).size≤600:=fgF_size o
 have ct1:(shortF t).size≤600:=shortF_size t
 have cq1:(shortF q).size≤600:=shortF_size q
 have csa:(fsF g a).size≤600:=fsF_size g a
 have csb:(fsF g b).size≤600:=fsF_size g b
 have css:(fsF g s).size≤600:=fsF_size g s
 have csp:(fsF g p).size≤600:=fsF_size g p
 have cn1:(fmtB (clampF n)).size≤13:=fmtB_size (clampF_in n)
 obtain⟨wc,hwc⟩:∃wc,wc=wb.alloc (.cells #[.slice ao1 g.length k1] 27):=⟨_,rfl⟩
 have hbc:Ext wb wc:=by rw[hwc];exact (Ext.refl _).alloc _
 have G0:∀W,Ext wc W→W.cell? ⟨w.heap.size+1,0,none⟩=some (.slice ao1 g.length k1):=by rw[hwc,←Hsz.out];exact box_cell wb _ _
 replace A0:=fun W (hW:Ext wc W)=>A0 W (hbc.trans hW)
 replace A1:=fun W (hW:Ext wc W)=>A1 W (hbc.trans hW)
 replace A2:=fun W (hW:Ext wc W)=>A2 W (hbc.trans hW)
 replace A3:=fun W (hW:Ext wc W)=>A3 W (hbc.trans hW)
 replace A4:=fun W (hW:Ext wc W)=>A4 W (hbc.trans hW)
 replace A5:=fun W (hW:Ext wc W)=>A5 W (hbc.trans hW)
 replace A6:=fun W (hW:Ext wc W)=>A6 W (hbc.trans hW)
 replace A7:=fun W (hW:Ext wc W)=>A7 W (hbc.trans hW)
 replace A8:=fun W (hW:Ext wc W)=>A8 W (hbc.trans hW)
 replace A9:=fun W (hW:Ext wc W)=>A9 W (hbc.trans hW)
 replace HI:Hid (∀W,Ext wc W→Ints4 W (.slice ao1 g.length k1) v2 v3 v4 g o t q):=Lib.hid fun W hW=>HI.out W (hbc.trans hW)
 replace hE0:=hE0.trans hbc
 replace hE:=Ext.refl wc
 have Hwc:=Lib.hid hwc
 clear hwc hbc
 have ew:(cwB 5).toList.isEmpty=false:=cwB_some (by omega)
 have Hv:Hid (fcF 5 g o a b s p t q n=bif (isGrp g&&isGrp o) then (((((((((cwB 5)++(⟨#[32]⟩:ByteArray))++(fgF g))++(⟨#[32,124,32]⟩:ByteArray))++(shortF t))++(⟨#[32,97,115,32]⟩:ByteArray))++(fgF o))++(⟨#[32,124,32]⟩:ByteArray))++(shortF q)) else ⟨#[]⟩):=Lib.hid rfl
 cases hxg:isGrp g
 · rw[hxg] at Hv
   go_enter Tryz.func45,Tryz.ntmps45
   go_wp2_with fail
   rw[←Hwb.out,←Hwc.out]
   go_wp2_with (first | (go_at_call 48;refine (ClaimWord_any _ _).mono ?_;rintro e w' ⟨rfl,hE'⟩;replace hE:=hE.trans hE';clear hE') | (go_at_call 132;first | (with_reducible refine Calls.mono (FormatGroup_any _ _ _ (HI.out _ hE).g) ?_;rintro e w' ⟨rfl,hE'⟩;replace hE:=hE.trans hE';clear hE') | (with_reducible refine Calls.mono (FormatGroup_any _ _ _ (HI.out _ hE).o) ?_;rintro e w' ⟨rfl,hE'⟩;replace hE:=hE.trans hE';clear hE')) | (go_at_call 131;first | (with_reducible refine Calls.mono (IsGroup_any _ _ _ (HI.out _ hE).g) ?_;rintro e w' ⟨rfl,hE'⟩;replace hE:=hE.trans hE';clear hE';try rw[hxg]) | (with_reducible refine Calls.mono (IsGroup_any _ _ _ (HI.out _ hE).o) ?_;rintro e w' ⟨rfl,hE'⟩;replace hE:=hE.trans hE';clear hE';try rw[hxo])))
   go_ret
   exact⟨ret_str Hv.out.symm,hE0.trans hE⟩
 rw[hxg] at Hv
 cases hxo:isGrp o
 · rw[hxo] at Hv
   go_enter Tryz.func45,Tryz.ntmps45
   go_wp2_with fail
   rw[←Hwb.out,←Hwc.out]
   go_wp2_with (first | (go_at_call 48;refine (ClaimWord_any _ _).mono ?_;rintro e w' ⟨rfl,hE'⟩;replace hE:=hE.trans hE';clear hE') | (go_at_call 132;first | (with_reducible refine Calls.mono (FormatGroup_any _ _ _ (HI.out _ hE).g) ?_;rintro e w' ⟨rfl,hE'⟩;replace hE:=hE.trans hE';clear hE') | (with_reducible refine Calls.mono (FormatGroup_any _ _ _ (HI.out _ hE).o) ?_;rintro e w' ⟨rfl,hE'⟩;replace hE:=hE.trans hE';clear hE')) | (go_at_call 131;first | (with_reducible refine Calls.mono (IsGroup_any _ _ _ (HI.out _ hE).g) ?_;rintro e w' ⟨rfl,hE'⟩;replace hE:=hE.trans hE';clear hE';try rw[hxg]) | (with_reducible refine Calls.mono (IsGroup_any _ _ _ (HI.out _ hE).o) ?_;rintro e w' ⟨rfl,hE'⟩;replace hE:=hE.trans hE';clear hE';try rw[hxo])))
   go_ret
   exact⟨ret_str Hv.out.symm,hE0.trans hE⟩
 rw[hxo] at Hv
 go_enter Tryz.func45,Tryz.ntmps45
 go_wp2_with fail
 rw[←Hwb.out,←Hwc.out]
 go_wp2_with (first | (go_at_call 48;refine (ClaimWord_any _ _).mono ?_;rintro e w' ⟨rfl,hE'⟩;replace hE:=hE.trans hE';clear hE') | (go_at_call 132;first | (with_reducible refine Calls.mono (FormatGroup_any _ _ _ (HI.out _ hE).g) ?_;rintro e w' ⟨rfl,hE'⟩;replace hE:=hE.trans hE';clear hE') | (with_reducible refine Calls.mono (FormatGroup_any _ _ _ (HI.out _ hE).o) ?_;rintro e w' ⟨rfl,hE'⟩;replace hE:=hE.trans hE';clear hE')) | (go_at_call 131;first | (with_reducible refine Calls.mono (IsGroup_any _ _ _ (HI.out _ hE).g) ?_;rintro e w' ⟨rfl,hE'⟩;replace hE:=hE.trans hE';clear hE';try rw[hxg]) | (with_reducible refine Calls.mono (IsGroup_any _ _ _ (HI.out _ hE).o) ?_;rintro e w' ⟨rfl,hE'⟩;replace hE:=hE.trans hE';clear hE';try rw[hxo])))
 have G1:=fun U=>G0 (Lat wc U) (lat_ext wc U)
 have D1:=fun U=>A1 (Lat wc U) (lat_ext wc U)
 have D2:=fun U=>A2 (Lat wc U) (lat_ext wc U)
 have D3:=fun U=>A3 (Lat wc U) (lat_ext wc U)
 have D4:=fun U=>A4 (Lat wc U) (lat_ext wc U)
 have D5:=fun U=>A5 (Lat wc U) (lat_ext wc U)
 have D6:=fun U=>A6 (Lat wc U) (lat_ext wc U)
 have D7:=fun U=>A7 (Lat wc U) (lat_ext wc U)
 have D8:=fun U=>A8 (Lat wc U) (lat_ext wc U)
 have D9:=fun U=>A9 (Lat wc U) (lat_ext wc U)
 (refine wp_region_lat (wc) (by kernel_rfl) (by kernel_rfl) hE ?_);(repeat (go_big_quiet_step (first | (go_at_call 130;first | with_reducible exact Calls.lat (short_any _ _ _ (HI.out _ (lat_ext wc _)).t) | with_reducible exact Calls.lat (short_any _ _ _ (HI.out _ (lat_ext wc _)).q)) | (go_at_call 132;with_reducible exact Calls.lat (FormatGroup_any _ _ _ (HI.out _ (lat_ext wc _)).o)) | (go_at_call 68;with_reducible exact Calls.lat (FormatSet_any _ _ _ _ (HI.out _ (lat_ext wc _)).g)) | (go_at_call 66;with_reducible exact Calls.lat (FormatInt_any _ (clampF_in n) _)) | (go_at_call 129;with_reducible exact Calls.lat_same (narrow_any _ _)))));(refine wpQuiet_nil ?_);(intro W hE');(replace hE:=lat_of hE');(clear hE')
 go_wp2_with fail
 go_ret
 exact⟨ret_str Hv.out.symm,hE0.trans hE⟩
theorem FormatClaim_7(a b s p n:Int)(g o t q:List Int)(v1 v2 v3 v4:Value)(w:World)(h:Ints4 w v1 v2 v3 v4 g o t q) :
 Calls Tryz.prog 45 #[CV 7 v1 v2 a b s p v3 v4 n] w fun e w'=>e=.returned (.string (fcF 7 g o a b s p t q n))∧Ext w w':=by
 unfold CV
 have hop:=h.g.op
 obtain⟨ao1,k1,adr1,rfl,-,-,-⟩:=hop
 obtain⟨wb,hwb⟩:∃wb,wb=w.alloc (.cells #[.int .i64 7,.slice ao1 g.length k1,v2,.int .i64 a,.int .i64 b,.int .i64 s,.int .i64 p,v3,v4,.int .i64 n] 38):=⟨_,rfl⟩
 have hE0:Ext w wb:=by rw[hwb];exact (Ext.refl _).alloc _
 have B0:Blk wb w.heap.size 38 #[.int .i64 7,.slice ao1 g.length k1,v2,.int .i64 a,.int .i64 b,.int .i64 s,.int .i64 p,v3,v4,.int .i64 n]:=by rw[hwb];exact Blk.new _ _ _
 have Hsz:Hid (wb.heap.size=w.heap.size+1):=Lib.hid (by rw[hwb];simp)
 have A0:∀W,Ext wb W→W.cell? ⟨w.heap.size,0,none⟩=some (.int .i64 7):=fun W hW=>(B0.ext hW).cell (i:=0) (v:=.int .i64 7) rfl
 have A1:∀W,Ext wb W→W.cell? ⟨w.heap.size,1,none⟩=some (.slice ao1 g.length k1):=fun W hW=>(B0.ext hW).cell (i:=1) (v:=.slice ao1 g.length k1) rfl
 have A2:∀W,Ext wb W→W.cell? ⟨w.heap.size,2,none⟩=some (v2):=fun W hW=>(B0.ext hW).cell (i:=2) (v:=v2) rfl
 have A3:∀W,Ext wb W→W.cell? ⟨w.heap.size,3,none⟩=some (.int .i64 a):=fun W hW=>(B0.ext hW).cell (i:=3) (v:=.int .i64 a) rfl
 have A4:∀W,Ext wb W→W.cell? ⟨w.heap.size,4,none⟩=some (.int .i64 b):=fun W hW=>(B0.ext hW).cell (i:=4) (v:=.int .i64 b) rfl
 have A5:∀W,Ext wb W→W.cell? ⟨w.heap.size,5,none⟩=some (.int .i64 s):=fun W hW=>(B0.ext hW).cell (i:=5) (v:=.int .i64 s) rfl
 have A6:∀W,Ext wb W→W.cell? ⟨w.heap.size,6,none⟩=some (.int .i64 p):=fun W hW=>(B0.ext hW).cell (i:=6) (v:=.int .i64 p) rfl
 have A7:∀W,Ext wb W→W.cell? ⟨w.heap.size,7,none⟩=some (v3):=fun W hW=>(B0.ext hW).cell (i:=7) (v:=v3) rfl
 have A8:∀W,Ext wb W→W.cell? ⟨w.heap.size,8,none⟩=some (v4):=fun W hW=>(B0.ext hW).cell (i:=8) (v:=v4) rfl
 have A9:∀W,Ext wb W→W.cell? ⟨w.heap.size,9,none⟩=some (.int .i64 n):=fun W hW=>(B0.ext hW).cell (i:=9) (v:=.int .i64 n) rfl
 have HI:Hid (∀W,Ext wb W→Ints4 W (.slice ao1 g.length k1) v2 v3 v4 g o t q):=Lib.hid fun W hW=>h.ext (hE0.trans hW)
 have hE:=Ext.refl wb
 have Hwb:=Lib.hid hwb
 clear hwb h B0
 have cw1:(cwB 7).size≤6:=cwB_size _
 have cg1:(fgF g).size≤600:=fgF_size g
 have cg2:(fgF o).size≤600:=fgF_size o
 have ct1:(shortF t).size≤600:=shortF_size t
 have cq1:(shortF q).size≤600:=shortF_size q
 have csa:(fsF g a).size≤600:=fsF_size g a
 have csb:(fsF g b).size≤600:=fsF_size g b
 have css:(fsF g s).size≤600:=fsF_size g s
 have csp:(fsF g p).size≤600:=fsF_size g p
 have cn1:(fmtB (clampF n)).size≤13:=fmtB_size (clampF_in n)
 obtain⟨wc,hwc⟩:∃wc,wc=wb.alloc (.cells #[.slice ao1 g.length k1] 27):=⟨_,rfl⟩
 have hbc:Ext wb wc:=by rw[hwc];exact (Ext.refl _).alloc _
 have G0:∀W,Ext wc W→W.cell? ⟨w.heap.size+1,0,none⟩=some (.slice ao1 g.length k1):=by rw[hwc,←Hsz.out];exact box_cell wb _ _
 replace A0:=fun W (hW:Ext wc W)=>A0 W (hbc.trans hW)
 replace A1:=fun W (hW:Ext wc W)=>A1 W (hbc.trans hW)
 replace A2:=fun W (hW:Ext wc W)=>A2 W (hbc.trans hW)
 replace A3:=fun W (hW:Ext wc W)=>A3 W (hbc.trans hW)
 replace A4:=fun W (hW:Ext wc W)=>A4 W (hbc.trans hW)
 replace A5:=fun W (hW:Ext wc W)=>A5 W (hbc.trans hW)
 replace A6:=fun W (hW:Ext wc W)=>A6 W (hbc.trans hW)
 replace A7:=fun W (hW:Ext wc W)=>A7 W (hbc.trans hW)
 replace A8:=fun W (hW:Ext wc W)=>A8 W (hbc.trans hW)
 replace A9:=fun W (hW:Ext wc W)=>A9 W (hbc.trans hW)
 replace HI:Hid (∀W,Ext wc W→Ints4 W (.slice ao1 g.length k1) v2 v3 v4 g o t q):=Lib.hid fun W hW=>HI.out W (hbc.trans hW)
 replace hE0:=hE0.trans hbc
 replace hE:=Ext.refl wc
 have Hwc:=Lib.hid hwc
 clear hwc hbc
 have ew:(cwB 7).toList.isEmpty=false:=cwB_some (by omega)
 have Hv:Hid (fcF 7 g o a b s p t q n=bif areF g [a,s,p] then (((((((((cwB 7)++(⟨#[32]⟩:ByteArray))++(fgF g))++(⟨#[32,124,32]⟩:ByteArray))++(fsF g a))++(⟨#[32,105,110,32]⟩:ByteArray))++(fsF g s))++(⟨#[32,112,101,114,105,111,100,32]⟩:ByteArray))++(fsF g p)) else ⟨#[]⟩):=Lib.hid rfl
 cases hxg:isGrp g
 · have hx:areF g [a,s,p]=false:=by unfold areF;rw[hxg];simp
   rw[hx] at Hv
   go_enter Tryz.func45,Tryz.ntmps45
   go_wp2_with fail
   rw[←Hwb.out,←Hwc.out]
   go_wp2_with (first | (go_at_call 48;refine (ClaimWord_any _ _).mono ?_;rintro e w' ⟨rfl,hE'⟩;replace hE:=hE.trans hE';clear hE') | (go_at_call 132;first | (with_reducible refine Calls.mono (FormatGroup_any _ _ _ (HI.out _ hE).g) ?_;rintro e w' ⟨rfl,hE'⟩;replace hE:=hE.trans hE';clear hE') | (with_reducible refine Calls.mono (FormatGroup_any _ _ _ (HI.out _ hE).o) ?_;rintro e w' ⟨rfl,hE'⟩;replace hE:=hE.trans hE';clear hE')) | (go_at_call 131;first | (with_reducible refine Calls.mono (IsGroup_any _ _ _ (HI.out _ hE).g) ?_;rintro e w' ⟨rfl,hE'⟩;replace hE:=hE.trans hE';clear hE';try rw[hxg]) | (with_reducible refine Calls.mono (IsGroup_any _ _ _ (HI.out _ hE).o) ?_;rintro e w' ⟨rfl,hE'⟩;replace hE:=hE.trans hE';clear hE';try rw[hxo])))
   go_ret
   exact⟨ret_str Hv.out.symm,hE0.trans hE⟩
 cases hx:areF g [a,s,p]
 · rw[hx] at Hv
   go_enter Tryz.func45,Tryz.ntmps45
   go_wp2_with fail
   rw[←Hwb.out,←Hwc.out]
   go_wp2_with (first | (go_at_call 48;refine (ClaimWord_any _ _).mono ?_;rintro e w' ⟨rfl,hE'⟩;replace hE:=hE.trans hE';clear hE') | (go_at_call 132;first | (with_reducible refine Calls.mono (FormatGroup_any _ _ _ (HI.out _ hE).g) ?_;rintro e w' ⟨rfl,hE'⟩;replace hE:=hE.trans hE';clear hE') | (with_reducible refine Calls.mono (FormatGroup_any _ _ _ (HI.out _ hE).o) ?_;rintro e w' ⟨rfl,hE'⟩;replace hE:=hE.trans hE';clear hE')) | (go_at_call 131;first | (with_reducible refine Calls.mono (IsGroup_any _ _ _ (HI.out _ hE).g) ?_;rintro e w' ⟨rfl,hE'⟩;replace hE:=hE.trans hE';clear hE';try rw[hxg]) | (with_reducible refine Calls.mono (IsGroup_any _ _ _ (HI.out _ hE).o) ?_;rintro e w' ⟨rfl,hE'⟩;replace hE:=hE.trans hE';clear hE';try rw[hxo])) | (go_at_call 133;refine Calls.mono (areSets_val _ _ _ _ _ ((HI.out _ hE).g.ext (by repeat (first | assumption | exact Ext.refl _ | (apply And.left;assumption) | apply Ext.drew | apply Ext.alloc))) (ints_three _ _ _ _ _) hx) ?_;rintro e w' ⟨rfl,hE'⟩;replace hE:=hE.trans (Ext.trans (by repeat (first | assumption | exact Ext.refl _ | (apply And.left;assumption) | apply Ext.drew | apply Ext.alloc)) hE');clear hE'))
   go_ret
   exact⟨ret_str Hv.out.symm,hE0.trans hE⟩
 rw[hx] at Hv
 go_enter Tryz.func45,Tryz.ntmps45
 go_wp2_with fail
 rw[←Hwb.out,←Hwc.out]
 go_wp2_with (first | (go_at_call 48;refine (ClaimWord_any _ _).mono ?_;rintro e w' ⟨rfl,hE'⟩;replace hE:=hE.trans hE';clear hE') | (go_at_call 132;first | (with_reducible refine Calls.mono (FormatGroup_any _ _ _ (HI.out _ hE).g) ?_;rintro e w' ⟨rfl,hE'⟩;replace hE:=hE.trans hE';clear hE') | (with_reducible refine Calls.mono (FormatGroup_any _ _ _ (HI.out _ hE).o) ?_;rintro e w' ⟨rfl,hE'⟩;replace hE:=hE.trans hE';clear hE')) | (go_at_call 131;first | (with_reducible refine Calls.mono (IsGroup_any _ _ _ (HI.out _ hE).g) ?_;rintro e w' ⟨rfl,hE'⟩;replace hE:=hE.trans hE';clear hE';try rw[hxg]) | (with_reducible refine Calls.mono (IsGroup_any _ _ _ (HI.out _ hE).o) ?_;rintro e w' ⟨rfl,hE'⟩;replace hE:=hE.trans hE';clear hE';try rw[hxo])) | (go_at_call 133;refine Calls.mono (areSets_val _ _ _ _ _ ((HI.out _ hE).g.ext (by repeat (first | assumption | exact Ext.refl _ | (apply And.left;assumption) | apply Ext.drew | apply Ext.alloc))) (ints_three _ _ _ _ _) hx) ?_;rintro e w' ⟨rfl,hE'⟩;replace hE:=hE.trans (Ext.trans (by repeat (first | assumption | exact Ext.refl _ | (apply And.left;assumption) | apply Ext.drew | apply Ext.alloc)) hE');clear hE'))
 have G1:=fun U=>G0 (Lat wc U) (lat_ext wc U)
 have D1:=fun U=>A1 (Lat wc U) (lat_ext wc U)
 have D2:=fun U=>A2 (Lat wc U) (lat_ext wc U)
 have D3:=fun U=>A3 (Lat wc U) (lat_ext wc U)
 have D4:=fun U=>A4 (Lat wc U) (lat_ext wc U)
 have D5:=fun U=>A5 (Lat wc U) (lat_ext wc U)
 have D6:=fun U=>A6 (Lat wc U) (lat_ext wc U)
 have D7:=fun U=>A7 (Lat wc U) (lat_ext wc U)
 have D8:=fun U=>A8 (Lat wc U) (lat_ext wc U)
 have D9:=fun U=>A9 (Lat wc U) (lat_ext wc U)
 (refine wp_region_lat (wc) (by kernel_rfl) (by kernel_rfl) hE ?_);(repeat (go_big_quiet_step (first | (go_at_call 130;first | with_reducible exact Calls.lat (short_any _ _ _ (HI.out _ (lat_ext wc _)).t) | with_reducible exact Calls.lat (short_any _ _ _ (HI.out _ (lat_ext wc _)).q)) | (go_at_call 132;with_reducible exact Calls.lat (FormatGroup_any _ _ _ (HI.out _ (lat_ext wc _)).o)) | (go_at_call 68;with_reducible exact Calls.lat (FormatSet_any _ _ _ _ (HI.out _ (lat_ext wc _)).g)) | (go_at_call 66;with_reducible exact Calls.lat (FormatInt_any _ (clampF_in n) _)) | (go_at_call 129;with_reducible exact Calls.lat_same (narrow_any _ _)))));(refine wpQuiet_nil ?_);(intro W hE');(replace hE:=lat_of hE');(clear hE')
 go_wp2_with fail
 go_ret
 exact⟨ret_str Hv.out.symm,hE0.trans hE⟩
end Go.Zz
