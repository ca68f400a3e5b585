/- FormatClaim of the program and of the reference, all kinds. -/
import Derived.Test.YtdlbbpeahicakaaGreatGr34
import Derived.Deep.RegionHeld3
set_option linter.unusedSimpArgs false
set_option linter.unusedVariables false
set_option linter.unnecessarySimpa false
namespace Go.Zz
open Go.RowKit Go.Proofs
set_option maxHeartbeats 1000000
set_option maxRecDepth 8000
theorem sFormatClaim_6(a b s p n:Int)(g o t q:List Int)(v1 v2 v3 v4:Value)(w:World)(h:Ints4 w v1 v2 v3 v4 g o t q) :
 Calls Tryz.prog 46 #[CV 6 v1 v2 a b s p v3 v4 n] w fun e w'=>e=.returned (.string (fcF 6 g o a b s p t q n))∧Ext w w':=by
 unfold CV
 obtain⟨wb,hwb⟩:∃wb,wb=w.alloc (.cells #[.int .i64 6,v1,v2,.int .i64 a,.int .i64 b,.int .i64 s,.int .i64 p,v3,v4,.int .i64 n] 38):=⟨_,rfl⟩
 have hE0:Ext w wb:=by rw[hwb];exact (Ext.refl _).alloc _
 have B0:Blk wb w.heap.size 38 #[.int .i64 6,v1,v2,.int .i64 a,.int .i64 b,.int .i64 s,.int .i64 p,v3,v4,.int .i64 n]:=by rw[hwb];exact Blk.new _ _ _
 have Hsz:Hid (wb.heap.size=w.heap.size+1):=Lib.hid (by rw[hwb];simp)
 have A0:∀W,Ext wb W→W.cell? ⟨w.heap.size,0,none⟩=some (.int .i64 6):=fun W hW=>(B0.ext hW).cell (i:=0) (v:=.int .i64 6) rfl
 have A1:∀W,Ext wb W→W.cell? ⟨w.heap.size,1,none⟩=some (v1):=fun W hW=>(B0.ext hW).cell (i:=1) (v:=v1) rfl
 have A2:∀W,Ext wb W→W.cell? ⟨w.heap.size,2,none⟩=some (v2):=fun W hW=>(B0.ext hW).cell (i:=2) (v:=v2) rfl
 have A3:∀W,Ext wb W→W.cell? ⟨w.heap.size,3,none⟩=some (.int .i64 a):=fun W hW=>(B0.ext hW).cell (i:=3) (v:=.int .i64 a) rfl
 have A4:∀W,Ext wb W→W.cell? ⟨w.heap.size,4,none⟩=some (.int .i64 b):=fun W hW=>(B0.ext hW).cell (i:=4) (v:=.int .i64 b) rfl
 have A5:∀W,Ext wb W→W.cell? ⟨w.heap.size,5,none⟩=some (.int .i64 s):=fun W hW=>(B0.ext hW).cell (i:=5) (v:=.int .i64 s) rfl
 have A6:∀W,Ext wb W→W.cell? ⟨w.heap.size,6,none⟩=some (.int .i64 p):=fun W hW=>(B0.ext hW).cell (i:=6) (v:=.int .i64 p) rfl
 have A7:∀W,Ext wb W→W.cell? ⟨w.heap.size,7,none⟩=some (v3):=fun W hW=>(B0.ext hW).cell (i:=7) (v:=v3) rfl
 have A8:∀W,Ext wb W→W.cell? ⟨w.heap.size,8,none⟩=some (v4):=fun W hW=>(B0.ext hW).cell (i:=8) (v:=v4) rfl
 have A9:∀W,Ext wb W→W.cell? ⟨w.heap.size,9,none⟩=some (.int .i64 n):=fun W hW=>(B0.ext hW).cell (i:=9) (v:=.int .i64 n) rfl
 have HI:Hid (∀W,Ext wb W→Ints4 W v1 v2 v3 v4 g o t q):=Lib.hid fun W hW=>h.ext (hE0.trans hW)
 have hE:=Ext.refl wb
 have Hwb:=Lib.hid hwb
 clear hwb h B0
 have cw1:(cwB 6).size≤6:=cwB_size _
 have cg1:(fgF g).size≤600:=fgF_size g
 have cg2:(fgF o).size≤600:=fgF_size o
 have ct1:(shortF t).size≤600:=shortF_size t
 have cq1:(shortF q).size≤600:=shortF_size q
 have csa:(fsF g a).size≤600:=fsF_size g a
 have csb:(fsF g b).size≤600:=fsF_size g b
 have css:(fsF g s).size≤600:=fsF_size g s
 have csp:(fsF g p).size≤600:=fsF_size g p
 have cn1:(fmtB (clampF n)).size≤13:=fmtB_size (clampF_in n)
 have Hv:Hid (fcF 6 g o a b s p t q n=(((((cwB 6)++(⟨#[32]⟩:ByteArray))++(fmtB (clampF n)))++(⟨#[32,124,32]⟩:ByteArray))++(shortF t))):=Lib.hid rfl
 have hcl:=clampF_in n
 rcases (by omega:n ≤ -1∨(-1<n∧n<99)∨99≤n) with hn | ⟨hn,hn2⟩ | hn
 · have He:clampF n=(-1):=by unfold clampF;omega
   rw[He] at cn1 Hv hcl
   clear He
   have hA:n<99:=by omega
   have hB:¬ -1<n:=by omega
   go_enter Tryz.func46,Tryz.ntmps46
   go_wp2_with fail
   rw[←Hwb.out]
   refine (sClaimWord_any _ _).mono ?_
   rintro e w1 ⟨rfl,hE'⟩
   replace hE:=hE.trans hE'
   go_wp2_with fail
   refine (sFormatGroup_any _ _ _ (HI.out _ hE).g).mono ?_
   rintro e w2 ⟨rfl,hE'⟩
   replace hE:=hE.trans hE'
   go_wp2_with fail
   refine (sFormatSet_any _ _ _ _ (HI.out _ hE).g).mono ?_
   rintro e w3 ⟨rfl,hE'⟩
   replace hE:=hE.trans hE'
   go_wp2_with fail
   refine (sFormatSet_any _ _ _ _ (HI.out _ hE).g).mono ?_
   rintro e w4 ⟨rfl,hE'⟩
   replace hE:=hE.trans hE'
   go_wp2_with fail
   refine (sFormatSet_any _ _ _ _ (HI.out _ hE).g).mono ?_
   rintro e w5 ⟨rfl,hE'⟩
   replace hE:=hE.trans hE'
   go_wp2_with fail
   refine (sFormatSet_any _ _ _ _ (HI.out _ hE).g).mono ?_
   rintro e w6 ⟨rfl,hE'⟩
   replace hE:=hE.trans hE'
   go_wp2_with fail
   clear hE'
   have D7:=fun U=>A7 (Lat wb U) (lat_ext wb U)
   have D9:=fun U=>A9 (Lat wb U) (lat_ext wb U)
   (refine wp_region_lat (wb) (by kernel_rfl) (by kernel_rfl) hE ?_);(repeat (go_big_quiet_step (first | (go_at_call 135;with_reducible exact Calls.lat (sNumbers_any _ _ _ (HI.out _ (lat_ext wb _)).t)) | (go_at_call 52;with_reducible exact Calls.lat (sFormatInt_any (-1) hcl _)))));(refine wpQuiet_nil ?_);(intro W hE');(replace hE:=lat_of hE');(clear hE')
   go_wp2_with fail
   go_ret
   exact⟨ret_str Hv.out.symm,hE0.trans hE⟩
 · have He:clampF n=n:=by unfold clampF;omega
   rw[He] at cn1 Hv hcl
   clear He
   go_enter Tryz.func46,Tryz.ntmps46
   go_wp2_with fail
   rw[←Hwb.out]
   refine (sClaimWord_any _ _).mono ?_
   rintro e w1 ⟨rfl,hE'⟩
   replace hE:=hE.trans hE'
   go_wp2_with fail
   refine (sFormatGroup_any _ _ _ (HI.out _ hE).g).mono ?_
   rintro e w2 ⟨rfl,hE'⟩
   replace hE:=hE.trans hE'
   go_wp2_with fail
   refine (sFormatSet_any _ _ _ _ (HI.out _ hE).g).mono ?_
   rintro e w3 ⟨rfl,hE'⟩
   replace hE:=hE.trans hE'
   go_wp2_with fail
   refine (sFormatSet_any _ _ _ _ (HI.out _ hE).g).mono ?_
   rintro e w4 ⟨rfl,hE'⟩
   replace hE:=hE.trans hE'
   go_wp2_with fail
   refine (sFormatSet_any _ _ _ _ (HI.out _ hE).g).mono ?_
   rintro e w5 ⟨rfl,hE'⟩
   replace hE:=hE.trans hE'
   go_wp2_with fail
   refine (sFormatSet_any _ _ _ _ (HI.out _ hE).g).mono ?_
   rintro e w6 ⟨rfl,hE'⟩
   replace hE:=hE.trans hE'
   go_wp2_with fail
   clear hE'
   have D7:=fun U=>A7 (Lat wb U) (lat_ext wb U)
   have D9:=fun U=>A9 (Lat wb U) (lat_ext wb U)
   (refine wp_region_lat (wb) (by kernel_rfl) (by kernel_rfl) hE ?_);(repeat (go_big_quiet_step (first | (go_at_call 135;with_reducible exact Calls.lat (sNumbers_any _ _ _ (HI.out _ (lat_ext wb _)).t)) | (go_at_call 52;with_reducible exact Calls.lat (sFormatInt_any n hcl _)))));(refine wpQuiet_nil ?_);(intro W hE');(replace hE:=lat_of hE');(clear hE')
   go_wp2_with fail
   go_ret
   exact⟨ret_str Hv.out.symm,hE0.trans hE⟩
 · have He:clampF n=99:=by unfold clampF;omega
   rw[He] at cn1 Hv hcl
   clear He
   have hA:¬n<99:=by omega
   go_enter Tryz.func46,Tryz.ntmps46
   go_wp2_with fail
   rw[←Hwb.out]
   refine (sClaimWord_any _ _).mono ?_
   rintro e w1 ⟨rfl,hE'⟩
   replace hE:=hE.trans hE'
   go_wp2_with fail
   refine (sFormatGroup_any _ _ _ (HI.out _ hE).g).mono ?_
   rintro e w2 ⟨rfl,hE'⟩
   replace hE:=hE.trans hE'
   go_wp2_with fail
   refine (sFormatSet_any _ _ _ _ (HI.out _ hE).g).mono ?_
   rintro e w3 ⟨rfl,hE'⟩
   replace hE:=hE.trans hE'
   go_wp2_with fail
   refine (sFormatSet_any _ _ _ _ (HI.out _ hE).g).mono ?_
   rintro e w4 ⟨rfl,hE'⟩
   replace hE:=hE.trans hE'
   go_wp2_with fail
   refine (sFormatSet_any _ _ _ _ (HI.out _ hE).g).mono ?_
   rintro e w5 ⟨rfl,hE'⟩
   replace hE:=hE.trans hE'
   go_wp2_with fail
   refine (sFormatSet_any _ _ _ _ (HI.out _ hE).g).mono ?_
   rintro e w6 ⟨rfl,hE'⟩
   replace hE:=hE.trans hE'
   go_wp2_with fail
   clear hE'
   have D7:=fun U=>A7 (Lat wb U) (lat_ext wb U)
   have D9:=fun U=>A9 (Lat wb U) (lat_ext wb U)
   (refine wp_region_lat (wb) (by kernel_rfl) (by kernel_rfl) hE ?_);(repeat (go_big_quiet_step (first | (go_at_call 135;with_reducible exact Calls.lat (sNumbers_any _ _ _ (HI.out _ (lat_ext wb _)).t)) | (go_at_call 52;with_reducible exact Calls.lat (sFormatInt_any 99 hcl _)))));(refine wpQuiet_nil ?_);(intro W hE');(replace hE:=lat_of hE');(clear hE')
   go_wp2_with fail
   go_ret
   exact⟨ret_str Hv.out.symm,hE0.trans hE⟩
theorem sFormatClaim_x(k a b s p n:Int)(g o t q:List Int)(v1 v2 v3 v4:Value)(w:World)(h:Ints4 w v1 v2 v3 v4 g o t q)(hk:¬(1≤k∧k≤7)) :
 Calls Tryz.prog 46 #[CV k v1 v2 a b s p v3 v4 n] w fun e w'=>e=.returned (.string (fcF k g o a b s p t q n))∧Ext w w':=by
 unfold CV
 obtain⟨wb,hwb⟩:∃wb,wb=w.alloc (.cells #[.int .i64 k,v1,v2,.int .i64 a,.int .i64 b,.int .i64 s,.int .i64 p,v3,v4,.int .i64 n] 38):=⟨_,rfl⟩
 have hE0:Ext w wb:=by rw[hwb];exact (Ext.refl _).alloc _
 have B0:Blk wb w.heap.size 38 #[.int .i64 k,v1,v2,.int .i64 a,.int .i64 b,.int .i64 s,.int .i64 p,v3,v4,.int .i64 n]:=by rw[hwb];exact Blk.new _ _ _
 have Hsz:Hid (wb.heap.size=w.heap.size+1):=Lib.hid (by rw[hwb];simp)
 have A0:∀W,Ext wb W→W.cell? ⟨w.heap.size,0,none⟩=some (.int .i64 k):=fun W hW=>(B0.ext hW).cell (i:=0) (v:=.int .i64 k) rfl
 have A1:∀W,Ext wb W→W.cell? ⟨w.heap.size,1,none⟩=some (v1):=fun W hW=>(B0.ext hW).cell (i:=1) (v:=v1) rfl
 have A2:∀W,Ext wb W→W.cell? ⟨w.heap.size,2,none⟩=some (v2):=fun W hW=>(B0.ext hW).cell (i:=2) (v:=v2) rfl
 have A3:∀W,Ext wb W→W.cell? ⟨w.heap.size,3,none⟩=some (.int .i64 a):=fun W hW=>(B0.ext hW).cell (i:=3) (v:=.int .i64 a) rfl
 have A4:∀W,Ext wb W→W.cell? ⟨w.heap.size,4,none⟩=some (.int .i64 b):=fun W hW=>(B0.ext hW).cell (i:=4) (v:=.int .i64 b) rfl
 have A5:∀W,Ext wb W→W.cell? ⟨w.heap.size,5,none⟩=some (.int .i64 s):=fun W hW=>(B0.ext hW).cell (i:=5) (v:=.int .i64 s) rfl
 have A6:∀W,Ext wb W→W.cell? ⟨w.heap.size,6,none⟩=some (.int .i64 p):=fun W hW=>(B0.ext hW).cell (i:=6) (v:=.int .i64 p) rfl
 have A7:∀W,Ext wb W→W.cell? ⟨w.heap.size,7,none⟩=some (v3):=fun W hW=>(B0.ext hW).cell (i:=7) (v:=v3) rfl
 have A8:∀W,Ext wb W→W.cell? ⟨w.heap.size,8,none⟩=some (v4):=fun W hW=>(B0.ext hW).cell (i:=8) (v:=v4) rfl
 have A9:∀W,Ext wb W→W.cell? ⟨w.heap.size,9,none⟩=some (.int .i64 n):=fun W hW=>(B0.ext hW).cell (i:=9) (v:=.int .i64 n) rfl
 have HI:Hid (∀W,Ext wb W→Ints4 W v1 v2 v3 v4 g o t q):=Lib.hid fun W hW=>h.ext (hE0.trans hW)
 have hE:=Ext.refl wb
 have Hwb:=Lib.hid hwb
 clear hwb h B0
 have cw1:(cwB k).size≤6:=cwB_size _
 have cg1:(fgF g).size≤600:=fgF_size g
 have cg2:(fgF o).size≤600:=fgF_size o
 have ct1:(shortF t).size≤600:=shortF_size t
 have cq1:(shortF q).size≤600:=shortF_size q
 have csa:(fsF g a).size≤600:=fsF_size g a
 have csb:(fsF g b).size≤600:=fsF_size g b
 have css:(fsF g s).size≤600:=fsF_size g s
 have csp:(fsF g p).size≤600:=fsF_size g p
 have cn1:(fmtB (clampF n)).size≤13:=fmtB_size (clampF_in n)
 have Hv:Hid (fcF k g o a b s p t q n=⟨#[]⟩):=Lib.hid (by unfold fcF;rw[if_neg (by omega),if_neg (by omega),if_neg (by omega),if_neg (by omega),if_neg (by omega),if_neg (by omega),if_neg (by omega)])
 have hk1:¬k=1:=by omega
 have hk2:¬k=2:=by omega
 have hk3:¬k=3:=by omega
 have hk4:¬k=4:=by omega
 have hk5:¬k=5:=by omega
 have hk6:¬k=6:=by omega
 have hk7:¬k=7:=by omega
 clear hk
 go_enter Tryz.func46,Tryz.ntmps46
 go_wp2_with fail
 rw[←Hwb.out]
 go_wp2_with (first | (go_at_call 49;refine (sClaimWord_any _ _).mono ?_;rintro e w' ⟨rfl,hE'⟩;replace hE:=hE.trans hE';clear hE') | (go_at_call 134;first | (with_reducible refine Calls.mono (sFormatGroup_any _ _ _ (HI.out _ hE).g) ?_;rintro e w' ⟨rfl,hE'⟩;replace hE:=hE.trans hE';clear hE') | (with_reducible refine Calls.mono (sFormatGroup_any _ _ _ (HI.out _ hE).o) ?_;rintro e w' ⟨rfl,hE'⟩;replace hE:=hE.trans hE';clear hE')) | (go_at_call 54;refine Calls.mono (sFormatSet_any _ _ _ _ (HI.out _ hE).g) ?_;rintro e w' ⟨rfl,hE'⟩;replace hE:=hE.trans hE';clear hE'))
 go_ret
 exact⟨ret_str Hv.out.symm,hE0.trans hE⟩
theorem FormatClaim_6(a b s p n:Int)(g o t q:List Int)(v1 v2 v3 v4:Value)(w:World)(h:Ints4 w v1 v2 v3 v4 g o t q) :
 Calls Tryz.prog 45 #[CV 6 v1 v2 a b s p v3 v4 n] w fun e w'=>e=.returned (.string (fcF 6 g o a b s p t q n))∧Ext w w':=by
 unfold CV
 have hop:=h.g.op
 obtain⟨ao1,k1,adr1,rfl,-,-,-⟩:=hop
 obtain⟨wb,hwb⟩:∃wb,wb=w.alloc (.cells #[.int .i64 6,.slice ao1 g.length k1,v2,.int .i64 a,.int .i64 b,.int .i64 s,.int .i64 p,v3,v4,.int .i64 n] 38):=⟨_,rfl⟩
 have hE0:Ext w wb:=by rw[hwb];exact (Ext.refl _).alloc _
 have B0:Blk wb w.heap.size 38 #[.int .i64 6,.slice ao1 g.length k1,v2,.int .i64 a,.int .i64 b,.int .i64 s,.int .i64 p,v3,v4,.int .i64 n]:=by rw[hwb];exact Blk.new _ _ _
 have Hsz:Hid (wb.heap.size=w.heap.size+1):=Lib.hid (by rw[hwb];simp)
 have A0:∀W,Ext wb W→W.cell? ⟨w.heap.size,0,none⟩=some (.int .i64 6):=fun W hW=>(B0.ext hW).cell (i:=0) (v:=.int .i64 6) rfl
 have A1:∀W,Ext wb W→W.cell? ⟨w.heap.size,1,none⟩=some (.slice ao1 g.length k1):=fun W hW=>(B0.ext hW).cell (i:=1) (v:=.slice ao1 g.length k1) rfl
 have A2:∀W,Ext wb W→W.cell? ⟨w.heap.size,2,none⟩=some (v2):=fun W hW=>(B0.ext hW).cell (i:=2) (v:=v2) rfl
 have A3:∀W,Ext wb W→W.cell? ⟨w.heap.size,3,none⟩=some (.int .i64 a):=fun W hW=>(B0.ext hW).cell (i:=3) (v:=.int .i64 a) rfl
 have A4:∀W,Ext wb W→W.cell? ⟨w.heap.size,4,none⟩=some (.int .i64 b):=fun W hW=>(B0.ext hW).cell (i:=4) (v:=.int .i64 b) rfl
 have A5:∀W,Ext wb W→W.cell? ⟨w.heap.size,5,none⟩=some (.int .i64 s):=fun W hW=>(B0.ext hW).cell (i:=5) (v:=.int .i64 s) rfl
 have A6:∀W,Ext wb W→W.cell? ⟨w.heap.size,6,none⟩=some (.int .i64 p):=fun W hW=>(B0.ext hW).cell (i:=6) (v:=.int .i64 p) rfl
 have A7:∀W,Ext wb W→W.cell? ⟨w.heap.size,7,none⟩=some (v3):=fun W hW=>(B0.ext hW).cell (i:=7) (v:=v3) rfl
 have A8:∀W,Ext wb W→W.cell? ⟨w.heap.size,8,none⟩=some (v4):=fun W hW=>(B0.ext hW).cell (i:=8) (v:=v4) rfl
 have A9:∀W,Ext wb W→W.cell? ⟨w.heap.size,9,none⟩=some (.int .i64 n):=fun W hW=>(B0.ext hW).cell (i:=9) (v:=.int .i64 n) rfl
 have HI:Hid (∀W,Ext wb W→Ints4 W (.slice ao1 g.length k1) v2 v3 v4 g o t q):=Lib.hid fun W hW=>h.ext (hE0.trans hW)
 have hE:=Ext.refl wb
 have Hwb:=Lib.hid hwb
 clear hwb h B0
 have cw1:(cwB 6).size≤6:=cwB_size _
 have cg1:(fgF g).size≤600:=fgF_size g
 have cg2:(fgF o).size≤600:=fgF_size o
 have ct1:(shortF t).size≤600:=shortF_size t
 have cq1:(shortF q).size≤600:=shortF_size q
 have csa:(fsF g a).size≤600:=fsF_size g a
 have csb:(fsF g b).size≤600:=fsF_size g b
 have css:(fsF g s).size≤600:=fsF_size g s
 have csp:(fsF g p).size≤600:=fsF_size g p
 have cn1:(fmtB (clampF n)).size≤13:=fmtB_size (clampF_in n)
 obtain⟨wc,hwc⟩:∃wc,wc=wb.alloc (.cells #[.slice ao1 g.length k1] 27):=⟨_,rfl⟩
 have hbc:Ext wb wc:=by rw[hwc];exact (Ext.refl _).alloc _
 have G0:∀W,Ext wc W→W.cell? ⟨w.heap.size+1,0,none⟩=some (.slice ao1 g.length k1):=by rw[hwc,←Hsz.out];exact box_cell wb _ _
 replace A0:=fun W (hW:Ext wc W)=>A0 W (hbc.trans hW)
 replace A1:=fun W (hW:Ext wc W)=>A1 W (hbc.trans hW)
 replace A2:=fun W (hW:Ext wc W)=>A2 W (hbc.trans hW)
 replace A3:=fun W (hW:Ext wc W)=>A3 W (hbc.trans hW)
 replace A4:=fun W (hW:Ext wc W)=>A4 W (hbc.trans hW)
 replace A5:=fun W (hW:Ext wc W)=>A5 W (hbc.trans hW)
 replace A6:=fun W (hW:Ext wc W)=>A6 W (hbc.trans hW)
 replace A7:=fun W (hW:Ext wc W)=>A7 W (hbc.trans hW)
 replace A8:=fun W (hW:Ext wc W)=>A8 W (hbc.trans hW)
 replace A9:=fun W (hW:Ext wc W)=>A9 W (hbc.trans hW)
 replace HI:Hid (∀W,Ext wc W→Ints4 W (.slice ao1 g.length k1) v2 v3 v4 g o t q):=Lib.hid fun W hW=>HI.out W (hbc.trans hW)
 replace hE0:=hE0.trans hbc
 replace hE:=Ext.refl wc
 have Hwc:=Lib.hid hwc
 clear hwc hbc
 have Hv:Hid (fcF 6 g o a b s p t q n=(((((cwB 6)++(⟨#[32]⟩:ByteArray))++(fmtB (clampF n)))++(⟨#[32,124,32]⟩:ByteArray))++(shortF t))):=Lib.hid rfl
 go_enter Tryz.func45,Tryz.ntmps45
 go_wp2_with fail
 rw[←Hwb.out,←Hwc.out]
 go_wp2_with (first | (go_at_call 48;refine (ClaimWord_any _ _).mono ?_;rintro e w' ⟨rfl,hE'⟩;replace hE:=hE.trans hE';clear hE') | (go_at_call 132;first | (with_reducible refine Calls.mono (FormatGroup_any _ _ _ (HI.out _ hE).g) ?_;rintro e w' ⟨rfl,hE'⟩;replace hE:=hE.trans hE';clear hE') | (with_reducible refine Calls.mono (FormatGroup_any _ _ _ (HI.out _ hE).o) ?_;rintro e w' ⟨rfl,hE'⟩;replace hE:=hE.trans hE';clear hE')) | (go_at_call 131;first | (with_reducible refine Calls.mono (IsGroup_any _ _ _ (HI.out _ hE).g) ?_;rintro e w' ⟨rfl,hE'⟩;replace hE:=hE.trans hE';clear hE';try rw[hxg]) | (with_reducible refine Calls.mono (IsGroup_any _ _ _ (HI.out _ hE).o) ?_;rintro e w' ⟨rfl,hE'⟩;replace hE:=hE.trans hE';clear hE';try rw[hxo])))
 have G1:=fun U=>G0 (Lat wc U) (lat_ext wc U)
 have D1:=fun U=>A1 (Lat wc U) (lat_ext wc U)
 have D2:=fun U=>A2 (Lat wc U) (lat_ext wc U)
 have D3:=fun U=>A3 (Lat wc U) (lat_ext wc U)
 have D4:=fun U=>A4 (Lat wc U) (lat_ext wc U)
 have D5:=fun U=>A5 (Lat wc U) (lat_ext wc U)
 have D6:=fun U=>A6 (Lat wc U) (lat_ext wc U)
 have D7:=fun U=>A7 (Lat wc U) (lat_ext wc U)
 have D8:=fun U=>A8 (Lat wc U) (lat_ext wc U)
 have D9:=fun U=>A9 (Lat wc U) (lat_ext wc U)
 (refine wp_region_lat (wc) (by kernel_rfl) (by kernel_rfl) hE ?_);(repeat (go_big_quiet_step (first | (go_at_call 130;first | with_reducible exact Calls.lat (short_any _ _ _ (HI.out _ (lat_ext wc _)).t) | with_reducible exact Calls.lat (short_any _ _ _ (HI.out _ (lat_ext wc _)).q)) | (go_at_call 132;with_reducible exact Calls.lat (FormatGroup_any _ _ _ (HI.out _ (lat_ext wc _)).o)) | (go_at_call 68;with_reducible exact Calls.lat (FormatSet_any _ _ _ _ (HI.out _ (lat_ext wc _)).g)) | (go_at_call 66;with_reducible exact Calls.lat (FormatInt_any _ (clampF_in n) _)) | (go_at_call 129;with_reducible exact Calls.lat_same (narrow_any _ _)))));(refine wpQuiet_nil ?_);(intro W hE');(replace hE:=lat_of hE');(clear hE')
 go_wp2_with fail
 go_ret
 exact⟨ret_str Hv.out.symm,hE0.trans hE⟩
theorem FormatClaim_x(k a b s p n:Int)(g o t q:List Int)(v1 v2 v3 v4:Value)(w:World)(h:Ints4 w v1 v2 v3 v4 g o t q)(hk:¬(1≤k∧k≤7)) :
 Calls Tryz.prog 45 #[CV k v1 v2 a b s p v3 v4 n] w fun e w'=>e=.returned (.string (fcF k g o a b s p t q n))∧Ext w w':=by
 unfold CV
 have hop:=h.g.op
 obtain⟨ao1,k1,adr1,rfl,-,-,-⟩:=hop
 obtain⟨wb,hwb⟩:∃wb,wb=w.alloc (.cells #[.int .i64 k,.slice ao1 g.length k1,v2,.int .i64 a,.int .i64 b,.int .i64 s,.int .i64 p,v3,v4,.int .i64 n] 38):=⟨_,rfl⟩
 have hE0:Ext w wb:=by rw[hwb];exact (Ext.refl _).alloc _
 have B0:Blk wb w.heap.size 38 #[.int .i64 k,.slice ao1 g.length k1,v2,.int .i64 a,.int .i64 b,.int .i64 s,.int .i64 p,v3,v4,.int .i64 n]:=by rw[hwb];exact Blk.new _ _ _
 have Hsz:Hid (wb.heap.size=w.heap.size+1):=Lib.hid (by rw[hwb];simp)
 have A0:∀W,Ext wb W→W.cell? ⟨w.heap.size,0,none⟩=some (.int .i64 k):=fun W hW=>(B0.ext hW).cell (i:=0) (v:=.int .i64 k) rfl
 have A1:∀W,Ext wb W→W.cell? ⟨w.heap.size,1,none⟩=some (.slice ao1 g.length k1):=fun W hW=>(B0.ext hW).cell (i:=1) (v:=.slice ao1 g.length k1) rfl
 have A2:∀W,Ext wb W→W.cell? ⟨w.heap.size,2,none⟩=some (v2):=fun W hW=>(B0.ext hW).cell (i:=2) (v:=v2) rfl
 have A3:∀W,Ext wb W→W.cell? ⟨w.heap.size,3,none⟩=some (.int .i64 a):=fun W hW=>(B0.ext hW).cell (i:=3) (v:=.int .i64 a) rfl
 have A4:∀W,Ext wb W→W.cell? ⟨w.heap.size,4,none⟩=some (.int .i64 b):=fun W hW=>(B0.ext hW).cell (i:=4) (v:=.int .i64 b) rfl
 have A5:∀W,Ext wb W→W.cell? ⟨w.heap.size,5,none⟩=some (.int .i64 s):=fun W hW=>(B0.ext hW).cell (i:=5) (v:=.int .i64 s) rfl
 have A6:∀W,Ext wb W→W.cell? ⟨w.heap.size,6,none⟩=some (.int .i64 p):=fun W hW=>(B0.ext hW).cell (i:=6) (v:=.int .i64 p) rfl
 have A7:∀W,Ext wb W→W.cell? ⟨w.heap.size,7,none⟩=some (v3):=fun W hW=>(B0.ext hW).cell (i:=7) (v:=v3) rfl
 have A8:∀W,Ext wb W→W.cell? ⟨w.heap.size,8,none⟩=some (v4):=fun W hW=>(B0.ext hW).cell (i:=8) (v:=v4) rfl
 have A9:∀W,Ext wb W→W.cell? ⟨w.heap.size,9,none⟩=some (.int .i64 n):=fun W hW=>(B0.ext hW).cell (i:=9) (v:=.int .i64 n) rfl
 have HI:Hid (∀W,Ext wb W→Ints4 W (.slice ao1 g.length k1) v2 v3 v4 g o t q):=Lib.hid fun W hW=>h.ext (hE0.trans hW)
 have hE:=Ext.refl wb
 have Hwb:=Lib.hid hwb
 clear hwb h B0
 have cw1:(cwB k).size≤6:=cwB_size _
 have cg1:(fgF g).size≤600:=fgF_size g
 have cg2:(fgF o).size≤600:=fgF_size o
 have ct1:(shortF t).size≤600:=shortF_size t
 have cq1:(shortF q).size≤600:=shortF_size q
 have csa:(fsF g a).size≤600:=fsF_size g a
 have csb:(fsF g b).size≤600:=fsF_size g b
 have css:(fsF g s).size≤600:=fsF_size g s
 have csp:(fsF g p).size≤600:=fsF_size g p
 have cn1:(fmtB (clampF n)).size≤13:=fmtB_size (clampF_in n)
 obtain⟨wc,hwc⟩:∃wc,wc=wb.alloc (.cells #[.slice ao1 g.length k1] 27):=⟨_,rfl⟩
 have hbc:Ext wb wc:=by rw[hwc];exact (Ext.refl _).alloc _
 have G0:∀W,Ext wc W→W.cell? ⟨w.heap.size+1,0,none⟩=some (.slice ao1 g.length k1):=by rw[hwc,←Hsz.out];exact box_cell wb _ _
 replace A0:=fun W (hW:Ext wc W)=>A0 W (hbc.trans hW)
 replace A1:=fun W (hW:Ext wc W)=>A1 W (hbc.trans hW)
 replace A2:=fun W (hW:Ext wc W)=>A2 W (hbc.trans hW)
 replace A3:=fun W (hW:Ext wc W)=>A3 W (hbc.trans hW)
 replace A4:=fun W (hW:Ext wc W)=>A4 W (hbc.trans hW)
 replace A5:=fun W (hW:Ext wc W)=>A5 W (hbc.trans hW)
 replace A6:=fun W (hW:Ext wc W)=>A6 W (hbc.trans hW)
 replace A7:=fun W (hW:Ext wc W)=>A7 W (hbc.trans hW)
 replace A8:=fun W (hW:Ext wc W)=>A8 W (hbc.trans hW)
 replace A9:=fun W (hW:Ext wc W)=>A9 W (hbc.trans hW)
 replace HI:Hid (∀W,Ext wc W→Ints4 W (.slice ao1 g.length k1) v2 v3 v4 g o t q):=Lib.hid fun W hW=>HI.out W (hbc.trans hW)
 replace hE0:=hE0.trans hbc
 replace hE:=Ext.refl wc
 have Hwc:=Lib.hid hwc
 clear hwc hbc
 have Hv:Hid (fcF k g o a b s p t q n=⟨#[]⟩):=Lib.hid (by unfold fcF;rw[if_neg (by omega),if_neg (by omega),if_neg (by omega),if_neg (by omega),if_neg (by omega),if_neg (by omega),if_neg (by omega)])
 have ew:(cwB k).toList.isEmpty=true:=by rw[cwB_none hk,ByteArray.toList_eq];rfl
 have hk6:¬k=6:=by omega
 clear hk
 go_enter Tryz.func45,Tryz.ntmps45
 go_wp2_with fail
 rw[←Hwb.out,←Hwc.out]
 go_wp2_with (first | (go_at_call 48;refine (ClaimWord_any _ _).mono ?_;rintro e w' ⟨rfl,hE'⟩;replace hE:=hE.trans hE';clear hE') | (go_at_call 132;first | (with_reducible refine Calls.mono (FormatGroup_any _ _ _ (HI.out _ hE).g) ?_;rintro e w' ⟨rfl,hE'⟩;replace hE:=hE.trans hE';clear hE') | (with_reducible refine Calls.mono (FormatGroup_any _ _ _ (HI.out _ hE).o) ?_;rintro e w' ⟨rfl,hE'⟩;replace hE:=hE.trans hE';clear hE')) | (go_at_call 131;first | (with_reducible refine Calls.mono (IsGroup_any _ _ _ (HI.out _ hE).g) ?_;rintro e w' ⟨rfl,hE'⟩;replace hE:=hE.trans hE';clear hE';try rw[hxg]) | (with_reducible refine Calls.mono (IsGroup_any _ _ _ (HI.out _ hE).o) ?_;rintro e w' ⟨rfl,hE'⟩;replace hE:=hE.trans hE';clear hE';try rw[hxo])))
 go_ret
 exact⟨ret_str Hv.out.symm,hE0.trans hE⟩
theorem sFormatClaim_any(k a b s p n:Int)(g o t q:List Int)(v1 v2 v3 v4:Value)(w:World)(h:Ints4 w v1 v2 v3 v4 g o t q) :
 Calls Tryz.prog 46 #[CV k v1 v2 a b s p v3 v4 n] w fun e w'=>e=.returned (.string (fcF k g o a b s p t q n))∧Ext w w':=by
 by_cases hk:1≤k∧k≤7
 · rcases (by omega:k=1∨k=2∨k=3∨k=4∨k=5∨k=6∨k=7) with rfl | rfl | rfl | rfl | rfl | rfl | rfl
   · exact sFormatClaim_1 a b s p n g o t q v1 v2 v3 v4 w h
   · exact sFormatClaim_2 a b s p n g o t q v1 v2 v3 v4 w h
   · exact sFormatClaim_3 a b s p n g o t q v1 v2 v3 v4 w h
   · exact sFormatClaim_4 a b s p n g o t q v1 v2 v3 v4 w h
   · exact sFormatClaim_5 a b s p n g o t q v1 v2 v3 v4 w h
   · exact sFormatClaim_6 a b s p n g o t q v1 v2 v3 v4 w h
   · exact sFormatClaim_7 a b s p n g o t q v1 v2 v3 v4 w h
 · exact sFormatClaim_x k a b s p n g o t q v1 v2 v3 v4 w h hk
theorem FormatClaim_any(k a b s p n:Int)(g o t q:List Int)(v1 v2 v3 v4:Value)(w:World)(h:Ints4 w v1 v2 v3 v4 g o t q) :
 Calls Tryz.prog 45 #[CV k v1 v2 a b s p v3 v4 n] w fun e w'=>e=.returned (.string (fcF k g o a b s p t q n))∧Ext w w':=by
 by_cases hk:1≤k∧k≤7
 · rcases (by omega:k=1∨k=2∨k=3∨k=4∨k=5∨k=6∨k=7) with rfl | rfl | rfl | rfl | rfl | rfl | rfl
   · exact FormatClaim_1 a b s p n g o t q v1 v2 v3 v4 w h
   · exact FormatClaim_2 a b s p n g o t q v1 v2 v3 v4 w h
   · exact FormatClaim_3 a b s p n g o t q v1 v2 v3 v4 w h
   · exact FormatClaim_4 a b s p n g o t q v1 v2 v3 v4 w h
   · exact FormatClaim_5 a b s p n g o t q v1 v2 v3 v4 w h
   · exact FormatClaim_6 a b s p n g o t q v1 v2 v3 v4 w h
   · exact FormatClaim_7 a b s p n g o t q v1 v2 v3 v4 w h
 · exact FormatClaim_x k a b s p n g o t q v1 v2 v3 v4 w h hk
end Go.Zz
