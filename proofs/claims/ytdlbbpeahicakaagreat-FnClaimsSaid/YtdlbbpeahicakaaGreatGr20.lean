/- CheckClaim of the reference. -/
import Derived.Test.YtdlbbpeahicakaaGreatGr11
import Derived.Test.YtdlbbpeahicakaaGreatGr4
namespace Go.Zz
open Go.RowKit Go.Proofs
set_option maxHeartbeats 2000000
set_option maxRecDepth 8000
theorem sCheckClaim_1(a b s p n:Int)(g o t q:List Int)(v1 v2 v3 v4:Value)(w:World)(h:Ints4 w v1 v2 v3 v4 g o t q) :
 Calls Tryz.prog 35 #[CV 1 v1 v2 a b s p v3 v4 n] w fun e w'=>e=.returned (.bool (ccF 1 g o a b s p t q n))∧Ext w w':=by
 unfold CV
 have hop1:=h.g.op
 obtain⟨ao1,k1,-,rfl,hln1,-,-⟩:=hop1
 have hop2:=h.o.op
 obtain⟨ao2,k2,-,rfl,hln2,-,-⟩:=hop2
 have hop3:=h.t.op
 obtain⟨ao3,k3,-,rfl,hln3,-,-⟩:=hop3
 have hop4:=h.q.op
 obtain⟨ao4,k4,-,rfl,hln4,-,-⟩:=hop4
 obtain⟨wb,hwb⟩:∃wb,wb=w.alloc (.cells #[.int .i64 1,.slice ao1 g.length k1,.slice ao2 o.length k2,.int .i64 a,.int .i64 b,.int .i64 s,.int .i64 p,.slice ao3 t.length k3,.slice ao4 q.length k4,.int .i64 n] 38):=⟨_,rfl⟩
 have hE0:Ext w wb:=by rw[hwb];exact (Ext.refl _).alloc _
 have B0:Blk wb w.heap.size 38 #[.int .i64 1,.slice ao1 g.length k1,.slice ao2 o.length k2,.int .i64 a,.int .i64 b,.int .i64 s,.int .i64 p,.slice ao3 t.length k3,.slice ao4 q.length k4,.int .i64 n]:=by rw[hwb];exact Blk.new _ _ _
 have Hsz:Hid (wb.heap.size=w.heap.size+1):=Lib.hid (by rw[hwb];simp)
 obtain⟨wc,hwc⟩:∃wc,wc=wb.alloc (.cells #[.slice ao1 g.length k1] 27):=⟨_,rfl⟩
 have hbc:Ext wb wc:=by rw[hwc];exact (Ext.refl _).alloc _
 have G0:∀W,Ext wc W→W.cell? ⟨w.heap.size+1,0,none⟩=some (.slice ao1 g.length k1):=by rw[hwc,←Hsz.out];exact box_cell wb _ _
 have A0:∀W,Ext wc W→W.cell? ⟨w.heap.size,0,none⟩=some (.int .i64 1):=fun W hW=>(B0.ext (hbc.trans hW)).cell (i:=0) (v:=.int .i64 1) rfl
 have A1:∀W,Ext wc W→W.cell? ⟨w.heap.size,1,none⟩=some (.slice ao1 g.length k1):=fun W hW=>(B0.ext (hbc.trans hW)).cell (i:=1) (v:=.slice ao1 g.length k1) rfl
 have A2:∀W,Ext wc W→W.cell? ⟨w.heap.size,2,none⟩=some (.slice ao2 o.length k2):=fun W hW=>(B0.ext (hbc.trans hW)).cell (i:=2) (v:=.slice ao2 o.length k2) rfl
 have A3:∀W,Ext wc W→W.cell? ⟨w.heap.size,3,none⟩=some (.int .i64 a):=fun W hW=>(B0.ext (hbc.trans hW)).cell (i:=3) (v:=.int .i64 a) rfl
 have A4:∀W,Ext wc W→W.cell? ⟨w.heap.size,4,none⟩=some (.int .i64 b):=fun W hW=>(B0.ext (hbc.trans hW)).cell (i:=4) (v:=.int .i64 b) rfl
 have A5:∀W,Ext wc W→W.cell? ⟨w.heap.size,5,none⟩=some (.int .i64 s):=fun W hW=>(B0.ext (hbc.trans hW)).cell (i:=5) (v:=.int .i64 s) rfl
 have A6:∀W,Ext wc W→W.cell? ⟨w.heap.size,6,none⟩=some (.int .i64 p):=fun W hW=>(B0.ext (hbc.trans hW)).cell (i:=6) (v:=.int .i64 p) rfl
 have A7:∀W,Ext wc W→W.cell? ⟨w.heap.size,7,none⟩=some (.slice ao3 t.length k3):=fun W hW=>(B0.ext (hbc.trans hW)).cell (i:=7) (v:=.slice ao3 t.length k3) rfl
 have A8:∀W,Ext wc W→W.cell? ⟨w.heap.size,8,none⟩=some (.slice ao4 q.length k4):=fun W hW=>(B0.ext (hbc.trans hW)).cell (i:=8) (v:=.slice ao4 q.length k4) rfl
 have A9:∀W,Ext wc W→W.cell? ⟨w.heap.size,9,none⟩=some (.int .i64 n):=fun W hW=>(B0.ext (hbc.trans hW)).cell (i:=9) (v:=.int .i64 n) rfl
 have HI:Hid (∀W,Ext wc W→Ints4 W (.slice ao1 g.length k1) (.slice ao2 o.length k2) (.slice ao3 t.length k3) (.slice ao4 q.length k4) g o t q):=Lib.hid fun W hW=>h.ext ((hE0.trans hbc).trans hW)
 replace hE0:=hE0.trans hbc
 have hE:=Ext.refl wc
 have Hwb:=Lib.hid hwb
 have Hwc:=Lib.hid hwc
 clear hwb hwc h B0 hbc
 have D3:=fun U=>A3 (Lat wc U) (lat_ext wc U)
 have D4:=fun U=>A4 (Lat wc U) (lat_ext wc U)
 have D5:=fun U=>A5 (Lat wc U) (lat_ext wc U)
 have D6:=fun U=>A6 (Lat wc U) (lat_ext wc U)
 have G1:=fun U=>G0 (Lat wc U) (lat_ext wc U)
 cases hf:fullB g a b
 · have Hv:Hid (ccF 1 g o a b s p t q n=false):=Lib.hid (by show c1F g a b s p=false;unfold c1F;rw[hf];rfl)
   have cF:=fun U=>sKneserBound_any (.slice ao1 g.length k1) g a b (Lat wc U) (HI.out _ (lat_ext wc U)).g
   rw[knI_no hf] at cF
   clear hf
   go_enter Tryz.func35,Tryz.ntmps35
   go_wp2_with fail
   rw[←Hwb.out,←Hwc.out]
   (refine wp_region_lat (wc) (by kernel_rfl) (by kernel_rfl) hE ?_);(repeat (go_big_quiet_step (first | (go_at_call 37;with_reducible exact Calls.lat (cF _)))));(refine wpQuiet_nil ?_);(intro W hE');(replace hE:=lat_of hE');(clear hE')
   go_wp2_with fail
   go_ret
   exact⟨ret_bool Hv.out.symm,hE0.trans hE⟩
 have hf2:=hf
 obtain⟨m1,m2,rfl,rfl,h3,h4,a1,-,ha,hb',hgr,-,-⟩:=fullB_nat hf2
 have Hgr:=Lib.hid hgr
 have hss:isSetB g ((sumF g m1 m2:Nat):Int)=true:=isSetB_of hgr (sumF_lt (isGrp_ords hgr) m1 m2)
 have hs24:=sumF_bd hgr m1 m2
 have cF:=fun U=>sKneserBound_any (.slice ao1 g.length k1) g m1 m2 (Lat wc U) (HI.out _ (lat_ext wc U)).g
 rw[knI_yes hf] at cF
 have hkn:=knF_pos (b:=m2) hgr h3 a1
 obtain⟨kn,hknd⟩:∃x,x=knF g m1 m2:=⟨_,rfl⟩
 rw[←hknd] at cF hkn
 clear hknd
 have cS:=fun U=>l4Sum_any (.slice ao1 g.length k1) g m1 m2 (Lat wc U) (HI.out _ (lat_ext wc U)).g Hgr ha hb'
 have Hv:Hid (ccF 1 g o m1 m2 s p t q n=((s == ((sumF g m1 m2:Nat):Int))&&(p == ((stabF g (sumF g m1 m2):Nat):Int)))):=Lib.hid (by show c1F g m1 m2 s p=_;unfold c1F;rw[hf];simp)
 obtain⟨S,hS⟩:∃S,S=sumF g m1 m2:=⟨_,rfl⟩
 rw[←hS] at cS hss Hv hs24
 have cT:=fun U=>l6Stabilizer_any _ g S (Lat wc U) (HI.out _ (lat_ext wc U)).g Hgr hs24
 obtain⟨H,hH⟩:∃H,H=stabF g S:=⟨_,rfl⟩
 rw[←hH] at cT Hv
 clear hS hH hf hf2 hgr h3 h4 a1 hss
 cases e1:(s == (S:Int))
 · rw[e1] at Hv
   go_enter Tryz.func35,Tryz.ntmps35
   go_wp2_with fail
   rw[←Hwb.out,←Hwc.out]
   (refine wp_region_lat (wc) (by kernel_rfl) (by kernel_rfl) hE ?_);(repeat (go_big_quiet_step (first | (go_at_call 37;with_reducible exact Calls.lat (cF _)) | (go_at_call 84;with_reducible exact Calls.lat (cS _)))));(refine wpQuiet_nil ?_);(intro W hE');(replace hE:=lat_of hE');(clear hE')
   go_wp2_with fail
   go_ret
   exact⟨ret_bool Hv.out.symm,hE0.trans hE⟩
 rw[e1] at Hv
 rw[beq_iff_eq] at e1
 subst e1
 cases e2:(p == (H:Int))
 all_goals
  rw[e2] at Hv
  go_enter Tryz.func35,Tryz.ntmps35
  go_wp2_with fail
  rw[←Hwb.out,←Hwc.out]
  (refine wp_region_lat (wc) (by kernel_rfl) (by kernel_rfl) hE ?_);(repeat (go_big_quiet_step (first | (go_at_call 37;with_reducible exact Calls.lat (cF _)) | (go_at_call 84;with_reducible exact Calls.lat (cS _)) | (go_at_call 117;with_reducible exact Calls.lat (cT _)))));(refine wpQuiet_nil ?_);(intro W hE');(replace hE:=lat_of hE');(clear hE')
  go_wp2_with fail
  go_ret
  exact⟨ret_bool Hv.out.symm,hE0.trans hE⟩
theorem sCheckClaim_2(a b s p n:Int)(g o t q:List Int)(v1 v2 v3 v4:Value)(w:World)(h:Ints4 w v1 v2 v3 v4 g o t q) :
 Calls Tryz.prog 35 #[CV 2 v1 v2 a b s p v3 v4 n] w fun e w'=>e=.returned (.bool (ccF 2 g o a b s p t q n))∧Ext w w':=by
 unfold CV
 have hop1:=h.g.op
 obtain⟨ao1,k1,-,rfl,hln1,-,-⟩:=hop1
 have hop2:=h.o.op
 obtain⟨ao2,k2,-,rfl,hln2,-,-⟩:=hop2
 have hop3:=h.t.op
 obtain⟨ao3,k3,-,rfl,hln3,-,-⟩:=hop3
 have hop4:=h.q.op
 obtain⟨ao4,k4,-,rfl,hln4,-,-⟩:=hop4
 obtain⟨wb,hwb⟩:∃wb,wb=w.alloc (.cells #[.int .i64 2,.slice ao1 g.length k1,.slice ao2 o.length k2,.int .i64 a,.int .i64 b,.int .i64 s,.int .i64 p,.slice ao3 t.length k3,.slice ao4 q.length k4,.int .i64 n] 38):=⟨_,rfl⟩
 have hE0:Ext w wb:=by rw[hwb];exact (Ext.refl _).alloc _
 have B0:Blk wb w.heap.size 38 #[.int .i64 2,.slice ao1 g.length k1,.slice ao2 o.length k2,.int .i64 a,.int .i64 b,.int .i64 s,.int .i64 p,.slice ao3 t.length k3,.slice ao4 q.length k4,.int .i64 n]:=by rw[hwb];exact Blk.new _ _ _
 have Hsz:Hid (wb.heap.size=w.heap.size+1):=Lib.hid (by rw[hwb];simp)
 obtain⟨wc,hwc⟩:∃wc,wc=wb.alloc (.cells #[.slice ao1 g.length k1] 27):=⟨_,rfl⟩
 have hbc:Ext wb wc:=by rw[hwc];exact (Ext.refl _).alloc _
 have G0:∀W,Ext wc W→W.cell? ⟨w.heap.size+1,0,none⟩=some (.slice ao1 g.length k1):=by rw[hwc,←Hsz.out];exact box_cell wb _ _
 have A0:∀W,Ext wc W→W.cell? ⟨w.heap.size,0,none⟩=some (.int .i64 2):=fun W hW=>(B0.ext (hbc.trans hW)).cell (i:=0) (v:=.int .i64 2) rfl
 have A1:∀W,Ext wc W→W.cell? ⟨w.heap.size,1,none⟩=some (.slice ao1 g.length k1):=fun W hW=>(B0.ext (hbc.trans hW)).cell (i:=1) (v:=.slice ao1 g.length k1) rfl
 have A2:∀W,Ext wc W→W.cell? ⟨w.heap.size,2,none⟩=some (.slice ao2 o.length k2):=fun W hW=>(B0.ext (hbc.trans hW)).cell (i:=2) (v:=.slice ao2 o.length k2) rfl
 have A3:∀W,Ext wc W→W.cell? ⟨w.heap.size,3,none⟩=some (.int .i64 a):=fun W hW=>(B0.ext (hbc.trans hW)).cell (i:=3) (v:=.int .i64 a) rfl
 have A4:∀W,Ext wc W→W.cell? ⟨w.heap.size,4,none⟩=some (.int .i64 b):=fun W hW=>(B0.ext (hbc.trans hW)).cell (i:=4) (v:=.int .i64 b) rfl
 have A5:∀W,Ext wc W→W.cell? ⟨w.heap.size,5,none⟩=some (.int .i64 s):=fun W hW=>(B0.ext (hbc.trans hW)).cell (i:=5) (v:=.int .i64 s) rfl
 have A6:∀W,Ext wc W→W.cell? ⟨w.heap.size,6,none⟩=some (.int .i64 p):=fun W hW=>(B0.ext (hbc.trans hW)).cell (i:=6) (v:=.int .i64 p) rfl
 have A7:∀W,Ext wc W→W.cell? ⟨w.heap.size,7,none⟩=some (.slice ao3 t.length k3):=fun W hW=>(B0.ext (hbc.trans hW)).cell (i:=7) (v:=.slice ao3 t.length k3) rfl
 have A8:∀W,Ext wc W→W.cell? ⟨w.heap.size,8,none⟩=some (.slice ao4 q.length k4):=fun W hW=>(B0.ext (hbc.trans hW)).cell (i:=8) (v:=.slice ao4 q.length k4) rfl
 have A9:∀W,Ext wc W→W.cell? ⟨w.heap.size,9,none⟩=some (.int .i64 n):=fun W hW=>(B0.ext (hbc.trans hW)).cell (i:=9) (v:=.int .i64 n) rfl
 have HI:Hid (∀W,Ext wc W→Ints4 W (.slice ao1 g.length k1) (.slice ao2 o.length k2) (.slice ao3 t.length k3) (.slice ao4 q.length k4) g o t q):=Lib.hid fun W hW=>h.ext ((hE0.trans hbc).trans hW)
 replace hE0:=hE0.trans hbc
 have hE:=Ext.refl wc
 have Hwb:=Lib.hid hwb
 have Hwc:=Lib.hid hwc
 clear hwb hwc h B0 hbc
 have cM:=fun W (hW:Ext wc W)=>l19Minus_any (.slice ao3 t.length k3) (.slice ao4 q.length k4) t q W (HI.out W hW).t (HI.out W hW).q
 have cA:=fun W (hW:Ext wc W)=>sIsSequence_any (.slice ao1 g.length k1) (.slice ao3 t.length k3) g t W (HI.out W hW).g (HI.out W hW).t
 have cB:=fun W (hW:Ext wc W)=>sIsZeroSum_any (.slice ao1 g.length k1) (.slice ao4 q.length k4) g q W (HI.out W hW).g (HI.out W hW).q
 obtain⟨x1,hx1⟩:∃x,x=seqB g t:=⟨_,rfl⟩
 obtain⟨x2,hx2⟩:∃x,x=zsB g q:=⟨_,rfl⟩
 obtain⟨x3,hx3⟩:∃x,x=subM t q:=⟨_,rfl⟩
 have Hv:Hid (ccF 2 g o a b s p t q n=(x1&&x2&&decide (q.length≠0)&&x3)):=Lib.hid (by rw[hx1,hx2,hx3];rfl)
 rw[←hx1] at cA
 rw[←hx2] at cB
 rw[←hx3] at cM
 clear hx1 hx2 hx3
 cases x1
 · have Hv:=Hv
   go_enter Tryz.func35,Tryz.ntmps35
   go_wp2_with fail
   rw[←Hwb.out,←Hwc.out]
   have kA7x:=A7 _ hE
   have kA8x:=A8 _ hE
   go_wp2_with fail
   refine (cM _ hE).mono ?_
   rintro e w' ⟨⟨vm,rfl⟩,hE'⟩
   replace hE:=hE.trans hE'
   clear hE'
   clear kA7x kA8x
   have kG0x:=G0 _ hE
   have kA7x:=A7 _ hE
   go_wp2_with fail
   refine (cA _ hE).mono ?_
   rintro e w' ⟨rfl,hE'⟩
   replace hE:=hE.trans hE'
   clear hE'
   clear kG0x kA7x
   go_wp2_with fail
   go_ret
   exact⟨ret_bool Hv.out.symm,hE0.trans hE⟩
 cases x3
 · have Hv:Hid (ccF 2 g o a b s p t q n=false):=Lib.hid (by rw[Hv.out];simp)
   go_enter Tryz.func35,Tryz.ntmps35
   go_wp2_with fail
   rw[←Hwb.out,←Hwc.out]
   have kA7x:=A7 _ hE
   have kA8x:=A8 _ hE
   go_wp2_with fail
   refine (cM _ hE).mono ?_
   rintro e w' ⟨⟨vm,rfl⟩,hE'⟩
   replace hE:=hE.trans hE'
   clear hE'
   clear kA7x kA8x
   have kG0x:=G0 _ hE
   have kA7x:=A7 _ hE
   go_wp2_with fail
   refine (cA _ hE).mono ?_
   rintro e w' ⟨rfl,hE'⟩
   replace hE:=hE.trans hE'
   clear hE'
   clear kG0x kA7x
   go_wp2_with fail
   go_ret
   exact⟨ret_bool Hv.out.symm,hE0.trans hE⟩
 by_cases h0:q.length=0
 · have Hv:Hid (ccF 2 g o a b s p t q n=false):=Lib.hid (by rw[Hv.out];simp[h0])
   have hq0:¬(0:Int)<((q.length:Nat):Int):=by omega
   clear h0
   go_enter Tryz.func35,Tryz.ntmps35
   go_wp2_with fail
   rw[←Hwb.out,←Hwc.out]
   have kA7x:=A7 _ hE
   have kA8x:=A8 _ hE
   go_wp2_with fail
   refine (cM _ hE).mono ?_
   rintro e w' ⟨⟨vm,rfl⟩,hE'⟩
   replace hE:=hE.trans hE'
   clear hE'
   clear kA7x kA8x
   have kG0x:=G0 _ hE
   have kA7x:=A7 _ hE
   go_wp2_with fail
   refine (cA _ hE).mono ?_
   rintro e w' ⟨rfl,hE'⟩
   replace hE:=hE.trans hE'
   clear hE'
   clear kG0x kA7x
   have kA8x:=A8 _ hE
   go_wp2_with fail
   go_ret
   exact⟨ret_bool Hv.out.symm,hE0.trans hE⟩
 · have Hv:Hid (ccF 2 g o a b s p t q n=x2):=Lib.hid (by rw[Hv.out];simp[h0])
   have hq0:(0:Int)<((q.length:Nat):Int):=by omega
   clear h0
   go_enter Tryz.func35,Tryz.ntmps35
   go_wp2_with fail
   rw[←Hwb.out,←Hwc.out]
   have kA7x:=A7 _ hE
   have kA8x:=A8 _ hE
   go_wp2_with fail
   refine (cM _ hE).mono ?_
   rintro e w' ⟨⟨vm,rfl⟩,hE'⟩
   replace hE:=hE.trans hE'
   clear hE'
   clear kA7x kA8x
   have kG0x:=G0 _ hE
   have kA7x:=A7 _ hE
   go_wp2_with fail
   refine (cA _ hE).mono ?_
   rintro e w' ⟨rfl,hE'⟩
   replace hE:=hE.trans hE'
   clear hE'
   clear kG0x kA7x
   have kG0x:=G0 _ hE
   have kA8x:=A8 _ hE
   go_wp2_with fail
   refine (cB _ hE).mono ?_
   rintro e w' ⟨rfl,hE'⟩
   replace hE:=hE.trans hE'
   clear hE'
   go_wp2_with fail
   go_ret
   exact⟨ret_bool Hv.out.symm,hE0.trans hE⟩
theorem sCheckClaim_3(a b s p n:Int)(g o t q:List Int)(v1 v2 v3 v4:Value)(w:World)(h:Ints4 w v1 v2 v3 v4 g o t q) :
 Calls Tryz.prog 35 #[CV 3 v1 v2 a b s p v3 v4 n] w fun e w'=>e=.returned (.bool (ccF 3 g o a b s p t q n))∧Ext w w':=by
 unfold CV
 have hop1:=h.g.op
 obtain⟨ao1,k1,-,rfl,hln1,-,-⟩:=hop1
 have hop2:=h.o.op
 obtain⟨ao2,k2,-,rfl,hln2,-,-⟩:=hop2
 have hop3:=h.t.op
 obtain⟨ao3,k3,-,rfl,hln3,-,-⟩:=hop3
 have hop4:=h.q.op
 obtain⟨ao4,k4,-,rfl,hln4,-,-⟩:=hop4
 obtain⟨wb,hwb⟩:∃wb,wb=w.alloc (.cells #[.int .i64 3,.slice ao1 g.length k1,.slice ao2 o.length k2,.int .i64 a,.int .i64 b,.int .i64 s,.int .i64 p,.slice ao3 t.length k3,.slice ao4 q.length k4,.int .i64 n] 38):=⟨_,rfl⟩
 have hE0:Ext w wb:=by rw[hwb];exact (Ext.refl _).alloc _
 have B0:Blk wb w.heap.size 38 #[.int .i64 3,.slice ao1 g.length k1,.slice ao2 o.length k2,.int .i64 a,.int .i64 b,.int .i64 s,.int .i64 p,.slice ao3 t.length k3,.slice ao4 q.length k4,.int .i64 n]:=by rw[hwb];exact Blk.new _ _ _
 have Hsz:Hid (wb.heap.size=w.heap.size+1):=Lib.hid (by rw[hwb];simp)
 obtain⟨wc,hwc⟩:∃wc,wc=wb.alloc (.cells #[.slice ao1 g.length k1] 27):=⟨_,rfl⟩
 have hbc:Ext wb wc:=by rw[hwc];exact (Ext.refl _).alloc _
 have G0:∀W,Ext wc W→W.cell? ⟨w.heap.size+1,0,none⟩=some (.slice ao1 g.length k1):=by rw[hwc,←Hsz.out];exact box_cell wb _ _
 have A0:∀W,Ext wc W→W.cell? ⟨w.heap.size,0,none⟩=some (.int .i64 3):=fun W hW=>(B0.ext (hbc.trans hW)).cell (i:=0) (v:=.int .i64 3) rfl
 have A1:∀W,Ext wc W→W.cell? ⟨w.heap.size,1,none⟩=some (.slice ao1 g.length k1):=fun W hW=>(B0.ext (hbc.trans hW)).cell (i:=1) (v:=.slice ao1 g.length k1) rfl
 have A2:∀W,Ext wc W→W.cell? ⟨w.heap.size,2,none⟩=some (.slice ao2 o.length k2):=fun W hW=>(B0.ext (hbc.trans hW)).cell (i:=2) (v:=.slice ao2 o.length k2) rfl
 have A3:∀W,Ext wc W→W.cell? ⟨w.heap.size,3,none⟩=some (.int .i64 a):=fun W hW=>(B0.ext (hbc.trans hW)).cell (i:=3) (v:=.int .i64 a) rfl
 have A4:∀W,Ext wc W→W.cell? ⟨w.heap.size,4,none⟩=some (.int .i64 b):=fun W hW=>(B0.ext (hbc.trans hW)).cell (i:=4) (v:=.int .i64 b) rfl
 have A5:∀W,Ext wc W→W.cell? ⟨w.heap.size,5,none⟩=some (.int .i64 s):=fun W hW=>(B0.ext (hbc.trans hW)).cell (i:=5) (v:=.int .i64 s) rfl
 have A6:∀W,Ext wc W→W.cell? ⟨w.heap.size,6,none⟩=some (.int .i64 p):=fun W hW=>(B0.ext (hbc.trans hW)).cell (i:=6) (v:=.int .i64 p) rfl
 have A7:∀W,Ext wc W→W.cell? ⟨w.heap.size,7,none⟩=some (.slice ao3 t.length k3):=fun W hW=>(B0.ext (hbc.trans hW)).cell (i:=7) (v:=.slice ao3 t.length k3) rfl
 have A8:∀W,Ext wc W→W.cell? ⟨w.heap.size,8,none⟩=some (.slice ao4 q.length k4):=fun W hW=>(B0.ext (hbc.trans hW)).cell (i:=8) (v:=.slice ao4 q.length k4) rfl
 have A9:∀W,Ext wc W→W.cell? ⟨w.heap.size,9,none⟩=some (.int .i64 n):=fun W hW=>(B0.ext (hbc.trans hW)).cell (i:=9) (v:=.int .i64 n) rfl
 have HI:Hid (∀W,Ext wc W→Ints4 W (.slice ao1 g.length k1) (.slice ao2 o.length k2) (.slice ao3 t.length k3) (.slice ao4 q.length k4) g o t q):=Lib.hid fun W hW=>h.ext ((hE0.trans hbc).trans hW)
 replace hE0:=hE0.trans hbc
 have hE:=Ext.refl wc
 have Hwb:=Lib.hid hwb
 have Hwc:=Lib.hid hwc
 clear hwb hwc h B0 hbc
 have Hv:Hid (ccF 3 g o a b s p t q n=zfB g t):=Lib.hid rfl
 go_enter Tryz.func35,Tryz.ntmps35
 go_wp2_with fail
 rw[←Hwb.out,←Hwc.out]
 have kG0x:=G0 _ hE
 have kA3x:=A3 _ hE
 have kA4x:=A4 _ hE
 have kA7x:=A7 _ hE
 have kA9x:=A9 _ hE
 go_wp2_with fail
 refine (sIsZeroFree_any (.slice ao1 g.length k1) (.slice ao3 t.length k3) g t _ (HI.out _ hE).g (HI.out _ hE).t).mono ?_
 rintro e w' ⟨rfl,hE'⟩
 replace hE:=hE.trans hE'
 clear hE'
 go_wp2_with fail
 go_ret
 exact⟨ret_bool Hv.out.symm,hE0.trans hE⟩
theorem sCheckClaim_4(a b s p n:Int)(g o t q:List Int)(v1 v2 v3 v4:Value)(w:World)(h:Ints4 w v1 v2 v3 v4 g o t q) :
 Calls Tryz.prog 35 #[CV 4 v1 v2 a b s p v3 v4 n] w fun e w'=>e=.returned (.bool (ccF 4 g o a b s p t q n))∧Ext w w':=by
 unfold CV
 have hop1:=h.g.op
 obtain⟨ao1,k1,-,rfl,hln1,-,-⟩:=hop1
 have hop2:=h.o.op
 obtain⟨ao2,k2,-,rfl,hln2,-,-⟩:=hop2
 have hop3:=h.t.op
 obtain⟨ao3,k3,-,rfl,hln3,-,-⟩:=hop3
 have hop4:=h.q.op
 obtain⟨ao4,k4,-,rfl,hln4,-,-⟩:=hop4
 obtain⟨wb,hwb⟩:∃wb,wb=w.alloc (.cells #[.int .i64 4,.slice ao1 g.length k1,.slice ao2 o.length k2,.int .i64 a,.int .i64 b,.int .i64 s,.int .i64 p,.slice ao3 t.length k3,.slice ao4 q.length k4,.int .i64 n] 38):=⟨_,rfl⟩
 have hE0:Ext w wb:=by rw[hwb];exact (Ext.refl _).alloc _
 have B0:Blk wb w.heap.size 38 #[.int .i64 4,.slice ao1 g.length k1,.slice ao2 o.length k2,.int .i64 a,.int .i64 b,.int .i64 s,.int .i64 p,.slice ao3 t.length k3,.slice ao4 q.length k4,.int .i64 n]:=by rw[hwb];exact Blk.new _ _ _
 have Hsz:Hid (wb.heap.size=w.heap.size+1):=Lib.hid (by rw[hwb];simp)
 obtain⟨wc,hwc⟩:∃wc,wc=wb.alloc (.cells #[.slice ao1 g.length k1] 27):=⟨_,rfl⟩
 have hbc:Ext wb wc:=by rw[hwc];exact (Ext.refl _).alloc _
 have G0:∀W,Ext wc W→W.cell? ⟨w.heap.size+1,0,none⟩=some (.slice ao1 g.length k1):=by rw[hwc,←Hsz.out];exact box_cell wb _ _
 have A0:∀W,Ext wc W→W.cell? ⟨w.heap.size,0,none⟩=some (.int .i64 4):=fun W hW=>(B0.ext (hbc.trans hW)).cell (i:=0) (v:=.int .i64 4) rfl
 have A1:∀W,Ext wc W→W.cell? ⟨w.heap.size,1,none⟩=some (.slice ao1 g.length k1):=fun W hW=>(B0.ext (hbc.trans hW)).cell (i:=1) (v:=.slice ao1 g.length k1) rfl
 have A2:∀W,Ext wc W→W.cell? ⟨w.heap.size,2,none⟩=some (.slice ao2 o.length k2):=fun W hW=>(B0.ext (hbc.trans hW)).cell (i:=2) (v:=.slice ao2 o.length k2) rfl
 have A3:∀W,Ext wc W→W.cell? ⟨w.heap.size,3,none⟩=some (.int .i64 a):=fun W hW=>(B0.ext (hbc.trans hW)).cell (i:=3) (v:=.int .i64 a) rfl
 have A4:∀W,Ext wc W→W.cell? ⟨w.heap.size,4,none⟩=some (.int .i64 b):=fun W hW=>(B0.ext (hbc.trans hW)).cell (i:=4) (v:=.int .i64 b) rfl
 have A5:∀W,Ext wc W→W.cell? ⟨w.heap.size,5,none⟩=some (.int .i64 s):=fun W hW=>(B0.ext (hbc.trans hW)).cell (i:=5) (v:=.int .i64 s) rfl
 have A6:∀W,Ext wc W→W.cell? ⟨w.heap.size,6,none⟩=some (.int .i64 p):=fun W hW=>(B0.ext (hbc.trans hW)).cell (i:=6) (v:=.int .i64 p) rfl
 have A7:∀W,Ext wc W→W.cell? ⟨w.heap.size,7,none⟩=some (.slice ao3 t.length k3):=fun W hW=>(B0.ext (hbc.trans hW)).cell (i:=7) (v:=.slice ao3 t.length k3) rfl
 have A8:∀W,Ext wc W→W.cell? ⟨w.heap.size,8,none⟩=some (.slice ao4 q.length k4):=fun W hW=>(B0.ext (hbc.trans hW)).cell (i:=8) (v:=.slice ao4 q.length k4) rfl
 have A9:∀W,Ext wc W→W.cell? ⟨w.heap.size,9,none⟩=some (.int .i64 n):=fun W hW=>(B0.ext (hbc.trans hW)).cell (i:=9) (v:=.int .i64 n) rfl
 have HI:Hid (∀W,Ext wc W→Ints4 W (.slice ao1 g.length k1) (.slice ao2 o.length k2) (.slice ao3 t.length k3) (.slice ao4 q.length k4) g o t q):=Lib.hid fun W hW=>h.ext ((hE0.trans hbc).trans hW)
 replace hE0:=hE0.trans hbc
 have hE:=Ext.refl wc
 have Hwb:=Lib.hid hwb
 have Hwc:=Lib.hid hwc
 clear hwb hwc h B0 hbc
 have Hv:Hid (ccF 4 g o a b s p t q n=tilF g a b):=Lib.hid rfl
 go_enter Tryz.func35,Tryz.ntmps35
 go_wp2_with fail
 rw[←Hwb.out,←Hwc.out]
 have kG0x:=G0 _ hE
 have kA3x:=A3 _ hE
 have kA4x:=A4 _ hE
 have kA7x:=A7 _ hE
 have kA9x:=A9 _ hE
 go_wp2_with fail
 refine (sIsTiling_any (.slice ao1 g.length k1) g a b _ (HI.out _ hE).g).mono ?_
 rintro e w' ⟨rfl,hE'⟩
 replace hE:=hE.trans hE'
 clear hE'
 go_wp2_with fail
 go_ret
 exact⟨ret_bool Hv.out.symm,hE0.trans hE⟩
theorem sCheckClaim_5(a b s p n:Int)(g o t q:List Int)(v1 v2 v3 v4:Value)(w:World)(h:Ints4 w v1 v2 v3 v4 g o t q) :
 Calls Tryz.prog 35 #[CV 5 v1 v2 a b s p v3 v4 n] w fun e w'=>e=.returned (.bool (ccF 5 g o a b s p t q n))∧Ext w w':=by
 unfold CV
 have hop1:=h.g.op
 obtain⟨ao1,k1,-,rfl,hln1,-,-⟩:=hop1
 have hop2:=h.o.op
 obtain⟨ao2,k2,-,rfl,hln2,-,-⟩:=hop2
 have hop3:=h.t.op
 obtain⟨ao3,k3,-,rfl,hln3,-,-⟩:=hop3
 have hop4:=h.q.op
 obtain⟨ao4,k4,-,rfl,hln4,-,-⟩:=hop4
 obtain⟨wb,hwb⟩:∃wb,wb=w.alloc (.cells #[.int .i64 5,.slice ao1 g.length k1,.slice ao2 o.length k2,.int .i64 a,.int .i64 b,.int .i64 s,.int .i64 p,.slice ao3 t.length k3,.slice ao4 q.length k4,.int .i64 n] 38):=⟨_,rfl⟩
 have hE0:Ext w wb:=by rw[hwb];exact (Ext.refl _).alloc _
 have B0:Blk wb w.heap.size 38 #[.int .i64 5,.slice ao1 g.length k1,.slice ao2 o.length k2,.int .i64 a,.int .i64 b,.int .i64 s,.int .i64 p,.slice ao3 t.length k3,.slice ao4 q.length k4,.int .i64 n]:=by rw[hwb];exact Blk.new _ _ _
 have Hsz:Hid (wb.heap.size=w.heap.size+1):=Lib.hid (by rw[hwb];simp)
 obtain⟨wc,hwc⟩:∃wc,wc=wb.alloc (.cells #[.slice ao1 g.length k1] 27):=⟨_,rfl⟩
 have hbc:Ext wb wc:=by rw[hwc];exact (Ext.refl _).alloc _
 have G0:∀W,Ext wc W→W.cell? ⟨w.heap.size+1,0,none⟩=some (.slice ao1 g.length k1):=by rw[hwc,←Hsz.out];exact box_cell wb _ _
 have A0:∀W,Ext wc W→W.cell? ⟨w.heap.size,0,none⟩=some (.int .i64 5):=fun W hW=>(B0.ext (hbc.trans hW)).cell (i:=0) (v:=.int .i64 5) rfl
 have A1:∀W,Ext wc W→W.cell? ⟨w.heap.size,1,none⟩=some (.slice ao1 g.length k1):=fun W hW=>(B0.ext (hbc.trans hW)).cell (i:=1) (v:=.slice ao1 g.length k1) rfl
 have A2:∀W,Ext wc W→W.cell? ⟨w.heap.size,2,none⟩=some (.slice ao2 o.length k2):=fun W hW=>(B0.ext (hbc.trans hW)).cell (i:=2) (v:=.slice ao2 o.length k2) rfl
 have A3:∀W,Ext wc W→W.cell? ⟨w.heap.size,3,none⟩=some (.int .i64 a):=fun W hW=>(B0.ext (hbc.trans hW)).cell (i:=3) (v:=.int .i64 a) rfl
 have A4:∀W,Ext wc W→W.cell? ⟨w.heap.size,4,none⟩=some (.int .i64 b):=fun W hW=>(B0.ext (hbc.trans hW)).cell (i:=4) (v:=.int .i64 b) rfl
 have A5:∀W,Ext wc W→W.cell? ⟨w.heap.size,5,none⟩=some (.int .i64 s):=fun W hW=>(B0.ext (hbc.trans hW)).cell (i:=5) (v:=.int .i64 s) rfl
 have A6:∀W,Ext wc W→W.cell? ⟨w.heap.size,6,none⟩=some (.int .i64 p):=fun W hW=>(B0.ext (hbc.trans hW)).cell (i:=6) (v:=.int .i64 p) rfl
 have A7:∀W,Ext wc W→W.cell? ⟨w.heap.size,7,none⟩=some (.slice ao3 t.length k3):=fun W hW=>(B0.ext (hbc.trans hW)).cell (i:=7) (v:=.slice ao3 t.length k3) rfl
 have A8:∀W,Ext wc W→W.cell? ⟨w.heap.size,8,none⟩=some (.slice ao4 q.length k4):=fun W hW=>(B0.ext (hbc.trans hW)).cell (i:=8) (v:=.slice ao4 q.length k4) rfl
 have A9:∀W,Ext wc W→W.cell? ⟨w.heap.size,9,none⟩=some (.int .i64 n):=fun W hW=>(B0.ext (hbc.trans hW)).cell (i:=9) (v:=.int .i64 n) rfl
 have HI:Hid (∀W,Ext wc W→Ints4 W (.slice ao1 g.length k1) (.slice ao2 o.length k2) (.slice ao3 t.length k3) (.slice ao4 q.length k4) g o t q):=Lib.hid fun W hW=>h.ext ((hE0.trans hbc).trans hW)
 replace hE0:=hE0.trans hbc
 have hE:=Ext.refl wc
 have Hwb:=Lib.hid hwb
 have Hwc:=Lib.hid hwc
 clear hwb hwc h B0 hbc
 have cA:=fun W (hW:Ext wc W)=>sSetOf_any (.slice ao1 g.length k1) g (.slice ao3 t.length k3) t W (HI.out W hW).g (HI.out W hW).t
 have cB:=fun W (hW:Ext wc W)=>sSetOf_any (.slice ao2 o.length k2) o (.slice ao4 q.length k4) q W (HI.out W hW).o (HI.out W hW).q
 have cI:=fun W (hW:Ext wc W)=>sIso_any (.slice ao1 g.length k1) (.slice ao2 o.length k2) g o (.slice ao3 t.length k3) (.slice ao4 q.length k4) t q W (HI.out W hW).g (HI.out W hW).o (HI.out W hW).t (HI.out W hW).q
 obtain⟨x1,hx1⟩:∃x,x=soB g t:=⟨_,rfl⟩
 obtain⟨x2,hx2⟩:∃x,x=soB o q:=⟨_,rfl⟩
 obtain⟨y1,hy1⟩:∃x,x=soV g t:=⟨_,rfl⟩
 obtain⟨y2,hy2⟩:∃x,x=soV o q:=⟨_,rfl⟩
 obtain⟨z,hz⟩:∃x,x=isoF g o t q:=⟨_,rfl⟩
 have Hv:Hid (ccF 5 g o a b s p t q n=(x1&&x2&&(y1 == a)&&(y2 == b)&&z)):=Lib.hid (by rw[hx1,hx2,hy1,hy2,hz];rfl)
 rw[←hx1,←hy1] at cA
 rw[←hx2,←hy2] at cB
 rw[←hz] at cI
 clear hx1 hx2 hy1 hy2 hz
 cases x1
 · have Hv:=Hv
   go_enter Tryz.func35,Tryz.ntmps35
   go_wp2_with fail
   rw[←Hwb.out,←Hwc.out]
   have kG0x:=G0 _ hE
   have kA7x:=A7 _ hE
   go_wp2_with fail
   refine (cA _ hE).mono ?_
   rintro e w' ⟨rfl,hE'⟩
   replace hE:=hE.trans hE'
   clear hE'
   clear kG0x kA7x
   have kA2x:=A2 _ hE
   have kA8x:=A8 _ hE
   go_wp2_with fail
   refine (cB _ hE).mono ?_
   rintro e w' ⟨rfl,hE'⟩
   replace hE:=hE.trans hE'
   clear hE'
   clear kA2x kA8x
   go_wp2_with fail
   go_ret
   exact⟨ret_bool Hv.out.symm,hE0.trans hE⟩
 cases x2
 · have Hv:=Hv
   go_enter Tryz.func35,Tryz.ntmps35
   go_wp2_with fail
   rw[←Hwb.out,←Hwc.out]
   have kG0x:=G0 _ hE
   have kA7x:=A7 _ hE
   go_wp2_with fail
   refine (cA _ hE).mono ?_
   rintro e w' ⟨rfl,hE'⟩
   replace hE:=hE.trans hE'
   clear hE'
   clear kG0x kA7x
   have kA2x:=A2 _ hE
   have kA8x:=A8 _ hE
   go_wp2_with fail
   refine (cB _ hE).mono ?_
   rintro e w' ⟨rfl,hE'⟩
   replace hE:=hE.trans hE'
   clear hE'
   clear kA2x kA8x
   go_wp2_with fail
   go_ret
   exact⟨ret_bool Hv.out.symm,hE0.trans hE⟩
 cases e1:(y1 == a)
 · rw[e1] at Hv
   go_enter Tryz.func35,Tryz.ntmps35
   go_wp2_with fail
   rw[←Hwb.out,←Hwc.out]
   have kG0x:=G0 _ hE
   have kA7x:=A7 _ hE
   go_wp2_with fail
   refine (cA _ hE).mono ?_
   rintro e w' ⟨rfl,hE'⟩
   replace hE:=hE.trans hE'
   clear hE'
   clear kG0x kA7x
   have kA2x:=A2 _ hE
   have kA8x:=A8 _ hE
   go_wp2_with fail
   refine (cB _ hE).mono ?_
   rintro e w' ⟨rfl,hE'⟩
   replace hE:=hE.trans hE'
   clear hE'
   clear kA2x kA8x
   have kA3x:=A3 _ hE
   go_wp2_with fail
   go_ret
   exact⟨ret_bool Hv.out.symm,hE0.trans hE⟩
 rw[e1] at Hv
 cases e2:(y2 == b)
 · rw[e2] at Hv
   go_enter Tryz.func35,Tryz.ntmps35
   go_wp2_with fail
   rw[←Hwb.out,←Hwc.out]
   have kG0x:=G0 _ hE
   have kA7x:=A7 _ hE
   go_wp2_with fail
   refine (cA _ hE).mono ?_
   rintro e w' ⟨rfl,hE'⟩
   replace hE:=hE.trans hE'
   clear hE'
   clear kG0x kA7x
   have kA2x:=A2 _ hE
   have kA8x:=A8 _ hE
   go_wp2_with fail
   refine (cB _ hE).mono ?_
   rintro e w' ⟨rfl,hE'⟩
   replace hE:=hE.trans hE'
   clear hE'
   clear kA2x kA8x
   have kA3x:=A3 _ hE
   have kA4x:=A4 _ hE
   go_wp2_with fail
   go_ret
   exact⟨ret_bool Hv.out.symm,hE0.trans hE⟩
 · rw[e2] at Hv
   go_enter Tryz.func35,Tryz.ntmps35
   go_wp2_with fail
   rw[←Hwb.out,←Hwc.out]
   have kG0x:=G0 _ hE
   have kA7x:=A7 _ hE
   go_wp2_with fail
   refine (cA _ hE).mono ?_
   rintro e w' ⟨rfl,hE'⟩
   replace hE:=hE.trans hE'
   clear hE'
   clear kG0x kA7x
   have kA2x:=A2 _ hE
   have kA8x:=A8 _ hE
   go_wp2_with fail
   refine (cB _ hE).mono ?_
   rintro e w' ⟨rfl,hE'⟩
   replace hE:=hE.trans hE'
   clear hE'
   clear kA2x kA8x
   have kG0x:=G0 _ hE
   have kA2x:=A2 _ hE
   have kA3x:=A3 _ hE
   have kA4x:=A4 _ hE
   have kA7x:=A7 _ hE
   have kA8x:=A8 _ hE
   go_wp2_with fail
   refine (cI _ hE).mono ?_
   rintro e w' ⟨rfl,hE'⟩
   replace hE:=hE.trans hE'
   clear hE'
   go_wp2_with fail
   go_ret
   exact⟨ret_bool (by rw[Hv.out];rfl),hE0.trans hE⟩
theorem sCheckClaim_6(a b s p n:Int)(g o t q:List Int)(v1 v2 v3 v4:Value)(w:World)(h:Ints4 w v1 v2 v3 v4 g o t q) :
 Calls Tryz.prog 35 #[CV 6 v1 v2 a b s p v3 v4 n] w fun e w'=>e=.returned (.bool (ccF 6 g o a b s p t q n))∧Ext w w':=by
 unfold CV
 have hop1:=h.g.op
 obtain⟨ao1,k1,-,rfl,hln1,-,-⟩:=hop1
 have hop2:=h.o.op
 obtain⟨ao2,k2,-,rfl,hln2,-,-⟩:=hop2
 have hop3:=h.t.op
 obtain⟨ao3,k3,-,rfl,hln3,-,-⟩:=hop3
 have hop4:=h.q.op
 obtain⟨ao4,k4,-,rfl,hln4,-,-⟩:=hop4
 obtain⟨wb,hwb⟩:∃wb,wb=w.alloc (.cells #[.int .i64 6,.slice ao1 g.length k1,.slice ao2 o.length k2,.int .i64 a,.int .i64 b,.int .i64 s,.int .i64 p,.slice ao3 t.length k3,.slice ao4 q.length k4,.int .i64 n] 38):=⟨_,rfl⟩
 have hE0:Ext w wb:=by rw[hwb];exact (Ext.refl _).alloc _
 have B0:Blk wb w.heap.size 38 #[.int .i64 6,.slice ao1 g.length k1,.slice ao2 o.length k2,.int .i64 a,.int .i64 b,.int .i64 s,.int .i64 p,.slice ao3 t.length k3,.slice ao4 q.length k4,.int .i64 n]:=by rw[hwb];exact Blk.new _ _ _
 have Hsz:Hid (wb.heap.size=w.heap.size+1):=Lib.hid (by rw[hwb];simp)
 obtain⟨wc,hwc⟩:∃wc,wc=wb.alloc (.cells #[.slice ao1 g.length k1] 27):=⟨_,rfl⟩
 have hbc:Ext wb wc:=by rw[hwc];exact (Ext.refl _).alloc _
 have G0:∀W,Ext wc W→W.cell? ⟨w.heap.size+1,0,none⟩=some (.slice ao1 g.length k1):=by rw[hwc,←Hsz.out];exact box_cell wb _ _
 have A0:∀W,Ext wc W→W.cell? ⟨w.heap.size,0,none⟩=some (.int .i64 6):=fun W hW=>(B0.ext (hbc.trans hW)).cell (i:=0) (v:=.int .i64 6) rfl
 have A1:∀W,Ext wc W→W.cell? ⟨w.heap.size,1,none⟩=some (.slice ao1 g.length k1):=fun W hW=>(B0.ext (hbc.trans hW)).cell (i:=1) (v:=.slice ao1 g.length k1) rfl
 have A2:∀W,Ext wc W→W.cell? ⟨w.heap.size,2,none⟩=some (.slice ao2 o.length k2):=fun W hW=>(B0.ext (hbc.trans hW)).cell (i:=2) (v:=.slice ao2 o.length k2) rfl
 have A3:∀W,Ext wc W→W.cell? ⟨w.heap.size,3,none⟩=some (.int .i64 a):=fun W hW=>(B0.ext (hbc.trans hW)).cell (i:=3) (v:=.int .i64 a) rfl
 have A4:∀W,Ext wc W→W.cell? ⟨w.heap.size,4,none⟩=some (.int .i64 b):=fun W hW=>(B0.ext (hbc.trans hW)).cell (i:=4) (v:=.int .i64 b) rfl
 have A5:∀W,Ext wc W→W.cell? ⟨w.heap.size,5,none⟩=some (.int .i64 s):=fun W hW=>(B0.ext (hbc.trans hW)).cell (i:=5) (v:=.int .i64 s) rfl
 have A6:∀W,Ext wc W→W.cell? ⟨w.heap.size,6,none⟩=some (.int .i64 p):=fun W hW=>(B0.ext (hbc.trans hW)).cell (i:=6) (v:=.int .i64 p) rfl
 have A7:∀W,Ext wc W→W.cell? ⟨w.heap.size,7,none⟩=some (.slice ao3 t.length k3):=fun W hW=>(B0.ext (hbc.trans hW)).cell (i:=7) (v:=.slice ao3 t.length k3) rfl
 have A8:∀W,Ext wc W→W.cell? ⟨w.heap.size,8,none⟩=some (.slice ao4 q.length k4):=fun W hW=>(B0.ext (hbc.trans hW)).cell (i:=8) (v:=.slice ao4 q.length k4) rfl
 have A9:∀W,Ext wc W→W.cell? ⟨w.heap.size,9,none⟩=some (.int .i64 n):=fun W hW=>(B0.ext (hbc.trans hW)).cell (i:=9) (v:=.int .i64 n) rfl
 have HI:Hid (∀W,Ext wc W→Ints4 W (.slice ao1 g.length k1) (.slice ao2 o.length k2) (.slice ao3 t.length k3) (.slice ao4 q.length k4) g o t q):=Lib.hid fun W hW=>h.ext ((hE0.trans hbc).trans hW)
 replace hE0:=hE0.trans hbc
 have hE:=Ext.refl wc
 have Hwb:=Lib.hid hwb
 have Hwc:=Lib.hid hwc
 clear hwb hwc h B0 hbc
 have Hv:Hid (ccF 6 g o a b s p t q n=iscB t n):=Lib.hid rfl
 go_enter Tryz.func35,Tryz.ntmps35
 go_wp2_with fail
 rw[←Hwb.out,←Hwc.out]
 have kG0x:=G0 _ hE
 have kA3x:=A3 _ hE
 have kA4x:=A4 _ hE
 have kA7x:=A7 _ hE
 have kA9x:=A9 _ hE
 go_wp2_with fail
 refine (sIsSchurColoring_any (.slice ao3 t.length k3) t n _ (HI.out _ hE).t).mono ?_
 rintro e w' ⟨rfl,hE'⟩
 replace hE:=hE.trans hE'
 clear hE'
 go_wp2_with fail
 go_ret
 exact⟨ret_bool Hv.out.symm,hE0.trans hE⟩
theorem sCheckClaim_7(a b s p n:Int)(g o t q:List Int)(v1 v2 v3 v4:Value)(w:World)(h:Ints4 w v1 v2 v3 v4 g o t q) :
 Calls Tryz.prog 35 #[CV 7 v1 v2 a b s p v3 v4 n] w fun e w'=>e=.returned (.bool (ccF 7 g o a b s p t q n))∧Ext w w':=by
 unfold CV
 have hop1:=h.g.op
 obtain⟨ao1,k1,-,rfl,hln1,-,-⟩:=hop1
 have hop2:=h.o.op
 obtain⟨ao2,k2,-,rfl,hln2,-,-⟩:=hop2
 have hop3:=h.t.op
 obtain⟨ao3,k3,-,rfl,hln3,-,-⟩:=hop3
 have hop4:=h.q.op
 obtain⟨ao4,k4,-,rfl,hln4,-,-⟩:=hop4
 obtain⟨wb,hwb⟩:∃wb,wb=w.alloc (.cells #[.int .i64 7,.slice ao1 g.length k1,.slice ao2 o.length k2,.int .i64 a,.int .i64 b,.int .i64 s,.int .i64 p,.slice ao3 t.length k3,.slice ao4 q.length k4,.int .i64 n] 38):=⟨_,rfl⟩
 have hE0:Ext w wb:=by rw[hwb];exact (Ext.refl _).alloc _
 have B0:Blk wb w.heap.size 38 #[.int .i64 7,.slice ao1 g.length k1,.slice ao2 o.length k2,.int .i64 a,.int .i64 b,.int .i64 s,.int .i64 p,.slice ao3 t.length k3,.slice ao4 q.length k4,.int .i64 n]:=by rw[hwb];exact Blk.new _ _ _
 have Hsz:Hid (wb.heap.size=w.heap.size+1):=Lib.hid (by rw[hwb];simp)
 obtain⟨wc,hwc⟩:∃wc,wc=wb.alloc (.cells #[.slice ao1 g.length k1] 27):=⟨_,rfl⟩
 have hbc:Ext wb wc:=by rw[hwc];exact (Ext.refl _).alloc _
 have G0:∀W,Ext wc W→W.cell? ⟨w.heap.size+1,0,none⟩=some (.slice ao1 g.length k1):=by rw[hwc,←Hsz.out];exact box_cell wb _ _
 have A0:∀W,Ext wc W→W.cell? ⟨w.heap.size,0,none⟩=some (.int .i64 7):=fun W hW=>(B0.ext (hbc.trans hW)).cell (i:=0) (v:=.int .i64 7) rfl
 have A1:∀W,Ext wc W→W.cell? ⟨w.heap.size,1,none⟩=some (.slice ao1 g.length k1):=fun W hW=>(B0.ext (hbc.trans hW)).cell (i:=1) (v:=.slice ao1 g.length k1) rfl
 have A2:∀W,Ext wc W→W.cell? ⟨w.heap.size,2,none⟩=some (.slice ao2 o.length k2):=fun W hW=>(B0.ext (hbc.trans hW)).cell (i:=2) (v:=.slice ao2 o.length k2) rfl
 have A3:∀W,Ext wc W→W.cell? ⟨w.heap.size,3,none⟩=some (.int .i64 a):=fun W hW=>(B0.ext (hbc.trans hW)).cell (i:=3) (v:=.int .i64 a) rfl
 have A4:∀W,Ext wc W→W.cell? ⟨w.heap.size,4,none⟩=some (.int .i64 b):=fun W hW=>(B0.ext (hbc.trans hW)).cell (i:=4) (v:=.int .i64 b) rfl
 have A5:∀W,Ext wc W→W.cell? ⟨w.heap.size,5,none⟩=some (.int .i64 s):=fun W hW=>(B0.ext (hbc.trans hW)).cell (i:=5) (v:=.int .i64 s) rfl
 have A6:∀W,Ext wc W→W.cell? ⟨w.heap.size,6,none⟩=some (.int .i64 p):=fun W hW=>(B0.ext (hbc.trans hW)).cell (i:=6) (v:=.int .i64 p) rfl
 have A7:∀W,Ext wc W→W.cell? ⟨w.heap.size,7,none⟩=some (.slice ao3 t.length k3):=fun W hW=>(B0.ext (hbc.trans hW)).cell (i:=7) (v:=.slice ao3 t.length k3) rfl
 have A8:∀W,Ext wc W→W.cell? ⟨w.heap.size,8,none⟩=some (.slice ao4 q.length k4):=fun W hW=>(B0.ext (hbc.trans hW)).cell (i:=8) (v:=.slice ao4 q.length k4) rfl
 have A9:∀W,Ext wc W→W.cell? ⟨w.heap.size,9,none⟩=some (.int .i64 n):=fun W hW=>(B0.ext (hbc.trans hW)).cell (i:=9) (v:=.int .i64 n) rfl
 have HI:Hid (∀W,Ext wc W→Ints4 W (.slice ao1 g.length k1) (.slice ao2 o.length k2) (.slice ao3 t.length k3) (.slice ao4 q.length k4) g o t q):=Lib.hid fun W hW=>h.ext ((hE0.trans hbc).trans hW)
 replace hE0:=hE0.trans hbc
 have hE:=Ext.refl wc
 have Hwb:=Lib.hid hwb
 have Hwc:=Lib.hid hwc
 clear hwb hwc h B0 hbc
 have D3:=fun U=>A3 (Lat wc U) (lat_ext wc U)
 have D4:=fun U=>A4 (Lat wc U) (lat_ext wc U)
 have D5:=fun U=>A5 (Lat wc U) (lat_ext wc U)
 have D6:=fun U=>A6 (Lat wc U) (lat_ext wc U)
 have G1:=fun U=>G0 (Lat wc U) (lat_ext wc U)
 have cD:=fun U=>sIsSmallDoubling_any (.slice ao1 g.length k1) g a (Lat wc U) (HI.out _ (lat_ext wc U)).g
 cases hf:smallF g a
 · have Hv:Hid (ccF 7 g o a b s p t q n=false):=Lib.hid (by show c7F g a s p=false;unfold c7F;rw[hf];rfl)
   rw[hf] at cD
   clear hf
   go_enter Tryz.func35,Tryz.ntmps35
   go_wp2_with fail
   rw[←Hwb.out,←Hwc.out]
   (refine wp_region_lat (wc) (by kernel_rfl) (by kernel_rfl) hE ?_);(repeat (go_big_quiet_step (first | (go_at_call 122;with_reducible exact Calls.lat (cD _)))));(refine wpQuiet_nil ?_);(intro W hE');(replace hE:=lat_of hE');(clear hE')
   go_wp2_with fail
   go_ret
   exact⟨ret_bool Hv.out.symm,hE0.trans hE⟩
 rw[hf] at cD
 have hf2:=hf
 obtain⟨m,rfl,-,hm24,hgr,hset⟩:=smallF_nat hf2
 have Hgr:=Lib.hid hgr
 have hd24:=sumF_bd hgr m (oppF g m)
 have cE:=fun U=>sDifferenceOfSets_nat (.slice ao1 g.length k1) g m m (Lat wc U) (HI.out _ (lat_ext wc U)).g hset hset
 have Hv:Hid (ccF 7 g o m b s p t q n=((p == ((sumF g m (oppF g m):Nat):Int))&&subB g p&&(s == ((sumF g m p.toNat:Nat):Int))&&(((cnt s.toNat:Nat):Int) == ((cnt p.toNat:Nat):Int)))):=Lib.hid (by show c7F g m s p=_;unfold c7F;rw[hf];simp)
 obtain⟨D,hD⟩:∃D,D=sumF g m (oppF g m):=⟨_,rfl⟩
 rw[←hD] at cE Hv hd24
 clear hD hf hf2
 cases e1:(p == (D:Int))
 · rw[e1] at Hv
   go_enter Tryz.func35,Tryz.ntmps35
   go_wp2_with fail
   rw[←Hwb.out,←Hwc.out]
   (refine wp_region_lat (wc) (by kernel_rfl) (by kernel_rfl) hE ?_);(repeat (go_big_quiet_step (first | (go_at_call 122;with_reducible exact Calls.lat (cD _)) | (go_at_call 123;with_reducible exact Calls.lat (cE _)))));(refine wpQuiet_nil ?_);(intro W hE');(replace hE:=lat_of hE');(clear hE')
   go_wp2_with fail
   go_ret
   exact⟨ret_bool Hv.out.symm,hE0.trans hE⟩
 rw[e1] at Hv
 rw[beq_iff_eq] at e1
 subst e1
 have cB:=fun U=>sIsSubgroup_any (.slice ao1 g.length k1) g (D:Int) (Lat wc U) (HI.out _ (lat_ext wc U)).g
 cases e2:subB g (D:Int)
 · rw[e2] at Hv cB
   go_enter Tryz.func35,Tryz.ntmps35
   go_wp2_with fail
   rw[←Hwb.out,←Hwc.out]
   (refine wp_region_lat (wc) (by kernel_rfl) (by kernel_rfl) hE ?_);(repeat (go_big_quiet_step (first | (go_at_call 122;with_reducible exact Calls.lat (cD _)) | (go_at_call 123;with_reducible exact Calls.lat (cE _)) | (go_at_call 124;with_reducible exact Calls.lat (cB _)))));(refine wpQuiet_nil ?_);(intro W hE');(replace hE:=lat_of hE');(clear hE')
   go_wp2_with fail
   go_ret
   exact⟨ret_bool Hv.out.symm,hE0.trans hE⟩
 rw[e2] at Hv cB
 rw[show ((D:Int)).toNat=D by omega] at Hv
 have hs24:=sumF_bd hgr m D
 have cS:=fun U=>l4Sum_any (.slice ao1 g.length k1) g m D (Lat wc U) (HI.out _ (lat_ext wc U)).g Hgr hm24 hd24
 obtain⟨S,hS⟩:∃S,S=sumF g m D:=⟨_,rfl⟩
 rw[←hS] at cS Hv hs24
 clear hS hgr e2
 cases e3:(s == (S:Int))
 · rw[e3] at Hv
   go_enter Tryz.func35,Tryz.ntmps35
   go_wp2_with fail
   rw[←Hwb.out,←Hwc.out]
   (refine wp_region_lat (wc) (by kernel_rfl) (by kernel_rfl) hE ?_);(repeat (go_big_quiet_step (first | (go_at_call 122;with_reducible exact Calls.lat (cD _)) | (go_at_call 123;with_reducible exact Calls.lat (cE _)) | (go_at_call 124;with_reducible exact Calls.lat (cB _)) | (go_at_call 84;with_reducible exact Calls.lat (cS _)))));(refine wpQuiet_nil ?_);(intro W hE');(replace hE:=lat_of hE');(clear hE')
   go_wp2_with fail
   go_ret
   exact⟨ret_bool Hv.out.symm,hE0.trans hE⟩
 rw[e3] at Hv
 rw[beq_iff_eq] at e3
 subst e3
 rw[show ((S:Int)).toNat=S by omega] at Hv
 have cX:=fun W=>l3Bits_any S hs24 W
 have cY:=fun W=>l3Bits_any D hd24 W
 cases e4:(((cnt S:Nat):Int) == ((cnt D:Nat):Int))
 all_goals
  rw[e4] at Hv
  go_enter Tryz.func35,Tryz.ntmps35
  go_wp2_with fail
  rw[←Hwb.out,←Hwc.out]
  (refine wp_region_lat (wc) (by kernel_rfl) (by kernel_rfl) hE ?_);(repeat (go_big_quiet_step (first | (go_at_call 122;with_reducible exact Calls.lat (cD _)) | (go_at_call 123;with_reducible exact Calls.lat (cE _)) | (go_at_call 124;with_reducible exact Calls.lat (cB _)) | (go_at_call 84;with_reducible exact Calls.lat (cS _)) | (go_at_call 125;first | with_reducible exact Calls.lat_same (cX _) | with_reducible exact Calls.lat_same (cY _)))));(refine wpQuiet_nil ?_);(intro W hE');(replace hE:=lat_of hE');(clear hE')
  go_wp2_with fail
  go_ret
  exact⟨ret_bool Hv.out.symm,hE0.trans hE⟩
theorem sCheckClaim_x(k a b s p n:Int)(g o t q:List Int)(v1 v2 v3 v4:Value)(w:World)(h:Ints4 w v1 v2 v3 v4 g o t q)(hk:¬(1≤k∧k≤7)) :
 Calls Tryz.prog 35 #[CV k v1 v2 a b s p v3 v4 n] w fun e w'=>e=.returned (.bool (ccF k g o a b s p t q n))∧Ext w w':=by
 unfold CV
 have hop1:=h.g.op
 obtain⟨ao1,k1,-,rfl,hln1,-,-⟩:=hop1
 have hop2:=h.o.op
 obtain⟨ao2,k2,-,rfl,hln2,-,-⟩:=hop2
 have hop3:=h.t.op
 obtain⟨ao3,k3,-,rfl,hln3,-,-⟩:=hop3
 have hop4:=h.q.op
 obtain⟨ao4,k4,-,rfl,hln4,-,-⟩:=hop4
 obtain⟨wb,hwb⟩:∃wb,wb=w.alloc (.cells #[.int .i64 k,.slice ao1 g.length k1,.slice ao2 o.length k2,.int .i64 a,.int .i64 b,.int .i64 s,.int .i64 p,.slice ao3 t.length k3,.slice ao4 q.length k4,.int .i64 n] 38):=⟨_,rfl⟩
 have hE0:Ext w wb:=by rw[hwb];exact (Ext.refl _).alloc _
 have B0:Blk wb w.heap.size 38 #[.int .i64 k,.slice ao1 g.length k1,.slice ao2 o.length k2,.int .i64 a,.int .i64 b,.int .i64 s,.int .i64 p,.slice ao3 t.length k3,.slice ao4 q.length k4,.int .i64 n]:=by rw[hwb];exact Blk.new _ _ _
 have Hsz:Hid (wb.heap.size=w.heap.size+1):=Lib.hid (by rw[hwb];simp)
 obtain⟨wc,hwc⟩:∃wc,wc=wb.alloc (.cells #[.slice ao1 g.length k1] 27):=⟨_,rfl⟩
 have hbc:Ext wb wc:=by rw[hwc];exact (Ext.refl _).alloc _
 have G0:∀W,Ext wc W→W.cell? ⟨w.heap.size+1,0,none⟩=some (.slice ao1 g.length k1):=by rw[hwc,←Hsz.out];exact box_cell wb _ _
 have A0:∀W,Ext wc W→W.cell? ⟨w.heap.size,0,none⟩=some (.int .i64 k):=fun W hW=>(B0.ext (hbc.trans hW)).cell (i:=0) (v:=.int .i64 k) rfl
 have A1:∀W,Ext wc W→W.cell? ⟨w.heap.size,1,none⟩=some (.slice ao1 g.length k1):=fun W hW=>(B0.ext (hbc.trans hW)).cell (i:=1) (v:=.slice ao1 g.length k1) rfl
 have A2:∀W,Ext wc W→W.cell? ⟨w.heap.size,2,none⟩=some (.slice ao2 o.length k2):=fun W hW=>(B0.ext (hbc.trans hW)).cell (i:=2) (v:=.slice ao2 o.length k2) rfl
 have A3:∀W,Ext wc W→W.cell? ⟨w.heap.size,3,none⟩=some (.int .i64 a):=fun W hW=>(B0.ext (hbc.trans hW)).cell (i:=3) (v:=.int .i64 a) rfl
 have A4:∀W,Ext wc W→W.cell? ⟨w.heap.size,4,none⟩=some (.int .i64 b):=fun W hW=>(B0.ext (hbc.trans hW)).cell (i:=4) (v:=.int .i64 b) rfl
 have A5:∀W,Ext wc W→W.cell? ⟨w.heap.size,5,none⟩=some (.int .i64 s):=fun W hW=>(B0.ext (hbc.trans hW)).cell (i:=5) (v:=.int .i64 s) rfl
 have A6:∀W,Ext wc W→W.cell? ⟨w.heap.size,6,none⟩=some (.int .i64 p):=fun W hW=>(B0.ext (hbc.trans hW)).cell (i:=6) (v:=.int .i64 p) rfl
 have A7:∀W,Ext wc W→W.cell? ⟨w.heap.size,7,none⟩=some (.slice ao3 t.length k3):=fun W hW=>(B0.ext (hbc.trans hW)).cell (i:=7) (v:=.slice ao3 t.length k3) rfl
 have A8:∀W,Ext wc W→W.cell? ⟨w.heap.size,8,none⟩=some (.slice ao4 q.length k4):=fun W hW=>(B0.ext (hbc.trans hW)).cell (i:=8) (v:=.slice ao4 q.length k4) rfl
 have A9:∀W,Ext wc W→W.cell? ⟨w.heap.size,9,none⟩=some (.int .i64 n):=fun W hW=>(B0.ext (hbc.trans hW)).cell (i:=9) (v:=.int .i64 n) rfl
 have HI:Hid (∀W,Ext wc W→Ints4 W (.slice ao1 g.length k1) (.slice ao2 o.length k2) (.slice ao3 t.length k3) (.slice ao4 q.length k4) g o t q):=Lib.hid fun W hW=>h.ext ((hE0.trans hbc).trans hW)
 replace hE0:=hE0.trans hbc
 have hE:=Ext.refl wc
 have Hwb:=Lib.hid hwb
 have Hwc:=Lib.hid hwc
 clear hwb hwc h B0 hbc
 have Hv:Hid (ccF k g o a b s p t q n=false):=Lib.hid (by unfold ccF;rw[if_neg (by omega),if_neg (by omega),if_neg (by omega),if_neg (by omega),if_neg (by omega),if_neg (by omega),if_neg (by omega)])
 have hk1:(k == 1)=false:=by rw[beq_eq_false_iff_ne];omega
 have hk2:(k == 2)=false:=by rw[beq_eq_false_iff_ne];omega
 have hk3:(k == 3)=false:=by rw[beq_eq_false_iff_ne];omega
 have hk4:(k == 4)=false:=by rw[beq_eq_false_iff_ne];omega
 have hk5:(k == 5)=false:=by rw[beq_eq_false_iff_ne];omega
 have hk6:(k == 6)=false:=by rw[beq_eq_false_iff_ne];omega
 have hk7:(k == 7)=false:=by rw[beq_eq_false_iff_ne];omega
 clear hk
 go_enter Tryz.func35,Tryz.ntmps35
 go_wp2_with fail
 rw[←Hwb.out,←Hwc.out]
 go_wp2_with fail
 go_ret
 exact⟨ret_bool Hv.out.symm,hE0.trans hE⟩
theorem sCheckClaim_any(k a b s p n:Int)(g o t q:List Int)(v1 v2 v3 v4:Value)(w:World)(h:Ints4 w v1 v2 v3 v4 g o t q) :
 Calls Tryz.prog 35 #[CV k v1 v2 a b s p v3 v4 n] w fun e w'=>e=.returned (.bool (ccF k g o a b s p t q n))∧Ext w w':=by
 by_cases hk:1≤k∧k≤7
 · rcases (by omega:k=1∨k=2∨k=3∨k=4∨k=5∨k=6∨k=7) with rfl | rfl | rfl | rfl | rfl | rfl | rfl
   · exact sCheckClaim_1 a b s p n g o t q v1 v2 v3 v4 w h
   · exact sCheckClaim_2 a b s p n g o t q v1 v2 v3 v4 w h
   · exact sCheckClaim_3 a b s p n g o t q v1 v2 v3 v4 w h
   · exact sCheckClaim_4 a b s p n g o t q v1 v2 v3 v4 w h
   · exact sCheckClaim_5 a b s p n g o t q v1 v2 v3 v4 w h
   · exact sCheckClaim_6 a b s p n g o t q v1 v2 v3 v4 w h
   · exact sCheckClaim_7 a b s p n g o t q v1 v2 v3 v4 w h
 · exact sCheckClaim_x k a b s p n g o t q v1 v2 v3 v4 w h hk
end Go.Zz
namespace Go.Zz
open Go.RowKit Go.Proofs
set_option maxHeartbeats 9000000
set_option maxRecDepth 100000
structure ClV where
 k:Int
 g:List Int
 o:List Int
 a:Int
 b:Int
 s:Int
 p:Int
 t:List Int
 q:List Int
 n:Int
structure IsC(w:World)(c:ClV)(v1 v2 v3 v4:Value):Prop where
 g:Ints w v1 c.g
 o:Ints w v2 c.o
 t:Ints w v3 c.t
 q:Ints w v4 c.q
theorem IsC.ext{w w':World}{c:ClV}{v1 v2 v3 v4:Value}(h:IsC w c v1 v2 v3 v4)(hE:Ext w w'):IsC w' c v1 v2 v3 v4 :=
 ⟨h.g.ext hE,h.o.ext hE,h.t.ext hE,h.q.ext hE⟩
def eqC(c d:ClV):Bool:=(c.k == d.k)&&decide (c.g=d.g)&&decide (c.o=d.o)&&(c.a == d.a)&&(c.b == d.b)&&(c.s == d.s)&&(c.p == d.p)&&decide (c.t=d.t)&&decide (c.q=d.q)&&(c.n == d.n)
theorem eqC_self(c:ClV):eqC c c=true:=by simp[eqC]
end Go.Zz
