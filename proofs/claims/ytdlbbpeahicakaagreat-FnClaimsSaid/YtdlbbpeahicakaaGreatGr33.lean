/- FormatClaim of the program and of the reference. -/
import Derived.Test.YtdlbbpeahicakaaGreatGr32
import Derived.Test.YtdlbbpeahicakaaGreatGr31
set_option linter.unusedSimpArgs false
set_option linter.unusedVariables false
set_option linter.unnecessarySimpa false
namespace Go.Zz
open Go.RowKit Go.Proofs
set_option maxHeartbeats 1000000
set_option maxRecDepth 8000
theorem fsF_empty(l:List Int)(a:Int):(fsF l a).toList.isEmpty = !isSetB l a:=by
 cases h:isSetB l a
 · rw[fsF_no h,ByteArray.toList_eq];rfl
 · obtain⟨n,rfl,-,hn,-⟩:=isSetB_nat h
   rw[fsF_nat h]
   refine str_some ?_
   unfold numF
   split
   · decide
   · exact jn_some _ _ _ (by omega) fun i hi=>fmtB_some (elems_in n i hi)
theorem fgF_empty(l:List Int):(fgF l).toList.isEmpty = !isGrp l:=by
 cases h:isGrp l
 · rw[fgF_no h,ByteArray.toList_eq];rfl
 · rw[fgF_yes h]
   refine str_some ?_
   split
   · decide
   · exact jn_some _ _ _ (by omega) fun i hi=>fmtB_some (grp_in h i hi)
theorem numF_size{l:List Int}(h:∀i,i<l.length → -1≤nth l i∧nth l i<1000000000000)(hl:l.length≤40):(numF l).size≤560:=by
 unfold numF
 split
 · decide
 · have:=jn_size comma (fun i=>fmtB (nth l i)) (by decide) l.length fun i hi=>fmtB_size (h i hi)
   omega
theorem fsF_size(l:List Int)(a:Int):(fsF l a).size≤600:=by
 cases h:isSetB l a
 · rw[fsF_no h];decide
 · obtain⟨n,rfl,-,hn,-⟩:=isSetB_nat h
   rw[fsF_nat h]
   have:=numF_size (l:=castL (elems n)) (elems_in n) (by rw[castL_len];have:=elems_len n;omega)
   omega
theorem fgF_size(l:List Int):(fgF l).size≤600:=by
 cases h:isGrp l
 · rw[fgF_no h];decide
 · rw[fgF_yes h]
   have:=isGrp_len h
   split
   · decide
   · have:=jn_size ex (fun i=>fmtB (nth l i)) (by decide) l.length fun i hi=>fmtB_size (grp_in h i hi)
     omega
theorem shortF_size(l:List Int):(shortF l).size≤600:=by
 unfold shortF
 split
 · decide
 · have:=jn_size comma (clS l) (by decide) l.length fun i _=>clS_size l i
   omega
theorem cwB_size(k:Int):(cwB k).size≤6:=by
 unfold cwB
 (repeat' split)<;>decide
theorem cwB_some{k:Int}(h:1≤k∧k≤7):(cwB k).toList.isEmpty=false:=by
 rcases (by omega:k=1∨k=2∨k=3∨k=4∨k=5∨k=6∨k=7) with rfl | rfl | rfl | rfl | rfl | rfl | rfl<;>exact str_some (by decide)
theorem cwB_none{k:Int}(h:¬(1≤k∧k≤7)):cwB k=⟨#[]⟩:=by
 unfold cwB;rw[if_neg (by omega),if_neg (by omega),if_neg (by omega),if_neg (by omega),if_neg (by omega),if_neg (by omega),if_neg (by omega)]
theorem areF_three(l:List Int)(a b c:Int):areF l [a,b,c]=(isSetB l a&&(isSetB l b&&isSetB l c)):=by
 unfold areF
 cases h:isSetB l a
 · simp[h]
 · simp[h,isSetB_grp h]
theorem areF_four(l:List Int)(a b c d:Int):areF l [a,b,c,d]=(isSetB l a&&(isSetB l b&&(isSetB l c&&isSetB l d))):=by
 unfold areF
 cases h:isSetB l a
 · simp[h]
 · simp[h,isSetB_grp h]
theorem ints_three(w:World)(a b c:Int)(T:TypeId):Ints (w.alloc (.cells #[.int .i64 a,.int .i64 b,.int .i64 c] T)) (.slice (some ⟨w.heap.size,0,none⟩) 3 3) [a,b,c]:=by
 refine⟨_,3,rfl,Nat.le_refl _,by simp,fun i hi=>⟨_,rfl,?_⟩⟩
 match i,hi with
 | 0,_=>simp[go_sem,nth,Addr.add]
 | 1,_=>simp[go_sem,nth,Addr.add]
 | 2,_=>simp[go_sem,nth,Addr.add]
theorem ints_four(w:World)(a b c d:Int)(T:TypeId):Ints (w.alloc (.cells #[.int .i64 a,.int .i64 b,.int .i64 c,.int .i64 d] T)) (.slice (some ⟨w.heap.size,0,none⟩) 4 4) [a,b,c,d]:=by
 refine⟨_,4,rfl,Nat.le_refl _,by simp,fun i hi=>⟨_,rfl,?_⟩⟩
 match i,hi with
 | 0,_=>simp[go_sem,nth,Addr.add]
 | 1,_=>simp[go_sem,nth,Addr.add]
 | 2,_=>simp[go_sem,nth,Addr.add]
 | 3,_=>simp[go_sem,nth,Addr.add]
def fcF(k:Int)(g o:List Int)(a b s p:Int)(t q:List Int)(n:Int):ByteArray :=
 if k=1 then (bif areF g [a,b,s,p] then (((((((((((cwB 1)++(⟨#[32]⟩:ByteArray))++(fgF g))++(⟨#[32,124,32]⟩:ByteArray))++(fsF g a))++(⟨#[32,97,110,100,32]⟩:ByteArray))++(fsF g b))++(⟨#[32,105,115,32]⟩:ByteArray))++(fsF g s))++(⟨#[32,112,101,114,105,111,100,32]⟩:ByteArray))++(fsF g p)) else ⟨#[]⟩) else
 if k=2 then (bif isGrp g then (((((((cwB 2)++(⟨#[32]⟩:ByteArray))++(fgF g))++(⟨#[32,124,32]⟩:ByteArray))++(shortF t))++(⟨#[32,104,97,115,32]⟩:ByteArray))++(shortF q)) else ⟨#[]⟩) else
 if k=3 then (bif isGrp g then (((((cwB 3)++(⟨#[32]⟩:ByteArray))++(fgF g))++(⟨#[32,124,32]⟩:ByteArray))++(shortF t)) else ⟨#[]⟩) else
 if k=4 then (bif areF g [a,b] then (((((((cwB 4)++(⟨#[32]⟩:ByteArray))++(fgF g))++(⟨#[32,124,32]⟩:ByteArray))++(fsF g a))++(⟨#[32,97,110,100,32]⟩:ByteArray))++(fsF g b)) else ⟨#[]⟩) else
 if k=5 then (bif (isGrp g&&isGrp o) then (((((((((cwB 5)++(⟨#[32]⟩:ByteArray))++(fgF g))++(⟨#[32,124,32]⟩:ByteArray))++(shortF t))++(⟨#[32,97,115,32]⟩:ByteArray))++(fgF o))++(⟨#[32,124,32]⟩:ByteArray))++(shortF q)) else ⟨#[]⟩) else
 if k=7 then (bif areF g [a,s,p] then (((((((((cwB 7)++(⟨#[32]⟩:ByteArray))++(fgF g))++(⟨#[32,124,32]⟩:ByteArray))++(fsF g a))++(⟨#[32,105,110,32]⟩:ByteArray))++(fsF g s))++(⟨#[32,112,101,114,105,111,100,32]⟩:ByteArray))++(fsF g p)) else ⟨#[]⟩) else
 if k=6 then (((((cwB 6)++(⟨#[32]⟩:ByteArray))++(fmtB (clampF n)))++(⟨#[32,124,32]⟩:ByteArray))++(shortF t)) else ⟨#[]⟩
theorem sFormatClaim_1(a b s p n:Int)(g o t q:List Int)(v1 v2 v3 v4:Value)(w:World)(h:Ints4 w v1 v2 v3 v4 g o t q) :
 Calls Tryz.prog 46 #[CV 1 v1 v2 a b s p v3 v4 n] w fun e w'=>e=.returned (.string (fcF 1 g o a b s p t q n))∧Ext w w':=by
 unfold CV
 obtain⟨wb,hwb⟩:∃wb,wb=w.alloc (.cells #[.int .i64 1,v1,v2,.int .i64 a,.int .i64 b,.int .i64 s,.int .i64 p,v3,v4,.int .i64 n] 38):=⟨_,rfl⟩
 have hE0:Ext w wb:=by rw[hwb];exact (Ext.refl _).alloc _
 have B0:Blk wb w.heap.size 38 #[.int .i64 1,v1,v2,.int .i64 a,.int .i64 b,.int .i64 s,.int .i64 p,v3,v4,.int .i64 n]:=by rw[hwb];exact Blk.new _ _ _
 have Hsz:Hid (wb.heap.size=w.heap.size+1):=Lib.hid (by rw[hwb];simp)
 have A0:∀W,Ext wb W→W.cell? ⟨w.heap.size,0,none⟩=some (.int .i64 1):=fun W hW=>(B0.ext hW).cell (i:=0) (v:=.int .i64 1) rfl
 have A1:∀W,Ext wb W→W.cell? ⟨w.heap.size,1,none⟩=some (v1):=fun W hW=>(B0.ext hW).cell (i:=1) (v:=v1) rfl
 have A2:∀W,Ext wb W→W.cell? ⟨w.heap.size,2,none⟩=some (v2):=fun W hW=>(B0.ext hW).cell (i:=2) (v:=v2) rfl
 have A3:∀W,Ext wb W→W.cell? ⟨w.heap.size,3,none⟩=some (.int .i64 a):=fun W hW=>(B0.ext hW).cell (i:=3) (v:=.int .i64 a) rfl
 have A4:∀W,Ext wb W→W.cell? ⟨w.heap.size,4,none⟩=some (.int .i64 b):=fun W hW=>(B0.ext hW).cell (i:=4) (v:=.int .i64 b) rfl
 have A5:∀W,Ext wb W→W.cell? ⟨w.heap.size,5,none⟩=some (.int .i64 s):=fun W hW=>(B0.ext hW).cell (i:=5) (v:=.int .i64 s) rfl
 have A6:∀W,Ext wb W→W.cell? ⟨w.heap.size,6,none⟩=some (.int .i64 p):=fun W hW=>(B0.ext hW).cell (i:=6) (v:=.int .i64 p) rfl
 have A7:∀W,Ext wb W→W.cell? ⟨w.heap.size,7,none⟩=some (v3):=fun W hW=>(B0.ext hW).cell (i:=7) (v:=v3) rfl
 have A8:∀W,Ext wb W→W.cell? ⟨w.heap.size,8,none⟩=some (v4):=fun W hW=>(B0.ext hW).cell (i:=8) (v:=v4) rfl
 have A9:∀W,Ext wb W→W.cell? ⟨w.heap.size,9,none⟩=some (.int .i64 n):=fun W hW=>(B0.ext hW).cell (i:=9) (v:=.int .i64 n) rfl
 have HI:Hid (∀W,Ext wb W→Ints4 W v1 v2 v3 v4 g o t q):=Lib.hid fun W hW=>h.ext (hE0.trans hW)
 have hE:=Ext.refl wb
 have Hwb:=Lib.hid hwb
 clear hwb h B0
 have cw1:(cwB 1).size≤6:=cwB_size _
 have cg1:(fgF g).size≤600:=fgF_size g
 have cg2:(fgF o).size≤600:=fgF_size o
 have ct1:(shortF t).size≤600:=shortF_size t
 have cq1:(shortF q).size≤600:=shortF_size q
 have csa:(fsF g a).size≤600:=fsF_size g a
 have csb:(fsF g b).size≤600:=fsF_size g b
 have css:(fsF g s).size≤600:=fsF_size g s
 have csp:(fsF g p).size≤600:=fsF_size g p
 have cn1:(fmtB (clampF n)).size≤13:=fmtB_size (clampF_in n)
 obtain⟨xa,hxa⟩:∃x,x=isSetB g a:=⟨_,rfl⟩
 have ea:=fsF_empty g a
 rw[←hxa] at ea
 obtain⟨xb,hxb⟩:∃x,x=isSetB g b:=⟨_,rfl⟩
 have eb:=fsF_empty g b
 rw[←hxb] at eb
 obtain⟨xs,hxs⟩:∃x,x=isSetB g s:=⟨_,rfl⟩
 have es:=fsF_empty g s
 rw[←hxs] at es
 obtain⟨xp,hxp⟩:∃x,x=isSetB g p:=⟨_,rfl⟩
 have ep:=fsF_empty g p
 rw[←hxp] at ep
 have Hv:Hid (fcF 1 g o a b s p t q n=bif xa&&(xb&&(xs&&(xp))) then (((((((((((cwB 1)++(⟨#[32]⟩:ByteArray))++(fgF g))++(⟨#[32,124,32]⟩:ByteArray))++(fsF g a))++(⟨#[32,97,110,100,32]⟩:ByteArray))++(fsF g b))++(⟨#[32,105,115,32]⟩:ByteArray))++(fsF g s))++(⟨#[32,112,101,114,105,111,100,32]⟩:ByteArray))++(fsF g p)) else ⟨#[]⟩):=Lib.hid (by
  have e0:fcF 1 g o a b s p t q n=bif areF g [a,b,s,p] then (((((((((((cwB 1)++(⟨#[32]⟩:ByteArray))++(fgF g))++(⟨#[32,124,32]⟩:ByteArray))++(fsF g a))++(⟨#[32,97,110,100,32]⟩:ByteArray))++(fsF g b))++(⟨#[32,105,115,32]⟩:ByteArray))++(fsF g s))++(⟨#[32,112,101,114,105,111,100,32]⟩:ByteArray))++(fsF g p)) else ⟨#[]⟩:=rfl
  rw[e0,areF_four,hxa,hxb,hxs,hxp])
 clear hxa hxb hxs hxp
 cases xa<;>cases xb<;>cases xs<;>cases xp
 all_goals
  go_enter Tryz.func46,Tryz.ntmps46
  go_wp2_with fail
  rw[←Hwb.out]
  go_wp2_with (first | (go_at_call 49;refine (sClaimWord_any _ _).mono ?_;rintro e w' ⟨rfl,hE'⟩;replace hE:=hE.trans hE';clear hE') | (go_at_call 134;first | (with_reducible refine Calls.mono (sFormatGroup_any _ _ _ (HI.out _ hE).g) ?_;rintro e w' ⟨rfl,hE'⟩;replace hE:=hE.trans hE';clear hE') | (with_reducible refine Calls.mono (sFormatGroup_any _ _ _ (HI.out _ hE).o) ?_;rintro e w' ⟨rfl,hE'⟩;replace hE:=hE.trans hE';clear hE')) | (go_at_call 54;refine Calls.mono (sFormatSet_any _ _ _ _ (HI.out _ hE).g) ?_;rintro e w' ⟨rfl,hE'⟩;replace hE:=hE.trans hE';clear hE'))
  go_ret
  exact⟨ret_str Hv.out.symm,hE0.trans hE⟩
theorem sFormatClaim_2(a b s p n:Int)(g o t q:List Int)(v1 v2 v3 v4:Value)(w:World)(h:Ints4 w v1 v2 v3 v4 g o t q) :
 Calls Tryz.prog 46 #[CV 2 v1 v2 a b s p v3 v4 n] w fun e w'=>e=.returned (.string (fcF 2 g o a b s p t q n))∧Ext w w':=by
 unfold CV
 obtain⟨wb,hwb⟩:∃wb,wb=w.alloc (.cells #[.int .i64 2,v1,v2,.int .i64 a,.int .i64 b,.int .i64 s,.int .i64 p,v3,v4,.int .i64 n] 38):=⟨_,rfl⟩
 have hE0:Ext w wb:=by rw[hwb];exact (Ext.refl _).alloc _
 have B0:Blk wb w.heap.size 38 #[.int .i64 2,v1,v2,.int .i64 a,.int .i64 b,.int .i64 s,.int .i64 p,v3,v4,.int .i64 n]:=by rw[hwb];exact Blk.new _ _ _
 have Hsz:Hid (wb.heap.size=w.heap.size+1):=Lib.hid (by rw[hwb];simp)
 have A0:∀W,Ext wb W→W.cell? ⟨w.heap.size,0,none⟩=some (.int .i64 2):=fun W hW=>(B0.ext hW).cell (i:=0) (v:=.int .i64 2) rfl
 have A1:∀W,Ext wb W→W.cell? ⟨w.heap.size,1,none⟩=some (v1):=fun W hW=>(B0.ext hW).cell (i:=1) (v:=v1) rfl
 have A2:∀W,Ext wb W→W.cell? ⟨w.heap.size,2,none⟩=some (v2):=fun W hW=>(B0.ext hW).cell (i:=2) (v:=v2) rfl
 have A3:∀W,Ext wb W→W.cell? ⟨w.heap.size,3,none⟩=some (.int .i64 a):=fun W hW=>(B0.ext hW).cell (i:=3) (v:=.int .i64 a) rfl
 have A4:∀W,Ext wb W→W.cell? ⟨w.heap.size,4,none⟩=some (.int .i64 b):=fun W hW=>(B0.ext hW).cell (i:=4) (v:=.int .i64 b) rfl
 have A5:∀W,Ext wb W→W.cell? ⟨w.heap.size,5,none⟩=some (.int .i64 s):=fun W hW=>(B0.ext hW).cell (i:=5) (v:=.int .i64 s) rfl
 have A6:∀W,Ext wb W→W.cell? ⟨w.heap.size,6,none⟩=some (.int .i64 p):=fun W hW=>(B0.ext hW).cell (i:=6) (v:=.int .i64 p) rfl
 have A7:∀W,Ext wb W→W.cell? ⟨w.heap.size,7,none⟩=some (v3):=fun W hW=>(B0.ext hW).cell (i:=7) (v:=v3) rfl
 have A8:∀W,Ext wb W→W.cell? ⟨w.heap.size,8,none⟩=some (v4):=fun W hW=>(B0.ext hW).cell (i:=8) (v:=v4) rfl
 have A9:∀W,Ext wb W→W.cell? ⟨w.heap.size,9,none⟩=some (.int .i64 n):=fun W hW=>(B0.ext hW).cell (i:=9) (v:=.int .i64 n) rfl
 have HI:Hid (∀W,Ext wb W→Ints4 W v1 v2 v3 v4 g o t q):=Lib.hid fun W hW=>h.ext (hE0.trans hW)
 have hE:=Ext.refl wb
 have Hwb:=Lib.hid hwb
 clear hwb h B0
 have cw1:(cwB 2).size≤6:=cwB_size _
 have cg1:(fgF g).size≤600:=fgF_size g
 have cg2:(fgF o).size≤600:=fgF_size o
 have ct1:(shortF t).size≤600:=shortF_size t
 have cq1:(shortF q).size≤600:=shortF_size q
 have csa:(fsF g a).size≤600:=fsF_size g a
 have csb:(fsF g b).size≤600:=fsF_size g b
 have css:(fsF g s).size≤600:=fsF_size g s
 have csp:(fsF g p).size≤600:=fsF_size g p
 have cn1:(fmtB (clampF n)).size≤13:=fmtB_size (clampF_in n)
 obtain⟨xg,hxg⟩:∃x,x=isGrp g:=⟨_,rfl⟩
 have eg:=fgF_empty g
 rw[←hxg] at eg
 have Hv:Hid (fcF 2 g o a b s p t q n=bif xg then (((((((cwB 2)++(⟨#[32]⟩:ByteArray))++(fgF g))++(⟨#[32,124,32]⟩:ByteArray))++(shortF t))++(⟨#[32,104,97,115,32]⟩:ByteArray))++(shortF q)) else ⟨#[]⟩):=Lib.hid (by
  have e0:fcF 2 g o a b s p t q n=bif isGrp g then (((((((cwB 2)++(⟨#[32]⟩:ByteArray))++(fgF g))++(⟨#[32,124,32]⟩:ByteArray))++(shortF t))++(⟨#[32,104,97,115,32]⟩:ByteArray))++(shortF q)) else ⟨#[]⟩:=rfl
  rw[e0,hxg])
 clear hxg
 cases xg
 · go_enter Tryz.func46,Tryz.ntmps46
   go_wp2_with fail
   rw[←Hwb.out]
   go_wp2_with (first | (go_at_call 49;refine (sClaimWord_any _ _).mono ?_;rintro e w' ⟨rfl,hE'⟩;replace hE:=hE.trans hE';clear hE') | (go_at_call 134;first | (with_reducible refine Calls.mono (sFormatGroup_any _ _ _ (HI.out _ hE).g) ?_;rintro e w' ⟨rfl,hE'⟩;replace hE:=hE.trans hE';clear hE') | (with_reducible refine Calls.mono (sFormatGroup_any _ _ _ (HI.out _ hE).o) ?_;rintro e w' ⟨rfl,hE'⟩;replace hE:=hE.trans hE';clear hE')) | (go_at_call 54;refine Calls.mono (sFormatSet_any _ _ _ _ (HI.out _ hE).g) ?_;rintro e w' ⟨rfl,hE'⟩;replace hE:=hE.trans hE';clear hE'))
   go_ret
   exact⟨ret_str Hv.out.symm,hE0.trans hE⟩
 go_enter Tryz.func46,Tryz.ntmps46
 go_wp2_with fail
 rw[←Hwb.out]
 go_wp2_with (first | (go_at_call 49;refine (sClaimWord_any _ _).mono ?_;rintro e w' ⟨rfl,hE'⟩;replace hE:=hE.trans hE';clear hE') | (go_at_call 134;first | (with_reducible refine Calls.mono (sFormatGroup_any _ _ _ (HI.out _ hE).g) ?_;rintro e w' ⟨rfl,hE'⟩;replace hE:=hE.trans hE';clear hE') | (with_reducible refine Calls.mono (sFormatGroup_any _ _ _ (HI.out _ hE).o) ?_;rintro e w' ⟨rfl,hE'⟩;replace hE:=hE.trans hE';clear hE')) | (go_at_call 54;refine Calls.mono (sFormatSet_any _ _ _ _ (HI.out _ hE).g) ?_;rintro e w' ⟨rfl,hE'⟩;replace hE:=hE.trans hE';clear hE'))
 have D1:=fun U=>A1 (Lat wb U) (lat_ext wb U)
 have D2:=fun U=>A2 (Lat wb U) (lat_ext wb U)
 have D7:=fun U=>A7 (Lat wb U) (lat_ext wb U)
 have D8:=fun U=>A8 (Lat wb U) (lat_ext wb U)
 have D9:=fun U=>A9 (Lat wb U) (lat_ext wb U)
 (refine wp_region_lat (wb) (by kernel_rfl) (by kernel_rfl) hE ?_);(repeat (go_big_quiet_step (first | (go_at_call 135;first | with_reducible exact Calls.lat (sNumbers_any _ _ _ (HI.out _ (lat_ext wb _)).t) | with_reducible exact Calls.lat (sNumbers_any _ _ _ (HI.out _ (lat_ext wb _)).q)) | (go_at_call 134;with_reducible exact Calls.lat (sFormatGroup_any _ _ _ (HI.out _ (lat_ext wb _)).o)) | (go_at_call 52;with_reducible exact Calls.lat (sFormatInt_any _ (clampF_in n) _)))));(refine wpQuiet_nil ?_);(intro W hE');(replace hE:=lat_of hE');(clear hE')
 go_wp2_with fail
 go_ret
 exact⟨ret_str Hv.out.symm,hE0.trans hE⟩
theorem sFormatClaim_3(a b s p n:Int)(g o t q:List Int)(v1 v2 v3 v4:Value)(w:World)(h:Ints4 w v1 v2 v3 v4 g o t q) :
 Calls Tryz.prog 46 #[CV 3 v1 v2 a b s p v3 v4 n] w fun e w'=>e=.returned (.string (fcF 3 g o a b s p t q n))∧Ext w w':=by
 unfold CV
 obtain⟨wb,hwb⟩:∃wb,wb=w.alloc (.cells #[.int .i64 3,v1,v2,.int .i64 a,.int .i64 b,.int .i64 s,.int .i64 p,v3,v4,.int .i64 n] 38):=⟨_,rfl⟩
 have hE0:Ext w wb:=by rw[hwb];exact (Ext.refl _).alloc _
 have B0:Blk wb w.heap.size 38 #[.int .i64 3,v1,v2,.int .i64 a,.int .i64 b,.int .i64 s,.int .i64 p,v3,v4,.int .i64 n]:=by rw[hwb];exact Blk.new _ _ _
 have Hsz:Hid (wb.heap.size=w.heap.size+1):=Lib.hid (by rw[hwb];simp)
 have A0:∀W,Ext wb W→W.cell? ⟨w.heap.size,0,none⟩=some (.int .i64 3):=fun W hW=>(B0.ext hW).cell (i:=0) (v:=.int .i64 3) rfl
 have A1:∀W,Ext wb W→W.cell? ⟨w.heap.size,1,none⟩=some (v1):=fun W hW=>(B0.ext hW).cell (i:=1) (v:=v1) rfl
 have A2:∀W,Ext wb W→W.cell? ⟨w.heap.size,2,none⟩=some (v2):=fun W hW=>(B0.ext hW).cell (i:=2) (v:=v2) rfl
 have A3:∀W,Ext wb W→W.cell? ⟨w.heap.size,3,none⟩=some (.int .i64 a):=fun W hW=>(B0.ext hW).cell (i:=3) (v:=.int .i64 a) rfl
 have A4:∀W,Ext wb W→W.cell? ⟨w.heap.size,4,none⟩=some (.int .i64 b):=fun W hW=>(B0.ext hW).cell (i:=4) (v:=.int .i64 b) rfl
 have A5:∀W,Ext wb W→W.cell? ⟨w.heap.size,5,none⟩=some (.int .i64 s):=fun W hW=>(B0.ext hW).cell (i:=5) (v:=.int .i64 s) rfl
 have A6:∀W,Ext wb W→W.cell? ⟨w.heap.size,6,none⟩=some (.int .i64 p):=fun W hW=>(B0.ext hW).cell (i:=6) (v:=.int .i64 p) rfl
 have A7:∀W,Ext wb W→W.cell? ⟨w.heap.size,7,none⟩=some (v3):=fun W hW=>(B0.ext hW).cell (i:=7) (v:=v3) rfl
 have A8:∀W,Ext wb W→W.cell? ⟨w.heap.size,8,none⟩=some (v4):=fun W hW=>(B0.ext hW).cell (i:=8) (v:=v4) rfl
 have A9:∀W,Ext wb W→W.cell? ⟨w.heap.size,9,none⟩=some (.int .i64 n):=fun W hW=>(B0.ext hW).cell (i:=9) (v:=.int .i64 n) rfl
 have HI:Hid (∀W,Ext wb W→Ints4 W v1 v2 v3 v4 g o t q):=Lib.hid fun W hW=>h.ext (hE0.trans hW)
 have hE:=Ext.refl wb
 have Hwb:=Lib.hid hwb
 clear hwb h B0
 have cw1:(cwB 3).size≤6:=cwB_size _
 have cg1:(fgF g).size≤600:=fgF_size g
 have cg2:(fgF o).size≤600:=fgF_size o
 have ct1:(shortF t).size≤600:=shortF_size t
 have cq1:(shortF q).size≤600:=shortF_size q
 have csa:(fsF g a).size≤600:=fsF_size g a
 have csb:(fsF g b).size≤600:=fsF_size g b
 have css:(fsF g s).size≤600:=fsF_size g s
 have csp:(fsF g p).size≤600:=fsF_size g p
 have cn1:(fmtB (clampF n)).size≤13:=fmtB_size (clampF_in n)
 obtain⟨xg,hxg⟩:∃x,x=isGrp g:=⟨_,rfl⟩
 have eg:=fgF_empty g
 rw[←hxg] at eg
 have Hv:Hid (fcF 3 g o a b s p t q n=bif xg then (((((cwB 3)++(⟨#[32]⟩:ByteArray))++(fgF g))++(⟨#[32,124,32]⟩:ByteArray))++(shortF t)) else ⟨#[]⟩):=Lib.hid (by
  have e0:fcF 3 g o a b s p t q n=bif isGrp g then (((((cwB 3)++(⟨#[32]⟩:ByteArray))++(fgF g))++(⟨#[32,124,32]⟩:ByteArray))++(shortF t)) else ⟨#[]⟩:=rfl
  rw[e0,hxg])
 clear hxg
 cases xg
 · go_enter Tryz.func46,Tryz.ntmps46
   go_wp2_with fail
   rw[←Hwb.out]
   go_wp2_with (first | (go_at_call 49;refine (sClaimWord_any _ _).mono ?_;rintro e w' ⟨rfl,hE'⟩;replace hE:=hE.trans hE';clear hE') | (go_at_call 134;first | (with_reducible refine Calls.mono (sFormatGroup_any _ _ _ (HI.out _ hE).g) ?_;rintro e w' ⟨rfl,hE'⟩;replace hE:=hE.trans hE';clear hE') | (with_reducible refine Calls.mono (sFormatGroup_any _ _ _ (HI.out _ hE).o) ?_;rintro e w' ⟨rfl,hE'⟩;replace hE:=hE.trans hE';clear hE')) | (go_at_call 54;refine Calls.mono (sFormatSet_any _ _ _ _ (HI.out _ hE).g) ?_;rintro e w' ⟨rfl,hE'⟩;replace hE:=hE.trans hE';clear hE'))
   go_ret
   exact⟨ret_str Hv.out.symm,hE0.trans hE⟩
 go_enter Tryz.func46,Tryz.ntmps46
 go_wp2_with fail
 rw[←Hwb.out]
 go_wp2_with (first | (go_at_call 49;refine (sClaimWord_any _ _).mono ?_;rintro e w' ⟨rfl,hE'⟩;replace hE:=hE.trans hE';clear hE') | (go_at_call 134;first | (with_reducible refine Calls.mono (sFormatGroup_any _ _ _ (HI.out _ hE).g) ?_;rintro e w' ⟨rfl,hE'⟩;replace hE:=hE.trans hE';clear hE') | (with_reducible refine Calls.mono (sFormatGroup_any _ _ _ (HI.out _ hE).o) ?_;rintro e w' ⟨rfl,hE'⟩;replace hE:=hE.trans hE';clear hE')) | (go_at_call 54;refine Calls.mono (sFormatSet_any _ _ _ _ (HI.out _ hE).g) ?_;rintro e w' ⟨rfl,hE'⟩;replace hE:=hE.trans hE';clear hE') | (go_at_call 135;refine Calls.mono (sNumbers_any _ _ _ (HI.out _ hE).t) ?_;rintro e w' ⟨rfl,hE'⟩;replace hE:=hE.trans hE';clear hE'))
 go_ret
 exact⟨ret_str Hv.out.symm,hE0.trans hE⟩
theorem sFormatClaim_4(a b s p n:Int)(g o t q:List Int)(v1 v2 v3 v4:Value)(w:World)(h:Ints4 w v1 v2 v3 v4 g o t q) :
 Calls Tryz.prog 46 #[CV 4 v1 v2 a b s p v3 v4 n] w fun e w'=>e=.returned (.string (fcF 4 g o a b s p t q n))∧Ext w w':=by
 unfold CV
 obtain⟨wb,hwb⟩:∃wb,wb=w.alloc (.cells #[.int .i64 4,v1,v2,.int .i64 a,.int .i64 b,.int .i64 s,.int .i64 p,v3,v4,.int .i64 n] 38):=⟨_,rfl⟩
 have hE0:Ext w wb:=by rw[hwb];exact (Ext.refl _).alloc _
 have B0:Blk wb w.heap.size 38 #[.int .i64 4,v1,v2,.int .i64 a,.int .i64 b,.int .i64 s,.int .i64 p,v3,v4,.int .i64 n]:=by rw[hwb];exact Blk.new _ _ _
 have Hsz:Hid (wb.heap.size=w.heap.size+1):=Lib.hid (by rw[hwb];simp)
 have A0:∀W,Ext wb W→W.cell? ⟨w.heap.size,0,none⟩=some (.int .i64 4):=fun W hW=>(B0.ext hW).cell (i:=0) (v:=.int .i64 4) rfl
 have A1:∀W,Ext wb W→W.cell? ⟨w.heap.size,1,none⟩=some (v1):=fun W hW=>(B0.ext hW).cell (i:=1) (v:=v1) rfl
 have A2:∀W,Ext wb W→W.cell? ⟨w.heap.size,2,none⟩=some (v2):=fun W hW=>(B0.ext hW).cell (i:=2) (v:=v2) rfl
 have A3:∀W,Ext wb W→W.cell? ⟨w.heap.size,3,none⟩=some (.int .i64 a):=fun W hW=>(B0.ext hW).cell (i:=3) (v:=.int .i64 a) rfl
 have A4:∀W,Ext wb W→W.cell? ⟨w.heap.size,4,none⟩=some (.int .i64 b):=fun W hW=>(B0.ext hW).cell (i:=4) (v:=.int .i64 b) rfl
 have A5:∀W,Ext wb W→W.cell? ⟨w.heap.size,5,none⟩=some (.int .i64 s):=fun W hW=>(B0.ext hW).cell (i:=5) (v:=.int .i64 s) rfl
 have A6:∀W,Ext wb W→W.cell? ⟨w.heap.size,6,none⟩=some (.int .i64 p):=fun W hW=>(B0.ext hW).cell (i:=6) (v:=.int .i64 p) rfl
 have A7:∀W,Ext wb W→W.cell? ⟨w.heap.size,7,none⟩=some (v3):=fun W hW=>(B0.ext hW).cell (i:=7) (v:=v3) rfl
 have A8:∀W,Ext wb W→W.cell? ⟨w.heap.size,8,none⟩=some (v4):=fun W hW=>(B0.ext hW).cell (i:=8) (v:=v4) rfl
 have A9:∀W,Ext wb W→W.cell? ⟨w.heap.size,9,none⟩=some (.int .i64 n):=fun W hW=>(B0.ext hW).cell (i:=9) (v:=.int .i64 n) rfl
 have HI:Hid (∀W,Ext wb W→Ints4 W v1 v2 v3 v4 g o t q):=Lib.hid fun W hW=>h.ext (hE0.trans hW)
 have hE:=Ext.refl wb
 have Hwb:=Lib.hid hwb
 clear hwb h B0
 have cw1:(cwB 4).size≤6:=cwB_size _
 have cg1:(fgF g).size≤600:=fgF_size g
 have cg2:(fgF o).size≤600:=fgF_size o
 have ct1:(shortF t).size≤600:=shortF_size t
 have cq1:(shortF q).size≤600:=shortF_size q
 have csa:(fsF g a).size≤600:=fsF_size g a
 have csb:(fsF g b).size≤600:=fsF_size g b
 have css:(fsF g s).size≤600:=fsF_size g s
 have csp:(fsF g p).size≤600:=fsF_size g p
 have cn1:(fmtB (clampF n)).size≤13:=fmtB_size (clampF_in n)
 obtain⟨xa,hxa⟩:∃x,x=isSetB g a:=⟨_,rfl⟩
 have ea:=fsF_empty g a
 rw[←hxa] at ea
 obtain⟨xb,hxb⟩:∃x,x=isSetB g b:=⟨_,rfl⟩
 have eb:=fsF_empty g b
 rw[←hxb] at eb
 have Hv:Hid (fcF 4 g o a b s p t q n=bif xa&&(xb) then (((((((cwB 4)++(⟨#[32]⟩:ByteArray))++(fgF g))++(⟨#[32,124,32]⟩:ByteArray))++(fsF g a))++(⟨#[32,97,110,100,32]⟩:ByteArray))++(fsF g b)) else ⟨#[]⟩):=Lib.hid (by
  have e0:fcF 4 g o a b s p t q n=bif areF g [a,b] then (((((((cwB 4)++(⟨#[32]⟩:ByteArray))++(fgF g))++(⟨#[32,124,32]⟩:ByteArray))++(fsF g a))++(⟨#[32,97,110,100,32]⟩:ByteArray))++(fsF g b)) else ⟨#[]⟩:=rfl
  rw[e0,areF_two,hxa,hxb])
 clear hxa hxb
 cases xa<;>cases xb
 all_goals
  go_enter Tryz.func46,Tryz.ntmps46
  go_wp2_with fail
  rw[←Hwb.out]
  go_wp2_with (first | (go_at_call 49;refine (sClaimWord_any _ _).mono ?_;rintro e w' ⟨rfl,hE'⟩;replace hE:=hE.trans hE';clear hE') | (go_at_call 134;first | (with_reducible refine Calls.mono (sFormatGroup_any _ _ _ (HI.out _ hE).g) ?_;rintro e w' ⟨rfl,hE'⟩;replace hE:=hE.trans hE';clear hE') | (with_reducible refine Calls.mono (sFormatGroup_any _ _ _ (HI.out _ hE).o) ?_;rintro e w' ⟨rfl,hE'⟩;replace hE:=hE.trans hE';clear hE')) | (go_at_call 54;refine Calls.mono (sFormatSet_any _ _ _ _ (HI.out _ hE).g) ?_;rintro e w' ⟨rfl,hE'⟩;replace hE:=hE.trans hE';clear hE'))
  go_ret
  exact⟨ret_str Hv.out.symm,hE0.trans hE⟩
theorem sFormatClaim_5(a b s p n:Int)(g o t q:List Int)(v1 v2 v3 v4:Value)(w:World)(h:Ints4 w v1 v2 v3 v4 g o t q) :
 Calls Tryz.prog 46 #[CV 5 v1 v2 a b s p v3 v4 n] w fun e w'=>e=.returned (.string (fcF 5 g o a b s p t q n))∧Ext w w':=by
 unfold CV
 obtain⟨wb,hwb⟩:∃wb,wb=w.alloc (.cells #[.int .i64 5,v1,v2,.int .i64 a,.int .i64 b,.int .i64 s,.int .i64 p,v3,v4,.int .i64 n] 38):=⟨_,rfl⟩
 have hE0:Ext w wb:=by rw[hwb];exact (Ext.refl _).alloc _
 have B0:Blk wb w.heap.size 38 #[.int .i64 5,v1,v2,.int .i64 a,.int .i64 b,.int .i64 s,.int .i64 p,v3,v4,.int .i64 n]:=by rw[hwb];exact Blk.new _ _ _
 have Hsz:Hid (wb.heap.size=w.heap.size+1):=Lib.hid (by rw[hwb];simp)
 have A0:∀W,Ext wb W→W.cell? ⟨w.heap.size,0,none⟩=some (.int .i64 5):=fun W hW=>(B0.ext hW).cell (i:=0) (v:=.int .i64 5) rfl
 have A1:∀W,Ext wb W→W.cell? ⟨w.heap.size,1,none⟩=some (v1):=fun W hW=>(B0.ext hW).cell (i:=1) (v:=v1) rfl
 have A2:∀W,Ext wb W→W.cell? ⟨w.heap.size,2,none⟩=some (v2):=fun W hW=>(B0.ext hW).cell (i:=2) (v:=v2) rfl
 have A3:∀W,Ext wb W→W.cell? ⟨w.heap.size,3,none⟩=some (.int .i64 a):=fun W hW=>(B0.ext hW).cell (i:=3) (v:=.int .i64 a) rfl
 have A4:∀W,Ext wb W→W.cell? ⟨w.heap.size,4,none⟩=some (.int .i64 b):=fun W hW=>(B0.ext hW).cell (i:=4) (v:=.int .i64 b) rfl
 have A5:∀W,Ext wb W→W.cell? ⟨w.heap.size,5,none⟩=some (.int .i64 s):=fun W hW=>(B0.ext hW).cell (i:=5) (v:=.int .i64 s) rfl
 have A6:∀W,Ext wb W→W.cell? ⟨w.heap.size,6,none⟩=some (.int .i64 p):=fun W hW=>(B0.ext hW).cell (i:=6) (v:=.int .i64 p) rfl
 have A7:∀W,Ext wb W→W.cell? ⟨w.heap.size,7,none⟩=some (v3):=fun W hW=>(B0.ext hW).cell (i:=7) (v:=v3) rfl
 have A8:∀W,Ext wb W→W.cell? ⟨w.heap.size,8,none⟩=some (v4):=fun W hW=>(B0.ext hW).cell (i:=8) (v:=v4) rfl
 have A9:∀W,Ext wb W→W.cell? ⟨w.heap.size,9,none⟩=some (.int .i64 n):=fun W hW=>(B0.ext hW).cell (i:=9) (v:=.int .i64 n) rfl
 have HI:Hid (∀W,Ext wb W→Ints4 W v1 v2 v3 v4 g o t q):=Lib.hid fun W hW=>h.ext (hE0.trans hW)
 have hE:=Ext.refl wb
 have Hwb:=Lib.hid hwb
 clear hwb h B0
 have cw1:(cwB 5).size≤6:=cwB_size _
 have cg1:(fgF g).size≤600:=fgF_size g
 have cg2:(fgF o).size≤600:=fgF_size o
 have ct1:(shortF t).size≤600:=shortF_size t
 have cq1:(shortF q).size≤600:=shortF_size q
 have csa:(fsF g a).size≤600:=fsF_size g a
 have csb:(fsF g b).size≤600:=fsF_size g b
 have css:(fsF g s).size≤600:=fsF_size g s
 have csp:(fsF g p).size≤600:=fsF_size g p
 have cn1:(fmtB (clampF n)).size≤13:=fmtB_size (clampF_in n)
 obtain⟨xg,hxg⟩:∃x,x=isGrp g:=⟨_,rfl⟩
 have eg:=fgF_empty g
 rw[←hxg] at eg
 obtain⟨xo,hxo⟩:∃x,x=isGrp o:=⟨_,rfl⟩
 have eo:=fgF_empty o
 rw[←hxo] at eo
 have Hv:Hid (fcF 5 g o a b s p t q n=bif (xg&&xo) then (((((((((cwB 5)++(⟨#[32]⟩:ByteArray))++(fgF g))++(⟨#[32,124,32]⟩:ByteArray))++(shortF t))++(⟨#[32,97,115,32]⟩:ByteArray))++(fgF o))++(⟨#[32,124,32]⟩:ByteArray))++(shortF q)) else ⟨#[]⟩):=Lib.hid (by
  have e0:fcF 5 g o a b s p t q n=bif (isGrp g&&isGrp o) then (((((((((cwB 5)++(⟨#[32]⟩:ByteArray))++(fgF g))++(⟨#[32,124,32]⟩:ByteArray))++(shortF t))++(⟨#[32,97,115,32]⟩:ByteArray))++(fgF o))++(⟨#[32,124,32]⟩:ByteArray))++(shortF q)) else ⟨#[]⟩:=rfl
  rw[e0,hxg,hxo])
 clear hxg hxo
 cases xg
 · go_enter Tryz.func46,Tryz.ntmps46
   go_wp2_with fail
   rw[←Hwb.out]
   go_wp2_with (first | (go_at_call 49;refine (sClaimWord_any _ _).mono ?_;rintro e w' ⟨rfl,hE'⟩;replace hE:=hE.trans hE';clear hE') | (go_at_call 134;first | (with_reducible refine Calls.mono (sFormatGroup_any _ _ _ (HI.out _ hE).g) ?_;rintro e w' ⟨rfl,hE'⟩;replace hE:=hE.trans hE';clear hE') | (with_reducible refine Calls.mono (sFormatGroup_any _ _ _ (HI.out _ hE).o) ?_;rintro e w' ⟨rfl,hE'⟩;replace hE:=hE.trans hE';clear hE')) | (go_at_call 54;refine Calls.mono (sFormatSet_any _ _ _ _ (HI.out _ hE).g) ?_;rintro e w' ⟨rfl,hE'⟩;replace hE:=hE.trans hE';clear hE'))
   go_ret
   exact⟨ret_str Hv.out.symm,hE0.trans hE⟩
 cases xo
 · go_enter Tryz.func46,Tryz.ntmps46
   go_wp2_with fail
   rw[←Hwb.out]
   go_wp2_with (first | (go_at_call 49;refine (sClaimWord_any _ _).mono ?_;rintro e w' ⟨rfl,hE'⟩;replace hE:=hE.trans hE';clear hE') | (go_at_call 134;first | (with_reducible refine Calls.mono (sFormatGroup_any _ _ _ (HI.out _ hE).g) ?_;rintro e w' ⟨rfl,hE'⟩;replace hE:=hE.trans hE';clear hE') | (with_reducible refine Calls.mono (sFormatGroup_any _ _ _ (HI.out _ hE).o) ?_;rintro e w' ⟨rfl,hE'⟩;replace hE:=hE.trans hE';clear hE')) | (go_at_call 54;refine Calls.mono (sFormatSet_any _ _ _ _ (HI.out _ hE).g) ?_;rintro e w' ⟨rfl,hE'⟩;replace hE:=hE.trans hE';clear hE'))
   go_ret
   exact⟨ret_str Hv.out.symm,hE0.trans hE⟩
 go_enter Tryz.func46,Tryz.ntmps46
 go_wp2_with fail
 rw[←Hwb.out]
 go_wp2_with (first | (go_at_call 49;refine (sClaimWord_any _ _).mono ?_;rintro e w' ⟨rfl,hE'⟩;replace hE:=hE.trans hE';clear hE') | (go_at_call 134;first | (with_reducible refine Calls.mono (sFormatGroup_any _ _ _ (HI.out _ hE).g) ?_;rintro e w' ⟨rfl,hE'⟩;replace hE:=hE.trans hE';clear hE') | (with_reducible refine Calls.mono (sFormatGroup_any _ _ _ (HI.out _ hE).o) ?_;rintro e w' ⟨rfl,hE'⟩;replace hE:=hE.trans hE';clear hE')) | (go_at_call 54;refine Calls.mono (sFormatSet_any _ _ _ _ (HI.out _ hE).g) ?_;rintro e w' ⟨rfl,hE'⟩;replace hE:=hE.trans hE';clear hE'))
 have D1:=fun U=>A1 (Lat wb U) (lat_ext wb U)
 have D2:=fun U=>A2 (Lat wb U) (lat_ext wb U)
 have D7:=fun U=>A7 (Lat wb U) (lat_ext wb U)
 have D8:=fun U=>A8 (Lat wb U) (lat_ext wb U)
 have D9:=fun U=>A9 (Lat wb U) (lat_ext wb U)
 (refine wp_region_lat (wb) (by kernel_rfl) (by kernel_rfl) hE ?_);(repeat (go_big_quiet_step (first | (go_at_call 135;first | with_reducible exact Calls.lat (sNumbers_any _ _ _ (HI.out _ (lat_ext wb _)).t) | with_reducible exact Calls.lat (sNumbers_any _ _ _ (HI.out _ (lat_ext wb _)).q)) | (go_at_call 134;with_reducible exact Calls.lat (sFormatGroup_any _ _ _ (HI.out _ (lat_ext wb _)).o)) | (go_at_call 52;with_reducible exact Calls.lat (sFormatInt_any _ (clampF_in n) _)))));(refine wpQuiet_nil ?_);(intro W hE');(replace hE:=lat_of hE');(clear hE')
 go_wp2_with fail
 go_ret
 exact⟨ret_str Hv.out.symm,hE0.trans hE⟩
theorem sFormatClaim_7(a b s p n:Int)(g o t q:List Int)(v1 v2 v3 v4:Value)(w:World)(h:Ints4 w v1 v2 v3 v4 g o t q) :
 Calls Tryz.prog 46 #[CV 7 v1 v2 a b s p v3 v4 n] w fun e w'=>e=.returned (.string (fcF 7 g o a b s p t q n))∧Ext w w':=by
 unfold CV
 obtain⟨wb,hwb⟩:∃wb,wb=w.alloc (.cells #[.int .i64 7,v1,v2,.int .i64 a,.int .i64 b,.int .i64 s,.int .i64 p,v3,v4,.int .i64 n] 38):=⟨_,rfl⟩
 have hE0:Ext w wb:=by rw[hwb];exact (Ext.refl _).alloc _
 have B0:Blk wb w.heap.size 38 #[.int .i64 7,v1,v2,.int .i64 a,.int .i64 b,.int .i64 s,.int .i64 p,v3,v4,.int .i64 n]:=by rw[hwb];exact Blk.new _ _ _
 have Hsz:Hid (wb.heap.size=w.heap.size+1):=Lib.hid (by rw[hwb];simp)
 have A0:∀W,Ext wb W→W.cell? ⟨w.heap.size,0,none⟩=some (.int .i64 7):=fun W hW=>(B0.ext hW).cell (i:=0) (v:=.int .i64 7) rfl
 have A1:∀W,Ext wb W→W.cell? ⟨w.heap.size,1,none⟩=some (v1):=fun W hW=>(B0.ext hW).cell (i:=1) (v:=v1) rfl
 have A2:∀W,Ext wb W→W.cell? ⟨w.heap.size,2,none⟩=some (v2):=fun W hW=>(B0.ext hW).cell (i:=2) (v:=v2) rfl
 have A3:∀W,Ext wb W→W.cell? ⟨w.heap.size,3,none⟩=some (.int .i64 a):=fun W hW=>(B0.ext hW).cell (i:=3) (v:=.int .i64 a) rfl
 have A4:∀W,Ext wb W→W.cell? ⟨w.heap.size,4,none⟩=some (.int .i64 b):=fun W hW=>(B0.ext hW).cell (i:=4) (v:=.int .i64 b) rfl
 have A5:∀W,Ext wb W→W.cell? ⟨w.heap.size,5,none⟩=some (.int .i64 s):=fun W hW=>(B0.ext hW).cell (i:=5) (v:=.int .i64 s) rfl
 have A6:∀W,Ext wb W→W.cell? ⟨w.heap.size,6,none⟩=some (.int .i64 p):=fun W hW=>(B0.ext hW).cell (i:=6) (v:=.int .i64 p) rfl
 have A7:∀W,Ext wb W→W.cell? ⟨w.heap.size,7,none⟩=some (v3):=fun W hW=>(B0.ext hW).cell (i:=7) (v:=v3) rfl
 have A8:∀W,Ext wb W→W.cell? ⟨w.heap.size,8,none⟩=some (v4):=fun W hW=>(B0.ext hW).cell (i:=8) (v:=v4) rfl
 have A9:∀W,Ext wb W→W.cell? ⟨w.heap.size,9,none⟩=some (.int .i64 n):=fun W hW=>(B0.ext hW).cell (i:=9) (v:=.int .i64 n) rfl
 have HI:Hid (∀W,Ext wb W→Ints4 W v1 v2 v3 v4 g o t q):=Lib.hid fun W hW=>h.ext (hE0.trans hW)
 have hE:=Ext.refl wb
 have Hwb:=Lib.hid hwb
 clear hwb h B0
 have cw1:(cwB 7).size≤6:=cwB_size _
 have cg1:(fgF g).size≤600:=fgF_size g
 have cg2:(fgF o).size≤600:=fgF_size o
 have ct1:(shortF t).size≤600:=shortF_size t
 have cq1:(shortF q).size≤600:=shortF_size q
 have csa:(fsF g a).size≤600:=fsF_size g a
 have csb:(fsF g b).size≤600:=fsF_size g b
 have css:(fsF g s).size≤600:=fsF_size g s
 have csp:(fsF g p).size≤600:=fsF_size g p
 have cn1:(fmtB (clampF n)).size≤13:=fmtB_size (clampF_in n)
 obtain⟨xa,hxa⟩:∃x,x=isSetB g a:=⟨_,rfl⟩
 have ea:=fsF_empty g a
 rw[←hxa] at ea
 obtain⟨xs,hxs⟩:∃x,x=isSetB g s:=⟨_,rfl⟩
 have es:=fsF_empty g s
 rw[←hxs] at es
 obtain⟨xp,hxp⟩:∃x,x=isSetB g p:=⟨_,rfl⟩
 have ep:=fsF_empty g p
 rw[←hxp] at ep
 have Hv:Hid (fcF 7 g o a b s p t q n=bif xa&&(xs&&(xp)) then (((((((((cwB 7)++(⟨#[32]⟩:ByteArray))++(fgF g))++(⟨#[32,124,32]⟩:ByteArray))++(fsF g a))++(⟨#[32,105,110,32]⟩:ByteArray))++(fsF g s))++(⟨#[32,112,101,114,105,111,100,32]⟩:ByteArray))++(fsF g p)) else ⟨#[]⟩):=Lib.hid (by
  have e0:fcF 7 g o a b s p t q n=bif areF g [a,s,p] then (((((((((cwB 7)++(⟨#[32]⟩:ByteArray))++(fgF g))++(⟨#[32,124,32]⟩:ByteArray))++(fsF g a))++(⟨#[32,105,110,32]⟩:ByteArray))++(fsF g s))++(⟨#[32,112,101,114,105,111,100,32]⟩:ByteArray))++(fsF g p)) else ⟨#[]⟩:=rfl
  rw[e0,areF_three,hxa,hxs,hxp])
 clear hxa hxs hxp
 cases xa<;>cases xs<;>cases xp
 all_goals
  go_enter Tryz.func46,Tryz.ntmps46
  go_wp2_with fail
  rw[←Hwb.out]
  go_wp2_with (first | (go_at_call 49;refine (sClaimWord_any _ _).mono ?_;rintro e w' ⟨rfl,hE'⟩;replace hE:=hE.trans hE';clear hE') | (go_at_call 134;first | (with_reducible refine Calls.mono (sFormatGroup_any _ _ _ (HI.out _ hE).g) ?_;rintro e w' ⟨rfl,hE'⟩;replace hE:=hE.trans hE';clear hE') | (with_reducible refine Calls.mono (sFormatGroup_any _ _ _ (HI.out _ hE).o) ?_;rintro e w' ⟨rfl,hE'⟩;replace hE:=hE.trans hE';clear hE')) | (go_at_call 54;refine Calls.mono (sFormatSet_any _ _ _ _ (HI.out _ hE).g) ?_;rintro e w' ⟨rfl,hE'⟩;replace hE:=hE.trans hE';clear hE'))
  go_ret
  exact⟨ret_str Hv.out.symm,hE0.trans hE⟩
end Go.Zz
