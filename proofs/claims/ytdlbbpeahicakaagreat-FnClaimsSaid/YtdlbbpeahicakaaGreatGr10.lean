/- The search for an isomorphism: the reference. -/
import Derived.Test.YtdlbbpeahicakaaGreatGr9
import Derived.Test.YtdlbbpeahicakaaGreatGr5
import Derived.Deep.RegionHeld3
import Derived.WalkSpells
import Derived.Test.YtdlbbpeahicakaaGreatGr2
import Derived.Test.YtdlbbpeahicakaaGreatGr8
namespace Go.Zz
open Go.RowKit Go.Proofs
set_option maxHeartbeats 2000000
set_option maxRecDepth 8000
theorem Ints.take{w:World}{ao:Option Addr}{n c:Nat}{l:List Int}(h:Ints w (.slice ao n c) l){k:Nat}(hk:k≤l.length):Ints w (.slice ao k c) (l.take k):=by
 obtain⟨ao',c',hv,h1,h2,h3⟩:=h
 simp only[Value.slice.injEq] at hv
 obtain⟨rfl,rfl,rfl⟩:=hv
 have hl:(l.take k).length=k:=by rw[List.length_take];omega
 refine⟨ao,c,by rw[hl],by rw[hl];omega,by rw[hl];omega,fun i hi=>?_⟩
 rw[hl] at hi
 obtain⟨a,ha,hc⟩:=h3 i (by omega)
 refine⟨a,ha,?_⟩
 rw[hc];simp[nth,List.getD,hi]
theorem castL_take(L:List Nat)(n:Nat):castL (L.take n)=(castL L).take n:=by simp[castL]
theorem Blk.ints1{w:World}{g:Nat}{T:TypeId}{y:Int}(h:Blk w g T #[.int .i64 y]):Ints w (.slice (some ⟨g,0,none⟩) 1 1) [y]:=by
 refine⟨_,1,rfl,Nat.le_refl _,by simp,fun i hi=>⟨_,rfl,?_⟩⟩
 match i,hi with
 | 0,_=>exact h.cell (i:=0) rfl
theorem Ints.cap{w:World}{ao:Option Addr}{n c:Nat}{l:List Int}(h:Ints w (.slice ao n c) l):n≤c:=by
 obtain⟨ao',c',hv,h1,_⟩:=h
 simp only[Value.slice.injEq] at hv
 obtain⟨rfl,rfl,rfl⟩:=hv
 exact h1
theorem run_cut{P:Program}{t:TypeId}(ht:P.underlying t=some (.slice (P.elem t)))(hs:∀w,(sizeOf (P.elem t)).run P w=.ok 1 w)(ao:Option Addr)(n c:Nat)(k:Int)(k0:0≤k)(hk:k≤c)(W:World) :
 (Instr.slice t (.slice ao n c) none (some (.int .i64 k)) none).run P W=.ok (.slice ao k.toNat c) W:=by
 rw[run_slice_h (ht:=ht) (h0:=k0) (h2:=hk),hs]
 simp[Result.andThen,sliced]
 cases ao<;>simp[Addr.add]
theorem run_cutAt{P:Program}{t:TypeId}(ht:P.underlying t=some (.slice (P.elem t)))(hs:∀w,(sizeOf (P.elem t)).run P w=.ok 1 w)(ao:Option Addr)(n c:Nat)(k:Int)(k0:0≤k)(hk:k≤c)(W:World) :
 (Instr.sliceAt t (.slice ao n c) none (some (.int .i64 k)) none).run P W=.ok (.slice ao k.toNat c) W:=by
 rw[run_sliceAt_slice (h:=ht),run_cut ht hs ao n c k k0 hk]
def NxP(w0:World)(M:List Nat)(Y:Nat)(s:Value)(wx:World):Prop :=
 ∃ao c,s=.slice ao (M.length+1) c∧Own 3 w0 wx (.slice ao (M.length+1) c) (castL (M++[Y]))∧Ext w0 wx
theorem NxP.of{w0:World}{M:List Nat}{Y:Nat}{s:Value}{wx:World}(h:OwnE 3 w0 w0 wx s (castL M++[(Y:Int)]))(hE:Ext w0 wx):NxP w0 M Y s wx:=by
 have h2:=h.own (Ext.refl w0)
 rw[show castL M++[(Y:Int)]=castL (M++[Y]) by simp[castL]] at h2
 obtain⟨ao,c,rfl,-⟩:=h2.shape
 rw[castL_len] at h2 ⊢
 rw[show (M++[Y]).length=M.length+1 by simp] at h2 ⊢
 exact⟨ao,c,rfl,h2,hE⟩
theorem sFind_any(v u:Value)(g h:List Int)(L:List Nat)(vL:Value)(b:Nat)(Hg:Hid (isGrp g=true))(Hh:Hid (isGrp h=true))(hLn:L.Nodup)(hLo:∀y∈L,y<ord g)(hl1:1≤L.length)(hl5:L.length≤5)(hb2:b<2 ^ ord h) :
 ∀(f:Nat) (M:List Nat) (vM:Value) (W0 w:World),Ints w v g→Ints w u h→Ints w vL (castL L)→Own 3 W0 w vM (castL M)→Ext W0 w→M.Nodup→(∀y∈M,y<ord h)→M.length≤L.length→L.length<M.length+f →
 Calls Tryz.prog 181 #[.agg #[v],.agg #[u],vL,vM,.int .i64 b] w fun e w'=>∃v' Z,e=.returned (.tuple #[v',.bool (fiS g h L (elems b) f M).isSome])∧Own 3 W0 w' v' (castL Z)∧(∀N,fiS g h L (elems b) f M=some N→Z=N)∧(M.length<L.length→fiS g h L (elems b) f M=none→Z=[])∧Ext w w':=by
 intro f
 induction f with
 | zero=>intro M vM W0 w _ _ _ _ _ _ _ h1 h2;omega
 | succ f ih =>
 intro M vM W0 w hv hu hL hM hEW hMn hMo hml hfu
 obtain⟨wb,hwb⟩:∃wb,wb=(w.alloc (.cells #[v] 27)).alloc (.cells #[u] 27):=⟨_,rfl⟩
 have hE0:Ext w wb:=by rw[hwb];exact ((Ext.refl _).alloc _).alloc _
 have B0:Blk wb w.heap.size 27 #[v]:=by rw[hwb];exact (Blk.new _ _ _).alloc _
 have B1:Blk wb (w.heap.size+1) 27 #[u]:=by rw[hwb];simpa using Blk.new (w.alloc (.cells #[v] 27)) 27 #[u]
 have b0:∀W,Ext wb W→W.cell? ⟨w.heap.size,0,none⟩=some v:=fun W hW=>(B0.ext hW).cell (i:=0) rfl
 have b1:∀W,Ext wb W→W.cell? ⟨w.heap.size+1,0,none⟩=some u:=fun W hW=>(B1.ext hW).cell (i:=0) rfl
 have HV:=Lib.hid (fun W (hW:Ext wb W)=>hv.ext (hE0.trans hW))
 have HU:=Lib.hid (fun W (hW:Ext wb W)=>hu.ext (hE0.trans hW))
 have hE:=Ext.refl wb
 have Hwb:=Lib.hid hwb
 clear hv hu hwb B0 B1
 have HL:=Lib.hid (fun W (hW:Ext wb W)=>hL.ext (hE0.trans hW))
 have HM:=Lib.hid (fun W (hW:Ext wb W)=>hM.ext (hE0.trans hW))
 have hE0W:=hEW.trans hE0
 have hoh:=ord_bd Hh.out
 have hog:=ord_bd Hg.out
 have hb24:b<2 ^ 24:=Nat.lt_of_lt_of_le hb2 (pow_ord Hh.out)
 obtain⟨aoM,cM,rfl,-⟩:=hM.shape
 obtain⟨aoL,cL,-,rfl,-,-,-⟩:=hL.op
 rw[castL_len L] at ih
 have Hih:=Lib.hid ih
 clear ih hL hM
 rw[castL_len,castL_len]
 rw[castL_len] at HL HM
 by_cases hfull:M.length=L.length
 · have hq:(((M.length:Nat):Int) == ((L.length:Nat):Int))=true:=by rw[hfull];simp
   have hK:isoF g h (castL L) (castL M)=isoK g h L M:=iso_list Hg.out Hh.out hLn hMn hLo hMo hfull.symm hl1 (by omega)
   have HK:Hid (fiS g h L (elems b) (f+1) M=if isoK g h L M then some M else none):=Lib.hid (by unfold fiS;rw[if_pos hfull])
   have cI:=fun W (hW:Ext wb W)=>sIso_any v u g h _ _ (castL L) (castL M) W (HV.out W hW) (HU.out W hW) (HL.out W hW) (HM.out W hW).ints
   rw[hK] at cI
   have hlt:¬M.length<L.length:=by omega
   have Hlt:=Lib.hid hlt
   clear hK hlt hfull
   cases hk:isoK g h L M
   all_goals
    rw[hk] at cI HK
    clear hk
    go_enter Tryz.func181,Tryz.ntmps181
    go_wp2_with fail
    rw[←Hwb.out]
    refine (cI _ hE).mono ?_
    rintro e w1 ⟨rfl,hE1⟩
    go_wp2_with fail
    rw[HK.out]
   · exact bodyPost_ret (v:=.tuple #[.slice aoM M.length cM,.bool false]) (by simp[results,Tryz.results181,go_sem]) rfl ⟨_,M,rfl,(HM.out _ hE1),fun N e=>by simp at e,fun e=>absurd e Hlt.out,hE0.trans hE1⟩
   · exact bodyPost_ret (v:=.tuple #[.slice aoM M.length cM,.bool true]) (by simp[results,Tryz.results181,go_sem]) rfl ⟨_,M,rfl,(HM.out _ hE1),fun N e=>by simp at e;exact e,fun e=>absurd e Hlt.out,hE0.trans hE1⟩
 · have hq:(((M.length:Nat):Int) == ((L.length:Nat):Int))=false:=by rw[beq_eq_false_iff_ne];omega
   have HF:Hid (fiS g h L (elems b) (f+1) M=(elems b).findSome? (fun y=>if (bset M).testBit y || !kpB g h (L.take (M.length+1)) (M++[y]) then none else fiS g h L (elems b) f (M++[y]))):=Lib.hid (by
    conv=>lhs;unfold fiS
    rw[if_neg hfull])
   have hml2:M.length<L.length:=by omega
   clear hfull
   go_enter Tryz.func181,Tryz.ntmps181
   go_wp2_with fail
   rw[←Hwb.out]
   refine (l3List_any b hb24 _).mono ?_
   rintro e1 w1 ⟨v1,rfl,hLE,hE1⟩
   obtain⟨aoE,cE,adrE,rfl,hadrE,hcellE⟩:=hLE.ints.nats
   have hixE:=ints_index (c:=cE) elI szI hadrE
   have hE24:∀y∈elems b,y<ord h:=fun y hy=>bit_lt hb2 (mem_elems.1 hy).2
   clear hadrE hLE
   obtain⟨E,hEd⟩:∃E,E=elems b:=⟨_,rfl⟩
   rw[←hEd] at hcellE hixE hE24 HF Hih ⊢
   have hElen:E.length≤24:=by rw[hEd];exact elems_len b
   have HEd:=Lib.hid hEd
   clear hEd
   go_wp2_with fail
   go_loopw [13] (fun iv wr=>∃k:Nat,k≤E.length∧iv=.int .i64 k∧Ext w1 wr∧Hid (∀k',k'<k→(if (bset M).testBit (nthN E k') || !kpB g h (L.take (M.length+1)) (M++[nthN E k']) then none else fiS g h L E f (M++[nthN E k']))=none)) (fun iv _=>E.length - (intOf iv).toNat)
   case atStart=>exact⟨0,by omega,rfl,Ext.refl _,Lib.hid (by omega)⟩
   case round =>
    clear hE
    obtain⟨k,hk,rfl,hE,H⟩:=hrel
    have hEw:=hE1.trans hE
    by_cases hlt:k<E.length
    · have hyo:=hE24 _ (nthN_mem hlt)
      have hck:∀W,Ext wr W→W.cell? (adrE k)=some (.int .i64 (nthN E k:Int)):=fun W hW=>hcellE k _ hlt (hE.trans hW)
      have hrb:∀W,Ext wr W→Ext wb W:=fun W hW=>hEw.trans hW
      obtain⟨Y,hY⟩:∃Y,Y=nthN E k:=⟨_,rfl⟩
      have HY:=Lib.hid hY
      rw[←hY] at hck hyo
      have hln:(castL M).length+[(Y:Int)].length≤17592186044416:=by rw[castL_len];simp;omega
      clear hY
      have hEwr:=hE
      clear hE
      have hE:=Ext.refl wr
      have HMi:=Lib.hid (fun W (hW:Ext wr W)=>(HM.out W (hrb W hW)).ints)
      have hMl:((castL M).length:Int)=(M.length:Int):=by rw[castL_len]
      go_upto_region 7 with fail
      go_cut [14] (fun s14 wx=>NxP wr M Y s14 wx)
      case first =>
       first | (go_region_held3 (fun W=>Ext wr W∧W.cell? (adrE k)=some (.int .i64 (Y:Int))) (exact⟨(by repeat (first | assumption | exact Ext.refl _ | (apply And.left;assumption) | apply Ext.drew | apply Ext.alloc)),hck _ (by repeat (first | assumption | exact Ext.refl _ | (apply And.left;assumption) | apply Ext.drew | apply Ext.alloc))⟩) (first | (have hOq:=hOC;refine step_appendsE slI rfl _ _ rfl wr wr _ _ (castL M) [(Y:Int)] (Or.inr (by first | exact hOC | exact hOC.alloc _ | exact (hOC.alloc _).drew)) (Blk.ints1 (T:=3) (by repeat (first | (with_reducible assumption) | (with_reducible exact Blk.new _ _ _) | ((with_reducible refine Blk.new' ?_);simp[go_sem];done) | (with_reducible apply Blk.alloc) | (with_reducible apply Blk.drew) | (with_reducible refine Blk.ext ?_ hEC)))) (by repeat (first | assumption | exact Ext.refl _ | (apply And.left;assumption) | apply Ext.drew | apply Ext.alloc)) hln rfl rfl ?_;intro vD wD hOD hXD hTD) | (refine step_copy2 slI rfl _ _ rfl _ _ (castL M) rfl rfl (by repeat (first | (with_reducible assumption) | (with_reducible exact Blk.new _ _ _) | ((with_reducible refine Blk.new' ?_);simp[go_sem];done) | (with_reducible apply Blk.alloc) | (with_reducible apply Blk.drew))) (HMi.out _ (by repeat (first | assumption | exact Ext.refl _ | (apply And.left;assumption) | apply Ext.drew | apply Ext.alloc))) wr (by first | exact Nat.le_refl _ | omega | (simp;omega)) (by repeat (first | assumption | exact Ext.refl _ | (apply And.left;assumption) | apply Ext.drew | apply Ext.alloc)) ?_;intro aoC cC wC hOC hZC hEC;have hXC:=Ext.trans (a:=wr) (by repeat (first | assumption | exact Ext.refl _ | (apply And.left;assumption) | apply Ext.drew | apply Ext.alloc)) hEC))) | (fail "the region")
       all_goals (go_wp2_with fail;go_meet;exact NxP.of hOD hXD)
      case rest =>
       obtain⟨aoN,cN,rfl,hON,hEN⟩:=hcut
       have cS:=fun W (hW:Ext wc W)=>sSetOf_any u h (.slice aoN (M.length+1) cN) (castL (M++[Y])) W (HU.out W (hrb W (hEN.trans hW))) (hON.ext hW).ints
       rw[soB_snoc Hh.out hMn hMo hyo] at cS
       have HN:=Lib.hid (fun W (hW:Ext wc W)=>hON.ext hW)
       have HnM:Hid ((M++[Y]).length=M.length+1):=Lib.hid (by simp)
       have Hml2:=Lib.hid hml2
       have hmL:(M.length:Int)+1≤(L.length:Int):=by omega
       have hL24:∀y∈L.take (M.length+1),y<24:=fun y hy=>Nat.lt_of_lt_of_le (hLo y (List.mem_of_mem_take hy)) hog.2
       have hM24:∀y∈M++[Y],y<24:=fun y hy=>by
        rw[List.mem_append,List.mem_singleton] at hy
        rcases hy with hy | rfl
        · exact Nat.lt_of_lt_of_le (hMo y hy) hoh.2
        · exact Nat.lt_of_lt_of_le hyo hoh.2
       have HMo2:Hid (∀y∈M++[Y],y<ord h):=Lib.hid fun y hy=>by
        rw[List.mem_append,List.mem_singleton] at hy
        rcases hy with hy | rfl
        · exact hMo y hy
        · exact hyo
       have Htk:Hid ((L.take (M.length+1)).length=M.length+1):=Lib.hid (by rw[List.length_take];omega)
       clear hON hck hixE
       have hwc:∀W,Ext wc W→Ext wb W:=fun W hW=>hrb W (hEN.trans hW)
       cases ht:(bset M).testBit Y
       · rw[ht] at cS
         simp only[Bool.not_false] at cS
         have Hnd:Hid ((M++[Y]).Nodup):=Lib.hid (by
          rw[List.nodup_append]
          refine⟨hMn,by simp,fun a ha b hb=>?_⟩
          rw[List.mem_singleton] at hb
          subst hb
          rintro rfl
          rw[bset_mem] at ht
          simp[ha] at ht)
         have Ht:=Lib.hid ht
         clear ht
         go_wp2_with fail
         refine (cS _ (Ext.refl _)).mono ?_
         rintro e w2 ⟨rfl,hE2⟩
         have hE2b:=hwc _ hE2
         have kb0:=fun U=>b0 _ (hE2b.trans (lat_ext w2 U))
         have kb1:=fun U=>b1 _ (hE2b.trans (lat_ext w2 U))
         have cK:=fun U=>sKeeps_any v u g h (.slice aoL (M.length+1) cL) (.slice aoN (M.length+1) cN) (L.take (M.length+1)) (M++[Y]) (Lat w2 U) (HV.out _ (hE2b.trans (lat_ext w2 U))) (HU.out _ (hE2b.trans (lat_ext w2 U))) Hg Hh (by rw[castL_take];exact (HL.out _ (hE2b.trans (lat_ext w2 U))).take (by rw[castL_len];omega)) (HN.out _ (hE2.trans (lat_ext w2 U))).ints hL24 hM24 (by rw[Htk.out,HnM.out];omega) (by rw[Htk.out];omega)
         clear cS
         have hcL:=(HL.out _ hE2b).cap
         have hsl:=fun W=>run_cut (P:=Tryz.prog) elI szI aoL L.length cL ((M.length:Int)+1) (by omega) (by omega) W
         have hsa:=fun W=>run_cutAt (P:=Tryz.prog) elI szI aoL L.length cL ((M.length:Int)+1) (by omega) (by omega) W
         rw[show ((M.length:Int)+1).toNat=M.length+1 by omega] at hsl hsa
         clear hcL
         have hE:=Ext.refl w2
         cases hk:kpB g h (L.take (M.length+1)) (M++[Y])
         · rw[hk] at cK
           have Hno:Hid ((if (bset M).testBit (nthN E k) || !kpB g h (L.take (M.length+1)) (M++[nthN E k]) then none else fiS g h L E f (M++[nthN E k]))=none):=Lib.hid (by rw[←HY.out,hk];simp)
           clear hk
           go_wp2_with fail
           (refine wp_region_lat (w2) (by kernel_rfl) (by kernel_rfl) hE ?_);(repeat (go_big_quiet_step (first | (go_at_call 213;with_reducible exact Calls.lat (cK _)))));(refine wpQuiet_nil ?_);(intro W hE');(replace hE:=lat_of hE');(clear hE')
           go_wp2_with fail
           go_roundw
           case rel=>exact⟨k+1,by omega,by go_num,hEwr.trans (hEN.trans (hE2.trans hE)),Lib.hid fun k' hk'=>by by_cases e:k'=k;(subst e;exact Hno.out);exact H.out k' (by omega)⟩
           case measure=>(simp[intOf];omega)
         · rw[hk] at cK
           have Hyes:Hid ((if (bset M).testBit (nthN E k) || !kpB g h (L.take (M.length+1)) (M++[nthN E k]) then none else fiS g h L E f (M++[nthN E k]))=fiS g h L E f (M++[Y])):=Lib.hid (by rw[←HY.out,hk,Ht.out];rfl)
           clear hk
           go_wp2_with fail
           (refine wp_region_lat (w2) (by kernel_rfl) (by kernel_rfl) hE ?_);(repeat (go_big_quiet_step (first | (go_at_call 213;with_reducible exact Calls.lat (cK _)))));(refine wpQuiet_nil ?_);(intro W hE');(replace hE:=lat_of hE');(clear hE')
           have hEq:=hE2b.trans hE
           have cR:=fun W (hW:Ext w2 W)=>Hih.out (M++[Y]) (.slice aoN (M.length+1) cN) W0 W (HV.out _ (hE2b.trans hW)) (HU.out _ (hE2b.trans hW)) (HL.out _ (hE2b.trans hW)) ((HN.out _ (hE2.trans hW)).mono (hE0W.trans hEw)) (hE0W.trans (hE2b.trans hW)) Hnd.out HMo2.out (by rw[HnM.out];omega) (by rw[HnM.out];omega)
           cases hr:fiS g h L E f (M++[Y]) with
           | none =>
            rw[hr] at cR Hyes
            go_wp2_with fail
            refine (cR _ hE).mono ?_
            rintro e w3 ⟨v3,Z,rfl,hO3,hZ1,hZ2,hE3⟩
            clear hZ1 hZ2 cR hr
            go_wp2_with fail
            go_roundw
            case rel=>exact⟨k+1,by omega,by go_num,hEwr.trans (hEN.trans (hE2.trans (hE.trans hE3))),Lib.hid fun k' hk'=>by by_cases e:k'=k;(subst e;exact Hyes.out);exact H.out k' (by omega)⟩
            case measure=>(simp[intOf];omega)
           | some N =>
            rw[hr] at cR Hyes
            have HFs:Hid (fiS g h L E (f+1) M=some N):=Lib.hid (by rw[HF.out];exact findSome_at hlt H.out Hyes.out)
            go_wp2_with fail
            refine (cR _ hE).mono ?_
            rintro e w3 ⟨v3,Z,rfl,hO3,hZ1,hZ2,hE3⟩
            have HZ:=Lib.hid (hZ1 N rfl)
            have hEf:=hE0.trans (hE2b.trans (hE.trans hE3))
            clear hZ1 hZ2 cR hr
            go_wp2_with fail
            rw[←HEd.out,HFs.out]
            exact bodyPost_ret (v:=.tuple #[v3,.bool true]) (by simp[results,Tryz.results181,go_sem]) rfl ⟨_,Z,rfl,hO3,fun N' e=>by cases e;exact HZ.out,fun _ e=>by simp at e,hEf⟩
       · rw[ht] at cS
         simp only[Bool.not_true] at cS
         have Hno:Hid ((if (bset M).testBit (nthN E k) || !kpB g h (L.take (M.length+1)) (M++[nthN E k]) then none else fiS g h L E f (M++[nthN E k]))=none):=Lib.hid (by rw[←HY.out,ht];rfl)
         clear ht
         go_wp2_with fail
         refine (cS _ (Ext.refl _)).mono ?_
         rintro e w2 ⟨rfl,hE2⟩
         have hE:=Ext.refl w2
         go_wp2_with fail
         (refine wp_region_lat (w2) (by kernel_rfl) (by kernel_rfl) hE ?_);(repeat (go_big_quiet_step (first | (fail "no call"))));(refine wpQuiet_nil ?_);(intro W hE');(replace hE:=lat_of hE');(clear hE')
         go_wp2_with fail
         go_roundw
         case rel=>exact⟨k+1,by omega,by go_num,hEwr.trans (hEN.trans (hE2.trans hE)),Lib.hid fun k' hk'=>by by_cases e:k'=k;(subst e;exact Hno.out);exact H.out k' (by omega)⟩
         case measure=>(simp[intOf];omega)
    · have hkl:k=E.length:=by omega
      have HFn:Hid (fiS g h L E (f+1) M=none):=Lib.hid (by rw[HF.out];exact findSome_none fun k' hk'=>H.out k' (by omega))
      have hEb:=hE1.trans hE
      have hOe:Own 3 W0 (wr.alloc (.cells #[] 3)) (.slice (some ⟨wr.heap.size,0,none⟩) 0 0) (castL []):=(own_made (TI:=3) (n:=0) (by omega) hE (castL []) rfl).mono (hE0W.trans hE1)
      have hEe:=(hE0.trans hEb).alloc (.cells #[] 3)
      clear hkl
      go_wp2_with fail
      rw[←HEd.out,HFn.out]
      exact bodyPost_ret (v:=.tuple #[.slice (some ⟨wr.heap.size,0,none⟩) 0 0,.bool false]) (by simp[results,Tryz.results181,go_sem]) rfl ⟨_,[],rfl,hOe,fun N e=>by simp at e,fun _ _=>rfl,hEe⟩
end Go.Zz
namespace Go.Zz
open Go.RowKit
def TB(b:Bool)(e:Ending):Prop:=∃v,e=.returned (.tuple #[v,.bool b])
theorem TB.mk(v:Value)(b:Bool):TB b (.returned (.tuple #[v,.bool b])):=⟨v,rfl⟩
end Go.Zz
namespace Go.Zz
open Go.RowKit Go.Proofs
set_option maxHeartbeats 2000000
set_option maxRecDepth 8000
def tailV(ao:Option Addr)(n c k:Nat):Value:=.slice (if c=k then ao else ao.map (·.add k)) (n - k) (c - k)
theorem run_cutFrom{P:Program}{t:TypeId}(ht:P.underlying t=some (.slice (P.elem t)))(hs:∀w,(sizeOf (P.elem t)).run P w=.ok 1 w)(ao:Option Addr)(n c:Nat)(k:Int)(k0:0≤k)(hk:k≤n)(W:World) :
 (Instr.slice t (.slice ao n c) (some (.int .i64 k)) none none).run P W=.ok (tailV ao n c k.toNat) W:=by
 rw[run_slice_l (ht:=ht) (h0:=k0) (h1:=hk),hs]
 simp[Result.andThen,sliced,tailV]
theorem run_cutFromAt{P:Program}{t:TypeId}(ht:P.underlying t=some (.slice (P.elem t)))(hs:∀w,(sizeOf (P.elem t)).run P w=.ok 1 w)(ao:Option Addr)(n c:Nat)(k:Int)(k0:0≤k)(hk:k≤n)(W:World) :
 (Instr.sliceAt t (.slice ao n c) (some (.int .i64 k)) none none).run P W=.ok (tailV ao n c k.toNat) W:=by
 rw[run_sliceAt_slice (h:=ht),run_cutFrom ht hs ao n c k k0 hk]
theorem Ints.drop{w:World}{ao:Option Addr}{n c:Nat}{l:List Int}(h:Ints w (.slice ao n c) l){k:Nat}(hk:k≤l.length):Ints w (tailV ao n c k) (l.drop k):=by
 obtain⟨ao',c',hv,h1,h2,h3⟩:=h
 simp only[Value.slice.injEq] at hv
 obtain⟨rfl,rfl,rfl⟩:=hv
 have hl:(l.drop k).length=l.length - k:=List.length_drop
 refine⟨_,c - k,by rw[hl];rfl,by rw[hl];omega,by rw[hl];omega,fun i hi=>?_⟩
 rw[hl] at hi
 obtain⟨a,rfl,hc⟩:=h3 (k+i) (by omega)
 refine⟨a.add k,by rw[if_neg (by omega)];rfl,?_⟩
 rw[show (a.add k).add i=a.add (k+i) by unfold Addr.add;by_cases h1:k=0<;>by_cases h2:i=0<;>simp[h1,h2,Nat.add_assoc],hc]
 simp[nth,List.getD,List.getElem?_drop]
def MiP(w0:World)(T:List Int)(s:Value)(wx:World):Prop:=∃ao c,s=.slice ao T.length c∧Own 3 w0 wx (.slice ao T.length c) T∧Ext w0 wx
theorem MiP.of{w0:World}{A B:List Int}{s:Value}{wx:World}(h:OwnE 3 w0 w0 wx s (A++B))(hE:Ext w0 wx):MiP w0 (A++B) s wx:=by
 have h2:=h.own (Ext.refl w0)
 obtain⟨ao,c,rfl,-⟩:=h2.shape
 exact⟨ao,c,rfl,h2,hE⟩
theorem l19Minus_any(u1 u2:Value)(T P:List Int)(w:World)(h1:Ints w u1 T)(h2:Ints w u2 P) :
 Calls Tryz.prog 118 #[u1,u2] w fun e w'=>TB (subM T P) e∧Ext w w':=by
 obtain⟨ao2,c2,adrP,rfl,hlenP,hadrP,hcellP⟩:=h2.op
 have hixP:=ints_index (c:=c2) elI szI hadrP
 have hlenT:T.length≤17592186044416:=by obtain⟨_,_,_,_,h',_⟩:=h1;exact h'
 have hO:Own 3 w (w.alloc (.cells #[] 3)) (.slice (some ⟨w.heap.size,0,none⟩) 0 0) []:=own_made (TI:=3) (n:=0) (by omega) (Ext.refl w) [] rfl
 have hEl:=(Ext.refl w).alloc (.cells #[] 3)
 have hI:=h1.ext hEl
 clear hadrP h2 h1
 go_enter Tryz.func118,Tryz.ntmps118
 go_wp2_with (at_builtin;refine wp_appends slI rfl _ _ rfl w _ _ _ _ _ hO hI hEl (by simpa using hlenT) rfl rfl ?_;intro v1 w1 hO1 hE1;rw[List.nil_append] at hO1;obtain⟨ao1,c1,rfl,-⟩:=hO1.shape)
 have HO1:=Lib.hid hO1
 have HE1:=Lib.hid hE1
 clear hO hEl hI hO1 hE1
 go_loopw [6,7] (fun so si wr=>∃(k:Nat) (T':List Int) (ao:Option Addr) (c:Nat),k≤P.length∧si=.int .i64 k∧so=.slice ao T'.length c∧Own 3 w wr (.slice ao T'.length c) T'∧T'.length≤T.length∧Hid (subM T P=subM T' (P.drop k))∧Ext w wr) (fun _ si _=>P.length - (intOf si).toNat)
 case atStart=>exact⟨0,T,ao1,c1,by omega,rfl,rfl,HO1.out,Nat.le_refl _,Lib.hid rfl,HE1.out⟩
 case round =>
  clear HO1 HE1
  obtain⟨k,T',ao,c,hk,rfl,rfl,hOr,hTl,HS,hEr⟩:=hrel
  have HO:=Lib.hid (fun W (hW:Ext wr W)=>hOr.ext hW)
  by_cases hlt:k<P.length
  · obtain⟨aoT,cT,adrT,hvT,hlT,hadrT,hcellT⟩:=hOr.ints.op
    simp only[Value.slice.injEq] at hvT
    obtain⟨rfl,-,rfl⟩:=hvT
    have hixT:=ints_index (c:=c) elI szI hadrT
    have hckP:=fun W (hW:Ext wr W)=>hcellP k W hlt (hEr.trans hW)
    obtain⟨Y,hY⟩:∃Y,Y=nth P k:=⟨_,rfl⟩
    have Hdrop:Hid (P.drop k=Y :: P.drop (k+1)):=Lib.hid (by
     rw[hY,List.drop_eq_getElem_cons hlt];simp[nth,List.getD,hlt])
    have hcap:=hOr.ints.cap
    rw[←hY] at hckP
    have HEr:=Lib.hid hEr
    have HcP:=Lib.hid hcellP
    clear hadrT hOr hY hcellP
    have hE:=Ext.refl wr
    go_wp2_with fail
    go_loopw [8,9] (fun sa sj wq=>∃j:Nat,j≤T'.length∧sj=.int .i64 j∧sa=.int .i64 (lastTo T' Y j)∧Ext wr wq) (fun _ sj _=>T'.length - (intOf sj).toNat)
    case atStart=>exact⟨0,by omega,rfl,rfl,hE⟩
    case round =>
     clear hE
     rename World=>wq
     obtain⟨j,hj,rfl,rfl,hE⟩:=hrel
     by_cases hlj:j<T'.length
     · have hk1:=fun U=>hcellT j _ hlj (hE.trans (lat_ext wq U))
       have hk2:=fun U=>hckP _ (hE.trans (lat_ext wq U))
       have hE1:=hE
       clear hE
       have hE:=Ext.refl wq
       by_cases e:nth T' j=Y
       · have Hn:=Lib.hid (lastTo_yes e)
         have hq:(nth T' j == Y)=true:=by rw[e];simp
         clear e
         go_wp2_with fail
         (refine wp_region_lat (wq) (by kernel_rfl) (by kernel_rfl) hE ?_);(repeat (go_big_quiet_step (first | (fail "no call"))));(refine wpQuiet_nil ?_);(intro W hE');(replace hE:=lat_of hE');(clear hE')
         go_wp2_with fail
         go_roundw
         case rel=>exact⟨j+1,by omega,by go_num,by rw[Hn.out],hE1.trans hE⟩
         case measure=>(simp[intOf];omega)
       · have Hn:=Lib.hid (lastTo_no e)
         have hq:(nth T' j == Y)=false:=by rw[beq_eq_false_iff_ne];exact e
         clear e
         go_wp2_with fail
         (refine wp_region_lat (wq) (by kernel_rfl) (by kernel_rfl) hE ?_);(repeat (go_big_quiet_step (first | (fail "no call"))));(refine wpQuiet_nil ?_);(intro W hE');(replace hE:=lat_of hE');(clear hE')
         go_wp2_with fail
         go_roundw
         case rel=>exact⟨j+1,by omega,by go_num,by rw[Hn.out],hE1.trans hE⟩
         case measure=>(simp[intOf];omega)
     · have hjl:j=T'.length:=by omega
       subst hjl
       clear hlj hj
       by_cases hneg:lastTo T' Y T'.length<0
       · have Hs:Hid (subM T P=false):=Lib.hid (by rw[HS.out,Hdrop.out,subM_no (last_no hneg)])
         go_wp2_with fail
         have hEf:=HEr.out.trans hE
         exact bodyPost_ret (v:=.tuple #[.slice (some ⟨wq.heap.size,0,none⟩) 0 0,.bool false]) (by simp[results,Tryz.results118,go_sem]) rfl ⟨by rw[Hs.out];exact TB.mk _ _,hEf.alloc _⟩
       · obtain⟨a,ea,ha,hd,hm⟩:=last_yes hneg
         have Hs:Hid (subM T P=subM (T'.take a++T'.drop (a+1)) (P.drop (k+1))):=Lib.hid (by rw[HS.out,Hdrop.out,subM_yes hm,hd])
         have Hlen:Hid ((T'.take a++T'.drop (a+1)).length≤T.length):=Lib.hid (by rw[List.length_append,List.length_take,List.length_drop];omega)
         have hln:(T'.take a).length+(T'.drop (a+1)).length≤17592186044416:=by rw[List.length_take,List.length_drop];omega
         rw[ea]
         have hna:¬((a:Int)<0):=by omega
         have hsl:=fun W=>run_cut (P:=Tryz.prog) elI szI ao T'.length c (a:Int) (by omega) (by omega) W
         have hsa:=fun W=>run_cutAt (P:=Tryz.prog) elI szI ao T'.length c (a:Int) (by omega) (by omega) W
         have hfl:=fun W=>run_cutFrom (P:=Tryz.prog) elI szI ao T'.length c ((a:Int)+1) (by omega) (by omega) W
         have hfa:=fun W=>run_cutFromAt (P:=Tryz.prog) elI szI ao T'.length c ((a:Int)+1) (by omega) (by omega) W
         rw[show ((a:Int)).toNat=a by omega] at hsl hsa
         rw[show ((a:Int)+1).toNat=a+1 by omega] at hfl hfa
         have hw1:IntKind.i64.wrap ((a:Int)+1)=(a:Int)+1:=IntWalk.i64_in _ (by omega)
         have HA:=Lib.hid (fun W (hW:Ext wq W)=>(HO.out W (hE.trans hW)).ints.take (k:=a) (by omega))
         have HB:=Lib.hid (fun W (hW:Ext wq W)=>(HO.out W (hE.trans hW)).ints.drop (k:=a+1) (by omega))
         have hEq:=HEr.out.trans hE
         clear hneg ea hd hm hcellT hckP hixT hixP
         have hE1:=hE
         clear hE
         have hE:=Ext.refl wq
         go_wp2_with fail
         first | (go_region_held3 (fun W=>Ext wq W) (exact (by repeat (first | assumption | exact Ext.refl _ | (apply And.left;assumption) | apply Ext.drew | apply Ext.alloc))) (first | (have hOq:=hOC;refine step_appendsE slI rfl _ _ rfl wq wq _ _ (T'.take a) (T'.drop (a+1)) (Or.inr (by first | exact hOC | exact hOC.alloc _ | exact (hOC.alloc _).drew)) (HB.out _ (by repeat (first | assumption | exact Ext.refl _ | (apply And.left;assumption) | apply Ext.drew | apply Ext.alloc))) (by repeat (first | assumption | exact Ext.refl _ | (apply And.left;assumption) | apply Ext.drew | apply Ext.alloc)) hln rfl rfl ?_;intro vD wD hOD hXD hTD) | (refine step_copy2 slI rfl _ _ rfl _ _ (T'.take a) rfl rfl (by repeat (first | (with_reducible assumption) | (with_reducible exact Blk.new _ _ _) | ((with_reducible refine Blk.new' ?_);simp[go_sem];done) | (with_reducible apply Blk.alloc) | (with_reducible apply Blk.drew))) (HA.out _ (by repeat (first | assumption | exact Ext.refl _ | (apply And.left;assumption) | apply Ext.drew | apply Ext.alloc))) wq (by first | exact Nat.le_refl _ | omega | (simp;omega)) (by repeat (first | assumption | exact Ext.refl _ | (apply And.left;assumption) | apply Ext.drew | apply Ext.alloc)) ?_;intro aoC cC wC hOC hZC hEC;have hXC:=Ext.trans (a:=wq) (by repeat (first | assumption | exact Ext.refl _ | (apply And.left;assumption) | apply Ext.drew | apply Ext.alloc)) hEC))) | (fail "the region")
         all_goals
          obtain⟨aoN,cN,rfl,hON,hEN⟩:=MiP.of hOD hXD
          go_wp2_with fail
          go_roundw
          case rel=>exact⟨k+1,_,aoN,cN,by omega,by go_num,rfl,hON.mono hEq,Hlen.out,Hs,hEq.trans hEN⟩
          case measure=>(simp[intOf];omega)
  · have hkl:k=P.length:=by omega
    have Hs:Hid (subM T P=true):=Lib.hid (by rw[HS.out,hkl,List.drop_length];rfl)
    go_wp2_with fail
    exact bodyPost_ret (v:=.tuple #[.slice ao T'.length c,.bool true]) (by simp[results,Tryz.results118,go_sem]) rfl ⟨by rw[Hs.out];exact TB.mk _ _,hEr⟩
end Go.Zz
namespace Go.Zz
open Go.RowKit Go.Proofs
set_option maxHeartbeats 1000000
set_option maxRecDepth 4000
theorem SetOf_any(v:Value)(l:List Int)(vX:Value)(X:List Int)(w:World)(h:Ints w v l)(hX:Ints w vX X) :
 Calls Tryz.prog 92 #[.agg #[v],vX] w fun e w'=>e=.returned (.tuple #[.int .i64 (soV l X),.bool (soB l X)])∧Ext w w':=by
 obtain⟨wb,hwb⟩:∃wb,wb=w.alloc (.cells #[v] 27):=⟨_,rfl⟩
 have hE0:=(Ext.refl w).alloc (.cells #[v] 27)
 have hb:=box_cell w v 27
 rw[←hwb] at hE0 hb
 have hg:∀W,Ext wb W→Ints W v l:=fun W hW=>h.ext (hE0.trans hW)
 have hE:=Ext.refl wb
 have Hsz:Hid (w.heap.size+1=wb.heap.size):=Lib.hid (by rw[hwb];simp[go_sem])
 have Hwb:=Lib.hid hwb
 clear hwb h
 obtain⟨ao,c,adr,rfl,hlen,hadr,hcell⟩:=hX.op
 have hix:=ints_index (c:=c) elI szI hadr
 clear hadr hX
 go_enter Tryz.func92,Tryz.ntmps92
 go_wp2_with fail
 rw[←Hwb.out]
 go_loopw [6,11] (fun av iv wr=>∃(k a:Nat),k≤X.length∧iv=.int .i64 k∧av=.int .i64 a∧a<2 ^ 24∧Ext wb wr∧Hid (soG l X 0=soG l (X.drop k) a)) (fun _ iv _=>X.length - (intOf iv).toNat)
 case atStart=>exact⟨0,0,by omega,rfl,rfl,by decide,hE,Lib.hid rfl⟩
 case round =>
  clear hE
  obtain⟨k,a,hk,rfl,rfl,ha,hE,H⟩:=hrel
  have kb:=hb _ hE
  by_cases hlt:k<X.length
  · have hd:=drop_nth X k hlt
    have hck:=hcell k wr hlt (hE0.trans hE)
    cases hh:hasB l (nth X k)
    · have Hn:Hid (soB l X=false∧soV l X=0):=Lib.hid (soG_no (by rw[H.out,hd,soG_hno hh]))
      have cI:=has_any v l (nth X k) wr (hg _ hE)
      rw[hh] at cI
      clear hd hh
      go_wp2_with (go_at_call 148;refine cI.mono ?_;rintro e w1 ⟨rfl,hE1⟩)
      exact bodyPost_ret (v:=.tuple #[.int .i64 0,.bool false]) (by simp[results,Tryz.results92,go_sem]) rfl ⟨by rw[Hn.out.1,Hn.out.2],hE0.trans (hE.trans hE1)⟩
    · have cI:=has_any v l (nth X k) wr (hg _ hE)
      rw[hh] at cI
      obtain⟨n,hn,hno,hgr⟩:=hasB_nat hh
      have hob:=ord_bd hgr
      rw[hn] at hd hh cI hck
      have Hx:=Lib.hid hn
      have hs1:=ishl_one (n:=n) (by omega)
      have hor:=ior_pw (o:=a) (z:=n) ha (by omega)
      cases ht:a.testBit n
      · have hin:=in_val a n ha (by omega) (b:=false)
        have Hn:Hid (soG l X 0=soG l (X.drop (k+1)) (a ||| 2 ^ n)):=Lib.hid (by rw[H.out,hd,soG_go hh ht])
        have hab:a ||| 2 ^ n<2 ^ 24:=Nat.or_lt_two_pow ha (Nat.pow_lt_pow_right (by omega) (by omega))
        have ci:=fun W=>hin W ht
        clear hd hh ht hgr hn hin
        have hcx:∀W,Ext wr W→W.cell? (adr k)=some (.int .i64 (n:Int)):=fun W hW=>hW.cell hck
        go_wp2_with (first | (go_at_call 148;refine cI.mono ?_;rintro e w1 ⟨rfl,hE1⟩) | (go_at_call 163;refine (ci _).mono ?_;rintro e w' ⟨rfl,rfl⟩))
        go_roundw
        case rel=>exact⟨k+1,a ||| 2 ^ n,by omega,by go_num,rfl,hab,hE.trans hE1,Hn⟩
        case measure=>(simp[intOf];omega)
      · have hin:=in_val a n ha (by omega) (b:=true)
        have Hn:Hid (soB l X=false∧soV l X=0):=Lib.hid (soG_no (by rw[H.out,hd,soG_bno ht]))
        have ci:=fun W=>hin W ht
        clear hd hh ht hgr hn hin
        go_wp2_with (first | (go_at_call 148;refine cI.mono ?_;rintro e w1 ⟨rfl,hE1⟩) | (go_at_call 163;refine (ci _).mono ?_;rintro e w' ⟨rfl,rfl⟩))
        exact bodyPost_ret (v:=.tuple #[.int .i64 0,.bool false]) (by simp[results,Tryz.results92,go_sem]) rfl ⟨by rw[Hn.out.1,Hn.out.2],hE0.trans (hE.trans hE1)⟩
  · have hkl:k=X.length:=by omega
    have Hn:Hid (soB l X=isGrp l∧soV l X=(a:Int)):=Lib.hid (soG_yes (by rw[H.out,hkl,List.drop_length];rfl))
    clear hkl
    have cG:=IsGroup_any v l wr (hg _ hE)
    go_wp2_with (refine cG.mono ?_;rintro e w1 ⟨rfl,hE1⟩)
    exact bodyPost_ret (v:=.tuple #[.int .i64 a,.bool (isGrp l)]) (by simp[results,Tryz.results92,go_sem]) rfl ⟨by rw[Hn.out.1,Hn.out.2],hE0.trans (hE.trans hE1)⟩
theorem ImageOfMap_any(v:Value)(l:List Int)(vX:Value)(X:List Int)(w:World)(h:Ints w v l)(hX:Ints w vX X) :
 Calls Tryz.prog 206 #[.agg #[v],vX] w fun e w'=>∃z:Int,e=.returned (.tuple #[.int .i64 z,.bool (X.all (hasB l)&&isGrp l)])∧Ext w w':=by
 obtain⟨wb,hwb⟩:∃wb,wb=w.alloc (.cells #[v] 27):=⟨_,rfl⟩
 have hE0:=(Ext.refl w).alloc (.cells #[v] 27)
 have hb:=box_cell w v 27
 rw[←hwb] at hE0 hb
 have hg:∀W,Ext wb W→Ints W v l:=fun W hW=>h.ext (hE0.trans hW)
 have hE:=Ext.refl wb
 have Hsz:Hid (w.heap.size+1=wb.heap.size):=Lib.hid (by rw[hwb];simp[go_sem])
 have Hwb:=Lib.hid hwb
 clear hwb h
 obtain⟨ao,c,adr,rfl,hlen,hadr,hcell⟩:=hX.op
 have hix:=ints_index (c:=c) elI szI hadr
 clear hadr hX
 go_enter Tryz.func206,Tryz.ntmps206
 go_wp2_with fail
 rw[←Hwb.out]
 go_loopw [6,11] (fun av iv wr=>∃(k a:Nat),k≤X.length∧iv=.int .i64 k∧av=.int .i64 a∧a<2 ^ 24∧Ext wb wr∧Hid (∀j,j<k→hasB l (nth X j)=true)) (fun _ iv _=>X.length - (intOf iv).toNat)
 case atStart=>exact⟨0,0,by omega,rfl,rfl,by decide,hE,Lib.hid (by omega)⟩
 case round =>
  clear hE
  obtain⟨k,a,hk,rfl,rfl,ha,hE,H⟩:=hrel
  have kb:=hb _ hE
  by_cases hlt:k<X.length
  · have hck:=hcell k wr hlt (hE0.trans hE)
    have cI:=has_any v l (nth X k) wr (hg _ hE)
    cases hh:hasB l (nth X k)
    · have Hn:Hid ((X.all (hasB l)&&isGrp l)=false):=Lib.hid (by
       have:X.all (hasB l)=false:=by
        rw[List.all_eq_false];exact⟨_,nth_mem hlt,by rw[hh];simp⟩
       rw[this];rfl)
      rw[hh] at cI
      clear hh
      go_wp2_with (go_at_call 148;refine cI.mono ?_;rintro e w1 ⟨rfl,hE1⟩)
      exact bodyPost_ret (v:=.tuple #[.int .i64 0,.bool false]) (by simp[results,Tryz.results206,go_sem]) rfl ⟨0,by rw[Hn.out],hE0.trans (hE.trans hE1)⟩
    · rw[hh] at cI
      have Hh:=Lib.hid hh
      obtain⟨n,hn,hno,hgr⟩:=hasB_nat hh
      have hob:=ord_bd hgr
      rw[hn] at cI hck
      have hs1:=ishl_one (n:=n) (by omega)
      have hor:=ior_pw (o:=a) (z:=n) ha (by omega)
      have hab:a ||| 2 ^ n<2 ^ 24:=Nat.or_lt_two_pow ha (Nat.pow_lt_pow_right (by omega) (by omega))
      have Hx:=Lib.hid hn
      have Hc:=Lib.hid hcell
      clear hh hgr hn hcell
      go_wp2_with (go_at_call 148;refine cI.mono ?_;rintro e w1 ⟨rfl,hE1⟩)
      go_roundw
      case rel=>exact⟨k+1,a ||| 2 ^ n,by omega,by go_num,rfl,hab,hE.trans hE1,Lib.hid fun j hj=>by by_cases e:j=k;(subst e;exact Hh.out);exact H.out j (by omega)⟩
      case measure=>(simp[intOf];omega)
  · have hkl:k=X.length:=by omega
    have Hn:Hid ((X.all (hasB l)&&isGrp l)=isGrp l):=Lib.hid (by
     have:X.all (hasB l)=true:=List.all_eq_true.2 fun x hx=>by
      obtain⟨j,hj,rfl⟩:=mem_nth hx;exact H.out j (by omega)
     rw[this];rfl)
    clear hkl
    have cG:=IsGroup_any v l wr (hg _ hE)
    go_wp2_with (refine cG.mono ?_;rintro e w1 ⟨rfl,hE1⟩)
    exact bodyPost_ret (v:=.tuple #[.int .i64 a,.bool (isGrp l)]) (by simp[results,Tryz.results206,go_sem]) rfl ⟨a,by rw[Hn.out],hE0.trans (hE.trans hE1)⟩
theorem IsFreimanMap_any(v u:Value)(g h:List Int)(vX vY:Value)(X Y:List Int)(w:World)(hv:Ints w v g)(hu:Ints w u h)(hX:Ints w vX X)(hY:Ints w vY Y) :
 Calls Tryz.prog 170 #[.agg #[v],.agg #[u],vX,vY] w fun e w'=>e=.returned (.bool (fmF g h X Y))∧Ext w w':=by
 obtain⟨wb,hwb⟩:∃wb,wb=(w.alloc (.cells #[v] 27)).alloc (.cells #[u] 27):=⟨_,rfl⟩
 have hE0:Ext w wb:=by rw[hwb];exact ((Ext.refl _).alloc _).alloc _
 have B0:Blk wb w.heap.size 27 #[v]:=by rw[hwb];exact (Blk.new _ _ _).alloc _
 have B1:Blk wb (w.heap.size+1) 27 #[u]:=by rw[hwb];simpa using Blk.new (w.alloc (.cells #[v] 27)) 27 #[u]
 have b0:∀W,Ext wb W→W.cell? ⟨w.heap.size,0,none⟩=some v:=fun W hW=>(B0.ext hW).cell (i:=0) rfl
 have b1:∀W,Ext wb W→W.cell? ⟨w.heap.size+1,0,none⟩=some u:=fun W hW=>(B1.ext hW).cell (i:=0) rfl
 have HV:=Lib.hid (fun W (hW:Ext wb W)=>hv.ext (hE0.trans hW))
 have HU:=Lib.hid (fun W (hW:Ext wb W)=>hu.ext (hE0.trans hW))
 have hE:=Ext.refl wb
 have Hwb:=Lib.hid hwb
 clear hv hu hwb B0 B1
 have HX:=Lib.hid (fun W (hW:Ext wb W)=>hX.ext (hE0.trans hW))
 have HY:=Lib.hid (fun W (hW:Ext wb W)=>hY.ext (hE0.trans hW))
 obtain⟨aoX,cX,-,rfl,-,-,-⟩:=hX.op
 obtain⟨aoY,cY,-,rfl,-,-,-⟩:=hY.op
 clear hX hY
 have cS:=fun W (hW:Ext wb W)=>SetOf_any v g _ X W (HV.out W hW) (HX.out W hW)
 have cI:=fun W (hW:Ext wb W)=>ImageOfMap_any u h _ Y W (HU.out W hW) (HY.out W hW)
 have cN:=fun W=>within_any ((X.length:Nat):Int) 1 6 W
 have hin:inB ((X.length:Nat):Int) 1 6=decide (1≤X.length∧X.length≤6):=by
  rw[Bool.eq_iff_iff,inB_t,decide_eq_true_iff];omega
 rw[hin] at cN
 have heq:(((Y.length:Nat):Int) != ((X.length:Nat):Int)) = !decide (X.length=Y.length):=by
  rw[Bool.eq_iff_iff];simp;omega
 clear hin
 have Hf:Hid (fineF g h X Y=(soB g X&&decide (1≤X.length∧X.length≤6)&&decide (X.length=Y.length)&&(Y.all (hasB h)&&isGrp h))):=Lib.hid (by
  unfold fineF
  cases soB g X<;>cases isGrp h<;>cases Y.all (hasB h)<;>cases decide (X.length=Y.length)<;>cases decide (1≤X.length∧X.length≤6)<;>rfl)
 cases hf:fineF g h X Y
 · have Hn:Hid (fmF g h X Y=false):=Lib.hid (by unfold fmF;rw[hf];rfl)
   rw[hf] at Hf
   clear hf
   obtain⟨d1,hd1⟩:∃d,d=soB g X:=⟨_,rfl⟩
   obtain⟨d2,hd2⟩:∃d,d=(Y.all (hasB h)&&isGrp h):=⟨_,rfl⟩
   obtain⟨d3,hd3⟩:∃d,d=decide (X.length=Y.length):=⟨_,rfl⟩
   obtain⟨d4,hd4⟩:∃d,d=decide (1≤X.length∧X.length≤6):=⟨_,rfl⟩
   rw[←hd1,←hd2,←hd3,←hd4] at Hf
   rw[←hd1] at cS
   rw[←hd2] at cI
   rw[←hd3] at heq
   rw[←hd4] at cN
   clear hd1 hd2 hd3 hd4
   have Hf2:=Hf.out
   cases d1
   · clear Hf2 Hf
     go_enter Tryz.func170,Tryz.ntmps170
     go_wp2_with fail
     rw[←Hwb.out]
     refine (cS _ hE).mono ?_
     rintro e w1 ⟨rfl,hE1⟩
     go_wp2_with fail
     go_ret
     exact⟨ret_bool Hn.out.symm,hE0.trans hE1⟩
   cases d4
   · clear Hf2 Hf
     go_enter Tryz.func170,Tryz.ntmps170
     go_wp2_with fail
     rw[←Hwb.out]
     refine (cS _ hE).mono ?_
     rintro e w1 ⟨rfl,hE1⟩
     go_wp2_with (go_at_call 138;refine (cN _).mono ?_;rintro e w' ⟨rfl,rfl⟩)
     go_ret
     exact⟨ret_bool Hn.out.symm,hE0.trans hE1⟩
   cases d3
   · clear Hf2 Hf
     go_enter Tryz.func170,Tryz.ntmps170
     go_wp2_with fail
     rw[←Hwb.out]
     refine (cS _ hE).mono ?_
     rintro e w1 ⟨rfl,hE1⟩
     go_wp2_with (go_at_call 138;refine (cN _).mono ?_;rintro e w' ⟨rfl,rfl⟩)
     go_ret
     exact⟨ret_bool Hn.out.symm,hE0.trans hE1⟩
   cases d2
   · clear Hf2 Hf
     go_enter Tryz.func170,Tryz.ntmps170
     go_wp2_with fail
     rw[←Hwb.out]
     refine (cS _ hE).mono ?_
     rintro e w1 ⟨rfl,hE1⟩
     have k1:=b1 _ hE1
     go_wp2_with (go_at_call 138;refine (cN _).mono ?_;rintro e w' ⟨rfl,rfl⟩)
     refine (cI _ hE1).mono ?_
     rintro e w2 ⟨z,rfl,hE2⟩
     go_wp2_with fail
     go_ret
     exact⟨ret_bool Hn.out.symm,hE0.trans (hE1.trans hE2)⟩
   · simp at Hf2
 · have Hn:Hid (fmF g h X Y=kpB g h (natL X) (natL Y)):=Lib.hid (by unfold fmF;rw[hf];rfl)
   have Hf2:=Hf.out
   rw[hf] at Hf2
   have Hf3:=Hf2.symm
   simp only[Bool.and_eq_true] at Hf3
   obtain⟨⟨⟨q1,q2⟩,q3⟩,q4,q5⟩:=Hf3
   rw[q1] at cS
   rw[q2] at cN
   rw[q3] at heq
   rw[q4,q5] at cI
   simp only[Bool.not_true,Bool.and_self] at heq cI
   obtain⟨hg,hh,⟨L,M,rfl,rfl,hL,hM⟩,hlm,hl6⟩:=fine_nat hf
   rw[castL_len,castL_len] at hlm
   rw[castL_len] at hl6
   rw[natL_cast,natL_cast] at Hn
   have cK:=fun W (hW:Ext wb W)=>keeps_any v u g h _ _ L M W (HV.out W hW) (HU.out W hW) (Lib.hid hg) (Lib.hid hh) (HX.out W hW) (HY.out W hW) hL hM (by omega) (by omega)
   clear hf hg hh hlm hL hM Hf2 q1 q2 q3 q4 q5 Hf
   go_enter Tryz.func170,Tryz.ntmps170
   go_wp2_with fail
   rw[←Hwb.out]
   refine (cS _ hE).mono ?_
   rintro e w1 ⟨rfl,hE1⟩
   have k1:=b1 _ hE1
   go_wp2_with (go_at_call 138;refine (cN _).mono ?_;rintro e w' ⟨rfl,rfl⟩)
   refine (cI _ hE1).mono ?_
   rintro e w2 ⟨z,rfl,hE2⟩
   have hE12:=hE1.trans hE2
   have k02:=b0 _ hE12
   have k12:=b1 _ hE12
   go_wp2_with fail
   refine (cK _ hE12).mono ?_
   rintro e w3 ⟨rfl,hE3⟩
   go_wp2_with fail
   go_ret
   exact⟨ret_bool Hn.out.symm,hE0.trans (hE12.trans hE3)⟩
theorem IsFreimanIso_any(v u:Value)(g h:List Int)(vX vY:Value)(X Y:List Int)(w:World)(hv:Ints w v g)(hu:Ints w u h)(hX:Ints w vX X)(hY:Ints w vY Y) :
 Calls Tryz.prog 93 #[.agg #[v],.agg #[u],vX,vY] w fun e w'=>e=.returned (.bool (isoF g h X Y))∧Ext w w':=by
 obtain⟨wb,hwb⟩:∃wb,wb=(w.alloc (.cells #[v] 27)).alloc (.cells #[u] 27):=⟨_,rfl⟩
 have hE0:Ext w wb:=by rw[hwb];exact ((Ext.refl _).alloc _).alloc _
 have B0:Blk wb w.heap.size 27 #[v]:=by rw[hwb];exact (Blk.new _ _ _).alloc _
 have B1:Blk wb (w.heap.size+1) 27 #[u]:=by rw[hwb];simpa using Blk.new (w.alloc (.cells #[v] 27)) 27 #[u]
 have b0:∀W,Ext wb W→W.cell? ⟨w.heap.size,0,none⟩=some v:=fun W hW=>(B0.ext hW).cell (i:=0) rfl
 have b1:∀W,Ext wb W→W.cell? ⟨w.heap.size+1,0,none⟩=some u:=fun W hW=>(B1.ext hW).cell (i:=0) rfl
 have HV:=Lib.hid (fun W (hW:Ext wb W)=>hv.ext (hE0.trans hW))
 have HU:=Lib.hid (fun W (hW:Ext wb W)=>hu.ext (hE0.trans hW))
 have hE:=Ext.refl wb
 have Hwb:=Lib.hid hwb
 clear hv hu hwb B0 B1
 have HX:=Lib.hid (fun W (hW:Ext wb W)=>hX.ext (hE0.trans hW))
 have HY:=Lib.hid (fun W (hW:Ext wb W)=>hY.ext (hE0.trans hW))
 clear hX hY
 have cF:=fun W (hW:Ext wb W)=>IsFreimanMap_any v u g h vX vY X Y W (HV.out W hW) (HU.out W hW) (HX.out W hW) (HY.out W hW)
 have cG:=fun W (hW:Ext wb W)=>IsFreimanMap_any u v h g vY vX Y X W (HU.out W hW) (HV.out W hW) (HY.out W hW) (HX.out W hW)
 cases hf:fmF g h X Y
 · have Hn:Hid (isoF g h X Y=false):=Lib.hid (by unfold isoF;rw[hf];rfl)
   rw[hf] at cF
   go_enter Tryz.func93,Tryz.ntmps93
   go_wp2_with fail
   rw[←Hwb.out]
   refine (cF _ hE).mono ?_
   rintro e w1 ⟨rfl,hE1⟩
   go_wp2_with fail
   go_ret
   exact⟨ret_bool Hn.out.symm,hE0.trans hE1⟩
 · have Hn:Hid (isoF g h X Y=fmF h g Y X):=Lib.hid (by unfold isoF;rw[hf];rfl)
   rw[hf] at cF
   go_enter Tryz.func93,Tryz.ntmps93
   go_wp2_with fail
   rw[←Hwb.out]
   refine (cF _ hE).mono ?_
   rintro e w1 ⟨rfl,hE1⟩
   have k0:=b0 _ hE1
   have k1:=b1 _ hE1
   go_wp2_with fail
   refine (cG _ hE1).mono ?_
   rintro e w2 ⟨rfl,hE2⟩
   go_wp2_with fail
   go_ret
   exact⟨ret_bool Hn.out.symm,hE0.trans (hE1.trans hE2)⟩
end Go.Zz
