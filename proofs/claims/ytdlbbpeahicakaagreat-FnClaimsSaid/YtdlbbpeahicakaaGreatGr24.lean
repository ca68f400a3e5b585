/- SubgroupsOf of the reference. -/
import Derived.Test.YtdlbbpeahicakaaGreatGr23
import Derived.Test.YtdlbbpeahicakaaGreatGr5
import Derived.Test.YtdlbbpeahicakaaGreatGr3
import Derived.Deep.DeepCutAuto
set_option linter.unusedSimpArgs false
set_option linter.unusedVariables false
set_option linter.unnecessarySimpa false
namespace Go.Zz
open Go.RowKit Go.Proofs
set_option maxHeartbeats 8000000
set_option maxRecDepth 20000
theorem sSubgroupsOf_any(v:Value)(l:List Int)(w:World)(h:Ints w v l) :
 Calls Tryz.prog 231 #[.agg #[v]] w fun e w'=>∃ao L c,e=.returned (.tuple #[.slice ao (List.length L) c,.bool (isGrp l)])∧Own 3 w w' (.slice ao (List.length L) c) (castL L)∧L=(if isGrp l then sgL l else [])∧Ext w w':=by
 obtain⟨wb,hwb⟩:∃wb,wb=w.alloc (.cells #[v] 27):=⟨_,rfl⟩
 have hE0:=(Ext.refl w).alloc (.cells #[v] 27)
 have hb:=box_cell w v 27
 rw[←hwb] at hE0 hb
 have hg:∀W,Ext wb W→Ints W v l:=fun W hW=>h.ext (hE0.trans hW)
 have hE:=Ext.refl wb
 have Hsz:Hid (w.heap.size+1=wb.heap.size):=Lib.hid (by rw[hwb];simp[go_sem])
 have Hwb:=Lib.hid hwb
 clear hwb h
 have hbx:=hb wb hE
 cases hs:isGrp l
 · go_enter Tryz.func231,Tryz.ntmps231
   go_wp2_with fail
   rw[←Hwb.out]
   have hEa:=(Ext.refl wb).alloc (.cells #[] 3)
   have hOut:=own_made (TI:=3) (n:=0) (by omega) hE0 [] rfl
   rw[←Hsz.out] at hOut
   change Own _ _ (wb.alloc (.cells #[] 3)) _ _ at hOut
   refine (sIsGroup_any _ _ _ (hg _ hEa)).mono ?_
   rw[hs]
   rintro e w1 ⟨rfl,hE1⟩
   go_wp2_with fail
   exact bodyPost_ret (v:=.tuple #[.slice (some ⟨w.heap.size+1,0,none⟩) 0 0,.bool false]) (by simp[results,Tryz.results231,go_sem]) rfl ⟨_,[],_,rfl,hOut.ext hE1,rfl,hE0.trans (hEa.trans hE1)⟩
 · have hob:=ord_bd hs
   have Hgr:=Lib.hid hs
   have hcl:=cycL_len hs
   have htl:=twoL_len hs
   go_enter Tryz.func231,Tryz.ntmps231
   go_wp2_with fail
   rw[←Hwb.out]
   have hEa:=(Ext.refl wb).alloc (.cells #[] 3)
   have hOut:=own_made (TI:=3) (n:=0) (by omega) hE0 [] rfl
   rw[←Hsz.out] at hOut
   change Own _ _ (wb.alloc (.cells #[] 3)) _ _ at hOut
   refine (sIsGroup_any _ _ _ (hg _ hEa)).mono ?_
   rw[hs]
   rintro e w1 ⟨rfl,hE1⟩
   replace hOut:=hOut.ext hE1
   replace hE1:=hEa.trans hE1
   have hCy:=own_made (TI:=3) (n:=0) (by omega) (hE0.trans hE1) [] rfl
   change Own _ _ (w1.alloc (.cells #[] 3)) _ _ at hCy
   have hE1a:=hE1.alloc (.cells #[] 3)
   have hba:=hb _ hE1a
   go_wp2_with fail
   refine (l2Order_any _ _ _ (hg _ hE1a) Hgr).mono ?_
   rintro e w2 ⟨rfl,hE2⟩
   have hE02:=hE1a.trans hE2
   replace hCy:=hCy.ext hE2
   replace hOut:=(hOut.alloc (.cells #[] 3)).ext hE2
   have hEw:=hE0.trans hE02
   replace hb:=fun W (hW:Ext w2 W)=>hb W (hE02.trans hW)
   replace hg:=fun W (hW:Ext w2 W)=>hg W (hE02.trans hW)
   clear hE1 hE1a hba hE2 hbx hE
   go_wp2_with fail
   go_loopw [5,7] (fun s5 s7 wr=>∃(k:Nat) (ao:Option Addr) (c:Nat),k≤ord l∧s7=.int .i64 k∧s5=.slice ao (cycT l k).length c∧Own 3 w wr (.slice ao (cycT l k).length c) (castL (cycT l k))∧Ext w2 wr) (fun _ s7 _=>ord l - (intOf s7).toNat)
   case atStart=>exact⟨0,_,0,by omega,rfl,rfl,by simpa[cycT,foldP,castL] using hCy,Ext.refl _⟩
   case round =>
    rename World=>wr
    obtain⟨k,ao,c,hk,rfl,rfl,hI,hEr⟩:=hrel
    by_cases hlt:k<ord l
    · have hltI:(k:Int)<(ord l:Int):=by omega
      have q1:=ishl_one (n:=k) (by omega)
      have hp:pw k<2 ^ 24:=Nat.pow_lt_pow_right (by omega) (show k<24 by omega)
      have cG:=fun W (hW:Ext wr W)=>l5Closure_any v l (pw k) W (hg W (hEr.trans hW)) Hgr hp
      have hPl:(cycT l k).length≤24:=by have:=foldP_len (fun x=>genF l (2 ^ x)) [] k;simp at this;have e:(cycT l k).length≤k:=this;omega
      obtain⟨Y,hY⟩:∃Y,Y=genF l (pw k):=⟨_,rfl⟩
      have Hn:Hid (cycT l (k+1)=putN (cycT l k) Y):=Lib.hid (by rw[hY];exact foldP_succ _ _ _)
      obtain⟨P,hP⟩:∃P,P=cycT l k:=⟨_,rfl⟩
      rw[←hY] at cG
      rw[←hP] at hI hPl Hn
      rw[←hP]
      obtain⟨pk,hpk⟩:∃x:Int,x=((pw k:Nat):Int):=⟨_,rfl⟩
      rw[←hpk] at q1 cG
      clear hY hP hp hpk
      have hbr:=fun W (hW:Ext wr W)=>hb W (hEr.trans hW)
      have hEv:=hEw.trans hEr
      go_wp2_with fail
      refine wp_region_held_drew (S:=(fun W=>Ext wr W∧W.cell? ⟨w.heap.size,0,none⟩=some v)) (by kernel_rfl) (by exact⟨(by repeat (first | assumption | exact Ext.refl _ | (apply And.left;assumption) | apply Ext.drew | apply Ext.alloc)),hbr _ (by repeat (first | assumption | exact Ext.refl _ | (apply And.left;assumption) | apply Ext.drew | apply Ext.alloc))⟩) (fun hHeld=>?_)
      (refine takeOn (i:=0) (v:=?_) (by kernel_rfl) (by rfl) (by rfl) (by kernel_rfl) (by kernel_rfl) (by intro _ _ _ h;exact h) ?_ (by assumption) ?_);(rotate_left 1);(focus ((intro w hSw);(try dsimp only at hSw);go_simp;(try with_reducible rfl)));(try simp only[Act.put,List.setIfInBounds_toArray,List.set_cons_zero,List.set_cons_succ,List.getElem_toArray,List.getElem_cons_zero,List.getElem_cons_succ])
      (refine takeOn (i:=1) (v:=?_) (by kernel_rfl) (by rfl) (by rfl) (by kernel_rfl) (by kernel_rfl) (by intro _ _ _ h;exact h) ?_ (by assumption) ?_);(rotate_left 1);(focus ((intro w hSw);(try dsimp only at hSw);go_simp;(try with_reducible rfl)));(try simp only[Act.put,List.setIfInBounds_toArray,List.set_cons_zero,List.set_cons_succ,List.getElem_toArray,List.getElem_cons_zero,List.getElem_cons_succ])
      (refine takeOn (i:=2) (v:=?_) (by kernel_rfl) (by rfl) (by rfl) (by kernel_rfl) (by kernel_rfl) (by intro _ _ _ h;exact h) ?_ (by assumption) ?_);(rotate_left 1);(focus ((intro w hSw);(try dsimp only at hSw);go_simp;(try with_reducible rfl)));(try simp only[Act.put,List.setIfInBounds_toArray,List.set_cons_zero,List.set_cons_succ,List.getElem_toArray,List.getElem_cons_zero,List.getElem_cons_succ])
      (refine takeOn (i:=3) (v:=?_) (by kernel_rfl) (by rfl) (by rfl) (by kernel_rfl) (by kernel_rfl) (by intro _ _ _ h;exact h) ?_ (by assumption) ?_);(rotate_left 1);(focus ((intro w hSw);(try dsimp only at hSw);go_simp;(first | done | with_reducible rfl | (rw[if_neg];(try simp only[ByteArray.size_append,ByteArray.size_mk,List.size_toArray,List.length_cons,List.length_nil]);omega) | trace_state)));(try simp only[Act.put,List.setIfInBounds_toArray,List.set_cons_zero,List.set_cons_succ,List.getElem_toArray,List.getElem_cons_zero,List.getElem_cons_succ])
      refine takeOne (i:=4) (by kernel_rfl) (by rfl) (by rfl) (fun K hK=>?_)
      go_simp;(go_at_call 190;(with_reducible refine Calls.mono (cG _ (by repeat (first | assumption | exact Ext.refl _ | (apply And.left;assumption) | apply Ext.drew | apply Ext.alloc))) ?_);rintro e wx ⟨rfl,hX⟩;have hH:=Ext.trans (a:=wr) (by repeat (first | assumption | exact Ext.refl _ | (apply And.left;assumption) | apply Ext.drew | apply Ext.alloc)) hX)
      refine hK.out _ _ (by exact⟨(by repeat (first | assumption | exact Ext.refl _ | (apply And.left;assumption) | apply Ext.drew | apply Ext.alloc)),hbr _ (by repeat (first | assumption | exact Ext.refl _ | (apply And.left;assumption) | apply Ext.drew | apply Ext.alloc))⟩) (fun hHeld=>?_)
      clear hK K
      (try simp only[Act.put,List.setIfInBounds_toArray,List.set_cons_zero,List.set_cons_succ,List.getElem_toArray,List.getElem_cons_zero,List.getElem_cons_succ])
      refine takeOne (i:=5) (by kernel_rfl) (by rfl) (by rfl) (fun K hK=>?_)
      go_simp;(go_at_call 146;(with_reducible refine Calls.mono (l5Put_own _ P Y w _ (hI.ext (by repeat (first | assumption | exact Ext.refl _ | (apply And.left;assumption) | apply Ext.drew | apply Ext.alloc))) (Ext.size (hEv.trans (by repeat (first | assumption | exact Ext.refl _ | (apply And.left;assumption) | apply Ext.drew | apply Ext.alloc)))) (by omega)) ?_);rintro e wy ⟨v4,rfl,hI4,hX4⟩;obtain⟨a4,c4,rfl⟩:=hI4.nshape;have hH4:=Ext.trans (a:=wr) (by repeat (first | assumption | exact Ext.refl _ | (apply And.left;assumption) | apply Ext.drew | apply Ext.alloc)) hX4);rw[←Hn.out] at hI4 ⊢
      refine hK.out _ _ (by exact⟨(by repeat (first | assumption | exact Ext.refl _ | (apply And.left;assumption) | apply Ext.drew | apply Ext.alloc)),hbr _ (by repeat (first | assumption | exact Ext.refl _ | (apply And.left;assumption) | apply Ext.drew | apply Ext.alloc))⟩) (fun hHeld=>?_)
      clear hK K
      (try simp only[Act.put,List.setIfInBounds_toArray,List.set_cons_zero,List.set_cons_succ,List.getElem_toArray,List.getElem_cons_zero,List.getElem_cons_succ])
      (refine takeOn (i:=6) (v:=?_) (by kernel_rfl) (by rfl) (by rfl) (by kernel_rfl) (by kernel_rfl) (by intro _ _ _ h;exact h) ?_ (by assumption) ?_);(rotate_left 1);(focus ((intro w hSw);(try dsimp only at hSw);go_simp;(try with_reducible rfl)));(try simp only[Act.put,List.setIfInBounds_toArray,List.set_cons_zero,List.set_cons_succ,List.getElem_toArray,List.getElem_cons_zero,List.getElem_cons_succ])
      refine wpAnyH_done (by kernel_rfl) ?_ _
      go_wp2_with fail
      go_roundw
      case rel=>exact⟨k+1,a4,c4,by omega,by go_num,rfl,hI4,hEr.trans hH4⟩
      case measure=>(simp[intOf];omega)
    · have hkl:k=ord l:=by omega
      subst hkl
      have hltI:¬((ord l:Nat):Int)<(ord l:Int):=by omega
      obtain⟨aoC,cC,adrC,hvC,hadrC,hcellC⟩:=(show Own 3 w wr (.slice ao (cycL l).length c) (castL (cycL l)) from hI).ints.nats
      simp only[Value.slice.injEq] at hvC
      obtain⟨rfl,-,rfl⟩:=hvC
      have hClt:∀q,nthN (cycL l) q<2 ^ 24:=fun q=>Nat.lt_of_lt_of_le (nthN_lt Hgr.out (fun x hx=>cyc_lt Hgr.out hx) q) (pow_ord Hgr.out)
      have Htwo:Hid (twoL l=pairT l (cycL l) (cycL l).length):=Lib.hid rfl
      have Hsg:Hid (sgL l=tripT l (twoL l) (cycL l) (twoL l).length):=Lib.hid rfl
      rw[show cycT l (ord l)=cycL l from rfl]
      obtain⟨C,hC⟩:∃C,C=cycL l:=⟨_,rfl⟩
      rw[←hC] at hadrC hcellC hClt Htwo Hsg hcl ⊢
      have hix:=ints_index (c:=c) elI szI hadrC
      have Hcell:=Lib.hid hcellC
      replace hb:=fun W (hW:Ext wr W)=>hb W (hEr.trans hW)
      replace hg:=fun W (hW:Ext wr W)=>hg W (hEr.trans hW)
      have hE0r:=hE0.trans (hE02.trans hEr)
      replace hOut:=hOut.ext hEr
      clear hI hadrC hcellC hC hEr hlt hk hltI hs
      go_wp2_with fail
      go_loopw [4,8] (fun s4 s8 wq=>∃(i:Nat) (ao:Option Addr) (c:Nat),i≤C.length∧s8=.int .i64 i∧s4=.slice ao (pairT l C i).length c∧Own 3 w wq (.slice ao (pairT l C i).length c) (castL (pairT l C i))∧Ext wr wq) (fun _ s8 _=>C.length - (intOf s8).toNat)
      case atStart=>exact⟨0,_,0,by omega,rfl,rfl,by simpa[pairT,castL] using hOut,Ext.refl _⟩
      case round =>
       rename World=>wq
       obtain⟨i,ao,c,hi,rfl,rfl,hI,hEq⟩:=hrel
       by_cases hlt:i<C.length
       · have hltI:(i:Int)<(C.length:Int):=by omega
         have hpl:=pairT_len l C i
         have hpm:i*i≤576:=Nat.mul_le_mul (show i≤24 by omega) (show i≤24 by omega)
         go_wp2_with fail
         go_loopw [4,9] (fun s4 s9 wp=>∃(j:Nat) (ao:Option Addr) (c:Nat),j≤i+1∧s9=.int .i64 j∧s4=.slice ao (foldP (fun j=>sumF l (nthN C i) (nthN C j)) (pairT l C i) j).length c∧Own 3 w wp (.slice ao (foldP (fun j=>sumF l (nthN C i) (nthN C j)) (pairT l C i) j).length c) (castL (foldP (fun j=>sumF l (nthN C i) (nthN C j)) (pairT l C i) j))∧Ext wq wp) (fun _ s9 _=>i+1 - (intOf s9).toNat)
         case atStart=>exact⟨0,ao,c,by omega,rfl,rfl,hI,Ext.refl _⟩
         case round =>
          rename World=>wp
          obtain⟨j,ao,c,hj,rfl,rfl,hI,hEp⟩:=hrel
          by_cases hjt:j<i+1
          · have hjI:(j:Int)≤(i:Int):=by omega
            have hjC:j<C.length:=by omega
            have hck:=fun W (hW:Ext wp W)=>Hcell.out i W hlt (hEq.trans (hEp.trans hW))
            have hcj:=fun W (hW:Ext wp W)=>Hcell.out j W hjC (hEq.trans (hEp.trans hW))
            have hxi:=hix i
            have hxj:=hix j
            have cS:=fun W (hW:Ext wp W)=>l4Sum_any v l (nthN C i) (nthN C j) W (hg W (hEq.trans (hEp.trans hW))) Hgr (hClt i) (hClt j)
            have hPl:=foldP_len (fun j=>sumF l (nthN C i) (nthN C j)) (pairT l C i) j
            have Hn:Hid (foldP (fun j=>sumF l (nthN C i) (nthN C j)) (pairT l C i) (j+1)=putN (foldP (fun j=>sumF l (nthN C i) (nthN C j)) (pairT l C i) j) (sumF l (nthN C i) (nthN C j))):=Lib.hid (foldP_succ _ _ _)
            have hjl:(j:Int)<(C.length:Int):=by omega
            obtain⟨Y,hY⟩:∃Y,Y=sumF l (nthN C i) (nthN C j):=⟨_,rfl⟩
            obtain⟨P,hP⟩:∃P,P=foldP (fun j=>sumF l (nthN C i) (nthN C j)) (pairT l C i) j:=⟨_,rfl⟩
            rw[←hP,←hY] at Hn
            rw[←hP] at hI hPl ⊢
            rw[←hY] at cS
            obtain⟨X1,hX1⟩:∃X,X=nthN C i:=⟨_,rfl⟩
            obtain⟨X2,hX2⟩:∃X,X=nthN C j:=⟨_,rfl⟩
            rw[←hX1] at hck cS
            rw[←hX2] at hcj cS
            clear hY hP hX1 hX2
            have hbr:=fun W (hW:Ext wp W)=>hb W (hEq.trans (hEp.trans hW))
            have hEv:=hE0r.trans (hEq.trans hEp)
            go_wp2_with fail
            refine wp_region_held_drew (S:=(fun W=>Ext wp W∧W.cell? ⟨w.heap.size,0,none⟩=some v∧W.cell? (adrC i)=some (.int .i64 X1)∧W.cell? (adrC j)=some (.int .i64 X2))) (by kernel_rfl) (by exact⟨(by repeat (first | assumption | exact Ext.refl _ | (apply And.left;assumption) | apply Ext.drew | apply Ext.alloc)),hbr _ (by repeat (first | assumption | exact Ext.refl _ | (apply And.left;assumption) | apply Ext.drew | apply Ext.alloc)),hck _ (by repeat (first | assumption | exact Ext.refl _ | (apply And.left;assumption) | apply Ext.drew | apply Ext.alloc)),hcj _ (by repeat (first | assumption | exact Ext.refl _ | (apply And.left;assumption) | apply Ext.drew | apply Ext.alloc))⟩) (fun hHeld=>?_)
            (refine takeOn (i:=0) (v:=?_) (by kernel_rfl) (by rfl) (by rfl) (by kernel_rfl) (by kernel_rfl) (by intro _ _ _ h;exact h) ?_ (by assumption) ?_);(rotate_left 1);(focus ((intro w hSw);(try dsimp only at hSw);go_simp;(try with_reducible rfl)));(try simp only[Act.put,List.setIfInBounds_toArray,List.set_cons_zero,List.set_cons_succ,List.getElem_toArray,List.getElem_cons_zero,List.getElem_cons_succ])
            (refine takeOn (i:=1) (v:=?_) (by kernel_rfl) (by rfl) (by rfl) (by kernel_rfl) (by kernel_rfl) (by intro _ _ _ h;exact h) ?_ (by assumption) ?_);(rotate_left 1);(focus ((intro w hSw);(try dsimp only at hSw);go_simp;(try with_reducible rfl)));(try simp only[Act.put,List.setIfInBounds_toArray,List.set_cons_zero,List.set_cons_succ,List.getElem_toArray,List.getElem_cons_zero,List.getElem_cons_succ])
            (refine takeOn (i:=2) (v:=?_) (by kernel_rfl) (by rfl) (by rfl) (by kernel_rfl) (by kernel_rfl) (by intro _ _ _ h;exact h) ?_ (by assumption) ?_);(rotate_left 1);(focus ((intro w hSw);(try dsimp only at hSw);go_simp;(try with_reducible rfl)));(try simp only[Act.put,List.setIfInBounds_toArray,List.set_cons_zero,List.set_cons_succ,List.getElem_toArray,List.getElem_cons_zero,List.getElem_cons_succ])
            (refine takeOn (i:=3) (v:=?_) (by kernel_rfl) (by rfl) (by rfl) (by kernel_rfl) (by kernel_rfl) (by intro _ _ _ h;exact h) ?_ (by assumption) ?_);(rotate_left 1);(focus ((intro w hSw);(try dsimp only at hSw);go_simp;(try with_reducible rfl)));(try simp only[Act.put,List.setIfInBounds_toArray,List.set_cons_zero,List.set_cons_succ,List.getElem_toArray,List.getElem_cons_zero,List.getElem_cons_succ])
            (refine takeOn (i:=4) (v:=?_) (by kernel_rfl) (by rfl) (by rfl) (by kernel_rfl) (by kernel_rfl) (by intro _ _ _ h;exact h) ?_ (by assumption) ?_);(rotate_left 1);(focus ((intro w hSw);(try dsimp only at hSw);go_simp;(try with_reducible rfl)));(try simp only[Act.put,List.setIfInBounds_toArray,List.set_cons_zero,List.set_cons_succ,List.getElem_toArray,List.getElem_cons_zero,List.getElem_cons_succ])
            (refine takeOn (i:=5) (v:=?_) (by kernel_rfl) (by rfl) (by rfl) (by kernel_rfl) (by kernel_rfl) (by intro _ _ _ h;exact h) ?_ (by assumption) ?_);(rotate_left 1);(focus ((intro w hSw);(try dsimp only at hSw);go_simp;(try with_reducible rfl)));(try simp only[Act.put,List.setIfInBounds_toArray,List.set_cons_zero,List.set_cons_succ,List.getElem_toArray,List.getElem_cons_zero,List.getElem_cons_succ])
            (refine takeOn (i:=6) (v:=?_) (by kernel_rfl) (by rfl) (by rfl) (by kernel_rfl) (by kernel_rfl) (by intro _ _ _ h;exact h) ?_ (by assumption) ?_);(rotate_left 1);(focus ((intro w hSw);(try dsimp only at hSw);go_simp;(try with_reducible rfl)));(try simp only[Act.put,List.setIfInBounds_toArray,List.set_cons_zero,List.set_cons_succ,List.getElem_toArray,List.getElem_cons_zero,List.getElem_cons_succ])
            (refine takeOn (i:=7) (v:=?_) (by kernel_rfl) (by rfl) (by rfl) (by kernel_rfl) (by kernel_rfl) (by intro _ _ _ h;exact h) ?_ (by assumption) ?_);(rotate_left 1);(focus ((intro w hSw);(try dsimp only at hSw);go_simp;(try with_reducible rfl)));(try simp only[Act.put,List.setIfInBounds_toArray,List.set_cons_zero,List.set_cons_succ,List.getElem_toArray,List.getElem_cons_zero,List.getElem_cons_succ])
            (refine takeOn (i:=8) (v:=?_) (by kernel_rfl) (by rfl) (by rfl) (by kernel_rfl) (by kernel_rfl) (by intro _ _ _ h;exact h) ?_ (by assumption) ?_);(rotate_left 1);(focus ((intro w hSw);(try dsimp only at hSw);go_simp;(try with_reducible rfl)));(try simp only[Act.put,List.setIfInBounds_toArray,List.set_cons_zero,List.set_cons_succ,List.getElem_toArray,List.getElem_cons_zero,List.getElem_cons_succ])
            (refine takeOn (i:=9) (v:=?_) (by kernel_rfl) (by rfl) (by rfl) (by kernel_rfl) (by kernel_rfl) (by intro _ _ _ h;exact h) ?_ (by assumption) ?_);(rotate_left 1);(focus ((intro w hSw);(try dsimp only at hSw);go_simp;(try with_reducible rfl)));(try simp only[Act.put,List.setIfInBounds_toArray,List.set_cons_zero,List.set_cons_succ,List.getElem_toArray,List.getElem_cons_zero,List.getElem_cons_succ])
            refine takeOne (i:=10) (by kernel_rfl) (by rfl) (by rfl) (fun K hK=>?_)
            go_simp;(go_at_call 84;(with_reducible refine Calls.mono (cS _ (by repeat (first | assumption | exact Ext.refl _ | (apply And.left;assumption) | apply Ext.drew | apply Ext.alloc))) ?_);rintro e wx ⟨rfl,hX⟩;have hH:=Ext.trans (a:=wp) (by repeat (first | assumption | exact Ext.refl _ | (apply And.left;assumption) | apply Ext.drew | apply Ext.alloc)) hX)
            refine hK.out _ _ (by exact⟨(by repeat (first | assumption | exact Ext.refl _ | (apply And.left;assumption) | apply Ext.drew | apply Ext.alloc)),hbr _ (by repeat (first | assumption | exact Ext.refl _ | (apply And.left;assumption) | apply Ext.drew | apply Ext.alloc)),hck _ (by repeat (first | assumption | exact Ext.refl _ | (apply And.left;assumption) | apply Ext.drew | apply Ext.alloc)),hcj _ (by repeat (first | assumption | exact Ext.refl _ | (apply And.left;assumption) | apply Ext.drew | apply Ext.alloc))⟩) (fun hHeld=>?_)
            clear hK K
            (try simp only[Act.put,List.setIfInBounds_toArray,List.set_cons_zero,List.set_cons_succ,List.getElem_toArray,List.getElem_cons_zero,List.getElem_cons_succ])
            refine takeOne (i:=11) (by kernel_rfl) (by rfl) (by rfl) (fun K hK=>?_)
            go_simp;(go_at_call 146;(with_reducible refine Calls.mono (l5Put_own _ P Y w _ (hI.ext (by repeat (first | assumption | exact Ext.refl _ | (apply And.left;assumption) | apply Ext.drew | apply Ext.alloc))) (Ext.size (hEv.trans (by repeat (first | assumption | exact Ext.refl _ | (apply And.left;assumption) | apply Ext.drew | apply Ext.alloc)))) (by omega)) ?_);rintro e wy ⟨v4,rfl,hI4,hX4⟩;obtain⟨a4,c4,rfl⟩:=hI4.nshape;have hH4:=Ext.trans (a:=wp) (by repeat (first | assumption | exact Ext.refl _ | (apply And.left;assumption) | apply Ext.drew | apply Ext.alloc)) hX4);rw[←Hn.out] at hI4 ⊢
            refine hK.out _ _ (by exact⟨(by repeat (first | assumption | exact Ext.refl _ | (apply And.left;assumption) | apply Ext.drew | apply Ext.alloc)),hbr _ (by repeat (first | assumption | exact Ext.refl _ | (apply And.left;assumption) | apply Ext.drew | apply Ext.alloc)),hck _ (by repeat (first | assumption | exact Ext.refl _ | (apply And.left;assumption) | apply Ext.drew | apply Ext.alloc)),hcj _ (by repeat (first | assumption | exact Ext.refl _ | (apply And.left;assumption) | apply Ext.drew | apply Ext.alloc))⟩) (fun hHeld=>?_)
            clear hK K
            (try simp only[Act.put,List.setIfInBounds_toArray,List.set_cons_zero,List.set_cons_succ,List.getElem_toArray,List.getElem_cons_zero,List.getElem_cons_succ])
            (refine takeOn (i:=12) (v:=?_) (by kernel_rfl) (by rfl) (by rfl) (by kernel_rfl) (by kernel_rfl) (by intro _ _ _ h;exact h) ?_ (by assumption) ?_);(rotate_left 1);(focus ((intro w hSw);(try dsimp only at hSw);go_simp;(try with_reducible rfl)));(try simp only[Act.put,List.setIfInBounds_toArray,List.set_cons_zero,List.set_cons_succ,List.getElem_toArray,List.getElem_cons_zero,List.getElem_cons_succ])
            refine wpAnyH_done (by kernel_rfl) ?_ _
            go_wp2_with fail
            go_roundw
            case rel=>exact⟨j+1,a4,c4,by omega,by go_num,rfl,hI4,hEp.trans hH4⟩
            case measure=>(simp[intOf];omega)
          · have hji:j=i+1:=by omega
            subst hji
            have hjI:¬((i+1:Nat):Int)≤(i:Int):=by omega
            go_wp2_with fail
            go_roundw
            case rel=>exact⟨i+1,ao,c,by omega,by go_num,rfl,hI,hEq.trans hEp⟩
            case measure=>(simp[intOf];omega)
       · have hil:i=C.length:=by omega
         subst hil
         have hltI:¬((C.length:Nat):Int)<(C.length:Int):=by omega
         rw[←Htwo.out] at hI ⊢
         obtain⟨aoT,cT,adrT,hvT,hadrT,hcellT⟩:=hI.ints.nats
         simp only[Value.slice.injEq] at hvT
         obtain⟨rfl,-,rfl⟩:=hvT
         have hTlt:∀q,nthN (twoL l) q<2 ^ 24:=fun q=>Nat.lt_of_lt_of_le (nthN_lt Hgr.out (twoL_lt Hgr.out) q) (pow_ord Hgr.out)
         obtain⟨T,hT⟩:∃T,T=twoL l:=⟨_,rfl⟩
         rw[←hT] at hI hadrT hcellT hTlt Hsg htl ⊢
         have hixT:=ints_index (c:=c) elI szI hadrT
         have HcT:=Lib.hid hcellT
         replace Hcell:Hid (∀i W,i<C.length→Ext wq W→W.cell? (adrC i)=some (.int .i64 (nthN C i:Int))):=Lib.hid (fun i W hi hW=>Hcell.out i W hi (hEq.trans hW))
         replace hb:=fun W (hW:Ext wq W)=>hb W (hEq.trans hW)
         replace hg:=fun W (hW:Ext wq W)=>hg W (hEq.trans hW)
         have hE0q:=hE0r.trans hEq
         clear hadrT hcellT hT Htwo hE0r
         go_wp2_with fail
         go_loopw [4,11] (fun s4 s8 wp=>∃(i:Nat) (ao:Option Addr) (c:Nat),i≤T.length∧s8=.int .i64 i∧s4=.slice ao (tripT l T C i).length c∧Own 3 w wp (.slice ao (tripT l T C i).length c) (castL (tripT l T C i))∧Ext wq wp) (fun _ s8 _=>T.length - (intOf s8).toNat)
         case atStart=>exact⟨0,_,_,by omega,rfl,rfl,hI,Ext.refl _⟩
         case round =>
          rename World=>wp
          obtain⟨i,ao,c,hi,rfl,rfl,hI,hEp⟩:=hrel
          by_cases hlt:i<T.length
          · have hltI:(i:Int)<(T.length:Int):=by omega
            have hpl:=tripT_len l T C i
            have hpm:i*C.length≤13824:=Nat.mul_le_mul (show i≤576 by omega) hcl
            go_wp2_with fail
            go_loopw [4,12] (fun s4 s9 wz=>∃(j:Nat) (ao:Option Addr) (c:Nat),j≤C.length∧s9=.int .i64 j∧s4=.slice ao (foldP (fun j=>sumF l (nthN T i) (nthN C j)) (tripT l T C i) j).length c∧Own 3 w wz (.slice ao (foldP (fun j=>sumF l (nthN T i) (nthN C j)) (tripT l T C i) j).length c) (castL (foldP (fun j=>sumF l (nthN T i) (nthN C j)) (tripT l T C i) j))∧Ext wp wz) (fun _ s9 _=>C.length - (intOf s9).toNat)
            case atStart=>exact⟨0,ao,c,by omega,rfl,rfl,hI,Ext.refl _⟩
            case round =>
             rename World=>wz
             obtain⟨j,ao,c,hj,rfl,rfl,hI,hEz⟩:=hrel
             by_cases hjt:j<C.length
             · have hjI:(j:Int)<(C.length:Int):=by omega
               have hck:=fun W (hW:Ext wz W)=>HcT.out i W hlt (hEp.trans (hEz.trans hW))
               have hcj:=fun W (hW:Ext wz W)=>Hcell.out j W hjt (hEp.trans (hEz.trans hW))
               have hxi:=hixT i
               have hxj:=hix j
               have cS:=fun W (hW:Ext wz W)=>l4Sum_any v l (nthN T i) (nthN C j) W (hg W (hEp.trans (hEz.trans hW))) Hgr (hTlt i) (hClt j)
               have hPl:=foldP_len (fun j=>sumF l (nthN T i) (nthN C j)) (tripT l T C i) j
               have Hn:Hid (foldP (fun j=>sumF l (nthN T i) (nthN C j)) (tripT l T C i) (j+1)=putN (foldP (fun j=>sumF l (nthN T i) (nthN C j)) (tripT l T C i) j) (sumF l (nthN T i) (nthN C j))):=Lib.hid (foldP_succ _ _ _)
               obtain⟨Y,hY⟩:∃Y,Y=sumF l (nthN T i) (nthN C j):=⟨_,rfl⟩
               obtain⟨P,hP⟩:∃P,P=foldP (fun j=>sumF l (nthN T i) (nthN C j)) (tripT l T C i) j:=⟨_,rfl⟩
               rw[←hP,←hY] at Hn
               rw[←hP] at hI hPl ⊢
               rw[←hY] at cS
               obtain⟨X1,hX1⟩:∃X,X=nthN T i:=⟨_,rfl⟩
               obtain⟨X2,hX2⟩:∃X,X=nthN C j:=⟨_,rfl⟩
               rw[←hX1] at hck cS
               rw[←hX2] at hcj cS
               clear hY hP hX1 hX2
               have hbr:=fun W (hW:Ext wz W)=>hb W (hEp.trans (hEz.trans hW))
               have hEv:=hE0q.trans (hEp.trans hEz)
               go_wp2_with fail
               refine wp_region_held_drew (S:=(fun W=>Ext wz W∧W.cell? ⟨w.heap.size,0,none⟩=some v∧W.cell? (adrT i)=some (.int .i64 X1)∧W.cell? (adrC j)=some (.int .i64 X2))) (by kernel_rfl) (by exact⟨(by repeat (first | assumption | exact Ext.refl _ | (apply And.left;assumption) | apply Ext.drew | apply Ext.alloc)),hbr _ (by repeat (first | assumption | exact Ext.refl _ | (apply And.left;assumption) | apply Ext.drew | apply Ext.alloc)),hck _ (by repeat (first | assumption | exact Ext.refl _ | (apply And.left;assumption) | apply Ext.drew | apply Ext.alloc)),hcj _ (by repeat (first | assumption | exact Ext.refl _ | (apply And.left;assumption) | apply Ext.drew | apply Ext.alloc))⟩) (fun hHeld=>?_)
               (refine takeOn (i:=0) (v:=?_) (by kernel_rfl) (by rfl) (by rfl) (by kernel_rfl) (by kernel_rfl) (by intro _ _ _ h;exact h) ?_ (by assumption) ?_);(rotate_left 1);(focus ((intro w hSw);(try dsimp only at hSw);go_simp;(try with_reducible rfl)));(try simp only[Act.put,List.setIfInBounds_toArray,List.set_cons_zero,List.set_cons_succ,List.getElem_toArray,List.getElem_cons_zero,List.getElem_cons_succ])
               (refine takeOn (i:=1) (v:=?_) (by kernel_rfl) (by rfl) (by rfl) (by kernel_rfl) (by kernel_rfl) (by intro _ _ _ h;exact h) ?_ (by assumption) ?_);(rotate_left 1);(focus ((intro w hSw);(try dsimp only at hSw);go_simp;(try with_reducible rfl)));(try simp only[Act.put,List.setIfInBounds_toArray,List.set_cons_zero,List.set_cons_succ,List.getElem_toArray,List.getElem_cons_zero,List.getElem_cons_succ])
               (refine takeOn (i:=2) (v:=?_) (by kernel_rfl) (by rfl) (by rfl) (by kernel_rfl) (by kernel_rfl) (by intro _ _ _ h;exact h) ?_ (by assumption) ?_);(rotate_left 1);(focus ((intro w hSw);(try dsimp only at hSw);go_simp;(try with_reducible rfl)));(try simp only[Act.put,List.setIfInBounds_toArray,List.set_cons_zero,List.set_cons_succ,List.getElem_toArray,List.getElem_cons_zero,List.getElem_cons_succ])
               (refine takeOn (i:=3) (v:=?_) (by kernel_rfl) (by rfl) (by rfl) (by kernel_rfl) (by kernel_rfl) (by intro _ _ _ h;exact h) ?_ (by assumption) ?_);(rotate_left 1);(focus ((intro w hSw);(try dsimp only at hSw);go_simp;(try with_reducible rfl)));(try simp only[Act.put,List.setIfInBounds_toArray,List.set_cons_zero,List.set_cons_succ,List.getElem_toArray,List.getElem_cons_zero,List.getElem_cons_succ])
               (refine takeOn (i:=4) (v:=?_) (by kernel_rfl) (by rfl) (by rfl) (by kernel_rfl) (by kernel_rfl) (by intro _ _ _ h;exact h) ?_ (by assumption) ?_);(rotate_left 1);(focus ((intro w hSw);(try dsimp only at hSw);go_simp;(try with_reducible rfl)));(try simp only[Act.put,List.setIfInBounds_toArray,List.set_cons_zero,List.set_cons_succ,List.getElem_toArray,List.getElem_cons_zero,List.getElem_cons_succ])
               (refine takeOn (i:=5) (v:=?_) (by kernel_rfl) (by rfl) (by rfl) (by kernel_rfl) (by kernel_rfl) (by intro _ _ _ h;exact h) ?_ (by assumption) ?_);(rotate_left 1);(focus ((intro w hSw);(try dsimp only at hSw);go_simp;(try with_reducible rfl)));(try simp only[Act.put,List.setIfInBounds_toArray,List.set_cons_zero,List.set_cons_succ,List.getElem_toArray,List.getElem_cons_zero,List.getElem_cons_succ])
               (refine takeOn (i:=6) (v:=?_) (by kernel_rfl) (by rfl) (by rfl) (by kernel_rfl) (by kernel_rfl) (by intro _ _ _ h;exact h) ?_ (by assumption) ?_);(rotate_left 1);(focus ((intro w hSw);(try dsimp only at hSw);go_simp;(try with_reducible rfl)));(try simp only[Act.put,List.setIfInBounds_toArray,List.set_cons_zero,List.set_cons_succ,List.getElem_toArray,List.getElem_cons_zero,List.getElem_cons_succ])
               (refine takeOn (i:=7) (v:=?_) (by kernel_rfl) (by rfl) (by rfl) (by kernel_rfl) (by kernel_rfl) (by intro _ _ _ h;exact h) ?_ (by assumption) ?_);(rotate_left 1);(focus ((intro w hSw);(try dsimp only at hSw);go_simp;(try with_reducible rfl)));(try simp only[Act.put,List.setIfInBounds_toArray,List.set_cons_zero,List.set_cons_succ,List.getElem_toArray,List.getElem_cons_zero,List.getElem_cons_succ])
               (refine takeOn (i:=8) (v:=?_) (by kernel_rfl) (by rfl) (by rfl) (by kernel_rfl) (by kernel_rfl) (by intro _ _ _ h;exact h) ?_ (by assumption) ?_);(rotate_left 1);(focus ((intro w hSw);(try dsimp only at hSw);go_simp;(try with_reducible rfl)));(try simp only[Act.put,List.setIfInBounds_toArray,List.set_cons_zero,List.set_cons_succ,List.getElem_toArray,List.getElem_cons_zero,List.getElem_cons_succ])
               (refine takeOn (i:=9) (v:=?_) (by kernel_rfl) (by rfl) (by rfl) (by kernel_rfl) (by kernel_rfl) (by intro _ _ _ h;exact h) ?_ (by assumption) ?_);(rotate_left 1);(focus ((intro w hSw);(try dsimp only at hSw);go_simp;(try with_reducible rfl)));(try simp only[Act.put,List.setIfInBounds_toArray,List.set_cons_zero,List.set_cons_succ,List.getElem_toArray,List.getElem_cons_zero,List.getElem_cons_succ])
               refine takeOne (i:=10) (by kernel_rfl) (by rfl) (by rfl) (fun K hK=>?_)
               go_simp;(go_at_call 84;(with_reducible refine Calls.mono (cS _ (by repeat (first | assumption | exact Ext.refl _ | (apply And.left;assumption) | apply Ext.drew | apply Ext.alloc))) ?_);rintro e wx ⟨rfl,hX⟩;have hH:=Ext.trans (a:=wz) (by repeat (first | assumption | exact Ext.refl _ | (apply And.left;assumption) | apply Ext.drew | apply Ext.alloc)) hX)
               refine hK.out _ _ (by exact⟨(by repeat (first | assumption | exact Ext.refl _ | (apply And.left;assumption) | apply Ext.drew | apply Ext.alloc)),hbr _ (by repeat (first | assumption | exact Ext.refl _ | (apply And.left;assumption) | apply Ext.drew | apply Ext.alloc)),hck _ (by repeat (first | assumption | exact Ext.refl _ | (apply And.left;assumption) | apply Ext.drew | apply Ext.alloc)),hcj _ (by repeat (first | assumption | exact Ext.refl _ | (apply And.left;assumption) | apply Ext.drew | apply Ext.alloc))⟩) (fun hHeld=>?_)
               clear hK K
               (try simp only[Act.put,List.setIfInBounds_toArray,List.set_cons_zero,List.set_cons_succ,List.getElem_toArray,List.getElem_cons_zero,List.getElem_cons_succ])
               refine takeOne (i:=11) (by kernel_rfl) (by rfl) (by rfl) (fun K hK=>?_)
               go_simp;(go_at_call 146;(with_reducible refine Calls.mono (l5Put_own _ P Y w _ (hI.ext (by repeat (first | assumption | exact Ext.refl _ | (apply And.left;assumption) | apply Ext.drew | apply Ext.alloc))) (Ext.size (hEv.trans (by repeat (first | assumption | exact Ext.refl _ | (apply And.left;assumption) | apply Ext.drew | apply Ext.alloc)))) (by omega)) ?_);rintro e wy ⟨v4,rfl,hI4,hX4⟩;obtain⟨a4,c4,rfl⟩:=hI4.nshape;have hH4:=Ext.trans (a:=wz) (by repeat (first | assumption | exact Ext.refl _ | (apply And.left;assumption) | apply Ext.drew | apply Ext.alloc)) hX4);rw[←Hn.out] at hI4 ⊢
               refine hK.out _ _ (by exact⟨(by repeat (first | assumption | exact Ext.refl _ | (apply And.left;assumption) | apply Ext.drew | apply Ext.alloc)),hbr _ (by repeat (first | assumption | exact Ext.refl _ | (apply And.left;assumption) | apply Ext.drew | apply Ext.alloc)),hck _ (by repeat (first | assumption | exact Ext.refl _ | (apply And.left;assumption) | apply Ext.drew | apply Ext.alloc)),hcj _ (by repeat (first | assumption | exact Ext.refl _ | (apply And.left;assumption) | apply Ext.drew | apply Ext.alloc))⟩) (fun hHeld=>?_)
               clear hK K
               (try simp only[Act.put,List.setIfInBounds_toArray,List.set_cons_zero,List.set_cons_succ,List.getElem_toArray,List.getElem_cons_zero,List.getElem_cons_succ])
               (refine takeOn (i:=12) (v:=?_) (by kernel_rfl) (by rfl) (by rfl) (by kernel_rfl) (by kernel_rfl) (by intro _ _ _ h;exact h) ?_ (by assumption) ?_);(rotate_left 1);(focus ((intro w hSw);(try dsimp only at hSw);go_simp;(try with_reducible rfl)));(try simp only[Act.put,List.setIfInBounds_toArray,List.set_cons_zero,List.set_cons_succ,List.getElem_toArray,List.getElem_cons_zero,List.getElem_cons_succ])
               refine wpAnyH_done (by kernel_rfl) ?_ _
               go_wp2_with fail
               go_roundw
               case rel=>exact⟨j+1,a4,c4,by omega,by go_num,rfl,hI4,hEz.trans hH4⟩
               case measure=>(simp[intOf];omega)
             · have hji:j=C.length:=by omega
               subst hji
               have hjI:¬((C.length:Nat):Int)<(C.length:Int):=by omega
               go_wp2_with fail
               go_roundw
               case rel=>exact⟨i+1,ao,c,by omega,by go_num,rfl,hI,hEp.trans hEz⟩
               case measure=>(simp[intOf];omega)
          · have hil:i=T.length:=by omega
            subst hil
            have hltI:¬((T.length:Nat):Int)<(T.length:Int):=by omega
            go_wp2_with fail
            rw[←Hsg.out] at hI ⊢
            exact bodyPost_ret (v:=.tuple #[.slice ao (sgL l).length c,.bool true]) (by simp[results,Tryz.results231,go_sem]) rfl ⟨_,sgL l,_,rfl,hI,rfl,hE0q.trans hEp⟩
end Go.Zz
