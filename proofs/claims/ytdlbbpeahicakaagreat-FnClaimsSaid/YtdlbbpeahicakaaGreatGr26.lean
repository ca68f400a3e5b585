/- Sorting by insertion: l16Sort of the reference. -/
import Derived.Test.YtdlbbpeahicakaaGreatGr23
import Derived.Test.YtdlbbpeahicakaaGreatGr25
set_option linter.unusedSimpArgs false
set_option linter.unusedVariables false
set_option linter.unnecessarySimpa false
namespace Go.Zz
open Go.RowKit Go.Proofs
set_option maxHeartbeats 4000000
set_option maxRecDepth 8000
def pkI(L:List Int)(x:Int):Nat→Nat
 | 0=>0
 | k+1=>if x<nth L k then pkI L x k else k+1
theorem pkI_le(L:List Int)(x:Int):∀k,pkI L x k≤k
 | 0=>Nat.le_refl _
 | k+1=>by
  unfold pkI
  split
  · have:=pkI_le L x k;omega
  · exact Nat.le_refl _
theorem pkI_lt{L:List Int}{x:Int}{k:Nat}(h:x<nth L k):pkI L x (k+1)=pkI L x k:=by
 conv=>lhs;unfold pkI
 rw[if_pos h]
def insI(L:List Int)(x:Int):List Int:=L.take (pkI L x L.length)++[x]++L.drop (pkI L x L.length)
def insS(xs:List Int):List Int:=xs.foldl insI []
theorem insI_len(L:List Int)(x:Int):(insI L x).length=L.length+1:=by
 unfold insI;have:=pkI_le L x L.length;simp;omega
theorem insS_snoc(xs:List Int)(x:Int):insS (xs++[x])=insI (insS xs) x:=by unfold insS;rw[List.foldl_append];rfl
theorem insS_len(xs:List Int):∀k,k≤xs.length→(insS (xs.take k)).length=k
 | 0,_=>rfl
 | k+1,hk=>by
  rw[List.take_succ_eq_append_getElem (by omega),insS_snoc,insI_len,insS_len xs k (by omega)]
theorem l16Sort_any(u:Value)(xs:List Int)(w:World)(hu:Ints w u xs)(hl:xs.length≤1000000) :
 Calls Tryz.prog 205 #[u] w fun e w'=>∃v',e=.returned v'∧Own 3 w w' v' (insS xs)∧Ext w w':=by
 obtain⟨aoX,cX,adrX,rfl,hlX,hadrX,hcellX⟩:=hu.op
 have hixX:=ints_index (c:=cX) elI szI hadrX
 have hO0:Own 3 w (w.alloc (.cells #[] 3)) (.slice (some ⟨w.heap.size,0,none⟩) 0 0) []:=own_made (by omega) (Ext.refl w) [] rfl
 have hE0:=(Ext.refl w).alloc (.cells #[] 3)
 have HcX:=Lib.hid (fun i W (hi:i<xs.length) (hW:Ext w W)=>hcellX i W hi hW)
 clear hadrX hcellX hu
 go_enter Tryz.func205,Tryz.ntmps205
 go_wp2_with fail
 go_loopw [3,4] (fun so si wr=>∃(i:Nat) (T:List Int),i≤xs.length∧si=.int .i64 i∧T=insS (xs.take i)∧Own 3 w wr so T∧Ext w wr) (fun _ si _=>xs.length - (intOf si).toNat)
 case atStart=>exact⟨0,[],by omega,rfl,rfl,hO0,hE0⟩
 case round =>
  clear hO0 hE0
  rename World=>wq
  obtain⟨i,L,hi,rfl,hL,hO,hEr⟩:=hrel
  by_cases hlt:i<xs.length
  · have hltI:(i:Int)<(xs.length:Int):=by omega
    have hlen:L.length=i:=by rw[hL];exact insS_len xs i (by omega)
    have HX:=Lib.hid (fun W (hW:Ext w W)=>HcX.out i W hlt hW)
    have Hs:Hid (∀T,T=insI L (nth xs i)→T=insS (xs.take (i+1))):=Lib.hid (fun T hT=>by
     rw[hT,hL,List.take_succ_eq_append_getElem hlt,insS_snoc];simp[nth,List.getD,hlt])
    obtain⟨x,hx⟩:∃x,x=nth xs i:=⟨_,rfl⟩
    rw[←hx] at HX Hs
    have HI:=Lib.hid (fun W (hW:Ext wq W)=>hO.ints.ext hW)
    have hcap:L.length≤1000000:=by omega
    have hixi:=hixX i
    obtain⟨ao,c,adrL,rfl,hlL,hadrL,hcellL⟩:=hO.ints.op
    have hcapc:L.length≤c:=by
     obtain⟨_,_,hv,hc,_⟩:=hO.ints
     simp only[Value.slice.injEq] at hv
     omega
    have hixL:=ints_index (c:=c) elI szI hadrL
    have Hcell:=Lib.hid hcellL
    have Hlen:=Lib.hid hlen
    have HOr:=Lib.hid hO
    clear hx hL hadrL hcellL hlen hO
    have hE:=Ext.refl wq
    go_wp2_with fail
    go_loopw [5] (fun sk wi=>∃k:Nat,k≤L.length∧sk=.int .i64 k∧Hid (pkI L x L.length=pkI L x k)∧Ext wq wi) (fun sk _=>(intOf sk).toNat)
    case atStart=>exact⟨L.length,Nat.le_refl _,rfl,Lib.hid rfl,hE⟩
    case round =>
     clear hE
     obtain⟨k,hk,rfl,HP,hEi⟩:=hrel
     have hcx:=fun U=>HX.out _ (hEr.trans (hEi.trans (lat_ext wr U)))
     have hc3:k=0∨(∃j,k=j+1∧x<nth L j)∨(∃j,k=j+1∧¬x<nth L j):=by
      by_cases hk0:k=0
      · exact Or.inl hk0
      · obtain⟨j,rfl⟩:∃j,k=j+1:=⟨k - 1,by omega⟩
        by_cases h:x<nth L j
        · exact Or.inr (Or.inl ⟨j,rfl,h⟩)
        · exact Or.inr (Or.inr ⟨j,rfl,h⟩)
     rcases hc3 with hk0 | ⟨j,rfl,hlt2⟩ | ⟨j,hkj,hge⟩
     · have Hp:Hid (L.take k++[x]++L.drop k=insI L x):=Lib.hid (by unfold insI;rw[HP.out,hk0];rfl)
       have hkz:¬(0:Int)<(k:Int):=by omega
       have hkN:¬0<k:=by omega
       have hck:=True.intro
       clear hk0
       have hE:=Ext.refl wr
       go_wp2_with fail
       (refine wp_region_lat (wr) (by kernel_rfl) (by kernel_rfl) hE ?_);(repeat (go_big_quiet_step (first | fail)));(refine wpQuiet_nil ?_);(intro W hE');(replace hE:=lat_of hE');(clear hE')
       rename World=>w2
       have hEi2:=hEi.trans hE
       have hE2:=hEr.trans hEi2
       clear hE hcx hck
       have hsl:=fun W=>run_cut (P:=Tryz.prog) elI szI ao L.length c (k:Int) (by omega) (by omega) W
       have hsa:=fun W=>run_cutAt (P:=Tryz.prog) elI szI ao L.length c (k:Int) (by omega) (by omega) W
       have hfl:=fun W=>run_cutFrom (P:=Tryz.prog) elI szI ao L.length c (k:Int) (by omega) (by omega) W
       have hfa:=fun W=>run_cutFromAt (P:=Tryz.prog) elI szI ao L.length c (k:Int) (by omega) (by omega) W
       rw[show ((k:Int)).toNat=k by omega] at hsl hsa hfl hfa
       have HA:=Lib.hid (fun W (hW:Ext w2 W)=>(HI.out W (hEi2.trans hW)).take (k:=k) (by omega))
       have HB:=Lib.hid (fun W (hW:Ext w2 W)=>(HI.out W (hEi2.trans hW)).drop (k:=k) (by omega))
       have hln1:(L.take k).length+[x].length≤17592186044416:=by rw[List.length_take,List.length_singleton];omega
       have hln2:(L.take k++[x]).length+(L.drop k).length≤17592186044416:=by rw[List.length_append,List.length_take,List.length_singleton,List.length_drop];omega
       obtain⟨A,hA⟩:∃A,A=L.take k:=⟨_,rfl⟩
       obtain⟨B,hB⟩:∃B,B=L.drop k:=⟨_,rfl⟩
       rw[←hA] at HA hln1 hln2 Hp
       rw[←hB] at HB hln2 Hp
       have KX:=fun W (hW:Ext w2 W)=>HX.out W (hE2.trans hW)
       have hE:=Ext.refl w2
       clear hA hB
       go_wp2_with fail
       refine wp_region_held_drew (S:=(fun W=>Ext w2 W∧W.cell? (adrX i)=some (.int .i64 x))) (by kernel_rfl) (by exact⟨xup,KX _ xup⟩) (fun hHeld=>?_)
       (refine takeOn (i:=1) (v:=?_) (by kernel_rfl) (by rfl) (by rfl) (by kernel_rfl) (by kernel_rfl) (by intro _ _ _ h;exact h) ?_ (by assumption) ?_);(rotate_left 1);(focus ((intro w hSw);(try dsimp only at hSw);go_simp;(try with_reducible rfl)));(try simp only[Act.put,List.setIfInBounds_toArray,List.set_cons_zero,List.set_cons_succ,List.getElem_toArray,List.getElem_cons_zero,List.getElem_cons_succ])
       (refine takeOn (i:=2) (v:=?_) (by kernel_rfl) (by rfl) (by rfl) (by kernel_rfl) (by kernel_rfl) (by intro _ _ _ h;exact h) ?_ (by assumption) ?_);(rotate_left 1);(focus ((intro w hSw);(try dsimp only at hSw);go_simp;(try with_reducible rfl)));(try simp only[Act.put,List.setIfInBounds_toArray,List.set_cons_zero,List.set_cons_succ,List.getElem_toArray,List.getElem_cons_zero,List.getElem_cons_succ])
       (refine takeOn (i:=3) (v:=?_) (by kernel_rfl) (by rfl) (by rfl) (by kernel_rfl) (by kernel_rfl) (by intro _ _ _ h;exact h) ?_ (by assumption) ?_);(rotate_left 1);(focus ((intro w hSw);(try dsimp only at hSw);go_simp;(try with_reducible rfl)));(try simp only[Act.put,List.setIfInBounds_toArray,List.set_cons_zero,List.set_cons_succ,List.getElem_toArray,List.getElem_cons_zero,List.getElem_cons_succ])
       (refine takeOn (i:=5) (v:=?_) (by kernel_rfl) (by rfl) (by rfl) (by kernel_rfl) (by kernel_rfl) (by intro _ _ _ h;exact h) ?_ (by assumption) ?_);(rotate_left 1);(focus ((intro w hSw);(try dsimp only at hSw);go_simp;(try with_reducible rfl)));(try simp only[Act.put,List.setIfInBounds_toArray,List.set_cons_zero,List.set_cons_succ,List.getElem_toArray,List.getElem_cons_zero,List.getElem_cons_succ])
       (refine takeOn (i:=6) (v:=?_) (by kernel_rfl) (by rfl) (by rfl) (by kernel_rfl) (by kernel_rfl) (by intro _ _ _ h;exact h) ?_ (by assumption) ?_);(rotate_left 1);(focus ((intro w hSw);(try dsimp only at hSw);go_simp;(try with_reducible rfl)));(try simp only[Act.put,List.setIfInBounds_toArray,List.set_cons_zero,List.set_cons_succ,List.getElem_toArray,List.getElem_cons_zero,List.getElem_cons_succ])
       (refine takeOn (i:=7) (v:=?_) (by kernel_rfl) (by rfl) (by rfl) (by kernel_rfl) (by kernel_rfl) (by intro _ _ _ h;exact h) ?_ (by assumption) ?_);(rotate_left 1);(focus ((intro w hSw);(try dsimp only at hSw);go_simp;(try with_reducible rfl)));(try simp only[Act.put,List.setIfInBounds_toArray,List.set_cons_zero,List.set_cons_succ,List.getElem_toArray,List.getElem_cons_zero,List.getElem_cons_succ])
       (refine takeOn (i:=8) (v:=?_) (by kernel_rfl) (by rfl) (by rfl) (by kernel_rfl) (by kernel_rfl) (by intro _ _ _ h;exact h) ?_ (by assumption) ?_);(rotate_left 1);(focus ((intro w hSw);(try dsimp only at hSw);go_simp;(try with_reducible rfl)));(try simp only[Act.put,List.setIfInBounds_toArray,List.set_cons_zero,List.set_cons_succ,List.getElem_toArray,List.getElem_cons_zero,List.getElem_cons_succ])
       (refine takeOn (i:=11) (v:=?_) (by kernel_rfl) (by rfl) (by rfl) (by kernel_rfl) (by kernel_rfl) (by intro _ _ _ h;exact h) ?_ (by assumption) ?_);(rotate_left 1);(focus ((intro w hSw);(try dsimp only at hSw);go_simp;(try with_reducible rfl)));(try simp only[Act.put,List.setIfInBounds_toArray,List.set_cons_zero,List.set_cons_succ,List.getElem_toArray,List.getElem_cons_zero,List.getElem_cons_succ])
       (refine takeOn (i:=12) (v:=?_) (by kernel_rfl) (by rfl) (by rfl) (by kernel_rfl) (by kernel_rfl) (by intro _ _ _ h;exact h) ?_ (by assumption) ?_);(rotate_left 1);(focus ((intro w hSw);(try dsimp only at hSw);go_simp;(try with_reducible rfl)));(try simp only[Act.put,List.setIfInBounds_toArray,List.set_cons_zero,List.set_cons_succ,List.getElem_toArray,List.getElem_cons_zero,List.getElem_cons_succ])
       (refine takeOn (i:=13) (v:=?_) (by kernel_rfl) (by rfl) (by rfl) (by kernel_rfl) (by kernel_rfl) (by intro _ _ _ h;exact h) ?_ (by assumption) ?_);(rotate_left 1);(focus ((intro w hSw);(try dsimp only at hSw);go_simp;(try with_reducible rfl)));(try simp only[Act.put,List.setIfInBounds_toArray,List.set_cons_zero,List.set_cons_succ,List.getElem_toArray,List.getElem_cons_zero,List.getElem_cons_succ])
       refine wpAnyH_ready (rs:=[0,9]) (by kernel_rfl) (by simp) ?_
       refine AllReadyH.cons (i:=0) (by rfl) (fun K hK=>?_) (AllReadyH.cons (i:=9) (by rfl) (fun K hK=>?_) (AllReadyH.nil))
       · rw[if_pos (by rfl)]
         go_simp
         refine hK.out _ _ (by exact⟨xup,KX _ xup⟩) (fun hHeld=>?_)
         clear hK K
         (try simp only[Act.put,List.setIfInBounds_toArray,List.set_cons_zero,List.set_cons_succ,List.getElem_toArray,List.getElem_cons_zero,List.getElem_cons_succ])
         refine wpAnyH_ready (rs:=[4,9]) (by kernel_rfl) (by simp) ?_
         refine AllReadyH.cons (i:=4) (by rfl) (fun K hK=>?_) (AllReadyH.cons (i:=9) (by rfl) (fun K hK=>?_) (AllReadyH.nil))
         · rw[if_pos (by rfl)]
           (refine opw_of (ops:=#[]) rfl (step_copy2 slI rfl _ _ rfl _ _ A rfl rfl bup (HA.out _ xup) w2 (by first | exact Nat.le_refl _ | (simp;done) | (simp;omega)) xup ?_));intro aoC cC wC hOC hZC hEC;have hXC:=Ext.trans (a:=w2) xup hEC;have hOE:OwnE 3 w2 w2 wC _ _:=Or.inr hOC
           refine hK.out _ _ (by exact⟨xup,KX _ xup⟩) (fun hHeld=>?_)
           clear hK K
           (try simp only[Act.put,List.setIfInBounds_toArray,List.set_cons_zero,List.set_cons_succ,List.getElem_toArray,List.getElem_cons_zero,List.getElem_cons_succ])
           refine takeOne (i:=9) (by kernel_rfl) (by rfl) (by rfl) (fun K hK=>?_)
           go_simp
           refine hK.out _ _ (by exact⟨xup,KX _ xup⟩) (fun hHeld=>?_)
           clear hK K
           (try simp only[Act.put,List.setIfInBounds_toArray,List.set_cons_zero,List.set_cons_succ,List.getElem_toArray,List.getElem_cons_zero,List.getElem_cons_succ])
           refine takeOne (i:=10) (by kernel_rfl) (by rfl) (by rfl) (fun K hK=>?_)
           (refine opw_of (ops:=#[]) rfl (step_appendsE slI rfl _ _ rfl w2 w2 _ _ A [x] (by first | exact hOE | exact hOE.ext ((Ext.refl _).alloc _)) (Blk.ints1 (T:=3) (by repeat (first | (with_reducible assumption) | (with_reducible exact Blk.new _ _ _) | ((with_reducible refine Blk.new' ?_);simp[go_sem];done) | (with_reducible apply Blk.alloc) | (with_reducible apply Blk.drew) | (with_reducible refine Blk.ext ?_ hEC)))) xup hln1 rfl rfl ?_));intro vD wD hOD hXD hTD
           refine hK.out _ _ (by exact⟨xup,KX _ xup⟩) (fun hHeld=>?_)
           clear hK K
           (try simp only[Act.put,List.setIfInBounds_toArray,List.set_cons_zero,List.set_cons_succ,List.getElem_toArray,List.getElem_cons_zero,List.getElem_cons_succ])
           refine takeOne (i:=14) (by kernel_rfl) (by rfl) (by rfl) (fun K hK=>?_)
           (refine opw_of (ops:=#[]) rfl (step_appendsE slI rfl _ _ rfl w2 w2 _ _ (A++[x]) B hOD (HB.out _ xup) xup hln2 rfl rfl ?_));intro vF wF hOF hXF hTF
           refine hK.out _ _ (by exact⟨xup,KX _ xup⟩) (fun hHeld=>?_)
           clear hK K
           (try simp only[Act.put,List.setIfInBounds_toArray,List.set_cons_zero,List.set_cons_succ,List.getElem_toArray,List.getElem_cons_zero,List.getElem_cons_succ])
           (refine takeOn (i:=15) (v:=?_) (by kernel_rfl) (by rfl) (by rfl) (by kernel_rfl) (by kernel_rfl) (by intro _ _ _ h;exact h) ?_ (by assumption) ?_);(rotate_left 1);(focus ((intro w hSw);(try dsimp only at hSw);go_simp;(try with_reducible rfl)));(try simp only[Act.put,List.setIfInBounds_toArray,List.set_cons_zero,List.set_cons_succ,List.getElem_toArray,List.getElem_cons_zero,List.getElem_cons_succ])
           refine wpAnyH_done (by kernel_rfl) ?_ _
           obtain⟨aoN,cN,rfl,hON,hEN⟩:=MiP.of hOF hXF
           go_wp2_with fail
           go_roundw
           case rel=>exact⟨i+1,_,by omega,by go_num,Hs.out _ Hp.out,hON.mono hE2,hE2.trans hEN⟩
           case measure=>(simp[intOf];omega)
         · rw[if_pos (by rfl)]
           go_simp
           refine hK.out _ _ (by exact⟨xup,KX _ xup⟩) (fun hHeld=>?_)
           clear hK K
           (try simp only[Act.put,List.setIfInBounds_toArray,List.set_cons_zero,List.set_cons_succ,List.getElem_toArray,List.getElem_cons_zero,List.getElem_cons_succ])
           refine takeOne (i:=4) (by kernel_rfl) (by rfl) (by rfl) (fun K hK=>?_)
           (refine opw_of (ops:=#[]) rfl (step_copy2 slI rfl _ _ rfl _ _ A rfl rfl bup (HA.out _ xup) w2 (by first | exact Nat.le_refl _ | (simp;done) | (simp;omega)) xup ?_));intro aoC cC wC hOC hZC hEC;have hXC:=Ext.trans (a:=w2) xup hEC;have hOE:OwnE 3 w2 w2 wC _ _:=Or.inr hOC
           refine hK.out _ _ (by exact⟨xup,KX _ xup⟩) (fun hHeld=>?_)
           clear hK K
           (try simp only[Act.put,List.setIfInBounds_toArray,List.set_cons_zero,List.set_cons_succ,List.getElem_toArray,List.getElem_cons_zero,List.getElem_cons_succ])
           refine takeOne (i:=10) (by kernel_rfl) (by rfl) (by rfl) (fun K hK=>?_)
           (refine opw_of (ops:=#[]) rfl (step_appendsE slI rfl _ _ rfl w2 w2 _ _ A [x] (by first | exact hOE | exact hOE.ext ((Ext.refl _).alloc _)) (Blk.ints1 (T:=3) (by repeat (first | (with_reducible assumption) | (with_reducible exact Blk.new _ _ _) | ((with_reducible refine Blk.new' ?_);simp[go_sem];done) | (with_reducible apply Blk.alloc) | (with_reducible apply Blk.drew) | (with_reducible refine Blk.ext ?_ hEC)))) xup hln1 rfl rfl ?_));intro vD wD hOD hXD hTD
           refine hK.out _ _ (by exact⟨xup,KX _ xup⟩) (fun hHeld=>?_)
           clear hK K
           (try simp only[Act.put,List.setIfInBounds_toArray,List.set_cons_zero,List.set_cons_succ,List.getElem_toArray,List.getElem_cons_zero,List.getElem_cons_succ])
           refine takeOne (i:=14) (by kernel_rfl) (by rfl) (by rfl) (fun K hK=>?_)
           (refine opw_of (ops:=#[]) rfl (step_appendsE slI rfl _ _ rfl w2 w2 _ _ (A++[x]) B hOD (HB.out _ xup) xup hln2 rfl rfl ?_));intro vF wF hOF hXF hTF
           refine hK.out _ _ (by exact⟨xup,KX _ xup⟩) (fun hHeld=>?_)
           clear hK K
           (try simp only[Act.put,List.setIfInBounds_toArray,List.set_cons_zero,List.set_cons_succ,List.getElem_toArray,List.getElem_cons_zero,List.getElem_cons_succ])
           (refine takeOn (i:=15) (v:=?_) (by kernel_rfl) (by rfl) (by rfl) (by kernel_rfl) (by kernel_rfl) (by intro _ _ _ h;exact h) ?_ (by assumption) ?_);(rotate_left 1);(focus ((intro w hSw);(try dsimp only at hSw);go_simp;(try with_reducible rfl)));(try simp only[Act.put,List.setIfInBounds_toArray,List.set_cons_zero,List.set_cons_succ,List.getElem_toArray,List.getElem_cons_zero,List.getElem_cons_succ])
           refine wpAnyH_done (by kernel_rfl) ?_ _
           obtain⟨aoN,cN,rfl,hON,hEN⟩:=MiP.of hOF hXF
           go_wp2_with fail
           go_roundw
           case rel=>exact⟨i+1,_,by omega,by go_num,Hs.out _ Hp.out,hON.mono hE2,hE2.trans hEN⟩
           case measure=>(simp[intOf];omega)
       · rw[if_pos (by rfl)]
         go_simp
         refine hK.out _ _ (by exact⟨xup,KX _ xup⟩) (fun hHeld=>?_)
         clear hK K
         (try simp only[Act.put,List.setIfInBounds_toArray,List.set_cons_zero,List.set_cons_succ,List.getElem_toArray,List.getElem_cons_zero,List.getElem_cons_succ])
         refine takeOne (i:=0) (by kernel_rfl) (by rfl) (by rfl) (fun K hK=>?_)
         go_simp
         refine hK.out _ _ (by exact⟨xup,KX _ xup⟩) (fun hHeld=>?_)
         clear hK K
         (try simp only[Act.put,List.setIfInBounds_toArray,List.set_cons_zero,List.set_cons_succ,List.getElem_toArray,List.getElem_cons_zero,List.getElem_cons_succ])
         refine takeOne (i:=4) (by kernel_rfl) (by rfl) (by rfl) (fun K hK=>?_)
         (refine opw_of (ops:=#[]) rfl (step_copy2 slI rfl _ _ rfl _ _ A rfl rfl bup (HA.out _ xup) w2 (by first | exact Nat.le_refl _ | (simp;done) | (simp;omega)) xup ?_));intro aoC cC wC hOC hZC hEC;have hXC:=Ext.trans (a:=w2) xup hEC;have hOE:OwnE 3 w2 w2 wC _ _:=Or.inr hOC
         refine hK.out _ _ (by exact⟨xup,KX _ xup⟩) (fun hHeld=>?_)
         clear hK K
         (try simp only[Act.put,List.setIfInBounds_toArray,List.set_cons_zero,List.set_cons_succ,List.getElem_toArray,List.getElem_cons_zero,List.getElem_cons_succ])
         refine takeOne (i:=10) (by kernel_rfl) (by rfl) (by rfl) (fun K hK=>?_)
         (refine opw_of (ops:=#[]) rfl (step_appendsE slI rfl _ _ rfl w2 w2 _ _ A [x] (by first | exact hOE | exact hOE.ext ((Ext.refl _).alloc _)) (Blk.ints1 (T:=3) (by repeat (first | (with_reducible assumption) | (with_reducible exact Blk.new _ _ _) | ((with_reducible refine Blk.new' ?_);simp[go_sem];done) | (with_reducible apply Blk.alloc) | (with_reducible apply Blk.drew) | (with_reducible refine Blk.ext ?_ hEC)))) xup hln1 rfl rfl ?_));intro vD wD hOD hXD hTD
         refine hK.out _ _ (by exact⟨xup,KX _ xup⟩) (fun hHeld=>?_)
         clear hK K
         (try simp only[Act.put,List.setIfInBounds_toArray,List.set_cons_zero,List.set_cons_succ,List.getElem_toArray,List.getElem_cons_zero,List.getElem_cons_succ])
         refine takeOne (i:=14) (by kernel_rfl) (by rfl) (by rfl) (fun K hK=>?_)
         (refine opw_of (ops:=#[]) rfl (step_appendsE slI rfl _ _ rfl w2 w2 _ _ (A++[x]) B hOD (HB.out _ xup) xup hln2 rfl rfl ?_));intro vF wF hOF hXF hTF
         refine hK.out _ _ (by exact⟨xup,KX _ xup⟩) (fun hHeld=>?_)
         clear hK K
         (try simp only[Act.put,List.setIfInBounds_toArray,List.set_cons_zero,List.set_cons_succ,List.getElem_toArray,List.getElem_cons_zero,List.getElem_cons_succ])
         (refine takeOn (i:=15) (v:=?_) (by kernel_rfl) (by rfl) (by rfl) (by kernel_rfl) (by kernel_rfl) (by intro _ _ _ h;exact h) ?_ (by assumption) ?_);(rotate_left 1);(focus ((intro w hSw);(try dsimp only at hSw);go_simp;(try with_reducible rfl)));(try simp only[Act.put,List.setIfInBounds_toArray,List.set_cons_zero,List.set_cons_succ,List.getElem_toArray,List.getElem_cons_zero,List.getElem_cons_succ])
         refine wpAnyH_done (by kernel_rfl) ?_ _
         obtain⟨aoN,cN,rfl,hON,hEN⟩:=MiP.of hOF hXF
         go_wp2_with fail
         go_roundw
         case rel=>exact⟨i+1,_,by omega,by go_num,Hs.out _ Hp.out,hON.mono hE2,hE2.trans hEN⟩
         case measure=>(simp[intOf];omega)
     · have hlj:j<L.length:=by omega
       have hck:=fun U=>Hcell.out j _ hlj (hEi.trans (lat_ext wr U))
       obtain⟨y,hY⟩:∃y,y=nth L j:=⟨_,rfl⟩
       simp only[←hY] at hck hlt2
       have hixj:=hixL j
       have hw1:IntKind.i64.wrap (((j+1:Nat):Int) - 1)=(j:Int):=by rw[show (((j+1:Nat):Int) - 1)=(j:Int) by omega];exact IntWalk.i64_in _ (by omega)
       have hw2:(((j+1:Nat):Int) - 1)=(j:Int):=by omega
       have hkz:(0:Int)<((j+1:Nat):Int):=by omega
       have Hn:Hid (pkI L x L.length=pkI L x j):=Lib.hid (by rw[HP.out,pkI_lt (by rw[←hY];exact hlt2)])
       clear hY
       have hE:=Ext.refl wr
       go_wp2_with fail
       (refine wp_region_lat (wr) (by kernel_rfl) (by kernel_rfl) hE ?_);(repeat (go_big_quiet_step (first | fail)));(refine wpQuiet_nil ?_);(intro W hE');(replace hE:=lat_of hE');(clear hE')
       rename World=>w2
       have hEi2:=hEi.trans hE
       clear hcx hck
       go_wp2_with fail
       go_roundw
       case rel=>exact⟨j,by omega,by go_num,Hn,hEi2⟩
       case measure=>(first | (simp[intOf];done) | (simp[intOf];omega))
     · have hlj:j<L.length:=by omega
       have hck:=fun U=>Hcell.out j _ hlj (hEi.trans (lat_ext wr U))
       have Hp:Hid (L.take k++[x]++L.drop k=insI L x):=Lib.hid (by
        have e:pkI L x L.length=k:=by
         rw[HP.out,hkj];unfold pkI;rw[if_neg hge]
        unfold insI;rw[e])
       obtain⟨y,hY⟩:∃y,y=nth L j:=⟨_,rfl⟩
       simp only[←hY] at hck hge
       have hw2:((k:Int) - 1)=(j:Int):=by omega
       have hw1:IntKind.i64.wrap ((k:Int) - 1)=(j:Int):=by rw[hw2];exact IntWalk.i64_in _ (by omega)
       have hkz:(0:Int)<(k:Int):=by omega
       have hkN:0<k:=by omega
       have hixj:=hixL j
       clear hY hkj
       have hE:=Ext.refl wr
       go_wp2_with fail
       (refine wp_region_lat (wr) (by kernel_rfl) (by kernel_rfl) hE ?_);(repeat (go_big_quiet_step (first | fail)));(refine wpQuiet_nil ?_);(intro W hE');(replace hE:=lat_of hE');(clear hE')
       rename World=>w2
       have hEi2:=hEi.trans hE
       have hE2:=hEr.trans hEi2
       clear hE hcx hck
       have hsl:=fun W=>run_cut (P:=Tryz.prog) elI szI ao L.length c (k:Int) (by omega) (by omega) W
       have hsa:=fun W=>run_cutAt (P:=Tryz.prog) elI szI ao L.length c (k:Int) (by omega) (by omega) W
       have hfl:=fun W=>run_cutFrom (P:=Tryz.prog) elI szI ao L.length c (k:Int) (by omega) (by omega) W
       have hfa:=fun W=>run_cutFromAt (P:=Tryz.prog) elI szI ao L.length c (k:Int) (by omega) (by omega) W
       rw[show ((k:Int)).toNat=k by omega] at hsl hsa hfl hfa
       have HA:=Lib.hid (fun W (hW:Ext w2 W)=>(HI.out W (hEi2.trans hW)).take (k:=k) (by omega))
       have HB:=Lib.hid (fun W (hW:Ext w2 W)=>(HI.out W (hEi2.trans hW)).drop (k:=k) (by omega))
       have hln1:(L.take k).length+[x].length≤17592186044416:=by rw[List.length_take,List.length_singleton];omega
       have hln2:(L.take k++[x]).length+(L.drop k).length≤17592186044416:=by rw[List.length_append,List.length_take,List.length_singleton,List.length_drop];omega
       obtain⟨A,hA⟩:∃A,A=L.take k:=⟨_,rfl⟩
       obtain⟨B,hB⟩:∃B,B=L.drop k:=⟨_,rfl⟩
       rw[←hA] at HA hln1 hln2 Hp
       rw[←hB] at HB hln2 Hp
       have KX:=fun W (hW:Ext w2 W)=>HX.out W (hE2.trans hW)
       have hE:=Ext.refl w2
       clear hA hB
       go_wp2_with fail
       refine wp_region_held_drew (S:=(fun W=>Ext w2 W∧W.cell? (adrX i)=some (.int .i64 x))) (by kernel_rfl) (by exact⟨xup,KX _ xup⟩) (fun hHeld=>?_)
       (refine takeOn (i:=1) (v:=?_) (by kernel_rfl) (by rfl) (by rfl) (by kernel_rfl) (by kernel_rfl) (by intro _ _ _ h;exact h) ?_ (by assumption) ?_);(rotate_left 1);(focus ((intro w hSw);(try dsimp only at hSw);go_simp;(try with_reducible rfl)));(try simp only[Act.put,List.setIfInBounds_toArray,List.set_cons_zero,List.set_cons_succ,List.getElem_toArray,List.getElem_cons_zero,List.getElem_cons_succ])
       (refine takeOn (i:=2) (v:=?_) (by kernel_rfl) (by rfl) (by rfl) (by kernel_rfl) (by kernel_rfl) (by intro _ _ _ h;exact h) ?_ (by assumption) ?_);(rotate_left 1);(focus ((intro w hSw);(try dsimp only at hSw);go_simp;(try with_reducible rfl)));(try simp only[Act.put,List.setIfInBounds_toArray,List.set_cons_zero,List.set_cons_succ,List.getElem_toArray,List.getElem_cons_zero,List.getElem_cons_succ])
       (refine takeOn (i:=3) (v:=?_) (by kernel_rfl) (by rfl) (by rfl) (by kernel_rfl) (by kernel_rfl) (by intro _ _ _ h;exact h) ?_ (by assumption) ?_);(rotate_left 1);(focus ((intro w hSw);(try dsimp only at hSw);go_simp;(try with_reducible rfl)));(try simp only[Act.put,List.setIfInBounds_toArray,List.set_cons_zero,List.set_cons_succ,List.getElem_toArray,List.getElem_cons_zero,List.getElem_cons_succ])
       (refine takeOn (i:=5) (v:=?_) (by kernel_rfl) (by rfl) (by rfl) (by kernel_rfl) (by kernel_rfl) (by intro _ _ _ h;exact h) ?_ (by assumption) ?_);(rotate_left 1);(focus ((intro w hSw);(try dsimp only at hSw);go_simp;(try with_reducible rfl)));(try simp only[Act.put,List.setIfInBounds_toArray,List.set_cons_zero,List.set_cons_succ,List.getElem_toArray,List.getElem_cons_zero,List.getElem_cons_succ])
       (refine takeOn (i:=6) (v:=?_) (by kernel_rfl) (by rfl) (by rfl) (by kernel_rfl) (by kernel_rfl) (by intro _ _ _ h;exact h) ?_ (by assumption) ?_);(rotate_left 1);(focus ((intro w hSw);(try dsimp only at hSw);go_simp;(try with_reducible rfl)));(try simp only[Act.put,List.setIfInBounds_toArray,List.set_cons_zero,List.set_cons_succ,List.getElem_toArray,List.getElem_cons_zero,List.getElem_cons_succ])
       (refine takeOn (i:=7) (v:=?_) (by kernel_rfl) (by rfl) (by rfl) (by kernel_rfl) (by kernel_rfl) (by intro _ _ _ h;exact h) ?_ (by assumption) ?_);(rotate_left 1);(focus ((intro w hSw);(try dsimp only at hSw);go_simp;(try with_reducible rfl)));(try simp only[Act.put,List.setIfInBounds_toArray,List.set_cons_zero,List.set_cons_succ,List.getElem_toArray,List.getElem_cons_zero,List.getElem_cons_succ])
       (refine takeOn (i:=8) (v:=?_) (by kernel_rfl) (by rfl) (by rfl) (by kernel_rfl) (by kernel_rfl) (by intro _ _ _ h;exact h) ?_ (by assumption) ?_);(rotate_left 1);(focus ((intro w hSw);(try dsimp only at hSw);go_simp;(try with_reducible rfl)));(try simp only[Act.put,List.setIfInBounds_toArray,List.set_cons_zero,List.set_cons_succ,List.getElem_toArray,List.getElem_cons_zero,List.getElem_cons_succ])
       (refine takeOn (i:=11) (v:=?_) (by kernel_rfl) (by rfl) (by rfl) (by kernel_rfl) (by kernel_rfl) (by intro _ _ _ h;exact h) ?_ (by assumption) ?_);(rotate_left 1);(focus ((intro w hSw);(try dsimp only at hSw);go_simp;(try with_reducible rfl)));(try simp only[Act.put,List.setIfInBounds_toArray,List.set_cons_zero,List.set_cons_succ,List.getElem_toArray,List.getElem_cons_zero,List.getElem_cons_succ])
       (refine takeOn (i:=12) (v:=?_) (by kernel_rfl) (by rfl) (by rfl) (by kernel_rfl) (by kernel_rfl) (by intro _ _ _ h;exact h) ?_ (by assumption) ?_);(rotate_left 1);(focus ((intro w hSw);(try dsimp only at hSw);go_simp;(try with_reducible rfl)));(try simp only[Act.put,List.setIfInBounds_toArray,List.set_cons_zero,List.set_cons_succ,List.getElem_toArray,List.getElem_cons_zero,List.getElem_cons_succ])
       (refine takeOn (i:=13) (v:=?_) (by kernel_rfl) (by rfl) (by rfl) (by kernel_rfl) (by kernel_rfl) (by intro _ _ _ h;exact h) ?_ (by assumption) ?_);(rotate_left 1);(focus ((intro w hSw);(try dsimp only at hSw);go_simp;(try with_reducible rfl)));(try simp only[Act.put,List.setIfInBounds_toArray,List.set_cons_zero,List.set_cons_succ,List.getElem_toArray,List.getElem_cons_zero,List.getElem_cons_succ])
       refine wpAnyH_ready (rs:=[0,9]) (by kernel_rfl) (by simp) ?_
       refine AllReadyH.cons (i:=0) (by rfl) (fun K hK=>?_) (AllReadyH.cons (i:=9) (by rfl) (fun K hK=>?_) (AllReadyH.nil))
       · rw[if_pos (by rfl)]
         go_simp
         refine hK.out _ _ (by exact⟨xup,KX _ xup⟩) (fun hHeld=>?_)
         clear hK K
         (try simp only[Act.put,List.setIfInBounds_toArray,List.set_cons_zero,List.set_cons_succ,List.getElem_toArray,List.getElem_cons_zero,List.getElem_cons_succ])
         refine wpAnyH_ready (rs:=[4,9]) (by kernel_rfl) (by simp) ?_
         refine AllReadyH.cons (i:=4) (by rfl) (fun K hK=>?_) (AllReadyH.cons (i:=9) (by rfl) (fun K hK=>?_) (AllReadyH.nil))
         · rw[if_pos (by rfl)]
           (refine opw_of (ops:=#[]) rfl (step_copy2 slI rfl _ _ rfl _ _ A rfl rfl bup (HA.out _ xup) w2 (by first | exact Nat.le_refl _ | (simp;done) | (simp;omega)) xup ?_));intro aoC cC wC hOC hZC hEC;have hXC:=Ext.trans (a:=w2) xup hEC;have hOE:OwnE 3 w2 w2 wC _ _:=Or.inr hOC
           refine hK.out _ _ (by exact⟨xup,KX _ xup⟩) (fun hHeld=>?_)
           clear hK K
           (try simp only[Act.put,List.setIfInBounds_toArray,List.set_cons_zero,List.set_cons_succ,List.getElem_toArray,List.getElem_cons_zero,List.getElem_cons_succ])
           refine takeOne (i:=9) (by kernel_rfl) (by rfl) (by rfl) (fun K hK=>?_)
           go_simp
           refine hK.out _ _ (by exact⟨xup,KX _ xup⟩) (fun hHeld=>?_)
           clear hK K
           (try simp only[Act.put,List.setIfInBounds_toArray,List.set_cons_zero,List.set_cons_succ,List.getElem_toArray,List.getElem_cons_zero,List.getElem_cons_succ])
           refine takeOne (i:=10) (by kernel_rfl) (by rfl) (by rfl) (fun K hK=>?_)
           (refine opw_of (ops:=#[]) rfl (step_appendsE slI rfl _ _ rfl w2 w2 _ _ A [x] (by first | exact hOE | exact hOE.ext ((Ext.refl _).alloc _)) (Blk.ints1 (T:=3) (by repeat (first | (with_reducible assumption) | (with_reducible exact Blk.new _ _ _) | ((with_reducible refine Blk.new' ?_);simp[go_sem];done) | (with_reducible apply Blk.alloc) | (with_reducible apply Blk.drew) | (with_reducible refine Blk.ext ?_ hEC)))) xup hln1 rfl rfl ?_));intro vD wD hOD hXD hTD
           refine hK.out _ _ (by exact⟨xup,KX _ xup⟩) (fun hHeld=>?_)
           clear hK K
           (try simp only[Act.put,List.setIfInBounds_toArray,List.set_cons_zero,List.set_cons_succ,List.getElem_toArray,List.getElem_cons_zero,List.getElem_cons_succ])
           refine takeOne (i:=14) (by kernel_rfl) (by rfl) (by rfl) (fun K hK=>?_)
           (refine opw_of (ops:=#[]) rfl (step_appendsE slI rfl _ _ rfl w2 w2 _ _ (A++[x]) B hOD (HB.out _ xup) xup hln2 rfl rfl ?_));intro vF wF hOF hXF hTF
           refine hK.out _ _ (by exact⟨xup,KX _ xup⟩) (fun hHeld=>?_)
           clear hK K
           (try simp only[Act.put,List.setIfInBounds_toArray,List.set_cons_zero,List.set_cons_succ,List.getElem_toArray,List.getElem_cons_zero,List.getElem_cons_succ])
           (refine takeOn (i:=15) (v:=?_) (by kernel_rfl) (by rfl) (by rfl) (by kernel_rfl) (by kernel_rfl) (by intro _ _ _ h;exact h) ?_ (by assumption) ?_);(rotate_left 1);(focus ((intro w hSw);(try dsimp only at hSw);go_simp;(try with_reducible rfl)));(try simp only[Act.put,List.setIfInBounds_toArray,List.set_cons_zero,List.set_cons_succ,List.getElem_toArray,List.getElem_cons_zero,List.getElem_cons_succ])
           refine wpAnyH_done (by kernel_rfl) ?_ _
           obtain⟨aoN,cN,rfl,hON,hEN⟩:=MiP.of hOF hXF
           go_wp2_with fail
           go_roundw
           case rel=>exact⟨i+1,_,by omega,by go_num,Hs.out _ Hp.out,hON.mono hE2,hE2.trans hEN⟩
           case measure=>(simp[intOf];omega)
         · rw[if_pos (by rfl)]
           go_simp
           refine hK.out _ _ (by exact⟨xup,KX _ xup⟩) (fun hHeld=>?_)
           clear hK K
           (try simp only[Act.put,List.setIfInBounds_toArray,List.set_cons_zero,List.set_cons_succ,List.getElem_toArray,List.getElem_cons_zero,List.getElem_cons_succ])
           refine takeOne (i:=4) (by kernel_rfl) (by rfl) (by rfl) (fun K hK=>?_)
           (refine opw_of (ops:=#[]) rfl (step_copy2 slI rfl _ _ rfl _ _ A rfl rfl bup (HA.out _ xup) w2 (by first | exact Nat.le_refl _ | (simp;done) | (simp;omega)) xup ?_));intro aoC cC wC hOC hZC hEC;have hXC:=Ext.trans (a:=w2) xup hEC;have hOE:OwnE 3 w2 w2 wC _ _:=Or.inr hOC
           refine hK.out _ _ (by exact⟨xup,KX _ xup⟩) (fun hHeld=>?_)
           clear hK K
           (try simp only[Act.put,List.setIfInBounds_toArray,List.set_cons_zero,List.set_cons_succ,List.getElem_toArray,List.getElem_cons_zero,List.getElem_cons_succ])
           refine takeOne (i:=10) (by kernel_rfl) (by rfl) (by rfl) (fun K hK=>?_)
           (refine opw_of (ops:=#[]) rfl (step_appendsE slI rfl _ _ rfl w2 w2 _ _ A [x] (by first | exact hOE | exact hOE.ext ((Ext.refl _).alloc _)) (Blk.ints1 (T:=3) (by repeat (first | (with_reducible assumption) | (with_reducible exact Blk.new _ _ _) | ((with_reducible refine Blk.new' ?_);simp[go_sem];done) | (with_reducible apply Blk.alloc) | (with_reducible apply Blk.drew) | (with_reducible refine Blk.ext ?_ hEC)))) xup hln1 rfl rfl ?_));intro vD wD hOD hXD hTD
           refine hK.out _ _ (by exact⟨xup,KX _ xup⟩) (fun hHeld=>?_)
           clear hK K
           (try simp only[Act.put,List.setIfInBounds_toArray,List.set_cons_zero,List.set_cons_succ,List.getElem_toArray,List.getElem_cons_zero,List.getElem_cons_succ])
           refine takeOne (i:=14) (by kernel_rfl) (by rfl) (by rfl) (fun K hK=>?_)
           (refine opw_of (ops:=#[]) rfl (step_appendsE slI rfl _ _ rfl w2 w2 _ _ (A++[x]) B hOD (HB.out _ xup) xup hln2 rfl rfl ?_));intro vF wF hOF hXF hTF
           refine hK.out _ _ (by exact⟨xup,KX _ xup⟩) (fun hHeld=>?_)
           clear hK K
           (try simp only[Act.put,List.setIfInBounds_toArray,List.set_cons_zero,List.set_cons_succ,List.getElem_toArray,List.getElem_cons_zero,List.getElem_cons_succ])
           (refine takeOn (i:=15) (v:=?_) (by kernel_rfl) (by rfl) (by rfl) (by kernel_rfl) (by kernel_rfl) (by intro _ _ _ h;exact h) ?_ (by assumption) ?_);(rotate_left 1);(focus ((intro w hSw);(try dsimp only at hSw);go_simp;(try with_reducible rfl)));(try simp only[Act.put,List.setIfInBounds_toArray,List.set_cons_zero,List.set_cons_succ,List.getElem_toArray,List.getElem_cons_zero,List.getElem_cons_succ])
           refine wpAnyH_done (by kernel_rfl) ?_ _
           obtain⟨aoN,cN,rfl,hON,hEN⟩:=MiP.of hOF hXF
           go_wp2_with fail
           go_roundw
           case rel=>exact⟨i+1,_,by omega,by go_num,Hs.out _ Hp.out,hON.mono hE2,hE2.trans hEN⟩
           case measure=>(simp[intOf];omega)
       · rw[if_pos (by rfl)]
         go_simp
         refine hK.out _ _ (by exact⟨xup,KX _ xup⟩) (fun hHeld=>?_)
         clear hK K
         (try simp only[Act.put,List.setIfInBounds_toArray,List.set_cons_zero,List.set_cons_succ,List.getElem_toArray,List.getElem_cons_zero,List.getElem_cons_succ])
         refine takeOne (i:=0) (by kernel_rfl) (by rfl) (by rfl) (fun K hK=>?_)
         go_simp
         refine hK.out _ _ (by exact⟨xup,KX _ xup⟩) (fun hHeld=>?_)
         clear hK K
         (try simp only[Act.put,List.setIfInBounds_toArray,List.set_cons_zero,List.set_cons_succ,List.getElem_toArray,List.getElem_cons_zero,List.getElem_cons_succ])
         refine takeOne (i:=4) (by kernel_rfl) (by rfl) (by rfl) (fun K hK=>?_)
         (refine opw_of (ops:=#[]) rfl (step_copy2 slI rfl _ _ rfl _ _ A rfl rfl bup (HA.out _ xup) w2 (by first | exact Nat.le_refl _ | (simp;done) | (simp;omega)) xup ?_));intro aoC cC wC hOC hZC hEC;have hXC:=Ext.trans (a:=w2) xup hEC;have hOE:OwnE 3 w2 w2 wC _ _:=Or.inr hOC
         refine hK.out _ _ (by exact⟨xup,KX _ xup⟩) (fun hHeld=>?_)
         clear hK K
         (try simp only[Act.put,List.setIfInBounds_toArray,List.set_cons_zero,List.set_cons_succ,List.getElem_toArray,List.getElem_cons_zero,List.getElem_cons_succ])
         refine takeOne (i:=10) (by kernel_rfl) (by rfl) (by rfl) (fun K hK=>?_)
         (refine opw_of (ops:=#[]) rfl (step_appendsE slI rfl _ _ rfl w2 w2 _ _ A [x] (by first | exact hOE | exact hOE.ext ((Ext.refl _).alloc _)) (Blk.ints1 (T:=3) (by repeat (first | (with_reducible assumption) | (with_reducible exact Blk.new _ _ _) | ((with_reducible refine Blk.new' ?_);simp[go_sem];done) | (with_reducible apply Blk.alloc) | (with_reducible apply Blk.drew) | (with_reducible refine Blk.ext ?_ hEC)))) xup hln1 rfl rfl ?_));intro vD wD hOD hXD hTD
         refine hK.out _ _ (by exact⟨xup,KX _ xup⟩) (fun hHeld=>?_)
         clear hK K
         (try simp only[Act.put,List.setIfInBounds_toArray,List.set_cons_zero,List.set_cons_succ,List.getElem_toArray,List.getElem_cons_zero,List.getElem_cons_succ])
         refine takeOne (i:=14) (by kernel_rfl) (by rfl) (by rfl) (fun K hK=>?_)
         (refine opw_of (ops:=#[]) rfl (step_appendsE slI rfl _ _ rfl w2 w2 _ _ (A++[x]) B hOD (HB.out _ xup) xup hln2 rfl rfl ?_));intro vF wF hOF hXF hTF
         refine hK.out _ _ (by exact⟨xup,KX _ xup⟩) (fun hHeld=>?_)
         clear hK K
         (try simp only[Act.put,List.setIfInBounds_toArray,List.set_cons_zero,List.set_cons_succ,List.getElem_toArray,List.getElem_cons_zero,List.getElem_cons_succ])
         (refine takeOn (i:=15) (v:=?_) (by kernel_rfl) (by rfl) (by rfl) (by kernel_rfl) (by kernel_rfl) (by intro _ _ _ h;exact h) ?_ (by assumption) ?_);(rotate_left 1);(focus ((intro w hSw);(try dsimp only at hSw);go_simp;(try with_reducible rfl)));(try simp only[Act.put,List.setIfInBounds_toArray,List.set_cons_zero,List.set_cons_succ,List.getElem_toArray,List.getElem_cons_zero,List.getElem_cons_succ])
         refine wpAnyH_done (by kernel_rfl) ?_ _
         obtain⟨aoN,cN,rfl,hON,hEN⟩:=MiP.of hOF hXF
         go_wp2_with fail
         go_roundw
         case rel=>exact⟨i+1,_,by omega,by go_num,Hs.out _ Hp.out,hON.mono hE2,hE2.trans hEN⟩
         case measure=>(simp[intOf];omega)
  · have hltI:¬(i:Int)<(xs.length:Int):=by omega
    have hil:i=xs.length:=by omega
    subst hil
    rw[List.take_length] at hL
    subst hL
    go_wp2_with fail
    go_ret
    exact⟨_,rfl,hO,hEr⟩
end Go.Zz
namespace Go.Zz
open Go.RowKit Go.Proofs
set_option maxHeartbeats 8000000
set_option maxRecDepth 20000
structure L16(w0 w wA wr:World)(p r g:Nat)(V:Value)(L:List Int)(sP:Value)(P:List Int):Prop where
 hP:Own 3 w0 wr sP P
 hV:Own 3 wA wr V L
 vp:V.ownBlock=none∨V.ownBlock≠sP.ownBlock
 hR:Blk wr r 27 #[.slice none 0 0]
 hG:Blk wr g 27 #[V]
 hC:Cur w0 wr p
 nb:∀k,sP.ownBlock=some k→wA.heap.size≤k
 sz:wA.heap.size≤wr.heap.size
 ws:w.heap.size≤wA.heap.size
 fr:Drw p w wr
theorem L16.drw{w0 w wA wr wr':World}{p r g:Nat}{V sP:Value}{L P:List Int}(h:L16 w0 w wA wr p r g V L sP P)(hF:Drw p wr wr')(hC:Cur w0 wr' p)(hg:g≠p)(hr:r≠p):L16 w0 w wA wr' p r g V L sP P :=
 ⟨Fr.own hF h.hP (h.hC.nb h.hP) (by cases sP.ownBlock<;>simp),Fr.own hF h.hV (h.hC.nb h.hV) (by cases V.ownBlock<;>simp),h.vp,hF.blk h.hR hr,hF.blk h.hG hg,hC,h.nb,Nat.le_trans h.sz hF.size,h.ws,h.fr.trans hF⟩
theorem L16.ext{w0 w wA wr wr':World}{p r g:Nat}{V sP:Value}{L P:List Int}(h:L16 w0 w wA wr p r g V L sP P)(hE:Ext wr wr'):L16 w0 w wA wr' p r g V L sP P :=
 ⟨h.hP.ext hE,h.hV.ext hE,h.vp,h.hR.ext hE,h.hG.ext hE,h.hC.ext hE,h.nb,Nat.le_trans h.sz hE.size,h.ws,h.fr.trans (hE.drw p)⟩
theorem L16.app{w0 w wA wr wr':World}{p r g:Nat}{V sP sP':Value}{L P P':List Int}(h:L16 w0 w wA wr p r g V L sP P)(hO:Own 3 w0 wr' sP' P')(hG:wr.grownBy wr' sP.ownBlock)(hN:Nw sP.ownBlock wr sP'.ownBlock):L16 w0 w wA wr' p r g V L sP' P' :=
 ⟨hO,h.hV.kept hG h.vp,nw_ne hN h.vp (fun k hk=>(h.hV.blk k hk).2),h.hR.grown hG (fun k hk e=>h.hP.ne_blk h.hR (by decide) (by rw[hk,e])),h.hG.grown hG (fun k hk e=>h.hP.ne_blk h.hG (by decide) (by rw[hk,e])),h.hC.grown hG (h.hC.nb h.hP) (fun k hk=>(h.hP.blk k hk).1),
  fun k hk=>by
   rcases hN with hN | hN
   · exact h.nb k (by rw[←hN];exact hk)
   · exact Nat.le_trans h.sz (hN k hk),Nat.le_trans h.sz hG.size,h.ws,
  ⟨hG.os.trans h.fr.os,hG.tape.trans h.fr.tape,hG.output.trans h.fr.output,Nat.le_trans h.fr.size hG.size,fun k hk hb ho=>by
   rw[hG.block k (Nat.lt_of_lt_of_le hk h.fr.size) (fun e=>by have:=h.nb k e.symm;have:=h.ws;omega),h.fr.block k hk hb ho]⟩⟩
structure F16(w0 w wA wr:World)(p r g:Nat)(V:Value)(L:List Int)(sP:Value)(P:List Int):Prop where
 hP:Own 3 w0 wr sP P
 hV:Own 3 wA wr V L
 hR:Blk wr r 27 #[V]
 hG:Blk wr g 27 #[V]
 hC:Cur w0 wr p
 fr:Drw p w wr
theorem F16.ext{w0 w wA wr wr':World}{p r g:Nat}{V sP:Value}{L P:List Int}(h:F16 w0 w wA wr p r g V L sP P)(hE:Ext wr wr'):F16 w0 w wA wr' p r g V L sP P :=
 ⟨h.hP.ext hE,h.hV.ext hE,h.hR.ext hE,h.hG.ext hE,h.hC.ext hE,h.fr.trans (hE.drw p)⟩
theorem L16.store{w0 w wA wr:World}{p r g:Nat}{V sP:Value}{L P:List Int}(h:L16 w0 w wA wr p r g V L sP P)(hrp:r≠p)(hgr:g≠r)(hw:w.heap.size≤r)(h0:w0.heap.size≤r):F16 w0 w wA (wr.setCell ⟨r,0,none⟩ V) p r g V L sP P :=
 ⟨h.hP.setCell_ne (p:=⟨r,0,none⟩) (h.hP.ne_blk h.hR (by decide)) V,h.hV.setCell_ne (p:=⟨r,0,none⟩) (h.hV.ne_blk h.hR (by decide)) V,h.hR.set 0 V,h.hG.other (p:=⟨r,0,none⟩) hgr V,h.hC.other (Ne.symm hrp) h0 V,h.fr.set hw 0 V⟩
theorem l16Draw_any(w0 w:World)(p:Nat)(h:Cur w0 w p) :
 Calls Tryz.prog 167 #[.pointer (some ⟨p,0,none⟩),.int .i64 7] w fun e w'=>∃ao L c aP P cP,e=.returned (.tuple #[.agg #[.slice ao (List.length L) c],.slice aP (List.length P) cP])∧Own 3 w w' (.slice ao (List.length L) c) L∧Ints w' (.slice aP (List.length P) cP) P∧P.length≤8∧Cur w0 w' p∧Drw p w w':=by
 have hp:=h.lt
 have hB0:=Blk.new w 27 #[.slice none 0 0]
 obtain⟨wA,hwA⟩:∃x,x=w.alloc (.cells #[.slice none 0 0] 27):=⟨_,rfl⟩
 have hC0:=h.alloc (.cells #[.slice none 0 0] 27)
 have hF0:=((Ext.refl w).alloc (.cells #[.slice none 0 0] 27)).drw p
 have hsA:w.heap.size<wA.heap.size:=by rw[hwA];simp
 have hpA:p<wA.heap.size:=by omega
 have hb0:w0.heap.size≤wA.heap.size:=by omega
 rw[←hwA] at hB0 hC0 hF0
 have HwA:=Lib.hid hwA
 clear hwA
 go_enter Tryz.func167,Tryz.ntmps167
 go_wp2_with fail
 rw[←HwA.out]
 refine (l2Any_any w0 wA p hC0).mono ?_
 rintro e w2 ⟨ao,L,c,rfl,hO,hC,hF2⟩
 have hR:=hF2.blk hB0 (by omega)
 have hF:=hF0.trans hF2
 have hs2:=hF2.size
 clear hB0 hC0 hF0 hF2
 have hG:=Blk.new w2 27 #[.slice ao L.length c]
 replace hR:=hR.alloc (.cells #[.slice ao L.length c] 27)
 replace hO:=hO.alloc (.cells #[.slice ao L.length c] 27)
 replace hC:=hC.alloc (.cells #[.slice ao L.length c] 27)
 replace hF:=hF.alloc (.cells #[.slice ao L.length c] 27)
 obtain⟨w3,hw3⟩:∃x,x=w2.alloc (.cells #[.slice ao L.length c] 27):=⟨_,rfl⟩
 have hs3:w2.heap.size<w3.heap.size:=by rw[hw3];simp
 have Hs3:Hid (w2.heap.size+1=w3.heap.size):=Lib.hid (by rw[hw3];simp)
 rw[←hw3] at hG hR hO hC hF
 have Hw3:=Lib.hid hw3
 obtain⟨g,hg⟩:∃g,g=w2.heap.size:=⟨_,rfl⟩
 have ngp:g≠p:=by omega
 have nrp:w.heap.size≠p:=by omega
 have ngr:g≠w.heap.size:=by omega
 have Hg1:Hid (g+1=w3.heap.size):=Lib.hid (by rw[hg];exact Hs3.out)
 rw[←hg] at hG
 have Hg:=Lib.hid hg
 have hgA:wA.heap.size≤g:=by omega
 have hOP:=own_made (TI:=3) (n:=0) (by omega) (Ext.refl w3) [] rfl
 change Own _ _ (w3.alloc (.cells #[] 3)) _ _ at hOP
 have hsA3:wA.heap.size≤w3.heap.size:=by omega
 have hI0:L16 w0 w wA (w3.alloc (.cells #[] 3)) p w.heap.size g (.slice ao L.length c) L (.slice (some ⟨w3.heap.size,0,none⟩) 0 0) [] :=
  ⟨hOP.low (by omega),hO.alloc _,by
   cases hb:(Value.slice ao L.length c).ownBlock with
   | none=>exact Or.inl rfl
   | some b=>exact Or.inr (by have:=(hO.blk b hb).2;simp[Value.ownBlock];omega),hR.alloc _,hG.alloc _,hC.alloc _,fun k hk=>by simp[Value.ownBlock] at hk;omega,by simp;omega,by omega,hF.alloc _⟩
 obtain⟨w4,hw4⟩:∃x,x=w3.alloc (.cells #[] 3):=⟨_,rfl⟩
 rw[←hw4] at hI0
 have Hw4:=Lib.hid hw4
 obtain⟨n,hn⟩:∃n,n=ordF L:=⟨_,rfl⟩
 have hob:=ordF_bd L
 have cO:=fun W (hW:Ext w4 W)=>sOrderOf_any _ L W ((hI0.ext hW).hV).ints
 have cO2:=fun W (hv:Own 3 wA W (.slice ao L.length c) L)=>sOrderOf_any _ L W hv.ints
 simp only[←hn] at cO cO2
 rw[←hn] at hob
 clear hw3 hg hw4 hOP hG hR hO hC hF hn
 go_upto_region 3 with fail
 rw[←Hw3.out,←Hg.out,Hg1.out,←Hw4.out]
 go_cut [8] (fun s8 wx=>∃x:Int,s8=.int .i64 x∧L16 w0 w wA wx p w.heap.size g (.slice ao L.length c) L (.slice (some ⟨w3.heap.size,0,none⟩) 0 0) [])
 case first =>
  have l0:=hI0.hG.cell (i:=0) (v:=.slice ao L.length c) rfl
  by_cases h1n:1<n
  · go_wp2_with (first | (go_at_call 39;refine (cO _ (Ext.refl _)).mono ?_;rintro e w5 ⟨rfl,hE5⟩;have hI5:=hI0.ext hE5) | (go_at_call 109;refine (l1Below_any w0 w5 p n (by omega) hI5.hC).mono ?_;rintro e w6 ⟨x,rfl,-,hC6,hF6⟩;have hI6:=hI5.drw hF6 hC6 ngp nrp))
    go_meet
    exact⟨_,rfl,hI6⟩
  · go_wp2_with (first | (go_at_call 39;refine (cO _ (Ext.refl _)).mono ?_;rintro e w5 ⟨rfl,hE5⟩;have hI5:=hI0.ext hE5) | (go_at_call 109;refine (l1Below_any w0 w5 p 1 (by omega) hI5.hC).mono ?_;rintro e w6 ⟨x,rfl,-,hC6,hF6⟩;have hI6:=hI5.drw hF6 hC6 ngp nrp))
    go_meet
    exact⟨_,rfl,hI6⟩
 case rest =>
 clear hI0 cO
 obtain⟨x0,rfl,hI4⟩:=hcut
 go_wp2_with (go_at_call 109;refine (l1Below_any w0 _ p 8 (by omega) hI4.hC).mono ?_;rintro e w6 ⟨n0,rfl,hb,hC6,hF6⟩;have hI6:=hI4.drw hF6 hC6 ngp nrp)
 obtain⟨hn0,hn1⟩:=hb.2 (by omega)
 clear hI4 hC6 hF6 hb
 go_loopw [7,8,9] (fun s7 s8 s9 wr=>∃(k x:Int) (aP:Option Addr) (P:List Int) (cP:Nat),0≤k∧(P.length:Int)+k≤7∧s9=.int .i64 k∧s8=.int .i64 x∧s7=.slice aP P.length cP∧L16 w0 w wA wr p w.heap.size g (.slice ao L.length c) L (.slice aP P.length cP) P) (fun _ _ s9 _=>(intOf s9).toNat)
 case atStart=>exact⟨n0,x0,_,[],0,by omega,by simp;omega,rfl,rfl,rfl,hI6⟩
 case round =>
  rename World=>wr
  clear hI6 hn0 hn1
  obtain⟨k,x,aP,P,cP,hk0,hkP,rfl,rfl,rfl,hI⟩:=hrel
  have hlP:P.length<17592186044416:=by omega
  by_cases hlt:0<k
  · have hwn:IntKind.i64.wrap (k - 1)=k - 1:=IntWalk.i64_in _ (by omega)
    go_wp2_with fail
    refine (l1Once_any w0 _ p 2 (by omega) hI.hC).mono ?_
    rintro e w5 ⟨bb,rfl,hC5,hF5⟩
    have hI5:=hI.drw hF5 hC5 ngp nrp
    clear hI hC5 hF5
    cases bb
    · go_wp2_with (at_builtin;refine wp_append1F slI rfl _ _ rfl w0 _ _ _ _ hI5.hP hI5.hC.base hlP rfl rfl ?_;intro v8 w8 hO8 hG8 hN8;have hI8:=hI5.app hO8 hG8 hN8;obtain⟨a8,c8,rfl,-⟩:=hO8.shape)
      go_roundw
      case rel=>exact⟨k - 1,x,a8,P++[x],c8,by omega,by simp;omega,by go_num,rfl,by simp,hI8⟩
      case measure=>(simp[intOf];omega)
    · have l0:=hI5.hG.cell (i:=0) (v:=.slice ao L.length c) rfl
      by_cases h1n:1<n
      · go_wp2_with (first | (go_at_call 39;refine (cO2 _ hI5.hV).mono ?_;rintro e w6 ⟨rfl,hE6⟩;have hI6:=hI5.ext hE6) | (go_at_call 109;refine (l1Below_any w0 w6 p n (by omega) hI6.hC).mono ?_;rintro e w7 ⟨y,rfl,-,hC7,hF7⟩;have hI7:=hI6.drw hF7 hC7 ngp nrp) | (at_builtin;refine wp_append1F slI rfl _ _ rfl w0 _ _ _ _ hI7.hP hI7.hC.base hlP rfl rfl ?_;intro v8 w8 hO8 hG8 hN8;have hI8:=hI7.app hO8 hG8 hN8;obtain⟨a8,c8,rfl,-⟩:=hO8.shape))
        go_roundw
        case rel=>exact⟨k - 1,y,a8,P++[y],c8,by omega,by simp;omega,by go_num,rfl,by simp,hI8⟩
        case measure=>(simp[intOf];omega)
      · go_wp2_with (first | (go_at_call 39;refine (cO2 _ hI5.hV).mono ?_;rintro e w6 ⟨rfl,hE6⟩;have hI6:=hI5.ext hE6) | (go_at_call 109;refine (l1Below_any w0 w6 p 1 (by omega) hI6.hC).mono ?_;rintro e w7 ⟨y,rfl,-,hC7,hF7⟩;have hI7:=hI6.drw hF7 hC7 ngp nrp) | (at_builtin;refine wp_append1F slI rfl _ _ rfl w0 _ _ _ _ hI7.hP hI7.hC.base hlP rfl rfl ?_;intro v8 w8 hO8 hG8 hN8;have hI8:=hI7.app hO8 hG8 hN8;obtain⟨a8,c8,rfl,-⟩:=hO8.shape))
        go_roundw
        case rel=>exact⟨k - 1,y,a8,P++[y],c8,by omega,by simp;omega,by go_num,rfl,by simp,hI8⟩
        case measure=>(simp[intOf];omega)
  · go_wp2_with fail
    refine (l1Once_any w0 _ p 12 (by omega) hI.hC).mono ?_
    rintro e w5 ⟨bb,rfl,hC5,hF5⟩
    have hI5:=hI.drw hF5 hC5 ngp nrp
    clear hI hC5 hF5
    cases bb
    · go_upto_region 13 with fail
      have hD:=hI5.ext ((Ext.refl w5).drew)
      have d0:=hD.hG.cell (i:=0) (v:=.slice ao L.length c) rfl
      have r0:=hD.hR.cell (i:=0) (v:=.slice none 0 0) rfl
      have f0:=hD.hR.free 0
      have hS:=hD.store nrp ngr (Nat.le_refl _) (by omega)
      have d1:=hS.hG.cell (i:=0) (v:=.slice ao L.length c) rfl
      have hX:=True.intro
      have d2:=True.intro
      have d3:=True.intro
      have hP8:P.length≤1000000:=by omega
      refine wp_region_held_drew (S:=(fun W=>W.cell? ⟨g,0,none⟩=some (.slice ao L.length c))) (by kernel_rfl) (by exact d0) (fun hHeld=>?_)
      (refine takeOn (i:=0) (v:=?_) (by kernel_rfl) (by rfl) (by rfl) (by kernel_rfl) (by kernel_rfl) (by intro _ _ _ h;exact h) ?_ (by assumption) ?_);(rotate_left 1);(focus ((intro w hSw);(try dsimp only at hSw);go_simp;(try with_reducible rfl)));(try simp only[Act.put,List.setIfInBounds_toArray,List.set_cons_zero,List.set_cons_succ,List.getElem_toArray,List.getElem_cons_zero,List.getElem_cons_succ])
      (refine takeOn (i:=1) (v:=?_) (by kernel_rfl) (by rfl) (by rfl) (by kernel_rfl) (by kernel_rfl) (by intro _ _ _ h;exact h) ?_ (by assumption) ?_);(rotate_left 1);(focus ((intro w hSw);(try dsimp only at hSw);go_simp;(try with_reducible rfl)));(try simp only[Act.put,List.setIfInBounds_toArray,List.set_cons_zero,List.set_cons_succ,List.getElem_toArray,List.getElem_cons_zero,List.getElem_cons_succ])
      refine takeOne (i:=2) (by kernel_rfl) (by rfl) (by rfl) (fun K hK=>?_)
      go_simp;(go_at_call 205;(first | (with_reducible refine Calls.mono (l16Sort_any _ P _ hD.hP.ints hP8) ?_) | (with_reducible refine Calls.mono (l16Sort_any _ P _ hS.hP.ints hP8) ?_));rintro e wC ⟨vS,rfl,hOS,hX⟩);obtain⟨aS,cS,rfl,-⟩:=hOS.shape;first | (have hIC:=hD.ext hX;have r1:=hIC.hR.cell (i:=0) (v:=.slice none 0 0) rfl;have f1:=hIC.hR.free 0;have d2:=hIC.hG.cell (i:=0) (v:=.slice ao L.length c) rfl;have hZ:=hIC.store nrp ngr (Nat.le_refl _) (by omega);have d3:=hZ.hG.cell (i:=0) (v:=.slice ao L.length c) rfl;have hOZ:=hOS.setCell_ne (p:=⟨w.heap.size,0,none⟩) (hOS.ne_blk hIC.hR (by decide)) (.slice ao L.length c)) | (have hZ:=hS.ext hX;have d3:=hZ.hG.cell (i:=0) (v:=.slice ao L.length c) rfl;have hOZ:=hOS)
      refine hK.out _ _ (by first | exact d0 | exact d1 | exact d2 | exact d3) (fun hHeld=>?_)
      clear hK K
      (try simp only[Act.put,List.setIfInBounds_toArray,List.set_cons_zero,List.set_cons_succ,List.getElem_toArray,List.getElem_cons_zero,List.getElem_cons_succ])
      refine takeOne (i:=3) (by kernel_rfl) (by rfl) (by rfl) (fun K hK=>?_)
      go_simp
      refine hK.out _ _ (by first | exact d0 | exact d1 | exact d2 | exact d3) (fun hHeld=>?_)
      clear hK K
      (try simp only[Act.put,List.setIfInBounds_toArray,List.set_cons_zero,List.set_cons_succ,List.getElem_toArray,List.getElem_cons_zero,List.getElem_cons_succ])
      (refine takeOn (i:=4) (v:=?_) (by kernel_rfl) (by rfl) (by rfl) (by kernel_rfl) (by kernel_rfl) (by intro _ _ _ h;exact h) ?_ (by assumption) ?_);(rotate_left 1);(focus ((intro w hSw);(try dsimp only at hSw);go_simp;(try with_reducible rfl)));(try simp only[Act.put,List.setIfInBounds_toArray,List.set_cons_zero,List.set_cons_succ,List.getElem_toArray,List.getElem_cons_zero,List.getElem_cons_succ])
      refine wpAnyH_done (by kernel_rfl) ?_ _
      go_wp2_with fail
      have q0:=hZ.hR.cell (i:=0) (v:=.slice ao L.length c) rfl
      refine bodyPost_ret (v:=.tuple #[.agg #[.slice ao L.length c],.slice aS (insS P).length cS]) ?_ rfl ?_
      · simp[results,Tryz.results167,go_sem,q0]
      · exact⟨_,L,_,_,insS P,_,rfl,hZ.hV.low (by omega),hOZ.ints,by have:=insS_len P P.length (Nat.le_refl _);rw[List.take_length] at this;omega,hZ.hC,hZ.fr⟩
    · have hp5:p<w5.heap.size:=hI5.hC.lt.2
      have hOl:Own 3 w5 (w5.alloc (.cells #[.int .i64 (-1),.int .i64 0,.int .i64 24,.int .i64 9223372036854775807] 3)) (.slice (some ⟨w5.heap.size,0,none⟩) 4 4) [-1,0,24,9223372036854775807]:=own_made (TI:=3) (n:=4) (by omega) (Ext.refl w5) [-1,0,24,9223372036854775807] rfl
      go_upto_region 12 with (first | (go_at_call 186;refine (l1PickInt_any w0 _ w5 p _ [-1,0,24,9223372036854775807] ((hI5.ext ((Ext.refl _).alloc _)).hC) hOl hp5 (by decide) (by decide)).mono ?_;rintro e w7 ⟨kk,hkk,rfl,hC7,hF7⟩;obtain⟨z,hz⟩:∃z,z=nth [-1,0,24,9223372036854775807] kk:=⟨_,rfl⟩;rw[←hz];clear hz;have hI7:=(hI5.ext ((Ext.refl _).alloc _)).drw hF7 hC7 ngp nrp) | (at_builtin;refine wp_append1F slI rfl _ _ rfl w0 _ _ _ _ hI7.hP hI7.hC.base hlP rfl rfl ?_;intro v8 w8 hO8 hG8 hN8;have hI8:=hI7.app hO8 hG8 hN8;obtain⟨a8,c8,rfl,-⟩:=hO8.shape))
      have l0:=hI8.hG.cell (i:=0) (v:=.slice ao L.length c) rfl
      have r0:=hI8.hR.cell (i:=0) (v:=.slice none 0 0) rfl
      have f0:=hI8.hR.free 0
      have hZ:=hI8.store nrp ngr (Nat.le_refl _) (by omega)
      have q0:=hZ.hR.cell (i:=0) (v:=.slice ao L.length c) rfl
      go_wp2_with fail
      exact bodyPost_ret (v:=.tuple #[.agg #[.slice ao L.length c],.slice a8 (P++[z]).length c8]) (by simp[results,Tryz.results167,go_sem,q0]) rfl ⟨_,L,_,_,P++[z],_,rfl,hZ.hV.low (by omega),hZ.hP.ints,by simp;omega,hZ.hC,hZ.fr⟩
end Go.Zz
