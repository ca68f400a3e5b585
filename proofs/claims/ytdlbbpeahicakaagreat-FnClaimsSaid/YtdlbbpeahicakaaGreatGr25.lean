/- The drawing of a group with one of its subgroups, and of sets that are often periodic. -/
import Derived.Test.YtdlbbpeahicakaaGreatGr22
import Derived.Test.YtdlbbpeahicakaaGreatGr24
import Derived.Test.YtdlbbpeahicakaaGreatGr7
import Derived.Test.YtdlbbpeahicakaaGreatGr23
import Derived.Test.YtdlbbpeahicakaaGreatGr9
import Derived.Deep.DeepCutAuto
import Derived.Test.YtdlbbpeahicakaaGreatGr6
import Derived.Test.YtdlbbpeahicakaaGreatGr3
import Derived.Test.YtdlbbpeahicakaaGreatGr4
import Derived.Test.YtdlbbpeahicakaaGreatGr5
import Derived.Test.YtdlbbpeahicakaaGreatGr10
set_option linter.unusedSimpArgs false
set_option linter.unusedVariables false
set_option linter.unnecessarySimpa false
namespace Go.Zz
open Go.RowKit Go.Proofs
set_option maxHeartbeats 8000000
set_option maxRecDepth 20000
theorem l1Below_big(w0 w:World)(p:Nat)(n:Int)(hn:256<n)(hn2:n≤100000)(h:Cur w0 w p) :
 Calls Tryz.prog 109 #[.pointer (some ⟨p,0,none⟩),.int .i64 n] w fun e w'=>∃x,e=.returned (.int .i64 x)∧Bel n x∧Cur w0 w' p∧Drw p w w':=by
 go_enter Tryz.func109,Tryz.ntmps109
 go_wp2_with fail
 refine (l1Byte_any w0 w p h).mono ?_
 rintro e w1 ⟨x,rfl,hx0,hx1,hC1,hF1⟩
 go_wp2_with fail
 refine (l1Byte_any w0 w1 p hC1).mono ?_
 rintro e w2 ⟨y,rfl,hy0,hy1,hC2,hF2⟩
 go_wp2_with fail
 refine (l1Byte_any w0 w2 p hC2).mono ?_
 rintro e w3 ⟨z,rfl,hz0,hz1,hC3,hF3⟩
 go_wp2_with fail
 refine (l1Byte_any w0 w3 p hC3).mono ?_
 rintro e w4 ⟨u,rfl,hu0,hu1,hC4,hF4⟩
 have hF:=hF1.trans (hF2.trans (hF3.trans hF4))
 have a1:IntKind.i64.wrap (x*16777216)=x*16777216:=IntWalk.i64_in _ (by omega)
 have a2:IntKind.i64.wrap (y*65536)=y*65536:=IntWalk.i64_in _ (by omega)
 have a3:IntKind.i64.wrap (z*256)=z*256:=IntWalk.i64_in _ (by omega)
 have a4:IntKind.i64.wrap (x*16777216+y*65536)=x*16777216+y*65536:=IntWalk.i64_in _ (by omega)
 have a5:IntKind.i64.wrap (x*16777216+y*65536+z*256)=x*16777216+y*65536+z*256:=IntWalk.i64_in _ (by omega)
 have a6:IntKind.i64.wrap (x*16777216+y*65536+z*256+u)=x*16777216+y*65536+z*256+u:=IntWalk.i64_in _ (by omega)
 have hn0:¬n=0:=by omega
 have t0:0≤x*16777216+y*65536+z*256+u:=by omega
 have htm:=Int.tmod_eq_emod_of_nonneg (b:=n) t0
 have m1:=Int.emod_nonneg (x*16777216+y*65536+z*256+u) hn0
 have m2:=Int.emod_lt_of_pos (x*16777216+y*65536+z*256+u) (show 0<n by omega)
 have Hb:Hid (Bel n ((x*16777216+y*65536+z*256+u) % n)):=Lib.hid ⟨fun e=>by omega,fun _=>⟨m1,m2⟩⟩
 clear m1 m2 t0
 go_wp2_with fail
 go_ret
 exact⟨_,rfl,Hb.out,hC4,hF⟩
theorem l1Below_all(w0 w:World)(p:Nat)(n:Int)(hn:n≤100000)(h:Cur w0 w p) :
 Calls Tryz.prog 109 #[.pointer (some ⟨p,0,none⟩),.int .i64 n] w fun e w'=>∃x,e=.returned (.int .i64 x)∧Bel n x∧Cur w0 w' p∧Drw p w w':=by
 by_cases h2:n≤256
 · exact l1Below_any w0 w p n h2 h
 · exact l1Below_big w0 w p n (by omega) hn h
theorem l5Group_any(w0 w:World)(p:Nat)(h:Cur w0 w p) :
 Calls Tryz.prog 203 #[.pointer (some ⟨p,0,none⟩)] w fun e w'=>∃ao L c x0,e=.returned (.tuple #[.agg #[.slice ao (List.length L) c],.int .i64 x0])∧Own 3 w w' (.slice ao (List.length L) c) L∧Cur w0 w' p∧Drw p w w':=by
 have hp:=h.lt
 have hB0:=Blk.new w 27 #[.slice none 0 0]
 obtain⟨wA,hwA⟩:∃x,x=w.alloc (.cells #[.slice none 0 0] 27):=⟨_,rfl⟩
 have hC0:=h.alloc (.cells #[.slice none 0 0] 27)
 have hF0:=((Ext.refl w).alloc (.cells #[.slice none 0 0] 27)).drw p
 have hsA:w.heap.size<wA.heap.size:=by rw[hwA];simp
 have hpA:p<wA.heap.size:=by omega
 rw[←hwA] at hB0 hC0 hF0
 have HwA:=Lib.hid hwA
 clear hwA
 go_enter Tryz.func203,Tryz.ntmps203
 go_wp2_with fail
 rw[←HwA.out]
 refine (l2Any_any w0 wA p hC0).mono ?_
 rintro e w2 ⟨ao,L,c,rfl,hO,hC,hF2⟩
 have hR:=hF2.blk hB0 (by omega)
 have hF:=hF0.trans hF2
 have hs2:=hF2.size
 clear hB0 hC0 hF0 hF2
 have hG:=Blk.new w2 27 #[.slice ao L.length c]
 replace hR:=hR.alloc (.cells #[.slice ao L.length c] 27)
 replace hO:=hO.alloc (.cells #[.slice ao L.length c] 27)
 replace hC:=hC.alloc (.cells #[.slice ao L.length c] 27)
 replace hF:=hF.alloc (.cells #[.slice ao L.length c] 27)
 obtain⟨w3,hw3⟩:∃x,x=w2.alloc (.cells #[.slice ao L.length c] 27):=⟨_,rfl⟩
 have hs3:w2.heap.size<w3.heap.size:=by rw[hw3];simp
 rw[←hw3] at hG hR hO hC hF
 have Hw3:=Lib.hid hw3
 obtain⟨g,hg⟩:∃g,g=w2.heap.size:=⟨_,rfl⟩
 rw[←hg] at hG
 have Hg:=Lib.hid hg
 have ngw:g≠w.heap.size:=by omega
 have hgw:w.heap.size<g:=by omega
 have npg:p≠g:=by omega
 clear hw3 hg
 go_wp2_with fail
 rw[←Hw3.out,←Hg.out]
 clear Hg Hw3
 have hp3:p<w3.heap.size:=by omega
 refine (sSubgroupsOf_any _ L _ hO.ints).mono ?_
 rintro e w4 ⟨aoS,S,cS,rfl,hIS,hSe,hE4⟩
 replace hR:=hR.ext hE4
 replace hG:=hG.ext hE4
 replace hO:=hO.ext hE4
 replace hC:=hC.ext hE4
 replace hF:=hF.trans (Ext.drw hE4 p)
 clear hE4
 cases hg:isGrp L
 · go_wp2_with fail
   go_upto_region 4 with fail
   have hCD:=hC.ext ((Ext.refl w4).drew)
   have hOD:=hO.drew
   have hGD:=hG.drew
   have hRD:=hR.drew
   have hFD:=hF.trans (((Ext.refl w4).drew).drw p)
   have d0:=hGD.cell (i:=0) (v:=.slice ao L.length c) rfl
   refine wp_region_held_drew (S:=(fun W=>Cur w0 W p∧W.cell? ⟨g,0,none⟩=some (.slice ao L.length c))) (by kernel_rfl) (by exact⟨hCD,d0⟩) (fun hHeld=>?_)
   (refine takeOn (i:=0) (v:=?_) (by kernel_rfl) (by rfl) (by rfl) (by kernel_rfl) (by kernel_rfl) (by intro _ _ _ h;exact h) ?_ (by assumption) ?_);(rotate_left 1);(focus ((intro w hSw);(try dsimp only at hSw);go_simp;(try with_reducible rfl)));(try simp only[Act.put,List.setIfInBounds_toArray,List.set_cons_zero,List.set_cons_succ,List.getElem_toArray,List.getElem_cons_zero,List.getElem_cons_succ])
   (refine takeOn (i:=1) (v:=?_) (by kernel_rfl) (by rfl) (by rfl) (by kernel_rfl) (by kernel_rfl) (by intro _ _ _ h;exact h) ?_ (by assumption) ?_);(rotate_left 1);(focus ((intro w hSw);(try dsimp only at hSw);go_simp;(try with_reducible rfl)));(try simp only[Act.put,List.setIfInBounds_toArray,List.set_cons_zero,List.set_cons_succ,List.getElem_toArray,List.getElem_cons_zero,List.getElem_cons_succ])
   (refine takeOn (i:=2) (v:=?_) (by kernel_rfl) (by rfl) (by rfl) (by kernel_rfl) (by kernel_rfl) (by intro _ _ _ h;exact h) ?_ (by assumption) ?_);(rotate_left 1);(focus ((intro w hSw);(try dsimp only at hSw);go_simp;(try with_reducible rfl)));(try simp only[Act.put,List.setIfInBounds_toArray,List.set_cons_zero,List.set_cons_succ,List.getElem_toArray,List.getElem_cons_zero,List.getElem_cons_succ])
   refine takeOne (i:=3) (by kernel_rfl) (by rfl) (by rfl) (fun K hK=>?_)
   go_simp;(go_at_call 165;(with_reducible refine Calls.mono (l3Set_any w0 _ wA p _ _ hHeld.1 hOD hpA) ?_);rintro e w8 ⟨y,rfl,hy,hC8,hF7⟩;have hB8:=hF7.blk hGD (by omega);have hR8:=hF7.blk hRD (by omega);have hO8:=hF7.own hOD hpA;have hF8:=hFD.trans hF7;have r0:=hR8.cell (i:=0) (v:=.slice none 0 0) rfl;have f0:=hR8.free 0;have e0:=hB8.cell (i:=0) (v:=.slice ao L.length c) rfl;have hO9:=(Own.setCell_below hO8 (p:=⟨w.heap.size,0,none⟩) (by show w.heap.size<_;omega) (.slice ao L.length c)).low (w0:=w) (by omega);have hC9:=hC8.other (b:=w.heap.size) (i:=0) (by omega) (by omega) (.slice ao L.length c);have hF9:=hF8.set (b:=w.heap.size) (Nat.le_refl _) 0 (.slice ao L.length c);have e1:=(hB8.other (p:=⟨w.heap.size,0,none⟩) ngw (.slice ao L.length c)).cell (i:=0) (v:=.slice ao L.length c) rfl;have q0:=(hR8.set 0 (.slice ao L.length c)).cell (i:=0) (v:=.slice ao L.length c) rfl)
   refine hK.out _ _ (by first | exact⟨hCD,d0⟩ | exact⟨hC8,e0⟩ | exact⟨hC9,e1⟩) (fun hHeld=>?_)
   clear hK K
   (try simp only[Act.put,List.setIfInBounds_toArray,List.set_cons_zero,List.set_cons_succ,List.getElem_toArray,List.getElem_cons_zero,List.getElem_cons_succ])
   refine takeOne (i:=4) (by kernel_rfl) (by rfl) (by rfl) (fun K hK=>?_)
   go_simp
   refine hK.out _ _ (by first | exact⟨hCD,d0⟩ | exact⟨hC8,e0⟩ | exact⟨hC9,e1⟩) (fun hHeld=>?_)
   clear hK K
   (try simp only[Act.put,List.setIfInBounds_toArray,List.set_cons_zero,List.set_cons_succ,List.getElem_toArray,List.getElem_cons_zero,List.getElem_cons_succ])
   (refine takeOn (i:=5) (v:=?_) (by kernel_rfl) (by rfl) (by rfl) (by kernel_rfl) (by kernel_rfl) (by intro _ _ _ h;exact h) ?_ (by assumption) ?_);(rotate_left 1);(focus ((intro w hSw);(try dsimp only at hSw);go_simp;(try with_reducible rfl)));(try simp only[Act.put,List.setIfInBounds_toArray,List.set_cons_zero,List.set_cons_succ,List.getElem_toArray,List.getElem_cons_zero,List.getElem_cons_succ])
   refine wpAnyH_done (by kernel_rfl) ?_ _
   go_wp2_with fail
   clear r0 f0 e0 e1
   generalize w8.setCell ⟨w.heap.size,0,none⟩ (.slice ao L.length c)=w9 at hO9 hC9 hF9 q0 ⊢
   exact bodyPost_ret (v:=.tuple #[.agg #[.slice ao L.length c],.int .i64 y]) (by simp[results,Tryz.results203,go_sem,q0]) rfl ⟨_,L,_,y,rfl,hO9,hC9,hF9⟩
 · rw[hg] at hSe
   have hSl:S.length≤14400:=by rw[hSe,if_pos rfl];exact sgL_len hg
   have hS0:0<S.length:=by rw[hSe,if_pos rfl];exact sgL_ne hg
   clear hSe
   go_wp2_with fail
   refine (l1Once_any w0 _ p 5 (by omega) hC).mono ?_
   rintro e w5 ⟨bb,rfl,hC5,hF5⟩
   have hS5:=hF5.own hIS hp3
   replace hR:=hF5.blk hR (by omega)
   replace hG:=hF5.blk hG (by omega)
   replace hO:=hF5.own hO hpA
   replace hC:=hC5
   replace hF:=hF.trans hF5
   clear hC5 hF5
   cases bb
   rotate_left
   · go_wp2_with fail
     go_upto_region 4 with fail
     have hCD:=hC.ext ((Ext.refl w5).drew)
     have hOD:=hO.drew
     have hGD:=hG.drew
     have hRD:=hR.drew
     have hFD:=hF.trans (((Ext.refl w5).drew).drw p)
     have d0:=hGD.cell (i:=0) (v:=.slice ao L.length c) rfl
     refine wp_region_held_drew (S:=(fun W=>Cur w0 W p∧W.cell? ⟨g,0,none⟩=some (.slice ao L.length c))) (by kernel_rfl) (by exact⟨hCD,d0⟩) (fun hHeld=>?_)
     (refine takeOn (i:=0) (v:=?_) (by kernel_rfl) (by rfl) (by rfl) (by kernel_rfl) (by kernel_rfl) (by intro _ _ _ h;exact h) ?_ (by assumption) ?_);(rotate_left 1);(focus ((intro w hSw);(try dsimp only at hSw);go_simp;(try with_reducible rfl)));(try simp only[Act.put,List.setIfInBounds_toArray,List.set_cons_zero,List.set_cons_succ,List.getElem_toArray,List.getElem_cons_zero,List.getElem_cons_succ])
     (refine takeOn (i:=1) (v:=?_) (by kernel_rfl) (by rfl) (by rfl) (by kernel_rfl) (by kernel_rfl) (by intro _ _ _ h;exact h) ?_ (by assumption) ?_);(rotate_left 1);(focus ((intro w hSw);(try dsimp only at hSw);go_simp;(try with_reducible rfl)));(try simp only[Act.put,List.setIfInBounds_toArray,List.set_cons_zero,List.set_cons_succ,List.getElem_toArray,List.getElem_cons_zero,List.getElem_cons_succ])
     (refine takeOn (i:=2) (v:=?_) (by kernel_rfl) (by rfl) (by rfl) (by kernel_rfl) (by kernel_rfl) (by intro _ _ _ h;exact h) ?_ (by assumption) ?_);(rotate_left 1);(focus ((intro w hSw);(try dsimp only at hSw);go_simp;(try with_reducible rfl)));(try simp only[Act.put,List.setIfInBounds_toArray,List.set_cons_zero,List.set_cons_succ,List.getElem_toArray,List.getElem_cons_zero,List.getElem_cons_succ])
     refine takeOne (i:=3) (by kernel_rfl) (by rfl) (by rfl) (fun K hK=>?_)
     go_simp;(go_at_call 165;(with_reducible refine Calls.mono (l3Set_any w0 _ wA p _ _ hHeld.1 hOD hpA) ?_);rintro e w8 ⟨y,rfl,hy,hC8,hF7⟩;have hB8:=hF7.blk hGD (by omega);have hR8:=hF7.blk hRD (by omega);have hO8:=hF7.own hOD hpA;have hF8:=hFD.trans hF7;have r0:=hR8.cell (i:=0) (v:=.slice none 0 0) rfl;have f0:=hR8.free 0;have e0:=hB8.cell (i:=0) (v:=.slice ao L.length c) rfl;have hO9:=(Own.setCell_below hO8 (p:=⟨w.heap.size,0,none⟩) (by show w.heap.size<_;omega) (.slice ao L.length c)).low (w0:=w) (by omega);have hC9:=hC8.other (b:=w.heap.size) (i:=0) (by omega) (by omega) (.slice ao L.length c);have hF9:=hF8.set (b:=w.heap.size) (Nat.le_refl _) 0 (.slice ao L.length c);have e1:=(hB8.other (p:=⟨w.heap.size,0,none⟩) ngw (.slice ao L.length c)).cell (i:=0) (v:=.slice ao L.length c) rfl;have q0:=(hR8.set 0 (.slice ao L.length c)).cell (i:=0) (v:=.slice ao L.length c) rfl)
     refine hK.out _ _ (by first | exact⟨hCD,d0⟩ | exact⟨hC8,e0⟩ | exact⟨hC9,e1⟩) (fun hHeld=>?_)
     clear hK K
     (try simp only[Act.put,List.setIfInBounds_toArray,List.set_cons_zero,List.set_cons_succ,List.getElem_toArray,List.getElem_cons_zero,List.getElem_cons_succ])
     refine takeOne (i:=4) (by kernel_rfl) (by rfl) (by rfl) (fun K hK=>?_)
     go_simp
     refine hK.out _ _ (by first | exact⟨hCD,d0⟩ | exact⟨hC8,e0⟩ | exact⟨hC9,e1⟩) (fun hHeld=>?_)
     clear hK K
     (try simp only[Act.put,List.setIfInBounds_toArray,List.set_cons_zero,List.set_cons_succ,List.getElem_toArray,List.getElem_cons_zero,List.getElem_cons_succ])
     (refine takeOn (i:=5) (v:=?_) (by kernel_rfl) (by rfl) (by rfl) (by kernel_rfl) (by kernel_rfl) (by intro _ _ _ h;exact h) ?_ (by assumption) ?_);(rotate_left 1);(focus ((intro w hSw);(try dsimp only at hSw);go_simp;(try with_reducible rfl)));(try simp only[Act.put,List.setIfInBounds_toArray,List.set_cons_zero,List.set_cons_succ,List.getElem_toArray,List.getElem_cons_zero,List.getElem_cons_succ])
     refine wpAnyH_done (by kernel_rfl) ?_ _
     go_wp2_with fail
     clear r0 f0 e0 e1
     generalize w8.setCell ⟨w.heap.size,0,none⟩ (.slice ao L.length c)=w9 at hO9 hC9 hF9 q0 ⊢
     exact bodyPost_ret (v:=.tuple #[.agg #[.slice ao L.length c],.int .i64 y]) (by simp[results,Tryz.results203,go_sem,q0]) rfl ⟨_,L,_,y,rfl,hO9,hC9,hF9⟩
   · obtain⟨gS,rfl,-,-⟩:=hS5.row (castL_len S) hS0
     go_wp2_with fail
     go_upto_region 5 with fail
     have hSD:=hS5.drew
     have hCD:=hC.ext ((Ext.refl w5).drew)
     have hOD:=hO.drew
     have hGD:=hG.drew
     have hRD:=hR.drew
     have hFD:=hF.trans (((Ext.refl w5).drew).drw p)
     have d0:=hGD.cell (i:=0) (v:=.slice ao L.length c) rfl
     refine wp_region_held_drew (S:=(fun W=>Cur w0 W p∧W.cell? ⟨g,0,none⟩=some (.slice ao L.length c))) (by kernel_rfl) (by exact⟨hCD,d0⟩) (fun hHeld=>?_)
     (refine takeOn (i:=0) (v:=?_) (by kernel_rfl) (by rfl) (by rfl) (by kernel_rfl) (by kernel_rfl) (by intro _ _ _ h;exact h) ?_ (by assumption) ?_);(rotate_left 1);(focus ((intro w hSw);(try dsimp only at hSw);go_simp;(try with_reducible rfl)));(try simp only[Act.put,List.setIfInBounds_toArray,List.set_cons_zero,List.set_cons_succ,List.getElem_toArray,List.getElem_cons_zero,List.getElem_cons_succ])
     (refine takeOn (i:=1) (v:=?_) (by kernel_rfl) (by rfl) (by rfl) (by kernel_rfl) (by kernel_rfl) (by intro _ _ _ h;exact h) ?_ (by assumption) ?_);(rotate_left 1);(focus ((intro w hSw);(try dsimp only at hSw);go_simp;(try with_reducible rfl)));(try simp only[Act.put,List.setIfInBounds_toArray,List.set_cons_zero,List.set_cons_succ,List.getElem_toArray,List.getElem_cons_zero,List.getElem_cons_succ])
     (refine takeOn (i:=2) (v:=?_) (by kernel_rfl) (by rfl) (by rfl) (by kernel_rfl) (by kernel_rfl) (by intro _ _ _ h;exact h) ?_ (by assumption) ?_);(rotate_left 1);(focus ((intro w hSw);(try dsimp only at hSw);go_simp;(try with_reducible rfl)));(try simp only[Act.put,List.setIfInBounds_toArray,List.set_cons_zero,List.set_cons_succ,List.getElem_toArray,List.getElem_cons_zero,List.getElem_cons_succ])
     (refine takeOn (i:=3) (v:=?_) (by kernel_rfl) (by rfl) (by rfl) (by kernel_rfl) (by kernel_rfl) (by intro _ _ _ h;exact h) ?_ (by assumption) ?_);(rotate_left 1);(focus ((intro w hSw);(try dsimp only at hSw);go_simp;(try with_reducible rfl)));(try simp only[Act.put,List.setIfInBounds_toArray,List.set_cons_zero,List.set_cons_succ,List.getElem_toArray,List.getElem_cons_zero,List.getElem_cons_succ])
     (refine takeOn (i:=4) (v:=?_) (by kernel_rfl) (by rfl) (by rfl) (by kernel_rfl) (by kernel_rfl) (by intro _ _ _ h;exact h) ?_ (by assumption) ?_);(rotate_left 1);(focus ((intro w hSw);(try dsimp only at hSw);go_simp;(try with_reducible rfl)));(try simp only[Act.put,List.setIfInBounds_toArray,List.set_cons_zero,List.set_cons_succ,List.getElem_toArray,List.getElem_cons_zero,List.getElem_cons_succ])
     refine takeOne (i:=5) (by kernel_rfl) (by rfl) (by rfl) (fun K hK=>?_)
     go_simp;(go_at_call 109;(with_reducible refine Calls.mono (l1Below_all w0 _ p _ (by omega) hHeld.1) ?_);rintro e w8 ⟨y,rfl,hy,hC8,hF7⟩;obtain⟨hy0,hy1⟩:=hy.2 (by omega);obtain⟨kk,rfl⟩:=Int.eq_ofNat_of_zero_le hy0;have hkk:kk<S.length:=(by omega);have hix:=fun W=>row_index gS S.length cS kk W hkk;have hS8:=hF7.own hSD hp3;have cg:=(hS8.cellAt (castL_len S) hkk).1;have cg9:=((hS8.setCell_below (p:=⟨w.heap.size,0,none⟩) (by show w.heap.size<_;omega) (.slice ao L.length c)).cellAt (castL_len S) hkk).1;obtain⟨y2,hy2⟩:∃y2,y2=nth (castL S) kk:=⟨_,rfl⟩;rw[←hy2] at cg cg9;clear hy2;have hB8:=hF7.blk hGD (by omega);have hR8:=hF7.blk hRD (by omega);have hO8:=hF7.own hOD hpA;have hF8:=hFD.trans hF7;have r0:=hR8.cell (i:=0) (v:=.slice none 0 0) rfl;have f0:=hR8.free 0;have e0:=hB8.cell (i:=0) (v:=.slice ao L.length c) rfl;have hO9:=(Own.setCell_below hO8 (p:=⟨w.heap.size,0,none⟩) (by show w.heap.size<_;omega) (.slice ao L.length c)).low (w0:=w) (by omega);have hC9:=hC8.other (b:=w.heap.size) (i:=0) (by omega) (by omega) (.slice ao L.length c);have hF9:=hF8.set (b:=w.heap.size) (Nat.le_refl _) 0 (.slice ao L.length c);have e1:=(hB8.other (p:=⟨w.heap.size,0,none⟩) ngw (.slice ao L.length c)).cell (i:=0) (v:=.slice ao L.length c) rfl;have q0:=(hR8.set 0 (.slice ao L.length c)).cell (i:=0) (v:=.slice ao L.length c) rfl)
     refine hK.out _ _ (by first | exact⟨hCD,d0⟩ | exact⟨hC8,e0⟩ | exact⟨hC9,e1⟩) (fun hHeld=>?_)
     clear hK K
     (try simp only[Act.put,List.setIfInBounds_toArray,List.set_cons_zero,List.set_cons_succ,List.getElem_toArray,List.getElem_cons_zero,List.getElem_cons_succ])
     (refine takeOn (i:=6) (v:=?_) (by kernel_rfl) (by rfl) (by rfl) (by kernel_rfl) (by kernel_rfl) (by intro _ _ _ h;exact h) ?_ (by assumption) ?_);(rotate_left 1);(focus ((intro w hSw);(try dsimp only at hSw);go_simp;(try with_reducible rfl)));(try simp only[Act.put,List.setIfInBounds_toArray,List.set_cons_zero,List.set_cons_succ,List.getElem_toArray,List.getElem_cons_zero,List.getElem_cons_succ])
     refine wpAnyH_ready (rs:=[7,8]) (by kernel_rfl) (by simp) ?_
     refine AllReadyH.cons (i:=7) (by rfl) (fun K hK=>?_) (AllReadyH.cons (i:=8) (by rfl) (fun K hK=>?_) (AllReadyH.nil))
     · rw[if_pos (by rfl)]
       go_simp
       refine hK.out _ _ (by first | exact⟨hCD,d0⟩ | exact⟨hC8,e0⟩ | exact⟨hC9,e1⟩) (fun hHeld=>?_)
       clear hK K
       (try simp only[Act.put,List.setIfInBounds_toArray,List.set_cons_zero,List.set_cons_succ,List.getElem_toArray,List.getElem_cons_zero,List.getElem_cons_succ])
       refine takeOne (i:=8) (by kernel_rfl) (by rfl) (by rfl) (fun K hK=>?_)
       go_simp
       refine hK.out _ _ (by first | exact⟨hCD,d0⟩ | exact⟨hC8,e0⟩ | exact⟨hC9,e1⟩) (fun hHeld=>?_)
       clear hK K
       (try simp only[Act.put,List.setIfInBounds_toArray,List.set_cons_zero,List.set_cons_succ,List.getElem_toArray,List.getElem_cons_zero,List.getElem_cons_succ])
       (refine takeOn (i:=9) (v:=?_) (by kernel_rfl) (by rfl) (by rfl) (by kernel_rfl) (by kernel_rfl) (by intro _ _ _ h;exact h) ?_ (by assumption) ?_);(rotate_left 1);(focus ((intro w hSw);(try dsimp only at hSw);go_simp;(try with_reducible rfl)));(try simp only[Act.put,List.setIfInBounds_toArray,List.set_cons_zero,List.set_cons_succ,List.getElem_toArray,List.getElem_cons_zero,List.getElem_cons_succ])
       refine wpAnyH_done (by kernel_rfl) ?_ _
       go_wp2_with fail
       clear r0 f0 e0 e1
       generalize w8.setCell ⟨w.heap.size,0,none⟩ (.slice ao L.length c)=w9 at hO9 hC9 hF9 q0 ⊢
       exact bodyPost_ret (v:=.tuple #[.agg #[.slice ao L.length c],.int .i64 y2]) (by simp[results,Tryz.results203,go_sem,q0]) rfl ⟨_,L,_,y2,rfl,hO9,hC9,hF9⟩
     · rw[if_pos (by rfl)]
       go_simp
       refine hK.out _ _ (by first | exact⟨hCD,d0⟩ | exact⟨hC8,e0⟩ | exact⟨hC9,e1⟩) (fun hHeld=>?_)
       clear hK K
       (try simp only[Act.put,List.setIfInBounds_toArray,List.set_cons_zero,List.set_cons_succ,List.getElem_toArray,List.getElem_cons_zero,List.getElem_cons_succ])
       refine takeOne (i:=7) (by kernel_rfl) (by rfl) (by rfl) (fun K hK=>?_)
       go_simp
       refine hK.out _ _ (by first | exact⟨hCD,d0⟩ | exact⟨hC8,e0⟩ | exact⟨hC9,e1⟩) (fun hHeld=>?_)
       clear hK K
       (try simp only[Act.put,List.setIfInBounds_toArray,List.set_cons_zero,List.set_cons_succ,List.getElem_toArray,List.getElem_cons_zero,List.getElem_cons_succ])
       (refine takeOn (i:=9) (v:=?_) (by kernel_rfl) (by rfl) (by rfl) (by kernel_rfl) (by kernel_rfl) (by intro _ _ _ h;exact h) ?_ (by assumption) ?_);(rotate_left 1);(focus ((intro w hSw);(try dsimp only at hSw);go_simp;(try with_reducible rfl)));(try simp only[Act.put,List.setIfInBounds_toArray,List.set_cons_zero,List.set_cons_succ,List.getElem_toArray,List.getElem_cons_zero,List.getElem_cons_succ])
       refine wpAnyH_done (by kernel_rfl) ?_ _
       go_wp2_with fail
       clear r0 f0 e0 e1
       generalize w8.setCell ⟨w.heap.size,0,none⟩ (.slice ao L.length c)=w9 at hO9 hC9 hF9 q0 ⊢
       exact bodyPost_ret (v:=.tuple #[.agg #[.slice ao L.length c],.int .i64 y2]) (by simp[results,Tryz.results203,go_sem,q0]) rfl ⟨_,L,_,y2,rfl,hO9,hC9,hF9⟩
theorem l6Set_any(w0 w:World)(p:Nat)(h:Cur w0 w p) :
 Calls Tryz.prog 164 #[.pointer (some ⟨p,0,none⟩)] w fun e w'=>∃ao L c x0,e=.returned (.tuple #[.agg #[.slice ao (List.length L) c],.int .i64 x0])∧Own 3 w w' (.slice ao (List.length L) c) L∧Cur w0 w' p∧Drw p w w':=by
 have hp:=h.lt
 have hB0:=Blk.new w 27 #[.slice none 0 0]
 obtain⟨wA,hwA⟩:∃x,x=w.alloc (.cells #[.slice none 0 0] 27):=⟨_,rfl⟩
 have hC0:=h.alloc (.cells #[.slice none 0 0] 27)
 have hF0:=((Ext.refl w).alloc (.cells #[.slice none 0 0] 27)).drw p
 have hsA:w.heap.size<wA.heap.size:=by rw[hwA];simp
 have hpA:p<wA.heap.size:=by omega
 rw[←hwA] at hB0 hC0 hF0
 have HwA:=Lib.hid hwA
 clear hwA
 go_enter Tryz.func164,Tryz.ntmps164
 go_wp2_with fail
 rw[←HwA.out]
 refine (l5Group_any w0 wA p hC0).mono ?_
 rintro e w2 ⟨ao,L,c,h5,rfl,hO,hC,hF2⟩
 have hR:=hF2.blk hB0 (by omega)
 have hF:=hF0.trans hF2
 have hs2:=hF2.size
 clear hB0 hC0 hF0 hF2
 have hG:=Blk.new w2 27 #[.slice ao L.length c]
 replace hR:=hR.alloc (.cells #[.slice ao L.length c] 27)
 replace hO:=hO.alloc (.cells #[.slice ao L.length c] 27)
 replace hC:=hC.alloc (.cells #[.slice ao L.length c] 27)
 replace hF:=hF.alloc (.cells #[.slice ao L.length c] 27)
 obtain⟨w3,hw3⟩:∃x,x=w2.alloc (.cells #[.slice ao L.length c] 27):=⟨_,rfl⟩
 have hs3:w2.heap.size<w3.heap.size:=by rw[hw3];simp
 rw[←hw3] at hG hR hO hC hF
 have Hw3:=Lib.hid hw3
 obtain⟨g,hg⟩:∃g,g=w2.heap.size:=⟨_,rfl⟩
 rw[←hg] at hG
 have Hg:=Lib.hid hg
 have ngw:g≠w.heap.size:=by omega
 have hgw:w.heap.size<g:=by omega
 have npg:p≠g:=by omega
 clear hw3 hg
 go_wp2_with fail
 rw[←Hw3.out,←Hg.out]
 clear Hg Hw3
 refine (l3Set_any w0 _ wA p _ _ hC hO hpA).mono ?_
 rintro e w4 ⟨a,rfl,ha,hC5,hF5⟩
 replace hR:=hF5.blk hR (by omega)
 replace hG:=hF5.blk hG (by omega)
 replace hO:=hF5.own hO hpA
 replace hC:=hC5
 replace hF:=hF.trans hF5
 clear hC5 hF5
 have l0:=hG.cell (i:=0) (v:=.slice ao L.length c) rfl
 cases hs:isSetB L a
 · go_wp2_with fail
   refine (sIsSet_val _ _ _ _ hO.ints hs).mono ?_
   rintro e w5 ⟨rfl,hE5⟩
   clear l0
   replace hR:=hR.ext hE5
   replace hG:=hG.ext hE5
   replace hO:=hO.ext hE5
   replace hC:=hC.ext hE5
   replace hF:=hF.trans (Ext.drw hE5 p)
   clear hE5
   have hR8:=hR
   have hB8:=hG
   have hO8:=hO
   have hC8:=hC
   have hF8:=hF
   have r0:=hR8.cell (i:=0) (v:=.slice none 0 0) rfl;have f0:=hR8.free 0;have e0:=hB8.cell (i:=0) (v:=.slice ao L.length c) rfl;have hO9:=(Own.setCell_below hO8 (p:=⟨w.heap.size,0,none⟩) (by show w.heap.size<_;omega) (.slice ao L.length c)).low (w0:=w) (by omega);have hC9:=hC8.other (b:=w.heap.size) (i:=0) (by omega) (by omega) (.slice ao L.length c);have hF9:=hF8.set (b:=w.heap.size) (Nat.le_refl _) 0 (.slice ao L.length c);have e1:=(hB8.other (p:=⟨w.heap.size,0,none⟩) ngw (.slice ao L.length c)).cell (i:=0) (v:=.slice ao L.length c) rfl;have q0:=(hR8.set 0 (.slice ao L.length c)).cell (i:=0) (v:=.slice ao L.length c) rfl
   go_wp2_with fail
   clear r0 f0 e0 e1
   generalize w5.setCell ⟨w.heap.size,0,none⟩ (.slice ao L.length c)=w9 at hO9 hC9 hF9 q0 ⊢
   exact bodyPost_ret (v:=.tuple #[.agg #[.slice ao L.length c],.int .i64 a]) (by simp[results,Tryz.results164,go_sem,q0]) rfl ⟨_,L,_,a,rfl,hO9,hC9,hF9⟩
 · go_wp2_with fail
   refine (sIsSet_val _ _ _ _ hO.ints hs).mono ?_
   rintro e w5 ⟨rfl,hE5⟩
   clear l0
   replace hR:=hR.ext hE5
   replace hG:=hG.ext hE5
   replace hO:=hO.ext hE5
   replace hC:=hC.ext hE5
   replace hF:=hF.trans (Ext.drw hE5 p)
   clear hE5
   have l0:=hG.cell (i:=0) (v:=.slice ao L.length c) rfl
   cases hsb:subB L h5
   · go_wp2_with fail
     refine (sIsSubgroup_val _ _ _ _ hO.ints hsb).mono ?_
     rintro e w6 ⟨rfl,hE6⟩
     clear l0
     replace hR:=hR.ext hE6
     replace hG:=hG.ext hE6
     replace hO:=hO.ext hE6
     replace hC:=hC.ext hE6
     replace hF:=hF.trans (Ext.drw hE6 p)
     clear hE6
     have hR8:=hR
     have hB8:=hG
     have hO8:=hO
     have hC8:=hC
     have hF8:=hF
     have r0:=hR8.cell (i:=0) (v:=.slice none 0 0) rfl;have f0:=hR8.free 0;have e0:=hB8.cell (i:=0) (v:=.slice ao L.length c) rfl;have hO9:=(Own.setCell_below hO8 (p:=⟨w.heap.size,0,none⟩) (by show w.heap.size<_;omega) (.slice ao L.length c)).low (w0:=w) (by omega);have hC9:=hC8.other (b:=w.heap.size) (i:=0) (by omega) (by omega) (.slice ao L.length c);have hF9:=hF8.set (b:=w.heap.size) (Nat.le_refl _) 0 (.slice ao L.length c);have e1:=(hB8.other (p:=⟨w.heap.size,0,none⟩) ngw (.slice ao L.length c)).cell (i:=0) (v:=.slice ao L.length c) rfl;have q0:=(hR8.set 0 (.slice ao L.length c)).cell (i:=0) (v:=.slice ao L.length c) rfl
     go_wp2_with fail
     clear r0 f0 e0 e1
     generalize w6.setCell ⟨w.heap.size,0,none⟩ (.slice ao L.length c)=w9 at hO9 hC9 hF9 q0 ⊢
     exact bodyPost_ret (v:=.tuple #[.agg #[.slice ao L.length c],.int .i64 a]) (by simp[results,Tryz.results164,go_sem,q0]) rfl ⟨_,L,_,a,rfl,hO9,hC9,hF9⟩
   · go_wp2_with fail
     refine (sIsSubgroup_val _ _ _ _ hO.ints hsb).mono ?_
     rintro e w6 ⟨rfl,hE6⟩
     clear l0
     replace hR:=hR.ext hE6
     replace hG:=hG.ext hE6
     replace hO:=hO.ext hE6
     replace hC:=hC.ext hE6
     replace hF:=hF.trans (Ext.drw hE6 p)
     clear hE6
     go_wp2_with fail
     refine (l1Once_any w0 _ p 2 (by omega) hC).mono ?_
     rintro e w7 ⟨bb,rfl,hC5,hF5⟩
     replace hR:=hF5.blk hR (by omega)
     replace hG:=hF5.blk hG (by omega)
     replace hO:=hF5.own hO hpA
     replace hC:=hC5
     replace hF:=hF.trans hF5
     clear hC5 hF5
     cases bb
     · skip
       have hR8:=hR
       have hB8:=hG
       have hO8:=hO
       have hC8:=hC
       have hF8:=hF
       have r0:=hR8.cell (i:=0) (v:=.slice none 0 0) rfl;have f0:=hR8.free 0;have e0:=hB8.cell (i:=0) (v:=.slice ao L.length c) rfl;have hO9:=(Own.setCell_below hO8 (p:=⟨w.heap.size,0,none⟩) (by show w.heap.size<_;omega) (.slice ao L.length c)).low (w0:=w) (by omega);have hC9:=hC8.other (b:=w.heap.size) (i:=0) (by omega) (by omega) (.slice ao L.length c);have hF9:=hF8.set (b:=w.heap.size) (Nat.le_refl _) 0 (.slice ao L.length c);have e1:=(hB8.other (p:=⟨w.heap.size,0,none⟩) ngw (.slice ao L.length c)).cell (i:=0) (v:=.slice ao L.length c) rfl;have q0:=(hR8.set 0 (.slice ao L.length c)).cell (i:=0) (v:=.slice ao L.length c) rfl
       go_wp2_with fail
       clear r0 f0 e0 e1
       generalize w7.setCell ⟨w.heap.size,0,none⟩ (.slice ao L.length c)=w9 at hO9 hC9 hF9 q0 ⊢
       exact bodyPost_ret (v:=.tuple #[.agg #[.slice ao L.length c],.int .i64 a]) (by simp[results,Tryz.results164,go_sem,q0]) rfl ⟨_,L,_,a,rfl,hO9,hC9,hF9⟩
     · obtain⟨na,rfl,-,hna,hgr⟩:=isSetB_nat hs
       obtain⟨nh,rfl,-,hnh,-⟩:=isSetB_nat (show isSetB L h5=true by unfold subB at hsb;exact (Bool.and_eq_true_iff.1 hsb).1)
       have Hgr:=Lib.hid hgr
       clear hgr hs hsb
       go_wp2_with fail
       go_upto_region 4 with fail
       have hCD:=hC.ext ((Ext.refl w7).drew)
       have hOD:=hO.drew
       have hGD:=hG.drew
       have hRD:=hR.drew
       have hFD:=hF.trans (((Ext.refl w7).drew).drw p)
       have d0:=hGD.cell (i:=0) (v:=.slice ao L.length c) rfl
       refine wp_region_held_drew (S:=(fun W=>Cur w0 W p∧W.cell? ⟨g,0,none⟩=some (.slice ao L.length c))) (by kernel_rfl) (by exact⟨hCD,d0⟩) (fun hHeld=>?_)
       (refine takeOn (i:=0) (v:=?_) (by kernel_rfl) (by rfl) (by rfl) (by kernel_rfl) (by kernel_rfl) (by intro _ _ _ h;exact h) ?_ (by assumption) ?_);(rotate_left 1);(focus ((intro w hSw);(try dsimp only at hSw);go_simp;(try with_reducible rfl)));(try simp only[Act.put,List.setIfInBounds_toArray,List.set_cons_zero,List.set_cons_succ,List.getElem_toArray,List.getElem_cons_zero,List.getElem_cons_succ])
       (refine takeOn (i:=1) (v:=?_) (by kernel_rfl) (by rfl) (by rfl) (by kernel_rfl) (by kernel_rfl) (by intro _ _ _ h;exact h) ?_ (by assumption) ?_);(rotate_left 1);(focus ((intro w hSw);(try dsimp only at hSw);go_simp;(try with_reducible rfl)));(try simp only[Act.put,List.setIfInBounds_toArray,List.set_cons_zero,List.set_cons_succ,List.getElem_toArray,List.getElem_cons_zero,List.getElem_cons_succ])
       (refine takeOn (i:=2) (v:=?_) (by kernel_rfl) (by rfl) (by rfl) (by kernel_rfl) (by kernel_rfl) (by intro _ _ _ h;exact h) ?_ (by assumption) ?_);(rotate_left 1);(focus ((intro w hSw);(try dsimp only at hSw);go_simp;(try with_reducible rfl)));(try simp only[Act.put,List.setIfInBounds_toArray,List.set_cons_zero,List.set_cons_succ,List.getElem_toArray,List.getElem_cons_zero,List.getElem_cons_succ])
       (refine takeOn (i:=3) (v:=?_) (by kernel_rfl) (by rfl) (by rfl) (by kernel_rfl) (by kernel_rfl) (by intro _ _ _ h;exact h) ?_ (by assumption) ?_);(rotate_left 1);(focus ((intro w hSw);(try dsimp only at hSw);go_simp;(try with_reducible rfl)));(try simp only[Act.put,List.setIfInBounds_toArray,List.set_cons_zero,List.set_cons_succ,List.getElem_toArray,List.getElem_cons_zero,List.getElem_cons_succ])
       refine takeOne (i:=4) (by kernel_rfl) (by rfl) (by rfl) (fun K hK=>?_)
       go_simp;(go_at_call 84;(with_reducible refine Calls.mono (l4Sum_any _ L na nh _ hOD.ints Hgr hna hnh) ?_);rintro e w8 ⟨rfl,hX⟩;have hB8:=hGD.ext hX;have hR8:=hRD.ext hX;have hO8:=hOD.ext hX;have hC8:=hCD.ext hX;have hF8:=hFD.trans (Ext.drw hX p);have r0:=hR8.cell (i:=0) (v:=.slice none 0 0) rfl;have f0:=hR8.free 0;have e0:=hB8.cell (i:=0) (v:=.slice ao L.length c) rfl;have hO9:=(Own.setCell_below hO8 (p:=⟨w.heap.size,0,none⟩) (by show w.heap.size<_;omega) (.slice ao L.length c)).low (w0:=w) (by omega);have hC9:=hC8.other (b:=w.heap.size) (i:=0) (by omega) (by omega) (.slice ao L.length c);have hF9:=hF8.set (b:=w.heap.size) (Nat.le_refl _) 0 (.slice ao L.length c);have e1:=(hB8.other (p:=⟨w.heap.size,0,none⟩) ngw (.slice ao L.length c)).cell (i:=0) (v:=.slice ao L.length c) rfl;have q0:=(hR8.set 0 (.slice ao L.length c)).cell (i:=0) (v:=.slice ao L.length c) rfl)
       refine hK.out _ _ (by first | exact⟨hCD,d0⟩ | exact⟨hC8,e0⟩ | exact⟨hC9,e1⟩) (fun hHeld=>?_)
       clear hK K
       (try simp only[Act.put,List.setIfInBounds_toArray,List.set_cons_zero,List.set_cons_succ,List.getElem_toArray,List.getElem_cons_zero,List.getElem_cons_succ])
       refine takeOne (i:=5) (by kernel_rfl) (by rfl) (by rfl) (fun K hK=>?_)
       go_simp
       refine hK.out _ _ (by first | exact⟨hCD,d0⟩ | exact⟨hC8,e0⟩ | exact⟨hC9,e1⟩) (fun hHeld=>?_)
       clear hK K
       (try simp only[Act.put,List.setIfInBounds_toArray,List.set_cons_zero,List.set_cons_succ,List.getElem_toArray,List.getElem_cons_zero,List.getElem_cons_succ])
       (refine takeOn (i:=6) (v:=?_) (by kernel_rfl) (by rfl) (by rfl) (by kernel_rfl) (by kernel_rfl) (by intro _ _ _ h;exact h) ?_ (by assumption) ?_);(rotate_left 1);(focus ((intro w hSw);(try dsimp only at hSw);go_simp;(try with_reducible rfl)));(try simp only[Act.put,List.setIfInBounds_toArray,List.set_cons_zero,List.set_cons_succ,List.getElem_toArray,List.getElem_cons_zero,List.getElem_cons_succ])
       refine wpAnyH_done (by kernel_rfl) ?_ _
       go_wp2_with fail
       clear r0 f0 e0 e1
       generalize w8.setCell ⟨w.heap.size,0,none⟩ (.slice ao L.length c)=w9 at hO9 hC9 hF9 q0 ⊢
       exact bodyPost_ret (v:=.tuple #[.agg #[.slice ao L.length c],.int .i64 ((sumF L na nh:Nat):Int)]) (by simp[results,Tryz.results164,go_sem,q0]) rfl ⟨_,L,_,((sumF L na nh:Nat):Int),rfl,hO9,hC9,hF9⟩
end Go.Zz
namespace Go.Zz
open Go.RowKit Go.Proofs
set_option maxHeartbeats 8000000
set_option maxRecDepth 20000
theorem l6Both_any(v:Value)(l:List Int)(w:World)(h:Byts w v l) :
 Calls Tryz.prog 113 #[v] w fun e w'=>∃ao L c x0,e=.returned (.tuple #[.agg #[.slice ao (List.length L) c],.int .i64 x0])∧Own 3 w w' (.slice ao (List.length L) c) L∧Ext w w':=by
 have hE0:=(Ext.refl w).alloc (.cells #[.slice none 0 0] 27)
 have hB0:=Blk.new w 27 #[.slice none 0 0]
 obtain⟨wZ,hwZ⟩:∃x,x=w.alloc (.cells #[.slice none 0 0] 27):=⟨_,rfl⟩
 have hsZ:w.heap.size<wZ.heap.size:=by rw[hwZ];simp
 rw[←hwZ] at hE0 hB0
 have HwZ:=Lib.hid hwZ
 clear hwZ
 go_enter Tryz.func113,Tryz.ntmps113
 go_wp2_with fail
 rw[←HwZ.out]
 refine (l1New_any _ _ w _ h hE0).mono ?_
 rintro e wA ⟨p,rfl,hC1,hE1,hpZ⟩
 have hp:=hC1.lt
 have hR1:=hB0.ext hE1
 have hsA:w.heap.size<wA.heap.size:=Nat.lt_of_lt_of_le hsZ hE1.size
 have npw:p≠w.heap.size:=by omega
 clear hB0 hE1 hE0
 go_wp2_with fail
 refine (l6Set_any w wA p hC1).mono ?_
 rintro e w2 ⟨ao,L,c,x0,rfl,hO,hC,hF2⟩
 have hR:=hF2.blk hR1 (by omega)
 have hE:=hC.base
 have hR8:=hR.alloc (.cells #[.slice ao L.length c] 27)
 have r0:=hR8.cell (i:=0) (v:=.slice none 0 0) rfl
 have f0:=hR8.free 0
 have e0:=(Blk.new w2 27 #[.slice ao L.length c]).cell (i:=0) (v:=.slice ao L.length c) rfl
 have hO9:=(Own.setCell_below (hO.alloc (.cells #[.slice ao L.length c] 27)) (p:=⟨w.heap.size,0,none⟩) (by show w.heap.size<_;omega) (.slice ao L.length c)).low (w0:=w) (by omega)
 have hE9:=(hE.alloc (.cells #[.slice ao L.length c] 27)).setCell (p:=⟨w.heap.size,0,none⟩) (Nat.le_refl _) (.slice ao L.length c)
 have q0:=(hR8.set 0 (.slice ao L.length c)).cell (i:=0) (v:=.slice ao L.length c) rfl
 go_wp2_with fail
 clear r0 f0 e0 hR8
 generalize (w2.alloc (.cells #[.slice ao L.length c] 27)).setCell ⟨w.heap.size,0,none⟩ (.slice ao L.length c)=w9 at hO9 hE9 q0 ⊢
 exact bodyPost_ret (v:=.tuple #[.agg #[.slice ao L.length c],.int .i64 x0]) (by simp[results,Tryz.results113,go_sem,q0]) rfl ⟨_,L,_,x0,rfl,hO9,hE9⟩
theorem l9Two_any(v:Value)(l:List Int)(w:World)(h:Byts w v l) :
 Calls Tryz.prog 77 #[v] w fun e w'=>∃ao L c x0 x1,e=.returned (.tuple #[.agg #[.slice ao (List.length L) c],.int .i64 x0,.int .i64 x1])∧Own 3 w w' (.slice ao (List.length L) c) L∧Ext w w':=by
 have hE0:=(Ext.refl w).alloc (.cells #[.slice none 0 0] 27)
 have hB0:=Blk.new w 27 #[.slice none 0 0]
 obtain⟨wZ,hwZ⟩:∃x,x=w.alloc (.cells #[.slice none 0 0] 27):=⟨_,rfl⟩
 have hsZ:w.heap.size<wZ.heap.size:=by rw[hwZ];simp
 rw[←hwZ] at hE0 hB0
 have HwZ:=Lib.hid hwZ
 clear hwZ
 go_enter Tryz.func77,Tryz.ntmps77
 go_wp2_with fail
 rw[←HwZ.out]
 refine (l1New_any _ _ w _ h hE0).mono ?_
 rintro e wA ⟨p,rfl,hC1,hE1,hpZ⟩
 have hp:=hC1.lt
 have hR1:=hB0.ext hE1
 have hsA:w.heap.size<wA.heap.size:=Nat.lt_of_lt_of_le hsZ hE1.size
 have npw:p≠w.heap.size:=by omega
 clear hB0 hE1 hE0
 go_wp2_with fail
 refine (l6Set_any w wA p hC1).mono ?_
 rintro e w2 ⟨ao,L,c,x0,rfl,hO,hC,hF2⟩
 have hR:=hF2.blk hR1 (by omega)
 have hs2:=hF2.size
 have hpA:p<wA.heap.size:=hp.2
 clear hR1 hC1
 have hG:=Blk.new w2 27 #[.slice ao L.length c]
 replace hR:=hR.alloc (.cells #[.slice ao L.length c] 27)
 replace hO:=hO.alloc (.cells #[.slice ao L.length c] 27)
 replace hC:=hC.alloc (.cells #[.slice ao L.length c] 27)
 have hF:=hF2.alloc (.cells #[.slice ao L.length c] 27)
 obtain⟨w3,hw3⟩:∃x,x=w2.alloc (.cells #[.slice ao L.length c] 27):=⟨_,rfl⟩
 have hs3:w2.heap.size<w3.heap.size:=by rw[hw3];simp
 rw[←hw3] at hG hR hO hC hF
 have Hw3:=Lib.hid hw3
 obtain⟨g,hg⟩:∃g,g=w2.heap.size:=⟨_,rfl⟩
 rw[←hg] at hG
 have Hg:=Lib.hid hg
 have ngw:g≠w.heap.size:=by omega
 have hgw:w.heap.size<g:=by omega
 have npg:p≠g:=by omega
 clear hw3 hg
 go_wp2_with fail
 rw[←Hw3.out,←Hg.out]
 clear Hg Hw3
 refine (l1Once_any w _ p 3 (by omega) hC).mono ?_
 rintro e w5 ⟨bb,rfl,hC5,hF5⟩
 replace hR:=hF5.blk hR (by omega)
 replace hG:=hF5.blk hG (by omega)
 replace hO:=hF5.own hO hpA
 replace hC:=hC5
 replace hF:=hF.trans hF5
 clear hC5 hF5
 cases bb
 · go_wp2_with fail
   go_upto_region 5 with fail
   have hCD:=hC.ext ((Ext.refl w5).drew)
   have hOD:=hO.drew
   have hGD:=hG.drew
   have hRD:=hR.drew
   have hFD:=hF.trans (((Ext.refl w5).drew).drw p)
   have d0:=hGD.cell (i:=0) (v:=.slice ao L.length c) rfl
   refine wp_region_held_drew (S:=(fun W=>Cur w W p∧W.cell? ⟨g,0,none⟩=some (.slice ao L.length c))) (by kernel_rfl) (by exact⟨hCD,d0⟩) (fun hHeld=>?_)
   (refine takeOn (i:=0) (v:=?_) (by kernel_rfl) (by rfl) (by rfl) (by kernel_rfl) (by kernel_rfl) (by intro _ _ _ h;exact h) ?_ (by assumption) ?_);(rotate_left 1);(focus ((intro w hSw);(try dsimp only at hSw);go_simp;(try with_reducible rfl)));(try simp only[Act.put,List.setIfInBounds_toArray,List.set_cons_zero,List.set_cons_succ,List.getElem_toArray,List.getElem_cons_zero,List.getElem_cons_succ])
   (refine takeOn (i:=1) (v:=?_) (by kernel_rfl) (by rfl) (by rfl) (by kernel_rfl) (by kernel_rfl) (by intro _ _ _ h;exact h) ?_ (by assumption) ?_);(rotate_left 1);(focus ((intro w hSw);(try dsimp only at hSw);go_simp;(try with_reducible rfl)));(try simp only[Act.put,List.setIfInBounds_toArray,List.set_cons_zero,List.set_cons_succ,List.getElem_toArray,List.getElem_cons_zero,List.getElem_cons_succ])
   (refine takeOn (i:=2) (v:=?_) (by kernel_rfl) (by rfl) (by rfl) (by kernel_rfl) (by kernel_rfl) (by intro _ _ _ h;exact h) ?_ (by assumption) ?_);(rotate_left 1);(focus ((intro w hSw);(try dsimp only at hSw);go_simp;(try with_reducible rfl)));(try simp only[Act.put,List.setIfInBounds_toArray,List.set_cons_zero,List.set_cons_succ,List.getElem_toArray,List.getElem_cons_zero,List.getElem_cons_succ])
   (refine takeOn (i:=3) (v:=?_) (by kernel_rfl) (by rfl) (by rfl) (by kernel_rfl) (by kernel_rfl) (by intro _ _ _ h;exact h) ?_ (by assumption) ?_);(rotate_left 1);(focus ((intro w hSw);(try dsimp only at hSw);go_simp;(try with_reducible rfl)));(try simp only[Act.put,List.setIfInBounds_toArray,List.set_cons_zero,List.set_cons_succ,List.getElem_toArray,List.getElem_cons_zero,List.getElem_cons_succ])
   refine takeOne (i:=4) (by kernel_rfl) (by rfl) (by rfl) (fun K hK=>?_)
   go_simp;(go_at_call 165;(with_reducible refine Calls.mono (l3Set_any w _ wA p _ _ hHeld.1 hOD hpA) ?_);rintro e w8 ⟨y,rfl,hy,hC8,hF7⟩;have hB8:=hF7.blk hGD (by omega);have hR8:=hF7.blk hRD (by omega);have hO8:=hF7.own hOD hpA;have hF8:=hFD.trans hF7;have r0:=hR8.cell (i:=0) (v:=.slice none 0 0) rfl;have f0:=hR8.free 0;have e0:=hB8.cell (i:=0) (v:=.slice ao L.length c) rfl;have hO9:=(Own.setCell_below hO8 (p:=⟨w.heap.size,0,none⟩) (by show w.heap.size<_;omega) (.slice ao L.length c)).low (w0:=w) (by omega);have hC9:=hC8.other (b:=w.heap.size) (i:=0) (by omega) (by omega) (.slice ao L.length c);have e1:=(hB8.other (p:=⟨w.heap.size,0,none⟩) ngw (.slice ao L.length c)).cell (i:=0) (v:=.slice ao L.length c) rfl;have q0:=(hR8.set 0 (.slice ao L.length c)).cell (i:=0) (v:=.slice ao L.length c) rfl)
   refine hK.out _ _ (by first | exact⟨hCD,d0⟩ | exact⟨hC8,e0⟩ | exact⟨hC9,e1⟩) (fun hHeld=>?_)
   clear hK K
   (try simp only[Act.put,List.setIfInBounds_toArray,List.set_cons_zero,List.set_cons_succ,List.getElem_toArray,List.getElem_cons_zero,List.getElem_cons_succ])
   refine takeOne (i:=5) (by kernel_rfl) (by rfl) (by rfl) (fun K hK=>?_)
   go_simp
   refine hK.out _ _ (by first | exact⟨hCD,d0⟩ | exact⟨hC8,e0⟩ | exact⟨hC9,e1⟩) (fun hHeld=>?_)
   clear hK K
   (try simp only[Act.put,List.setIfInBounds_toArray,List.set_cons_zero,List.set_cons_succ,List.getElem_toArray,List.getElem_cons_zero,List.getElem_cons_succ])
   (refine takeOn (i:=6) (v:=?_) (by kernel_rfl) (by rfl) (by rfl) (by kernel_rfl) (by kernel_rfl) (by intro _ _ _ h;exact h) ?_ (by assumption) ?_);(rotate_left 1);(focus ((intro w hSw);(try dsimp only at hSw);go_simp;(try with_reducible rfl)));(try simp only[Act.put,List.setIfInBounds_toArray,List.set_cons_zero,List.set_cons_succ,List.getElem_toArray,List.getElem_cons_zero,List.getElem_cons_succ])
   (refine takeOn (i:=7) (v:=?_) (by kernel_rfl) (by rfl) (by rfl) (by kernel_rfl) (by kernel_rfl) (by intro _ _ _ h;exact h) ?_ (by assumption) ?_);(rotate_left 1);(focus ((intro w hSw);(try dsimp only at hSw);go_simp;(try with_reducible rfl)));(try simp only[Act.put,List.setIfInBounds_toArray,List.set_cons_zero,List.set_cons_succ,List.getElem_toArray,List.getElem_cons_zero,List.getElem_cons_succ])
   refine wpAnyH_done (by kernel_rfl) ?_ _
   go_wp2_with fail
   clear r0 f0 e0 e1
   generalize w8.setCell ⟨w.heap.size,0,none⟩ (.slice ao L.length c)=w9 at hO9 hC9 q0 ⊢
   exact bodyPost_ret (v:=.tuple #[.agg #[.slice ao L.length c],.int .i64 x0,.int .i64 y]) (by simp[results,Tryz.results77,go_sem,q0]) rfl ⟨_,L,_,x0,y,rfl,hO9,hC9.base⟩
 · have hR8:=hR
   have hB8:=hG
   have hO8:=hO
   have hC8:=hC
   have r0:=hR8.cell (i:=0) (v:=.slice none 0 0) rfl;have f0:=hR8.free 0;have e0:=hB8.cell (i:=0) (v:=.slice ao L.length c) rfl;have hO9:=(Own.setCell_below hO8 (p:=⟨w.heap.size,0,none⟩) (by show w.heap.size<_;omega) (.slice ao L.length c)).low (w0:=w) (by omega);have hC9:=hC8.other (b:=w.heap.size) (i:=0) (by omega) (by omega) (.slice ao L.length c);have e1:=(hB8.other (p:=⟨w.heap.size,0,none⟩) ngw (.slice ao L.length c)).cell (i:=0) (v:=.slice ao L.length c) rfl;have q0:=(hR8.set 0 (.slice ao L.length c)).cell (i:=0) (v:=.slice ao L.length c) rfl
   go_wp2_with fail
   clear r0 f0 e0 e1
   generalize w5.setCell ⟨w.heap.size,0,none⟩ (.slice ao L.length c)=w9 at hO9 hC9 q0 ⊢
   exact bodyPost_ret (v:=.tuple #[.agg #[.slice ao L.length c],.int .i64 x0,.int .i64 x0]) (by simp[results,Tryz.results77,go_sem,q0]) rfl ⟨_,L,_,x0,x0,rfl,hO9,hC9.base⟩
end Go.Zz
namespace Go.Zz
open Go.RowKit Go.Proofs
set_option maxHeartbeats 8000000
set_option maxRecDepth 20000
end Go.Zz
namespace Go.Zz
open Go.RowKit Go.Proofs
set_option maxHeartbeats 8000000
set_option maxRecDepth 20000
theorem Cur.grown{w0 w w':World}{p:Nat}{row:Option Nat}(h:Cur w0 w p)(hg:w.grownBy w' row)(hn:row≠some p)(hb:∀k,row=some k→w0.heap.size≤k):Cur w0 w' p:=by
 obtain⟨ao,l,c,i,n,h1,h2,h3,h4,h5⟩:=h
 exact⟨ao,l,c,i,n,h1.grown hg (fun k hk e=>hn (by rw[hk,e])),h2,h3,h4,h5.grown hg hb⟩
theorem Cur.nb{w0 w wB:World}{p:Nat}(h:Cur w0 w p){v:Value}{l:List Int}(hO:Own 3 wB w v l):v.ownBlock≠some p:=by
 obtain⟨ao,l,c,i,n,h1,-⟩:=h
 exact hO.ne_blk h1 (by decide)
structure L14(w w1 wr:World)(p g:Nat)(V:Value)(L:List Int)(sP sQ:Value)(P Q:List Int):Prop where
 hP:Own 3 w wr sP P
 hQ:Own 3 w wr sQ Q
 hV:Own 3 w1 wr V L
 pq:sP.ownBlock=none∨sP.ownBlock≠sQ.ownBlock
 vp:V.ownBlock=none∨V.ownBlock≠sP.ownBlock
 vq:V.ownBlock=none∨V.ownBlock≠sQ.ownBlock
 hR:Blk wr w.heap.size 27 #[.slice none 0 0]
 hG:Blk wr g 27 #[V]
 hC:Cur w wr p
theorem L14.drw{w w1 wr wr':World}{p g:Nat}{V sP sQ:Value}{L P Q:List Int}(h:L14 w w1 wr p g V L sP sQ P Q)(hF:Drw p wr wr')(hC:Cur w wr' p)(hg:g≠p)(hw:w.heap.size≠p):L14 w w1 wr' p g V L sP sQ P Q :=
 ⟨Fr.own hF h.hP (h.hC.nb h.hP) (by cases sP.ownBlock<;>simp),Fr.own hF h.hQ (h.hC.nb h.hQ) (by cases sQ.ownBlock<;>simp),Fr.own hF h.hV (h.hC.nb h.hV) (by cases V.ownBlock<;>simp),h.pq,h.vp,h.vq,hF.blk h.hR hw,hF.blk h.hG hg,hC⟩
theorem nw_ne{a o o':Option Nat}{W:World}(hn:Nw o W o')(h:a=none∨a≠o)(ha:∀k,a=some k→k<W.heap.size):a=none∨a≠o':=by
 rcases h with h | h
 · exact Or.inl h
 · cases a with
   | none=>exact Or.inl rfl
   | some k =>
    refine Or.inr fun e=>?_
    rcases hn with hn | hn
    · exact h (by rw[e,hn])
    · have:=hn k e.symm;have:=ha k rfl;omega
theorem none_sym{a b:Option Nat}(h:a=none∨a≠b):b=none∨b≠a:=by
 cases b with
 | none=>exact Or.inl rfl
 | some k=>exact Or.inr fun e=>by rcases h with h | h<;>simp_all
theorem L14.appP{w w1 wr wr':World}{p g:Nat}{V sP sQ sP':Value}{L P Q P':List Int}(h:L14 w w1 wr p g V L sP sQ P Q)(hO:Own 3 w wr' sP' P')(hG:wr.grownBy wr' sP.ownBlock)(hN:Nw sP.ownBlock wr sP'.ownBlock):L14 w w1 wr' p g V L sP' sQ P' Q :=
 ⟨hO,h.hQ.kept hG (none_sym h.pq),h.hV.kept hG h.vp,none_sym (nw_ne hN (none_sym h.pq) (fun k hk=>(h.hQ.blk k hk).2)),nw_ne hN h.vp (fun k hk=>(h.hV.blk k hk).2),h.vq,
  h.hR.grown hG (fun k hk e=>h.hP.ne_blk h.hR (by decide) (by rw[hk,e])),h.hG.grown hG (fun k hk e=>h.hP.ne_blk h.hG (by decide) (by rw[hk,e])),h.hC.grown hG (h.hC.nb h.hP) (fun k hk=>(h.hP.blk k hk).1)⟩
theorem L14.appQ{w w1 wr wr':World}{p g:Nat}{V sP sQ sQ':Value}{L P Q Q':List Int}(h:L14 w w1 wr p g V L sP sQ P Q)(hO:Own 3 w wr' sQ' Q')(hG:wr.grownBy wr' sQ.ownBlock)(hN:Nw sQ.ownBlock wr sQ'.ownBlock):L14 w w1 wr' p g V L sP sQ' P Q' :=
 ⟨h.hP.kept hG h.pq,hO,h.hV.kept hG h.vq,nw_ne hN h.pq (fun k hk=>(h.hP.blk k hk).2),h.vp,nw_ne hN h.vq (fun k hk=>(h.hV.blk k hk).2),
  h.hR.grown hG (fun k hk e=>h.hQ.ne_blk h.hR (by decide) (by rw[hk,e])),h.hG.grown hG (fun k hk e=>h.hQ.ne_blk h.hG (by decide) (by rw[hk,e])),h.hC.grown hG (h.hC.nb h.hQ) (fun k hk=>(h.hQ.blk k hk).1)⟩
theorem L14.alloc{w w1 wr:World}{p g:Nat}{V sP sQ:Value}{L P Q:List Int}(h:L14 w w1 wr p g V L sP sQ P Q)(o:Obj):L14 w w1 (wr.alloc o) p g V L sP sQ P Q :=
 ⟨h.hP.alloc o,h.hQ.alloc o,h.hV.alloc o,h.pq,h.vp,h.vq,h.hR.alloc o,h.hG.alloc o,h.hC.alloc o⟩
end Go.Zz
namespace Go.Zz
open Go.RowKit Go.Proofs
set_option maxHeartbeats 400000
theorem xup{w w':World}(h:Ext w w':=by repeat (first | (with_reducible assumption) | (with_reducible exact Ext.refl _) | (with_reducible apply Ext.drew) | (with_reducible apply Ext.alloc) | (with_reducible (apply And.left;assumption)))):Ext w w':=h
theorem bup{w:World}{b:Nat}{T:TypeId}{cs:Array Value}(h:Blk w b T cs:=by repeat (first | (with_reducible assumption) | (with_reducible exact Blk.new _ _ _) | ((with_reducible refine Blk.new' ?_);simp[go_sem];done) | (with_reducible apply Blk.alloc) | (with_reducible apply Blk.drew))):Blk w b T cs:=h
theorem opw_of{P:Program}{ops:Array Oper}{o:Oper}{a:Act}{w:World}{K:Act→World→Prop}{Q:Exit→Act→World→Prop}(hg:o.guard=none)(h:if Region.wanted o (yielded ops a.tmps)=true then Oper.wp P o a w K Q else True):Oper.wp P o a w K Q:=by
 have hw:Region.wanted o (yielded ops a.tmps)=true:=by simp[Region.wanted,hg]
 rwa [if_pos hw] at h
end Go.Zz
