/- The drawing of a tile. -/
import Derived.Test.YtdlbbpeahicakaaGreatGr26
import Derived.Test.YtdlbbpeahicakaaGreatGr18
import Derived.Test.YtdlbbpeahicakaaGreatGr2
import Derived.Test.YtdlbbpeahicakaaGreatGr7
import Derived.Test.YtdlbbpeahicakaaGreatGr25
set_option linter.unusedSimpArgs false
set_option linter.unusedVariables false
set_option linter.unnecessarySimpa false
namespace Go.Zz
open Go.RowKit Go.Proofs
set_option maxHeartbeats 8000000
set_option maxRecDepth 20000
theorem cos_ne{l:List Int}(hg:isGrp l=true){n:Nat}(h0:n.testBit 0=true)(hn:n<2 ^ ord l):∀k,∀c∈(cosTo l n k).1,c≠0
 | 0,c,hc=>by simp[cosTo] at hc
 | k+1,c,hc=>by
  cases e:(cosTo l n k).2.testBit k
  · rw[cosTo_no e] at hc
    rcases List.mem_append.1 hc with hc | hc
    · exact cos_ne hg h0 hn k c hc
    · rw[List.mem_singleton.1 hc]
      intro h
      have h1:=cnt_shift hg hn k
      rw[h] at h1
      have h2:0<cnt n:=by
       unfold cnt
       exact List.length_pos_of_mem (mem_elems.2 ⟨by decide,h0⟩)
      have h3:cnt 0=0:=by decide
      omega
  · rw[cosTo_yes e] at hc;exact cos_ne hg h0 hn k c hc
theorem cosF_in{l:List Int}{a:Int}(h:subB l a=true):∃C:List Nat,cosF l a=castL C∧C.length≤24∧∀c∈C,c<2 ^ 24∧elems c≠[]:=by
 have hs:isSetB l a=true:=by unfold subB at h;simp only[Bool.and_eq_true] at h;exact h.1
 obtain⟨n,rfl,hlt,h24,hg⟩:=isSetB_nat hs
 have hq:genF l n=n:=by
  have:=h
  rw[subB_yes hs,beq_iff_eq] at this
  omega
 have h0:n.testBit 0=true:=by rw[←hq];exact genF_zero l n
 have hn:n<2 ^ ord l:=by rw[←hq];exact genF_lt hg n
 refine⟨_,cosF_yes h,Nat.le_trans (cosTo_len l n (ord l)) (by have:=ord_bd hg;omega),fun c hc=>?_⟩
 have h1:=(cosTo_bd hg n (ord l)).2 c hc
 have h2:=Nat.lt_of_lt_of_le h1 (pow_ord hg)
 exact⟨h2,elems_ne (cos_ne hg h0 hn _ c hc) h2⟩
theorem vp_nil(V:Value):V.ownBlock=none∨V.ownBlock≠(Value.slice none 0 0).ownBlock:=by
 cases h:V.ownBlock with
 | none=>exact Or.inl rfl
 | some b=>exact Or.inr (fun e=>by cases e)
theorem own_nil(w0 w:World):Own 3 w0 w (.slice none 0 0) []:=⟨World.ownsRow_nil _ _ _ _,by simp⟩
theorem F16.drw{w0 w wA wr wr':World}{p r g:Nat}{V sP:Value}{L P:List Int}(h:F16 w0 w wA wr p r g V L sP P)(hF:Drw p wr wr')(hC:Cur w0 wr' p)(hg:g≠p)(hr:r≠p)(hpA:p<wA.heap.size):F16 w0 w wA wr' p r g V L sP P :=
 ⟨Fr.own hF h.hP (h.hC.nb h.hP) (by cases sP.ownBlock<;>simp),hF.own h.hV hpA,hF.blk h.hR hr,hF.blk h.hG hg,hC,h.fr.trans hF⟩
theorem l20Pair_any(w0 w:World)(p:Nat)(h:Cur w0 w p) :
 Calls Tryz.prog 175 #[.pointer (some ⟨p,0,none⟩)] w fun e w'=>∃ao L c x0 x1,e=.returned (.tuple #[.agg #[.slice ao (List.length L) c],.int .i64 x0,.int .i64 x1])∧Own 3 w w' (.slice ao (List.length L) c) L∧Cur w0 w' p∧Drw p w w':=by
 have hp:=h.lt
 have hB0:=Blk.new w 27 #[.slice none 0 0]
 obtain⟨wA,hwA⟩:∃x,x=w.alloc (.cells #[.slice none 0 0] 27):=⟨_,rfl⟩
 have hC0:=h.alloc (.cells #[.slice none 0 0] 27)
 have hF0:=((Ext.refl w).alloc (.cells #[.slice none 0 0] 27)).drw p
 have hsA:w.heap.size<wA.heap.size:=by rw[hwA];simp
 have hpA:p<wA.heap.size:=by omega
 rw[←hwA] at hB0 hC0 hF0
 have HwA:=Lib.hid hwA
 clear hwA
 go_enter Tryz.func175,Tryz.ntmps175
 go_wp2_with fail
 rw[←HwA.out]
 refine (l5Group_any w0 wA p hC0).mono ?_
 rintro e w2 ⟨ao,L,c,h5,rfl,hO,hC,hF2⟩
 have hR:=hF2.blk hB0 (by omega)
 have hF:=hF0.trans hF2
 have hs2:=hF2.size
 clear hB0 hC0 hF0 hF2
 have hG:=Blk.new w2 27 #[.slice ao L.length c]
 have hI0:L16 w0 w wA (w2.alloc (.cells #[.slice ao L.length c] 27)) p w.heap.size w2.heap.size (.slice ao L.length c) L (.slice none 0 0) [] :=
  ⟨own_nil _ _,hO.alloc _,vp_nil _,hR.alloc _,hG,hC.alloc _,fun k hk=>by simp[Value.ownBlock] at hk,by simp;omega,by omega,hF.alloc _⟩
 obtain⟨w3,hw3⟩:∃x,x=w2.alloc (.cells #[.slice ao L.length c] 27):=⟨_,rfl⟩
 obtain⟨g,hg⟩:∃g,g=w2.heap.size:=⟨_,rfl⟩
 rw[←hw3,←hg] at hI0
 have Hw3:=Lib.hid hw3
 have Hg:=Lib.hid hg
 have ngp:g≠p:=by omega
 have nrp:w.heap.size≠p:=by omega
 have ngr:g≠w.heap.size:=by omega
 clear hw3 hg hG hR hO hC hF
 have l3:=hI0.hG.cell (i:=0) (v:=.slice ao L.length c) rfl
 cases hs:subB L h5
 · go_wp2_with fail
   rw[←Hw3.out,←Hg.out]
   go_wp2_with fail
   refine (sIsSubgroup_val _ _ _ _ hI0.hV.ints hs).mono ?_
   rintro e w4 ⟨rfl,hE4⟩
   have hI4:=hI0.ext hE4
   clear l3 hI0
   have l0:=hI4.hG.cell (i:=0) (v:=.slice ao L.length c) rfl
   go_wp2_with fail
   refine (l3Set_any w0 _ wA p _ L hI4.hC hI4.hV hpA).mono ?_
   rintro e w6 ⟨a,rfl,-,hC6,hF6⟩
   have hI6:=hI4.drw hF6 hC6 ngp nrp
   have l6:=hI6.hG.cell (i:=0) (v:=.slice ao L.length c) rfl
   have cF:=sFindTile_any _ L a _ hI6.hV.ints
   obtain⟨fv,hfv⟩:∃x,x=ftV L a:=⟨_,rfl⟩
   rw[←hfv] at cF
   clear l0 hC6 hF6 hfv
   cases hft:ftB L a
   · rw[hft] at cF
     go_wp2_with fail
     refine cF.mono ?_
     rintro e w7 ⟨rfl,hE7⟩
     have hD:=hI6.ext (hE7.drew)
     have d0:=hD.hG.cell (i:=0) (v:=.slice ao L.length c) rfl
     have r0:=hD.hR.cell (i:=0) (v:=.slice none 0 0) rfl
     have f0:=hD.hR.free 0
     have hS:=hD.store nrp ngr (Nat.le_refl _) (by omega)
     have d1:=hS.hG.cell (i:=0) (v:=.slice ao L.length c) rfl
     have d2:=True.intro
     have d3:=True.intro
     clear l6 hft cF
     go_upto_region 15 with fail
     refine wp_region_held_drew (S:=(fun W=>W.cell? ⟨g,0,none⟩=some (.slice ao L.length c))) (by kernel_rfl) (by exact d0) (fun hHeld=>?_)
     (refine takeOn (i:=0) (v:=?_) (by kernel_rfl) (by rfl) (by rfl) (by kernel_rfl) (by kernel_rfl) (by intro _ _ _ h;exact h) ?_ (by assumption) ?_);(rotate_left 1);(focus ((intro w hSw);(try dsimp only at hSw);go_simp;(try with_reducible rfl)));(try simp only[Act.put,List.setIfInBounds_toArray,List.set_cons_zero,List.set_cons_succ,List.getElem_toArray,List.getElem_cons_zero,List.getElem_cons_succ])
     (refine takeOn (i:=1) (v:=?_) (by kernel_rfl) (by rfl) (by rfl) (by kernel_rfl) (by kernel_rfl) (by intro _ _ _ h;exact h) ?_ (by assumption) ?_);(rotate_left 1);(focus ((intro w hSw);(try dsimp only at hSw);go_simp;(try with_reducible rfl)));(try simp only[Act.put,List.setIfInBounds_toArray,List.set_cons_zero,List.set_cons_succ,List.getElem_toArray,List.getElem_cons_zero,List.getElem_cons_succ])
     (refine takeOn (i:=2) (v:=?_) (by kernel_rfl) (by rfl) (by rfl) (by kernel_rfl) (by kernel_rfl) (by intro _ _ _ h;exact h) ?_ (by assumption) ?_);(rotate_left 1);(focus ((intro w hSw);(try dsimp only at hSw);go_simp;(try with_reducible rfl)));(try simp only[Act.put,List.setIfInBounds_toArray,List.set_cons_zero,List.set_cons_succ,List.getElem_toArray,List.getElem_cons_zero,List.getElem_cons_succ])
     (refine takeOn (i:=3) (v:=?_) (by kernel_rfl) (by rfl) (by rfl) (by kernel_rfl) (by kernel_rfl) (by intro _ _ _ h;exact h) ?_ (by assumption) ?_);(rotate_left 1);(focus ((intro w hSw);(try dsimp only at hSw);go_simp;(try with_reducible rfl)));(try simp only[Act.put,List.setIfInBounds_toArray,List.set_cons_zero,List.set_cons_succ,List.getElem_toArray,List.getElem_cons_zero,List.getElem_cons_succ])
     refine takeOne (i:=4) (by kernel_rfl) (by rfl) (by rfl) (fun K hK=>?_)
     go_simp;(go_at_call 165;(first | (with_reducible refine Calls.mono (l3Set_any w0 _ wA p _ L hD.hC hD.hV hpA) ?_) | (with_reducible refine Calls.mono (l3Set_any w0 _ wA p _ L hS.hC hS.hV hpA) ?_));rintro e wC ⟨y,rfl,-,hC8,hF8⟩);first | (have hIC:=hD.drw hF8 hC8 ngp nrp;have r1:=hIC.hR.cell (i:=0) (v:=.slice none 0 0) rfl;have f1:=hIC.hR.free 0;have d2:=hIC.hG.cell (i:=0) (v:=.slice ao L.length c) rfl;have hZ:=hIC.store nrp ngr (Nat.le_refl _) (by omega);have d3:=hZ.hG.cell (i:=0) (v:=.slice ao L.length c) rfl) | (have hZ:=hS.drw hF8 hC8 ngp nrp hpA;have d3:=hZ.hG.cell (i:=0) (v:=.slice ao L.length c) rfl)
     refine hK.out _ _ (by first | exact d0 | exact d1 | exact d2 | exact d3) (fun hHeld=>?_)
     clear hK K
     (try simp only[Act.put,List.setIfInBounds_toArray,List.set_cons_zero,List.set_cons_succ,List.getElem_toArray,List.getElem_cons_zero,List.getElem_cons_succ])
     refine takeOne (i:=5) (by kernel_rfl) (by rfl) (by rfl) (fun K hK=>?_)
     go_simp
     refine hK.out _ _ (by first | exact d0 | exact d1 | exact d2 | exact d3) (fun hHeld=>?_)
     clear hK K
     (try simp only[Act.put,List.setIfInBounds_toArray,List.set_cons_zero,List.set_cons_succ,List.getElem_toArray,List.getElem_cons_zero,List.getElem_cons_succ])
     (refine takeOn (i:=6) (v:=?_) (by kernel_rfl) (by rfl) (by rfl) (by kernel_rfl) (by kernel_rfl) (by intro _ _ _ h;exact h) ?_ (by assumption) ?_);(rotate_left 1);(focus ((intro w hSw);(try dsimp only at hSw);go_simp;(try with_reducible rfl)));(try simp only[Act.put,List.setIfInBounds_toArray,List.set_cons_zero,List.set_cons_succ,List.getElem_toArray,List.getElem_cons_zero,List.getElem_cons_succ])
     (refine takeOn (i:=7) (v:=?_) (by kernel_rfl) (by rfl) (by rfl) (by kernel_rfl) (by kernel_rfl) (by intro _ _ _ h;exact h) ?_ (by assumption) ?_);(rotate_left 1);(focus ((intro w hSw);(try dsimp only at hSw);go_simp;(try with_reducible rfl)));(try simp only[Act.put,List.setIfInBounds_toArray,List.set_cons_zero,List.set_cons_succ,List.getElem_toArray,List.getElem_cons_zero,List.getElem_cons_succ])
     refine wpAnyH_done (by kernel_rfl) ?_ _
     go_wp2_with fail
     have q0:=hZ.hR.cell (i:=0) (v:=.slice ao L.length c) rfl
     refine bodyPost_ret (v:=.tuple #[.agg #[.slice ao L.length c],.int .i64 a,.int .i64 y]) ?_ rfl ?_
     · simp[results,Tryz.results175,go_sem,q0]
     · exact⟨_,L,_,a,y,rfl,hZ.hV.low (by omega),hZ.hC,hZ.fr⟩
   · rw[hft] at cF
     go_wp2_with fail
     refine cF.mono ?_
     rintro e w7 ⟨rfl,hE7⟩
     have hI7:=hI6.ext hE7
     have d0:=hI7.hG.cell (i:=0) (v:=.slice ao L.length c) rfl
     have r0:=hI7.hR.cell (i:=0) (v:=.slice none 0 0) rfl
     have f0:=hI7.hR.free 0
     have hZ:=hI7.store nrp ngr (Nat.le_refl _) (by omega)
     have q0:=hZ.hR.cell (i:=0) (v:=.slice ao L.length c) rfl
     clear l6 hft cF
     go_wp2_with fail
     refine bodyPost_ret (v:=.tuple #[.agg #[.slice ao L.length c],.int .i64 a,.int .i64 fv]) ?_ rfl ?_
     · simp[results,Tryz.results175,go_sem,q0]
     · exact⟨_,L,_,a,fv,rfl,hZ.hV.low (by omega),hZ.hC,hZ.fr⟩
 · obtain⟨C,hCe,hCl,hCn⟩:=cosF_in hs
   go_wp2_with fail
   rw[←Hw3.out,←Hg.out]
   go_wp2_with fail
   refine (sIsSubgroup_val _ _ _ _ hI0.hV.ints hs).mono ?_
   rintro e w4 ⟨rfl,hE4⟩
   have hI4:=hI0.ext hE4
   clear l3 hI0
   go_wp2_with fail
   refine (l1Once_any w0 _ p 2 (by omega) hI4.hC).mono ?_
   rintro e w5 ⟨bb,rfl,hC5,hF5⟩
   have hI5:=hI4.drw hF5 hC5 ngp nrp
   clear hI4 hC5 hF5
   cases bb
   · skip
     have l0:=hI5.hG.cell (i:=0) (v:=.slice ao L.length c) rfl
     go_wp2_with fail
     refine (l3Set_any w0 _ wA p _ L hI5.hC hI5.hV hpA).mono ?_
     rintro e w6 ⟨a,rfl,-,hC6,hF6⟩
     have hI6:=hI5.drw hF6 hC6 ngp nrp
     have l6:=hI6.hG.cell (i:=0) (v:=.slice ao L.length c) rfl
     have cF:=sFindTile_any _ L a _ hI6.hV.ints
     obtain⟨fv,hfv⟩:∃x,x=ftV L a:=⟨_,rfl⟩
     rw[←hfv] at cF
     clear l0 hC6 hF6 hfv
     cases hft:ftB L a
     · rw[hft] at cF
       go_wp2_with fail
       refine cF.mono ?_
       rintro e w7 ⟨rfl,hE7⟩
       have hD:=hI6.ext (hE7.drew)
       have d0:=hD.hG.cell (i:=0) (v:=.slice ao L.length c) rfl
       have r0:=hD.hR.cell (i:=0) (v:=.slice none 0 0) rfl
       have f0:=hD.hR.free 0
       have hS:=hD.store nrp ngr (Nat.le_refl _) (by omega)
       have d1:=hS.hG.cell (i:=0) (v:=.slice ao L.length c) rfl
       have d2:=True.intro
       have d3:=True.intro
       clear l6 hft cF
       go_upto_region 15 with fail
       refine wp_region_held_drew (S:=(fun W=>W.cell? ⟨g,0,none⟩=some (.slice ao L.length c))) (by kernel_rfl) (by exact d0) (fun hHeld=>?_)
       (refine takeOn (i:=0) (v:=?_) (by kernel_rfl) (by rfl) (by rfl) (by kernel_rfl) (by kernel_rfl) (by intro _ _ _ h;exact h) ?_ (by assumption) ?_);(rotate_left 1);(focus ((intro w hSw);(try dsimp only at hSw);go_simp;(try with_reducible rfl)));(try simp only[Act.put,List.setIfInBounds_toArray,List.set_cons_zero,List.set_cons_succ,List.getElem_toArray,List.getElem_cons_zero,List.getElem_cons_succ])
       (refine takeOn (i:=1) (v:=?_) (by kernel_rfl) (by rfl) (by rfl) (by kernel_rfl) (by kernel_rfl) (by intro _ _ _ h;exact h) ?_ (by assumption) ?_);(rotate_left 1);(focus ((intro w hSw);(try dsimp only at hSw);go_simp;(try with_reducible rfl)));(try simp only[Act.put,List.setIfInBounds_toArray,List.set_cons_zero,List.set_cons_succ,List.getElem_toArray,List.getElem_cons_zero,List.getElem_cons_succ])
       (refine takeOn (i:=2) (v:=?_) (by kernel_rfl) (by rfl) (by rfl) (by kernel_rfl) (by kernel_rfl) (by intro _ _ _ h;exact h) ?_ (by assumption) ?_);(rotate_left 1);(focus ((intro w hSw);(try dsimp only at hSw);go_simp;(try with_reducible rfl)));(try simp only[Act.put,List.setIfInBounds_toArray,List.set_cons_zero,List.set_cons_succ,List.getElem_toArray,List.getElem_cons_zero,List.getElem_cons_succ])
       (refine takeOn (i:=3) (v:=?_) (by kernel_rfl) (by rfl) (by rfl) (by kernel_rfl) (by kernel_rfl) (by intro _ _ _ h;exact h) ?_ (by assumption) ?_);(rotate_left 1);(focus ((intro w hSw);(try dsimp only at hSw);go_simp;(try with_reducible rfl)));(try simp only[Act.put,List.setIfInBounds_toArray,List.set_cons_zero,List.set_cons_succ,List.getElem_toArray,List.getElem_cons_zero,List.getElem_cons_succ])
       refine takeOne (i:=4) (by kernel_rfl) (by rfl) (by rfl) (fun K hK=>?_)
       go_simp;(go_at_call 165;(first | (with_reducible refine Calls.mono (l3Set_any w0 _ wA p _ L hD.hC hD.hV hpA) ?_) | (with_reducible refine Calls.mono (l3Set_any w0 _ wA p _ L hS.hC hS.hV hpA) ?_));rintro e wC ⟨y,rfl,-,hC8,hF8⟩);first | (have hIC:=hD.drw hF8 hC8 ngp nrp;have r1:=hIC.hR.cell (i:=0) (v:=.slice none 0 0) rfl;have f1:=hIC.hR.free 0;have d2:=hIC.hG.cell (i:=0) (v:=.slice ao L.length c) rfl;have hZ:=hIC.store nrp ngr (Nat.le_refl _) (by omega);have d3:=hZ.hG.cell (i:=0) (v:=.slice ao L.length c) rfl) | (have hZ:=hS.drw hF8 hC8 ngp nrp hpA;have d3:=hZ.hG.cell (i:=0) (v:=.slice ao L.length c) rfl)
       refine hK.out _ _ (by first | exact d0 | exact d1 | exact d2 | exact d3) (fun hHeld=>?_)
       clear hK K
       (try simp only[Act.put,List.setIfInBounds_toArray,List.set_cons_zero,List.set_cons_succ,List.getElem_toArray,List.getElem_cons_zero,List.getElem_cons_succ])
       refine takeOne (i:=5) (by kernel_rfl) (by rfl) (by rfl) (fun K hK=>?_)
       go_simp
       refine hK.out _ _ (by first | exact d0 | exact d1 | exact d2 | exact d3) (fun hHeld=>?_)
       clear hK K
       (try simp only[Act.put,List.setIfInBounds_toArray,List.set_cons_zero,List.set_cons_succ,List.getElem_toArray,List.getElem_cons_zero,List.getElem_cons_succ])
       (refine takeOn (i:=6) (v:=?_) (by kernel_rfl) (by rfl) (by rfl) (by kernel_rfl) (by kernel_rfl) (by intro _ _ _ h;exact h) ?_ (by assumption) ?_);(rotate_left 1);(focus ((intro w hSw);(try dsimp only at hSw);go_simp;(try with_reducible rfl)));(try simp only[Act.put,List.setIfInBounds_toArray,List.set_cons_zero,List.set_cons_succ,List.getElem_toArray,List.getElem_cons_zero,List.getElem_cons_succ])
       (refine takeOn (i:=7) (v:=?_) (by kernel_rfl) (by rfl) (by rfl) (by kernel_rfl) (by kernel_rfl) (by intro _ _ _ h;exact h) ?_ (by assumption) ?_);(rotate_left 1);(focus ((intro w hSw);(try dsimp only at hSw);go_simp;(try with_reducible rfl)));(try simp only[Act.put,List.setIfInBounds_toArray,List.set_cons_zero,List.set_cons_succ,List.getElem_toArray,List.getElem_cons_zero,List.getElem_cons_succ])
       refine wpAnyH_done (by kernel_rfl) ?_ _
       go_wp2_with fail
       have q0:=hZ.hR.cell (i:=0) (v:=.slice ao L.length c) rfl
       refine bodyPost_ret (v:=.tuple #[.agg #[.slice ao L.length c],.int .i64 a,.int .i64 y]) ?_ rfl ?_
       · simp[results,Tryz.results175,go_sem,q0]
       · exact⟨_,L,_,a,y,rfl,hZ.hV.low (by omega),hZ.hC,hZ.fr⟩
     · rw[hft] at cF
       go_wp2_with fail
       refine cF.mono ?_
       rintro e w7 ⟨rfl,hE7⟩
       have hI7:=hI6.ext hE7
       have d0:=hI7.hG.cell (i:=0) (v:=.slice ao L.length c) rfl
       have r0:=hI7.hR.cell (i:=0) (v:=.slice none 0 0) rfl
       have f0:=hI7.hR.free 0
       have hZ:=hI7.store nrp ngr (Nat.le_refl _) (by omega)
       have q0:=hZ.hR.cell (i:=0) (v:=.slice ao L.length c) rfl
       clear l6 hft cF
       go_wp2_with fail
       refine bodyPost_ret (v:=.tuple #[.agg #[.slice ao L.length c],.int .i64 a,.int .i64 fv]) ?_ rfl ?_
       · simp[results,Tryz.results175,go_sem,q0]
       · exact⟨_,L,_,a,fv,rfl,hZ.hV.low (by omega),hZ.hC,hZ.fr⟩
   · have l5:=hI5.hG.cell (i:=0) (v:=.slice ao L.length c) rfl
     have cS:=sCosetsOf_any _ L h5 _ hI5.hV.ints
     rw[hs,hCe] at cS
     have HCn:=Lib.hid hCn
     clear hs hCe hCn
     go_wp2_with fail
     refine cS.mono ?_
     rintro e w6 ⟨vS,rfl,hOS,hE6⟩
     have hI6:=hI5.ext hE6
     obtain⟨aoS,cS2,rfl,-⟩:=hOS.shape
     have hOS0:=hOS
     rw[castL_len] at hOS
     have hz5:w0.heap.size≤w5.heap.size:=by have:=hI5.hC.lt;omega
     clear hI5 l5 cS hE6 hOS0
     rw[castL_len]
     go_wp2_with fail
     go_loopw [9,10] (fun s9 s10 wr=>∃(i:Nat) (b:Int),i≤C.length∧s10=.int .i64 i∧s9=.int .i64 b∧L16 w0 w wA wr p w.heap.size g (.slice ao L.length c) L (.slice none 0 0) []∧Own 3 w5 wr (.slice aoS C.length cS2) (castL C)) (fun _ s10 _=>C.length - (intOf s10).toNat)
     case atStart=>exact⟨0,0,by omega,rfl,rfl,hI6,hOS⟩
     case round =>
      rename World=>wr
      clear hI6 hOS
      obtain⟨i,b,hi,rfl,rfl,hI,hOS⟩:=hrel
      by_cases hlt:i<C.length
      · have hltI:(i:Int)<(C.length:Int):=by omega
        obtain⟨gS,rfl,-,-⟩:=hOS.row (castL_len C) (by omega)
        have hixS:=row_index gS C.length cS2 i
        have hcS:=(hOS.cellAt (castL_len C) hlt).1
        obtain⟨hc24,hcne⟩:=HCn.out _ (nthN_mem hlt)
        rw[nth_castL] at hcS
        obtain⟨y,hyd⟩:∃y,y=nthN C i:=⟨_,rfl⟩
        rw[←hyd] at hcS hc24 hcne
        have hel:=elems_len y
        have he0:0<(elems y).length:=by
         rcases Nat.eq_zero_or_pos (elems y).length with h | h
         · exact absurd (List.eq_nil_of_length_eq_zero h) hcne
         · exact h
        have hem:∀x∈elems y,x<24:=fun x hx=>(mem_elems.1 hx).1
        have cL:=l3List_any y hc24
        obtain⟨E,hE⟩:∃E,E=elems y:=⟨_,rfl⟩
        simp only[←hE] at hel he0 hem cL
        clear hyd hE hcne hc24
        go_wp2_with fail
        refine (cL _).mono ?_
        rintro e w7 ⟨vE,rfl,hOE,hE7⟩
        have hI7:=hI.ext hE7
        have hOS7:=hOS.ext hE7
        obtain⟨aoE,cE,rfl,-⟩:=hOE.shape
        rw[castL_len] at hOE ⊢
        have hOE':Own 3 w0 w7 (.slice aoE E.length cE) (castL E):=hOE.low (by have:=hI.hC.lt;omega)
        clear hcS hI hOS
        go_wp2_with fail
        refine (l1Below_any w0 _ p (E.length:Nat) (by omega) hI7.hC).mono ?_
        rintro e w8 ⟨z,rfl,hb,hC8,hF8⟩
        obtain⟨hz0,hz1⟩:=hb.2 (by omega)
        obtain⟨k,rfl⟩:=Int.eq_ofNat_of_zero_le hz0
        have hk:k<E.length:=by omega
        have hI8:=hI7.drw hF8 hC8 ngp nrp
        have hOS8:=Fr.own hF8 hOS7 (hI7.hC.nb hOS7) (by simp[Value.ownBlock])
        have hOE8:=Fr.own hF8 hOE' (hI7.hC.nb hOE') (by cases (Value.slice aoE E.length cE).ownBlock<;>simp)
        obtain⟨gE,rfl,-,-⟩:=hOE8.row (castL_len E) he0
        have hixE:=row_index gE E.length cE k
        have hcE:=(hOE8.cellAt (castL_len E) hk).1
        rw[nth_castL] at hcE
        have hx24:=hem _ (nthN_mem hk)
        obtain⟨x,hxd⟩:∃x,x=nthN E k:=⟨_,rfl⟩
        rw[←hxd] at hcE hx24
        have q1:=ishl_one (n:=x) (by omega)
        clear hxd hb hz0 hz1 hI7 hOS7 hOE' hOE hC8 hF8 hOE8
        go_wp2_with fail
        go_roundw
        case rel=>exact⟨i+1,_,by omega,by go_num,rfl,hI8,hOS8⟩
        case measure=>(simp[intOf];omega)
      · have d0:=hI.hG.cell (i:=0) (v:=.slice ao L.length c) rfl
        have r0:=hI.hR.cell (i:=0) (v:=.slice none 0 0) rfl
        have f0:=hI.hR.free 0
        have hZ:=hI.store nrp ngr (Nat.le_refl _) (by omega)
        have q0:=hZ.hR.cell (i:=0) (v:=.slice ao L.length c) rfl
        go_wp2_with fail
        refine bodyPost_ret (v:=.tuple #[.agg #[.slice ao L.length c],.int .i64 b,.int .i64 h5]) ?_ rfl ?_
        · simp[results,Tryz.results175,go_sem,q0]
        · exact⟨_,L,_,b,h5,rfl,hZ.hV.low (by omega),hZ.hC,hZ.fr⟩
end Go.Zz
namespace Go.Zz
open Go.RowKit Go.Proofs
set_option maxHeartbeats 4000000
set_option maxRecDepth 20000
theorem Ints.set_other{w:World}{v:Value}{l:List Int}(h:Ints w v l){p:Addr}{u:Value}(hp:w.cell? p=some u)(hu:∀x,u≠.int .i64 x)(y:Value):Ints (w.setCell p y) v l:=by
 obtain⟨ao,c,h1,h2,h3,h4⟩:=h
 refine⟨ao,c,h1,h2,h3,fun i hi=>?_⟩
 obtain⟨a,ha,hc⟩:=h4 i hi
 refine⟨a,ha,?_⟩
 rw[World.cell?_setCell_other _ _ _ _ (fun e=>?_)]
 · exact hc
 · have e':a.add i=p:=by first | exact e | exact e.symm
   rw[e',hp] at hc
   exact hu _ (Option.some.inj hc)
theorem l16Both_any(v:Value)(l:List Int)(w:World)(h:Byts w v l) :
 Calls Tryz.prog 85 #[v] w fun e w'=>∃ao L c aP P cP,e=.returned (.tuple #[.agg #[.slice ao (List.length L) c],.slice aP (List.length P) cP])∧Own 3 w w' (.slice ao (List.length L) c) L∧Ints w' (.slice aP (List.length P) cP) P∧P.length≤8∧Ext w w':=by
 have hE0:=(Ext.refl w).alloc (.cells #[.slice none 0 0] 27)
 have hB0:=Blk.new w 27 #[.slice none 0 0]
 obtain⟨wA,hwA⟩:∃x,x=w.alloc (.cells #[.slice none 0 0] 27):=⟨_,rfl⟩
 have hsA:w.heap.size<wA.heap.size:=by rw[hwA];simp
 rw[←hwA] at hE0 hB0
 have HwA:=Lib.hid hwA
 clear hwA
 go_enter Tryz.func85,Tryz.ntmps85
 go_wp2_with fail
 rw[←HwA.out]
 refine (l1New_any _ _ w _ h hE0).mono ?_
 rintro e w1 ⟨p,rfl,hC1,hE1,hpZ⟩
 have hp:=hC1.lt
 have hR1:=hB0.ext hE1
 have hsz:=hE1.size
 clear hB0 hE1 hE0
 go_wp2_with fail
 refine (l16Draw_any w w1 p hC1).mono ?_
 rintro e w2 ⟨ao,L,c,aP,P,cP,rfl,hO,hI,hl,hC2,hF2⟩
 have hR:=hF2.blk hR1 (by omega)
 have hE:=hC2.base
 have hO2:=hO.low (w0:=w) (by omega)
 have hR8:=hR.alloc (.cells #[.slice ao L.length c] 27)
 have r0:=hR8.cell (i:=0) (v:=.slice none 0 0) rfl
 have f0:=hR8.free 0
 have e0:=(Blk.new w2 27 #[.slice ao L.length c]).cell (i:=0) (v:=.slice ao L.length c) rfl
 have hO9:=(hO2.alloc (.cells #[.slice ao L.length c] 27)).setCell_ne (p:=⟨w.heap.size,0,none⟩) ((hO2.alloc _).ne_blk hR8 (by decide)) (.slice ao L.length c)
 have hE9:=(hE.alloc (.cells #[.slice ao L.length c] 27)).setCell (p:=⟨w.heap.size,0,none⟩) (Nat.le_refl _) (.slice ao L.length c)
 have q0:=(hR8.set 0 (.slice ao L.length c)).cell (i:=0) (v:=.slice ao L.length c) rfl
 have hP9:=(hI.ext ((Ext.refl w2).alloc (.cells #[.slice ao L.length c] 27))).set_other r0 (by intro x e;cases e) (.slice ao L.length c)
 go_wp2_with fail
 clear r0 f0 e0 hR8
 generalize (w2.alloc (.cells #[.slice ao L.length c] 27)).setCell ⟨w.heap.size,0,none⟩ (.slice ao L.length c)=w9 at hO9 hE9 q0 hP9 ⊢
 exact bodyPost_ret (v:=.tuple #[.agg #[.slice ao L.length c],.slice aP P.length cP]) (by simp[results,Tryz.results85,go_sem,q0]) rfl ⟨_,L,_,_,P,_,rfl,hO9,hP9.ext (Ext.refl _),hl,hE9⟩
theorem DrawClaimOfSequence_any(v:Value)(l:List Int)(w:World)(h:Byts w v l) :
 Calls Tryz.prog 16 #[v] w fun e w'=>∃ao L c aP P cP,e=.returned (.tuple #[.agg #[.slice ao (List.length L) c],.slice aP (List.length P) cP])∧Own 3 w w' (.slice ao (List.length L) c) L∧Ints w' (.slice aP (List.length P) cP) P∧P.length≤8∧Ext w w':=by
 have hE0:=(Ext.refl w).alloc (.cells #[.slice none 0 0] 27)
 have hB0:=Blk.new w 27 #[.slice none 0 0]
 obtain⟨wA,hwA⟩:∃x,x=w.alloc (.cells #[.slice none 0 0] 27):=⟨_,rfl⟩
 have hsA:w.heap.size<wA.heap.size:=by rw[hwA];simp
 rw[←hwA] at hE0 hB0
 have HwA:=Lib.hid hwA
 clear hwA
 go_enter Tryz.func16,Tryz.ntmps16
 go_wp2_with fail
 rw[←HwA.out]
 refine (l16Both_any _ _ _ (h.ext hE0)).mono ?_
 rintro e w2 ⟨ao,L,c,aP,P,cP,rfl,hO,hI,hl,hE2⟩
 have hR:=hB0.ext hE2
 have hE:=hE0.trans hE2
 have hO2:=hO.low (w0:=w) (by omega)
 have hR8:=hR.alloc (.cells #[.slice ao L.length c] 27)
 have r0:=hR8.cell (i:=0) (v:=.slice none 0 0) rfl
 have f0:=hR8.free 0
 have e0:=(Blk.new w2 27 #[.slice ao L.length c]).cell (i:=0) (v:=.slice ao L.length c) rfl
 have hO9:=(hO2.alloc (.cells #[.slice ao L.length c] 27)).setCell_ne (p:=⟨w.heap.size,0,none⟩) ((hO2.alloc _).ne_blk hR8 (by decide)) (.slice ao L.length c)
 have hE9:=(hE.alloc (.cells #[.slice ao L.length c] 27)).setCell (p:=⟨w.heap.size,0,none⟩) (Nat.le_refl _) (.slice ao L.length c)
 have q0:=(hR8.set 0 (.slice ao L.length c)).cell (i:=0) (v:=.slice ao L.length c) rfl
 have hP9:=(hI.ext ((Ext.refl w2).alloc (.cells #[.slice ao L.length c] 27))).set_other r0 (by intro x e;cases e) (.slice ao L.length c)
 go_wp2_with fail
 clear r0 f0 e0 hR8
 generalize (w2.alloc (.cells #[.slice ao L.length c] 27)).setCell ⟨w.heap.size,0,none⟩ (.slice ao L.length c)=w9 at hO9 hE9 q0 hP9 ⊢
 exact bodyPost_ret (v:=.tuple #[.agg #[.slice ao L.length c],.slice aP P.length cP]) (by simp[results,Tryz.results16,go_sem,q0]) rfl ⟨_,L,_,_,P,_,rfl,hO9,hP9.ext (Ext.refl _),hl,hE9⟩
theorem l20Both_any(v:Value)(l:List Int)(w:World)(h:Byts w v l) :
 Calls Tryz.prog 101 #[v] w fun e w'=>∃ao L c x0 x1,e=.returned (.tuple #[.agg #[.slice ao (List.length L) c],.int .i64 x0,.int .i64 x1])∧Own 3 w w' (.slice ao (List.length L) c) L∧Ext w w':=by
 have hE0:=(Ext.refl w).alloc (.cells #[.slice none 0 0] 27)
 have hB0:=Blk.new w 27 #[.slice none 0 0]
 obtain⟨wA,hwA⟩:∃x,x=w.alloc (.cells #[.slice none 0 0] 27):=⟨_,rfl⟩
 have hsA:w.heap.size<wA.heap.size:=by rw[hwA];simp
 rw[←hwA] at hE0 hB0
 have HwA:=Lib.hid hwA
 clear hwA
 go_enter Tryz.func101,Tryz.ntmps101
 go_wp2_with fail
 rw[←HwA.out]
 refine (l1New_any _ _ w _ h hE0).mono ?_
 rintro e w1 ⟨p,rfl,hC1,hE1,hpZ⟩
 have hp:=hC1.lt
 have hR1:=hB0.ext hE1
 have hsz:=hE1.size
 clear hB0 hE1 hE0
 go_wp2_with fail
 refine (l20Pair_any w w1 p hC1).mono ?_
 rintro e w2 ⟨ao,L,c,x0,x1,rfl,hO,hC2,hF2⟩
 have hR:=hF2.blk hR1 (by omega)
 have hE:=hC2.base
 have hO2:=hO.low (w0:=w) (by omega)
 have hR8:=hR.alloc (.cells #[.slice ao L.length c] 27)
 have r0:=hR8.cell (i:=0) (v:=.slice none 0 0) rfl
 have f0:=hR8.free 0
 have e0:=(Blk.new w2 27 #[.slice ao L.length c]).cell (i:=0) (v:=.slice ao L.length c) rfl
 have hO9:=(hO2.alloc (.cells #[.slice ao L.length c] 27)).setCell_ne (p:=⟨w.heap.size,0,none⟩) ((hO2.alloc _).ne_blk hR8 (by decide)) (.slice ao L.length c)
 have hE9:=(hE.alloc (.cells #[.slice ao L.length c] 27)).setCell (p:=⟨w.heap.size,0,none⟩) (Nat.le_refl _) (.slice ao L.length c)
 have q0:=(hR8.set 0 (.slice ao L.length c)).cell (i:=0) (v:=.slice ao L.length c) rfl
 go_wp2_with fail
 clear r0 f0 e0 hR8
 generalize (w2.alloc (.cells #[.slice ao L.length c] 27)).setCell ⟨w.heap.size,0,none⟩ (.slice ao L.length c)=w9 at hO9 hE9 q0 ⊢
 exact bodyPost_ret (v:=.tuple #[.agg #[.slice ao L.length c],.int .i64 x0,.int .i64 x1]) (by simp[results,Tryz.results101,go_sem,q0]) rfl ⟨_,L,_,x0,x1,rfl,hO9,hE9⟩
theorem DrawClaimOfTile_any(v:Value)(l:List Int)(w:World)(h:Byts w v l) :
 Calls Tryz.prog 22 #[v] w fun e w'=>∃ao L c x0,e=.returned (.tuple #[.agg #[.slice ao (List.length L) c],.int .i64 x0])∧Own 3 w w' (.slice ao (List.length L) c) L∧Ext w w':=by
 have hE0:=(Ext.refl w).alloc (.cells #[.slice none 0 0] 27)
 have hB0:=Blk.new w 27 #[.slice none 0 0]
 obtain⟨wA,hwA⟩:∃x,x=w.alloc (.cells #[.slice none 0 0] 27):=⟨_,rfl⟩
 have hsA:w.heap.size<wA.heap.size:=by rw[hwA];simp
 rw[←hwA] at hE0 hB0
 have HwA:=Lib.hid hwA
 clear hwA
 go_enter Tryz.func22,Tryz.ntmps22
 go_wp2_with fail
 rw[←HwA.out]
 refine (l20Both_any _ _ _ (h.ext hE0)).mono ?_
 rintro e w2 ⟨ao,L,c,x0,x1,rfl,hO,hE2⟩
 have hR:=hB0.ext hE2
 have hE:=hE0.trans hE2
 have hO2:=hO.low (w0:=w) (by omega)
 have hR8:=hR.alloc (.cells #[.slice ao L.length c] 27)
 have r0:=hR8.cell (i:=0) (v:=.slice none 0 0) rfl
 have f0:=hR8.free 0
 have e0:=(Blk.new w2 27 #[.slice ao L.length c]).cell (i:=0) (v:=.slice ao L.length c) rfl
 have hO9:=(hO2.alloc (.cells #[.slice ao L.length c] 27)).setCell_ne (p:=⟨w.heap.size,0,none⟩) ((hO2.alloc _).ne_blk hR8 (by decide)) (.slice ao L.length c)
 have hE9:=(hE.alloc (.cells #[.slice ao L.length c] 27)).setCell (p:=⟨w.heap.size,0,none⟩) (Nat.le_refl _) (.slice ao L.length c)
 have q0:=(hR8.set 0 (.slice ao L.length c)).cell (i:=0) (v:=.slice ao L.length c) rfl
 go_wp2_with fail
 clear r0 f0 e0 hR8
 generalize (w2.alloc (.cells #[.slice ao L.length c] 27)).setCell ⟨w.heap.size,0,none⟩ (.slice ao L.length c)=w9 at hO9 hE9 q0 ⊢
 exact bodyPost_ret (v:=.tuple #[.agg #[.slice ao L.length c],.int .i64 x0]) (by simp[results,Tryz.results22,go_sem,q0]) rfl ⟨_,L,_,x0,rfl,hO9,hE9⟩
theorem DrawClaimOfSum_any(v:Value)(l:List Int)(w:World)(h:Byts w v l) :
 Calls Tryz.prog 13 #[v] w fun e w'=>∃ao L c x0 x1,e=.returned (.tuple #[.agg #[.slice ao (List.length L) c],.int .i64 x0,.int .i64 x1])∧Own 3 w w' (.slice ao (List.length L) c) L∧Ext w w':=by
 have hE0:=(Ext.refl w).alloc (.cells #[.slice none 0 0] 27)
 have hB0:=Blk.new w 27 #[.slice none 0 0]
 obtain⟨wA,hwA⟩:∃x,x=w.alloc (.cells #[.slice none 0 0] 27):=⟨_,rfl⟩
 have hsA:w.heap.size<wA.heap.size:=by rw[hwA];simp
 rw[←hwA] at hE0 hB0
 have HwA:=Lib.hid hwA
 clear hwA
 go_enter Tryz.func13,Tryz.ntmps13
 go_wp2_with fail
 rw[←HwA.out]
 refine (l9Two_any _ _ _ (h.ext hE0)).mono ?_
 rintro e w2 ⟨ao,L,c,x0,x1,rfl,hO,hE2⟩
 have hR:=hB0.ext hE2
 have hE:=hE0.trans hE2
 have hO2:=hO.low (w0:=w) (by omega)
 have hR8:=hR.alloc (.cells #[.slice ao L.length c] 27)
 have r0:=hR8.cell (i:=0) (v:=.slice none 0 0) rfl
 have f0:=hR8.free 0
 have e0:=(Blk.new w2 27 #[.slice ao L.length c]).cell (i:=0) (v:=.slice ao L.length c) rfl
 have hO9:=(hO2.alloc (.cells #[.slice ao L.length c] 27)).setCell_ne (p:=⟨w.heap.size,0,none⟩) ((hO2.alloc _).ne_blk hR8 (by decide)) (.slice ao L.length c)
 have hE9:=(hE.alloc (.cells #[.slice ao L.length c] 27)).setCell (p:=⟨w.heap.size,0,none⟩) (Nat.le_refl _) (.slice ao L.length c)
 have q0:=(hR8.set 0 (.slice ao L.length c)).cell (i:=0) (v:=.slice ao L.length c) rfl
 go_wp2_with fail
 clear r0 f0 e0 hR8
 generalize (w2.alloc (.cells #[.slice ao L.length c] 27)).setCell ⟨w.heap.size,0,none⟩ (.slice ao L.length c)=w9 at hO9 hE9 q0 ⊢
 exact bodyPost_ret (v:=.tuple #[.agg #[.slice ao L.length c],.int .i64 x0,.int .i64 x1]) (by simp[results,Tryz.results13,go_sem,q0]) rfl ⟨_,L,_,x0,x1,rfl,hO9,hE9⟩
theorem DrawClaimOfCoset_any(v:Value)(l:List Int)(w:World)(h:Byts w v l) :
 Calls Tryz.prog 31 #[v] w fun e w'=>∃ao L c x0,e=.returned (.tuple #[.agg #[.slice ao (List.length L) c],.int .i64 x0])∧Own 3 w w' (.slice ao (List.length L) c) L∧Ext w w':=by
 have hE0:=(Ext.refl w).alloc (.cells #[.slice none 0 0] 27)
 have hB0:=Blk.new w 27 #[.slice none 0 0]
 obtain⟨wA,hwA⟩:∃x,x=w.alloc (.cells #[.slice none 0 0] 27):=⟨_,rfl⟩
 have hsA:w.heap.size<wA.heap.size:=by rw[hwA];simp
 rw[←hwA] at hE0 hB0
 have HwA:=Lib.hid hwA
 clear hwA
 go_enter Tryz.func31,Tryz.ntmps31
 go_wp2_with fail
 rw[←HwA.out]
 refine (l6Both_any _ _ _ (h.ext hE0)).mono ?_
 rintro e w2 ⟨ao,L,c,x0,rfl,hO,hE2⟩
 have hR:=hB0.ext hE2
 have hE:=hE0.trans hE2
 have hO2:=hO.low (w0:=w) (by omega)
 have hR8:=hR.alloc (.cells #[.slice ao L.length c] 27)
 have r0:=hR8.cell (i:=0) (v:=.slice none 0 0) rfl
 have f0:=hR8.free 0
 have e0:=(Blk.new w2 27 #[.slice ao L.length c]).cell (i:=0) (v:=.slice ao L.length c) rfl
 have hO9:=(hO2.alloc (.cells #[.slice ao L.length c] 27)).setCell_ne (p:=⟨w.heap.size,0,none⟩) ((hO2.alloc _).ne_blk hR8 (by decide)) (.slice ao L.length c)
 have hE9:=(hE.alloc (.cells #[.slice ao L.length c] 27)).setCell (p:=⟨w.heap.size,0,none⟩) (Nat.le_refl _) (.slice ao L.length c)
 have q0:=(hR8.set 0 (.slice ao L.length c)).cell (i:=0) (v:=.slice ao L.length c) rfl
 go_wp2_with fail
 clear r0 f0 e0 hR8
 generalize (w2.alloc (.cells #[.slice ao L.length c] 27)).setCell ⟨w.heap.size,0,none⟩ (.slice ao L.length c)=w9 at hO9 hE9 q0 ⊢
 exact bodyPost_ret (v:=.tuple #[.agg #[.slice ao L.length c],.int .i64 x0]) (by simp[results,Tryz.results31,go_sem,q0]) rfl ⟨_,L,_,x0,rfl,hO9,hE9⟩
theorem DrawClaimOfColors_any(v:Value)(l:List Int)(w:World)(h:Byts w v l) :
 Calls Tryz.prog 28 #[v] w fun e w'=>∃x,e=.returned (.int .i64 x) ∧ -1≤x∧x≤4∧Ext w w':=by
 go_enter Tryz.func28,Tryz.ntmps28
 go_wp2_with fail
 refine (l1New_any _ _ w _ h (Ext.refl w)).mono ?_
 rintro e w1 ⟨p,rfl,hC1,hE1,hpZ⟩
 go_wp2_with fail
 refine (l1Below_any w w1 p 6 (by omega) hC1).mono ?_
 rintro e w2 ⟨x,rfl,hb,hC2,hF2⟩
 obtain⟨h0,h1⟩:=hb.2 (by omega)
 have hw:IntKind.i64.wrap (x - 1)=x - 1:=IntWalk.i64_in _ (by omega)
 have hE:=hC2.base
 clear hb
 go_wp2_with fail
 go_ret
 exact⟨x - 1,rfl,by omega,by omega,hE⟩
theorem DrawClaimWord_any(v:Value)(l:List Int)(w:World)(h:Byts w v l) :
 Calls Tryz.prog 44 #[v] w fun e w'=>∃x,e=.returned (.int .i64 x) ∧ -1≤x∧x≤8∧Ext w w':=by
 go_enter Tryz.func44,Tryz.ntmps44
 go_wp2_with fail
 refine (l1New_any _ _ w _ h (Ext.refl w)).mono ?_
 rintro e w1 ⟨p,rfl,hC1,hE1,hpZ⟩
 go_wp2_with fail
 refine (l1Below_any w w1 p 10 (by omega) hC1).mono ?_
 rintro e w2 ⟨x,rfl,hb,hC2,hF2⟩
 obtain⟨h0,h1⟩:=hb.2 (by omega)
 have hw:IntKind.i64.wrap (x - 1)=x - 1:=IntWalk.i64_in _ (by omega)
 have hE:=hC2.base
 clear hb
 go_wp2_with fail
 go_ret
 exact⟨x - 1,rfl,by omega,by omega,hE⟩
end Go.Zz
