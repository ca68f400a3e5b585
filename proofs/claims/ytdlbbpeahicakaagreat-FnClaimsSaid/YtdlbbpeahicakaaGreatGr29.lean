/- The draws of maps of Freiman's, and of claims about them. -/
import Derived.Test.YtdlbbpeahicakaaGreatGr28
set_option linter.unusedSimpArgs false
set_option linter.unusedVariables false
set_option linter.unnecessarySimpa false
namespace Go.Zz
open Go.RowKit Go.Proofs
set_option maxHeartbeats 8000000
set_option maxRecDepth 20000
theorem R15.ext{w wr wr':World}{r1 r2 g1 g2:Nat}{u1 u2 V1 V2 sP sQ:Value}{L1 L2 P Q:List Int}(h:R15 w wr r1 r2 g1 g2 u1 u2 V1 L1 V2 L2 sP P sQ Q)(hE:Ext wr wr'):R15 w wr' r1 r2 g1 g2 u1 u2 V1 L1 V2 L2 sP P sQ Q :=
 ⟨h.hP.ext hE,h.hQ.ext hE,h.hV1.ext hE,h.hV2.ext hE,h.R1.ext hE,h.R2.ext hE,h.G1.ext hE,h.G2.ext hE,h.hE.trans hE⟩
theorem DrawFindFreimanIso_any(v:Value)(l:List Int)(w:World)(h:Byts w v l) :
 Calls Tryz.prog 104 #[v] w fun e w'=>∃a1 L1 c1 a2 L2 c2 x0 x1,e=.returned (.tuple #[.agg #[.slice a1 (List.length L1) c1],.agg #[.slice a2 (List.length L2) c2],.int .i64 x0,.int .i64 x1])∧Own 3 w w' (.slice a1 (List.length L1) c1) L1∧Own 3 w w' (.slice a2 (List.length L2) c2) L2∧Ext w w':=by
 have hE0:=((Ext.refl w).alloc (.cells #[.slice none 0 0] 27)).alloc (.cells #[.slice none 0 0] 27)
 have hs1:(w.alloc (.cells #[.slice none 0 0] 27)).heap.size=w.heap.size+1:=by simp
 have hA0:=(Blk.new w 27 #[.slice none 0 0]).alloc (.cells #[.slice none 0 0] 27)
 have hB0:=Blk.new (w.alloc (.cells #[.slice none 0 0] 27)) 27 #[.slice none 0 0]
 rw[hs1] at hB0
 obtain⟨wZ,hwZ⟩:∃x,x=(w.alloc (.cells #[.slice none 0 0] 27)).alloc (.cells #[.slice none 0 0] 27):=⟨_,rfl⟩
 have hsZ:wZ.heap.size=w.heap.size+2:=by rw[hwZ];simp
 rw[←hwZ] at hE0 hA0 hB0
 have HwZ:=Lib.hid hwZ
 clear hwZ hs1
 go_enter Tryz.func104,Tryz.ntmps104
 go_wp2_with fail
 rw[←HwZ.out]
 refine (l15Draw_any _ _ _ (h.ext hE0)).mono ?_
 rintro e w2 ⟨a1,L1,c1,a2,L2,c2,aP,P,cP,aQ,Q,cQ,rfl,hO1,hO2,hIP,hIQ,hE2⟩
 have hs2:=hE2.size
 have e24:=((Ext.refl w2).alloc (.cells #[.slice a1 L1.length c1] 27)).alloc (.cells #[.slice a2 L2.length c2] 27)
 have hs3:(w2.alloc (.cells #[.slice a1 L1.length c1] 27)).heap.size=w2.heap.size+1:=by simp
 have hI0:R15 w ((w2.alloc (.cells #[.slice a1 L1.length c1] 27)).alloc (.cells #[.slice a2 L2.length c2] 27)) w.heap.size (w.heap.size+1) w2.heap.size (w2.heap.size+1) (.slice none 0 0) (.slice none 0 0) (.slice a1 L1.length c1) L1 (.slice a2 L2.length c2) L2 (.slice none 0 0) [] (.slice none 0 0) [] :=
  ⟨own_nil _ _,own_nil _ _,(hO1.low (by omega)).ext e24,(hO2.low (by omega)).ext e24,(hA0.ext hE2).ext e24,(hB0.ext hE2).ext e24,(Blk.new _ _ _).alloc _,by rw[←hs3];exact Blk.new _ _ _,(hE0.trans hE2).trans e24⟩
 have hN:N15 (w2.heap.size+2) w.heap.size (w.heap.size+1) w2.heap.size (w2.heap.size+1):=⟨by omega,by omega,by omega,by omega,by omega,by omega,by omega,by omega,by omega,by omega⟩
 obtain⟨w4,hw4⟩:∃x,x=(w2.alloc (.cells #[.slice a1 L1.length c1] 27)).alloc (.cells #[.slice a2 L2.length c2] 27):=⟨_,rfl⟩
 obtain⟨g,hg⟩:∃g,g=w2.heap.size:=⟨_,rfl⟩
 rw[←hw4,←hg] at hI0
 rw[←hg] at hN
 have Hw4:=Lib.hid hw4
 have Hg:=Lib.hid hg
 have hwg:w.heap.size+2≤g:=by omega
 have hIP4:=hIP.ext e24
 have hIQ4:=hIQ.ext e24
 rw[←hw4] at hIP4 hIQ4
 clear hw4 hg hA0 hB0 hE0 hE2 hO1 hO2 hIP hIQ e24
 have cP:=sSetOf_any _ L1 _ P _ hI0.hV1.ints hIP4
 have l0:=hI0.G1.cell (i:=0) (v:=.slice a1 L1.length c1) rfl
 obtain⟨sa,hsa⟩:∃x,x=soV L1 P:=⟨_,rfl⟩
 obtain⟨ba,hba⟩:∃x,x=soB L1 P:=⟨_,rfl⟩
 obtain⟨sb,hsb⟩:∃x,x=soV L2 Q:=⟨_,rfl⟩
 obtain⟨bb,hbb⟩:∃x,x=soB L2 Q:=⟨_,rfl⟩
 rw[←hsa,←hba] at cP
 go_upto_region 2 with fail
 rw[←Hw4.out,←Hg.out]
 go_wp2_with fail
 refine cP.mono ?_
 rintro e w5 ⟨rfl,hE5⟩
 have hI5:=hI0.ext hE5
 have cQ2:=sSetOf_any _ L2 _ Q _ hI5.hV2.ints (hIQ4.ext hE5)
 have l1:=hI5.G2.cell (i:=0) (v:=.slice a2 L2.length c2) rfl
 rw[←hsb,←hbb] at cQ2
 clear l0 hI0 hIP4 hIQ4 hsa hba hsb hbb
 go_wp2_with fail
 refine cQ2.mono ?_
 rintro e w6 ⟨rfl,hE6⟩
 have hI:=hI5.ext hE6
 clear l1 hI5
 cases ba
 · go_upto_region 6 with fail
   have k1:=hI.G1.cell (i:=0) (v:=.slice a1 L1.length c1) rfl
   have k2:=hI.G2.cell (i:=0) (v:=.slice a2 L2.length c2) rfl
   have s0:=hI.R1.cell (i:=0) (v:=.slice none 0 0) rfl
   have s1:=hI.R2.cell (i:=0) (v:=.slice none 0 0) rfl
   have f0:=hI.R1.free 0
   have f1:=hI.R2.free 0
   have hX1:=hI.set1 hN (Nat.le_refl _) (.slice a1 L1.length c1)
   have hY1:=hX1.set2 hN (by omega) (.slice a2 L2.length c2)
   have s2:=hX1.R2.cell (i:=0) (v:=.slice none 0 0) rfl
   have f2:=hX1.R2.free 0
   have q1:=hX1.R1.cell (i:=0) (v:=.slice a1 L1.length c1) rfl
   have q2:=hY1.R1.cell (i:=0) (v:=.slice a1 L1.length c1) rfl
   have q3:=hY1.R2.cell (i:=0) (v:=.slice a2 L2.length c2) rfl
   refine wp_region_held_drew (S:=(fun W=>W.cell? ⟨g,0,none⟩=some (.slice a1 L1.length c1)∧W.cell? ⟨g+1,0,none⟩=some (.slice a2 L2.length c2))) (by kernel_rfl) (by exact⟨k1,k2⟩) (fun hHeld=>?_)
   (refine takeOn (i:=0) (v:=?_) (by kernel_rfl) (by rfl) (by rfl) (by kernel_rfl) (by kernel_rfl) (by intro _ _ _ h;exact h) ?_ (by assumption) ?_);(rotate_left 1);(focus ((intro w hSw);(try dsimp only at hSw);go_simp;(try with_reducible rfl)));(try simp only[Act.put,List.setIfInBounds_toArray,List.set_cons_zero,List.set_cons_succ,List.getElem_toArray,List.getElem_cons_zero,List.getElem_cons_succ])
   (refine takeOn (i:=1) (v:=?_) (by kernel_rfl) (by rfl) (by rfl) (by kernel_rfl) (by kernel_rfl) (by intro _ _ _ h;exact h) ?_ (by assumption) ?_);(rotate_left 1);(focus ((intro w hSw);(try dsimp only at hSw);go_simp;(try with_reducible rfl)));(try simp only[Act.put,List.setIfInBounds_toArray,List.set_cons_zero,List.set_cons_succ,List.getElem_toArray,List.getElem_cons_zero,List.getElem_cons_succ])
   (refine takeOn (i:=2) (v:=?_) (by kernel_rfl) (by rfl) (by rfl) (by kernel_rfl) (by kernel_rfl) (by intro _ _ _ h;exact h) ?_ (by assumption) ?_);(rotate_left 1);(focus ((intro w hSw);(try dsimp only at hSw);go_simp;(try with_reducible rfl)));(try simp only[Act.put,List.setIfInBounds_toArray,List.set_cons_zero,List.set_cons_succ,List.getElem_toArray,List.getElem_cons_zero,List.getElem_cons_succ])
   refine takeOne (i:=3) (by kernel_rfl) (by rfl) (by rfl) (fun K hK=>?_)
   go_simp
   refine hK.out _ _ (by first | exact⟨k1,k2⟩ | exact⟨hX1.G1.cell (i:=0) (v:=.slice a1 L1.length c1) rfl,hX1.G2.cell (i:=0) (v:=.slice a2 L2.length c2) rfl⟩ | exact⟨hY1.G1.cell (i:=0) (v:=.slice a1 L1.length c1) rfl,hY1.G2.cell (i:=0) (v:=.slice a2 L2.length c2) rfl⟩) (fun hHeld=>?_)
   clear hK K
   (try simp only[Act.put,List.setIfInBounds_toArray,List.set_cons_zero,List.set_cons_succ,List.getElem_toArray,List.getElem_cons_zero,List.getElem_cons_succ])
   refine takeOne (i:=4) (by kernel_rfl) (by rfl) (by rfl) (fun K hK=>?_)
   go_simp
   refine hK.out _ _ (by first | exact⟨k1,k2⟩ | exact⟨hX1.G1.cell (i:=0) (v:=.slice a1 L1.length c1) rfl,hX1.G2.cell (i:=0) (v:=.slice a2 L2.length c2) rfl⟩ | exact⟨hY1.G1.cell (i:=0) (v:=.slice a1 L1.length c1) rfl,hY1.G2.cell (i:=0) (v:=.slice a2 L2.length c2) rfl⟩) (fun hHeld=>?_)
   clear hK K
   (try simp only[Act.put,List.setIfInBounds_toArray,List.set_cons_zero,List.set_cons_succ,List.getElem_toArray,List.getElem_cons_zero,List.getElem_cons_succ])
   (refine takeOn (i:=5) (v:=?_) (by kernel_rfl) (by rfl) (by rfl) (by kernel_rfl) (by kernel_rfl) (by intro _ _ _ h;exact h) ?_ (by assumption) ?_);(rotate_left 1);(focus ((intro w hSw);(try dsimp only at hSw);go_simp;(try with_reducible rfl)));(try simp only[Act.put,List.setIfInBounds_toArray,List.set_cons_zero,List.set_cons_succ,List.getElem_toArray,List.getElem_cons_zero,List.getElem_cons_succ])
   (refine takeOn (i:=6) (v:=?_) (by kernel_rfl) (by rfl) (by rfl) (by kernel_rfl) (by kernel_rfl) (by intro _ _ _ h;exact h) ?_ (by assumption) ?_);(rotate_left 1);(focus ((intro w hSw);(try dsimp only at hSw);go_simp;(try with_reducible rfl)));(try simp only[Act.put,List.setIfInBounds_toArray,List.set_cons_zero,List.set_cons_succ,List.getElem_toArray,List.getElem_cons_zero,List.getElem_cons_succ])
   refine wpAnyH_done (by kernel_rfl) ?_ _
   go_wp2_with fail
   refine bodyPost_ret (v:=.tuple #[.agg #[.slice a1 L1.length c1],.agg #[.slice a2 L2.length c2],.int .i64 sa,.int .i64 3]) ?_ rfl ?_
   · simp[results,Tryz.results104,go_sem,q1,q2,q3]
   · exact⟨_,L1,_,_,L2,_,sa,3,rfl,hY1.drew.hV1,hY1.drew.hV2,hY1.drew.hE⟩
 · cases bb
   · go_upto_region 6 with fail
     have k1:=hI.G1.cell (i:=0) (v:=.slice a1 L1.length c1) rfl
     have k2:=hI.G2.cell (i:=0) (v:=.slice a2 L2.length c2) rfl
     have s0:=hI.R1.cell (i:=0) (v:=.slice none 0 0) rfl
     have s1:=hI.R2.cell (i:=0) (v:=.slice none 0 0) rfl
     have f0:=hI.R1.free 0
     have f1:=hI.R2.free 0
     have hX1:=hI.set1 hN (Nat.le_refl _) (.slice a1 L1.length c1)
     have hY1:=hX1.set2 hN (by omega) (.slice a2 L2.length c2)
     have s2:=hX1.R2.cell (i:=0) (v:=.slice none 0 0) rfl
     have f2:=hX1.R2.free 0
     have q1:=hX1.R1.cell (i:=0) (v:=.slice a1 L1.length c1) rfl
     have q2:=hY1.R1.cell (i:=0) (v:=.slice a1 L1.length c1) rfl
     have q3:=hY1.R2.cell (i:=0) (v:=.slice a2 L2.length c2) rfl
     refine wp_region_held_drew (S:=(fun W=>W.cell? ⟨g,0,none⟩=some (.slice a1 L1.length c1)∧W.cell? ⟨g+1,0,none⟩=some (.slice a2 L2.length c2))) (by kernel_rfl) (by exact⟨k1,k2⟩) (fun hHeld=>?_)
     (refine takeOn (i:=0) (v:=?_) (by kernel_rfl) (by rfl) (by rfl) (by kernel_rfl) (by kernel_rfl) (by intro _ _ _ h;exact h) ?_ (by assumption) ?_);(rotate_left 1);(focus ((intro w hSw);(try dsimp only at hSw);go_simp;(try with_reducible rfl)));(try simp only[Act.put,List.setIfInBounds_toArray,List.set_cons_zero,List.set_cons_succ,List.getElem_toArray,List.getElem_cons_zero,List.getElem_cons_succ])
     (refine takeOn (i:=1) (v:=?_) (by kernel_rfl) (by rfl) (by rfl) (by kernel_rfl) (by kernel_rfl) (by intro _ _ _ h;exact h) ?_ (by assumption) ?_);(rotate_left 1);(focus ((intro w hSw);(try dsimp only at hSw);go_simp;(try with_reducible rfl)));(try simp only[Act.put,List.setIfInBounds_toArray,List.set_cons_zero,List.set_cons_succ,List.getElem_toArray,List.getElem_cons_zero,List.getElem_cons_succ])
     (refine takeOn (i:=2) (v:=?_) (by kernel_rfl) (by rfl) (by rfl) (by kernel_rfl) (by kernel_rfl) (by intro _ _ _ h;exact h) ?_ (by assumption) ?_);(rotate_left 1);(focus ((intro w hSw);(try dsimp only at hSw);go_simp;(try with_reducible rfl)));(try simp only[Act.put,List.setIfInBounds_toArray,List.set_cons_zero,List.set_cons_succ,List.getElem_toArray,List.getElem_cons_zero,List.getElem_cons_succ])
     refine takeOne (i:=3) (by kernel_rfl) (by rfl) (by rfl) (fun K hK=>?_)
     go_simp
     refine hK.out _ _ (by first | exact⟨k1,k2⟩ | exact⟨hX1.G1.cell (i:=0) (v:=.slice a1 L1.length c1) rfl,hX1.G2.cell (i:=0) (v:=.slice a2 L2.length c2) rfl⟩ | exact⟨hY1.G1.cell (i:=0) (v:=.slice a1 L1.length c1) rfl,hY1.G2.cell (i:=0) (v:=.slice a2 L2.length c2) rfl⟩) (fun hHeld=>?_)
     clear hK K
     (try simp only[Act.put,List.setIfInBounds_toArray,List.set_cons_zero,List.set_cons_succ,List.getElem_toArray,List.getElem_cons_zero,List.getElem_cons_succ])
     refine takeOne (i:=4) (by kernel_rfl) (by rfl) (by rfl) (fun K hK=>?_)
     go_simp
     refine hK.out _ _ (by first | exact⟨k1,k2⟩ | exact⟨hX1.G1.cell (i:=0) (v:=.slice a1 L1.length c1) rfl,hX1.G2.cell (i:=0) (v:=.slice a2 L2.length c2) rfl⟩ | exact⟨hY1.G1.cell (i:=0) (v:=.slice a1 L1.length c1) rfl,hY1.G2.cell (i:=0) (v:=.slice a2 L2.length c2) rfl⟩) (fun hHeld=>?_)
     clear hK K
     (try simp only[Act.put,List.setIfInBounds_toArray,List.set_cons_zero,List.set_cons_succ,List.getElem_toArray,List.getElem_cons_zero,List.getElem_cons_succ])
     (refine takeOn (i:=5) (v:=?_) (by kernel_rfl) (by rfl) (by rfl) (by kernel_rfl) (by kernel_rfl) (by intro _ _ _ h;exact h) ?_ (by assumption) ?_);(rotate_left 1);(focus ((intro w hSw);(try dsimp only at hSw);go_simp;(try with_reducible rfl)));(try simp only[Act.put,List.setIfInBounds_toArray,List.set_cons_zero,List.set_cons_succ,List.getElem_toArray,List.getElem_cons_zero,List.getElem_cons_succ])
     (refine takeOn (i:=6) (v:=?_) (by kernel_rfl) (by rfl) (by rfl) (by kernel_rfl) (by kernel_rfl) (by intro _ _ _ h;exact h) ?_ (by assumption) ?_);(rotate_left 1);(focus ((intro w hSw);(try dsimp only at hSw);go_simp;(try with_reducible rfl)));(try simp only[Act.put,List.setIfInBounds_toArray,List.set_cons_zero,List.set_cons_succ,List.getElem_toArray,List.getElem_cons_zero,List.getElem_cons_succ])
     refine wpAnyH_done (by kernel_rfl) ?_ _
     go_wp2_with fail
     refine bodyPost_ret (v:=.tuple #[.agg #[.slice a1 L1.length c1],.agg #[.slice a2 L2.length c2],.int .i64 sa,.int .i64 3]) ?_ rfl ?_
     · simp[results,Tryz.results104,go_sem,q1,q2,q3]
     · exact⟨_,L1,_,_,L2,_,sa,3,rfl,hY1.drew.hV1,hY1.drew.hV2,hY1.drew.hE⟩
   · go_upto_region 5 with fail
     have k1:=hI.G1.cell (i:=0) (v:=.slice a1 L1.length c1) rfl
     have k2:=hI.G2.cell (i:=0) (v:=.slice a2 L2.length c2) rfl
     have s0:=hI.R1.cell (i:=0) (v:=.slice none 0 0) rfl
     have s1:=hI.R2.cell (i:=0) (v:=.slice none 0 0) rfl
     have f0:=hI.R1.free 0
     have f1:=hI.R2.free 0
     have hX1:=hI.set1 hN (Nat.le_refl _) (.slice a1 L1.length c1)
     have hY1:=hX1.set2 hN (by omega) (.slice a2 L2.length c2)
     have s2:=hX1.R2.cell (i:=0) (v:=.slice none 0 0) rfl
     have f2:=hX1.R2.free 0
     have q1:=hX1.R1.cell (i:=0) (v:=.slice a1 L1.length c1) rfl
     have q2:=hY1.R1.cell (i:=0) (v:=.slice a1 L1.length c1) rfl
     have q3:=hY1.R2.cell (i:=0) (v:=.slice a2 L2.length c2) rfl
     refine wp_region_held_drew (S:=(fun W=>W.cell? ⟨g,0,none⟩=some (.slice a1 L1.length c1)∧W.cell? ⟨g+1,0,none⟩=some (.slice a2 L2.length c2))) (by kernel_rfl) (by exact⟨k1,k2⟩) (fun hHeld=>?_)
     (refine takeOn (i:=0) (v:=?_) (by kernel_rfl) (by rfl) (by rfl) (by kernel_rfl) (by kernel_rfl) (by intro _ _ _ h;exact h) ?_ (by assumption) ?_);(rotate_left 1);(focus ((intro w hSw);(try dsimp only at hSw);go_simp;(try with_reducible rfl)));(try simp only[Act.put,List.setIfInBounds_toArray,List.set_cons_zero,List.set_cons_succ,List.getElem_toArray,List.getElem_cons_zero,List.getElem_cons_succ])
     (refine takeOn (i:=1) (v:=?_) (by kernel_rfl) (by rfl) (by rfl) (by kernel_rfl) (by kernel_rfl) (by intro _ _ _ h;exact h) ?_ (by assumption) ?_);(rotate_left 1);(focus ((intro w hSw);(try dsimp only at hSw);go_simp;(try with_reducible rfl)));(try simp only[Act.put,List.setIfInBounds_toArray,List.set_cons_zero,List.set_cons_succ,List.getElem_toArray,List.getElem_cons_zero,List.getElem_cons_succ])
     (refine takeOn (i:=2) (v:=?_) (by kernel_rfl) (by rfl) (by rfl) (by kernel_rfl) (by kernel_rfl) (by intro _ _ _ h;exact h) ?_ (by assumption) ?_);(rotate_left 1);(focus ((intro w hSw);(try dsimp only at hSw);go_simp;(try with_reducible rfl)));(try simp only[Act.put,List.setIfInBounds_toArray,List.set_cons_zero,List.set_cons_succ,List.getElem_toArray,List.getElem_cons_zero,List.getElem_cons_succ])
     (refine takeOn (i:=3) (v:=?_) (by kernel_rfl) (by rfl) (by rfl) (by kernel_rfl) (by kernel_rfl) (by intro _ _ _ h;exact h) ?_ (by assumption) ?_);(rotate_left 1);(focus ((intro w hSw);(try dsimp only at hSw);go_simp;(try with_reducible rfl)));(try simp only[Act.put,List.setIfInBounds_toArray,List.set_cons_zero,List.set_cons_succ,List.getElem_toArray,List.getElem_cons_zero,List.getElem_cons_succ])
     refine takeOne (i:=4) (by kernel_rfl) (by rfl) (by rfl) (fun K hK=>?_)
     go_simp
     refine hK.out _ _ (by first | exact⟨k1,k2⟩ | exact⟨hX1.G1.cell (i:=0) (v:=.slice a1 L1.length c1) rfl,hX1.G2.cell (i:=0) (v:=.slice a2 L2.length c2) rfl⟩ | exact⟨hY1.G1.cell (i:=0) (v:=.slice a1 L1.length c1) rfl,hY1.G2.cell (i:=0) (v:=.slice a2 L2.length c2) rfl⟩) (fun hHeld=>?_)
     clear hK K
     (try simp only[Act.put,List.setIfInBounds_toArray,List.set_cons_zero,List.set_cons_succ,List.getElem_toArray,List.getElem_cons_zero,List.getElem_cons_succ])
     refine takeOne (i:=5) (by kernel_rfl) (by rfl) (by rfl) (fun K hK=>?_)
     go_simp
     refine hK.out _ _ (by first | exact⟨k1,k2⟩ | exact⟨hX1.G1.cell (i:=0) (v:=.slice a1 L1.length c1) rfl,hX1.G2.cell (i:=0) (v:=.slice a2 L2.length c2) rfl⟩ | exact⟨hY1.G1.cell (i:=0) (v:=.slice a1 L1.length c1) rfl,hY1.G2.cell (i:=0) (v:=.slice a2 L2.length c2) rfl⟩) (fun hHeld=>?_)
     clear hK K
     (try simp only[Act.put,List.setIfInBounds_toArray,List.set_cons_zero,List.set_cons_succ,List.getElem_toArray,List.getElem_cons_zero,List.getElem_cons_succ])
     (refine takeOn (i:=6) (v:=?_) (by kernel_rfl) (by rfl) (by rfl) (by kernel_rfl) (by kernel_rfl) (by intro _ _ _ h;exact h) ?_ (by assumption) ?_);(rotate_left 1);(focus ((intro w hSw);(try dsimp only at hSw);go_simp;(try with_reducible rfl)));(try simp only[Act.put,List.setIfInBounds_toArray,List.set_cons_zero,List.set_cons_succ,List.getElem_toArray,List.getElem_cons_zero,List.getElem_cons_succ])
     (refine takeOn (i:=7) (v:=?_) (by kernel_rfl) (by rfl) (by rfl) (by kernel_rfl) (by kernel_rfl) (by intro _ _ _ h;exact h) ?_ (by assumption) ?_);(rotate_left 1);(focus ((intro w hSw);(try dsimp only at hSw);go_simp;(try with_reducible rfl)));(try simp only[Act.put,List.setIfInBounds_toArray,List.set_cons_zero,List.set_cons_succ,List.getElem_toArray,List.getElem_cons_zero,List.getElem_cons_succ])
     refine wpAnyH_done (by kernel_rfl) ?_ _
     go_wp2_with fail
     refine bodyPost_ret (v:=.tuple #[.agg #[.slice a1 L1.length c1],.agg #[.slice a2 L2.length c2],.int .i64 sa,.int .i64 sb]) ?_ rfl ?_
     · simp[results,Tryz.results104,go_sem,q1,q2,q3]
     · exact⟨_,L1,_,_,L2,_,sa,sb,rfl,hY1.drew.hV1,hY1.drew.hV2,hY1.drew.hE⟩
theorem DrawClaimOfAlike_any(v:Value)(l:List Int)(w:World)(h:Byts w v l) :
 Calls Tryz.prog 25 #[v] w fun e w'=>∃a1 L1 c1 a2 L2 c2 x0 x1,e=.returned (.tuple #[.agg #[.slice a1 (List.length L1) c1],.agg #[.slice a2 (List.length L2) c2],.int .i64 x0,.int .i64 x1])∧Own 3 w w' (.slice a1 (List.length L1) c1) L1∧Own 3 w w' (.slice a2 (List.length L2) c2) L2∧Ext w w':=by
 have hE0:=((Ext.refl w).alloc (.cells #[.slice none 0 0] 27)).alloc (.cells #[.slice none 0 0] 27)
 have hs1:(w.alloc (.cells #[.slice none 0 0] 27)).heap.size=w.heap.size+1:=by simp
 have hA0:=(Blk.new w 27 #[.slice none 0 0]).alloc (.cells #[.slice none 0 0] 27)
 have hB0:=Blk.new (w.alloc (.cells #[.slice none 0 0] 27)) 27 #[.slice none 0 0]
 rw[hs1] at hB0
 obtain⟨wZ,hwZ⟩:∃x,x=(w.alloc (.cells #[.slice none 0 0] 27)).alloc (.cells #[.slice none 0 0] 27):=⟨_,rfl⟩
 have hsZ:wZ.heap.size=w.heap.size+2:=by rw[hwZ];simp
 rw[←hwZ] at hE0 hA0 hB0
 have HwZ:=Lib.hid hwZ
 clear hwZ hs1
 go_enter Tryz.func25,Tryz.ntmps25
 go_wp2_with fail
 rw[←HwZ.out]
 refine (DrawFindFreimanIso_any _ _ _ (h.ext hE0)).mono ?_
 rintro e w2 ⟨a1,L1,c1,a2,L2,c2,x0,x1,rfl,hO1,hO2,hE2⟩
 have hs2:=hE2.size
 have e24:=((Ext.refl w2).alloc (.cells #[.slice a1 L1.length c1] 27)).alloc (.cells #[.slice a2 L2.length c2] 27)
 have hs3:(w2.alloc (.cells #[.slice a1 L1.length c1] 27)).heap.size=w2.heap.size+1:=by simp
 have hI0:R15 w ((w2.alloc (.cells #[.slice a1 L1.length c1] 27)).alloc (.cells #[.slice a2 L2.length c2] 27)) w.heap.size (w.heap.size+1) w2.heap.size (w2.heap.size+1) (.slice none 0 0) (.slice none 0 0) (.slice a1 L1.length c1) L1 (.slice a2 L2.length c2) L2 (.slice none 0 0) [] (.slice none 0 0) [] :=
  ⟨own_nil _ _,own_nil _ _,(hO1.low (by omega)).ext e24,(hO2.low (by omega)).ext e24,(hA0.ext hE2).ext e24,(hB0.ext hE2).ext e24,(Blk.new _ _ _).alloc _,by rw[←hs3];exact Blk.new _ _ _,(hE0.trans hE2).trans e24⟩
 have hN:N15 (w2.heap.size+2) w.heap.size (w.heap.size+1) w2.heap.size (w2.heap.size+1):=⟨by omega,by omega,by omega,by omega,by omega,by omega,by omega,by omega,by omega,by omega⟩
 obtain⟨w4,hw4⟩:∃x,x=(w2.alloc (.cells #[.slice a1 L1.length c1] 27)).alloc (.cells #[.slice a2 L2.length c2] 27):=⟨_,rfl⟩
 obtain⟨g,hg⟩:∃g,g=w2.heap.size:=⟨_,rfl⟩
 rw[←hw4,←hg] at hI0
 rw[←hg] at hN
 have Hw4:=Lib.hid hw4
 have Hg:=Lib.hid hg
 have hwg:w.heap.size+2≤g:=by omega
 clear hw4 hg hA0 hB0 hE0 hE2 hO1 hO2 e24
 go_upto_region 2 with fail
 rw[←Hw4.out,←Hg.out]
 have k1:=hI0.G1.cell (i:=0) (v:=.slice a1 L1.length c1) rfl
 have k2:=hI0.G2.cell (i:=0) (v:=.slice a2 L2.length c2) rfl
 have s0:=hI0.R1.cell (i:=0) (v:=.slice none 0 0) rfl
 have s1:=hI0.R2.cell (i:=0) (v:=.slice none 0 0) rfl
 have f0:=hI0.R1.free 0
 have f1:=hI0.R2.free 0
 have hX1:=hI0.set1 hN (Nat.le_refl _) (.slice a1 L1.length c1)
 have hY1:=hX1.set2 hN (by omega) (.slice a2 L2.length c2)
 have s2:=hX1.R2.cell (i:=0) (v:=.slice none 0 0) rfl
 have f2:=hX1.R2.free 0
 have q1:=hX1.R1.cell (i:=0) (v:=.slice a1 L1.length c1) rfl
 have q2:=hY1.R1.cell (i:=0) (v:=.slice a1 L1.length c1) rfl
 have q3:=hY1.R2.cell (i:=0) (v:=.slice a2 L2.length c2) rfl
 refine wp_region_held_drew (S:=(fun W=>W.cell? ⟨g,0,none⟩=some (.slice a1 L1.length c1)∧W.cell? ⟨g+1,0,none⟩=some (.slice a2 L2.length c2))) (by kernel_rfl) (by exact⟨k1,k2⟩) (fun hHeld=>?_)
 (refine takeOn (i:=0) (v:=?_) (by kernel_rfl) (by rfl) (by rfl) (by kernel_rfl) (by kernel_rfl) (by intro _ _ _ h;exact h) ?_ (by assumption) ?_);(rotate_left 1);(focus ((intro w hSw);(try dsimp only at hSw);go_simp;(try with_reducible rfl)));(try simp only[Act.put,List.setIfInBounds_toArray,List.set_cons_zero,List.set_cons_succ,List.getElem_toArray,List.getElem_cons_zero,List.getElem_cons_succ])
 (refine takeOn (i:=1) (v:=?_) (by kernel_rfl) (by rfl) (by rfl) (by kernel_rfl) (by kernel_rfl) (by intro _ _ _ h;exact h) ?_ (by assumption) ?_);(rotate_left 1);(focus ((intro w hSw);(try dsimp only at hSw);go_simp;(try with_reducible rfl)));(try simp only[Act.put,List.setIfInBounds_toArray,List.set_cons_zero,List.set_cons_succ,List.getElem_toArray,List.getElem_cons_zero,List.getElem_cons_succ])
 (refine takeOn (i:=2) (v:=?_) (by kernel_rfl) (by rfl) (by rfl) (by kernel_rfl) (by kernel_rfl) (by intro _ _ _ h;exact h) ?_ (by assumption) ?_);(rotate_left 1);(focus ((intro w hSw);(try dsimp only at hSw);go_simp;(try with_reducible rfl)));(try simp only[Act.put,List.setIfInBounds_toArray,List.set_cons_zero,List.set_cons_succ,List.getElem_toArray,List.getElem_cons_zero,List.getElem_cons_succ])
 (refine takeOn (i:=3) (v:=?_) (by kernel_rfl) (by rfl) (by rfl) (by kernel_rfl) (by kernel_rfl) (by intro _ _ _ h;exact h) ?_ (by assumption) ?_);(rotate_left 1);(focus ((intro w hSw);(try dsimp only at hSw);go_simp;(try with_reducible rfl)));(try simp only[Act.put,List.setIfInBounds_toArray,List.set_cons_zero,List.set_cons_succ,List.getElem_toArray,List.getElem_cons_zero,List.getElem_cons_succ])
 refine takeOne (i:=4) (by kernel_rfl) (by rfl) (by rfl) (fun K hK=>?_)
 go_simp
 refine hK.out _ _ (by first | exact⟨k1,k2⟩ | exact⟨hX1.G1.cell (i:=0) (v:=.slice a1 L1.length c1) rfl,hX1.G2.cell (i:=0) (v:=.slice a2 L2.length c2) rfl⟩ | exact⟨hY1.G1.cell (i:=0) (v:=.slice a1 L1.length c1) rfl,hY1.G2.cell (i:=0) (v:=.slice a2 L2.length c2) rfl⟩) (fun hHeld=>?_)
 clear hK K
 (try simp only[Act.put,List.setIfInBounds_toArray,List.set_cons_zero,List.set_cons_succ,List.getElem_toArray,List.getElem_cons_zero,List.getElem_cons_succ])
 refine takeOne (i:=5) (by kernel_rfl) (by rfl) (by rfl) (fun K hK=>?_)
 go_simp
 refine hK.out _ _ (by first | exact⟨k1,k2⟩ | exact⟨hX1.G1.cell (i:=0) (v:=.slice a1 L1.length c1) rfl,hX1.G2.cell (i:=0) (v:=.slice a2 L2.length c2) rfl⟩ | exact⟨hY1.G1.cell (i:=0) (v:=.slice a1 L1.length c1) rfl,hY1.G2.cell (i:=0) (v:=.slice a2 L2.length c2) rfl⟩) (fun hHeld=>?_)
 clear hK K
 (try simp only[Act.put,List.setIfInBounds_toArray,List.set_cons_zero,List.set_cons_succ,List.getElem_toArray,List.getElem_cons_zero,List.getElem_cons_succ])
 (refine takeOn (i:=6) (v:=?_) (by kernel_rfl) (by rfl) (by rfl) (by kernel_rfl) (by kernel_rfl) (by intro _ _ _ h;exact h) ?_ (by assumption) ?_);(rotate_left 1);(focus ((intro w hSw);(try dsimp only at hSw);go_simp;(try with_reducible rfl)));(try simp only[Act.put,List.setIfInBounds_toArray,List.set_cons_zero,List.set_cons_succ,List.getElem_toArray,List.getElem_cons_zero,List.getElem_cons_succ])
 (refine takeOn (i:=7) (v:=?_) (by kernel_rfl) (by rfl) (by rfl) (by kernel_rfl) (by kernel_rfl) (by intro _ _ _ h;exact h) ?_ (by assumption) ?_);(rotate_left 1);(focus ((intro w hSw);(try dsimp only at hSw);go_simp;(try with_reducible rfl)));(try simp only[Act.put,List.setIfInBounds_toArray,List.set_cons_zero,List.set_cons_succ,List.getElem_toArray,List.getElem_cons_zero,List.getElem_cons_succ])
 refine wpAnyH_done (by kernel_rfl) ?_ _
 go_wp2_with fail
 refine bodyPost_ret (v:=.tuple #[.agg #[.slice a1 L1.length c1],.agg #[.slice a2 L2.length c2],.int .i64 x0,.int .i64 x1]) ?_ rfl ?_
 · simp[results,Tryz.results25,go_sem,q1,q2,q3]
 · exact⟨_,L1,_,_,L2,_,x0,x1,rfl,hY1.drew.hV1,hY1.drew.hV2,hY1.drew.hE⟩
end Go.Zz
