/- The drawing of two groups and two sequences of equal length. -/
import Derived.Test.YtdlbbpeahicakaaGreatGr27
import Derived.Test.YtdlbbpeahicakaaGreatGr9
import Derived.Test.YtdlbbpeahicakaaGreatGr7
import Derived.Test.YtdlbbpeahicakaaGreatGr3
set_option linter.unusedSimpArgs false
set_option linter.unusedVariables false
set_option linter.unnecessarySimpa false
namespace Go.Zz
open Go.RowKit Go.Proofs
set_option maxHeartbeats 8000000
set_option maxRecDepth 20000
theorem Own.put{w0 w:World}{g n c:Nat}{l:List Int}{i:Nat}(h:Own 3 w0 w (.slice (some ⟨g,0,none⟩) n c) l)(hn:l.length=n)(hi:i<n)(y:Int):Own 3 w0 (w.setCell ⟨g,i,none⟩ (.int .i64 y)) (.slice (some ⟨g,0,none⟩) n c) (l.set i y):=by
 obtain⟨⟨h1,h2⟩,h3⟩:=h
 rcases h2 with ⟨hv,hz⟩ | ⟨g',cap,cur,hv,hg,hh,hnc,hcm,hcs,htk⟩
 · cases hv
 · simp only[Value.slice.injEq,Option.some.injEq,Addr.mk.injEq,and_true] at hv
   obtain⟨rfl,hn2,rfl⟩:=hv
   have hB:Blk w g 3 cur:=hh
   refine⟨⟨by simpa using h1,Or.inr ⟨g,c,cur.setIfInBounds i (.int .i64 y),by rw[List.length_set,hn],hg,hB.set i _,by rw[List.length_set];exact hnc,hcm,by simpa using hcs,?_⟩⟩,by rw[List.length_set];exact h3⟩
   rw[List.length_set,List.map_set,←htk]
   simp[List.take_set]
structure L15(w wA wr:World)(p r1 r2 g1 g2 B:Nat)(V1:Value)(L1:List Int)(V2:Value)(L2:List Int)(sP:Value)(P:List Int)(sQ:Value)(Q:List Int):Prop where
 hP:Own 3 w wr sP P
 hQ:Own 3 w wr sQ Q
 pq:sP.ownBlock=none∨sP.ownBlock≠sQ.ownBlock
 bP:∀k,sP.ownBlock=some k→B≤k
 bQ:∀k,sQ.ownBlock=some k→B≤k
 hV1:Own 3 wA wr V1 L1
 hV2:Own 3 wA wr V2 L2
 b1:∀k,V1.ownBlock=some k→k<B
 b2:∀k,V2.ownBlock=some k→k<B
 R1:Blk wr r1 27 #[.slice none 0 0]
 R2:Blk wr r2 27 #[.slice none 0 0]
 G1:Blk wr g1 27 #[V1]
 G2:Blk wr g2 27 #[V2]
 hC:Cur w wr p
 sz:B≤wr.heap.size
structure N15(p r1 r2 g1 g2:Nat):Prop where
 n1:r1≠p
 n2:r2≠p
 n3:g1≠p
 n4:g2≠p
 n5:g1≠g2
 n6:g1≠r1
 n7:g1≠r2
 n8:g2≠r1
 n9:g2≠r2
 n10:r1≠r2
theorem L15.drw{w wA wr wr':World}{p r1 r2 g1 g2 B:Nat}{V1 V2 sP sQ:Value}{L1 L2 P Q:List Int}(h:L15 w wA wr p r1 r2 g1 g2 B V1 L1 V2 L2 sP P sQ Q)(n:N15 p r1 r2 g1 g2)(hF:Drw p wr wr')(hC:Cur w wr' p):L15 w wA wr' p r1 r2 g1 g2 B V1 L1 V2 L2 sP P sQ Q :=
 ⟨Fr.own hF h.hP (h.hC.nb h.hP) (by cases sP.ownBlock<;>simp),Fr.own hF h.hQ (h.hC.nb h.hQ) (by cases sQ.ownBlock<;>simp),h.pq,h.bP,h.bQ,Fr.own hF h.hV1 (h.hC.nb h.hV1) (by cases V1.ownBlock<;>simp),Fr.own hF h.hV2 (h.hC.nb h.hV2) (by cases V2.ownBlock<;>simp),h.b1,h.b2,hF.blk h.R1 n.n1,hF.blk h.R2 n.n2,hF.blk h.G1 n.n3,hF.blk h.G2 n.n4,hC,Nat.le_trans h.sz hF.size⟩
theorem L15.ext{w wA wr wr':World}{p r1 r2 g1 g2 B:Nat}{V1 V2 sP sQ:Value}{L1 L2 P Q:List Int}(h:L15 w wA wr p r1 r2 g1 g2 B V1 L1 V2 L2 sP P sQ Q)(hE:Ext wr wr'):L15 w wA wr' p r1 r2 g1 g2 B V1 L1 V2 L2 sP P sQ Q :=
 ⟨h.hP.ext hE,h.hQ.ext hE,h.pq,h.bP,h.bQ,h.hV1.ext hE,h.hV2.ext hE,h.b1,h.b2,h.R1.ext hE,h.R2.ext hE,h.G1.ext hE,h.G2.ext hE,h.hC.ext hE,Nat.le_trans h.sz hE.size⟩
theorem low_ne{V s:Value}{B:Nat}(h:∀k,V.ownBlock=some k→k<B)(k:∀k,s.ownBlock=some k→B≤k):V.ownBlock=none∨V.ownBlock≠s.ownBlock:=by
 cases e:V.ownBlock with
 | none=>exact Or.inl rfl
 | some b=>exact Or.inr fun e2=>by have:=h b e;have:=k b e2.symm;omega
theorem nw_low{s s':Value}{W:World}{B:Nat}(hN:Nw s.ownBlock W s'.ownBlock)(h:∀k,s.ownBlock=some k→B≤k)(hs:B≤W.heap.size):∀k,s'.ownBlock=some k→B≤k:=fun k hk=>by
 rcases hN with hN | hN
 · exact h k (by rw[←hN];exact hk)
 · exact Nat.le_trans hs (hN k hk)
theorem L15.appP{w wA wr wr':World}{p r1 r2 g1 g2 B:Nat}{V1 V2 sP sQ:Value}{L1 L2 P Q:List Int}{sP':Value}{P':List Int}(h:L15 w wA wr p r1 r2 g1 g2 B V1 L1 V2 L2 sP P sQ Q)(hO:Own 3 w wr' sP' P')(hG:wr.grownBy wr' sP.ownBlock)(hN:Nw sP.ownBlock wr sP'.ownBlock):L15 w wA wr' p r1 r2 g1 g2 B V1 L1 V2 L2 sP' P' sQ Q :=
 ⟨hO,h.hQ.kept hG (none_sym h.pq),none_sym (nw_ne hN (none_sym h.pq) (fun k hk=>(h.hQ.blk k hk).2)),nw_low hN h.bP h.sz,h.bQ,h.hV1.kept hG (low_ne h.b1 h.bP),h.hV2.kept hG (low_ne h.b2 h.bP),h.b1,h.b2,
  h.R1.grown hG (fun k hk e=>h.hP.ne_blk h.R1 (by decide) (by rw[hk,e])),h.R2.grown hG (fun k hk e=>h.hP.ne_blk h.R2 (by decide) (by rw[hk,e])),h.G1.grown hG (fun k hk e=>h.hP.ne_blk h.G1 (by decide) (by rw[hk,e])),h.G2.grown hG (fun k hk e=>h.hP.ne_blk h.G2 (by decide) (by rw[hk,e])),h.hC.grown hG (h.hC.nb h.hP) (fun k hk=>(h.hP.blk k hk).1),Nat.le_trans h.sz hG.size⟩
theorem L15.appQ{w wA wr wr':World}{p r1 r2 g1 g2 B:Nat}{V1 V2 sP sQ:Value}{L1 L2 P Q:List Int}{sQ':Value}{Q':List Int}(h:L15 w wA wr p r1 r2 g1 g2 B V1 L1 V2 L2 sP P sQ Q)(hO:Own 3 w wr' sQ' Q')(hG:wr.grownBy wr' sQ.ownBlock)(hN:Nw sQ.ownBlock wr sQ'.ownBlock):L15 w wA wr' p r1 r2 g1 g2 B V1 L1 V2 L2 sP P sQ' Q' :=
 ⟨h.hP.kept hG h.pq,hO,nw_ne hN h.pq (fun k hk=>(h.hP.blk k hk).2),h.bP,nw_low hN h.bQ h.sz,h.hV1.kept hG (low_ne h.b1 h.bQ),h.hV2.kept hG (low_ne h.b2 h.bQ),h.b1,h.b2,
  h.R1.grown hG (fun k hk e=>h.hQ.ne_blk h.R1 (by decide) (by rw[hk,e])),h.R2.grown hG (fun k hk e=>h.hQ.ne_blk h.R2 (by decide) (by rw[hk,e])),h.G1.grown hG (fun k hk e=>h.hQ.ne_blk h.G1 (by decide) (by rw[hk,e])),h.G2.grown hG (fun k hk e=>h.hQ.ne_blk h.G2 (by decide) (by rw[hk,e])),h.hC.grown hG (h.hC.nb h.hQ) (fun k hk=>(h.hQ.blk k hk).1),Nat.le_trans h.sz hG.size⟩
theorem L15.same{w wA wr:World}{p r1 r2 g1 g2 B:Nat}{V1 V2 sP sQ:Value}{L1 L2 P Q:List Int}(h:L15 w wA wr p r1 r2 g1 g2 B V1 L1 V2 L2 sP P sQ Q)(n:N15 p r1 r2 g1 g2)(hw:w.heap.size≤g2):L15 w wA (wr.setCell ⟨g2,0,none⟩ V1) p r1 r2 g1 g2 B V1 L1 V1 L1 sP P sQ Q :=
 ⟨h.hP.setCell_ne (p:=⟨g2,0,none⟩) (h.hP.ne_blk h.G2 (by decide)) _,h.hQ.setCell_ne (p:=⟨g2,0,none⟩) (h.hQ.ne_blk h.G2 (by decide)) _,h.pq,h.bP,h.bQ,h.hV1.setCell_ne (p:=⟨g2,0,none⟩) (h.hV1.ne_blk h.G2 (by decide)) _,h.hV1.setCell_ne (p:=⟨g2,0,none⟩) (h.hV1.ne_blk h.G2 (by decide)) _,h.b1,h.b1,
  h.R1.other (p:=⟨g2,0,none⟩) (Ne.symm n.n8) _,h.R2.other (p:=⟨g2,0,none⟩) (Ne.symm n.n9) _,h.G1.other (p:=⟨g2,0,none⟩) n.n5 _,h.G2.set 0 _,h.hC.other (Ne.symm n.n4) hw _,by simpa using h.sz⟩
theorem L15.put{w wA wr:World}{p r1 r2 g1 g2 B gQ n c i:Nat}{V1 V2 sP:Value}{L1 L2 P Q:List Int}(h:L15 w wA wr p r1 r2 g1 g2 B V1 L1 V2 L2 sP P (.slice (some ⟨gQ,0,none⟩) n c) Q)(hn:Q.length=n)(hi:i<n)(y:Int):L15 w wA (wr.setCell ⟨gQ,i,none⟩ (.int .i64 y)) p r1 r2 g1 g2 B V1 L1 V2 L2 sP P (.slice (some ⟨gQ,0,none⟩) n c) (Q.set i y):=by
 have e:(Value.slice (some ⟨gQ,0,none⟩) n c).ownBlock=some gQ:=rfl
 have n1:∀{b:Nat},Blk wr b 27 #[.slice none 0 0]→b≠gQ:=fun hb e2=>h.hQ.ne_blk hb (by decide) (by rw[e,e2])
 have n2:∀{b:Nat} {V:Value},Blk wr b 27 #[V]→b≠gQ:=fun hb e2=>h.hQ.ne_blk hb (by decide) (by rw[e,e2])
 have hpq:sP.ownBlock≠some gQ:=by
  rcases h.pq with h1 | h1
  · rw[h1];simp
  · rw[e] at h1;exact h1
 have hv1:V1.ownBlock≠some gQ:=fun e2=>by have:=h.b1 _ e2;have:=h.bQ _ e;omega
 have hv2:V2.ownBlock≠some gQ:=fun e2=>by have:=h.b2 _ e2;have:=h.bQ _ e;omega
 exact⟨h.hP.setCell_ne (p:=⟨gQ,i,none⟩) hpq _,h.hQ.put hn hi y,h.pq,h.bP,h.bQ,h.hV1.setCell_ne (p:=⟨gQ,i,none⟩) hv1 _,h.hV2.setCell_ne (p:=⟨gQ,i,none⟩) hv2 _,h.b1,h.b2,h.R1.other (p:=⟨gQ,i,none⟩) (n1 h.R1) _,h.R2.other (p:=⟨gQ,i,none⟩) (n1 h.R2) _,h.G1.other (p:=⟨gQ,i,none⟩) (n2 h.G1) _,h.G2.other (p:=⟨gQ,i,none⟩) (n2 h.G2) _,h.hC.other (fun e2=>h.hC.nb h.hQ (by rw[e,←e2])) (h.hQ.blk _ e).1 _,by simpa using h.sz⟩
structure R15(w wr:World)(r1 r2 g1 g2:Nat)(u1 u2 V1:Value)(L1:List Int)(V2:Value)(L2:List Int)(sP:Value)(P:List Int)(sQ:Value)(Q:List Int):Prop where
 hP:Own 3 w wr sP P
 hQ:Own 3 w wr sQ Q
 hV1:Own 3 w wr V1 L1
 hV2:Own 3 w wr V2 L2
 R1:Blk wr r1 27 #[u1]
 R2:Blk wr r2 27 #[u2]
 G1:Blk wr g1 27 #[V1]
 G2:Blk wr g2 27 #[V2]
 hE:Ext w wr
theorem L15.ret{w wA wr:World}{p r1 r2 g1 g2 B:Nat}{V1 V2 sP sQ:Value}{L1 L2 P Q:List Int}(h:L15 w wA wr p r1 r2 g1 g2 B V1 L1 V2 L2 sP P sQ Q)(hw:w.heap.size≤wA.heap.size):R15 w wr r1 r2 g1 g2 (.slice none 0 0) (.slice none 0 0) V1 L1 V2 L2 sP P sQ Q :=
 ⟨h.hP,h.hQ,h.hV1.low hw,h.hV2.low hw,h.R1,h.R2,h.G1,h.G2,h.hC.base⟩
theorem R15.drew{w wr:World}{r1 r2 g1 g2:Nat}{u1 u2 V1 V2 sP sQ:Value}{L1 L2 P Q:List Int}(h:R15 w wr r1 r2 g1 g2 u1 u2 V1 L1 V2 L2 sP P sQ Q):R15 w wr.drew r1 r2 g1 g2 u1 u2 V1 L1 V2 L2 sP P sQ Q :=
 ⟨h.hP.drew,h.hQ.drew,h.hV1.drew,h.hV2.drew,h.R1.drew,h.R2.drew,h.G1.drew,h.G2.drew,h.hE.drew⟩
theorem R15.set1{w wr:World}{r1 r2 g1 g2:Nat}{u1 u2 V1 V2 sP sQ:Value}{L1 L2 P Q:List Int}(h:R15 w wr r1 r2 g1 g2 u1 u2 V1 L1 V2 L2 sP P sQ Q){p:Nat}(n:N15 p r1 r2 g1 g2)(hr:w.heap.size≤r1)(x:Value):R15 w (wr.setCell ⟨r1,0,none⟩ x) r1 r2 g1 g2 x u2 V1 L1 V2 L2 sP P sQ Q :=
 ⟨h.hP.setCell_ne (p:=⟨r1,0,none⟩) (h.hP.ne_blk h.R1 (by decide)) _,h.hQ.setCell_ne (p:=⟨r1,0,none⟩) (h.hQ.ne_blk h.R1 (by decide)) _,h.hV1.setCell_ne (p:=⟨r1,0,none⟩) (h.hV1.ne_blk h.R1 (by decide)) _,h.hV2.setCell_ne (p:=⟨r1,0,none⟩) (h.hV2.ne_blk h.R1 (by decide)) _,h.R1.set 0 _,h.R2.other (p:=⟨r1,0,none⟩) (Ne.symm n.n10) _,h.G1.other (p:=⟨r1,0,none⟩) n.n6 _,h.G2.other (p:=⟨r1,0,none⟩) n.n8 _,h.hE.setCell (p:=⟨r1,0,none⟩) hr _⟩
theorem R15.set2{w wr:World}{r1 r2 g1 g2:Nat}{u1 u2 V1 V2 sP sQ:Value}{L1 L2 P Q:List Int}(h:R15 w wr r1 r2 g1 g2 u1 u2 V1 L1 V2 L2 sP P sQ Q){p:Nat}(n:N15 p r1 r2 g1 g2)(hr:w.heap.size≤r2)(x:Value):R15 w (wr.setCell ⟨r2,0,none⟩ x) r1 r2 g1 g2 u1 x V1 L1 V2 L2 sP P sQ Q :=
 ⟨h.hP.setCell_ne (p:=⟨r2,0,none⟩) (h.hP.ne_blk h.R2 (by decide)) _,h.hQ.setCell_ne (p:=⟨r2,0,none⟩) (h.hQ.ne_blk h.R2 (by decide)) _,h.hV1.setCell_ne (p:=⟨r2,0,none⟩) (h.hV1.ne_blk h.R2 (by decide)) _,h.hV2.setCell_ne (p:=⟨r2,0,none⟩) (h.hV2.ne_blk h.R2 (by decide)) _,h.R1.other (p:=⟨r2,0,none⟩) n.n10 _,h.R2.set 0 _,h.G1.other (p:=⟨r2,0,none⟩) n.n7 _,h.G2.other (p:=⟨r2,0,none⟩) n.n9 _,h.hE.setCell (p:=⟨r2,0,none⟩) hr _⟩
theorem l15Draw_any(v:Value)(l:List Int)(w:World)(h:Byts w v l) :
 Calls Tryz.prog 178 #[v] w fun e w'=>∃a1 L1 c1 a2 L2 c2 aP P cP aQ Q cQ,e=.returned (.tuple #[.agg #[.slice a1 (List.length L1) c1],.agg #[.slice a2 (List.length L2) c2],.slice aP (List.length P) cP,.slice aQ (List.length Q) cQ])∧Own 3 w w' (.slice a1 (List.length L1) c1) L1∧Own 3 w w' (.slice a2 (List.length L2) c2) L2∧Ints w' (.slice aP (List.length P) cP) P∧Ints w' (.slice aQ (List.length Q) cQ) Q∧Ext w w':=by
 have hE0:=((Ext.refl w).alloc (.cells #[.slice none 0 0] 27)).alloc (.cells #[.slice none 0 0] 27)
 have hs1:(w.alloc (.cells #[.slice none 0 0] 27)).heap.size=w.heap.size+1:=by simp
 have hA0:=(Blk.new w 27 #[.slice none 0 0]).alloc (.cells #[.slice none 0 0] 27)
 have hB0:=Blk.new (w.alloc (.cells #[.slice none 0 0] 27)) 27 #[.slice none 0 0]
 rw[hs1] at hB0
 obtain⟨wZ,hwZ⟩:∃x,x=(w.alloc (.cells #[.slice none 0 0] 27)).alloc (.cells #[.slice none 0 0] 27):=⟨_,rfl⟩
 have hsZ:wZ.heap.size=w.heap.size+2:=by rw[hwZ];simp
 rw[←hwZ] at hE0 hA0 hB0
 have HwZ:=Lib.hid hwZ
 clear hwZ hs1
 go_enter Tryz.func178,Tryz.ntmps178
 go_wp2_with fail
 rw[←HwZ.out]
 refine (l1New_any _ _ w _ h hE0).mono ?_
 rintro e w1 ⟨p,rfl,hC1,hE1,hpZ⟩
 have hp:=hC1.lt
 have hA1:=hA0.ext hE1
 have hB1:=hB0.ext hE1
 clear hA0 hB0 hE1 hE0
 go_wp2_with fail
 refine (l2Any_any w w1 p hC1).mono ?_
 rintro e w2 ⟨a1,L1,c1,rfl,hO1,hC2,hF2⟩
 have hs2:=hF2.size
 have hA2:=(hF2.blk hA1 (by omega)).alloc (.cells #[.slice a1 L1.length c1] 27)
 have hB2:=(hF2.blk hB1 (by omega)).alloc (.cells #[.slice a1 L1.length c1] 27)
 have hG2:=Blk.new w2 27 #[.slice a1 L1.length c1]
 have hV2:=hO1.alloc (.cells #[.slice a1 L1.length c1] 27)
 have hC3:=hC2.alloc (.cells #[.slice a1 L1.length c1] 27)
 obtain⟨w3,hw3⟩:∃x,x=w2.alloc (.cells #[.slice a1 L1.length c1] 27):=⟨_,rfl⟩
 obtain⟨g1,hg1⟩:∃g,g=w2.heap.size:=⟨_,rfl⟩
 have hs3:w3.heap.size=g1+1:=by rw[hw3,hg1];simp
 rw[←hw3] at hA2 hB2 hG2 hV2 hC3
 rw[←hg1] at hG2
 have Hw3:=Lib.hid hw3
 have Hg1:=Lib.hid hg1
 have hg1p:g1≠p:=by omega
 have hwg1:w.heap.size+2≤g1:=by omega
 have hpg1:p<g1:=by omega
 have hg1w:w1.heap.size≤g1:=by omega
 clear hw3 hg1 hA1 hB1 hO1 hC2 hF2 hC1
 go_wp2_with fail
 rw[←Hw3.out,←Hg1.out]
 refine (l2Any_any w w3 p hC3).mono ?_
 rintro e w4 ⟨a2,L2,c2,rfl,hO2,hC4,hF4⟩
 have hs4:=hF4.size
 have hbV1:∀k,(Value.slice a1 L1.length c1).ownBlock=some k→k<w3.heap.size:=fun k hk=>(hV2.blk k hk).2
 have hbV2:∀k,(Value.slice a2 L2.length c2).ownBlock=some k→k<w4.heap.size:=fun k hk=>(hO2.blk k hk).2
 have hI0:L15 w w1 (w4.alloc (.cells #[.slice a2 L2.length c2] 27)) p w.heap.size (w.heap.size+1) g1 w4.heap.size w4.heap.size (.slice a1 L1.length c1) L1 (.slice a2 L2.length c2) L2 (.slice none 0 0) [] (.slice none 0 0) [] :=
  ⟨own_nil _ _,own_nil _ _,vp_nil _,(fun k hk=>by simp[Value.ownBlock] at hk),(fun k hk=>by simp[Value.ownBlock] at hk),(Fr.own hF4 hV2 (hC3.nb hV2) (by cases (Value.slice a1 L1.length c1).ownBlock<;>simp)).alloc _,(hO2.low (w0:=w1) (by omega)).alloc _,(fun k hk=>by have:=hbV1 k hk;omega),hbV2,(hF4.blk hA2 (by omega)).alloc _,(hF4.blk hB2 (by omega)).alloc _,(hF4.blk hG2 hg1p).alloc _,Blk.new _ _ _,hC4.alloc _,by simp⟩
 obtain⟨w5,hw5⟩:∃x,x=w4.alloc (.cells #[.slice a2 L2.length c2] 27):=⟨_,rfl⟩
 obtain⟨g2,hg2⟩:∃g,g=w4.heap.size:=⟨_,rfl⟩
 rw[←hw5,←hg2] at hI0
 have Hw5:=Lib.hid hw5
 have Hg2:=Lib.hid hg2
 have hN:N15 p w.heap.size (w.heap.size+1) g1 g2:=⟨by omega,by omega,by omega,by omega,by omega,by omega,by omega,by omega,by omega,by omega⟩
 have hwg2:w.heap.size≤g2:=by omega
 obtain⟨B,hBd⟩:∃B,B=g2:=⟨_,rfl⟩
 rw[show L15 w w1 w5 p w.heap.size (w.heap.size+1) g1 g2 g2 (.slice a1 L1.length c1) L1 (.slice a2 L2.length c2) L2 (.slice none 0 0) [] (.slice none 0 0) []=L15 w w1 w5 p w.heap.size (w.heap.size+1) g1 g2 B (.slice a1 L1.length c1) L1 (.slice a2 L2.length c2) L2 (.slice none 0 0) [] (.slice none 0 0) [] from by rw[hBd]] at hI0
 clear hw5 hg2 hA2 hB2 hG2 hV2 hC3 hC4 hO2 hF4 hbV1 hbV2
 go_upto_region 4 with fail
 rw[←Hw5.out,←Hg2.out]
 go_upto_if 23 with (go_at_call 128;refine (l1Once_any w _ p 2 (by omega) hI0.hC).mono ?_;rintro e w6 ⟨bb,rfl,hC6,hF6⟩;have hI6:=hI0.drw hN hF6 hC6)
 go_cut [] (fun wx=>∃b2 M2 d2,L15 w w1 wx p w.heap.size (w.heap.size+1) g1 g2 B (.slice a1 L1.length c1) L1 (.slice b2 (List.length M2) d2) M2 (.slice none 0 0) [] (.slice none 0 0) [])
 case first =>
  cases bb
  · go_wp2_with fail
    go_meet
    exact⟨_,L2,_,hI6⟩
  · have l0:=hI6.G1.cell (i:=0) (v:=.slice a1 L1.length c1) rfl
    have l2:=hI6.G2.cell (i:=0) (v:=.slice a2 L2.length c2) rfl
    have f2:=hI6.G2.free 0
    have hI7:=hI6.same hN hwg2
    go_wp2_with fail
    go_meet
    exact⟨_,L1,_,hI7⟩
 case rest =>
 clear hI0 hI6 hC6 hF6
 obtain⟨a2,L2,c2,hI⟩:=hcut
 obtain⟨gP,hgP⟩:∃g,g=wc.heap.size:=⟨_,rfl⟩
 have hI8:L15 w w1 ((wc.alloc (.cells #[] 3)).alloc (.cells #[] 3)) p w.heap.size (w.heap.size+1) g1 g2 B (.slice a1 L1.length c1) L1 (.slice a2 L2.length c2) L2 (.slice (some ⟨wc.heap.size,0,none⟩) 0 0) [] (.slice (some ⟨wc.heap.size+1,0,none⟩) 0 0) []:=by
  have hA:=hI.ext (((Ext.refl wc).alloc (.cells #[] 3)).alloc (.cells #[] 3))
  have hb:=hI.hC.base
  have hOP:=own_made (TI:=3) (n:=0) (by omega) hb [] rfl
  have hOQ:=own_made (TI:=3) (n:=0) (by omega) (hb.alloc (.cells #[] 3)) [] rfl
  rw[show (wc.alloc (.cells #[] 3)).heap.size=wc.heap.size+1 by simp] at hOQ
  change Own _ _ (wc.alloc (.cells #[] 3)) _ _ at hOP
  change Own _ _ ((wc.alloc (.cells #[] 3)).alloc (.cells #[] 3)) _ _ at hOQ
  have hsz:=hI.sz
  exact⟨hOP.alloc _,hOQ,Or.inr (by simp[Value.ownBlock]),(fun k hk=>by simp[Value.ownBlock] at hk;omega),(fun k hk=>by simp[Value.ownBlock] at hk;omega),hA.hV1,hA.hV2,hA.b1,hA.b2,hA.R1,hA.R2,hA.G1,hA.G2,hA.hC,hA.sz⟩
 obtain⟨w8,hw8⟩:∃x,x=(wc.alloc (.cells #[] 3)).alloc (.cells #[] 3):=⟨_,rfl⟩
 rw[←hw8,←hgP] at hI8
 have Hw8:=Lib.hid hw8
 have HgP:=Lib.hid hgP
 clear hI hw8 hgP
 go_upto_region 8 with fail
 rw[←Hw8.out,←HgP.out]
 go_upto_region 8 with fail
 go_cut [11] (fun s wx=>∃x:Nat,s=.int .i64 x∧x<24∧L15 w w1 wx p w.heap.size (w.heap.size+1) g1 g2 B (.slice a1 L1.length c1) L1 (.slice a2 L2.length c2) L2 (.slice (some ⟨gP,0,none⟩) 0 0) [] (.slice (some ⟨gP+1,0,none⟩) 0 0) [])
 case first =>
  have hob:=ordF_bd L1
  have l0:=hI8.G1.cell (i:=0) (v:=.slice a1 L1.length c1) rfl
  by_cases h1n:1<ordF L1
  · go_wp2_with (first | (go_at_call 39;refine (sOrderOf_any _ L1 _ hI8.hV1.ints).mono ?_;rintro e wo ⟨rfl,hEo⟩;have hIo:=hI8.ext hEo) | (go_at_call 109;refine (l1Below_any w _ p (ordF L1) (by omega) hIo.hC).mono ?_;rintro e wx ⟨x,rfl,hb,hCx,hFx⟩;have hIx:=hIo.drw hN hFx hCx))
    obtain⟨hx0,hx1⟩:=hb.2 (by omega)
    obtain⟨y,rfl⟩:=Int.eq_ofNat_of_zero_le hx0
    go_meet
    exact⟨y,rfl,by omega,hIx⟩
  · go_wp2_with (first | (go_at_call 39;refine (sOrderOf_any _ L1 _ hI8.hV1.ints).mono ?_;rintro e wo ⟨rfl,hEo⟩;have hIo:=hI8.ext hEo) | (go_at_call 109;refine (l1Below_any w _ p 1 (by omega) hIo.hC).mono ?_;rintro e wx ⟨x,rfl,hb,hCx,hFx⟩;have hIx:=hIo.drw hN hFx hCx))
    obtain⟨hx0,hx1⟩:=hb.2 (by omega)
    obtain⟨y,rfl⟩:=Int.eq_ofNat_of_zero_le hx0
    go_meet
    exact⟨y,rfl,by omega,hIx⟩
 case rest =>
 clear hI8
 obtain⟨x,rfl,hx,hI9a⟩:=hcut
 go_upto_region 9 with fail
 go_cut [12] (fun s wx=>∃x:Nat,s=.int .i64 x∧x<24∧L15 w w1 wx p w.heap.size (w.heap.size+1) g1 g2 B (.slice a1 L1.length c1) L1 (.slice a2 L2.length c2) L2 (.slice (some ⟨gP,0,none⟩) 0 0) [] (.slice (some ⟨gP+1,0,none⟩) 0 0) [])
 case first =>
  have hob:=ordF_bd L1
  have l0:=hI9a.G1.cell (i:=0) (v:=.slice a1 L1.length c1) rfl
  by_cases h1n:1<ordF L1
  · go_wp2_with (first | (go_at_call 39;refine (sOrderOf_any _ L1 _ hI9a.hV1.ints).mono ?_;rintro e wo ⟨rfl,hEo⟩;have hIo:=hI9a.ext hEo) | (go_at_call 109;refine (l1Below_any w _ p (ordF L1) (by omega) hIo.hC).mono ?_;rintro e wx ⟨x,rfl,hb,hCx,hFx⟩;have hIx:=hIo.drw hN hFx hCx))
    obtain⟨hx0,hx1⟩:=hb.2 (by omega)
    obtain⟨y,rfl⟩:=Int.eq_ofNat_of_zero_le hx0
    go_meet
    exact⟨y,rfl,by omega,hIx⟩
  · go_wp2_with (first | (go_at_call 39;refine (sOrderOf_any _ L1 _ hI9a.hV1.ints).mono ?_;rintro e wo ⟨rfl,hEo⟩;have hIo:=hI9a.ext hEo) | (go_at_call 109;refine (l1Below_any w _ p 1 (by omega) hIo.hC).mono ?_;rintro e wx ⟨x,rfl,hb,hCx,hFx⟩;have hIx:=hIo.drw hN hFx hCx))
    obtain⟨hx0,hx1⟩:=hb.2 (by omega)
    obtain⟨y,rfl⟩:=Int.eq_ofNat_of_zero_le hx0
    go_meet
    exact⟨y,rfl,by omega,hIx⟩
 case rest =>
 clear hI9a
 obtain⟨d,rfl,hd,hI9b⟩:=hcut
 go_upto_region 10 with fail
 go_cut [13] (fun s wx=>∃x:Nat,s=.int .i64 x∧x<24∧L15 w w1 wx p w.heap.size (w.heap.size+1) g1 g2 B (.slice a1 L1.length c1) L1 (.slice a2 L2.length c2) L2 (.slice (some ⟨gP,0,none⟩) 0 0) [] (.slice (some ⟨gP+1,0,none⟩) 0 0) [])
 case first =>
  have hob:=ordF_bd L2
  have l0:=hI9b.G2.cell (i:=0) (v:=.slice a2 L2.length c2) rfl
  by_cases h1n:1<ordF L2
  · go_wp2_with (first | (go_at_call 39;refine (sOrderOf_any _ L2 _ hI9b.hV2.ints).mono ?_;rintro e wo ⟨rfl,hEo⟩;have hIo:=hI9b.ext hEo) | (go_at_call 109;refine (l1Below_any w _ p (ordF L2) (by omega) hIo.hC).mono ?_;rintro e wx ⟨x,rfl,hb,hCx,hFx⟩;have hIx:=hIo.drw hN hFx hCx))
    obtain⟨hx0,hx1⟩:=hb.2 (by omega)
    obtain⟨y,rfl⟩:=Int.eq_ofNat_of_zero_le hx0
    go_meet
    exact⟨y,rfl,by omega,hIx⟩
  · go_wp2_with (first | (go_at_call 39;refine (sOrderOf_any _ L2 _ hI9b.hV2.ints).mono ?_;rintro e wo ⟨rfl,hEo⟩;have hIo:=hI9b.ext hEo) | (go_at_call 109;refine (l1Below_any w _ p 1 (by omega) hIo.hC).mono ?_;rintro e wx ⟨x,rfl,hb,hCx,hFx⟩;have hIx:=hIo.drw hN hFx hCx))
    obtain⟨hx0,hx1⟩:=hb.2 (by omega)
    obtain⟨y,rfl⟩:=Int.eq_ofNat_of_zero_le hx0
    go_meet
    exact⟨y,rfl,by omega,hIx⟩
 case rest =>
 clear hI9b
 obtain⟨y,rfl,hy,hI9c⟩:=hcut
 go_upto_region 11 with fail
 go_cut [14] (fun s wx=>∃x:Nat,s=.int .i64 x∧x<24∧L15 w w1 wx p w.heap.size (w.heap.size+1) g1 g2 B (.slice a1 L1.length c1) L1 (.slice a2 L2.length c2) L2 (.slice (some ⟨gP,0,none⟩) 0 0) [] (.slice (some ⟨gP+1,0,none⟩) 0 0) [])
 case first =>
  have hob:=ordF_bd L2
  have l0:=hI9c.G2.cell (i:=0) (v:=.slice a2 L2.length c2) rfl
  by_cases h1n:1<ordF L2
  · go_wp2_with (first | (go_at_call 39;refine (sOrderOf_any _ L2 _ hI9c.hV2.ints).mono ?_;rintro e wo ⟨rfl,hEo⟩;have hIo:=hI9c.ext hEo) | (go_at_call 109;refine (l1Below_any w _ p (ordF L2) (by omega) hIo.hC).mono ?_;rintro e wx ⟨x,rfl,hb,hCx,hFx⟩;have hIx:=hIo.drw hN hFx hCx))
    obtain⟨hx0,hx1⟩:=hb.2 (by omega)
    obtain⟨y,rfl⟩:=Int.eq_ofNat_of_zero_le hx0
    go_meet
    exact⟨y,rfl,by omega,hIx⟩
  · go_wp2_with (first | (go_at_call 39;refine (sOrderOf_any _ L2 _ hI9c.hV2.ints).mono ?_;rintro e wo ⟨rfl,hEo⟩;have hIo:=hI9c.ext hEo) | (go_at_call 109;refine (l1Below_any w _ p 1 (by omega) hIo.hC).mono ?_;rintro e wx ⟨x,rfl,hb,hCx,hFx⟩;have hIx:=hIo.drw hN hFx hCx))
    obtain⟨hx0,hx1⟩:=hb.2 (by omega)
    obtain⟨y,rfl⟩:=Int.eq_ofNat_of_zero_le hx0
    go_meet
    exact⟨y,rfl,by omega,hIx⟩
 case rest =>
 clear hI9c
 obtain⟨d2,rfl,hd2,hI9⟩:=hcut
 go_wp2_with (go_at_call 109;refine (l1Below_any w _ p 4 (by omega) hI9.hC).mono ?_;rintro e wn ⟨n0,rfl,hb,hCn,hFn⟩;have hIn:=hI9.drw hN hFn hCn;have hwn:IntKind.i64.wrap (1+n0)=1+n0:=IntWalk.i64_in _ (by have:=hb.2 (by omega);omega))
 obtain⟨hn0,hn1⟩:=hb.2 (by omega)
 have hp1:p<w1.heap.size:=hp.2
 clear hI9 hCn hFn hb hwn
 go_loopw [9,10,11,13,15] (fun s9 s10 s11 s13 s15 wr=>∃(n:Int) (x y:Nat) (aP:Option Addr) (P:List Int) (cP:Nat) (aQ:Option Addr) (Q:List Int) (cQ:Nat),0≤n∧(P.length:Int)+n≤4∧(Q.length:Int)+n≤4∧x<24∧y<24∧s15=.int .i64 n∧s11=.int .i64 x∧s13=.int .i64 y∧s9=.slice aP P.length cP∧s10=.slice aQ Q.length cQ∧L15 w w1 wr p w.heap.size (w.heap.size+1) g1 g2 B (.slice a1 L1.length c1) L1 (.slice a2 L2.length c2) L2 (.slice aP P.length cP) P (.slice aQ Q.length cQ) Q) (fun _ _ _ _ s15 _=>(intOf s15).toNat)
 case atStart=>exact⟨1+n0,x,y,_,[],0,_,[],0,by omega,by simp;omega,by simp;omega,by omega,by omega,rfl,rfl,rfl,rfl,rfl,hIn⟩
 case round =>
  rename World=>wr
  clear hIn hn0 hn1
  obtain⟨n,x,y,aP,P,cP,aQ,Q,cQ,hn0,hnP,hnQ,hx,hy,rfl,rfl,rfl,rfl,rfl,hI⟩:=hrel
  go_upto_region 13 with fail
  go_cut [59] (fun s wx=>∃b:Bool,s=.bool b∧(b=true→0<n∧isGrp L1=true∧isGrp L2=true)∧L15 w w1 wx p w.heap.size (w.heap.size+1) g1 g2 B (.slice a1 L1.length c1) L1 (.slice a2 L2.length c2) L2 (.slice aP P.length cP) P (.slice aQ Q.length cQ) Q)
  case first =>
   have l1:=hI.G1.cell (i:=0) (v:=.slice a1 L1.length c1) rfl
   by_cases hlt:0<n
   · cases hg1:isGrp L1
     · go_wp2_with (go_at_call 100;refine (sIsGroup_val _ _ _ hI.hV1.ints hg1).mono ?_;rintro e wX ⟨rfl,hEX⟩;have hIx:=hI.ext hEX)
       go_meet
       exact⟨false,rfl,fun e=>(by cases e),hIx⟩
     · go_wp2_with fail
       refine (sIsGroup_val _ _ _ hI.hV1.ints hg1).mono ?_
       rintro e wX ⟨rfl,hEX⟩
       replace hI:=hI.ext hEX
       have l2:=hI.G2.cell (i:=0) (v:=.slice a2 L2.length c2) rfl
       cases hg2:isGrp L2
       · go_wp2_with (go_at_call 100;refine (sIsGroup_val _ _ _ hI.hV2.ints hg2).mono ?_;rintro e wY ⟨rfl,hEY⟩;have hIy:=hI.ext hEY)
         go_meet
         exact⟨false,rfl,fun e=>(by cases e),hIy⟩
       · go_wp2_with (go_at_call 100;refine (sIsGroup_val _ _ _ hI.hV2.ints hg2).mono ?_;rintro e wY ⟨rfl,hEY⟩;have hIy:=hI.ext hEY)
         go_meet
         exact⟨true,rfl,fun _=>⟨hlt,hg1,hg2⟩,hIy⟩
   · go_wp2_with fail
     go_meet
     exact⟨false,rfl,fun e=>(by cases e),hI⟩
  case rest =>
  clear hI
  obtain⟨b,rfl,hb,hI⟩:=hcut
  cases b
  rotate_left
  · obtain⟨hlt,hg1,hg2⟩:=hb rfl
    have l1:=hI.G1.cell (i:=0) (v:=.slice a1 L1.length c1) rfl
    have hwn:IntKind.i64.wrap (n - 1)=n - 1:=IntWalk.i64_in _ (by omega)
    have hlP:P.length<17592186044416:=by omega
    have hlQ:Q.length<17592186044416:=by omega
    have Hg1':=Lib.hid hg1
    have Hg2':=Lib.hid hg2
    have z1:=addF_bd hg1 x d
    have z2:=addF_bd hg2 y d2
    clear hg1 hg2 hb
    go_wp2_with (first
     | (go_at_call 141;with_reducible refine Calls.mono (l2Add_any _ L2 y d2 _ hI8.hV2.ints Hg2' (by omega) (by omega)) ?_;rintro e wb ⟨rfl,hEb⟩;have hI9:=hI8.ext hEb)
     | (go_at_call 141;with_reducible refine Calls.mono (l2Add_any _ L1 x d _ hI7.hV1.ints Hg1' (by omega) (by omega)) ?_;rintro e wa ⟨rfl,hEa⟩;have hI8:=hI7.ext hEa;have m2:=hI8.G2.cell (i:=0) (v:=.slice a2 L2.length c2) rfl)
     | (at_builtin;refine wp_append1F slI rfl _ _ rfl w _ _ _ _ hI6.hQ hI6.hC.base hlQ rfl rfl ?_;intro v7 w7 hO7 hG7 hN7;have hI7:=hI6.appQ hO7 hG7 hN7;obtain⟨a7,c7,rfl,-⟩:=hO7.shape;have m1:=hI7.G1.cell (i:=0) (v:=.slice a1 L1.length c1) rfl)
     | (at_builtin;refine wp_append1F slI rfl _ _ rfl w _ _ _ _ hI.hP hI.hC.base hlP rfl rfl ?_;intro v6 w6 hO6 hG6 hN6;have hI6:=hI.appP hO6 hG6 hN6;obtain⟨a6,c6,rfl,-⟩:=hO6.shape))
    go_roundw
    case rel=>exact⟨n - 1,addF L1 x d,addF L2 y d2,a6,P++[(x:Int)],c6,a7,Q++[(y:Int)],c7,by omega,by simp;omega,by simp;omega,z1,z2,by go_num,rfl,rfl,by simp,by simp,hI9⟩
    case measure=>(simp[intOf];omega)
  · clear hb
    go_upto_region 19 with fail
    go_cut [84] (fun s wx=>∃b:Bool,s=.bool b∧(b=true→0<Q.length)∧L15 w w1 wx p w.heap.size (w.heap.size+1) g1 g2 B (.slice a1 L1.length c1) L1 (.slice a2 L2.length c2) L2 (.slice aP P.length cP) P (.slice aQ Q.length cQ) Q)
    case first =>
     by_cases hq0:0<Q.length
     · have hqI:(0:Int)<(Q.length:Int):=by omega
       go_wp2_with (go_at_call 128;refine (l1Once_any w _ p 4 (by omega) hI.hC).mono ?_;rintro e wq ⟨bb,rfl,hCq,hFq⟩;have hIq:=hI.drw hN hFq hCq)
       go_meet
       exact⟨bb,rfl,fun _=>hq0,hIq⟩
     · have hqI:¬(0:Int)<(Q.length:Int):=by omega
       go_wp2_with fail
       go_meet
       exact⟨false,rfl,fun e=>(by cases e),hI⟩
    case rest =>
    clear hI
    obtain⟨bb,rfl,hbb,hI⟩:=hcut
    go_upto_if 84 with fail
    go_cut [] (fun wx=>∃Q':List Int,Q'.length=Q.length∧L15 w w1 wx p w.heap.size (w.heap.size+1) g1 g2 B (.slice a1 L1.length c1) L1 (.slice a2 L2.length c2) L2 (.slice aP P.length cP) P (.slice aQ Q.length cQ) Q')
    case first =>
     cases bb
     · go_wp2_with fail
       go_meet
       exact⟨Q,rfl,hI⟩
     · have hq0:=hbb rfl
       obtain⟨gQ,rfl,-,-⟩:=hI.hQ.row rfl hq0
       go_upto_region 20 with fail
       have hI4:=True.intro
       have hI5:=True.intro
       have hI6:=True.intro
       have hD:=hI.ext ((Ext.refl _).drew)
       have k2:=hD.G2.cell (i:=0) (v:=.slice a2 L2.length c2) rfl
       refine wp_region_held_drew (S:=(fun W=>W.cell? ⟨g2,0,none⟩=some (.slice a2 L2.length c2))) (by kernel_rfl) (by exact k2) (fun hHeld=>?_)
       (refine takeOn (i:=0) (v:=?_) (by kernel_rfl) (by rfl) (by rfl) (by kernel_rfl) (by kernel_rfl) (by intro _ _ _ h;exact h) ?_ (by assumption) ?_);(rotate_left 1);(focus ((intro w hSw);(try dsimp only at hSw);go_simp;(try with_reducible rfl)));(try simp only[Act.put,List.setIfInBounds_toArray,List.set_cons_zero,List.set_cons_succ,List.getElem_toArray,List.getElem_cons_zero,List.getElem_cons_succ])
       (refine takeOn (i:=1) (v:=?_) (by kernel_rfl) (by rfl) (by rfl) (by kernel_rfl) (by kernel_rfl) (by intro _ _ _ h;exact h) ?_ (by assumption) ?_);(rotate_left 1);(focus ((intro w hSw);(try dsimp only at hSw);go_simp;(try with_reducible rfl)));(try simp only[Act.put,List.setIfInBounds_toArray,List.set_cons_zero,List.set_cons_succ,List.getElem_toArray,List.getElem_cons_zero,List.getElem_cons_succ])
       (refine takeOn (i:=2) (v:=?_) (by kernel_rfl) (by rfl) (by rfl) (by kernel_rfl) (by kernel_rfl) (by intro _ _ _ h;exact h) ?_ (by assumption) ?_);(rotate_left 1);(focus ((intro w hSw);(try dsimp only at hSw);go_simp;(try with_reducible rfl)));(try simp only[Act.put,List.setIfInBounds_toArray,List.set_cons_zero,List.set_cons_succ,List.getElem_toArray,List.getElem_cons_zero,List.getElem_cons_succ])
       (refine takeOn (i:=3) (v:=?_) (by kernel_rfl) (by rfl) (by rfl) (by kernel_rfl) (by kernel_rfl) (by intro _ _ _ h;exact h) ?_ (by assumption) ?_);(rotate_left 1);(focus ((intro w hSw);(try dsimp only at hSw);go_simp;(try with_reducible rfl)));(try simp only[Act.put,List.setIfInBounds_toArray,List.set_cons_zero,List.set_cons_succ,List.getElem_toArray,List.getElem_cons_zero,List.getElem_cons_succ])
       (refine takeOn (i:=5) (v:=?_) (by kernel_rfl) (by rfl) (by rfl) (by kernel_rfl) (by kernel_rfl) (by intro _ _ _ h;exact h) ?_ (by assumption) ?_);(rotate_left 1);(focus ((intro w hSw);(try dsimp only at hSw);go_simp;(try with_reducible rfl)));(try simp only[Act.put,List.setIfInBounds_toArray,List.set_cons_zero,List.set_cons_succ,List.getElem_toArray,List.getElem_cons_zero,List.getElem_cons_succ])
       (refine takeOn (i:=6) (v:=?_) (by kernel_rfl) (by rfl) (by rfl) (by kernel_rfl) (by kernel_rfl) (by intro _ _ _ h;exact h) ?_ (by assumption) ?_);(rotate_left 1);(focus ((intro w hSw);(try dsimp only at hSw);go_simp;(try with_reducible rfl)));(try simp only[Act.put,List.setIfInBounds_toArray,List.set_cons_zero,List.set_cons_succ,List.getElem_toArray,List.getElem_cons_zero,List.getElem_cons_succ])
       refine takeOne (i:=4) (by kernel_rfl) (by rfl) (by rfl) (fun K hK=>?_)
       go_simp;(go_at_call 109;(with_reducible refine Calls.mono (l1Below_any w _ p (Q.length:Nat) (by omega) hD.hC) ?_);rintro e wd ⟨z,rfl,hb,hCd,hFd⟩);obtain⟨hz0,hz1⟩:=hb.2 (by omega);obtain⟨k,rfl⟩:=Int.eq_ofNat_of_zero_le hz0;have hk:k<Q.length:=(by omega);have hI4:=hD.drw hN hFd hCd;have k4:=hI4.G2.cell (i:=0) (v:=.slice a2 L2.length c2) rfl;have hix:=fun W=>row_index gQ Q.length cQ k W hk;have k5:=True.intro;have k5s:=True.intro
       refine hK.out _ _ (by first | exact k5s | exact k5 | exact k4) (fun hHeld=>?_)
       clear hK K
       (try simp only[Act.put,List.setIfInBounds_toArray,List.set_cons_zero,List.set_cons_succ,List.getElem_toArray,List.getElem_cons_zero,List.getElem_cons_succ])
       refine takeOne (i:=7) (by kernel_rfl) (by rfl) (by rfl) (fun K hK=>?_)
       go_simp;(go_at_call 212;(with_reducible refine Calls.mono (l2Element_any w _ w1 p _ L2 hI4.hC hI4.hV2 hp1) ?_);rintro e we ⟨z2,rfl,hz2,hCe,hFe⟩);have hI5:=hI4.drw hN hFe hCe;have k5:=hI5.G2.cell (i:=0) (v:=.slice a2 L2.length c2) rfl;have cq:=(hI5.hQ.cellAt rfl hk).1;have fq:=(hI5.hQ.cellAt rfl hk).2;have hI6:=hI5.put rfl hk z2;have k5s:=hI6.G2.cell (i:=0) (v:=.slice a2 L2.length c2) rfl
       refine hK.out _ _ (by first | exact k5s | exact k5 | exact k4) (fun hHeld=>?_)
       clear hK K
       (try simp only[Act.put,List.setIfInBounds_toArray,List.set_cons_zero,List.set_cons_succ,List.getElem_toArray,List.getElem_cons_zero,List.getElem_cons_succ])
       (refine takeOn (i:=8) (v:=?_) (by kernel_rfl) (by rfl) (by rfl) (by kernel_rfl) (by kernel_rfl) (by intro _ _ _ h;exact h) ?_ (by assumption) ?_);(rotate_left 1);(focus ((intro w hSw);(try dsimp only at hSw);go_simp;(try with_reducible rfl)));(try simp only[Act.put,List.setIfInBounds_toArray,List.set_cons_zero,List.set_cons_succ,List.getElem_toArray,List.getElem_cons_zero,List.getElem_cons_succ])
       refine takeOne (i:=9) (by kernel_rfl) (by rfl) (by rfl) (fun K hK=>?_)
       go_simp
       refine hK.out _ _ (by first | exact k5s | exact k5 | exact k4) (fun hHeld=>?_)
       clear hK K
       (try simp only[Act.put,List.setIfInBounds_toArray,List.set_cons_zero,List.set_cons_succ,List.getElem_toArray,List.getElem_cons_zero,List.getElem_cons_succ])
       refine wpAnyH_done (by kernel_rfl) ?_ _
       clear cq fq k5 hI5 hI4 k4
       go_upto_region 21 with fail
       go_wp2_with fail
       go_meet
       exact⟨Q.set k z2,List.length_set,hI6⟩
    case rest =>
    clear hI
    obtain⟨Q2,hQl,hI⟩:=hcut
    have HQl:=Lib.hid hQl
    clear hQl
    go_upto_region 21 with fail
    have hD:=hI.ret (by omega)
    have k1:=hD.G1.cell (i:=0) (v:=.slice a1 L1.length c1) rfl
    have k2:=hD.G2.cell (i:=0) (v:=.slice a2 L2.length c2) rfl
    have s0:=hD.R1.cell (i:=0) (v:=.slice none 0 0) rfl
    have s1:=hD.R2.cell (i:=0) (v:=.slice none 0 0) rfl
    have f0:=hD.R1.free 0
    have f1:=hD.R2.free 0
    have hX1:=hD.set1 hN (Nat.le_refl _) (.slice a1 L1.length c1)
    have hY1:=hX1.set2 hN (by omega) (.slice a2 L2.length c2)
    have s2:=hX1.R2.cell (i:=0) (v:=.slice none 0 0) rfl
    have f2:=hX1.R2.free 0
    have q1:=hX1.R1.cell (i:=0) (v:=.slice a1 L1.length c1) rfl
    have q2:=hY1.R1.cell (i:=0) (v:=.slice a1 L1.length c1) rfl
    have q3:=hY1.R2.cell (i:=0) (v:=.slice a2 L2.length c2) rfl
    refine wp_region_held_drew (S:=(fun W=>W.cell? ⟨g1,0,none⟩=some (.slice a1 L1.length c1)∧W.cell? ⟨g2,0,none⟩=some (.slice a2 L2.length c2))) (by kernel_rfl) (by exact⟨k1,k2⟩) (fun hHeld=>?_)
    (refine takeOn (i:=0) (v:=?_) (by kernel_rfl) (by rfl) (by rfl) (by kernel_rfl) (by kernel_rfl) (by intro _ _ _ h;exact h) ?_ (by assumption) ?_);(rotate_left 1);(focus ((intro w hSw);(try dsimp only at hSw);go_simp;(try with_reducible rfl)));(try simp only[Act.put,List.setIfInBounds_toArray,List.set_cons_zero,List.set_cons_succ,List.getElem_toArray,List.getElem_cons_zero,List.getElem_cons_succ])
    (refine takeOn (i:=1) (v:=?_) (by kernel_rfl) (by rfl) (by rfl) (by kernel_rfl) (by kernel_rfl) (by intro _ _ _ h;exact h) ?_ (by assumption) ?_);(rotate_left 1);(focus ((intro w hSw);(try dsimp only at hSw);go_simp;(try with_reducible rfl)));(try simp only[Act.put,List.setIfInBounds_toArray,List.set_cons_zero,List.set_cons_succ,List.getElem_toArray,List.getElem_cons_zero,List.getElem_cons_succ])
    (refine takeOn (i:=2) (v:=?_) (by kernel_rfl) (by rfl) (by rfl) (by kernel_rfl) (by kernel_rfl) (by intro _ _ _ h;exact h) ?_ (by assumption) ?_);(rotate_left 1);(focus ((intro w hSw);(try dsimp only at hSw);go_simp;(try with_reducible rfl)));(try simp only[Act.put,List.setIfInBounds_toArray,List.set_cons_zero,List.set_cons_succ,List.getElem_toArray,List.getElem_cons_zero,List.getElem_cons_succ])
    (refine takeOn (i:=3) (v:=?_) (by kernel_rfl) (by rfl) (by rfl) (by kernel_rfl) (by kernel_rfl) (by intro _ _ _ h;exact h) ?_ (by assumption) ?_);(rotate_left 1);(focus ((intro w hSw);(try dsimp only at hSw);go_simp;(try with_reducible rfl)));(try simp only[Act.put,List.setIfInBounds_toArray,List.set_cons_zero,List.set_cons_succ,List.getElem_toArray,List.getElem_cons_zero,List.getElem_cons_succ])
    refine takeOne (i:=4) (by kernel_rfl) (by rfl) (by rfl) (fun K hK=>?_)
    go_simp
    refine hK.out _ _ (by first | exact⟨k1,k2⟩ | exact⟨hX1.G1.cell (i:=0) (v:=.slice a1 L1.length c1) rfl,hX1.G2.cell (i:=0) (v:=.slice a2 L2.length c2) rfl⟩ | exact⟨hY1.G1.cell (i:=0) (v:=.slice a1 L1.length c1) rfl,hY1.G2.cell (i:=0) (v:=.slice a2 L2.length c2) rfl⟩) (fun hHeld=>?_)
    clear hK K
    (try simp only[Act.put,List.setIfInBounds_toArray,List.set_cons_zero,List.set_cons_succ,List.getElem_toArray,List.getElem_cons_zero,List.getElem_cons_succ])
    refine takeOne (i:=5) (by kernel_rfl) (by rfl) (by rfl) (fun K hK=>?_)
    go_simp
    refine hK.out _ _ (by first | exact⟨k1,k2⟩ | exact⟨hX1.G1.cell (i:=0) (v:=.slice a1 L1.length c1) rfl,hX1.G2.cell (i:=0) (v:=.slice a2 L2.length c2) rfl⟩ | exact⟨hY1.G1.cell (i:=0) (v:=.slice a1 L1.length c1) rfl,hY1.G2.cell (i:=0) (v:=.slice a2 L2.length c2) rfl⟩) (fun hHeld=>?_)
    clear hK K
    (try simp only[Act.put,List.setIfInBounds_toArray,List.set_cons_zero,List.set_cons_succ,List.getElem_toArray,List.getElem_cons_zero,List.getElem_cons_succ])
    (refine takeOn (i:=6) (v:=?_) (by kernel_rfl) (by rfl) (by rfl) (by kernel_rfl) (by kernel_rfl) (by intro _ _ _ h;exact h) ?_ (by assumption) ?_);(rotate_left 1);(focus ((intro w hSw);(try dsimp only at hSw);go_simp;(try with_reducible rfl)));(try simp only[Act.put,List.setIfInBounds_toArray,List.set_cons_zero,List.set_cons_succ,List.getElem_toArray,List.getElem_cons_zero,List.getElem_cons_succ])
    (refine takeOn (i:=7) (v:=?_) (by kernel_rfl) (by rfl) (by rfl) (by kernel_rfl) (by kernel_rfl) (by intro _ _ _ h;exact h) ?_ (by assumption) ?_);(rotate_left 1);(focus ((intro w hSw);(try dsimp only at hSw);go_simp;(try with_reducible rfl)));(try simp only[Act.put,List.setIfInBounds_toArray,List.set_cons_zero,List.set_cons_succ,List.getElem_toArray,List.getElem_cons_zero,List.getElem_cons_succ])
    refine wpAnyH_done (by kernel_rfl) ?_ _
    go_wp2_with fail
    refine bodyPost_ret (v:=.tuple #[.agg #[.slice a1 L1.length c1],.agg #[.slice a2 L2.length c2],.slice aP P.length cP,.slice aQ Q.length cQ]) ?_ rfl ?_
    · simp[results,Tryz.results178,go_sem,q1,q2,q3]
    · exact⟨_,L1,_,_,L2,_,_,P,_,_,Q2,_,by rw[HQl.out],hY1.drew.hV1,hY1.drew.hV2,hY1.drew.hP.ints,by rw[HQl.out];exact hY1.drew.hQ.ints,hY1.drew.hE⟩
end Go.Zz
