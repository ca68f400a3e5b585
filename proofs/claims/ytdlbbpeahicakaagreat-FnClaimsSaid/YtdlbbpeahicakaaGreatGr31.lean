/- The draws of claims for the checker and for equality. -/
import Derived.Test.YtdlbbpeahicakaaGreatGr30
import Derived.Test.YtdlbbpeahicakaaGreatGr2
import Derived.Laws.BytesArg
import Derived.BigRegion
set_option linter.unusedSimpArgs false
set_option linter.unusedVariables false
set_option linter.unnecessarySimpa false
namespace Go.Zz
open Go.RowKit Go.Proofs
set_option maxHeartbeats 1000000
set_option maxRecDepth 20000
theorem store10{B:Nat}{w W:World}{r:Nat}{a b s q n k:Int}{u1 u2 u7 u8 x0 x1 x2 x3 x4 x5 x6 x7 x8 x9:Value}{gl ol tl ql:List Int}(hR:Blk W r 38 #[x0,x1,x2,x3,x4,x5,x6,x7,x8,x9])(i1:IB B W u1 gl)(i2:IB B W u2 ol)(i3:IB B W u7 tl)(i4:IB B W u8 ql)(hE:Ext w W)(hw:w.heap.size≤r) :
 ∃F,F=(World.setCell (World.setCell (World.setCell (World.setCell (World.setCell (World.setCell (World.setCell (World.setCell (World.setCell (World.setCell W ⟨r,0,none⟩ (.int .i64 k)) ⟨r,1,none⟩ u1) ⟨r,2,none⟩ u2) ⟨r,3,none⟩ (.int .i64 a)) ⟨r,4,none⟩ (.int .i64 b)) ⟨r,5,none⟩ (.int .i64 s)) ⟨r,6,none⟩ (.int .i64 q)) ⟨r,7,none⟩ u7) ⟨r,8,none⟩ u8) ⟨r,9,none⟩ (.int .i64 n))∧Blk F r 38 #[.int .i64 k,u1,u2,.int .i64 a,.int .i64 b,.int .i64 s,.int .i64 q,u7,u8,.int .i64 n]∧IB B F u1 gl∧IB B F u2 ol∧IB B F u7 tl∧IB B F u8 ql∧Ext w F∧(∀g,g≠r→F.heap[g]?=W.heap[g]?)∧F.heap.size=W.heap.size:=by
 have hk:∀{W':World} (j:Nat) (y:Value) (g:Nat),g≠r→(W'.setCell ⟨r,j,none⟩ y).heap[g]?=W'.heap[g]?:=fun j y g hg=>Below.heap_setCell _ _ _ _ (fun e=>hg e)
 have b0:=hR.set 0 (.int .i64 k)
 have b1:=b0.set 1 u1
 have b2:=b1.set 2 u2
 have b3:=b2.set 3 (.int .i64 a)
 have b4:=b3.set 4 (.int .i64 b)
 have b5:=b4.set 5 (.int .i64 s)
 have b6:=b5.set 6 (.int .i64 q)
 have b7:=b6.set 7 u7
 have b8:=b7.set 8 u8
 have b9:=b8.set 9 (.int .i64 n)
 have bX:=set_ten b9
 clear b0 b1 b2 b3 b4 b5 b6 b7 b8 b9
 have so:∀{W':World} (j:Nat) (y:Value),(W'.setCell ⟨r,j,none⟩ y).os=W'.os:=fun _ _=>rfl
 have st:∀{W':World} (j:Nat) (y:Value),(W'.setCell ⟨r,j,none⟩ y).tape=W'.tape:=fun _ _=>rfl
 have su:∀{W':World} (j:Nat) (y:Value),(W'.setCell ⟨r,j,none⟩ y).output=W'.output:=fun _ _=>rfl
 have so2:((World.setCell (World.setCell (World.setCell (World.setCell (World.setCell (World.setCell (World.setCell (World.setCell (World.setCell (World.setCell W ⟨r,0,none⟩ (.int .i64 k)) ⟨r,1,none⟩ u1) ⟨r,2,none⟩ u2) ⟨r,3,none⟩ (.int .i64 a)) ⟨r,4,none⟩ (.int .i64 b)) ⟨r,5,none⟩ (.int .i64 s)) ⟨r,6,none⟩ (.int .i64 q)) ⟨r,7,none⟩ u7) ⟨r,8,none⟩ u8) ⟨r,9,none⟩ (.int .i64 n))).os=W.os:=by simp only[so]
 have st2:((World.setCell (World.setCell (World.setCell (World.setCell (World.setCell (World.setCell (World.setCell (World.setCell (World.setCell (World.setCell W ⟨r,0,none⟩ (.int .i64 k)) ⟨r,1,none⟩ u1) ⟨r,2,none⟩ u2) ⟨r,3,none⟩ (.int .i64 a)) ⟨r,4,none⟩ (.int .i64 b)) ⟨r,5,none⟩ (.int .i64 s)) ⟨r,6,none⟩ (.int .i64 q)) ⟨r,7,none⟩ u7) ⟨r,8,none⟩ u8) ⟨r,9,none⟩ (.int .i64 n))).tape=W.tape:=by simp only[st]
 have su2:((World.setCell (World.setCell (World.setCell (World.setCell (World.setCell (World.setCell (World.setCell (World.setCell (World.setCell (World.setCell W ⟨r,0,none⟩ (.int .i64 k)) ⟨r,1,none⟩ u1) ⟨r,2,none⟩ u2) ⟨r,3,none⟩ (.int .i64 a)) ⟨r,4,none⟩ (.int .i64 b)) ⟨r,5,none⟩ (.int .i64 s)) ⟨r,6,none⟩ (.int .i64 q)) ⟨r,7,none⟩ u7) ⟨r,8,none⟩ u8) ⟨r,9,none⟩ (.int .i64 n))).output=W.output:=by simp only[su]
 have sz:((World.setCell (World.setCell (World.setCell (World.setCell (World.setCell (World.setCell (World.setCell (World.setCell (World.setCell (World.setCell W ⟨r,0,none⟩ (.int .i64 k)) ⟨r,1,none⟩ u1) ⟨r,2,none⟩ u2) ⟨r,3,none⟩ (.int .i64 a)) ⟨r,4,none⟩ (.int .i64 b)) ⟨r,5,none⟩ (.int .i64 s)) ⟨r,6,none⟩ (.int .i64 q)) ⟨r,7,none⟩ u7) ⟨r,8,none⟩ u8) ⟨r,9,none⟩ (.int .i64 n))).heap.size=W.heap.size:=by simp
 have hk2:∀g,g≠r→((World.setCell (World.setCell (World.setCell (World.setCell (World.setCell (World.setCell (World.setCell (World.setCell (World.setCell (World.setCell W ⟨r,0,none⟩ (.int .i64 k)) ⟨r,1,none⟩ u1) ⟨r,2,none⟩ u2) ⟨r,3,none⟩ (.int .i64 a)) ⟨r,4,none⟩ (.int .i64 b)) ⟨r,5,none⟩ (.int .i64 s)) ⟨r,6,none⟩ (.int .i64 q)) ⟨r,7,none⟩ u7) ⟨r,8,none⟩ u8) ⟨r,9,none⟩ (.int .i64 n))).heap[g]?=W.heap[g]?:=fun g hg=>by rw[hk 9 _ g hg,hk 8 _ g hg,hk 7 _ g hg,hk 6 _ g hg,hk 5 _ g hg,hk 4 _ g hg,hk 3 _ g hg,hk 2 _ g hg,hk 1 _ g hg,hk 0 _ g hg]
 refine⟨_,rfl,?_⟩
 generalize (World.setCell (World.setCell (World.setCell (World.setCell (World.setCell (World.setCell (World.setCell (World.setCell (World.setCell (World.setCell W ⟨r,0,none⟩ (.int .i64 k)) ⟨r,1,none⟩ u1) ⟨r,2,none⟩ u2) ⟨r,3,none⟩ (.int .i64 a)) ⟨r,4,none⟩ (.int .i64 b)) ⟨r,5,none⟩ (.int .i64 s)) ⟨r,6,none⟩ (.int .i64 q)) ⟨r,7,none⟩ u7) ⟨r,8,none⟩ u8) ⟨r,9,none⟩ (.int .i64 n))=F at bX so2 st2 su2 sz hk2 ⊢
 have kb:∀{g T cs},g≠r→Blk W g T cs→Blk F g T cs:=fun hg hb=>by unfold Blk;rw[hk2 _ hg];exact hb
 have ki:∀{v l},IB B W v l→IB B F v l:=fun i=>i.keep fun g cs hg=>kb (blkI_ne hg hR (by decide)) hg
 exact⟨bX,ki i1,ki i2,ki i3,ki i4,⟨so2.trans hE.os,st2.trans hE.tape,su2.trans hE.output,by rw[sz];exact hE.size,fun g hg=>by rw[hk2 g (by omega)];exact hE.block g hg⟩,hk2,sz⟩
theorem DrawCheckClaim_any(u:Value)(m:List Int)(w:World)(hu:Byts w u m) :
 Calls Tryz.prog 34 #[u] w fun e w'=>∃(k:Int) (a1:Option Addr) (n1:Nat) (c1:Nat) (a2:Option Addr) (n2:Nat) (c2:Nat) (a:Int) (b:Int) (s:Int) (q:Int) (a3:Option Addr) (n3:Nat) (c3:Nat) (a4:Option Addr) (n4:Nat) (c4:Nat) (n:Int) (gl ol tl ql:List Int),e=.returned (.agg #[.int .i64 k,.slice a1 n1 c1,.slice a2 n2 c2,.int .i64 a,.int .i64 b,.int .i64 s,.int .i64 q,.slice a3 n3 c3,.slice a4 n4 c4,.int .i64 n])∧IB w.heap.size w' (.slice a1 n1 c1) gl∧IB w.heap.size w' (.slice a2 n2 c2) ol∧IB w.heap.size w' (.slice a3 n3 c3) tl∧IB w.heap.size w' (.slice a4 n4 c4) ql∧Ext w w':=by
 have hE0:=(Ext.refl w).alloc (.cells #[.int .i64 0,.slice none 0 0,.slice none 0 0,.int .i64 0,.int .i64 0,.int .i64 0,.int .i64 0,.slice none 0 0,.slice none 0 0,.int .i64 0] 38)
 have hB0:=Blk.new w 38 #[.int .i64 0,.slice none 0 0,.slice none 0 0,.int .i64 0,.int .i64 0,.int .i64 0,.int .i64 0,.slice none 0 0,.slice none 0 0,.int .i64 0]
 obtain⟨wA,hwA⟩:∃x,x=w.alloc (.cells #[.int .i64 0,.slice none 0 0,.slice none 0 0,.int .i64 0,.int .i64 0,.int .i64 0,.int .i64 0,.slice none 0 0,.slice none 0 0,.int .i64 0] 38):=⟨_,rfl⟩
 have hsA:w.heap.size<wA.heap.size:=by rw[hwA];simp
 rw[←hwA] at hE0 hB0
 have HwA:=Lib.hid hwA
 clear hwA
 go_enter Tryz.func34,Tryz.ntmps34
 go_wp2_with fail
 rw[←HwA.out]
 refine (l1New_any _ _ w _ hu hE0).mono ?_
 rintro e w1 ⟨p,rfl,hC1,hE1,hpZ⟩
 have hs1:=hE1.size
 have hR1:=hB0.ext hE1
 go_wp2_with fail
 refine (l33Claim_any w w1 p u m hC1 hu).mono ?_
 rintro e w2 ⟨k,a1,n1,c1,a2,n2,c2,a,b,s,q,a3,n3,c3,a4,n4,c4,n,gl,ol,tl,ql,rfl,i1,i2,i3,i4,hC2,hF2⟩
 have hR:=hF2.blk hR1 (by omega)
 have low:∀{v l},IB w1.heap.size w2 v l→IB w.heap.size w2 v l:=fun i=>i.low (by omega)
 obtain⟨F,hF,hBF,j1,j2,j3,j4,hEF,-,-⟩:=store10 (w:=w) (k:=k) (a:=a) (b:=b) (s:=s) (q:=q) (n:=n) hR (low i1) (low i2) (low i3) (low i4) hC2.base (Nat.le_refl _)
 have r0:=hR.cell (i:=0) rfl
 have f0:=hR.free 0
 have r1:=hR.cell (i:=1) rfl
 have f1:=hR.free 1
 have r2:=hR.cell (i:=2) rfl
 have f2:=hR.free 2
 have r3:=hR.cell (i:=3) rfl
 have f3:=hR.free 3
 have r4:=hR.cell (i:=4) rfl
 have f4:=hR.free 4
 have r5:=hR.cell (i:=5) rfl
 have f5:=hR.free 5
 have r6:=hR.cell (i:=6) rfl
 have f6:=hR.free 6
 have r7:=hR.cell (i:=7) rfl
 have f7:=hR.free 7
 have r8:=hR.cell (i:=8) rfl
 have f8:=hR.free 8
 have r9:=hR.cell (i:=9) rfl
 have f9:=hR.free 9
 go_wp2_with fail
 rw[←hF]
 have q0:=hBF.cell (i:=0) (v:=.int .i64 k) rfl
 have q1:=hBF.cell (i:=1) (v:=.slice a1 n1 c1) rfl
 have q2:=hBF.cell (i:=2) (v:=.slice a2 n2 c2) rfl
 have q3:=hBF.cell (i:=3) (v:=.int .i64 a) rfl
 have q4:=hBF.cell (i:=4) (v:=.int .i64 b) rfl
 have q5:=hBF.cell (i:=5) (v:=.int .i64 s) rfl
 have q6:=hBF.cell (i:=6) (v:=.int .i64 q) rfl
 have q7:=hBF.cell (i:=7) (v:=.slice a3 n3 c3) rfl
 have q8:=hBF.cell (i:=8) (v:=.slice a4 n4 c4) rfl
 have q9:=hBF.cell (i:=9) (v:=.int .i64 n) rfl
 refine bodyPost_ret (v:=.agg #[.int .i64 k,.slice a1 n1 c1,.slice a2 n2 c2,.int .i64 a,.int .i64 b,.int .i64 s,.int .i64 q,.slice a3 n3 c3,.slice a4 n4 c4,.int .i64 n]) ?_ rfl ?_
 · simp[results,Tryz.results34,go_sem,q0,q1,q2,q3,q4,q5,q6,q7,q8,q9]
 · exact⟨k,a1,n1,c1,a2,n2,c2,a,b,s,q,a3,n3,c3,a4,n4,c4,n,gl,ol,tl,ql,rfl,j1,j2,j3,j4,hEF⟩
theorem IB.keepR{B:Nat}{W F:World}{r:Nat}{cs:Array Value}{v:Value}{l:List Int}(h:IB B W v l)(hR:Blk W r 38 cs)(hk:∀g,g≠r→F.heap[g]?=W.heap[g]?):IB B F v l :=
 h.keep fun g cs' hg=>by unfold Blk;rw[hk _ (blkI_ne hg hR (by decide))];exact hg
theorem blk_keep{W F:World}{r g:Nat}{T:TypeId}{cs:Array Value}(h:Blk W g T cs)(hn:g≠r)(hk:∀g,g≠r→F.heap[g]?=W.heap[g]?):Blk F g T cs:=by unfold Blk;rw[hk _ hn];exact h
theorem DrawEqualClaims_any(u:Value)(m:List Int)(w:World)(hu:Byts w u m) :
 Calls Tryz.prog 43 #[u] w fun e w'=>∃(k:Int) (a1:Option Addr) (n1:Nat) (c1:Nat) (a2:Option Addr) (n2:Nat) (c2:Nat) (a:Int) (b:Int) (s:Int) (q:Int) (a3:Option Addr) (n3:Nat) (c3:Nat) (a4:Option Addr) (n4:Nat) (c4:Nat) (n:Int) (gl ol tl ql:List Int) (kz:Int) (a1z:Option Addr) (n1z:Nat) (c1z:Nat) (a2z:Option Addr) (n2z:Nat) (c2z:Nat) (az:Int) (bz:Int) (sz:Int) (qz:Int) (a3z:Option Addr) (n3z:Nat) (c3z:Nat) (a4z:Option Addr) (n4z:Nat) (c4z:Nat) (nz:Int) (gy oy ty qy:List Int),e=.returned (.tuple #[.agg #[.int .i64 k,.slice a1 n1 c1,.slice a2 n2 c2,.int .i64 a,.int .i64 b,.int .i64 s,.int .i64 q,.slice a3 n3 c3,.slice a4 n4 c4,.int .i64 n],.agg #[.int .i64 kz,.slice a1z n1z c1z,.slice a2z n2z c2z,.int .i64 az,.int .i64 bz,.int .i64 sz,.int .i64 qz,.slice a3z n3z c3z,.slice a4z n4z c4z,.int .i64 nz]])∧IB w.heap.size w' (.slice a1 n1 c1) gl∧IB w.heap.size w' (.slice a2 n2 c2) ol∧IB w.heap.size w' (.slice a3 n3 c3) tl∧IB w.heap.size w' (.slice a4 n4 c4) ql∧IB w.heap.size w' (.slice a1z n1z c1z) gy∧IB w.heap.size w' (.slice a2z n2z c2z) oy∧IB w.heap.size w' (.slice a3z n3z c3z) ty∧IB w.heap.size w' (.slice a4z n4z c4z) qy∧Ext w w':=by
 have hE0:=((Ext.refl w).alloc (.cells #[.int .i64 0,.slice none 0 0,.slice none 0 0,.int .i64 0,.int .i64 0,.int .i64 0,.int .i64 0,.slice none 0 0,.slice none 0 0,.int .i64 0] 38)).alloc (.cells #[.int .i64 0,.slice none 0 0,.slice none 0 0,.int .i64 0,.int .i64 0,.int .i64 0,.int .i64 0,.slice none 0 0,.slice none 0 0,.int .i64 0] 38)
 have hs0:(w.alloc (.cells #[.int .i64 0,.slice none 0 0,.slice none 0 0,.int .i64 0,.int .i64 0,.int .i64 0,.int .i64 0,.slice none 0 0,.slice none 0 0,.int .i64 0] 38)).heap.size=w.heap.size+1:=by simp
 have hA0:=(Blk.new w 38 #[.int .i64 0,.slice none 0 0,.slice none 0 0,.int .i64 0,.int .i64 0,.int .i64 0,.int .i64 0,.slice none 0 0,.slice none 0 0,.int .i64 0]).alloc (.cells #[.int .i64 0,.slice none 0 0,.slice none 0 0,.int .i64 0,.int .i64 0,.int .i64 0,.int .i64 0,.slice none 0 0,.slice none 0 0,.int .i64 0] 38)
 have hB0:=Blk.new (w.alloc (.cells #[.int .i64 0,.slice none 0 0,.slice none 0 0,.int .i64 0,.int .i64 0,.int .i64 0,.int .i64 0,.slice none 0 0,.slice none 0 0,.int .i64 0] 38)) 38 #[.int .i64 0,.slice none 0 0,.slice none 0 0,.int .i64 0,.int .i64 0,.int .i64 0,.int .i64 0,.slice none 0 0,.slice none 0 0,.int .i64 0]
 rw[hs0] at hB0
 obtain⟨wA,hwA⟩:∃x,x=(w.alloc (.cells #[.int .i64 0,.slice none 0 0,.slice none 0 0,.int .i64 0,.int .i64 0,.int .i64 0,.int .i64 0,.slice none 0 0,.slice none 0 0,.int .i64 0] 38)).alloc (.cells #[.int .i64 0,.slice none 0 0,.slice none 0 0,.int .i64 0,.int .i64 0,.int .i64 0,.int .i64 0,.slice none 0 0,.slice none 0 0,.int .i64 0] 38):=⟨_,rfl⟩
 have hsA:wA.heap.size=w.heap.size+2:=by rw[hwA];simp
 rw[←hwA] at hE0 hB0 hA0
 have HwA:=Lib.hid hwA
 clear hwA hs0
 go_enter Tryz.func43,Tryz.ntmps43
 go_wp2_with fail
 rw[←HwA.out]
 refine (l1New_any _ _ w _ hu hE0).mono ?_
 rintro e w1 ⟨p,rfl,hC1,hE1,hpZ⟩
 have hs1:=hE1.size
 have hA1:=hA0.ext hE1
 have hB1:=hB0.ext hE1
 go_wp2_with fail
 refine (l33Claim_any w w1 p u m hC1 hu).mono ?_
 rintro e w2 ⟨k,a1,n1,c1,a2,n2,c2,a,b,s,q,a3,n3,c3,a4,n4,c4,n,gl,ol,tl,ql,rfl,i1,i2,i3,i4,hC2,hF2⟩
 have low:∀{v l},IB w1.heap.size w2 v l→IB w.heap.size w2 v l:=fun i=>i.low (by omega)
 have e23:=(Ext.refl w2).alloc (.cells #[.int .i64 k,.slice a1 n1 c1,.slice a2 n2 c2,.int .i64 a,.int .i64 b,.int .i64 s,.int .i64 q,.slice a3 n3 c3,.slice a4 n4 c4,.int .i64 n] 38)
 have hs2:=hF2.size
 have hA3:=(hF2.blk hA1 (by omega)).ext e23
 have hB3:=(hF2.blk hB1 (by omega)).ext e23
 have hX3:=Blk.new w2 38 #[.int .i64 k,.slice a1 n1 c1,.slice a2 n2 c2,.int .i64 a,.int .i64 b,.int .i64 s,.int .i64 q,.slice a3 n3 c3,.slice a4 n4 c4,.int .i64 n]
 have j1:=(low i1).ext e23
 have j2:=(low i2).ext e23
 have j3:=(low i3).ext e23
 have j4:=(low i4).ext e23
 have hC3:=hC2.ext e23
 obtain⟨w3,hw3⟩:∃x,x=w2.alloc (.cells #[.int .i64 k,.slice a1 n1 c1,.slice a2 n2 c2,.int .i64 a,.int .i64 b,.int .i64 s,.int .i64 q,.slice a3 n3 c3,.slice a4 n4 c4,.int .i64 n] 38):=⟨_,rfl⟩
 obtain⟨x,hx⟩:∃x,x=w2.heap.size:=⟨_,rfl⟩
 rw[←hw3] at hA3 hB3 hX3 j1 j2 j3 j4 hC3
 rw[←hx] at hX3
 have Hw3:=Lib.hid hw3
 have Hx:=Lib.hid hx
 have hp2:=hC2.lt
 have nxp:x≠p:=by omega
 have nx0:x≠w.heap.size:=by omega
 have nx1:x≠w.heap.size+1:=by omega
 have n0p:w.heap.size≠p:=by omega
 have n1p:w.heap.size+1≠p:=by omega
 clear hw3 hx i1 i2 i3 i4 low e23 hE0 hA0 hB0 hE1 hA1 hB1 hC1 hC2 hF2 hs2
 go_wp2_with fail
 rw[←Hw3.out,←Hx.out]
 refine (l1Once_any w _ p 2 (by omega) hC3).mono ?_
 rintro e w4 ⟨bb,rfl,hC4,hF4⟩
 have hA4:=hF4.blk hA3 n0p
 have hB4:=hF4.blk hB3 n1p
 have hX4:=hF4.blk hX3 nxp
 replace j1:=j1.drw hF4 hC3
 replace j2:=j2.drw hF4 hC3
 replace j3:=j3.drw hF4 hC3
 replace j4:=j4.drw hF4 hC3
 have kx:∀W,Blk W x 38 #[.int .i64 k,.slice a1 n1 c1,.slice a2 n2 c2,.int .i64 a,.int .i64 b,.int .i64 s,.int .i64 q,.slice a3 n3 c3,.slice a4 n4 c4,.int .i64 n]→W.cell? ⟨x,0,none⟩=some (.int .i64 k)∧W.cell? ⟨x,1,none⟩=some (.slice a1 n1 c1)∧W.cell? ⟨x,2,none⟩=some (.slice a2 n2 c2)∧W.cell? ⟨x,3,none⟩=some (.int .i64 a)∧W.cell? ⟨x,4,none⟩=some (.int .i64 b)∧W.cell? ⟨x,5,none⟩=some (.int .i64 s)∧W.cell? ⟨x,6,none⟩=some (.int .i64 q)∧W.cell? ⟨x,7,none⟩=some (.slice a3 n3 c3)∧W.cell? ⟨x,8,none⟩=some (.slice a4 n4 c4)∧W.cell? ⟨x,9,none⟩=some (.int .i64 n):=fun W h=>⟨h.cell (i:=0) (v:=.int .i64 k) rfl,h.cell (i:=1) (v:=.slice a1 n1 c1) rfl,h.cell (i:=2) (v:=.slice a2 n2 c2) rfl,h.cell (i:=3) (v:=.int .i64 a) rfl,h.cell (i:=4) (v:=.int .i64 b) rfl,h.cell (i:=5) (v:=.int .i64 s) rfl,h.cell (i:=6) (v:=.int .i64 q) rfl,h.cell (i:=7) (v:=.slice a3 n3 c3) rfl,h.cell (i:=8) (v:=.slice a4 n4 c4) rfl,h.cell (i:=9) (v:=.int .i64 n) rfl⟩
 clear hA3 hB3 hX3 hC3 hF4
 cases bb
 · go_upto_region 5 with fail
   have hCD:=hC4.ext ((Ext.refl w4).drew)
   have kx0:=kx _ hX4.drew
   have kx5:=True.intro
   have kx1:=True.intro
   have kx2:=True.intro
   refine wp_region_held_drew (S:=(fun W=>W.cell? ⟨x,0,none⟩=some (.int .i64 k)∧W.cell? ⟨x,1,none⟩=some (.slice a1 n1 c1)∧W.cell? ⟨x,2,none⟩=some (.slice a2 n2 c2)∧W.cell? ⟨x,3,none⟩=some (.int .i64 a)∧W.cell? ⟨x,4,none⟩=some (.int .i64 b)∧W.cell? ⟨x,5,none⟩=some (.int .i64 s)∧W.cell? ⟨x,6,none⟩=some (.int .i64 q)∧W.cell? ⟨x,7,none⟩=some (.slice a3 n3 c3)∧W.cell? ⟨x,8,none⟩=some (.slice a4 n4 c4)∧W.cell? ⟨x,9,none⟩=some (.int .i64 n))) (by kernel_rfl) (by exact kx0) (fun hHeld=>?_)
   (refine takeOn (i:=0) (v:=?_) (by kernel_rfl) (by rfl) (by rfl) (by kernel_rfl) (by kernel_rfl) (by intro _ _ _ h;exact h) ?_ (by assumption) ?_);(rotate_left 1);(focus ((intro w hSw);(try dsimp only at hSw);go_simp;(try with_reducible rfl)));(try simp only[Act.put,List.setIfInBounds_toArray,List.set_cons_zero,List.set_cons_succ,List.getElem_toArray,List.getElem_cons_zero,List.getElem_cons_succ])
   (refine takeOn (i:=1) (v:=?_) (by kernel_rfl) (by rfl) (by rfl) (by kernel_rfl) (by kernel_rfl) (by intro _ _ _ h;exact h) ?_ (by assumption) ?_);(rotate_left 1);(focus ((intro w hSw);(try dsimp only at hSw);go_simp;(try with_reducible rfl)));(try simp only[Act.put,List.setIfInBounds_toArray,List.set_cons_zero,List.set_cons_succ,List.getElem_toArray,List.getElem_cons_zero,List.getElem_cons_succ])
   (refine takeOn (i:=2) (v:=?_) (by kernel_rfl) (by rfl) (by rfl) (by kernel_rfl) (by kernel_rfl) (by intro _ _ _ h;exact h) ?_ (by assumption) ?_);(rotate_left 1);(focus ((intro w hSw);(try dsimp only at hSw);go_simp;(try with_reducible rfl)));(try simp only[Act.put,List.setIfInBounds_toArray,List.set_cons_zero,List.set_cons_succ,List.getElem_toArray,List.getElem_cons_zero,List.getElem_cons_succ])
   refine takeOne (i:=3) (by kernel_rfl) (by rfl) (by rfl) (fun K hK=>?_)
   go_simp;(go_at_call 116;(with_reducible refine Calls.mono (l33Claim_any w _ p u m hCD hu) ?_);rintro e w5 ⟨kz,a1z,n1z,c1z,a2z,n2z,c2z,az,bz,sz,qz,a3z,n3z,c3z,a4z,n4z,c4z,nz,gy,oy,ty,qy,rfl,z1,z2,z3,z4,hC5,hF5⟩);have hs5:=hCD.lt;have hA5:=hF5.blk hA4.drew n0p;have hB5:=hF5.blk hB4.drew n1p;have hX5:=hF5.blk hX4.drew nxp;have kx5:=kx _ hX5;have m1:=(j1.ext ((Ext.refl w4).drew)).drw hF5 hCD;have m2:=(j2.ext ((Ext.refl w4).drew)).drw hF5 hCD;have m3:=(j3.ext ((Ext.refl w4).drew)).drw hF5 hCD;have m4:=(j4.ext ((Ext.refl w4).drew)).drw hF5 hCD;obtain⟨F1,hF1,hBF1,p1,p2,p3,p4,hE1,hk1,hs1⟩:=store10 (w:=w) (k:=k) (a:=a) (b:=b) (s:=s) (q:=q) (n:=n) hA5 m1 m2 m3 m4 hC5.base (Nat.le_refl _);have hX1:=blk_keep hX5 nx0 hk1;have hB1:=blk_keep hB5 (show w.heap.size+1≠w.heap.size by omega) hk1;have low5:w.heap.size≤w4.drew.heap.size:=(by have:=hCD.base.size;omega);have y1:=(z1.low low5).keepR hA5 hk1;have y2:=(z2.low low5).keepR hA5 hk1;have y3:=(z3.low low5).keepR hA5 hk1;have y4:=(z4.low low5).keepR hA5 hk1;obtain⟨F2,hF2,hBF2,s1,s2,s3,s4,hE2,hk2,hs2⟩:=store10 (w:=w) (k:=kz) (a:=az) (b:=bz) (s:=sz) (q:=qz) (n:=nz) hB1 y1 y2 y3 y4 hE1 (by omega);have hX2:=blk_keep hX1 nx1 hk2;have hA2:=blk_keep hBF1 (show w.heap.size≠w.heap.size+1 by omega) hk2;have q1:=p1.keepR hB1 hk2;have q2:=p2.keepR hB1 hk2;have q3:=p3.keepR hB1 hk2;have q4:=p4.keepR hB1 hk2;have kx1:=kx _ hX1;have kx2:=kx _ hX2;have HF1:=Lib.hid hF1;have HF2:=Lib.hid hF2;clear hk1 hk2 hs1 hs2 hF1 hF2 z1 z2 z3 z4 m1 m2 m3 m4 y1 y2 y3 y4 p1 p2 p3 p4
   refine hK.out _ _ (by first | with_reducible exact kx0 | with_reducible exact kx5 | with_reducible exact kx1 | with_reducible exact kx2) (fun hHeld=>?_)
   clear hK K
   (try simp only[Act.put,List.setIfInBounds_toArray,List.set_cons_zero,List.set_cons_succ,List.getElem_toArray,List.getElem_cons_zero,List.getElem_cons_succ])
   refine takeOne (i:=4) (by kernel_rfl) (by rfl) (by rfl) (fun K hK=>?_)
   have tc0:=hA5.cell (i:=0) rfl;have tf0:=hA5.free 0;have tc1:=hA5.cell (i:=1) rfl;have tf1:=hA5.free 1;have tc2:=hA5.cell (i:=2) rfl;have tf2:=hA5.free 2;have tc3:=hA5.cell (i:=3) rfl;have tf3:=hA5.free 3;have tc4:=hA5.cell (i:=4) rfl;have tf4:=hA5.free 4;have tc5:=hA5.cell (i:=5) rfl;have tf5:=hA5.free 5;have tc6:=hA5.cell (i:=6) rfl;have tf6:=hA5.free 6;have tc7:=hA5.cell (i:=7) rfl;have tf7:=hA5.free 7;have tc8:=hA5.cell (i:=8) rfl;have tf8:=hA5.free 8;have tc9:=hA5.cell (i:=9) rfl;have tf9:=hA5.free 9;go_simp;rw[←HF1.out]
   refine hK.out _ _ (by first | with_reducible exact kx0 | with_reducible exact kx5 | with_reducible exact kx1 | with_reducible exact kx2) (fun hHeld=>?_)
   clear hK K
   (try simp only[Act.put,List.setIfInBounds_toArray,List.set_cons_zero,List.set_cons_succ,List.getElem_toArray,List.getElem_cons_zero,List.getElem_cons_succ])
   refine takeOne (i:=5) (by kernel_rfl) (by rfl) (by rfl) (fun K hK=>?_)
   have vc0:=hB1.cell (i:=0) rfl;have vf0:=hB1.free 0;have vc1:=hB1.cell (i:=1) rfl;have vf1:=hB1.free 1;have vc2:=hB1.cell (i:=2) rfl;have vf2:=hB1.free 2;have vc3:=hB1.cell (i:=3) rfl;have vf3:=hB1.free 3;have vc4:=hB1.cell (i:=4) rfl;have vf4:=hB1.free 4;have vc5:=hB1.cell (i:=5) rfl;have vf5:=hB1.free 5;have vc6:=hB1.cell (i:=6) rfl;have vf6:=hB1.free 6;have vc7:=hB1.cell (i:=7) rfl;have vf7:=hB1.free 7;have vc8:=hB1.cell (i:=8) rfl;have vf8:=hB1.free 8;have vc9:=hB1.cell (i:=9) rfl;have vf9:=hB1.free 9;go_simp;rw[←HF2.out]
   refine hK.out _ _ (by first | with_reducible exact kx0 | with_reducible exact kx5 | with_reducible exact kx1 | with_reducible exact kx2) (fun hHeld=>?_)
   clear hK K
   (try simp only[Act.put,List.setIfInBounds_toArray,List.set_cons_zero,List.set_cons_succ,List.getElem_toArray,List.getElem_cons_zero,List.getElem_cons_succ])
   refine wpAnyH_done (by kernel_rfl) ?_ _
   have qa0:=hA2.cell (i:=0) (v:=.int .i64 k) rfl;have qb0:=hBF2.cell (i:=0) (v:=.int .i64 kz) rfl;have qa1:=hA2.cell (i:=1) (v:=.slice a1 n1 c1) rfl;have qb1:=hBF2.cell (i:=1) (v:=.slice a1z n1z c1z) rfl;have qa2:=hA2.cell (i:=2) (v:=.slice a2 n2 c2) rfl;have qb2:=hBF2.cell (i:=2) (v:=.slice a2z n2z c2z) rfl;have qa3:=hA2.cell (i:=3) (v:=.int .i64 a) rfl;have qb3:=hBF2.cell (i:=3) (v:=.int .i64 az) rfl;have qa4:=hA2.cell (i:=4) (v:=.int .i64 b) rfl;have qb4:=hBF2.cell (i:=4) (v:=.int .i64 bz) rfl;have qa5:=hA2.cell (i:=5) (v:=.int .i64 s) rfl;have qb5:=hBF2.cell (i:=5) (v:=.int .i64 sz) rfl;have qa6:=hA2.cell (i:=6) (v:=.int .i64 q) rfl;have qb6:=hBF2.cell (i:=6) (v:=.int .i64 qz) rfl;have qa7:=hA2.cell (i:=7) (v:=.slice a3 n3 c3) rfl;have qb7:=hBF2.cell (i:=7) (v:=.slice a3z n3z c3z) rfl;have qa8:=hA2.cell (i:=8) (v:=.slice a4 n4 c4) rfl;have qb8:=hBF2.cell (i:=8) (v:=.slice a4z n4z c4z) rfl;have qa9:=hA2.cell (i:=9) (v:=.int .i64 n) rfl;have qb9:=hBF2.cell (i:=9) (v:=.int .i64 nz) rfl
   go_wp2_with fail
   refine bodyPost_ret (v:=.tuple #[.agg #[.int .i64 k,.slice a1 n1 c1,.slice a2 n2 c2,.int .i64 a,.int .i64 b,.int .i64 s,.int .i64 q,.slice a3 n3 c3,.slice a4 n4 c4,.int .i64 n],.agg #[.int .i64 kz,.slice a1z n1z c1z,.slice a2z n2z c2z,.int .i64 az,.int .i64 bz,.int .i64 sz,.int .i64 qz,.slice a3z n3z c3z,.slice a4z n4z c4z,.int .i64 nz]]) ?_ rfl ?_
   · simp[results,Tryz.results43,go_sem,qa0,qb0,qa1,qb1,qa2,qb2,qa3,qb3,qa4,qb4,qa5,qb5,qa6,qb6,qa7,qb7,qa8,qb8,qa9,qb9]
   · exact⟨k,a1,n1,c1,a2,n2,c2,a,b,s,q,a3,n3,c3,a4,n4,c4,n,gl,ol,tl,ql,kz,a1z,n1z,c1z,a2z,n2z,c2z,az,bz,sz,qz,a3z,n3z,c3z,a4z,n4z,c4z,nz,gy,oy,ty,qy,rfl,q1,q2,q3,q4,s1,s2,s3,s4,hE2⟩
 · go_upto_region 4 with fail
   obtain⟨F1,hF1,hBF1,p1,p2,p3,p4,hE1,hk1,hs1⟩:=store10 (w:=w) (k:=k) (a:=a) (b:=b) (s:=s) (q:=q) (n:=n) hA4 j1 j2 j3 j4 hC4.base (Nat.le_refl _)
   have hX1:=blk_keep hX4 nx0 hk1
   have hB1:=blk_keep hB4 (show w.heap.size+1≠w.heap.size by omega) hk1
   obtain⟨F2,hF2,hBF2,q1,q2,q3,q4,hE2,hk2,hs2⟩:=store10 (w:=w) (k:=k) (a:=a) (b:=b) (s:=s) (q:=q) (n:=n) hB1 p1 p2 p3 p4 hE1 (by omega)
   have hX2:=blk_keep hX1 nx1 hk2
   have hA2:=blk_keep hBF1 (show w.heap.size≠w.heap.size+1 by omega) hk2
   have kx0:=kx _ hX4.drew
   have kx1:=kx _ hX1.drew
   have kx2:=kx _ hX2.drew
   have HF1:=Lib.hid hF1
   have HF2:=Lib.hid hF2
   clear hk1 hk2 hs1 hs2 hF1 hF2
   refine wp_region_held_drew (S:=(fun W=>W.cell? ⟨x,0,none⟩=some (.int .i64 k)∧W.cell? ⟨x,1,none⟩=some (.slice a1 n1 c1)∧W.cell? ⟨x,2,none⟩=some (.slice a2 n2 c2)∧W.cell? ⟨x,3,none⟩=some (.int .i64 a)∧W.cell? ⟨x,4,none⟩=some (.int .i64 b)∧W.cell? ⟨x,5,none⟩=some (.int .i64 s)∧W.cell? ⟨x,6,none⟩=some (.int .i64 q)∧W.cell? ⟨x,7,none⟩=some (.slice a3 n3 c3)∧W.cell? ⟨x,8,none⟩=some (.slice a4 n4 c4)∧W.cell? ⟨x,9,none⟩=some (.int .i64 n))) (by kernel_rfl) (by exact kx0) (fun hHeld=>?_)
   (refine takeOn (i:=0) (v:=?_) (by kernel_rfl) (by rfl) (by rfl) (by kernel_rfl) (by kernel_rfl) (by intro _ _ _ h;exact h) ?_ (by assumption) ?_);(rotate_left 1);(focus ((intro w hSw);(try dsimp only at hSw);go_simp;(try with_reducible rfl)));(try simp only[Act.put,List.setIfInBounds_toArray,List.set_cons_zero,List.set_cons_succ,List.getElem_toArray,List.getElem_cons_zero,List.getElem_cons_succ])
   (refine takeOn (i:=1) (v:=?_) (by kernel_rfl) (by rfl) (by rfl) (by kernel_rfl) (by kernel_rfl) (by intro _ _ _ h;exact h) ?_ (by assumption) ?_);(rotate_left 1);(focus ((intro w hSw);(try dsimp only at hSw);go_simp;(try with_reducible rfl)));(try simp only[Act.put,List.setIfInBounds_toArray,List.set_cons_zero,List.set_cons_succ,List.getElem_toArray,List.getElem_cons_zero,List.getElem_cons_succ])
   refine takeOne (i:=2) (by kernel_rfl) (by rfl) (by rfl) (fun K hK=>?_)
   have tc0:=hA4.cell (i:=0) rfl;have tf0:=hA4.free 0;have tc1:=hA4.cell (i:=1) rfl;have tf1:=hA4.free 1;have tc2:=hA4.cell (i:=2) rfl;have tf2:=hA4.free 2;have tc3:=hA4.cell (i:=3) rfl;have tf3:=hA4.free 3;have tc4:=hA4.cell (i:=4) rfl;have tf4:=hA4.free 4;have tc5:=hA4.cell (i:=5) rfl;have tf5:=hA4.free 5;have tc6:=hA4.cell (i:=6) rfl;have tf6:=hA4.free 6;have tc7:=hA4.cell (i:=7) rfl;have tf7:=hA4.free 7;have tc8:=hA4.cell (i:=8) rfl;have tf8:=hA4.free 8;have tc9:=hA4.cell (i:=9) rfl;have tf9:=hA4.free 9;go_simp;rw[←HF1.out]
   refine hK.out _ _ (by first | with_reducible exact kx0 | with_reducible exact kx1 | with_reducible exact kx2) (fun hHeld=>?_)
   clear hK K
   (try simp only[Act.put,List.setIfInBounds_toArray,List.set_cons_zero,List.set_cons_succ,List.getElem_toArray,List.getElem_cons_zero,List.getElem_cons_succ])
   refine takeOne (i:=3) (by kernel_rfl) (by rfl) (by rfl) (fun K hK=>?_)
   have vc0:=hB1.cell (i:=0) rfl;have vf0:=hB1.free 0;have vc1:=hB1.cell (i:=1) rfl;have vf1:=hB1.free 1;have vc2:=hB1.cell (i:=2) rfl;have vf2:=hB1.free 2;have vc3:=hB1.cell (i:=3) rfl;have vf3:=hB1.free 3;have vc4:=hB1.cell (i:=4) rfl;have vf4:=hB1.free 4;have vc5:=hB1.cell (i:=5) rfl;have vf5:=hB1.free 5;have vc6:=hB1.cell (i:=6) rfl;have vf6:=hB1.free 6;have vc7:=hB1.cell (i:=7) rfl;have vf7:=hB1.free 7;have vc8:=hB1.cell (i:=8) rfl;have vf8:=hB1.free 8;have vc9:=hB1.cell (i:=9) rfl;have vf9:=hB1.free 9;go_simp;rw[←HF2.out]
   refine hK.out _ _ (by first | with_reducible exact kx0 | with_reducible exact kx1 | with_reducible exact kx2) (fun hHeld=>?_)
   clear hK K
   (try simp only[Act.put,List.setIfInBounds_toArray,List.set_cons_zero,List.set_cons_succ,List.getElem_toArray,List.getElem_cons_zero,List.getElem_cons_succ])
   refine wpAnyH_done (by kernel_rfl) ?_ _
   have qa0:=hA2.cell (i:=0) (v:=.int .i64 k) rfl;have qb0:=hBF2.cell (i:=0) (v:=.int .i64 k) rfl;have qa1:=hA2.cell (i:=1) (v:=.slice a1 n1 c1) rfl;have qb1:=hBF2.cell (i:=1) (v:=.slice a1 n1 c1) rfl;have qa2:=hA2.cell (i:=2) (v:=.slice a2 n2 c2) rfl;have qb2:=hBF2.cell (i:=2) (v:=.slice a2 n2 c2) rfl;have qa3:=hA2.cell (i:=3) (v:=.int .i64 a) rfl;have qb3:=hBF2.cell (i:=3) (v:=.int .i64 a) rfl;have qa4:=hA2.cell (i:=4) (v:=.int .i64 b) rfl;have qb4:=hBF2.cell (i:=4) (v:=.int .i64 b) rfl;have qa5:=hA2.cell (i:=5) (v:=.int .i64 s) rfl;have qb5:=hBF2.cell (i:=5) (v:=.int .i64 s) rfl;have qa6:=hA2.cell (i:=6) (v:=.int .i64 q) rfl;have qb6:=hBF2.cell (i:=6) (v:=.int .i64 q) rfl;have qa7:=hA2.cell (i:=7) (v:=.slice a3 n3 c3) rfl;have qb7:=hBF2.cell (i:=7) (v:=.slice a3 n3 c3) rfl;have qa8:=hA2.cell (i:=8) (v:=.slice a4 n4 c4) rfl;have qb8:=hBF2.cell (i:=8) (v:=.slice a4 n4 c4) rfl;have qa9:=hA2.cell (i:=9) (v:=.int .i64 n) rfl;have qb9:=hBF2.cell (i:=9) (v:=.int .i64 n) rfl
   go_wp2_with fail
   refine bodyPost_ret (v:=.tuple #[.agg #[.int .i64 k,.slice a1 n1 c1,.slice a2 n2 c2,.int .i64 a,.int .i64 b,.int .i64 s,.int .i64 q,.slice a3 n3 c3,.slice a4 n4 c4,.int .i64 n],.agg #[.int .i64 k,.slice a1 n1 c1,.slice a2 n2 c2,.int .i64 a,.int .i64 b,.int .i64 s,.int .i64 q,.slice a3 n3 c3,.slice a4 n4 c4,.int .i64 n]]) ?_ rfl ?_
   · simp[results,Tryz.results43,go_sem,qa0,qb0,qa1,qb1,qa2,qb2,qa3,qb3,qa4,qb4,qa5,qb5,qa6,qb6,qa7,qb7,qa8,qb8,qa9,qb9]
   · exact⟨k,a1,n1,c1,a2,n2,c2,a,b,s,q,a3,n3,c3,a4,n4,c4,n,gl,ol,tl,ql,k,a1,n1,c1,a2,n2,c2,a,b,s,q,a3,n3,c3,a4,n4,c4,n,gl,ol,tl,ql,rfl,q1.ext ((Ext.refl _).drew),q2.ext ((Ext.refl _).drew),q3.ext ((Ext.refl _).drew),q4.ext ((Ext.refl _).drew),q1.ext ((Ext.refl _).drew),q2.ext ((Ext.refl _).drew),q3.ext ((Ext.refl _).drew),q4.ext ((Ext.refl _).drew),hE2.drew⟩
end Go.Zz
namespace Go.Zz
open Go.RowKit Go.Proofs
set_option maxHeartbeats 400000
def cwB(k:Int):ByteArray :=
 if k=1 then ⟨#[115,117,109]⟩ else if k=2 then ⟨#[122,101,114,111]⟩ else if k=3 then ⟨#[102,114,101,101]⟩ else if k=4 then ⟨#[116,105,108,101]⟩
 else if k=5 then ⟨#[97,108,105,107,101]⟩ else if k=6 then ⟨#[99,111,108,111,114,115]⟩ else if k=7 then ⟨#[99,111,115,101,116]⟩ else ⟨#[]⟩
theorem ClaimWord_any(k:Int)(w:World) :
 Calls Tryz.prog 48 #[.int .i64 k] w fun e w'=>e=.returned (.string (cwB k))∧Ext w w':=by
 by_cases h:1≤k∧k≤7
 · have hin:=inB_t.2 h
   have hE:=Ext.refl w
   rcases (by omega:k=1∨k=2∨k=3∨k=4∨k=5∨k=6∨k=7) with rfl | rfl | rfl | rfl | rfl | rfl | rfl
   all_goals
    go_enter Tryz.func48,Tryz.ntmps48
    go_wp2_with (first | (go_at_call 138;refine (within_any _ _ _ _).mono ?_;rintro e w' ⟨rfl,rfl⟩))
    go_ret
    exact⟨rfl,hE.alloc _⟩
 · have hin:=inB_f.2 h
   have e:cwB k=⟨#[]⟩:=by unfold cwB;rw[if_neg (by omega),if_neg (by omega),if_neg (by omega),if_neg (by omega),if_neg (by omega),if_neg (by omega),if_neg (by omega)]
   have He:=Lib.hid e
   clear e
   go_enter Tryz.func48,Tryz.ntmps48
   go_wp2_with (first | (go_at_call 138;refine (within_any _ _ _ _).mono ?_;rintro e w' ⟨rfl,rfl⟩))
   go_ret
   exact⟨ret_str He.out.symm,Ext.refl w⟩
theorem sClaimWord_any(k:Int)(w:World) :
 Calls Tryz.prog 49 #[.int .i64 k] w fun e w'=>e=.returned (.string (cwB k))∧Ext w w':=by
 by_cases h:1≤k∧k≤7
 · have hin:=inB_t.2 h
   have hE:=Ext.refl w
   rcases (by omega:k=1∨k=2∨k=3∨k=4∨k=5∨k=6∨k=7) with rfl | rfl | rfl | rfl | rfl | rfl | rfl
   all_goals
    go_enter Tryz.func49,Tryz.ntmps49
    go_wp2_with (first | (go_at_call 139;refine (l1In_any _ _ _ _).mono ?_;rintro e w' ⟨rfl,rfl⟩))
    go_ret
    exact⟨rfl,hE.alloc _⟩
 · have hin:=inB_f.2 h
   have e:cwB k=⟨#[]⟩:=by unfold cwB;rw[if_neg (by omega),if_neg (by omega),if_neg (by omega),if_neg (by omega),if_neg (by omega),if_neg (by omega),if_neg (by omega)]
   have He:=Lib.hid e
   clear e
   go_enter Tryz.func49,Tryz.ntmps49
   go_wp2_with (first | (go_at_call 139;refine (l1In_any _ _ _ _).mono ?_;rintro e w' ⟨rfl,rfl⟩))
   go_ret
   exact⟨ret_str He.out.symm,Ext.refl w⟩
end Go.Zz
namespace Go.Zz
open Go.RowKit Go.Proofs
set_option maxHeartbeats 400000
set_option maxRecDepth 4000
theorem bytes_lit(w:World)(y:Int) :
 (convert 33 9 (.slice (some ⟨w.heap.size,0,none⟩) 1 1)).run Tryz.prog (w.alloc (.cells #[.int .u8 y] 5))=.ok (.string (strOfNums [y])) (w.alloc (.cells #[.int .u8 y] 5)) :=
 run_convert_bytes_arg (P:=Tryz.prog) _ 33 5 (by rfl) (by rfl) w.heap.size 0 1 1 [y] rfl (fun i hi=>by
  have:i=0:=by omega
  subst this
  simp) _ (by rfl)
def digs(m:Nat)(s:ByteArray):ByteArray:=if m=0 then s else digs (m / 10) (strOfNums [48+(m % 10:Nat)]++s)
theorem digs_zero(s:ByteArray):digs 0 s=s:=by rw[digs,if_pos rfl]
theorem digs_pos{m:Nat}(s:ByteArray)(h:¬m=0):digs m s=digs (m / 10) (strOfNums [48+(m % 10:Nat)]++s):=by rw[digs,if_neg h]
def fmtB(n:Int):ByteArray:=if n=0 then ⟨#[48]⟩ else if n<0 then ⟨#[45]⟩++digs n.natAbs ⟨#[]⟩ else digs n.natAbs ⟨#[]⟩
theorem fmtB_pos{n:Nat}(h:0<n):fmtB n=digs n ⟨#[]⟩:=by unfold fmtB;rw[if_neg (by omega),if_neg (by omega)];rfl
theorem sFormatInt_nat(n:Nat)(hn:n<1000000000000)(hp:0<n)(w:World) :
 Calls Tryz.prog 52 #[.int .i64 n] w fun e w'=>e=.returned (.string (fmtB n))∧Ext w w':=by
 have h0:¬(n:Int)=0:=by omega
 have h1:¬(n:Int)<0:=by omega
 have Hf:=Lib.hid (fmtB_pos hp)
 go_enter Tryz.func52,Tryz.ntmps52
 go_wp2_with fail
 go_loopw [0,3] (fun d s wr=>∃m:Nat,m<1000000000000∧d=.int .i64 m∧Ext w wr∧∃t:ByteArray,s=.string t∧t.size+m≤n∧Hid (digs m t=fmtB n)) (fun d _ _=>(intOf d).toNat)
 case atStart=>exact⟨n,hn,rfl,Ext.refl _,_,rfl,by simp[ByteArray.size],Lib.hid Hf.out.symm⟩
 case round =>
  obtain⟨m,hm,rfl,hE,t,rfl,hsz,Ht⟩:=hrel
  by_cases hz:m=0
  · subst hz
    go_wp2_with fail
    go_ret
    exact⟨ret_str (by rw[←Ht.out,digs_zero]),hE⟩
  · have h2:¬(m:Int)=0:=by omega
    obtain⟨r,hr⟩:∃r:Nat,(m:Int) % 10=r:=⟨m % 10,by omega⟩
    have hr10:r<10:=by omega
    obtain⟨q,hq⟩:∃q:Nat,(m:Int) / 10=q:=⟨m / 10,by omega⟩
    have Hr:=Lib.hid (show r=m % 10 by omega)
    have Hq:=Lib.hid (show q=m / 10 by omega)
    have hcv:=bytes_lit wr (48+r)
    have hs1:(strOfNums [48+(r:Int)]).size=1:=strOfNums_size _
    go_wp2_with fail
    go_roundw
    case rel =>
     have hq':=Hq.out
     have hr':=Hr.out
     exact⟨q,by omega,rfl,hE.alloc _,_,rfl,by (rw[ByteArray.size_append,hs1];omega),Lib.hid (by rw[←Ht.out,digs_pos t hz,←hq',←hr'])⟩
    case measure =>
     have hq':=Hq.out
     (simp[intOf];omega)
theorem fmtB_m1:fmtB (-1)=⟨#[45]⟩++(strOfNums [49]++⟨#[]⟩):=by
 unfold fmtB
 rw[if_neg (by omega),if_pos (by omega)]
 show _++digs 1 _=_
 rw[digs_pos _ (by omega),digs_zero]
 rfl
theorem sFormatInt_m1(w:World) :
 Calls Tryz.prog 52 #[.int .i64 (-1)] w fun e w'=>e=.returned (.string (fmtB (-1)))∧Ext w w':=by
 have Hf:=Lib.hid fmtB_m1
 go_enter Tryz.func52,Tryz.ntmps52
 go_wp2_with fail
 go_loopw [0,3] (fun d s wr=>Ext w wr∧((d=.int .i64 (-1)∧s=.string ⟨#[]⟩)∨(d=.int .i64 0∧s=.string (strOfNums [49]++⟨#[]⟩)))) (fun d _ _=>(intOf d).natAbs)
 case atStart=>exact⟨Ext.refl _,Or.inl ⟨rfl,rfl⟩⟩
 case round =>
  obtain⟨hE,⟨rfl,rfl⟩ | ⟨rfl,rfl⟩⟩:=hrel
  · have hcv:=bytes_lit wr 49
    have hs1:(strOfNums [(49:Int)]).size=1:=strOfNums_size _
    go_wp2_with fail
    go_roundw
    case rel=>exact⟨hE.alloc _,Or.inr ⟨rfl,rfl⟩⟩
    case measure=>(simp[intOf])
  · have hs1:(strOfNums [(49:Int)]++⟨#[]⟩).size=1:=by rw[ByteArray.size_append,strOfNums_size];rfl
    obtain⟨t,ht⟩:∃t,t=(strOfNums [(49:Int)]++⟨#[]⟩):=⟨_,rfl⟩
    rw[←ht] at hs1 Hf ⊢
    go_wp2_with fail
    go_ret
    exact⟨ret_str (by rw[Hf.out,ht]),hE⟩
theorem sFormatInt_any(n:Int)(hn : -1≤n∧n<1000000000000)(w:World) :
 Calls Tryz.prog 52 #[.int .i64 n] w fun e w'=>e=.returned (.string (fmtB n))∧Ext w w':=by
 rcases (by omega:n = -1∨n=0∨0<n) with rfl | rfl | h
 · exact sFormatInt_m1 w
 · have e:fmtB 0=⟨#[48]⟩:=by unfold fmtB;rw[if_pos rfl]
   have He:=Lib.hid e
   clear e
   go_enter Tryz.func52,Tryz.ntmps52
   go_wp2_with fail
   go_ret
   exact⟨ret_str He.out.symm,Ext.refl _⟩
 · obtain⟨m,rfl⟩:=Int.eq_ofNat_of_zero_le (show 0≤n by omega)
   exact sFormatInt_nat m (by omega) (by omega) w
end Go.Zz
namespace Go.Zz
open Go.RowKit Go.Proofs
set_option maxHeartbeats 400000
def revk(l:List Int)(k:Nat):List Int:=(List.range l.length).map fun i=>if i<k∨l.length≤i+k then nth l (l.length - 1 - i) else nth l i
theorem revk_len(l:List Int)(k:Nat):(revk l k).length=l.length:=by simp[revk]
theorem revk_get(l:List Int)(k i:Nat)(h:i<l.length):nth (revk l k) i=if i<k∨l.length≤i+k then nth l (l.length - 1 - i) else nth l i:=by
 simp[revk,nth,h]
theorem nth_ext{a b:List Int}(h:a.length=b.length)(H:∀i,i<a.length→nth a i=nth b i):a=b:=by
 apply List.ext_getElem h
 intro i h1 h2
 have:=H i h1
 simpa[nth,h1,h2] using this
theorem nth_set(l:List Int)(k i:Nat)(y:Int):nth (l.set k y) i=if i=k∧k<l.length then y else nth l i:=by
 unfold nth
 by_cases h:i=k
 · subst h
   by_cases h2:i<l.length
   · simp[h2]
   · simp[h2]
 · simp[h,List.getElem?_set_ne (Ne.symm h)]
theorem revk_zero(l:List Int):revk l 0=l:=nth_ext (revk_len _ _) fun i hi=>by
 rw[revk_len] at hi
 rw[revk_get _ _ _ hi,if_neg (by omega)]
theorem revk_end(l:List Int)(k:Nat)(h:l.length≤2*k+1):revk l k=l.reverse:=nth_ext (by rw[revk_len];simp) fun i hi=>by
 rw[revk_len] at hi
 have e:nth l.reverse i=nth l (l.length - 1 - i):=by
  rw[nth_get _ _ (by simpa using hi),nth_get _ _ (by omega)];simp
 rw[revk_get _ _ _ hi,e]
 split
 · rfl
 · rw[show l.length - 1 - i=i by omega]
theorem revk_step(l:List Int)(k:Nat)(h:2*k+1<l.length) :
 ((revk l k).set k (nth (revk l k) (l.length - 1 - k))).set (l.length - 1 - k) (nth (revk l k) k)=revk l (k+1):=nth_ext (by simp[revk_len]) fun i hi=>by
 simp only[List.length_set,revk_len] at hi
 rw[nth_set,nth_set,revk_get _ _ _ hi,revk_get _ _ _ hi,revk_get _ _ _ (show l.length - 1 - k<l.length by omega),revk_get _ _ _ (show k<l.length by omega)]
 simp only[List.length_set,revk_len]
 by_cases h1:i=l.length - 1 - k
 · rw[if_pos ⟨h1,by omega⟩,if_neg (by omega),if_pos (by omega),h1,show l.length - 1 - (l.length - 1 - k)=k by omega]
 · rw[if_neg (by omega)]
   by_cases h2:i=k
   · rw[if_pos ⟨h2,by omega⟩,if_neg (by omega),if_pos (by omega),h2]
   · rw[if_neg (by omega)]
     by_cases h3:i<k∨l.length≤i+k
     · rw[if_pos h3,if_pos (by omega)]
     · rw[if_neg h3,if_neg (by omega)]
theorem infoB:(Tryz.prog.info? 5).map (fun i=>(i.zero,i.size,i.bytes))=some (some (.int .u8 0),1,1):=by kernel_rfl
theorem undB:Tryz.prog.underlying 33=some (.slice 5):=by kernel_rfl
def OwnB(w0 w:World)(v:Value)(l:List Int):Prop :=
 w.ownsRow w0.heap.size 5 1 v l.length (l.map (Value.int .u8))∧l.length≤17592186044416
theorem OwnB.alloc{w0 w:World}{v:Value}{l:List Int}(h:OwnB w0 w v l)(o:Obj):OwnB w0 (w.alloc o) v l:=⟨h.1.alloc o,h.2⟩
theorem OwnB.blk{w0 w:World}{v:Value}{l:List Int}(h:OwnB w0 w v l):∀k,v.ownBlock=some k→w0.heap.size≤k∧k<w.heap.size:=h.1.lt
theorem OwnB.shape{w0 w:World}{v:Value}{l:List Int}(h:OwnB w0 w v l)(h0:0<l.length) :
 ∃(g c:Nat),v=.slice (some ⟨g,0,none⟩) l.length c∧l.length≤c∧w0.heap.size≤g∧g<w.heap.size ∧
  (∀i,i<l.length→w.cell? ⟨g,i,none⟩=some (.int .u8 (nth l i))∧w.frozen? ⟨g,i,none⟩=false):=by
 obtain⟨h1,h2⟩:=h
 rcases h1.2 with ⟨rfl,hl⟩ | ⟨g,cap,cur,rfl,hg,hh,hc,r⟩
 · omega
 · refine⟨g,cap,rfl,hc,hg,(Array.getElem?_eq_some_iff.1 hh).1,fun i hi=>⟨?_,World.ownsRow.frozenAt h1 i⟩⟩
   rw[World.ownsRow.cellAt h1 i (by omega)]
   simp[nth,List.getD,hi]
theorem ownB_made{w0 w:World}(hE:Ext w0 w):OwnB w0 (w.alloc (.cells #[] 5)) (.slice (some ⟨w.heap.size,0,none⟩) 0 0) []:=by
 have:=World.ownsRow_lit (base:=w0.heap.size) (e:=5) (size:=1) w #[] 0 hE.size (by unfold maxLen;omega) (by simp)
 exact⟨by simpa using this,by simp⟩
theorem OwnB.stored{w0 w:World}{g c:Nat}{l:List Int}(h:OwnB w0 w (.slice (some ⟨g,0,none⟩) l.length c) l)(j:Nat)(y:Int) :
 OwnB w0 (w.setCell ⟨g,j,none⟩ (.int .u8 y)) (.slice (some ⟨g,0,none⟩) l.length c) (l.set j y):=by
 have h1:=(World.ownsRow.stored h.1 j (.int .u8 y)).1
 refine⟨?_,by simpa using h.2⟩
 simpa[List.map_set] using h1
theorem OwnB.grown{w0 w:World}{g c:Nat}{l:List Int}(h:OwnB w0 w (.slice (some ⟨g,0,none⟩) l.length c) l)(j:Nat)(y:Int) :
 w.grownBy (w.setCell ⟨g,j,none⟩ (.int .u8 y)) (Value.slice (some ⟨g,0,none⟩) l.length c).ownBlock:=(World.ownsRow.stored h.1 j (.int .u8 y)).2
section
variable {ops:Array Oper} {rest:List Oper} {o:Oper} {a:Act} {Q:Exit→Act→World→Prop}
theorem wp_append1B(hg:o.guard=none)(s x:Operand)(hop:o.op=Op.call { callee:=Callee.builtin Builtin.append,args:=#[s,x],argTypes:=#[33,33] })
 (w0 W:World) (v:Value) (l:List Int) (y:Int) (hO:OwnB w0 W v l) (hE:Ext w0 W) (hn:l.length<17592186044416) (hs:a.eval s=v) (hx:a.eval x=.slice (some ⟨W.heap.size,0,none⟩) 1 1)
 (hK:∀v' w',OwnB w0 w' v' (l++[y])→Ext w0 w'→wpList Tryz.prog ops Q rest (a.put o.dst v') w') :
 wpList Tryz.prog ops Q (o :: rest) a (W.alloc (.cells #[.int .u8 y] 5)):=by
 obtain⟨i,hi,hz,hs1,hby⟩:=info_parts infoB
 refine wpList_append_own _ hg s x 33 hop w0.heap.size 5 i (.int .u8 0) 1 1 undB hi hz hs1 hby rfl (by omega) v l.length _ hs (hO.alloc _).1 ⟨W.heap.size,0,none⟩ 1 1 [.int .u8 y] hx rfl ?_ (by simp[Value.oneCell']) (by unfold maxLen;omega) (by omega) (by have:=hE.size;simp;omega) ?_
 · exact cell_one_new _ _ _
 · intro v' w' h1 hg' _
   have hE1:=hE.alloc (.cells #[.int .u8 y] 5)
   refine hK v' w' ⟨by simpa using h1,by simp;omega⟩ (hE1.grown hg' fun k hk=>(hO.blk k hk).1)
end
end Go.Zz
namespace Go.Zz
open Go.RowKit Go.Proofs
set_option maxHeartbeats 1000000
set_option maxRecDepth 4000
theorem elB:Tryz.prog.underlying 33=some (.slice (Tryz.prog.elem 33)):=by kernel_rfl
theorem szBt:∀w,(Go.sizeOf (Tryz.prog.elem 33)).run Tryz.prog w=.ok 1 w:=fun w=>by kernel_rfl
def rd(m:Nat):List Int:=if m=0 then [] else (48+(m % 10:Nat)) :: rd (m / 10)
theorem rd_zero:rd 0=[]:=by rw[rd,if_pos rfl]
theorem rd_pos{m:Nat}(h:¬m=0):rd m=(48+((m % 10:Nat):Int)) :: rd (m / 10):=by rw[rd,if_neg h]
theorem digs_rd(m:Nat):∀s,digs m s=strOfNums (rd m).reverse++s:=by
 induction m using Nat.strongRecOn with
 | ind m ih =>
  intro s
  by_cases h:m=0
  · subst h;rw[digs_zero,rd_zero];apply ByteArray.ext;simp[strOfNums]
  · rw[digs_pos s h,ih (m / 10) (by omega),rd_pos h]
    apply ByteArray.ext
    simp[strOfNums]
theorem OwnB.cellAt{w0 w:World}{g n c:Nat}{l:List Int}(h:OwnB w0 w (.slice (some ⟨g,0,none⟩) n c) l)(hn:l.length=n)(i:Nat)(hi:i<n) :
 w.cell? ⟨g,i,none⟩=some (.int .u8 (nth l i))∧w.frozen? ⟨g,i,none⟩=false:=by
 subst hn
 have h1:=h.1
 exact⟨by rw[World.ownsRow.cellAt h1 i (by omega)];simp[nth,List.getD,hi],World.ownsRow.frozenAt h1 i⟩
theorem OwnB.stored_grown{w0 w:World}{g n c:Nat}{l:List Int}(h:OwnB w0 w (.slice (some ⟨g,0,none⟩) n c) l)(hn:l.length=n)(j:Nat)(y:Int) :
 OwnB w0 (w.setCell ⟨g,j,none⟩ (.int .u8 y)) (.slice (some ⟨g,0,none⟩) n c) (l.set j y)∧w.grownBy (w.setCell ⟨g,j,none⟩ (.int .u8 y)) (some g):=by
 subst hn
 exact⟨h.stored j y,h.grown j y⟩
theorem OwnB.str{w0 w:World}{g n c:Nat}{l:List Int}(h:OwnB w0 w (.slice (some ⟨g,0,none⟩) n c) l)(hn:l.length=n) :
 (convert 33 9 (.slice (some ⟨g,0,none⟩) n c)).run Tryz.prog w=.ok (.string (strOfNums l)) w :=
 run_convert_bytes_arg (P:=Tryz.prog) _ 33 5 (by rfl) (by rfl) g 0 n c l hn (fun i hi=>by
  rw[Nat.zero_add];exact (h.cellAt hn i hi).1) _ (by rfl)
theorem FormatInt_nat(n:Nat)(hn:n<1000000000000)(hp:0<n)(w:World) :
 Calls Tryz.prog 66 #[.int .i64 n] w fun e w'=>e=.returned (.string (fmtB n))∧Ext w w':=by
 have h0:¬(n:Int)=0:=by omega
 have h1:¬(n:Int)<0:=by omega
 have hO0:=ownB_made (Ext.refl w)
 have hE0:=(Ext.refl w).alloc (.cells #[] 5)
 go_enter Tryz.func66,Tryz.ntmps66
 go_wp2_with fail
 go_loopw [3,4] (fun v d wr=>∃(m:Nat) (l:List Int),m<1000000000000∧d=.int .i64 m∧Ext w wr∧OwnB w wr v l∧l.length+m≤n∧l++rd m=rd n) (fun _ d _=>(intOf d).toNat)
 case atStart=>exact⟨n,[],hn,rfl,hE0,hO0,by simp,by simp⟩
 case round =>
  obtain⟨m,l,hm,rfl,hE,hO,hsz,hl⟩:=hrel
  by_cases hz:m=0
  · subst hz
    rw[rd_zero,List.append_nil] at hl
    have hl0:0<l.length:=by rw[hl,rd_pos (by omega)];simp
    obtain⟨g,c,rfl,hlc,hg0,hg1,hcell⟩:=hO.shape hl0
    obtain⟨L,hL⟩:∃L,L=l.length:=⟨_,rfl⟩
    rw[←hL] at hsz hl0 hlc
    have hLn:L≤n:=by omega
    have Hl:=Lib.hid hl
    have HL:=Lib.hid hL
    have HO:=Lib.hid hO
    clear hl hL hO hcell hsz
    rw[←HL.out]
    have hixB:∀(i:Nat) W,i<L→(Instr.indexAt 33 (.slice (some ⟨g,0,none⟩) L c) (.int .i64 (i:Int))).run Tryz.prog W=.ok (.pointer (some ⟨g,i,none⟩)) W:=by
     intro i W hi
     rw[run_indexAt_slice (h:=elB),if_pos (by omega),szBt]
     simp[Result.andThen,Addr.add_lit]
    go_wp2_with fail
    go_loopw [6,7] (fun i j wr=>∃(k jn:Nat),k≤jn+1∧jn+k+1=L∧i=.int .i64 k∧j=.int .i64 jn∧Ext w wr∧OwnB w wr (.slice (some ⟨g,0,none⟩) L c) (revk l k)) (fun _ j _=>(intOf j).toNat)
    case atStart=>exact⟨0,L - 1,by omega,by omega,rfl,by go_num,hE,by rw[revk_zero,HL.out];exact HO.out⟩
    case round =>
     obtain⟨k,jn,hk,hkj,rfl,rfl,hE2,hO2⟩:=hrel
     have Hkj:=Lib.hid hkj
     by_cases hlt:k<jn
     · have hkL:k<L:=by omega
       have hjL:jn<L:=by omega
       clear hkj
       have hl2:(revk l k).length=L:=by rw[revk_len,←HL.out]
       obtain⟨hck,hfk⟩:=hO2.cellAt hl2 k hkL
       obtain⟨hcj,hfj⟩:=hO2.cellAt hl2 jn hjL
       have Hl2:=Lib.hid hl2
       have HO2:=Lib.hid hO2
       clear hl2 hO2
       have hne:¬k=jn:=by omega
       have hne2:¬jn=k:=by omega
       go_wp2_with fail
       go_big_region
       go_wp2_with fail
       go_roundw
       case rel =>
        have hkj':=Hkj.out
        have hj2:(revk l k).length - 1 - k=jn:=by rw[Hl2.out];omega
        obtain⟨hO3,hG3⟩:=HO2.out.stored_grown Hl2.out k (nth (revk l k) jn)
        obtain⟨hO4,hG4⟩:=hO3.stored_grown (by rw[List.length_set];exact Hl2.out) jn (nth (revk l k) k)
        have hst:=revk_step l k (by rw[←HL.out];omega)
        rw[←HL.out,show L - 1 - k=jn by omega] at hst
        rw[hst] at hO4
        exact⟨k+1,jn - 1,by omega,by omega,by go_num,by go_num,((hE2.grown hG3 (fun q hq=>by cases hq;exact hg0)).grown hG4 (fun q hq=>by cases hq;exact hg0)).drew,hO4⟩
       case measure=>(simp[intOf];omega)
     · clear hkj
       have hcv:=hO2.str (by rw[revk_len,←HL.out])
       have He:Hid (strOfNums (revk l k)=fmtB n):=Lib.hid (by
        have hk':=Hkj.out
        have hL':=HL.out
        rw[revk_end l k (by omega),Hl.out,fmtB_pos hp,digs_rd];apply ByteArray.ext;simp)
       go_wp2_with fail
       go_ret
       exact⟨ret_str He.out,hE2⟩
  · have h2:¬(m:Int)=0:=by omega
    obtain⟨r,hr⟩:∃r:Nat,(m:Int) % 10=r:=⟨m % 10,by omega⟩
    have hr10:r<10:=by omega
    obtain⟨q,hq⟩:∃q:Nat,(m:Int) / 10=q:=⟨m / 10,by omega⟩
    have Hr:=Lib.hid (show r=m % 10 by omega)
    have Hq:=Lib.hid (show q=m / 10 by omega)
    have Hl:=Lib.hid hl
    have Hsz:=Lib.hid hsz
    have hlb:l.length<17592186044416:=by omega
    clear hl hsz
    go_wp2_with (at_builtin;refine wp_append1B rfl _ _ rfl w _ _ _ _ hO hE hlb rfl rfl ?_;intro v1 w1 hO1 hE1)
    go_roundw
    case rel =>
     have hq':=Hq.out
     have hr':=Hr.out
     have hs':=Hsz.out
     exact⟨q,_,by omega,rfl,hE1,hO1,by (simp;omega),by rw[←Hl.out,rd_pos hz,←hq',←hr'];simp⟩
    case measure =>
     have hq':=Hq.out
     (simp[intOf];omega)
theorem FormatInt_m1(w:World) :
 Calls Tryz.prog 66 #[.int .i64 (-1)] w fun e w'=>e=.returned (.string (fmtB (-1)))∧Ext w w':=by
 have hO0:=ownB_made (Ext.refl w)
 have hE0:=(Ext.refl w).alloc (.cells #[] 5)
 have Hf:=Lib.hid fmtB_m1
 go_enter Tryz.func66,Tryz.ntmps66
 go_wp2_with fail
 go_loopw [3,4] (fun v d wr=>Ext w wr∧((d=.int .i64 (-1)∧OwnB w wr v [])∨(d=.int .i64 0∧OwnB w wr v [49]))) (fun _ d _=>(intOf d).natAbs)
 case atStart=>exact⟨hE0,Or.inl ⟨rfl,hO0⟩⟩
 case round =>
  obtain⟨hE,⟨rfl,hO⟩ | ⟨rfl,hO⟩⟩:=hrel
  · go_wp2_with (at_builtin;refine wp_append1B rfl _ _ rfl w _ _ _ _ hO hE (by simp) rfl rfl ?_;intro v1 w1 hO1 hE1)
    go_roundw
    case rel=>exact⟨hE1,Or.inr ⟨rfl,hO1⟩⟩
    case measure=>(simp[intOf])
  · go_wp2_with (at_builtin;go_loud (refine wp_append1B rfl _ _ rfl w _ _ _ _ hO hE (by simp) rfl rfl ?_;intro v1 w1 hO1 hE1;obtain⟨l,hl⟩:∃l:List Int,l=[49]++[45]:=⟨_,rfl⟩;rw[←hl] at hO1;have hl0:0<l.length:=(by rw[hl];simp);obtain⟨g,c,hv,hlc,hg0,hg1,-⟩:=hO1.shape hl0;obtain⟨L,hL⟩:∃L,L=l.length:=⟨_,rfl⟩;have hL2:L≤2:=(by rw[hL,hl];simp);rw[←hL] at hl0 hlc hv;subst hv;have HL:=Lib.hid hL;have Hl:=Lib.hid hl;have HO:=Lib.hid hO1;clear hL hl hO1 hO))
    have hixB:∀(i:Nat) W,i<L→(Instr.indexAt 33 (.slice (some ⟨g,0,none⟩) L c) (.int .i64 (i:Int))).run Tryz.prog W=.ok (.pointer (some ⟨g,i,none⟩)) W:=by
     intro i W hi
     rw[run_indexAt_slice (h:=elB),if_pos (by omega),szBt]
     simp[Result.andThen,Addr.add_lit]
    go_wp2_with fail
    go_loopw [6,7] (fun i j wr=>∃(k jn:Nat),k≤jn+1∧jn+k+1=L∧i=.int .i64 k∧j=.int .i64 jn∧Ext w wr∧OwnB w wr (.slice (some ⟨g,0,none⟩) L c) (revk l k)) (fun _ j _=>(intOf j).toNat)
    case atStart=>exact⟨0,L - 1,by omega,by omega,rfl,by go_num,hE1,by rw[revk_zero];exact HO.out⟩
    case round =>
     obtain⟨k,jn,hk,hkj,rfl,rfl,hE2,hO2⟩:=hrel
     have Hkj:=Lib.hid hkj
     by_cases hlt:k<jn
     · have hkL:k<L:=by omega
       have hjL:jn<L:=by omega
       clear hkj
       have hl2:(revk l k).length=L:=by rw[revk_len,←HL.out]
       obtain⟨hck,hfk⟩:=hO2.cellAt hl2 k hkL
       obtain⟨hcj,hfj⟩:=hO2.cellAt hl2 jn hjL
       have Hl2:=Lib.hid hl2
       have HO2:=Lib.hid hO2
       clear hl2 hO2
       have hne:¬k=jn:=by omega
       have hne2:¬jn=k:=by omega
       go_wp2_with fail
       go_big_region
       go_wp2_with fail
       go_roundw
       case rel =>
        have hkj':=Hkj.out
        have hj2:(revk l k).length - 1 - k=jn:=by rw[Hl2.out];omega
        obtain⟨hO3,hG3⟩:=HO2.out.stored_grown Hl2.out k (nth (revk l k) jn)
        obtain⟨hO4,hG4⟩:=hO3.stored_grown (by rw[List.length_set];exact Hl2.out) jn (nth (revk l k) k)
        have hst:=revk_step l k (by rw[←HL.out];omega)
        rw[←HL.out,show L - 1 - k=jn by omega] at hst
        rw[hst] at hO4
        exact⟨k+1,jn - 1,by omega,by omega,by go_num,by go_num,((hE2.grown hG3 (fun q hq=>by cases hq;exact hg0)).grown hG4 (fun q hq=>by cases hq;exact hg0)).drew,hO4⟩
       case measure=>(simp[intOf];omega)
     · clear hkj
       have hcv:=hO2.str (by rw[revk_len,←HL.out])
       have He:Hid (strOfNums (revk l k)=fmtB (-1)):=Lib.hid (by
        have hk':=Hkj.out
        have hL':=HL.out
        rw[revk_end l k (by omega),Hl.out,Hf.out];rfl)
       go_wp2_with fail
       go_ret
       exact⟨ret_str He.out,hE2⟩
theorem FormatInt_zero(w:World) :
 Calls Tryz.prog 66 #[.int .i64 0] w fun e w'=>e=.returned (.string (fmtB 0))∧Ext w w':=by
 have e:fmtB 0=⟨#[48]⟩:=by unfold fmtB;rw[if_pos rfl]
 have He:=Lib.hid e
 clear e
 go_enter Tryz.func66,Tryz.ntmps66
 go_wp2_with fail
 go_ret
 exact⟨ret_str He.out.symm,Ext.refl _⟩
theorem FormatInt_any(n:Int)(hn : -1≤n∧n<1000000000000)(w:World) :
 Calls Tryz.prog 66 #[.int .i64 n] w fun e w'=>e=.returned (.string (fmtB n))∧Ext w w':=by
 rcases (by omega:n = -1∨n=0∨0<n) with rfl | rfl | h
 · exact FormatInt_m1 w
 · exact FormatInt_zero w
 · obtain⟨m,rfl⟩:=Int.eq_ofNat_of_zero_le (show 0≤n by omega)
   exact FormatInt_nat m (by omega) (by omega) w
end Go.Zz
