/- Every claim that is made is accepted, and what is accepted is true: the walk through the law. -/
import Derived.Test.YtdlbbpeahicakaaGreatGr22
import Derived.Test.YtdlbbpeahicakaaGreatGr27
import Derived.Test.YtdlbbpeahicakaaGreatGr29
import Derived.Test.YtdlbbpeahicakaaGreatGr31
import Derived.Test.YtdlbbpeahicakaaGreatGr35
import Derived.Deep.DeepCutAuto
set_option linter.unusedSimpArgs false
set_option linter.unusedVariables false
set_option linter.unnecessarySimpa false
namespace Go.Zz
open Go.RowKit Go.Proofs
set_option maxHeartbeats 40000000
set_option maxRecDepth 20000
def LawC(w:World)(v:Value)(l:List Int)(wx:World):Prop:=Ext w wx∧Byts wx v l
theorem LawC.ext{w w1 w2:World}{v:Value}{l:List Int}(h:LawC w v l w1)(hE:Ext w1 w2):LawC w v l w2:=⟨h.1.trans hE,h.2.ext hE⟩
theorem csF_rng(l:List Int)(a:Int) : -1≤csF l a∧csF l a≤24:=by
 unfold csF
 split
 · have:=cnt_le a.toNat;omega
 · omega
theorem FnClaims_walk{v:Value}{l:List Int}{w:World}(h:Byts w v l) :
 Calls Tryz.prog 4 #[v] w fun e w'=>e=.returned (.bool true)∧Ext w w':=by
 go_enter Tryz.func4,Tryz.ntmps4
 go_wp2_with fail
 refine (big_any _ _ _ h).mono ?_
 rintro e w0 ⟨b,rfl,hE0⟩
 cases b
 rotate_left
 · go_wp2_with fail
   go_ret
   exact⟨rfl,hE0⟩
 have hP:LawC w v l w0:=⟨hE0,h.ext hE0⟩
 clear hE0 h
 go_wp2_with fail
 refine (DrawClaimOfSum_any _ _ _ hP.2).mono ?_
 rintro e w1 ⟨aA,LA,cA,xA,yA,rfl,hO,hE⟩
 replace hP:=hP.ext hE
 clear hE
 have hBA:=Blk.new w1 27 #[.slice aA LA.length cA]
 have hIA:=(hO.ints).ext ((Ext.refl w1).alloc (.cells #[.slice aA LA.length cA] 27))
 have eN:=(Ext.refl w1).alloc (.cells #[.slice aA LA.length cA] 27)
 obtain⟨W1,hW1⟩:∃x,x=w1.alloc (.cells #[.slice aA LA.length cA] 27):=⟨_,rfl⟩
 rw[←hW1] at hBA hIA eN
 replace hP:=hP.ext eN
 clear eN
 clear hO
 obtain⟨ku,au,bu,su,pu,nu,Ru,Gu,Ou,Tu,Qu,hMu⟩:=pk_sum (.slice aA LA.length cA) LA xA yA
 have kA0:=hBA.cell (i:=0) (v:=.slice aA LA.length cA) rfl
 rw[hW1] at kA0
 have HW1:=Lib.hid hW1
 clear hW1
 go_wp2_with fail
 rw[←HW1.out]
 clear HW1
 clear kA0
 refine (hMu.1 _ hIA).mono ?_
 rintro e w2 ⟨a1c,c1c,a2c,c2c,a3c,c3c,a4c,c4c,rfl,hK,hE⟩
 replace hP:=hP.ext hE
 replace hBA:=hBA.ext hE
 replace hIA:=hIA.ext hE
 clear hE
 replace hBA:=hBA.alloc (.cells #[.int .i64 ku,.slice a1c Gu.length c1c,.slice a2c Ou.length c2c,.int .i64 au,.int .i64 bu,.int .i64 su,.int .i64 pu,.slice a3c Tu.length c3c,.slice a4c Qu.length c4c,.int .i64 nu] 38)
 replace hIA:=hIA.ext ((Ext.refl w2).alloc (.cells #[.int .i64 ku,.slice a1c Gu.length c1c,.slice a2c Ou.length c2c,.int .i64 au,.int .i64 bu,.int .i64 su,.int .i64 pu,.slice a3c Tu.length c3c,.slice a4c Qu.length c4c,.int .i64 nu] 38))
 have hBc:=Blk.new w2 38 #[.int .i64 ku,.slice a1c Gu.length c1c,.slice a2c Ou.length c2c,.int .i64 au,.int .i64 bu,.int .i64 su,.int .i64 pu,.slice a3c Tu.length c3c,.slice a4c Qu.length c4c,.int .i64 nu]
 have hIc:=(hK).ext ((Ext.refl w2).alloc (.cells #[.int .i64 ku,.slice a1c Gu.length c1c,.slice a2c Ou.length c2c,.int .i64 au,.int .i64 bu,.int .i64 su,.int .i64 pu,.slice a3c Tu.length c3c,.slice a4c Qu.length c4c,.int .i64 nu] 38))
 have eN:=(Ext.refl w2).alloc (.cells #[.int .i64 ku,.slice a1c Gu.length c1c,.slice a2c Ou.length c2c,.int .i64 au,.int .i64 bu,.int .i64 su,.int .i64 pu,.slice a3c Tu.length c3c,.slice a4c Qu.length c4c,.int .i64 nu] 38)
 obtain⟨W2,hW2⟩:∃x,x=w2.alloc (.cells #[.int .i64 ku,.slice a1c Gu.length c1c,.slice a2c Ou.length c2c,.int .i64 au,.int .i64 bu,.int .i64 su,.int .i64 pu,.slice a3c Tu.length c3c,.slice a4c Qu.length c4c,.int .i64 nu] 38):=⟨_,rfl⟩
 rw[←hW2] at hBA hIA hBc hIc eN
 replace hP:=hP.ext eN
 clear eN
 clear hK
 have kA0:=hBA.cell (i:=0) (v:=.slice aA LA.length cA) rfl
 rw[hW2] at kA0
 have HW2:=Lib.hid hW2
 clear hW2
 go_wp2_with fail
 rw[←HW2.out]
 clear HW2
 clear kA0
 refine (hMu.2.1 _ hIA).mono ?_
 rintro e w3 ⟨a1d,c1d,a2d,c2d,a3d,c3d,a4d,c4d,rfl,hK,hE⟩
 replace hP:=hP.ext hE
 replace hBA:=hBA.ext hE
 replace hIA:=hIA.ext hE
 replace hBc:=hBc.ext hE
 replace hIc:=hIc.ext hE
 clear hE
 replace hBA:=hBA.alloc (.cells #[.int .i64 ku,.slice a1d Gu.length c1d,.slice a2d Ou.length c2d,.int .i64 au,.int .i64 bu,.int .i64 su,.int .i64 pu,.slice a3d Tu.length c3d,.slice a4d Qu.length c4d,.int .i64 nu] 38)
 replace hIA:=hIA.ext ((Ext.refl w3).alloc (.cells #[.int .i64 ku,.slice a1d Gu.length c1d,.slice a2d Ou.length c2d,.int .i64 au,.int .i64 bu,.int .i64 su,.int .i64 pu,.slice a3d Tu.length c3d,.slice a4d Qu.length c4d,.int .i64 nu] 38))
 replace hBc:=hBc.alloc (.cells #[.int .i64 ku,.slice a1d Gu.length c1d,.slice a2d Ou.length c2d,.int .i64 au,.int .i64 bu,.int .i64 su,.int .i64 pu,.slice a3d Tu.length c3d,.slice a4d Qu.length c4d,.int .i64 nu] 38)
 replace hIc:=hIc.ext ((Ext.refl w3).alloc (.cells #[.int .i64 ku,.slice a1d Gu.length c1d,.slice a2d Ou.length c2d,.int .i64 au,.int .i64 bu,.int .i64 su,.int .i64 pu,.slice a3d Tu.length c3d,.slice a4d Qu.length c4d,.int .i64 nu] 38))
 have hBd:=Blk.new w3 38 #[.int .i64 ku,.slice a1d Gu.length c1d,.slice a2d Ou.length c2d,.int .i64 au,.int .i64 bu,.int .i64 su,.int .i64 pu,.slice a3d Tu.length c3d,.slice a4d Qu.length c4d,.int .i64 nu]
 have hId:=(hK).ext ((Ext.refl w3).alloc (.cells #[.int .i64 ku,.slice a1d Gu.length c1d,.slice a2d Ou.length c2d,.int .i64 au,.int .i64 bu,.int .i64 su,.int .i64 pu,.slice a3d Tu.length c3d,.slice a4d Qu.length c4d,.int .i64 nu] 38))
 have eN:=(Ext.refl w3).alloc (.cells #[.int .i64 ku,.slice a1d Gu.length c1d,.slice a2d Ou.length c2d,.int .i64 au,.int .i64 bu,.int .i64 su,.int .i64 pu,.slice a3d Tu.length c3d,.slice a4d Qu.length c4d,.int .i64 nu] 38)
 obtain⟨W3,hW3⟩:∃x,x=w3.alloc (.cells #[.int .i64 ku,.slice a1d Gu.length c1d,.slice a2d Ou.length c2d,.int .i64 au,.int .i64 bu,.int .i64 su,.int .i64 pu,.slice a3d Tu.length c3d,.slice a4d Qu.length c4d,.int .i64 nu] 38):=⟨_,rfl⟩
 rw[←hW3] at hBA hIA hBc hIc hBd hId eN
 replace hP:=hP.ext eN
 clear eN
 clear hK
 have HW3:=Lib.hid hW3
 clear hW3
 go_wp2_with fail
 rw[←HW3.out]
 clear HW3
 refine (DrawClaimOfSequence_any _ _ _ hP.2).mono ?_
 rintro e w4 ⟨aH,LH,cH,aP,PP,cP,rfl,hO,hX,-,hE⟩
 replace hP:=hP.ext hE
 replace hBA:=hBA.ext hE
 replace hIA:=hIA.ext hE
 replace hBc:=hBc.ext hE
 replace hIc:=hIc.ext hE
 replace hBd:=hBd.ext hE
 replace hId:=hId.ext hE
 clear hE
 replace hBA:=hBA.alloc (.cells #[.slice aH LH.length cH] 27)
 replace hIA:=hIA.ext ((Ext.refl w4).alloc (.cells #[.slice aH LH.length cH] 27))
 replace hBc:=hBc.alloc (.cells #[.slice aH LH.length cH] 27)
 replace hIc:=hIc.ext ((Ext.refl w4).alloc (.cells #[.slice aH LH.length cH] 27))
 replace hBd:=hBd.alloc (.cells #[.slice aH LH.length cH] 27)
 replace hId:=hId.ext ((Ext.refl w4).alloc (.cells #[.slice aH LH.length cH] 27))
 replace hX:=hX.ext ((Ext.refl w4).alloc (.cells #[.slice aH LH.length cH] 27))
 have hBH:=Blk.new w4 27 #[.slice aH LH.length cH]
 have hIH:=(hO.ints).ext ((Ext.refl w4).alloc (.cells #[.slice aH LH.length cH] 27))
 have eN:=(Ext.refl w4).alloc (.cells #[.slice aH LH.length cH] 27)
 obtain⟨W4,hW4⟩:∃x,x=w4.alloc (.cells #[.slice aH LH.length cH] 27):=⟨_,rfl⟩
 rw[←hW4] at hBA hIA hBc hIc hBd hId hBH hIH hX eN
 replace hP:=hP.ext eN
 clear eN
 clear hO
 obtain⟨kx,ax,bx,sx,px,nx,Rx,Gx,Ox,Tx,Qx,hMx,hQ⟩:=pk_seq (.slice aH LH.length cH) (.slice aP PP.length cP) LH PP
 have kH0:=hBH.cell (i:=0) (v:=.slice aH LH.length cH) rfl
 rw[hW4] at kH0
 have HW4:=Lib.hid hW4
 clear hW4
 go_wp2_with fail
 rw[←HW4.out]
 clear HW4
 clear kH0
 refine (hMx.1 _ ⟨hIH,hX⟩).mono ?_
 rintro e w5 ⟨a1e,c1e,a2e,c2e,a3e,c3e,a4e,c4e,rfl,hK,hE⟩
 replace hP:=hP.ext hE
 replace hBA:=hBA.ext hE
 replace hIA:=hIA.ext hE
 replace hBc:=hBc.ext hE
 replace hIc:=hIc.ext hE
 replace hBd:=hBd.ext hE
 replace hId:=hId.ext hE
 replace hBH:=hBH.ext hE
 replace hIH:=hIH.ext hE
 replace hX:=hX.ext hE
 clear hE
 replace hBA:=hBA.alloc (.cells #[.int .i64 kx,.slice a1e Gx.length c1e,.slice a2e Ox.length c2e,.int .i64 ax,.int .i64 bx,.int .i64 sx,.int .i64 px,.slice a3e Tx.length c3e,.slice a4e Qx.length c4e,.int .i64 nx] 38)
 replace hIA:=hIA.ext ((Ext.refl w5).alloc (.cells #[.int .i64 kx,.slice a1e Gx.length c1e,.slice a2e Ox.length c2e,.int .i64 ax,.int .i64 bx,.int .i64 sx,.int .i64 px,.slice a3e Tx.length c3e,.slice a4e Qx.length c4e,.int .i64 nx] 38))
 replace hBc:=hBc.alloc (.cells #[.int .i64 kx,.slice a1e Gx.length c1e,.slice a2e Ox.length c2e,.int .i64 ax,.int .i64 bx,.int .i64 sx,.int .i64 px,.slice a3e Tx.length c3e,.slice a4e Qx.length c4e,.int .i64 nx] 38)
 replace hIc:=hIc.ext ((Ext.refl w5).alloc (.cells #[.int .i64 kx,.slice a1e Gx.length c1e,.slice a2e Ox.length c2e,.int .i64 ax,.int .i64 bx,.int .i64 sx,.int .i64 px,.slice a3e Tx.length c3e,.slice a4e Qx.length c4e,.int .i64 nx] 38))
 replace hBd:=hBd.alloc (.cells #[.int .i64 kx,.slice a1e Gx.length c1e,.slice a2e Ox.length c2e,.int .i64 ax,.int .i64 bx,.int .i64 sx,.int .i64 px,.slice a3e Tx.length c3e,.slice a4e Qx.length c4e,.int .i64 nx] 38)
 replace hId:=hId.ext ((Ext.refl w5).alloc (.cells #[.int .i64 kx,.slice a1e Gx.length c1e,.slice a2e Ox.length c2e,.int .i64 ax,.int .i64 bx,.int .i64 sx,.int .i64 px,.slice a3e Tx.length c3e,.slice a4e Qx.length c4e,.int .i64 nx] 38))
 replace hBH:=hBH.alloc (.cells #[.int .i64 kx,.slice a1e Gx.length c1e,.slice a2e Ox.length c2e,.int .i64 ax,.int .i64 bx,.int .i64 sx,.int .i64 px,.slice a3e Tx.length c3e,.slice a4e Qx.length c4e,.int .i64 nx] 38)
 replace hIH:=hIH.ext ((Ext.refl w5).alloc (.cells #[.int .i64 kx,.slice a1e Gx.length c1e,.slice a2e Ox.length c2e,.int .i64 ax,.int .i64 bx,.int .i64 sx,.int .i64 px,.slice a3e Tx.length c3e,.slice a4e Qx.length c4e,.int .i64 nx] 38))
 replace hX:=hX.ext ((Ext.refl w5).alloc (.cells #[.int .i64 kx,.slice a1e Gx.length c1e,.slice a2e Ox.length c2e,.int .i64 ax,.int .i64 bx,.int .i64 sx,.int .i64 px,.slice a3e Tx.length c3e,.slice a4e Qx.length c4e,.int .i64 nx] 38))
 have hBe:=Blk.new w5 38 #[.int .i64 kx,.slice a1e Gx.length c1e,.slice a2e Ox.length c2e,.int .i64 ax,.int .i64 bx,.int .i64 sx,.int .i64 px,.slice a3e Tx.length c3e,.slice a4e Qx.length c4e,.int .i64 nx]
 have hIe:=(hK).ext ((Ext.refl w5).alloc (.cells #[.int .i64 kx,.slice a1e Gx.length c1e,.slice a2e Ox.length c2e,.int .i64 ax,.int .i64 bx,.int .i64 sx,.int .i64 px,.slice a3e Tx.length c3e,.slice a4e Qx.length c4e,.int .i64 nx] 38))
 have eN:=(Ext.refl w5).alloc (.cells #[.int .i64 kx,.slice a1e Gx.length c1e,.slice a2e Ox.length c2e,.int .i64 ax,.int .i64 bx,.int .i64 sx,.int .i64 px,.slice a3e Tx.length c3e,.slice a4e Qx.length c4e,.int .i64 nx] 38)
 obtain⟨W5,hW5⟩:∃x,x=w5.alloc (.cells #[.int .i64 kx,.slice a1e Gx.length c1e,.slice a2e Ox.length c2e,.int .i64 ax,.int .i64 bx,.int .i64 sx,.int .i64 px,.slice a3e Tx.length c3e,.slice a4e Qx.length c4e,.int .i64 nx] 38):=⟨_,rfl⟩
 rw[←hW5] at hBA hIA hBc hIc hBd hId hBH hIH hBe hIe hX eN
 replace hP:=hP.ext eN
 clear eN
 clear hK
 have kH0:=hBH.cell (i:=0) (v:=.slice aH LH.length cH) rfl
 rw[hW5] at kH0
 have HW5:=Lib.hid hW5
 clear hW5
 go_wp2_with fail
 rw[←HW5.out]
 clear HW5
 clear kH0
 refine (hMx.2.1 _ ⟨hIH,hX⟩).mono ?_
 rintro e w6 ⟨a1f,c1f,a2f,c2f,a3f,c3f,a4f,c4f,rfl,hK,hE⟩
 replace hP:=hP.ext hE
 replace hBA:=hBA.ext hE
 replace hIA:=hIA.ext hE
 replace hBc:=hBc.ext hE
 replace hIc:=hIc.ext hE
 replace hBd:=hBd.ext hE
 replace hId:=hId.ext hE
 replace hBH:=hBH.ext hE
 replace hIH:=hIH.ext hE
 replace hBe:=hBe.ext hE
 replace hIe:=hIe.ext hE
 replace hX:=hX.ext hE
 clear hE
 replace hBA:=hBA.alloc (.cells #[.int .i64 kx,.slice a1f Gx.length c1f,.slice a2f Ox.length c2f,.int .i64 ax,.int .i64 bx,.int .i64 sx,.int .i64 px,.slice a3f Tx.length c3f,.slice a4f Qx.length c4f,.int .i64 nx] 38)
 replace hIA:=hIA.ext ((Ext.refl w6).alloc (.cells #[.int .i64 kx,.slice a1f Gx.length c1f,.slice a2f Ox.length c2f,.int .i64 ax,.int .i64 bx,.int .i64 sx,.int .i64 px,.slice a3f Tx.length c3f,.slice a4f Qx.length c4f,.int .i64 nx] 38))
 replace hBc:=hBc.alloc (.cells #[.int .i64 kx,.slice a1f Gx.length c1f,.slice a2f Ox.length c2f,.int .i64 ax,.int .i64 bx,.int .i64 sx,.int .i64 px,.slice a3f Tx.length c3f,.slice a4f Qx.length c4f,.int .i64 nx] 38)
 replace hIc:=hIc.ext ((Ext.refl w6).alloc (.cells #[.int .i64 kx,.slice a1f Gx.length c1f,.slice a2f Ox.length c2f,.int .i64 ax,.int .i64 bx,.int .i64 sx,.int .i64 px,.slice a3f Tx.length c3f,.slice a4f Qx.length c4f,.int .i64 nx] 38))
 replace hBd:=hBd.alloc (.cells #[.int .i64 kx,.slice a1f Gx.length c1f,.slice a2f Ox.length c2f,.int .i64 ax,.int .i64 bx,.int .i64 sx,.int .i64 px,.slice a3f Tx.length c3f,.slice a4f Qx.length c4f,.int .i64 nx] 38)
 replace hId:=hId.ext ((Ext.refl w6).alloc (.cells #[.int .i64 kx,.slice a1f Gx.length c1f,.slice a2f Ox.length c2f,.int .i64 ax,.int .i64 bx,.int .i64 sx,.int .i64 px,.slice a3f Tx.length c3f,.slice a4f Qx.length c4f,.int .i64 nx] 38))
 replace hBH:=hBH.alloc (.cells #[.int .i64 kx,.slice a1f Gx.length c1f,.slice a2f Ox.length c2f,.int .i64 ax,.int .i64 bx,.int .i64 sx,.int .i64 px,.slice a3f Tx.length c3f,.slice a4f Qx.length c4f,.int .i64 nx] 38)
 replace hIH:=hIH.ext ((Ext.refl w6).alloc (.cells #[.int .i64 kx,.slice a1f Gx.length c1f,.slice a2f Ox.length c2f,.int .i64 ax,.int .i64 bx,.int .i64 sx,.int .i64 px,.slice a3f Tx.length c3f,.slice a4f Qx.length c4f,.int .i64 nx] 38))
 replace hBe:=hBe.alloc (.cells #[.int .i64 kx,.slice a1f Gx.length c1f,.slice a2f Ox.length c2f,.int .i64 ax,.int .i64 bx,.int .i64 sx,.int .i64 px,.slice a3f Tx.length c3f,.slice a4f Qx.length c4f,.int .i64 nx] 38)
 replace hIe:=hIe.ext ((Ext.refl w6).alloc (.cells #[.int .i64 kx,.slice a1f Gx.length c1f,.slice a2f Ox.length c2f,.int .i64 ax,.int .i64 bx,.int .i64 sx,.int .i64 px,.slice a3f Tx.length c3f,.slice a4f Qx.length c4f,.int .i64 nx] 38))
 replace hX:=hX.ext ((Ext.refl w6).alloc (.cells #[.int .i64 kx,.slice a1f Gx.length c1f,.slice a2f Ox.length c2f,.int .i64 ax,.int .i64 bx,.int .i64 sx,.int .i64 px,.slice a3f Tx.length c3f,.slice a4f Qx.length c4f,.int .i64 nx] 38))
 have hBf:=Blk.new w6 38 #[.int .i64 kx,.slice a1f Gx.length c1f,.slice a2f Ox.length c2f,.int .i64 ax,.int .i64 bx,.int .i64 sx,.int .i64 px,.slice a3f Tx.length c3f,.slice a4f Qx.length c4f,.int .i64 nx]
 have hIf:=(hK).ext ((Ext.refl w6).alloc (.cells #[.int .i64 kx,.slice a1f Gx.length c1f,.slice a2f Ox.length c2f,.int .i64 ax,.int .i64 bx,.int .i64 sx,.int .i64 px,.slice a3f Tx.length c3f,.slice a4f Qx.length c4f,.int .i64 nx] 38))
 have eN:=(Ext.refl w6).alloc (.cells #[.int .i64 kx,.slice a1f Gx.length c1f,.slice a2f Ox.length c2f,.int .i64 ax,.int .i64 bx,.int .i64 sx,.int .i64 px,.slice a3f Tx.length c3f,.slice a4f Qx.length c4f,.int .i64 nx] 38)
 obtain⟨W6,hW6⟩:∃x,x=w6.alloc (.cells #[.int .i64 kx,.slice a1f Gx.length c1f,.slice a2f Ox.length c2f,.int .i64 ax,.int .i64 bx,.int .i64 sx,.int .i64 px,.slice a3f Tx.length c3f,.slice a4f Qx.length c4f,.int .i64 nx] 38):=⟨_,rfl⟩
 rw[←hW6] at hBA hIA hBc hIc hBd hId hBH hIH hBe hIe hBf hIf hX eN
 replace hP:=hP.ext eN
 clear eN
 clear hK
 have HW6:=Lib.hid hW6
 clear hW6
 have hE:=Ext.refl W6
 go_upto_region 9 with fail
 rw[←HW6.out]
 clear HW6
 go_cut [129] (fun s wx=>s=.bool false∧LawC w v l wx)
 case first =>
  as_aux_lemma =>
   cases Ru<;>cases Rx
   · skip
     have kc0:=hBc.cell (i:=0) (v:=.int .i64 ku) rfl
     have kc1:=hBc.cell (i:=1) (v:=.slice a1c Gu.length c1c) rfl
     have kc2:=hBc.cell (i:=2) (v:=.slice a2c Ou.length c2c) rfl
     have kc3:=hBc.cell (i:=3) (v:=.int .i64 au) rfl
     have kc4:=hBc.cell (i:=4) (v:=.int .i64 bu) rfl
     have kc5:=hBc.cell (i:=5) (v:=.int .i64 su) rfl
     have kc6:=hBc.cell (i:=6) (v:=.int .i64 pu) rfl
     have kc7:=hBc.cell (i:=7) (v:=.slice a3c Tu.length c3c) rfl
     have kc8:=hBc.cell (i:=8) (v:=.slice a4c Qu.length c4c) rfl
     have kc9:=hBc.cell (i:=9) (v:=.int .i64 nu) rfl
     have kd0:=hBd.cell (i:=0) (v:=.int .i64 ku) rfl
     have kd1:=hBd.cell (i:=1) (v:=.slice a1d Gu.length c1d) rfl
     have kd2:=hBd.cell (i:=2) (v:=.slice a2d Ou.length c2d) rfl
     have kd3:=hBd.cell (i:=3) (v:=.int .i64 au) rfl
     have kd4:=hBd.cell (i:=4) (v:=.int .i64 bu) rfl
     have kd5:=hBd.cell (i:=5) (v:=.int .i64 su) rfl
     have kd6:=hBd.cell (i:=6) (v:=.int .i64 pu) rfl
     have kd7:=hBd.cell (i:=7) (v:=.slice a3d Tu.length c3d) rfl
     have kd8:=hBd.cell (i:=8) (v:=.slice a4d Qu.length c4d) rfl
     have kd9:=hBd.cell (i:=9) (v:=.int .i64 nu) rfl
     go_wp2_with fail
     clear kc0 kc1 kc2 kc3 kc4 kc5 kc6 kc7 kc8 kc9 kd0 kd1 kd2 kd3 kd4 kd5 kd6 kd7 kd8 kd9
     refine (eq_same _ _ _ _ _ _ _ _ _ _ _ _ _ _ _ _ _ _ _ hIc hId).mono ?_
     rintro e w9 ⟨rfl,hE⟩
     replace hP:=hP.ext hE
     replace hBA:=hBA.ext hE
     replace hIA:=hIA.ext hE
     replace hBc:=hBc.ext hE
     replace hIc:=hIc.ext hE
     replace hBd:=hBd.ext hE
     replace hId:=hId.ext hE
     replace hBH:=hBH.ext hE
     replace hIH:=hIH.ext hE
     replace hBe:=hBe.ext hE
     replace hIe:=hIe.ext hE
     replace hBf:=hBf.ext hE
     replace hIf:=hIf.ext hE
     replace hX:=hX.ext hE
     clear hE
     have ke0:=hBe.cell (i:=0) (v:=.int .i64 kx) rfl
     have ke1:=hBe.cell (i:=1) (v:=.slice a1e Gx.length c1e) rfl
     have ke2:=hBe.cell (i:=2) (v:=.slice a2e Ox.length c2e) rfl
     have ke3:=hBe.cell (i:=3) (v:=.int .i64 ax) rfl
     have ke4:=hBe.cell (i:=4) (v:=.int .i64 bx) rfl
     have ke5:=hBe.cell (i:=5) (v:=.int .i64 sx) rfl
     have ke6:=hBe.cell (i:=6) (v:=.int .i64 px) rfl
     have ke7:=hBe.cell (i:=7) (v:=.slice a3e Tx.length c3e) rfl
     have ke8:=hBe.cell (i:=8) (v:=.slice a4e Qx.length c4e) rfl
     have ke9:=hBe.cell (i:=9) (v:=.int .i64 nx) rfl
     have kf0:=hBf.cell (i:=0) (v:=.int .i64 kx) rfl
     have kf1:=hBf.cell (i:=1) (v:=.slice a1f Gx.length c1f) rfl
     have kf2:=hBf.cell (i:=2) (v:=.slice a2f Ox.length c2f) rfl
     have kf3:=hBf.cell (i:=3) (v:=.int .i64 ax) rfl
     have kf4:=hBf.cell (i:=4) (v:=.int .i64 bx) rfl
     have kf5:=hBf.cell (i:=5) (v:=.int .i64 sx) rfl
     have kf6:=hBf.cell (i:=6) (v:=.int .i64 px) rfl
     have kf7:=hBf.cell (i:=7) (v:=.slice a3f Tx.length c3f) rfl
     have kf8:=hBf.cell (i:=8) (v:=.slice a4f Qx.length c4f) rfl
     have kf9:=hBf.cell (i:=9) (v:=.int .i64 nx) rfl
     go_wp2_with fail
     clear ke0 ke1 ke2 ke3 ke4 ke5 ke6 ke7 ke8 ke9 kf0 kf1 kf2 kf3 kf4 kf5 kf6 kf7 kf8 kf9
     refine (eq_same _ _ _ _ _ _ _ _ _ _ _ _ _ _ _ _ _ _ _ hIe hIf).mono ?_
     rintro e w9 ⟨rfl,hE⟩
     replace hP:=hP.ext hE
     replace hBA:=hBA.ext hE
     replace hIA:=hIA.ext hE
     replace hBc:=hBc.ext hE
     replace hIc:=hIc.ext hE
     replace hBd:=hBd.ext hE
     replace hId:=hId.ext hE
     replace hBH:=hBH.ext hE
     replace hIH:=hIH.ext hE
     replace hBe:=hBe.ext hE
     replace hIe:=hIe.ext hE
     replace hBf:=hBf.ext hE
     replace hIf:=hIf.ext hE
     replace hX:=hX.ext hE
     clear hE
     have kH0:=hBH.cell (i:=0) (v:=.slice aH LH.length cH) rfl
     go_wp2_with fail
     clear kH0
     refine (hQ _ ⟨hIH,hX⟩).mono ?_
     rintro e w9 ⟨rfl,hE⟩
     replace hP:=hP.ext hE
     replace hBA:=hBA.ext hE
     replace hIA:=hIA.ext hE
     replace hBc:=hBc.ext hE
     replace hIc:=hIc.ext hE
     replace hBd:=hBd.ext hE
     replace hId:=hId.ext hE
     replace hBH:=hBH.ext hE
     replace hIH:=hIH.ext hE
     replace hBe:=hBe.ext hE
     replace hIe:=hIe.ext hE
     replace hBf:=hBf.ext hE
     replace hIf:=hIf.ext hE
     replace hX:=hX.ext hE
     clear hE
     go_wp2_with fail
     go_meet
     exact⟨rfl,hP⟩
   · skip
     have kc0:=hBc.cell (i:=0) (v:=.int .i64 ku) rfl
     have kc1:=hBc.cell (i:=1) (v:=.slice a1c Gu.length c1c) rfl
     have kc2:=hBc.cell (i:=2) (v:=.slice a2c Ou.length c2c) rfl
     have kc3:=hBc.cell (i:=3) (v:=.int .i64 au) rfl
     have kc4:=hBc.cell (i:=4) (v:=.int .i64 bu) rfl
     have kc5:=hBc.cell (i:=5) (v:=.int .i64 su) rfl
     have kc6:=hBc.cell (i:=6) (v:=.int .i64 pu) rfl
     have kc7:=hBc.cell (i:=7) (v:=.slice a3c Tu.length c3c) rfl
     have kc8:=hBc.cell (i:=8) (v:=.slice a4c Qu.length c4c) rfl
     have kc9:=hBc.cell (i:=9) (v:=.int .i64 nu) rfl
     have kd0:=hBd.cell (i:=0) (v:=.int .i64 ku) rfl
     have kd1:=hBd.cell (i:=1) (v:=.slice a1d Gu.length c1d) rfl
     have kd2:=hBd.cell (i:=2) (v:=.slice a2d Ou.length c2d) rfl
     have kd3:=hBd.cell (i:=3) (v:=.int .i64 au) rfl
     have kd4:=hBd.cell (i:=4) (v:=.int .i64 bu) rfl
     have kd5:=hBd.cell (i:=5) (v:=.int .i64 su) rfl
     have kd6:=hBd.cell (i:=6) (v:=.int .i64 pu) rfl
     have kd7:=hBd.cell (i:=7) (v:=.slice a3d Tu.length c3d) rfl
     have kd8:=hBd.cell (i:=8) (v:=.slice a4d Qu.length c4d) rfl
     have kd9:=hBd.cell (i:=9) (v:=.int .i64 nu) rfl
     go_wp2_with fail
     clear kc0 kc1 kc2 kc3 kc4 kc5 kc6 kc7 kc8 kc9 kd0 kd1 kd2 kd3 kd4 kd5 kd6 kd7 kd8 kd9
     refine (eq_same _ _ _ _ _ _ _ _ _ _ _ _ _ _ _ _ _ _ _ hIc hId).mono ?_
     rintro e w9 ⟨rfl,hE⟩
     replace hP:=hP.ext hE
     replace hBA:=hBA.ext hE
     replace hIA:=hIA.ext hE
     replace hBc:=hBc.ext hE
     replace hIc:=hIc.ext hE
     replace hBd:=hBd.ext hE
     replace hId:=hId.ext hE
     replace hBH:=hBH.ext hE
     replace hIH:=hIH.ext hE
     replace hBe:=hBe.ext hE
     replace hIe:=hIe.ext hE
     replace hBf:=hBf.ext hE
     replace hIf:=hIf.ext hE
     replace hX:=hX.ext hE
     clear hE
     have ke0:=hBe.cell (i:=0) (v:=.int .i64 kx) rfl
     have ke1:=hBe.cell (i:=1) (v:=.slice a1e Gx.length c1e) rfl
     have ke2:=hBe.cell (i:=2) (v:=.slice a2e Ox.length c2e) rfl
     have ke3:=hBe.cell (i:=3) (v:=.int .i64 ax) rfl
     have ke4:=hBe.cell (i:=4) (v:=.int .i64 bx) rfl
     have ke5:=hBe.cell (i:=5) (v:=.int .i64 sx) rfl
     have ke6:=hBe.cell (i:=6) (v:=.int .i64 px) rfl
     have ke7:=hBe.cell (i:=7) (v:=.slice a3e Tx.length c3e) rfl
     have ke8:=hBe.cell (i:=8) (v:=.slice a4e Qx.length c4e) rfl
     have ke9:=hBe.cell (i:=9) (v:=.int .i64 nx) rfl
     have kf0:=hBf.cell (i:=0) (v:=.int .i64 kx) rfl
     have kf1:=hBf.cell (i:=1) (v:=.slice a1f Gx.length c1f) rfl
     have kf2:=hBf.cell (i:=2) (v:=.slice a2f Ox.length c2f) rfl
     have kf3:=hBf.cell (i:=3) (v:=.int .i64 ax) rfl
     have kf4:=hBf.cell (i:=4) (v:=.int .i64 bx) rfl
     have kf5:=hBf.cell (i:=5) (v:=.int .i64 sx) rfl
     have kf6:=hBf.cell (i:=6) (v:=.int .i64 px) rfl
     have kf7:=hBf.cell (i:=7) (v:=.slice a3f Tx.length c3f) rfl
     have kf8:=hBf.cell (i:=8) (v:=.slice a4f Qx.length c4f) rfl
     have kf9:=hBf.cell (i:=9) (v:=.int .i64 nx) rfl
     go_wp2_with fail
     clear ke0 ke1 ke2 ke3 ke4 ke5 ke6 ke7 ke8 ke9 kf0 kf1 kf2 kf3 kf4 kf5 kf6 kf7 kf8 kf9
     refine (eq_same _ _ _ _ _ _ _ _ _ _ _ _ _ _ _ _ _ _ _ hIe hIf).mono ?_
     rintro e w9 ⟨rfl,hE⟩
     replace hP:=hP.ext hE
     replace hBA:=hBA.ext hE
     replace hIA:=hIA.ext hE
     replace hBc:=hBc.ext hE
     replace hIc:=hIc.ext hE
     replace hBd:=hBd.ext hE
     replace hId:=hId.ext hE
     replace hBH:=hBH.ext hE
     replace hIH:=hIH.ext hE
     replace hBe:=hBe.ext hE
     replace hIe:=hIe.ext hE
     replace hBf:=hBf.ext hE
     replace hIf:=hIf.ext hE
     replace hX:=hX.ext hE
     clear hE
     have kH0:=hBH.cell (i:=0) (v:=.slice aH LH.length cH) rfl
     go_wp2_with fail
     clear kH0
     refine (hQ _ ⟨hIH,hX⟩).mono ?_
     rintro e w9 ⟨rfl,hE⟩
     replace hP:=hP.ext hE
     replace hBA:=hBA.ext hE
     replace hIA:=hIA.ext hE
     replace hBc:=hBc.ext hE
     replace hIc:=hIc.ext hE
     replace hBd:=hBd.ext hE
     replace hId:=hId.ext hE
     replace hBH:=hBH.ext hE
     replace hIH:=hIH.ext hE
     replace hBe:=hBe.ext hE
     replace hIe:=hIe.ext hE
     replace hBf:=hBf.ext hE
     replace hIf:=hIf.ext hE
     replace hX:=hX.ext hE
     clear hE
     have kf0:=hBf.cell (i:=0) (v:=.int .i64 kx) rfl
     have kf1:=hBf.cell (i:=1) (v:=.slice a1f Gx.length c1f) rfl
     have kf2:=hBf.cell (i:=2) (v:=.slice a2f Ox.length c2f) rfl
     have kf3:=hBf.cell (i:=3) (v:=.int .i64 ax) rfl
     have kf4:=hBf.cell (i:=4) (v:=.int .i64 bx) rfl
     have kf5:=hBf.cell (i:=5) (v:=.int .i64 sx) rfl
     have kf6:=hBf.cell (i:=6) (v:=.int .i64 px) rfl
     have kf7:=hBf.cell (i:=7) (v:=.slice a3f Tx.length c3f) rfl
     have kf8:=hBf.cell (i:=8) (v:=.slice a4f Qx.length c4f) rfl
     have kf9:=hBf.cell (i:=9) (v:=.int .i64 nx) rfl
     go_wp2_with fail
     clear kf0 kf1 kf2 kf3 kf4 kf5 kf6 kf7 kf8 kf9
     refine (ck_yes (hMx.2.2 rfl) _ _ _ _ _ hIf).mono ?_
     rintro e w9 ⟨rfl,hE⟩
     replace hP:=hP.ext hE
     replace hBA:=hBA.ext hE
     replace hIA:=hIA.ext hE
     replace hBc:=hBc.ext hE
     replace hIc:=hIc.ext hE
     replace hBd:=hBd.ext hE
     replace hId:=hId.ext hE
     replace hBH:=hBH.ext hE
     replace hIH:=hIH.ext hE
     replace hBe:=hBe.ext hE
     replace hIe:=hIe.ext hE
     replace hBf:=hBf.ext hE
     replace hIf:=hIf.ext hE
     replace hX:=hX.ext hE
     clear hE
     go_wp2_with fail
     go_meet
     exact⟨rfl,hP⟩
   · skip
     have kc0:=hBc.cell (i:=0) (v:=.int .i64 ku) rfl
     have kc1:=hBc.cell (i:=1) (v:=.slice a1c Gu.length c1c) rfl
     have kc2:=hBc.cell (i:=2) (v:=.slice a2c Ou.length c2c) rfl
     have kc3:=hBc.cell (i:=3) (v:=.int .i64 au) rfl
     have kc4:=hBc.cell (i:=4) (v:=.int .i64 bu) rfl
     have kc5:=hBc.cell (i:=5) (v:=.int .i64 su) rfl
     have kc6:=hBc.cell (i:=6) (v:=.int .i64 pu) rfl
     have kc7:=hBc.cell (i:=7) (v:=.slice a3c Tu.length c3c) rfl
     have kc8:=hBc.cell (i:=8) (v:=.slice a4c Qu.length c4c) rfl
     have kc9:=hBc.cell (i:=9) (v:=.int .i64 nu) rfl
     have kd0:=hBd.cell (i:=0) (v:=.int .i64 ku) rfl
     have kd1:=hBd.cell (i:=1) (v:=.slice a1d Gu.length c1d) rfl
     have kd2:=hBd.cell (i:=2) (v:=.slice a2d Ou.length c2d) rfl
     have kd3:=hBd.cell (i:=3) (v:=.int .i64 au) rfl
     have kd4:=hBd.cell (i:=4) (v:=.int .i64 bu) rfl
     have kd5:=hBd.cell (i:=5) (v:=.int .i64 su) rfl
     have kd6:=hBd.cell (i:=6) (v:=.int .i64 pu) rfl
     have kd7:=hBd.cell (i:=7) (v:=.slice a3d Tu.length c3d) rfl
     have kd8:=hBd.cell (i:=8) (v:=.slice a4d Qu.length c4d) rfl
     have kd9:=hBd.cell (i:=9) (v:=.int .i64 nu) rfl
     go_wp2_with fail
     clear kc0 kc1 kc2 kc3 kc4 kc5 kc6 kc7 kc8 kc9 kd0 kd1 kd2 kd3 kd4 kd5 kd6 kd7 kd8 kd9
     refine (eq_same _ _ _ _ _ _ _ _ _ _ _ _ _ _ _ _ _ _ _ hIc hId).mono ?_
     rintro e w9 ⟨rfl,hE⟩
     replace hP:=hP.ext hE
     replace hBA:=hBA.ext hE
     replace hIA:=hIA.ext hE
     replace hBc:=hBc.ext hE
     replace hIc:=hIc.ext hE
     replace hBd:=hBd.ext hE
     replace hId:=hId.ext hE
     replace hBH:=hBH.ext hE
     replace hIH:=hIH.ext hE
     replace hBe:=hBe.ext hE
     replace hIe:=hIe.ext hE
     replace hBf:=hBf.ext hE
     replace hIf:=hIf.ext hE
     replace hX:=hX.ext hE
     clear hE
     have kd0:=hBd.cell (i:=0) (v:=.int .i64 ku) rfl
     have kd1:=hBd.cell (i:=1) (v:=.slice a1d Gu.length c1d) rfl
     have kd2:=hBd.cell (i:=2) (v:=.slice a2d Ou.length c2d) rfl
     have kd3:=hBd.cell (i:=3) (v:=.int .i64 au) rfl
     have kd4:=hBd.cell (i:=4) (v:=.int .i64 bu) rfl
     have kd5:=hBd.cell (i:=5) (v:=.int .i64 su) rfl
     have kd6:=hBd.cell (i:=6) (v:=.int .i64 pu) rfl
     have kd7:=hBd.cell (i:=7) (v:=.slice a3d Tu.length c3d) rfl
     have kd8:=hBd.cell (i:=8) (v:=.slice a4d Qu.length c4d) rfl
     have kd9:=hBd.cell (i:=9) (v:=.int .i64 nu) rfl
     go_wp2_with fail
     clear kd0 kd1 kd2 kd3 kd4 kd5 kd6 kd7 kd8 kd9
     refine (ck_yes (hMu.2.2 rfl) _ _ _ _ _ hId).mono ?_
     rintro e w9 ⟨rfl,hE⟩
     replace hP:=hP.ext hE
     replace hBA:=hBA.ext hE
     replace hIA:=hIA.ext hE
     replace hBc:=hBc.ext hE
     replace hIc:=hIc.ext hE
     replace hBd:=hBd.ext hE
     replace hId:=hId.ext hE
     replace hBH:=hBH.ext hE
     replace hIH:=hIH.ext hE
     replace hBe:=hBe.ext hE
     replace hIe:=hIe.ext hE
     replace hBf:=hBf.ext hE
     replace hIf:=hIf.ext hE
     replace hX:=hX.ext hE
     clear hE
     have ke0:=hBe.cell (i:=0) (v:=.int .i64 kx) rfl
     have ke1:=hBe.cell (i:=1) (v:=.slice a1e Gx.length c1e) rfl
     have ke2:=hBe.cell (i:=2) (v:=.slice a2e Ox.length c2e) rfl
     have ke3:=hBe.cell (i:=3) (v:=.int .i64 ax) rfl
     have ke4:=hBe.cell (i:=4) (v:=.int .i64 bx) rfl
     have ke5:=hBe.cell (i:=5) (v:=.int .i64 sx) rfl
     have ke6:=hBe.cell (i:=6) (v:=.int .i64 px) rfl
     have ke7:=hBe.cell (i:=7) (v:=.slice a3e Tx.length c3e) rfl
     have ke8:=hBe.cell (i:=8) (v:=.slice a4e Qx.length c4e) rfl
     have ke9:=hBe.cell (i:=9) (v:=.int .i64 nx) rfl
     have kf0:=hBf.cell (i:=0) (v:=.int .i64 kx) rfl
     have kf1:=hBf.cell (i:=1) (v:=.slice a1f Gx.length c1f) rfl
     have kf2:=hBf.cell (i:=2) (v:=.slice a2f Ox.length c2f) rfl
     have kf3:=hBf.cell (i:=3) (v:=.int .i64 ax) rfl
     have kf4:=hBf.cell (i:=4) (v:=.int .i64 bx) rfl
     have kf5:=hBf.cell (i:=5) (v:=.int .i64 sx) rfl
     have kf6:=hBf.cell (i:=6) (v:=.int .i64 px) rfl
     have kf7:=hBf.cell (i:=7) (v:=.slice a3f Tx.length c3f) rfl
     have kf8:=hBf.cell (i:=8) (v:=.slice a4f Qx.length c4f) rfl
     have kf9:=hBf.cell (i:=9) (v:=.int .i64 nx) rfl
     go_wp2_with fail
     clear ke0 ke1 ke2 ke3 ke4 ke5 ke6 ke7 ke8 ke9 kf0 kf1 kf2 kf3 kf4 kf5 kf6 kf7 kf8 kf9
     refine (eq_same _ _ _ _ _ _ _ _ _ _ _ _ _ _ _ _ _ _ _ hIe hIf).mono ?_
     rintro e w9 ⟨rfl,hE⟩
     replace hP:=hP.ext hE
     replace hBA:=hBA.ext hE
     replace hIA:=hIA.ext hE
     replace hBc:=hBc.ext hE
     replace hIc:=hIc.ext hE
     replace hBd:=hBd.ext hE
     replace hId:=hId.ext hE
     replace hBH:=hBH.ext hE
     replace hIH:=hIH.ext hE
     replace hBe:=hBe.ext hE
     replace hIe:=hIe.ext hE
     replace hBf:=hBf.ext hE
     replace hIf:=hIf.ext hE
     replace hX:=hX.ext hE
     clear hE
     have kH0:=hBH.cell (i:=0) (v:=.slice aH LH.length cH) rfl
     go_wp2_with fail
     clear kH0
     refine (hQ _ ⟨hIH,hX⟩).mono ?_
     rintro e w9 ⟨rfl,hE⟩
     replace hP:=hP.ext hE
     replace hBA:=hBA.ext hE
     replace hIA:=hIA.ext hE
     replace hBc:=hBc.ext hE
     replace hIc:=hIc.ext hE
     replace hBd:=hBd.ext hE
     replace hId:=hId.ext hE
     replace hBH:=hBH.ext hE
     replace hIH:=hIH.ext hE
     replace hBe:=hBe.ext hE
     replace hIe:=hIe.ext hE
     replace hBf:=hBf.ext hE
     replace hIf:=hIf.ext hE
     replace hX:=hX.ext hE
     clear hE
     go_wp2_with fail
     go_meet
     exact⟨rfl,hP⟩
   · skip
     have kc0:=hBc.cell (i:=0) (v:=.int .i64 ku) rfl
     have kc1:=hBc.cell (i:=1) (v:=.slice a1c Gu.length c1c) rfl
     have kc2:=hBc.cell (i:=2) (v:=.slice a2c Ou.length c2c) rfl
     have kc3:=hBc.cell (i:=3) (v:=.int .i64 au) rfl
     have kc4:=hBc.cell (i:=4) (v:=.int .i64 bu) rfl
     have kc5:=hBc.cell (i:=5) (v:=.int .i64 su) rfl
     have kc6:=hBc.cell (i:=6) (v:=.int .i64 pu) rfl
     have kc7:=hBc.cell (i:=7) (v:=.slice a3c Tu.length c3c) rfl
     have kc8:=hBc.cell (i:=8) (v:=.slice a4c Qu.length c4c) rfl
     have kc9:=hBc.cell (i:=9) (v:=.int .i64 nu) rfl
     have kd0:=hBd.cell (i:=0) (v:=.int .i64 ku) rfl
     have kd1:=hBd.cell (i:=1) (v:=.slice a1d Gu.length c1d) rfl
     have kd2:=hBd.cell (i:=2) (v:=.slice a2d Ou.length c2d) rfl
     have kd3:=hBd.cell (i:=3) (v:=.int .i64 au) rfl
     have kd4:=hBd.cell (i:=4) (v:=.int .i64 bu) rfl
     have kd5:=hBd.cell (i:=5) (v:=.int .i64 su) rfl
     have kd6:=hBd.cell (i:=6) (v:=.int .i64 pu) rfl
     have kd7:=hBd.cell (i:=7) (v:=.slice a3d Tu.length c3d) rfl
     have kd8:=hBd.cell (i:=8) (v:=.slice a4d Qu.length c4d) rfl
     have kd9:=hBd.cell (i:=9) (v:=.int .i64 nu) rfl
     go_wp2_with fail
     clear kc0 kc1 kc2 kc3 kc4 kc5 kc6 kc7 kc8 kc9 kd0 kd1 kd2 kd3 kd4 kd5 kd6 kd7 kd8 kd9
     refine (eq_same _ _ _ _ _ _ _ _ _ _ _ _ _ _ _ _ _ _ _ hIc hId).mono ?_
     rintro e w9 ⟨rfl,hE⟩
     replace hP:=hP.ext hE
     replace hBA:=hBA.ext hE
     replace hIA:=hIA.ext hE
     replace hBc:=hBc.ext hE
     replace hIc:=hIc.ext hE
     replace hBd:=hBd.ext hE
     replace hId:=hId.ext hE
     replace hBH:=hBH.ext hE
     replace hIH:=hIH.ext hE
     replace hBe:=hBe.ext hE
     replace hIe:=hIe.ext hE
     replace hBf:=hBf.ext hE
     replace hIf:=hIf.ext hE
     replace hX:=hX.ext hE
     clear hE
     have kd0:=hBd.cell (i:=0) (v:=.int .i64 ku) rfl
     have kd1:=hBd.cell (i:=1) (v:=.slice a1d Gu.length c1d) rfl
     have kd2:=hBd.cell (i:=2) (v:=.slice a2d Ou.length c2d) rfl
     have kd3:=hBd.cell (i:=3) (v:=.int .i64 au) rfl
     have kd4:=hBd.cell (i:=4) (v:=.int .i64 bu) rfl
     have kd5:=hBd.cell (i:=5) (v:=.int .i64 su) rfl
     have kd6:=hBd.cell (i:=6) (v:=.int .i64 pu) rfl
     have kd7:=hBd.cell (i:=7) (v:=.slice a3d Tu.length c3d) rfl
     have kd8:=hBd.cell (i:=8) (v:=.slice a4d Qu.length c4d) rfl
     have kd9:=hBd.cell (i:=9) (v:=.int .i64 nu) rfl
     go_wp2_with fail
     clear kd0 kd1 kd2 kd3 kd4 kd5 kd6 kd7 kd8 kd9
     refine (ck_yes (hMu.2.2 rfl) _ _ _ _ _ hId).mono ?_
     rintro e w9 ⟨rfl,hE⟩
     replace hP:=hP.ext hE
     replace hBA:=hBA.ext hE
     replace hIA:=hIA.ext hE
     replace hBc:=hBc.ext hE
     replace hIc:=hIc.ext hE
     replace hBd:=hBd.ext hE
     replace hId:=hId.ext hE
     replace hBH:=hBH.ext hE
     replace hIH:=hIH.ext hE
     replace hBe:=hBe.ext hE
     replace hIe:=hIe.ext hE
     replace hBf:=hBf.ext hE
     replace hIf:=hIf.ext hE
     replace hX:=hX.ext hE
     clear hE
     have ke0:=hBe.cell (i:=0) (v:=.int .i64 kx) rfl
     have ke1:=hBe.cell (i:=1) (v:=.slice a1e Gx.length c1e) rfl
     have ke2:=hBe.cell (i:=2) (v:=.slice a2e Ox.length c2e) rfl
     have ke3:=hBe.cell (i:=3) (v:=.int .i64 ax) rfl
     have ke4:=hBe.cell (i:=4) (v:=.int .i64 bx) rfl
     have ke5:=hBe.cell (i:=5) (v:=.int .i64 sx) rfl
     have ke6:=hBe.cell (i:=6) (v:=.int .i64 px) rfl
     have ke7:=hBe.cell (i:=7) (v:=.slice a3e Tx.length c3e) rfl
     have ke8:=hBe.cell (i:=8) (v:=.slice a4e Qx.length c4e) rfl
     have ke9:=hBe.cell (i:=9) (v:=.int .i64 nx) rfl
     have kf0:=hBf.cell (i:=0) (v:=.int .i64 kx) rfl
     have kf1:=hBf.cell (i:=1) (v:=.slice a1f Gx.length c1f) rfl
     have kf2:=hBf.cell (i:=2) (v:=.slice a2f Ox.length c2f) rfl
     have kf3:=hBf.cell (i:=3) (v:=.int .i64 ax) rfl
     have kf4:=hBf.cell (i:=4) (v:=.int .i64 bx) rfl
     have kf5:=hBf.cell (i:=5) (v:=.int .i64 sx) rfl
     have kf6:=hBf.cell (i:=6) (v:=.int .i64 px) rfl
     have kf7:=hBf.cell (i:=7) (v:=.slice a3f Tx.length c3f) rfl
     have kf8:=hBf.cell (i:=8) (v:=.slice a4f Qx.length c4f) rfl
     have kf9:=hBf.cell (i:=9) (v:=.int .i64 nx) rfl
     go_wp2_with fail
     clear ke0 ke1 ke2 ke3 ke4 ke5 ke6 ke7 ke8 ke9 kf0 kf1 kf2 kf3 kf4 kf5 kf6 kf7 kf8 kf9
     refine (eq_same _ _ _ _ _ _ _ _ _ _ _ _ _ _ _ _ _ _ _ hIe hIf).mono ?_
     rintro e w9 ⟨rfl,hE⟩
     replace hP:=hP.ext hE
     replace hBA:=hBA.ext hE
     replace hIA:=hIA.ext hE
     replace hBc:=hBc.ext hE
     replace hIc:=hIc.ext hE
     replace hBd:=hBd.ext hE
     replace hId:=hId.ext hE
     replace hBH:=hBH.ext hE
     replace hIH:=hIH.ext hE
     replace hBe:=hBe.ext hE
     replace hIe:=hIe.ext hE
     replace hBf:=hBf.ext hE
     replace hIf:=hIf.ext hE
     replace hX:=hX.ext hE
     clear hE
     have kH0:=hBH.cell (i:=0) (v:=.slice aH LH.length cH) rfl
     go_wp2_with fail
     clear kH0
     refine (hQ _ ⟨hIH,hX⟩).mono ?_
     rintro e w9 ⟨rfl,hE⟩
     replace hP:=hP.ext hE
     replace hBA:=hBA.ext hE
     replace hIA:=hIA.ext hE
     replace hBc:=hBc.ext hE
     replace hIc:=hIc.ext hE
     replace hBd:=hBd.ext hE
     replace hId:=hId.ext hE
     replace hBH:=hBH.ext hE
     replace hIH:=hIH.ext hE
     replace hBe:=hBe.ext hE
     replace hIe:=hIe.ext hE
     replace hBf:=hBf.ext hE
     replace hIf:=hIf.ext hE
     replace hX:=hX.ext hE
     clear hE
     have kf0:=hBf.cell (i:=0) (v:=.int .i64 kx) rfl
     have kf1:=hBf.cell (i:=1) (v:=.slice a1f Gx.length c1f) rfl
     have kf2:=hBf.cell (i:=2) (v:=.slice a2f Ox.length c2f) rfl
     have kf3:=hBf.cell (i:=3) (v:=.int .i64 ax) rfl
     have kf4:=hBf.cell (i:=4) (v:=.int .i64 bx) rfl
     have kf5:=hBf.cell (i:=5) (v:=.int .i64 sx) rfl
     have kf6:=hBf.cell (i:=6) (v:=.int .i64 px) rfl
     have kf7:=hBf.cell (i:=7) (v:=.slice a3f Tx.length c3f) rfl
     have kf8:=hBf.cell (i:=8) (v:=.slice a4f Qx.length c4f) rfl
     have kf9:=hBf.cell (i:=9) (v:=.int .i64 nx) rfl
     go_wp2_with fail
     clear kf0 kf1 kf2 kf3 kf4 kf5 kf6 kf7 kf8 kf9
     refine (ck_yes (hMx.2.2 rfl) _ _ _ _ _ hIf).mono ?_
     rintro e w9 ⟨rfl,hE⟩
     replace hP:=hP.ext hE
     replace hBA:=hBA.ext hE
     replace hIA:=hIA.ext hE
     replace hBc:=hBc.ext hE
     replace hIc:=hIc.ext hE
     replace hBd:=hBd.ext hE
     replace hId:=hId.ext hE
     replace hBH:=hBH.ext hE
     replace hIH:=hIH.ext hE
     replace hBe:=hBe.ext hE
     replace hIe:=hIe.ext hE
     replace hBf:=hBf.ext hE
     replace hIf:=hIf.ext hE
     replace hX:=hX.ext hE
     clear hE
     go_wp2_with fail
     go_meet
     exact⟨rfl,hP⟩
 case rest =>
 as_aux_lemma =>
 clear hP hE hBA hIA hBc hIc hBd hId hBH hIH hBe hIe hBf hIf hX
 obtain⟨rfl,hP⟩:=hcut
 go_wp2_with fail
 clear hMu hMx hQ
 refine (DrawClaimOfTile_any _ _ _ hP.2).mono ?_
 rintro e w1 ⟨aA,LA,cA,xA,rfl,hO,hE⟩
 replace hP:=hP.ext hE
 clear hE
 have hBA:=Blk.new w1 27 #[.slice aA LA.length cA]
 have hIA:=(hO.ints).ext ((Ext.refl w1).alloc (.cells #[.slice aA LA.length cA] 27))
 have eN:=(Ext.refl w1).alloc (.cells #[.slice aA LA.length cA] 27)
 obtain⟨V1,hV1⟩:∃x,x=w1.alloc (.cells #[.slice aA LA.length cA] 27):=⟨_,rfl⟩
 rw[←hV1] at hBA hIA eN
 replace hP:=hP.ext eN
 clear eN
 clear hO
 obtain⟨ku,au,bu,su,pu,nu,Ru,Gu,Ou,Tu,Qu,hMu⟩:=pk_tile (.slice aA LA.length cA) LA xA
 have kA0:=hBA.cell (i:=0) (v:=.slice aA LA.length cA) rfl
 rw[hV1] at kA0
 have HV1:=Lib.hid hV1
 clear hV1
 go_wp2_with fail
 rw[←HV1.out]
 clear HV1
 clear kA0
 refine (hMu.1 _ hIA).mono ?_
 rintro e w2 ⟨a1c,c1c,a2c,c2c,a3c,c3c,a4c,c4c,rfl,hK,hE⟩
 replace hP:=hP.ext hE
 replace hBA:=hBA.ext hE
 replace hIA:=hIA.ext hE
 clear hE
 replace hBA:=hBA.alloc (.cells #[.int .i64 ku,.slice a1c Gu.length c1c,.slice a2c Ou.length c2c,.int .i64 au,.int .i64 bu,.int .i64 su,.int .i64 pu,.slice a3c Tu.length c3c,.slice a4c Qu.length c4c,.int .i64 nu] 38)
 replace hIA:=hIA.ext ((Ext.refl w2).alloc (.cells #[.int .i64 ku,.slice a1c Gu.length c1c,.slice a2c Ou.length c2c,.int .i64 au,.int .i64 bu,.int .i64 su,.int .i64 pu,.slice a3c Tu.length c3c,.slice a4c Qu.length c4c,.int .i64 nu] 38))
 have hBc:=Blk.new w2 38 #[.int .i64 ku,.slice a1c Gu.length c1c,.slice a2c Ou.length c2c,.int .i64 au,.int .i64 bu,.int .i64 su,.int .i64 pu,.slice a3c Tu.length c3c,.slice a4c Qu.length c4c,.int .i64 nu]
 have hIc:=(hK).ext ((Ext.refl w2).alloc (.cells #[.int .i64 ku,.slice a1c Gu.length c1c,.slice a2c Ou.length c2c,.int .i64 au,.int .i64 bu,.int .i64 su,.int .i64 pu,.slice a3c Tu.length c3c,.slice a4c Qu.length c4c,.int .i64 nu] 38))
 have eN:=(Ext.refl w2).alloc (.cells #[.int .i64 ku,.slice a1c Gu.length c1c,.slice a2c Ou.length c2c,.int .i64 au,.int .i64 bu,.int .i64 su,.int .i64 pu,.slice a3c Tu.length c3c,.slice a4c Qu.length c4c,.int .i64 nu] 38)
 obtain⟨V2,hV2⟩:∃x,x=w2.alloc (.cells #[.int .i64 ku,.slice a1c Gu.length c1c,.slice a2c Ou.length c2c,.int .i64 au,.int .i64 bu,.int .i64 su,.int .i64 pu,.slice a3c Tu.length c3c,.slice a4c Qu.length c4c,.int .i64 nu] 38):=⟨_,rfl⟩
 rw[←hV2] at hBA hIA hBc hIc eN
 replace hP:=hP.ext eN
 clear eN
 clear hK
 have kA0:=hBA.cell (i:=0) (v:=.slice aA LA.length cA) rfl
 rw[hV2] at kA0
 have HV2:=Lib.hid hV2
 clear hV2
 go_wp2_with fail
 rw[←HV2.out]
 clear HV2
 clear kA0
 refine (hMu.2.1 _ hIA).mono ?_
 rintro e w3 ⟨a1d,c1d,a2d,c2d,a3d,c3d,a4d,c4d,rfl,hK,hE⟩
 replace hP:=hP.ext hE
 replace hBA:=hBA.ext hE
 replace hIA:=hIA.ext hE
 replace hBc:=hBc.ext hE
 replace hIc:=hIc.ext hE
 clear hE
 replace hBA:=hBA.alloc (.cells #[.int .i64 ku,.slice a1d Gu.length c1d,.slice a2d Ou.length c2d,.int .i64 au,.int .i64 bu,.int .i64 su,.int .i64 pu,.slice a3d Tu.length c3d,.slice a4d Qu.length c4d,.int .i64 nu] 38)
 replace hIA:=hIA.ext ((Ext.refl w3).alloc (.cells #[.int .i64 ku,.slice a1d Gu.length c1d,.slice a2d Ou.length c2d,.int .i64 au,.int .i64 bu,.int .i64 su,.int .i64 pu,.slice a3d Tu.length c3d,.slice a4d Qu.length c4d,.int .i64 nu] 38))
 replace hBc:=hBc.alloc (.cells #[.int .i64 ku,.slice a1d Gu.length c1d,.slice a2d Ou.length c2d,.int .i64 au,.int .i64 bu,.int .i64 su,.int .i64 pu,.slice a3d Tu.length c3d,.slice a4d Qu.length c4d,.int .i64 nu] 38)
 replace hIc:=hIc.ext ((Ext.refl w3).alloc (.cells #[.int .i64 ku,.slice a1d Gu.length c1d,.slice a2d Ou.length c2d,.int .i64 au,.int .i64 bu,.int .i64 su,.int .i64 pu,.slice a3d Tu.length c3d,.slice a4d Qu.length c4d,.int .i64 nu] 38))
 have hBd:=Blk.new w3 38 #[.int .i64 ku,.slice a1d Gu.length c1d,.slice a2d Ou.length c2d,.int .i64 au,.int .i64 bu,.int .i64 su,.int .i64 pu,.slice a3d Tu.length c3d,.slice a4d Qu.length c4d,.int .i64 nu]
 have hId:=(hK).ext ((Ext.refl w3).alloc (.cells #[.int .i64 ku,.slice a1d Gu.length c1d,.slice a2d Ou.length c2d,.int .i64 au,.int .i64 bu,.int .i64 su,.int .i64 pu,.slice a3d Tu.length c3d,.slice a4d Qu.length c4d,.int .i64 nu] 38))
 have eN:=(Ext.refl w3).alloc (.cells #[.int .i64 ku,.slice a1d Gu.length c1d,.slice a2d Ou.length c2d,.int .i64 au,.int .i64 bu,.int .i64 su,.int .i64 pu,.slice a3d Tu.length c3d,.slice a4d Qu.length c4d,.int .i64 nu] 38)
 obtain⟨V3,hV3⟩:∃x,x=w3.alloc (.cells #[.int .i64 ku,.slice a1d Gu.length c1d,.slice a2d Ou.length c2d,.int .i64 au,.int .i64 bu,.int .i64 su,.int .i64 pu,.slice a3d Tu.length c3d,.slice a4d Qu.length c4d,.int .i64 nu] 38):=⟨_,rfl⟩
 rw[←hV3] at hBA hIA hBc hIc hBd hId eN
 replace hP:=hP.ext eN
 clear eN
 clear hK
 have HV3:=Lib.hid hV3
 clear hV3
 go_wp2_with fail
 rw[←HV3.out]
 clear HV3
 refine (DrawClaimOfAlike_any _ _ _ hP.2).mono ?_
 rintro e w4 ⟨aH,LH,cH,aY,LY,cY,xH,yH,rfl,hO,hO2,hE⟩
 replace hP:=hP.ext hE
 replace hBA:=hBA.ext hE
 replace hIA:=hIA.ext hE
 replace hBc:=hBc.ext hE
 replace hIc:=hIc.ext hE
 replace hBd:=hBd.ext hE
 replace hId:=hId.ext hE
 clear hE
 have hYI:=hO2.ints
 clear hO2
 replace hBA:=hBA.alloc (.cells #[.slice aH LH.length cH] 27)
 replace hIA:=hIA.ext ((Ext.refl w4).alloc (.cells #[.slice aH LH.length cH] 27))
 replace hBc:=hBc.alloc (.cells #[.slice aH LH.length cH] 27)
 replace hIc:=hIc.ext ((Ext.refl w4).alloc (.cells #[.slice aH LH.length cH] 27))
 replace hBd:=hBd.alloc (.cells #[.slice aH LH.length cH] 27)
 replace hId:=hId.ext ((Ext.refl w4).alloc (.cells #[.slice aH LH.length cH] 27))
 replace hYI:=hYI.ext ((Ext.refl w4).alloc (.cells #[.slice aH LH.length cH] 27))
 have hBH:=Blk.new w4 27 #[.slice aH LH.length cH]
 have hIH:=(hO.ints).ext ((Ext.refl w4).alloc (.cells #[.slice aH LH.length cH] 27))
 have eN:=(Ext.refl w4).alloc (.cells #[.slice aH LH.length cH] 27)
 obtain⟨V4,hV4⟩:∃x,x=w4.alloc (.cells #[.slice aH LH.length cH] 27):=⟨_,rfl⟩
 rw[←hV4] at hBA hIA hBc hIc hBd hId hBH hIH hYI eN
 replace hP:=hP.ext eN
 clear eN
 clear hO
 replace hBA:=hBA.alloc (.cells #[.slice aY LY.length cY] 27)
 replace hIA:=hIA.ext ((Ext.refl V4).alloc (.cells #[.slice aY LY.length cY] 27))
 replace hBc:=hBc.alloc (.cells #[.slice aY LY.length cY] 27)
 replace hIc:=hIc.ext ((Ext.refl V4).alloc (.cells #[.slice aY LY.length cY] 27))
 replace hBd:=hBd.alloc (.cells #[.slice aY LY.length cY] 27)
 replace hId:=hId.ext ((Ext.refl V4).alloc (.cells #[.slice aY LY.length cY] 27))
 replace hBH:=hBH.alloc (.cells #[.slice aY LY.length cY] 27)
 replace hIH:=hIH.ext ((Ext.refl V4).alloc (.cells #[.slice aY LY.length cY] 27))
 have hBY:=Blk.new V4 27 #[.slice aY LY.length cY]
 have hIY:=(hYI).ext ((Ext.refl V4).alloc (.cells #[.slice aY LY.length cY] 27))
 have eN:=(Ext.refl V4).alloc (.cells #[.slice aY LY.length cY] 27)
 obtain⟨V5,hV5⟩:∃x,x=V4.alloc (.cells #[.slice aY LY.length cY] 27):=⟨_,rfl⟩
 rw[←hV5] at hBA hIA hBc hIc hBd hId hBH hIH hBY hIY eN
 replace hP:=hP.ext eN
 clear eN
 clear hYI
 have sz:V4.heap.size=w4.heap.size+1:=by rw[hV4];simp
 rw[sz] at hBY
 clear sz
 obtain⟨kx,ax,bx,sx,px,nx,Rx,Gx,Ox,Tx,Qx,hMx⟩:=pk_alike (.slice aH LH.length cH) (.slice aY LY.length cY) LH LY xH yH
 have kH0:=hBH.cell (i:=0) (v:=.slice aH LH.length cH) rfl
 have kY0:=hBY.cell (i:=0) (v:=.slice aY LY.length cY) rfl
 rw[hV5,hV4] at kH0 kY0
 have HV5:=Lib.hid hV5
 have HV4:=Lib.hid hV4
 clear hV5 hV4
 go_wp2_with fail
 rw[←HV4.out,←HV5.out]
 clear HV4 HV5 kH0 kY0
 refine (hMx.1 _ ⟨hIH,hIY⟩).mono ?_
 rintro e w5 ⟨a1e,c1e,a2e,c2e,a3e,c3e,a4e,c4e,rfl,hK,hE⟩
 replace hP:=hP.ext hE
 replace hBA:=hBA.ext hE
 replace hIA:=hIA.ext hE
 replace hBc:=hBc.ext hE
 replace hIc:=hIc.ext hE
 replace hBd:=hBd.ext hE
 replace hId:=hId.ext hE
 replace hBH:=hBH.ext hE
 replace hIH:=hIH.ext hE
 replace hBY:=hBY.ext hE
 replace hIY:=hIY.ext hE
 clear hE
 replace hBA:=hBA.alloc (.cells #[.int .i64 kx,.slice a1e Gx.length c1e,.slice a2e Ox.length c2e,.int .i64 ax,.int .i64 bx,.int .i64 sx,.int .i64 px,.slice a3e Tx.length c3e,.slice a4e Qx.length c4e,.int .i64 nx] 38)
 replace hIA:=hIA.ext ((Ext.refl w5).alloc (.cells #[.int .i64 kx,.slice a1e Gx.length c1e,.slice a2e Ox.length c2e,.int .i64 ax,.int .i64 bx,.int .i64 sx,.int .i64 px,.slice a3e Tx.length c3e,.slice a4e Qx.length c4e,.int .i64 nx] 38))
 replace hBc:=hBc.alloc (.cells #[.int .i64 kx,.slice a1e Gx.length c1e,.slice a2e Ox.length c2e,.int .i64 ax,.int .i64 bx,.int .i64 sx,.int .i64 px,.slice a3e Tx.length c3e,.slice a4e Qx.length c4e,.int .i64 nx] 38)
 replace hIc:=hIc.ext ((Ext.refl w5).alloc (.cells #[.int .i64 kx,.slice a1e Gx.length c1e,.slice a2e Ox.length c2e,.int .i64 ax,.int .i64 bx,.int .i64 sx,.int .i64 px,.slice a3e Tx.length c3e,.slice a4e Qx.length c4e,.int .i64 nx] 38))
 replace hBd:=hBd.alloc (.cells #[.int .i64 kx,.slice a1e Gx.length c1e,.slice a2e Ox.length c2e,.int .i64 ax,.int .i64 bx,.int .i64 sx,.int .i64 px,.slice a3e Tx.length c3e,.slice a4e Qx.length c4e,.int .i64 nx] 38)
 replace hId:=hId.ext ((Ext.refl w5).alloc (.cells #[.int .i64 kx,.slice a1e Gx.length c1e,.slice a2e Ox.length c2e,.int .i64 ax,.int .i64 bx,.int .i64 sx,.int .i64 px,.slice a3e Tx.length c3e,.slice a4e Qx.length c4e,.int .i64 nx] 38))
 replace hBH:=hBH.alloc (.cells #[.int .i64 kx,.slice a1e Gx.length c1e,.slice a2e Ox.length c2e,.int .i64 ax,.int .i64 bx,.int .i64 sx,.int .i64 px,.slice a3e Tx.length c3e,.slice a4e Qx.length c4e,.int .i64 nx] 38)
 replace hIH:=hIH.ext ((Ext.refl w5).alloc (.cells #[.int .i64 kx,.slice a1e Gx.length c1e,.slice a2e Ox.length c2e,.int .i64 ax,.int .i64 bx,.int .i64 sx,.int .i64 px,.slice a3e Tx.length c3e,.slice a4e Qx.length c4e,.int .i64 nx] 38))
 replace hBY:=hBY.alloc (.cells #[.int .i64 kx,.slice a1e Gx.length c1e,.slice a2e Ox.length c2e,.int .i64 ax,.int .i64 bx,.int .i64 sx,.int .i64 px,.slice a3e Tx.length c3e,.slice a4e Qx.length c4e,.int .i64 nx] 38)
 replace hIY:=hIY.ext ((Ext.refl w5).alloc (.cells #[.int .i64 kx,.slice a1e Gx.length c1e,.slice a2e Ox.length c2e,.int .i64 ax,.int .i64 bx,.int .i64 sx,.int .i64 px,.slice a3e Tx.length c3e,.slice a4e Qx.length c4e,.int .i64 nx] 38))
 have hBe:=Blk.new w5 38 #[.int .i64 kx,.slice a1e Gx.length c1e,.slice a2e Ox.length c2e,.int .i64 ax,.int .i64 bx,.int .i64 sx,.int .i64 px,.slice a3e Tx.length c3e,.slice a4e Qx.length c4e,.int .i64 nx]
 have hIe:=(hK).ext ((Ext.refl w5).alloc (.cells #[.int .i64 kx,.slice a1e Gx.length c1e,.slice a2e Ox.length c2e,.int .i64 ax,.int .i64 bx,.int .i64 sx,.int .i64 px,.slice a3e Tx.length c3e,.slice a4e Qx.length c4e,.int .i64 nx] 38))
 have eN:=(Ext.refl w5).alloc (.cells #[.int .i64 kx,.slice a1e Gx.length c1e,.slice a2e Ox.length c2e,.int .i64 ax,.int .i64 bx,.int .i64 sx,.int .i64 px,.slice a3e Tx.length c3e,.slice a4e Qx.length c4e,.int .i64 nx] 38)
 obtain⟨V6,hV6⟩:∃x,x=w5.alloc (.cells #[.int .i64 kx,.slice a1e Gx.length c1e,.slice a2e Ox.length c2e,.int .i64 ax,.int .i64 bx,.int .i64 sx,.int .i64 px,.slice a3e Tx.length c3e,.slice a4e Qx.length c4e,.int .i64 nx] 38):=⟨_,rfl⟩
 rw[←hV6] at hBA hIA hBc hIc hBd hId hBH hIH hBY hIY hBe hIe eN
 replace hP:=hP.ext eN
 clear eN
 clear hK
 have kH0:=hBH.cell (i:=0) (v:=.slice aH LH.length cH) rfl
 have kY0:=hBY.cell (i:=0) (v:=.slice aY LY.length cY) rfl
 rw[hV6] at kH0 kY0
 have HV6:=Lib.hid hV6
 clear hV6
 go_wp2_with fail
 rw[←HV6.out]
 clear HV6
 clear kH0 kY0
 refine (hMx.2.1 _ ⟨hIH,hIY⟩).mono ?_
 rintro e w6 ⟨a1f,c1f,a2f,c2f,a3f,c3f,a4f,c4f,rfl,hK,hE⟩
 replace hP:=hP.ext hE
 replace hBA:=hBA.ext hE
 replace hIA:=hIA.ext hE
 replace hBc:=hBc.ext hE
 replace hIc:=hIc.ext hE
 replace hBd:=hBd.ext hE
 replace hId:=hId.ext hE
 replace hBH:=hBH.ext hE
 replace hIH:=hIH.ext hE
 replace hBY:=hBY.ext hE
 replace hIY:=hIY.ext hE
 replace hBe:=hBe.ext hE
 replace hIe:=hIe.ext hE
 clear hE
 replace hBA:=hBA.alloc (.cells #[.int .i64 kx,.slice a1f Gx.length c1f,.slice a2f Ox.length c2f,.int .i64 ax,.int .i64 bx,.int .i64 sx,.int .i64 px,.slice a3f Tx.length c3f,.slice a4f Qx.length c4f,.int .i64 nx] 38)
 replace hIA:=hIA.ext ((Ext.refl w6).alloc (.cells #[.int .i64 kx,.slice a1f Gx.length c1f,.slice a2f Ox.length c2f,.int .i64 ax,.int .i64 bx,.int .i64 sx,.int .i64 px,.slice a3f Tx.length c3f,.slice a4f Qx.length c4f,.int .i64 nx] 38))
 replace hBc:=hBc.alloc (.cells #[.int .i64 kx,.slice a1f Gx.length c1f,.slice a2f Ox.length c2f,.int .i64 ax,.int .i64 bx,.int .i64 sx,.int .i64 px,.slice a3f Tx.length c3f,.slice a4f Qx.length c4f,.int .i64 nx] 38)
 replace hIc:=hIc.ext ((Ext.refl w6).alloc (.cells #[.int .i64 kx,.slice a1f Gx.length c1f,.slice a2f Ox.length c2f,.int .i64 ax,.int .i64 bx,.int .i64 sx,.int .i64 px,.slice a3f Tx.length c3f,.slice a4f Qx.length c4f,.int .i64 nx] 38))
 replace hBd:=hBd.alloc (.cells #[.int .i64 kx,.slice a1f Gx.length c1f,.slice a2f Ox.length c2f,.int .i64 ax,.int .i64 bx,.int .i64 sx,.int .i64 px,.slice a3f Tx.length c3f,.slice a4f Qx.length c4f,.int .i64 nx] 38)
 replace hId:=hId.ext ((Ext.refl w6).alloc (.cells #[.int .i64 kx,.slice a1f Gx.length c1f,.slice a2f Ox.length c2f,.int .i64 ax,.int .i64 bx,.int .i64 sx,.int .i64 px,.slice a3f Tx.length c3f,.slice a4f Qx.length c4f,.int .i64 nx] 38))
 replace hBH:=hBH.alloc (.cells #[.int .i64 kx,.slice a1f Gx.length c1f,.slice a2f Ox.length c2f,.int .i64 ax,.int .i64 bx,.int .i64 sx,.int .i64 px,.slice a3f Tx.length c3f,.slice a4f Qx.length c4f,.int .i64 nx] 38)
 replace hIH:=hIH.ext ((Ext.refl w6).alloc (.cells #[.int .i64 kx,.slice a1f Gx.length c1f,.slice a2f Ox.length c2f,.int .i64 ax,.int .i64 bx,.int .i64 sx,.int .i64 px,.slice a3f Tx.length c3f,.slice a4f Qx.length c4f,.int .i64 nx] 38))
 replace hBY:=hBY.alloc (.cells #[.int .i64 kx,.slice a1f Gx.length c1f,.slice a2f Ox.length c2f,.int .i64 ax,.int .i64 bx,.int .i64 sx,.int .i64 px,.slice a3f Tx.length c3f,.slice a4f Qx.length c4f,.int .i64 nx] 38)
 replace hIY:=hIY.ext ((Ext.refl w6).alloc (.cells #[.int .i64 kx,.slice a1f Gx.length c1f,.slice a2f Ox.length c2f,.int .i64 ax,.int .i64 bx,.int .i64 sx,.int .i64 px,.slice a3f Tx.length c3f,.slice a4f Qx.length c4f,.int .i64 nx] 38))
 replace hBe:=hBe.alloc (.cells #[.int .i64 kx,.slice a1f Gx.length c1f,.slice a2f Ox.length c2f,.int .i64 ax,.int .i64 bx,.int .i64 sx,.int .i64 px,.slice a3f Tx.length c3f,.slice a4f Qx.length c4f,.int .i64 nx] 38)
 replace hIe:=hIe.ext ((Ext.refl w6).alloc (.cells #[.int .i64 kx,.slice a1f Gx.length c1f,.slice a2f Ox.length c2f,.int .i64 ax,.int .i64 bx,.int .i64 sx,.int .i64 px,.slice a3f Tx.length c3f,.slice a4f Qx.length c4f,.int .i64 nx] 38))
 have hBf:=Blk.new w6 38 #[.int .i64 kx,.slice a1f Gx.length c1f,.slice a2f Ox.length c2f,.int .i64 ax,.int .i64 bx,.int .i64 sx,.int .i64 px,.slice a3f Tx.length c3f,.slice a4f Qx.length c4f,.int .i64 nx]
 have hIf:=(hK).ext ((Ext.refl w6).alloc (.cells #[.int .i64 kx,.slice a1f Gx.length c1f,.slice a2f Ox.length c2f,.int .i64 ax,.int .i64 bx,.int .i64 sx,.int .i64 px,.slice a3f Tx.length c3f,.slice a4f Qx.length c4f,.int .i64 nx] 38))
 have eN:=(Ext.refl w6).alloc (.cells #[.int .i64 kx,.slice a1f Gx.length c1f,.slice a2f Ox.length c2f,.int .i64 ax,.int .i64 bx,.int .i64 sx,.int .i64 px,.slice a3f Tx.length c3f,.slice a4f Qx.length c4f,.int .i64 nx] 38)
 obtain⟨V7,hV7⟩:∃x,x=w6.alloc (.cells #[.int .i64 kx,.slice a1f Gx.length c1f,.slice a2f Ox.length c2f,.int .i64 ax,.int .i64 bx,.int .i64 sx,.int .i64 px,.slice a3f Tx.length c3f,.slice a4f Qx.length c4f,.int .i64 nx] 38):=⟨_,rfl⟩
 rw[←hV7] at hBA hIA hBc hIc hBd hId hBH hIH hBY hIY hBe hIe hBf hIf eN
 replace hP:=hP.ext eN
 clear eN
 clear hK
 have HV7:=Lib.hid hV7
 clear hV7
 have hE:=Ext.refl V7
 go_upto_region 17 with fail
 rw[←HV7.out]
 clear HV7
 go_cut [205] (fun s wx=>s=.bool false∧LawC w v l wx)
 case first =>
  as_aux_lemma =>
   cases Ru<;>cases Rx
   · skip
     have kc0:=hBc.cell (i:=0) (v:=.int .i64 ku) rfl
     have kc1:=hBc.cell (i:=1) (v:=.slice a1c Gu.length c1c) rfl
     have kc2:=hBc.cell (i:=2) (v:=.slice a2c Ou.length c2c) rfl
     have kc3:=hBc.cell (i:=3) (v:=.int .i64 au) rfl
     have kc4:=hBc.cell (i:=4) (v:=.int .i64 bu) rfl
     have kc5:=hBc.cell (i:=5) (v:=.int .i64 su) rfl
     have kc6:=hBc.cell (i:=6) (v:=.int .i64 pu) rfl
     have kc7:=hBc.cell (i:=7) (v:=.slice a3c Tu.length c3c) rfl
     have kc8:=hBc.cell (i:=8) (v:=.slice a4c Qu.length c4c) rfl
     have kc9:=hBc.cell (i:=9) (v:=.int .i64 nu) rfl
     have kd0:=hBd.cell (i:=0) (v:=.int .i64 ku) rfl
     have kd1:=hBd.cell (i:=1) (v:=.slice a1d Gu.length c1d) rfl
     have kd2:=hBd.cell (i:=2) (v:=.slice a2d Ou.length c2d) rfl
     have kd3:=hBd.cell (i:=3) (v:=.int .i64 au) rfl
     have kd4:=hBd.cell (i:=4) (v:=.int .i64 bu) rfl
     have kd5:=hBd.cell (i:=5) (v:=.int .i64 su) rfl
     have kd6:=hBd.cell (i:=6) (v:=.int .i64 pu) rfl
     have kd7:=hBd.cell (i:=7) (v:=.slice a3d Tu.length c3d) rfl
     have kd8:=hBd.cell (i:=8) (v:=.slice a4d Qu.length c4d) rfl
     have kd9:=hBd.cell (i:=9) (v:=.int .i64 nu) rfl
     go_wp2_with fail
     clear kc0 kc1 kc2 kc3 kc4 kc5 kc6 kc7 kc8 kc9 kd0 kd1 kd2 kd3 kd4 kd5 kd6 kd7 kd8 kd9
     refine (eq_same _ _ _ _ _ _ _ _ _ _ _ _ _ _ _ _ _ _ _ hIc hId).mono ?_
     rintro e w9 ⟨rfl,hE⟩
     replace hP:=hP.ext hE
     replace hBA:=hBA.ext hE
     replace hIA:=hIA.ext hE
     replace hBc:=hBc.ext hE
     replace hIc:=hIc.ext hE
     replace hBd:=hBd.ext hE
     replace hId:=hId.ext hE
     replace hBH:=hBH.ext hE
     replace hIH:=hIH.ext hE
     replace hBY:=hBY.ext hE
     replace hIY:=hIY.ext hE
     replace hBe:=hBe.ext hE
     replace hIe:=hIe.ext hE
     replace hBf:=hBf.ext hE
     replace hIf:=hIf.ext hE
     clear hE
     have ke0:=hBe.cell (i:=0) (v:=.int .i64 kx) rfl
     have ke1:=hBe.cell (i:=1) (v:=.slice a1e Gx.length c1e) rfl
     have ke2:=hBe.cell (i:=2) (v:=.slice a2e Ox.length c2e) rfl
     have ke3:=hBe.cell (i:=3) (v:=.int .i64 ax) rfl
     have ke4:=hBe.cell (i:=4) (v:=.int .i64 bx) rfl
     have ke5:=hBe.cell (i:=5) (v:=.int .i64 sx) rfl
     have ke6:=hBe.cell (i:=6) (v:=.int .i64 px) rfl
     have ke7:=hBe.cell (i:=7) (v:=.slice a3e Tx.length c3e) rfl
     have ke8:=hBe.cell (i:=8) (v:=.slice a4e Qx.length c4e) rfl
     have ke9:=hBe.cell (i:=9) (v:=.int .i64 nx) rfl
     have kf0:=hBf.cell (i:=0) (v:=.int .i64 kx) rfl
     have kf1:=hBf.cell (i:=1) (v:=.slice a1f Gx.length c1f) rfl
     have kf2:=hBf.cell (i:=2) (v:=.slice a2f Ox.length c2f) rfl
     have kf3:=hBf.cell (i:=3) (v:=.int .i64 ax) rfl
     have kf4:=hBf.cell (i:=4) (v:=.int .i64 bx) rfl
     have kf5:=hBf.cell (i:=5) (v:=.int .i64 sx) rfl
     have kf6:=hBf.cell (i:=6) (v:=.int .i64 px) rfl
     have kf7:=hBf.cell (i:=7) (v:=.slice a3f Tx.length c3f) rfl
     have kf8:=hBf.cell (i:=8) (v:=.slice a4f Qx.length c4f) rfl
     have kf9:=hBf.cell (i:=9) (v:=.int .i64 nx) rfl
     go_wp2_with fail
     clear ke0 ke1 ke2 ke3 ke4 ke5 ke6 ke7 ke8 ke9 kf0 kf1 kf2 kf3 kf4 kf5 kf6 kf7 kf8 kf9
     refine (eq_same _ _ _ _ _ _ _ _ _ _ _ _ _ _ _ _ _ _ _ hIe hIf).mono ?_
     rintro e w9 ⟨rfl,hE⟩
     replace hP:=hP.ext hE
     replace hBA:=hBA.ext hE
     replace hIA:=hIA.ext hE
     replace hBc:=hBc.ext hE
     replace hIc:=hIc.ext hE
     replace hBd:=hBd.ext hE
     replace hId:=hId.ext hE
     replace hBH:=hBH.ext hE
     replace hIH:=hIH.ext hE
     replace hBY:=hBY.ext hE
     replace hIY:=hIY.ext hE
     replace hBe:=hBe.ext hE
     replace hIe:=hIe.ext hE
     replace hBf:=hBf.ext hE
     replace hIf:=hIf.ext hE
     clear hE
     go_wp2_with fail
     go_meet
     exact⟨rfl,hP⟩
   · skip
     have kc0:=hBc.cell (i:=0) (v:=.int .i64 ku) rfl
     have kc1:=hBc.cell (i:=1) (v:=.slice a1c Gu.length c1c) rfl
     have kc2:=hBc.cell (i:=2) (v:=.slice a2c Ou.length c2c) rfl
     have kc3:=hBc.cell (i:=3) (v:=.int .i64 au) rfl
     have kc4:=hBc.cell (i:=4) (v:=.int .i64 bu) rfl
     have kc5:=hBc.cell (i:=5) (v:=.int .i64 su) rfl
     have kc6:=hBc.cell (i:=6) (v:=.int .i64 pu) rfl
     have kc7:=hBc.cell (i:=7) (v:=.slice a3c Tu.length c3c) rfl
     have kc8:=hBc.cell (i:=8) (v:=.slice a4c Qu.length c4c) rfl
     have kc9:=hBc.cell (i:=9) (v:=.int .i64 nu) rfl
     have kd0:=hBd.cell (i:=0) (v:=.int .i64 ku) rfl
     have kd1:=hBd.cell (i:=1) (v:=.slice a1d Gu.length c1d) rfl
     have kd2:=hBd.cell (i:=2) (v:=.slice a2d Ou.length c2d) rfl
     have kd3:=hBd.cell (i:=3) (v:=.int .i64 au) rfl
     have kd4:=hBd.cell (i:=4) (v:=.int .i64 bu) rfl
     have kd5:=hBd.cell (i:=5) (v:=.int .i64 su) rfl
     have kd6:=hBd.cell (i:=6) (v:=.int .i64 pu) rfl
     have kd7:=hBd.cell (i:=7) (v:=.slice a3d Tu.length c3d) rfl
     have kd8:=hBd.cell (i:=8) (v:=.slice a4d Qu.length c4d) rfl
     have kd9:=hBd.cell (i:=9) (v:=.int .i64 nu) rfl
     go_wp2_with fail
     clear kc0 kc1 kc2 kc3 kc4 kc5 kc6 kc7 kc8 kc9 kd0 kd1 kd2 kd3 kd4 kd5 kd6 kd7 kd8 kd9
     refine (eq_same _ _ _ _ _ _ _ _ _ _ _ _ _ _ _ _ _ _ _ hIc hId).mono ?_
     rintro e w9 ⟨rfl,hE⟩
     replace hP:=hP.ext hE
     replace hBA:=hBA.ext hE
     replace hIA:=hIA.ext hE
     replace hBc:=hBc.ext hE
     replace hIc:=hIc.ext hE
     replace hBd:=hBd.ext hE
     replace hId:=hId.ext hE
     replace hBH:=hBH.ext hE
     replace hIH:=hIH.ext hE
     replace hBY:=hBY.ext hE
     replace hIY:=hIY.ext hE
     replace hBe:=hBe.ext hE
     replace hIe:=hIe.ext hE
     replace hBf:=hBf.ext hE
     replace hIf:=hIf.ext hE
     clear hE
     have ke0:=hBe.cell (i:=0) (v:=.int .i64 kx) rfl
     have ke1:=hBe.cell (i:=1) (v:=.slice a1e Gx.length c1e) rfl
     have ke2:=hBe.cell (i:=2) (v:=.slice a2e Ox.length c2e) rfl
     have ke3:=hBe.cell (i:=3) (v:=.int .i64 ax) rfl
     have ke4:=hBe.cell (i:=4) (v:=.int .i64 bx) rfl
     have ke5:=hBe.cell (i:=5) (v:=.int .i64 sx) rfl
     have ke6:=hBe.cell (i:=6) (v:=.int .i64 px) rfl
     have ke7:=hBe.cell (i:=7) (v:=.slice a3e Tx.length c3e) rfl
     have ke8:=hBe.cell (i:=8) (v:=.slice a4e Qx.length c4e) rfl
     have ke9:=hBe.cell (i:=9) (v:=.int .i64 nx) rfl
     have kf0:=hBf.cell (i:=0) (v:=.int .i64 kx) rfl
     have kf1:=hBf.cell (i:=1) (v:=.slice a1f Gx.length c1f) rfl
     have kf2:=hBf.cell (i:=2) (v:=.slice a2f Ox.length c2f) rfl
     have kf3:=hBf.cell (i:=3) (v:=.int .i64 ax) rfl
     have kf4:=hBf.cell (i:=4) (v:=.int .i64 bx) rfl
     have kf5:=hBf.cell (i:=5) (v:=.int .i64 sx) rfl
     have kf6:=hBf.cell (i:=6) (v:=.int .i64 px) rfl
     have kf7:=hBf.cell (i:=7) (v:=.slice a3f Tx.length c3f) rfl
     have kf8:=hBf.cell (i:=8) (v:=.slice a4f Qx.length c4f) rfl
     have kf9:=hBf.cell (i:=9) (v:=.int .i64 nx) rfl
     go_wp2_with fail
     clear ke0 ke1 ke2 ke3 ke4 ke5 ke6 ke7 ke8 ke9 kf0 kf1 kf2 kf3 kf4 kf5 kf6 kf7 kf8 kf9
     refine (eq_same _ _ _ _ _ _ _ _ _ _ _ _ _ _ _ _ _ _ _ hIe hIf).mono ?_
     rintro e w9 ⟨rfl,hE⟩
     replace hP:=hP.ext hE
     replace hBA:=hBA.ext hE
     replace hIA:=hIA.ext hE
     replace hBc:=hBc.ext hE
     replace hIc:=hIc.ext hE
     replace hBd:=hBd.ext hE
     replace hId:=hId.ext hE
     replace hBH:=hBH.ext hE
     replace hIH:=hIH.ext hE
     replace hBY:=hBY.ext hE
     replace hIY:=hIY.ext hE
     replace hBe:=hBe.ext hE
     replace hIe:=hIe.ext hE
     replace hBf:=hBf.ext hE
     replace hIf:=hIf.ext hE
     clear hE
     have kf0:=hBf.cell (i:=0) (v:=.int .i64 kx) rfl
     have kf1:=hBf.cell (i:=1) (v:=.slice a1f Gx.length c1f) rfl
     have kf2:=hBf.cell (i:=2) (v:=.slice a2f Ox.length c2f) rfl
     have kf3:=hBf.cell (i:=3) (v:=.int .i64 ax) rfl
     have kf4:=hBf.cell (i:=4) (v:=.int .i64 bx) rfl
     have kf5:=hBf.cell (i:=5) (v:=.int .i64 sx) rfl
     have kf6:=hBf.cell (i:=6) (v:=.int .i64 px) rfl
     have kf7:=hBf.cell (i:=7) (v:=.slice a3f Tx.length c3f) rfl
     have kf8:=hBf.cell (i:=8) (v:=.slice a4f Qx.length c4f) rfl
     have kf9:=hBf.cell (i:=9) (v:=.int .i64 nx) rfl
     go_wp2_with fail
     clear kf0 kf1 kf2 kf3 kf4 kf5 kf6 kf7 kf8 kf9
     refine (ck_yes (hMx.2.2 rfl) _ _ _ _ _ hIf).mono ?_
     rintro e w9 ⟨rfl,hE⟩
     replace hP:=hP.ext hE
     replace hBA:=hBA.ext hE
     replace hIA:=hIA.ext hE
     replace hBc:=hBc.ext hE
     replace hIc:=hIc.ext hE
     replace hBd:=hBd.ext hE
     replace hId:=hId.ext hE
     replace hBH:=hBH.ext hE
     replace hIH:=hIH.ext hE
     replace hBY:=hBY.ext hE
     replace hIY:=hIY.ext hE
     replace hBe:=hBe.ext hE
     replace hIe:=hIe.ext hE
     replace hBf:=hBf.ext hE
     replace hIf:=hIf.ext hE
     clear hE
     go_wp2_with fail
     go_meet
     exact⟨rfl,hP⟩
   · skip
     have kc0:=hBc.cell (i:=0) (v:=.int .i64 ku) rfl
     have kc1:=hBc.cell (i:=1) (v:=.slice a1c Gu.length c1c) rfl
     have kc2:=hBc.cell (i:=2) (v:=.slice a2c Ou.length c2c) rfl
     have kc3:=hBc.cell (i:=3) (v:=.int .i64 au) rfl
     have kc4:=hBc.cell (i:=4) (v:=.int .i64 bu) rfl
     have kc5:=hBc.cell (i:=5) (v:=.int .i64 su) rfl
     have kc6:=hBc.cell (i:=6) (v:=.int .i64 pu) rfl
     have kc7:=hBc.cell (i:=7) (v:=.slice a3c Tu.length c3c) rfl
     have kc8:=hBc.cell (i:=8) (v:=.slice a4c Qu.length c4c) rfl
     have kc9:=hBc.cell (i:=9) (v:=.int .i64 nu) rfl
     have kd0:=hBd.cell (i:=0) (v:=.int .i64 ku) rfl
     have kd1:=hBd.cell (i:=1) (v:=.slice a1d Gu.length c1d) rfl
     have kd2:=hBd.cell (i:=2) (v:=.slice a2d Ou.length c2d) rfl
     have kd3:=hBd.cell (i:=3) (v:=.int .i64 au) rfl
     have kd4:=hBd.cell (i:=4) (v:=.int .i64 bu) rfl
     have kd5:=hBd.cell (i:=5) (v:=.int .i64 su) rfl
     have kd6:=hBd.cell (i:=6) (v:=.int .i64 pu) rfl
     have kd7:=hBd.cell (i:=7) (v:=.slice a3d Tu.length c3d) rfl
     have kd8:=hBd.cell (i:=8) (v:=.slice a4d Qu.length c4d) rfl
     have kd9:=hBd.cell (i:=9) (v:=.int .i64 nu) rfl
     go_wp2_with fail
     clear kc0 kc1 kc2 kc3 kc4 kc5 kc6 kc7 kc8 kc9 kd0 kd1 kd2 kd3 kd4 kd5 kd6 kd7 kd8 kd9
     refine (eq_same _ _ _ _ _ _ _ _ _ _ _ _ _ _ _ _ _ _ _ hIc hId).mono ?_
     rintro e w9 ⟨rfl,hE⟩
     replace hP:=hP.ext hE
     replace hBA:=hBA.ext hE
     replace hIA:=hIA.ext hE
     replace hBc:=hBc.ext hE
     replace hIc:=hIc.ext hE
     replace hBd:=hBd.ext hE
     replace hId:=hId.ext hE
     replace hBH:=hBH.ext hE
     replace hIH:=hIH.ext hE
     replace hBY:=hBY.ext hE
     replace hIY:=hIY.ext hE
     replace hBe:=hBe.ext hE
     replace hIe:=hIe.ext hE
     replace hBf:=hBf.ext hE
     replace hIf:=hIf.ext hE
     clear hE
     have kd0:=hBd.cell (i:=0) (v:=.int .i64 ku) rfl
     have kd1:=hBd.cell (i:=1) (v:=.slice a1d Gu.length c1d) rfl
     have kd2:=hBd.cell (i:=2) (v:=.slice a2d Ou.length c2d) rfl
     have kd3:=hBd.cell (i:=3) (v:=.int .i64 au) rfl
     have kd4:=hBd.cell (i:=4) (v:=.int .i64 bu) rfl
     have kd5:=hBd.cell (i:=5) (v:=.int .i64 su) rfl
     have kd6:=hBd.cell (i:=6) (v:=.int .i64 pu) rfl
     have kd7:=hBd.cell (i:=7) (v:=.slice a3d Tu.length c3d) rfl
     have kd8:=hBd.cell (i:=8) (v:=.slice a4d Qu.length c4d) rfl
     have kd9:=hBd.cell (i:=9) (v:=.int .i64 nu) rfl
     go_wp2_with fail
     clear kd0 kd1 kd2 kd3 kd4 kd5 kd6 kd7 kd8 kd9
     refine (ck_yes (hMu.2.2 rfl) _ _ _ _ _ hId).mono ?_
     rintro e w9 ⟨rfl,hE⟩
     replace hP:=hP.ext hE
     replace hBA:=hBA.ext hE
     replace hIA:=hIA.ext hE
     replace hBc:=hBc.ext hE
     replace hIc:=hIc.ext hE
     replace hBd:=hBd.ext hE
     replace hId:=hId.ext hE
     replace hBH:=hBH.ext hE
     replace hIH:=hIH.ext hE
     replace hBY:=hBY.ext hE
     replace hIY:=hIY.ext hE
     replace hBe:=hBe.ext hE
     replace hIe:=hIe.ext hE
     replace hBf:=hBf.ext hE
     replace hIf:=hIf.ext hE
     clear hE
     have ke0:=hBe.cell (i:=0) (v:=.int .i64 kx) rfl
     have ke1:=hBe.cell (i:=1) (v:=.slice a1e Gx.length c1e) rfl
     have ke2:=hBe.cell (i:=2) (v:=.slice a2e Ox.length c2e) rfl
     have ke3:=hBe.cell (i:=3) (v:=.int .i64 ax) rfl
     have ke4:=hBe.cell (i:=4) (v:=.int .i64 bx) rfl
     have ke5:=hBe.cell (i:=5) (v:=.int .i64 sx) rfl
     have ke6:=hBe.cell (i:=6) (v:=.int .i64 px) rfl
     have ke7:=hBe.cell (i:=7) (v:=.slice a3e Tx.length c3e) rfl
     have ke8:=hBe.cell (i:=8) (v:=.slice a4e Qx.length c4e) rfl
     have ke9:=hBe.cell (i:=9) (v:=.int .i64 nx) rfl
     have kf0:=hBf.cell (i:=0) (v:=.int .i64 kx) rfl
     have kf1:=hBf.cell (i:=1) (v:=.slice a1f Gx.length c1f) rfl
     have kf2:=hBf.cell (i:=2) (v:=.slice a2f Ox.length c2f) rfl
     have kf3:=hBf.cell (i:=3) (v:=.int .i64 ax) rfl
     have kf4:=hBf.cell (i:=4) (v:=.int .i64 bx) rfl
     have kf5:=hBf.cell (i:=5) (v:=.int .i64 sx) rfl
     have kf6:=hBf.cell (i:=6) (v:=.int .i64 px) rfl
     have kf7:=hBf.cell (i:=7) (v:=.slice a3f Tx.length c3f) rfl
     have kf8:=hBf.cell (i:=8) (v:=.slice a4f Qx.length c4f) rfl
     have kf9:=hBf.cell (i:=9) (v:=.int .i64 nx) rfl
     go_wp2_with fail
     clear ke0 ke1 ke2 ke3 ke4 ke5 ke6 ke7 ke8 ke9 kf0 kf1 kf2 kf3 kf4 kf5 kf6 kf7 kf8 kf9
     refine (eq_same _ _ _ _ _ _ _ _ _ _ _ _ _ _ _ _ _ _ _ hIe hIf).mono ?_
     rintro e w9 ⟨rfl,hE⟩
     replace hP:=hP.ext hE
     replace hBA:=hBA.ext hE
     replace hIA:=hIA.ext hE
     replace hBc:=hBc.ext hE
     replace hIc:=hIc.ext hE
     replace hBd:=hBd.ext hE
     replace hId:=hId.ext hE
     replace hBH:=hBH.ext hE
     replace hIH:=hIH.ext hE
     replace hBY:=hBY.ext hE
     replace hIY:=hIY.ext hE
     replace hBe:=hBe.ext hE
     replace hIe:=hIe.ext hE
     replace hBf:=hBf.ext hE
     replace hIf:=hIf.ext hE
     clear hE
     go_wp2_with fail
     go_meet
     exact⟨rfl,hP⟩
   · skip
     have kc0:=hBc.cell (i:=0) (v:=.int .i64 ku) rfl
     have kc1:=hBc.cell (i:=1) (v:=.slice a1c Gu.length c1c) rfl
     have kc2:=hBc.cell (i:=2) (v:=.slice a2c Ou.length c2c) rfl
     have kc3:=hBc.cell (i:=3) (v:=.int .i64 au) rfl
     have kc4:=hBc.cell (i:=4) (v:=.int .i64 bu) rfl
     have kc5:=hBc.cell (i:=5) (v:=.int .i64 su) rfl
     have kc6:=hBc.cell (i:=6) (v:=.int .i64 pu) rfl
     have kc7:=hBc.cell (i:=7) (v:=.slice a3c Tu.length c3c) rfl
     have kc8:=hBc.cell (i:=8) (v:=.slice a4c Qu.length c4c) rfl
     have kc9:=hBc.cell (i:=9) (v:=.int .i64 nu) rfl
     have kd0:=hBd.cell (i:=0) (v:=.int .i64 ku) rfl
     have kd1:=hBd.cell (i:=1) (v:=.slice a1d Gu.length c1d) rfl
     have kd2:=hBd.cell (i:=2) (v:=.slice a2d Ou.length c2d) rfl
     have kd3:=hBd.cell (i:=3) (v:=.int .i64 au) rfl
     have kd4:=hBd.cell (i:=4) (v:=.int .i64 bu) rfl
     have kd5:=hBd.cell (i:=5) (v:=.int .i64 su) rfl
     have kd6:=hBd.cell (i:=6) (v:=.int .i64 pu) rfl
     have kd7:=hBd.cell (i:=7) (v:=.slice a3d Tu.length c3d) rfl
     have kd8:=hBd.cell (i:=8) (v:=.slice a4d Qu.length c4d) rfl
     have kd9:=hBd.cell (i:=9) (v:=.int .i64 nu) rfl
     go_wp2_with fail
     clear kc0 kc1 kc2 kc3 kc4 kc5 kc6 kc7 kc8 kc9 kd0 kd1 kd2 kd3 kd4 kd5 kd6 kd7 kd8 kd9
     refine (eq_same _ _ _ _ _ _ _ _ _ _ _ _ _ _ _ _ _ _ _ hIc hId).mono ?_
     rintro e w9 ⟨rfl,hE⟩
     replace hP:=hP.ext hE
     replace hBA:=hBA.ext hE
     replace hIA:=hIA.ext hE
     replace hBc:=hBc.ext hE
     replace hIc:=hIc.ext hE
     replace hBd:=hBd.ext hE
     replace hId:=hId.ext hE
     replace hBH:=hBH.ext hE
     replace hIH:=hIH.ext hE
     replace hBY:=hBY.ext hE
     replace hIY:=hIY.ext hE
     replace hBe:=hBe.ext hE
     replace hIe:=hIe.ext hE
     replace hBf:=hBf.ext hE
     replace hIf:=hIf.ext hE
     clear hE
     have kd0:=hBd.cell (i:=0) (v:=.int .i64 ku) rfl
     have kd1:=hBd.cell (i:=1) (v:=.slice a1d Gu.length c1d) rfl
     have kd2:=hBd.cell (i:=2) (v:=.slice a2d Ou.length c2d) rfl
     have kd3:=hBd.cell (i:=3) (v:=.int .i64 au) rfl
     have kd4:=hBd.cell (i:=4) (v:=.int .i64 bu) rfl
     have kd5:=hBd.cell (i:=5) (v:=.int .i64 su) rfl
     have kd6:=hBd.cell (i:=6) (v:=.int .i64 pu) rfl
     have kd7:=hBd.cell (i:=7) (v:=.slice a3d Tu.length c3d) rfl
     have kd8:=hBd.cell (i:=8) (v:=.slice a4d Qu.length c4d) rfl
     have kd9:=hBd.cell (i:=9) (v:=.int .i64 nu) rfl
     go_wp2_with fail
     clear kd0 kd1 kd2 kd3 kd4 kd5 kd6 kd7 kd8 kd9
     refine (ck_yes (hMu.2.2 rfl) _ _ _ _ _ hId).mono ?_
     rintro e w9 ⟨rfl,hE⟩
     replace hP:=hP.ext hE
     replace hBA:=hBA.ext hE
     replace hIA:=hIA.ext hE
     replace hBc:=hBc.ext hE
     replace hIc:=hIc.ext hE
     replace hBd:=hBd.ext hE
     replace hId:=hId.ext hE
     replace hBH:=hBH.ext hE
     replace hIH:=hIH.ext hE
     replace hBY:=hBY.ext hE
     replace hIY:=hIY.ext hE
     replace hBe:=hBe.ext hE
     replace hIe:=hIe.ext hE
     replace hBf:=hBf.ext hE
     replace hIf:=hIf.ext hE
     clear hE
     have ke0:=hBe.cell (i:=0) (v:=.int .i64 kx) rfl
     have ke1:=hBe.cell (i:=1) (v:=.slice a1e Gx.length c1e) rfl
     have ke2:=hBe.cell (i:=2) (v:=.slice a2e Ox.length c2e) rfl
     have ke3:=hBe.cell (i:=3) (v:=.int .i64 ax) rfl
     have ke4:=hBe.cell (i:=4) (v:=.int .i64 bx) rfl
     have ke5:=hBe.cell (i:=5) (v:=.int .i64 sx) rfl
     have ke6:=hBe.cell (i:=6) (v:=.int .i64 px) rfl
     have ke7:=hBe.cell (i:=7) (v:=.slice a3e Tx.length c3e) rfl
     have ke8:=hBe.cell (i:=8) (v:=.slice a4e Qx.length c4e) rfl
     have ke9:=hBe.cell (i:=9) (v:=.int .i64 nx) rfl
     have kf0:=hBf.cell (i:=0) (v:=.int .i64 kx) rfl
     have kf1:=hBf.cell (i:=1) (v:=.slice a1f Gx.length c1f) rfl
     have kf2:=hBf.cell (i:=2) (v:=.slice a2f Ox.length c2f) rfl
     have kf3:=hBf.cell (i:=3) (v:=.int .i64 ax) rfl
     have kf4:=hBf.cell (i:=4) (v:=.int .i64 bx) rfl
     have kf5:=hBf.cell (i:=5) (v:=.int .i64 sx) rfl
     have kf6:=hBf.cell (i:=6) (v:=.int .i64 px) rfl
     have kf7:=hBf.cell (i:=7) (v:=.slice a3f Tx.length c3f) rfl
     have kf8:=hBf.cell (i:=8) (v:=.slice a4f Qx.length c4f) rfl
     have kf9:=hBf.cell (i:=9) (v:=.int .i64 nx) rfl
     go_wp2_with fail
     clear ke0 ke1 ke2 ke3 ke4 ke5 ke6 ke7 ke8 ke9 kf0 kf1 kf2 kf3 kf4 kf5 kf6 kf7 kf8 kf9
     refine (eq_same _ _ _ _ _ _ _ _ _ _ _ _ _ _ _ _ _ _ _ hIe hIf).mono ?_
     rintro e w9 ⟨rfl,hE⟩
     replace hP:=hP.ext hE
     replace hBA:=hBA.ext hE
     replace hIA:=hIA.ext hE
     replace hBc:=hBc.ext hE
     replace hIc:=hIc.ext hE
     replace hBd:=hBd.ext hE
     replace hId:=hId.ext hE
     replace hBH:=hBH.ext hE
     replace hIH:=hIH.ext hE
     replace hBY:=hBY.ext hE
     replace hIY:=hIY.ext hE
     replace hBe:=hBe.ext hE
     replace hIe:=hIe.ext hE
     replace hBf:=hBf.ext hE
     replace hIf:=hIf.ext hE
     clear hE
     have kf0:=hBf.cell (i:=0) (v:=.int .i64 kx) rfl
     have kf1:=hBf.cell (i:=1) (v:=.slice a1f Gx.length c1f) rfl
     have kf2:=hBf.cell (i:=2) (v:=.slice a2f Ox.length c2f) rfl
     have kf3:=hBf.cell (i:=3) (v:=.int .i64 ax) rfl
     have kf4:=hBf.cell (i:=4) (v:=.int .i64 bx) rfl
     have kf5:=hBf.cell (i:=5) (v:=.int .i64 sx) rfl
     have kf6:=hBf.cell (i:=6) (v:=.int .i64 px) rfl
     have kf7:=hBf.cell (i:=7) (v:=.slice a3f Tx.length c3f) rfl
     have kf8:=hBf.cell (i:=8) (v:=.slice a4f Qx.length c4f) rfl
     have kf9:=hBf.cell (i:=9) (v:=.int .i64 nx) rfl
     go_wp2_with fail
     clear kf0 kf1 kf2 kf3 kf4 kf5 kf6 kf7 kf8 kf9
     refine (ck_yes (hMx.2.2 rfl) _ _ _ _ _ hIf).mono ?_
     rintro e w9 ⟨rfl,hE⟩
     replace hP:=hP.ext hE
     replace hBA:=hBA.ext hE
     replace hIA:=hIA.ext hE
     replace hBc:=hBc.ext hE
     replace hIc:=hIc.ext hE
     replace hBd:=hBd.ext hE
     replace hId:=hId.ext hE
     replace hBH:=hBH.ext hE
     replace hIH:=hIH.ext hE
     replace hBY:=hBY.ext hE
     replace hIY:=hIY.ext hE
     replace hBe:=hBe.ext hE
     replace hIe:=hIe.ext hE
     replace hBf:=hBf.ext hE
     replace hIf:=hIf.ext hE
     clear hE
     go_wp2_with fail
     go_meet
     exact⟨rfl,hP⟩
 case rest =>
 as_aux_lemma =>
 clear hP hE hBA hIA hBc hIc hBd hId hBH hIH hBY hIY hBe hIe hBf hIf
 obtain⟨rfl,hP⟩:=hcut
 go_wp2_with fail
 clear hMu hMx
 refine (DrawClaimOfColors_any _ _ _ hP.2).mono ?_
 rintro e w1 ⟨xA,rfl,-,-,hE⟩
 replace hP:=hP.ext hE
 clear hE
 obtain⟨ku,au,bu,su,pu,nu,Ru,Gu,Ou,Tu,Qu,hMu⟩:=pk_colors xA
 go_wp2_with fail
 refine (hMu.1 _ True.intro).mono ?_
 rintro e w2 ⟨a1c,c1c,a2c,c2c,a3c,c3c,a4c,c4c,rfl,hK,hE⟩
 replace hP:=hP.ext hE
 clear hE
 have hBc:=Blk.new w2 38 #[.int .i64 ku,.slice a1c Gu.length c1c,.slice a2c Ou.length c2c,.int .i64 au,.int .i64 bu,.int .i64 su,.int .i64 pu,.slice a3c Tu.length c3c,.slice a4c Qu.length c4c,.int .i64 nu]
 have hIc:=(hK).ext ((Ext.refl w2).alloc (.cells #[.int .i64 ku,.slice a1c Gu.length c1c,.slice a2c Ou.length c2c,.int .i64 au,.int .i64 bu,.int .i64 su,.int .i64 pu,.slice a3c Tu.length c3c,.slice a4c Qu.length c4c,.int .i64 nu] 38))
 have eN:=(Ext.refl w2).alloc (.cells #[.int .i64 ku,.slice a1c Gu.length c1c,.slice a2c Ou.length c2c,.int .i64 au,.int .i64 bu,.int .i64 su,.int .i64 pu,.slice a3c Tu.length c3c,.slice a4c Qu.length c4c,.int .i64 nu] 38)
 obtain⟨U1,hU1⟩:∃x,x=w2.alloc (.cells #[.int .i64 ku,.slice a1c Gu.length c1c,.slice a2c Ou.length c2c,.int .i64 au,.int .i64 bu,.int .i64 su,.int .i64 pu,.slice a3c Tu.length c3c,.slice a4c Qu.length c4c,.int .i64 nu] 38):=⟨_,rfl⟩
 rw[←hU1] at hBc hIc eN
 replace hP:=hP.ext eN
 clear eN
 clear hK
 have HU1:=Lib.hid hU1
 clear hU1
 go_wp2_with fail
 rw[←HU1.out]
 clear HU1
 refine (hMu.2.1 _ True.intro).mono ?_
 rintro e w3 ⟨a1d,c1d,a2d,c2d,a3d,c3d,a4d,c4d,rfl,hK,hE⟩
 replace hP:=hP.ext hE
 replace hBc:=hBc.ext hE
 replace hIc:=hIc.ext hE
 clear hE
 replace hBc:=hBc.alloc (.cells #[.int .i64 ku,.slice a1d Gu.length c1d,.slice a2d Ou.length c2d,.int .i64 au,.int .i64 bu,.int .i64 su,.int .i64 pu,.slice a3d Tu.length c3d,.slice a4d Qu.length c4d,.int .i64 nu] 38)
 replace hIc:=hIc.ext ((Ext.refl w3).alloc (.cells #[.int .i64 ku,.slice a1d Gu.length c1d,.slice a2d Ou.length c2d,.int .i64 au,.int .i64 bu,.int .i64 su,.int .i64 pu,.slice a3d Tu.length c3d,.slice a4d Qu.length c4d,.int .i64 nu] 38))
 have hBd:=Blk.new w3 38 #[.int .i64 ku,.slice a1d Gu.length c1d,.slice a2d Ou.length c2d,.int .i64 au,.int .i64 bu,.int .i64 su,.int .i64 pu,.slice a3d Tu.length c3d,.slice a4d Qu.length c4d,.int .i64 nu]
 have hId:=(hK).ext ((Ext.refl w3).alloc (.cells #[.int .i64 ku,.slice a1d Gu.length c1d,.slice a2d Ou.length c2d,.int .i64 au,.int .i64 bu,.int .i64 su,.int .i64 pu,.slice a3d Tu.length c3d,.slice a4d Qu.length c4d,.int .i64 nu] 38))
 have eN:=(Ext.refl w3).alloc (.cells #[.int .i64 ku,.slice a1d Gu.length c1d,.slice a2d Ou.length c2d,.int .i64 au,.int .i64 bu,.int .i64 su,.int .i64 pu,.slice a3d Tu.length c3d,.slice a4d Qu.length c4d,.int .i64 nu] 38)
 obtain⟨U2,hU2⟩:∃x,x=w3.alloc (.cells #[.int .i64 ku,.slice a1d Gu.length c1d,.slice a2d Ou.length c2d,.int .i64 au,.int .i64 bu,.int .i64 su,.int .i64 pu,.slice a3d Tu.length c3d,.slice a4d Qu.length c4d,.int .i64 nu] 38):=⟨_,rfl⟩
 rw[←hU2] at hBc hIc hBd hId eN
 replace hP:=hP.ext eN
 clear eN
 clear hK
 have HU2:=Lib.hid hU2
 clear hU2
 go_wp2_with fail
 rw[←HU2.out]
 clear HU2
 refine (DrawClaimOfCoset_any _ _ _ hP.2).mono ?_
 rintro e w4 ⟨aH,LH,cH,xH,rfl,hO,hE⟩
 replace hP:=hP.ext hE
 replace hBc:=hBc.ext hE
 replace hIc:=hIc.ext hE
 replace hBd:=hBd.ext hE
 replace hId:=hId.ext hE
 clear hE
 replace hBc:=hBc.alloc (.cells #[.slice aH LH.length cH] 27)
 replace hIc:=hIc.ext ((Ext.refl w4).alloc (.cells #[.slice aH LH.length cH] 27))
 replace hBd:=hBd.alloc (.cells #[.slice aH LH.length cH] 27)
 replace hId:=hId.ext ((Ext.refl w4).alloc (.cells #[.slice aH LH.length cH] 27))
 have hBH:=Blk.new w4 27 #[.slice aH LH.length cH]
 have hIH:=(hO.ints).ext ((Ext.refl w4).alloc (.cells #[.slice aH LH.length cH] 27))
 have eN:=(Ext.refl w4).alloc (.cells #[.slice aH LH.length cH] 27)
 obtain⟨U3,hU3⟩:∃x,x=w4.alloc (.cells #[.slice aH LH.length cH] 27):=⟨_,rfl⟩
 rw[←hU3] at hBc hIc hBd hId hBH hIH eN
 replace hP:=hP.ext eN
 clear eN
 clear hO
 obtain⟨kx,ax,bx,sx,px,nx,Rx,Gx,Ox,Tx,Qx,hMx⟩:=pk_coset (.slice aH LH.length cH) LH xH
 have kH0:=hBH.cell (i:=0) (v:=.slice aH LH.length cH) rfl
 rw[hU3] at kH0
 have HU3:=Lib.hid hU3
 clear hU3
 go_wp2_with fail
 rw[←HU3.out]
 clear HU3
 clear kH0
 refine (hMx.1 _ hIH).mono ?_
 rintro e w5 ⟨a1e,c1e,a2e,c2e,a3e,c3e,a4e,c4e,rfl,hK,hE⟩
 replace hP:=hP.ext hE
 replace hBc:=hBc.ext hE
 replace hIc:=hIc.ext hE
 replace hBd:=hBd.ext hE
 replace hId:=hId.ext hE
 replace hBH:=hBH.ext hE
 replace hIH:=hIH.ext hE
 clear hE
 replace hBc:=hBc.alloc (.cells #[.int .i64 kx,.slice a1e Gx.length c1e,.slice a2e Ox.length c2e,.int .i64 ax,.int .i64 bx,.int .i64 sx,.int .i64 px,.slice a3e Tx.length c3e,.slice a4e Qx.length c4e,.int .i64 nx] 38)
 replace hIc:=hIc.ext ((Ext.refl w5).alloc (.cells #[.int .i64 kx,.slice a1e Gx.length c1e,.slice a2e Ox.length c2e,.int .i64 ax,.int .i64 bx,.int .i64 sx,.int .i64 px,.slice a3e Tx.length c3e,.slice a4e Qx.length c4e,.int .i64 nx] 38))
 replace hBd:=hBd.alloc (.cells #[.int .i64 kx,.slice a1e Gx.length c1e,.slice a2e Ox.length c2e,.int .i64 ax,.int .i64 bx,.int .i64 sx,.int .i64 px,.slice a3e Tx.length c3e,.slice a4e Qx.length c4e,.int .i64 nx] 38)
 replace hId:=hId.ext ((Ext.refl w5).alloc (.cells #[.int .i64 kx,.slice a1e Gx.length c1e,.slice a2e Ox.length c2e,.int .i64 ax,.int .i64 bx,.int .i64 sx,.int .i64 px,.slice a3e Tx.length c3e,.slice a4e Qx.length c4e,.int .i64 nx] 38))
 replace hBH:=hBH.alloc (.cells #[.int .i64 kx,.slice a1e Gx.length c1e,.slice a2e Ox.length c2e,.int .i64 ax,.int .i64 bx,.int .i64 sx,.int .i64 px,.slice a3e Tx.length c3e,.slice a4e Qx.length c4e,.int .i64 nx] 38)
 replace hIH:=hIH.ext ((Ext.refl w5).alloc (.cells #[.int .i64 kx,.slice a1e Gx.length c1e,.slice a2e Ox.length c2e,.int .i64 ax,.int .i64 bx,.int .i64 sx,.int .i64 px,.slice a3e Tx.length c3e,.slice a4e Qx.length c4e,.int .i64 nx] 38))
 have hBe:=Blk.new w5 38 #[.int .i64 kx,.slice a1e Gx.length c1e,.slice a2e Ox.length c2e,.int .i64 ax,.int .i64 bx,.int .i64 sx,.int .i64 px,.slice a3e Tx.length c3e,.slice a4e Qx.length c4e,.int .i64 nx]
 have hIe:=(hK).ext ((Ext.refl w5).alloc (.cells #[.int .i64 kx,.slice a1e Gx.length c1e,.slice a2e Ox.length c2e,.int .i64 ax,.int .i64 bx,.int .i64 sx,.int .i64 px,.slice a3e Tx.length c3e,.slice a4e Qx.length c4e,.int .i64 nx] 38))
 have eN:=(Ext.refl w5).alloc (.cells #[.int .i64 kx,.slice a1e Gx.length c1e,.slice a2e Ox.length c2e,.int .i64 ax,.int .i64 bx,.int .i64 sx,.int .i64 px,.slice a3e Tx.length c3e,.slice a4e Qx.length c4e,.int .i64 nx] 38)
 obtain⟨U4,hU4⟩:∃x,x=w5.alloc (.cells #[.int .i64 kx,.slice a1e Gx.length c1e,.slice a2e Ox.length c2e,.int .i64 ax,.int .i64 bx,.int .i64 sx,.int .i64 px,.slice a3e Tx.length c3e,.slice a4e Qx.length c4e,.int .i64 nx] 38):=⟨_,rfl⟩
 rw[←hU4] at hBc hIc hBd hId hBH hIH hBe hIe eN
 replace hP:=hP.ext eN
 clear eN
 clear hK
 have kH0:=hBH.cell (i:=0) (v:=.slice aH LH.length cH) rfl
 rw[hU4] at kH0
 have HU4:=Lib.hid hU4
 clear hU4
 go_wp2_with fail
 rw[←HU4.out]
 clear HU4
 clear kH0
 refine (hMx.2.1 _ hIH).mono ?_
 rintro e w6 ⟨a1f,c1f,a2f,c2f,a3f,c3f,a4f,c4f,rfl,hK,hE⟩
 replace hP:=hP.ext hE
 replace hBc:=hBc.ext hE
 replace hIc:=hIc.ext hE
 replace hBd:=hBd.ext hE
 replace hId:=hId.ext hE
 replace hBH:=hBH.ext hE
 replace hIH:=hIH.ext hE
 replace hBe:=hBe.ext hE
 replace hIe:=hIe.ext hE
 clear hE
 replace hBc:=hBc.alloc (.cells #[.int .i64 kx,.slice a1f Gx.length c1f,.slice a2f Ox.length c2f,.int .i64 ax,.int .i64 bx,.int .i64 sx,.int .i64 px,.slice a3f Tx.length c3f,.slice a4f Qx.length c4f,.int .i64 nx] 38)
 replace hIc:=hIc.ext ((Ext.refl w6).alloc (.cells #[.int .i64 kx,.slice a1f Gx.length c1f,.slice a2f Ox.length c2f,.int .i64 ax,.int .i64 bx,.int .i64 sx,.int .i64 px,.slice a3f Tx.length c3f,.slice a4f Qx.length c4f,.int .i64 nx] 38))
 replace hBd:=hBd.alloc (.cells #[.int .i64 kx,.slice a1f Gx.length c1f,.slice a2f Ox.length c2f,.int .i64 ax,.int .i64 bx,.int .i64 sx,.int .i64 px,.slice a3f Tx.length c3f,.slice a4f Qx.length c4f,.int .i64 nx] 38)
 replace hId:=hId.ext ((Ext.refl w6).alloc (.cells #[.int .i64 kx,.slice a1f Gx.length c1f,.slice a2f Ox.length c2f,.int .i64 ax,.int .i64 bx,.int .i64 sx,.int .i64 px,.slice a3f Tx.length c3f,.slice a4f Qx.length c4f,.int .i64 nx] 38))
 replace hBH:=hBH.alloc (.cells #[.int .i64 kx,.slice a1f Gx.length c1f,.slice a2f Ox.length c2f,.int .i64 ax,.int .i64 bx,.int .i64 sx,.int .i64 px,.slice a3f Tx.length c3f,.slice a4f Qx.length c4f,.int .i64 nx] 38)
 replace hIH:=hIH.ext ((Ext.refl w6).alloc (.cells #[.int .i64 kx,.slice a1f Gx.length c1f,.slice a2f Ox.length c2f,.int .i64 ax,.int .i64 bx,.int .i64 sx,.int .i64 px,.slice a3f Tx.length c3f,.slice a4f Qx.length c4f,.int .i64 nx] 38))
 replace hBe:=hBe.alloc (.cells #[.int .i64 kx,.slice a1f Gx.length c1f,.slice a2f Ox.length c2f,.int .i64 ax,.int .i64 bx,.int .i64 sx,.int .i64 px,.slice a3f Tx.length c3f,.slice a4f Qx.length c4f,.int .i64 nx] 38)
 replace hIe:=hIe.ext ((Ext.refl w6).alloc (.cells #[.int .i64 kx,.slice a1f Gx.length c1f,.slice a2f Ox.length c2f,.int .i64 ax,.int .i64 bx,.int .i64 sx,.int .i64 px,.slice a3f Tx.length c3f,.slice a4f Qx.length c4f,.int .i64 nx] 38))
 have hBf:=Blk.new w6 38 #[.int .i64 kx,.slice a1f Gx.length c1f,.slice a2f Ox.length c2f,.int .i64 ax,.int .i64 bx,.int .i64 sx,.int .i64 px,.slice a3f Tx.length c3f,.slice a4f Qx.length c4f,.int .i64 nx]
 have hIf:=(hK).ext ((Ext.refl w6).alloc (.cells #[.int .i64 kx,.slice a1f Gx.length c1f,.slice a2f Ox.length c2f,.int .i64 ax,.int .i64 bx,.int .i64 sx,.int .i64 px,.slice a3f Tx.length c3f,.slice a4f Qx.length c4f,.int .i64 nx] 38))
 have eN:=(Ext.refl w6).alloc (.cells #[.int .i64 kx,.slice a1f Gx.length c1f,.slice a2f Ox.length c2f,.int .i64 ax,.int .i64 bx,.int .i64 sx,.int .i64 px,.slice a3f Tx.length c3f,.slice a4f Qx.length c4f,.int .i64 nx] 38)
 obtain⟨U5,hU5⟩:∃x,x=w6.alloc (.cells #[.int .i64 kx,.slice a1f Gx.length c1f,.slice a2f Ox.length c2f,.int .i64 ax,.int .i64 bx,.int .i64 sx,.int .i64 px,.slice a3f Tx.length c3f,.slice a4f Qx.length c4f,.int .i64 nx] 38):=⟨_,rfl⟩
 rw[←hU5] at hBc hIc hBd hId hBH hIH hBe hIe hBf hIf eN
 replace hP:=hP.ext eN
 clear eN
 clear hK
 have HU5:=Lib.hid hU5
 clear hU5
 have hE:=Ext.refl U5
 go_upto_region 25 with fail
 rw[←HU5.out]
 clear HU5
 go_cut [270] (fun s wx=>s=.bool false∧LawC w v l wx)
 case first =>
  as_aux_lemma =>
   cases Ru<;>cases Rx
   · skip
     have kc0:=hBc.cell (i:=0) (v:=.int .i64 ku) rfl
     have kc1:=hBc.cell (i:=1) (v:=.slice a1c Gu.length c1c) rfl
     have kc2:=hBc.cell (i:=2) (v:=.slice a2c Ou.length c2c) rfl
     have kc3:=hBc.cell (i:=3) (v:=.int .i64 au) rfl
     have kc4:=hBc.cell (i:=4) (v:=.int .i64 bu) rfl
     have kc5:=hBc.cell (i:=5) (v:=.int .i64 su) rfl
     have kc6:=hBc.cell (i:=6) (v:=.int .i64 pu) rfl
     have kc7:=hBc.cell (i:=7) (v:=.slice a3c Tu.length c3c) rfl
     have kc8:=hBc.cell (i:=8) (v:=.slice a4c Qu.length c4c) rfl
     have kc9:=hBc.cell (i:=9) (v:=.int .i64 nu) rfl
     have kd0:=hBd.cell (i:=0) (v:=.int .i64 ku) rfl
     have kd1:=hBd.cell (i:=1) (v:=.slice a1d Gu.length c1d) rfl
     have kd2:=hBd.cell (i:=2) (v:=.slice a2d Ou.length c2d) rfl
     have kd3:=hBd.cell (i:=3) (v:=.int .i64 au) rfl
     have kd4:=hBd.cell (i:=4) (v:=.int .i64 bu) rfl
     have kd5:=hBd.cell (i:=5) (v:=.int .i64 su) rfl
     have kd6:=hBd.cell (i:=6) (v:=.int .i64 pu) rfl
     have kd7:=hBd.cell (i:=7) (v:=.slice a3d Tu.length c3d) rfl
     have kd8:=hBd.cell (i:=8) (v:=.slice a4d Qu.length c4d) rfl
     have kd9:=hBd.cell (i:=9) (v:=.int .i64 nu) rfl
     go_wp2_with fail
     clear kc0 kc1 kc2 kc3 kc4 kc5 kc6 kc7 kc8 kc9 kd0 kd1 kd2 kd3 kd4 kd5 kd6 kd7 kd8 kd9
     refine (eq_same _ _ _ _ _ _ _ _ _ _ _ _ _ _ _ _ _ _ _ hIc hId).mono ?_
     rintro e w9 ⟨rfl,hE⟩
     replace hP:=hP.ext hE
     replace hBc:=hBc.ext hE
     replace hIc:=hIc.ext hE
     replace hBd:=hBd.ext hE
     replace hId:=hId.ext hE
     replace hBH:=hBH.ext hE
     replace hIH:=hIH.ext hE
     replace hBe:=hBe.ext hE
     replace hIe:=hIe.ext hE
     replace hBf:=hBf.ext hE
     replace hIf:=hIf.ext hE
     clear hE
     have ke0:=hBe.cell (i:=0) (v:=.int .i64 kx) rfl
     have ke1:=hBe.cell (i:=1) (v:=.slice a1e Gx.length c1e) rfl
     have ke2:=hBe.cell (i:=2) (v:=.slice a2e Ox.length c2e) rfl
     have ke3:=hBe.cell (i:=3) (v:=.int .i64 ax) rfl
     have ke4:=hBe.cell (i:=4) (v:=.int .i64 bx) rfl
     have ke5:=hBe.cell (i:=5) (v:=.int .i64 sx) rfl
     have ke6:=hBe.cell (i:=6) (v:=.int .i64 px) rfl
     have ke7:=hBe.cell (i:=7) (v:=.slice a3e Tx.length c3e) rfl
     have ke8:=hBe.cell (i:=8) (v:=.slice a4e Qx.length c4e) rfl
     have ke9:=hBe.cell (i:=9) (v:=.int .i64 nx) rfl
     have kf0:=hBf.cell (i:=0) (v:=.int .i64 kx) rfl
     have kf1:=hBf.cell (i:=1) (v:=.slice a1f Gx.length c1f) rfl
     have kf2:=hBf.cell (i:=2) (v:=.slice a2f Ox.length c2f) rfl
     have kf3:=hBf.cell (i:=3) (v:=.int .i64 ax) rfl
     have kf4:=hBf.cell (i:=4) (v:=.int .i64 bx) rfl
     have kf5:=hBf.cell (i:=5) (v:=.int .i64 sx) rfl
     have kf6:=hBf.cell (i:=6) (v:=.int .i64 px) rfl
     have kf7:=hBf.cell (i:=7) (v:=.slice a3f Tx.length c3f) rfl
     have kf8:=hBf.cell (i:=8) (v:=.slice a4f Qx.length c4f) rfl
     have kf9:=hBf.cell (i:=9) (v:=.int .i64 nx) rfl
     go_wp2_with fail
     clear ke0 ke1 ke2 ke3 ke4 ke5 ke6 ke7 ke8 ke9 kf0 kf1 kf2 kf3 kf4 kf5 kf6 kf7 kf8 kf9
     refine (eq_same _ _ _ _ _ _ _ _ _ _ _ _ _ _ _ _ _ _ _ hIe hIf).mono ?_
     rintro e w9 ⟨rfl,hE⟩
     replace hP:=hP.ext hE
     replace hBc:=hBc.ext hE
     replace hIc:=hIc.ext hE
     replace hBd:=hBd.ext hE
     replace hId:=hId.ext hE
     replace hBH:=hBH.ext hE
     replace hIH:=hIH.ext hE
     replace hBe:=hBe.ext hE
     replace hIe:=hIe.ext hE
     replace hBf:=hBf.ext hE
     replace hIf:=hIf.ext hE
     clear hE
     go_wp2_with fail
     go_meet
     exact⟨rfl,hP⟩
   · skip
     have kc0:=hBc.cell (i:=0) (v:=.int .i64 ku) rfl
     have kc1:=hBc.cell (i:=1) (v:=.slice a1c Gu.length c1c) rfl
     have kc2:=hBc.cell (i:=2) (v:=.slice a2c Ou.length c2c) rfl
     have kc3:=hBc.cell (i:=3) (v:=.int .i64 au) rfl
     have kc4:=hBc.cell (i:=4) (v:=.int .i64 bu) rfl
     have kc5:=hBc.cell (i:=5) (v:=.int .i64 su) rfl
     have kc6:=hBc.cell (i:=6) (v:=.int .i64 pu) rfl
     have kc7:=hBc.cell (i:=7) (v:=.slice a3c Tu.length c3c) rfl
     have kc8:=hBc.cell (i:=8) (v:=.slice a4c Qu.length c4c) rfl
     have kc9:=hBc.cell (i:=9) (v:=.int .i64 nu) rfl
     have kd0:=hBd.cell (i:=0) (v:=.int .i64 ku) rfl
     have kd1:=hBd.cell (i:=1) (v:=.slice a1d Gu.length c1d) rfl
     have kd2:=hBd.cell (i:=2) (v:=.slice a2d Ou.length c2d) rfl
     have kd3:=hBd.cell (i:=3) (v:=.int .i64 au) rfl
     have kd4:=hBd.cell (i:=4) (v:=.int .i64 bu) rfl
     have kd5:=hBd.cell (i:=5) (v:=.int .i64 su) rfl
     have kd6:=hBd.cell (i:=6) (v:=.int .i64 pu) rfl
     have kd7:=hBd.cell (i:=7) (v:=.slice a3d Tu.length c3d) rfl
     have kd8:=hBd.cell (i:=8) (v:=.slice a4d Qu.length c4d) rfl
     have kd9:=hBd.cell (i:=9) (v:=.int .i64 nu) rfl
     go_wp2_with fail
     clear kc0 kc1 kc2 kc3 kc4 kc5 kc6 kc7 kc8 kc9 kd0 kd1 kd2 kd3 kd4 kd5 kd6 kd7 kd8 kd9
     refine (eq_same _ _ _ _ _ _ _ _ _ _ _ _ _ _ _ _ _ _ _ hIc hId).mono ?_
     rintro e w9 ⟨rfl,hE⟩
     replace hP:=hP.ext hE
     replace hBc:=hBc.ext hE
     replace hIc:=hIc.ext hE
     replace hBd:=hBd.ext hE
     replace hId:=hId.ext hE
     replace hBH:=hBH.ext hE
     replace hIH:=hIH.ext hE
     replace hBe:=hBe.ext hE
     replace hIe:=hIe.ext hE
     replace hBf:=hBf.ext hE
     replace hIf:=hIf.ext hE
     clear hE
     have ke0:=hBe.cell (i:=0) (v:=.int .i64 kx) rfl
     have ke1:=hBe.cell (i:=1) (v:=.slice a1e Gx.length c1e) rfl
     have ke2:=hBe.cell (i:=2) (v:=.slice a2e Ox.length c2e) rfl
     have ke3:=hBe.cell (i:=3) (v:=.int .i64 ax) rfl
     have ke4:=hBe.cell (i:=4) (v:=.int .i64 bx) rfl
     have ke5:=hBe.cell (i:=5) (v:=.int .i64 sx) rfl
     have ke6:=hBe.cell (i:=6) (v:=.int .i64 px) rfl
     have ke7:=hBe.cell (i:=7) (v:=.slice a3e Tx.length c3e) rfl
     have ke8:=hBe.cell (i:=8) (v:=.slice a4e Qx.length c4e) rfl
     have ke9:=hBe.cell (i:=9) (v:=.int .i64 nx) rfl
     have kf0:=hBf.cell (i:=0) (v:=.int .i64 kx) rfl
     have kf1:=hBf.cell (i:=1) (v:=.slice a1f Gx.length c1f) rfl
     have kf2:=hBf.cell (i:=2) (v:=.slice a2f Ox.length c2f) rfl
     have kf3:=hBf.cell (i:=3) (v:=.int .i64 ax) rfl
     have kf4:=hBf.cell (i:=4) (v:=.int .i64 bx) rfl
     have kf5:=hBf.cell (i:=5) (v:=.int .i64 sx) rfl
     have kf6:=hBf.cell (i:=6) (v:=.int .i64 px) rfl
     have kf7:=hBf.cell (i:=7) (v:=.slice a3f Tx.length c3f) rfl
     have kf8:=hBf.cell (i:=8) (v:=.slice a4f Qx.length c4f) rfl
     have kf9:=hBf.cell (i:=9) (v:=.int .i64 nx) rfl
     go_wp2_with fail
     clear ke0 ke1 ke2 ke3 ke4 ke5 ke6 ke7 ke8 ke9 kf0 kf1 kf2 kf3 kf4 kf5 kf6 kf7 kf8 kf9
     refine (eq_same _ _ _ _ _ _ _ _ _ _ _ _ _ _ _ _ _ _ _ hIe hIf).mono ?_
     rintro e w9 ⟨rfl,hE⟩
     replace hP:=hP.ext hE
     replace hBc:=hBc.ext hE
     replace hIc:=hIc.ext hE
     replace hBd:=hBd.ext hE
     replace hId:=hId.ext hE
     replace hBH:=hBH.ext hE
     replace hIH:=hIH.ext hE
     replace hBe:=hBe.ext hE
     replace hIe:=hIe.ext hE
     replace hBf:=hBf.ext hE
     replace hIf:=hIf.ext hE
     clear hE
     have kf0:=hBf.cell (i:=0) (v:=.int .i64 kx) rfl
     have kf1:=hBf.cell (i:=1) (v:=.slice a1f Gx.length c1f) rfl
     have kf2:=hBf.cell (i:=2) (v:=.slice a2f Ox.length c2f) rfl
     have kf3:=hBf.cell (i:=3) (v:=.int .i64 ax) rfl
     have kf4:=hBf.cell (i:=4) (v:=.int .i64 bx) rfl
     have kf5:=hBf.cell (i:=5) (v:=.int .i64 sx) rfl
     have kf6:=hBf.cell (i:=6) (v:=.int .i64 px) rfl
     have kf7:=hBf.cell (i:=7) (v:=.slice a3f Tx.length c3f) rfl
     have kf8:=hBf.cell (i:=8) (v:=.slice a4f Qx.length c4f) rfl
     have kf9:=hBf.cell (i:=9) (v:=.int .i64 nx) rfl
     go_wp2_with fail
     clear kf0 kf1 kf2 kf3 kf4 kf5 kf6 kf7 kf8 kf9
     refine (ck_yes (hMx.2.2 rfl) _ _ _ _ _ hIf).mono ?_
     rintro e w9 ⟨rfl,hE⟩
     replace hP:=hP.ext hE
     replace hBc:=hBc.ext hE
     replace hIc:=hIc.ext hE
     replace hBd:=hBd.ext hE
     replace hId:=hId.ext hE
     replace hBH:=hBH.ext hE
     replace hIH:=hIH.ext hE
     replace hBe:=hBe.ext hE
     replace hIe:=hIe.ext hE
     replace hBf:=hBf.ext hE
     replace hIf:=hIf.ext hE
     clear hE
     go_wp2_with fail
     go_meet
     exact⟨rfl,hP⟩
   · skip
     have kc0:=hBc.cell (i:=0) (v:=.int .i64 ku) rfl
     have kc1:=hBc.cell (i:=1) (v:=.slice a1c Gu.length c1c) rfl
     have kc2:=hBc.cell (i:=2) (v:=.slice a2c Ou.length c2c) rfl
     have kc3:=hBc.cell (i:=3) (v:=.int .i64 au) rfl
     have kc4:=hBc.cell (i:=4) (v:=.int .i64 bu) rfl
     have kc5:=hBc.cell (i:=5) (v:=.int .i64 su) rfl
     have kc6:=hBc.cell (i:=6) (v:=.int .i64 pu) rfl
     have kc7:=hBc.cell (i:=7) (v:=.slice a3c Tu.length c3c) rfl
     have kc8:=hBc.cell (i:=8) (v:=.slice a4c Qu.length c4c) rfl
     have kc9:=hBc.cell (i:=9) (v:=.int .i64 nu) rfl
     have kd0:=hBd.cell (i:=0) (v:=.int .i64 ku) rfl
     have kd1:=hBd.cell (i:=1) (v:=.slice a1d Gu.length c1d) rfl
     have kd2:=hBd.cell (i:=2) (v:=.slice a2d Ou.length c2d) rfl
     have kd3:=hBd.cell (i:=3) (v:=.int .i64 au) rfl
     have kd4:=hBd.cell (i:=4) (v:=.int .i64 bu) rfl
     have kd5:=hBd.cell (i:=5) (v:=.int .i64 su) rfl
     have kd6:=hBd.cell (i:=6) (v:=.int .i64 pu) rfl
     have kd7:=hBd.cell (i:=7) (v:=.slice a3d Tu.length c3d) rfl
     have kd8:=hBd.cell (i:=8) (v:=.slice a4d Qu.length c4d) rfl
     have kd9:=hBd.cell (i:=9) (v:=.int .i64 nu) rfl
     go_wp2_with fail
     clear kc0 kc1 kc2 kc3 kc4 kc5 kc6 kc7 kc8 kc9 kd0 kd1 kd2 kd3 kd4 kd5 kd6 kd7 kd8 kd9
     refine (eq_same _ _ _ _ _ _ _ _ _ _ _ _ _ _ _ _ _ _ _ hIc hId).mono ?_
     rintro e w9 ⟨rfl,hE⟩
     replace hP:=hP.ext hE
     replace hBc:=hBc.ext hE
     replace hIc:=hIc.ext hE
     replace hBd:=hBd.ext hE
     replace hId:=hId.ext hE
     replace hBH:=hBH.ext hE
     replace hIH:=hIH.ext hE
     replace hBe:=hBe.ext hE
     replace hIe:=hIe.ext hE
     replace hBf:=hBf.ext hE
     replace hIf:=hIf.ext hE
     clear hE
     have kd0:=hBd.cell (i:=0) (v:=.int .i64 ku) rfl
     have kd1:=hBd.cell (i:=1) (v:=.slice a1d Gu.length c1d) rfl
     have kd2:=hBd.cell (i:=2) (v:=.slice a2d Ou.length c2d) rfl
     have kd3:=hBd.cell (i:=3) (v:=.int .i64 au) rfl
     have kd4:=hBd.cell (i:=4) (v:=.int .i64 bu) rfl
     have kd5:=hBd.cell (i:=5) (v:=.int .i64 su) rfl
     have kd6:=hBd.cell (i:=6) (v:=.int .i64 pu) rfl
     have kd7:=hBd.cell (i:=7) (v:=.slice a3d Tu.length c3d) rfl
     have kd8:=hBd.cell (i:=8) (v:=.slice a4d Qu.length c4d) rfl
     have kd9:=hBd.cell (i:=9) (v:=.int .i64 nu) rfl
     go_wp2_with fail
     clear kd0 kd1 kd2 kd3 kd4 kd5 kd6 kd7 kd8 kd9
     refine (ck_yes (hMu.2.2 rfl) _ _ _ _ _ hId).mono ?_
     rintro e w9 ⟨rfl,hE⟩
     replace hP:=hP.ext hE
     replace hBc:=hBc.ext hE
     replace hIc:=hIc.ext hE
     replace hBd:=hBd.ext hE
     replace hId:=hId.ext hE
     replace hBH:=hBH.ext hE
     replace hIH:=hIH.ext hE
     replace hBe:=hBe.ext hE
     replace hIe:=hIe.ext hE
     replace hBf:=hBf.ext hE
     replace hIf:=hIf.ext hE
     clear hE
     have ke0:=hBe.cell (i:=0) (v:=.int .i64 kx) rfl
     have ke1:=hBe.cell (i:=1) (v:=.slice a1e Gx.length c1e) rfl
     have ke2:=hBe.cell (i:=2) (v:=.slice a2e Ox.length c2e) rfl
     have ke3:=hBe.cell (i:=3) (v:=.int .i64 ax) rfl
     have ke4:=hBe.cell (i:=4) (v:=.int .i64 bx) rfl
     have ke5:=hBe.cell (i:=5) (v:=.int .i64 sx) rfl
     have ke6:=hBe.cell (i:=6) (v:=.int .i64 px) rfl
     have ke7:=hBe.cell (i:=7) (v:=.slice a3e Tx.length c3e) rfl
     have ke8:=hBe.cell (i:=8) (v:=.slice a4e Qx.length c4e) rfl
     have ke9:=hBe.cell (i:=9) (v:=.int .i64 nx) rfl
     have kf0:=hBf.cell (i:=0) (v:=.int .i64 kx) rfl
     have kf1:=hBf.cell (i:=1) (v:=.slice a1f Gx.length c1f) rfl
     have kf2:=hBf.cell (i:=2) (v:=.slice a2f Ox.length c2f) rfl
     have kf3:=hBf.cell (i:=3) (v:=.int .i64 ax) rfl
     have kf4:=hBf.cell (i:=4) (v:=.int .i64 bx) rfl
     have kf5:=hBf.cell (i:=5) (v:=.int .i64 sx) rfl
     have kf6:=hBf.cell (i:=6) (v:=.int .i64 px) rfl
     have kf7:=hBf.cell (i:=7) (v:=.slice a3f Tx.length c3f) rfl
     have kf8:=hBf.cell (i:=8) (v:=.slice a4f Qx.length c4f) rfl
     have kf9:=hBf.cell (i:=9) (v:=.int .i64 nx) rfl
     go_wp2_with fail
     clear ke0 ke1 ke2 ke3 ke4 ke5 ke6 ke7 ke8 ke9 kf0 kf1 kf2 kf3 kf4 kf5 kf6 kf7 kf8 kf9
     refine (eq_same _ _ _ _ _ _ _ _ _ _ _ _ _ _ _ _ _ _ _ hIe hIf).mono ?_
     rintro e w9 ⟨rfl,hE⟩
     replace hP:=hP.ext hE
     replace hBc:=hBc.ext hE
     replace hIc:=hIc.ext hE
     replace hBd:=hBd.ext hE
     replace hId:=hId.ext hE
     replace hBH:=hBH.ext hE
     replace hIH:=hIH.ext hE
     replace hBe:=hBe.ext hE
     replace hIe:=hIe.ext hE
     replace hBf:=hBf.ext hE
     replace hIf:=hIf.ext hE
     clear hE
     go_wp2_with fail
     go_meet
     exact⟨rfl,hP⟩
   · skip
     have kc0:=hBc.cell (i:=0) (v:=.int .i64 ku) rfl
     have kc1:=hBc.cell (i:=1) (v:=.slice a1c Gu.length c1c) rfl
     have kc2:=hBc.cell (i:=2) (v:=.slice a2c Ou.length c2c) rfl
     have kc3:=hBc.cell (i:=3) (v:=.int .i64 au) rfl
     have kc4:=hBc.cell (i:=4) (v:=.int .i64 bu) rfl
     have kc5:=hBc.cell (i:=5) (v:=.int .i64 su) rfl
     have kc6:=hBc.cell (i:=6) (v:=.int .i64 pu) rfl
     have kc7:=hBc.cell (i:=7) (v:=.slice a3c Tu.length c3c) rfl
     have kc8:=hBc.cell (i:=8) (v:=.slice a4c Qu.length c4c) rfl
     have kc9:=hBc.cell (i:=9) (v:=.int .i64 nu) rfl
     have kd0:=hBd.cell (i:=0) (v:=.int .i64 ku) rfl
     have kd1:=hBd.cell (i:=1) (v:=.slice a1d Gu.length c1d) rfl
     have kd2:=hBd.cell (i:=2) (v:=.slice a2d Ou.length c2d) rfl
     have kd3:=hBd.cell (i:=3) (v:=.int .i64 au) rfl
     have kd4:=hBd.cell (i:=4) (v:=.int .i64 bu) rfl
     have kd5:=hBd.cell (i:=5) (v:=.int .i64 su) rfl
     have kd6:=hBd.cell (i:=6) (v:=.int .i64 pu) rfl
     have kd7:=hBd.cell (i:=7) (v:=.slice a3d Tu.length c3d) rfl
     have kd8:=hBd.cell (i:=8) (v:=.slice a4d Qu.length c4d) rfl
     have kd9:=hBd.cell (i:=9) (v:=.int .i64 nu) rfl
     go_wp2_with fail
     clear kc0 kc1 kc2 kc3 kc4 kc5 kc6 kc7 kc8 kc9 kd0 kd1 kd2 kd3 kd4 kd5 kd6 kd7 kd8 kd9
     refine (eq_same _ _ _ _ _ _ _ _ _ _ _ _ _ _ _ _ _ _ _ hIc hId).mono ?_
     rintro e w9 ⟨rfl,hE⟩
     replace hP:=hP.ext hE
     replace hBc:=hBc.ext hE
     replace hIc:=hIc.ext hE
     replace hBd:=hBd.ext hE
     replace hId:=hId.ext hE
     replace hBH:=hBH.ext hE
     replace hIH:=hIH.ext hE
     replace hBe:=hBe.ext hE
     replace hIe:=hIe.ext hE
     replace hBf:=hBf.ext hE
     replace hIf:=hIf.ext hE
     clear hE
     have kd0:=hBd.cell (i:=0) (v:=.int .i64 ku) rfl
     have kd1:=hBd.cell (i:=1) (v:=.slice a1d Gu.length c1d) rfl
     have kd2:=hBd.cell (i:=2) (v:=.slice a2d Ou.length c2d) rfl
     have kd3:=hBd.cell (i:=3) (v:=.int .i64 au) rfl
     have kd4:=hBd.cell (i:=4) (v:=.int .i64 bu) rfl
     have kd5:=hBd.cell (i:=5) (v:=.int .i64 su) rfl
     have kd6:=hBd.cell (i:=6) (v:=.int .i64 pu) rfl
     have kd7:=hBd.cell (i:=7) (v:=.slice a3d Tu.length c3d) rfl
     have kd8:=hBd.cell (i:=8) (v:=.slice a4d Qu.length c4d) rfl
     have kd9:=hBd.cell (i:=9) (v:=.int .i64 nu) rfl
     go_wp2_with fail
     clear kd0 kd1 kd2 kd3 kd4 kd5 kd6 kd7 kd8 kd9
     refine (ck_yes (hMu.2.2 rfl) _ _ _ _ _ hId).mono ?_
     rintro e w9 ⟨rfl,hE⟩
     replace hP:=hP.ext hE
     replace hBc:=hBc.ext hE
     replace hIc:=hIc.ext hE
     replace hBd:=hBd.ext hE
     replace hId:=hId.ext hE
     replace hBH:=hBH.ext hE
     replace hIH:=hIH.ext hE
     replace hBe:=hBe.ext hE
     replace hIe:=hIe.ext hE
     replace hBf:=hBf.ext hE
     replace hIf:=hIf.ext hE
     clear hE
     have ke0:=hBe.cell (i:=0) (v:=.int .i64 kx) rfl
     have ke1:=hBe.cell (i:=1) (v:=.slice a1e Gx.length c1e) rfl
     have ke2:=hBe.cell (i:=2) (v:=.slice a2e Ox.length c2e) rfl
     have ke3:=hBe.cell (i:=3) (v:=.int .i64 ax) rfl
     have ke4:=hBe.cell (i:=4) (v:=.int .i64 bx) rfl
     have ke5:=hBe.cell (i:=5) (v:=.int .i64 sx) rfl
     have ke6:=hBe.cell (i:=6) (v:=.int .i64 px) rfl
     have ke7:=hBe.cell (i:=7) (v:=.slice a3e Tx.length c3e) rfl
     have ke8:=hBe.cell (i:=8) (v:=.slice a4e Qx.length c4e) rfl
     have ke9:=hBe.cell (i:=9) (v:=.int .i64 nx) rfl
     have kf0:=hBf.cell (i:=0) (v:=.int .i64 kx) rfl
     have kf1:=hBf.cell (i:=1) (v:=.slice a1f Gx.length c1f) rfl
     have kf2:=hBf.cell (i:=2) (v:=.slice a2f Ox.length c2f) rfl
     have kf3:=hBf.cell (i:=3) (v:=.int .i64 ax) rfl
     have kf4:=hBf.cell (i:=4) (v:=.int .i64 bx) rfl
     have kf5:=hBf.cell (i:=5) (v:=.int .i64 sx) rfl
     have kf6:=hBf.cell (i:=6) (v:=.int .i64 px) rfl
     have kf7:=hBf.cell (i:=7) (v:=.slice a3f Tx.length c3f) rfl
     have kf8:=hBf.cell (i:=8) (v:=.slice a4f Qx.length c4f) rfl
     have kf9:=hBf.cell (i:=9) (v:=.int .i64 nx) rfl
     go_wp2_with fail
     clear ke0 ke1 ke2 ke3 ke4 ke5 ke6 ke7 ke8 ke9 kf0 kf1 kf2 kf3 kf4 kf5 kf6 kf7 kf8 kf9
     refine (eq_same _ _ _ _ _ _ _ _ _ _ _ _ _ _ _ _ _ _ _ hIe hIf).mono ?_
     rintro e w9 ⟨rfl,hE⟩
     replace hP:=hP.ext hE
     replace hBc:=hBc.ext hE
     replace hIc:=hIc.ext hE
     replace hBd:=hBd.ext hE
     replace hId:=hId.ext hE
     replace hBH:=hBH.ext hE
     replace hIH:=hIH.ext hE
     replace hBe:=hBe.ext hE
     replace hIe:=hIe.ext hE
     replace hBf:=hBf.ext hE
     replace hIf:=hIf.ext hE
     clear hE
     have kf0:=hBf.cell (i:=0) (v:=.int .i64 kx) rfl
     have kf1:=hBf.cell (i:=1) (v:=.slice a1f Gx.length c1f) rfl
     have kf2:=hBf.cell (i:=2) (v:=.slice a2f Ox.length c2f) rfl
     have kf3:=hBf.cell (i:=3) (v:=.int .i64 ax) rfl
     have kf4:=hBf.cell (i:=4) (v:=.int .i64 bx) rfl
     have kf5:=hBf.cell (i:=5) (v:=.int .i64 sx) rfl
     have kf6:=hBf.cell (i:=6) (v:=.int .i64 px) rfl
     have kf7:=hBf.cell (i:=7) (v:=.slice a3f Tx.length c3f) rfl
     have kf8:=hBf.cell (i:=8) (v:=.slice a4f Qx.length c4f) rfl
     have kf9:=hBf.cell (i:=9) (v:=.int .i64 nx) rfl
     go_wp2_with fail
     clear kf0 kf1 kf2 kf3 kf4 kf5 kf6 kf7 kf8 kf9
     refine (ck_yes (hMx.2.2 rfl) _ _ _ _ _ hIf).mono ?_
     rintro e w9 ⟨rfl,hE⟩
     replace hP:=hP.ext hE
     replace hBc:=hBc.ext hE
     replace hIc:=hIc.ext hE
     replace hBd:=hBd.ext hE
     replace hId:=hId.ext hE
     replace hBH:=hBH.ext hE
     replace hIH:=hIH.ext hE
     replace hBe:=hBe.ext hE
     replace hIe:=hIe.ext hE
     replace hBf:=hBf.ext hE
     replace hIf:=hIf.ext hE
     clear hE
     go_wp2_with fail
     go_meet
     exact⟨rfl,hP⟩
 case rest =>
 as_aux_lemma =>
 clear hP hE hBc hIc hBd hId hBH hIH hBe hIe hBf hIf
 obtain⟨rfl,hP⟩:=hcut
 go_wp2_with fail
 clear hMu hMx
 refine (DrawCheckClaim_any _ _ _ hP.2).mono ?_
 rintro e w1 ⟨kz,a1z,n1z,c1z,a2z,n2z,c2z,az,bz,sz,pz,a3z,n3z,c3z,a4z,n4z,c4z,nz,Gz,Oz,Tz,Qz,rfl,i1,i2,i3,i4,hE⟩
 replace hP:=hP.ext hE
 clear hE
 have hK:Ints4 w1 (.slice a1z n1z c1z) (.slice a2z n2z c2z) (.slice a3z n3z c3z) (.slice a4z n4z c4z) Gz Oz Tz Qz:=⟨i1.ints,i2.ints,i3.ints,i4.ints⟩
 have e3:n3z=Tz.length:=by obtain⟨_,_,q,-⟩:=i3.shape;injection q
 replace e3:=Lib.hid e3
 clear i1 i2 i3 i4
 have hBz:=Blk.new w1 38 #[.int .i64 kz,.slice a1z n1z c1z,.slice a2z n2z c2z,.int .i64 az,.int .i64 bz,.int .i64 sz,.int .i64 pz,.slice a3z n3z c3z,.slice a4z n4z c4z,.int .i64 nz]
 have hIz:=(hK).ext ((Ext.refl w1).alloc (.cells #[.int .i64 kz,.slice a1z n1z c1z,.slice a2z n2z c2z,.int .i64 az,.int .i64 bz,.int .i64 sz,.int .i64 pz,.slice a3z n3z c3z,.slice a4z n4z c4z,.int .i64 nz] 38))
 have eN:=(Ext.refl w1).alloc (.cells #[.int .i64 kz,.slice a1z n1z c1z,.slice a2z n2z c2z,.int .i64 az,.int .i64 bz,.int .i64 sz,.int .i64 pz,.slice a3z n3z c3z,.slice a4z n4z c4z,.int .i64 nz] 38)
 obtain⟨T1,hT1⟩:∃x,x=w1.alloc (.cells #[.int .i64 kz,.slice a1z n1z c1z,.slice a2z n2z c2z,.int .i64 az,.int .i64 bz,.int .i64 sz,.int .i64 pz,.slice a3z n3z c3z,.slice a4z n4z c4z,.int .i64 nz] 38):=⟨_,rfl⟩
 rw[←hT1] at hBz hIz eN
 replace hP:=hP.ext eN
 clear eN
 clear hK
 have Hac:=Lib.hid (fun q=>ac_all (k:=kz) (g:=Gz) (o:=Oz) (a:=az) (b:=bz) (s:=sz) (p:=pz) (t:=Tz) (q:=Qz) (n:=nz) q)
 have c1:=fun W h=>CheckClaim_any kz az bz sz pz nz Gz Oz Tz Qz (.slice a1z n1z c1z) (.slice a2z n2z c2z) (.slice a3z n3z c3z) (.slice a4z n4z c4z) W h
 have c2:=fun W h=>sCheckClaim_any kz az bz sz pz nz Gz Oz Tz Qz (.slice a1z n1z c1z) (.slice a2z n2z c2z) (.slice a3z n3z c3z) (.slice a4z n4z c4z) W h
 obtain⟨B,hBd⟩:∃x,x=ccF kz Gz Oz az bz sz pz Tz Qz nz:=⟨_,rfl⟩
 rw[←hBd] at c1 c2 Hac
 clear hBd
 unfold CV at c1 c2
 have kz0:=hBz.cell (i:=0) (v:=.int .i64 kz) rfl
 have kz1:=hBz.cell (i:=1) (v:=.slice a1z n1z c1z) rfl
 have kz2:=hBz.cell (i:=2) (v:=.slice a2z n2z c2z) rfl
 have kz3:=hBz.cell (i:=3) (v:=.int .i64 az) rfl
 have kz4:=hBz.cell (i:=4) (v:=.int .i64 bz) rfl
 have kz5:=hBz.cell (i:=5) (v:=.int .i64 sz) rfl
 have kz6:=hBz.cell (i:=6) (v:=.int .i64 pz) rfl
 have kz7:=hBz.cell (i:=7) (v:=.slice a3z n3z c3z) rfl
 have kz8:=hBz.cell (i:=8) (v:=.slice a4z n4z c4z) rfl
 have kz9:=hBz.cell (i:=9) (v:=.int .i64 nz) rfl
 rw[hT1] at kz0 kz1 kz2 kz3 kz4 kz5 kz6 kz7 kz8 kz9
 have HT1:=Lib.hid hT1
 clear hT1
 go_wp2_with fail
 rw[←HT1.out]
 clear HT1
 clear kz0 kz1 kz2 kz3 kz4 kz5 kz6 kz7 kz8 kz9
 refine (c1 _ hIz).mono ?_
 rintro e w2 ⟨rfl,hE⟩
 replace hP:=hP.ext hE
 replace hBz:=hBz.ext hE
 replace hIz:=hIz.ext hE
 clear hE
 have kz0:=hBz.cell (i:=0) (v:=.int .i64 kz) rfl
 have kz1:=hBz.cell (i:=1) (v:=.slice a1z n1z c1z) rfl
 have kz2:=hBz.cell (i:=2) (v:=.slice a2z n2z c2z) rfl
 have kz3:=hBz.cell (i:=3) (v:=.int .i64 az) rfl
 have kz4:=hBz.cell (i:=4) (v:=.int .i64 bz) rfl
 have kz5:=hBz.cell (i:=5) (v:=.int .i64 sz) rfl
 have kz6:=hBz.cell (i:=6) (v:=.int .i64 pz) rfl
 have kz7:=hBz.cell (i:=7) (v:=.slice a3z n3z c3z) rfl
 have kz8:=hBz.cell (i:=8) (v:=.slice a4z n4z c4z) rfl
 have kz9:=hBz.cell (i:=9) (v:=.int .i64 nz) rfl
 go_wp2_with fail
 clear kz0 kz1 kz2 kz3 kz4 kz5 kz6 kz7 kz8 kz9
 refine (c2 _ hIz).mono ?_
 rintro e w3 ⟨rfl,hE⟩
 replace hP:=hP.ext hE
 replace hBz:=hBz.ext hE
 replace hIz:=hIz.ext hE
 clear hE
 clear c1 c2
 go_upto_if 279 with fail
 go_cut [42] (fun _ wx=>Ext w3 wx)
 case first =>
  as_aux_lemma =>
   cases B
   · go_wp2_with fail
     go_meet
     exact Ext.refl _
   · have hH:=Hac.out rfl
     unfold AcF at hH
     clear Hac hP
     have g1:=fun W (hW:Ext w3 W)=>(hIz.ext hW).g
     have g2:=fun W (hW:Ext w3 W)=>(hIz.ext hW).o
     have g3:=fun W (hW:Ext w3 W)=>(hIz.ext hW).t
     have hE:=Ext.refl w3
     have u0:=fun U=>(hBz.ext (lat_ext w3 U)).cell (i:=0) (v:=.int .i64 kz) rfl
     have u1:=fun U=>(hBz.ext (lat_ext w3 U)).cell (i:=1) (v:=.slice a1z n1z c1z) rfl
     have u2:=fun U=>(hBz.ext (lat_ext w3 U)).cell (i:=2) (v:=.slice a2z n2z c2z) rfl
     have u3:=fun U=>(hBz.ext (lat_ext w3 U)).cell (i:=3) (v:=.int .i64 az) rfl
     have u4:=fun U=>(hBz.ext (lat_ext w3 U)).cell (i:=4) (v:=.int .i64 bz) rfl
     have u5:=fun U=>(hBz.ext (lat_ext w3 U)).cell (i:=5) (v:=.int .i64 sz) rfl
     have u6:=fun U=>(hBz.ext (lat_ext w3 U)).cell (i:=6) (v:=.int .i64 pz) rfl
     have u7:=fun U=>(hBz.ext (lat_ext w3 U)).cell (i:=7) (v:=.slice a3z n3z c3z) rfl
     have u8:=fun U=>(hBz.ext (lat_ext w3 U)).cell (i:=8) (v:=.slice a4z n4z c4z) rfl
     have u9:=fun U=>(hBz.ext (lat_ext w3 U)).cell (i:=9) (v:=.int .i64 nz) rfl
     rcases hH with ⟨rfl,hH⟩ | ⟨rfl,hH⟩ | ⟨rfl,hH⟩ | ⟨rfl,hH⟩ | ⟨rfl,hH⟩ | ⟨rfl,hH⟩ | ⟨rfl,hH⟩
     · skip
       as_aux_lemma =>
        have k0:=hBz.cell (i:=0) (v:=.int .i64 1) rfl
        have k1:=hBz.cell (i:=1) (v:=.slice a1z n1z c1z) rfl
        have k2:=hBz.cell (i:=2) (v:=.slice a2z n2z c2z) rfl
        have k3:=hBz.cell (i:=3) (v:=.int .i64 az) rfl
        have k4:=hBz.cell (i:=4) (v:=.int .i64 bz) rfl
        have k5:=hBz.cell (i:=5) (v:=.int .i64 sz) rfl
        have k6:=hBz.cell (i:=6) (v:=.int .i64 pz) rfl
        have k7:=hBz.cell (i:=7) (v:=.slice a3z n3z c3z) rfl
        have k8:=hBz.cell (i:=8) (v:=.slice a4z n4z c4z) rfl
        have k9:=hBz.cell (i:=9) (v:=.int .i64 nz) rfl
        have d1:=fun W hW=>sCountSet_any _ Gz sz W (g1 W hW)
        have d2:=fun W hW=>sKneserBound_any _ Gz az bz W (g1 W hW)
        obtain⟨x,hx⟩:∃x,x=csF Gz sz:=⟨_,rfl⟩
        obtain⟨y,hy⟩:∃y,y=knI Gz az bz:=⟨_,rfl⟩
        rw[←hx] at d1 hH
        rw[←hy] at d2 hH
        clear hx hy
        go_wp2_with fail
        (refine wp_region_lat (w3) (by kernel_rfl) (by kernel_rfl) hE ?_);(repeat (go_big_quiet_step (first | (go_at_call 36;first | (with_reducible exact Calls.lat (d1 _ (lat_ext _ _)))) | (go_at_call 37;first | (with_reducible exact Calls.lat (d2 _ (lat_ext _ _)))))));(refine wpQuiet_nil ?_);(intro W hE');(replace hE:=lat_of hE');(clear hE')
        go_wp2_with fail
        go_meet
        exact hE
     · skip
       as_aux_lemma =>
        have k0:=hBz.cell (i:=0) (v:=.int .i64 2) rfl
        have k1:=hBz.cell (i:=1) (v:=.slice a1z n1z c1z) rfl
        have k2:=hBz.cell (i:=2) (v:=.slice a2z n2z c2z) rfl
        have k3:=hBz.cell (i:=3) (v:=.int .i64 az) rfl
        have k4:=hBz.cell (i:=4) (v:=.int .i64 bz) rfl
        have k5:=hBz.cell (i:=5) (v:=.int .i64 sz) rfl
        have k6:=hBz.cell (i:=6) (v:=.int .i64 pz) rfl
        have k7:=hBz.cell (i:=7) (v:=.slice a3z n3z c3z) rfl
        have k8:=hBz.cell (i:=8) (v:=.slice a4z n4z c4z) rfl
        have k9:=hBz.cell (i:=9) (v:=.int .i64 nz) rfl
        go_wp2_with fail
        refine (sIsZeroFree_any _ _ Gz Tz _ hIz.g hIz.t).mono ?_
        rw[hH]
        rintro e w4 ⟨rfl,hE4⟩
        go_wp2_with fail
        go_meet
        exact hE4
     · skip
       as_aux_lemma =>
        have k0:=hBz.cell (i:=0) (v:=.int .i64 3) rfl
        have k1:=hBz.cell (i:=1) (v:=.slice a1z n1z c1z) rfl
        have k2:=hBz.cell (i:=2) (v:=.slice a2z n2z c2z) rfl
        have k3:=hBz.cell (i:=3) (v:=.int .i64 az) rfl
        have k4:=hBz.cell (i:=4) (v:=.int .i64 bz) rfl
        have k5:=hBz.cell (i:=5) (v:=.int .i64 sz) rfl
        have k6:=hBz.cell (i:=6) (v:=.int .i64 pz) rfl
        have k7:=hBz.cell (i:=7) (v:=.slice a3z n3z c3z) rfl
        have k8:=hBz.cell (i:=8) (v:=.slice a4z n4z c4z) rfl
        have k9:=hBz.cell (i:=9) (v:=.int .i64 nz) rfl
        have d1:=fun W hW=>sOrderOf_any _ Gz W (g1 W hW)
        obtain⟨x,hx⟩:∃x,x=ordF Gz:=⟨_,rfl⟩
        rw[←hx] at d1 hH
        rw[←e3.out] at hH
        clear hx
        go_wp2_with fail
        (refine wp_region_lat (w3) (by kernel_rfl) (by kernel_rfl) hE ?_);(repeat (go_big_quiet_step (first | (go_at_call 39;first | (with_reducible exact Calls.lat (d1 _ (lat_ext _ _)))))));(refine wpQuiet_nil ?_);(intro W hE');(replace hE:=lat_of hE');(clear hE')
        go_wp2_with fail
        go_meet
        exact hE
     · skip
       as_aux_lemma =>
        have k0:=hBz.cell (i:=0) (v:=.int .i64 4) rfl
        have k1:=hBz.cell (i:=1) (v:=.slice a1z n1z c1z) rfl
        have k2:=hBz.cell (i:=2) (v:=.slice a2z n2z c2z) rfl
        have k3:=hBz.cell (i:=3) (v:=.int .i64 az) rfl
        have k4:=hBz.cell (i:=4) (v:=.int .i64 bz) rfl
        have k5:=hBz.cell (i:=5) (v:=.int .i64 sz) rfl
        have k6:=hBz.cell (i:=6) (v:=.int .i64 pz) rfl
        have k7:=hBz.cell (i:=7) (v:=.slice a3z n3z c3z) rfl
        have k8:=hBz.cell (i:=8) (v:=.slice a4z n4z c4z) rfl
        have k9:=hBz.cell (i:=9) (v:=.int .i64 nz) rfl
        go_wp2_with fail
        refine (sIsTiling_any _ Gz az bz _ hIz.g).mono ?_
        rw[hH]
        rintro e w4 ⟨rfl,hE4⟩
        go_wp2_with fail
        go_meet
        exact hE4
     · skip
       as_aux_lemma =>
        have k0:=hBz.cell (i:=0) (v:=.int .i64 5) rfl
        have k1:=hBz.cell (i:=1) (v:=.slice a1z n1z c1z) rfl
        have k2:=hBz.cell (i:=2) (v:=.slice a2z n2z c2z) rfl
        have k3:=hBz.cell (i:=3) (v:=.int .i64 az) rfl
        have k4:=hBz.cell (i:=4) (v:=.int .i64 bz) rfl
        have k5:=hBz.cell (i:=5) (v:=.int .i64 sz) rfl
        have k6:=hBz.cell (i:=6) (v:=.int .i64 pz) rfl
        have k7:=hBz.cell (i:=7) (v:=.slice a3z n3z c3z) rfl
        have k8:=hBz.cell (i:=8) (v:=.slice a4z n4z c4z) rfl
        have k9:=hBz.cell (i:=9) (v:=.int .i64 nz) rfl
        have d1:=fun W hW=>sSumOfSets_any _ Gz az az W (g1 W hW)
        have d2:=fun W hW=>sSumOfSets_any _ Oz bz bz W (g2 W hW)
        have d3:=fun W hW=>sCountSet_any _ Gz (ssF Gz az az) W (g1 W hW)
        have d4:=fun W hW=>sCountSet_any _ Oz (ssF Oz bz bz) W (g2 W hW)
        obtain⟨x,hx⟩:∃x,x=ssF Gz az az:=⟨_,rfl⟩
        obtain⟨y,hy⟩:∃y,y=ssF Oz bz bz:=⟨_,rfl⟩
        rw[←hx] at d1 d3 hH
        rw[←hy] at d2 d4 hH
        clear hx hy
        rw[hH] at d3
        obtain⟨z,hz⟩:∃z,z=csF Oz y:=⟨_,rfl⟩
        rw[←hz] at d3 d4
        clear hz hH
        go_wp2_with fail
        (refine wp_region_lat (w3) (by kernel_rfl) (by kernel_rfl) hE ?_);(repeat (go_big_quiet_step (first | (go_at_call 41;first | (with_reducible exact Calls.lat (d1 _ (lat_ext _ _))) | (with_reducible exact Calls.lat (d2 _ (lat_ext _ _)))) | (go_at_call 36;first | (with_reducible exact Calls.lat (d3 _ (lat_ext _ _))) | (with_reducible exact Calls.lat (d4 _ (lat_ext _ _)))))));(refine wpQuiet_nil ?_);(intro W hE');(replace hE:=lat_of hE');(clear hE')
        go_wp2_with fail
        go_meet
        exact hE
     · skip
       as_aux_lemma =>
        have k0:=hBz.cell (i:=0) (v:=.int .i64 6) rfl
        have k1:=hBz.cell (i:=1) (v:=.slice a1z n1z c1z) rfl
        have k2:=hBz.cell (i:=2) (v:=.slice a2z n2z c2z) rfl
        have k3:=hBz.cell (i:=3) (v:=.int .i64 az) rfl
        have k4:=hBz.cell (i:=4) (v:=.int .i64 bz) rfl
        have k5:=hBz.cell (i:=5) (v:=.int .i64 sz) rfl
        have k6:=hBz.cell (i:=6) (v:=.int .i64 pz) rfl
        have k7:=hBz.cell (i:=7) (v:=.slice a3z n3z c3z) rfl
        have k8:=hBz.cell (i:=8) (v:=.slice a4z n4z c4z) rfl
        have k9:=hBz.cell (i:=9) (v:=.int .i64 nz) rfl
        go_wp2_with fail
        refine (sSchurTriple_any _ Tz _ hIz.t).mono ?_
        rw[hH]
        rintro e w4 ⟨⟨tv,rfl⟩,hE4⟩
        go_wp2_with fail
        go_meet
        exact hE4
     · skip
       as_aux_lemma =>
        have k0:=hBz.cell (i:=0) (v:=.int .i64 7) rfl
        have k1:=hBz.cell (i:=1) (v:=.slice a1z n1z c1z) rfl
        have k2:=hBz.cell (i:=2) (v:=.slice a2z n2z c2z) rfl
        have k3:=hBz.cell (i:=3) (v:=.int .i64 az) rfl
        have k4:=hBz.cell (i:=4) (v:=.int .i64 bz) rfl
        have k5:=hBz.cell (i:=5) (v:=.int .i64 sz) rfl
        have k6:=hBz.cell (i:=6) (v:=.int .i64 pz) rfl
        have k7:=hBz.cell (i:=7) (v:=.slice a3z n3z c3z) rfl
        have k8:=hBz.cell (i:=8) (v:=.slice a4z n4z c4z) rfl
        have k9:=hBz.cell (i:=9) (v:=.int .i64 nz) rfl
        have d1:=fun W hW=>sCountSet_any _ Gz az W (g1 W hW)
        have d2:=fun W hW=>sCountSet_any _ Gz pz W (g1 W hW)
        have b1:=csF_rng Gz az
        have b2:=csF_rng Gz pz
        obtain⟨x,hx⟩:∃x,x=csF Gz az:=⟨_,rfl⟩
        obtain⟨y,hy⟩:∃y,y=csF Gz pz:=⟨_,rfl⟩
        rw[←hx] at d1 hH b1
        rw[←hy] at d2 hH b2
        clear hx hy
        have m1:IntKind.i64.wrap (3*x)=3*x:=IntWalk.i64_in _ (by omega)
        have m2:IntKind.i64.wrap (2*y)=2*y:=IntWalk.i64_in _ (by omega)
        have m3:2*y<3*x:=hH
        clear b1 b2 hH
        have l1:=fun U (hU:Ext w3 U)=>(hBz.ext hU).cell (i:=1) (v:=.slice a1z n1z c1z) rfl
        have l4:=fun U (hU:Ext w3 U)=>(hBz.ext hU).cell (i:=3) (v:=.int .i64 az) rfl
        have l6:=fun U (hU:Ext w3 U)=>(hBz.ext hU).cell (i:=6) (v:=.int .i64 pz) rfl
        have hD:=(Ext.refl w3).drew
        go_upto_region 47 with fail
        refine wp_region_held_drew (S:=(fun W=>Ext w3 W∧W.cell? ⟨w1.heap.size,1,none⟩=some (.slice a1z n1z c1z)∧W.cell? ⟨w1.heap.size,3,none⟩=some (.int .i64 az)∧W.cell? ⟨w1.heap.size,6,none⟩=some (.int .i64 pz))) (by kernel_rfl) (by exact⟨hD,l1 _ hD,l4 _ hD,l6 _ hD⟩) (fun hHeld=>?_)
        (refine takeOn (i:=0) (v:=?_) (by kernel_rfl) (by rfl) (by rfl) (by kernel_rfl) (by kernel_rfl) (by intro _ _ _ h;exact h) ?_ (by assumption) ?_);(rotate_left 1);(focus ((intro w hSw);(try dsimp only at hSw);go_simp;(try with_reducible rfl)));(try simp only[Act.put,List.setIfInBounds_toArray,List.set_cons_zero,List.set_cons_succ,List.getElem_toArray,List.getElem_cons_zero,List.getElem_cons_succ])
        (refine takeOn (i:=1) (v:=?_) (by kernel_rfl) (by rfl) (by rfl) (by kernel_rfl) (by kernel_rfl) (by intro _ _ _ h;exact h) ?_ (by assumption) ?_);(rotate_left 1);(focus ((intro w hSw);(try dsimp only at hSw);go_simp;(try with_reducible rfl)));(try simp only[Act.put,List.setIfInBounds_toArray,List.set_cons_zero,List.set_cons_succ,List.getElem_toArray,List.getElem_cons_zero,List.getElem_cons_succ])
        (refine takeOn (i:=2) (v:=?_) (by kernel_rfl) (by rfl) (by rfl) (by kernel_rfl) (by kernel_rfl) (by intro _ _ _ h;exact h) ?_ (by assumption) ?_);(rotate_left 1);(focus ((intro w hSw);(try dsimp only at hSw);go_simp;(try with_reducible rfl)));(try simp only[Act.put,List.setIfInBounds_toArray,List.set_cons_zero,List.set_cons_succ,List.getElem_toArray,List.getElem_cons_zero,List.getElem_cons_succ])
        (refine takeOn (i:=3) (v:=?_) (by kernel_rfl) (by rfl) (by rfl) (by kernel_rfl) (by kernel_rfl) (by intro _ _ _ h;exact h) ?_ (by assumption) ?_);(rotate_left 1);(focus ((intro w hSw);(try dsimp only at hSw);go_simp;(try with_reducible rfl)));(try simp only[Act.put,List.setIfInBounds_toArray,List.set_cons_zero,List.set_cons_succ,List.getElem_toArray,List.getElem_cons_zero,List.getElem_cons_succ])
        (refine takeOn (i:=6) (v:=?_) (by kernel_rfl) (by rfl) (by rfl) (by kernel_rfl) (by kernel_rfl) (by intro _ _ _ h;exact h) ?_ (by assumption) ?_);(rotate_left 1);(focus ((intro w hSw);(try dsimp only at hSw);go_simp;(try with_reducible rfl)));(try simp only[Act.put,List.setIfInBounds_toArray,List.set_cons_zero,List.set_cons_succ,List.getElem_toArray,List.getElem_cons_zero,List.getElem_cons_succ])
        (refine takeOn (i:=7) (v:=?_) (by kernel_rfl) (by rfl) (by rfl) (by kernel_rfl) (by kernel_rfl) (by intro _ _ _ h;exact h) ?_ (by assumption) ?_);(rotate_left 1);(focus ((intro w hSw);(try dsimp only at hSw);go_simp;(try with_reducible rfl)));(try simp only[Act.put,List.setIfInBounds_toArray,List.set_cons_zero,List.set_cons_succ,List.getElem_toArray,List.getElem_cons_zero,List.getElem_cons_succ])
        (refine takeOn (i:=8) (v:=?_) (by kernel_rfl) (by rfl) (by rfl) (by kernel_rfl) (by kernel_rfl) (by intro _ _ _ h;exact h) ?_ (by assumption) ?_);(rotate_left 1);(focus ((intro w hSw);(try dsimp only at hSw);go_simp;(try with_reducible rfl)));(try simp only[Act.put,List.setIfInBounds_toArray,List.set_cons_zero,List.set_cons_succ,List.getElem_toArray,List.getElem_cons_zero,List.getElem_cons_succ])
        (refine takeOn (i:=9) (v:=?_) (by kernel_rfl) (by rfl) (by rfl) (by kernel_rfl) (by kernel_rfl) (by intro _ _ _ h;exact h) ?_ (by assumption) ?_);(rotate_left 1);(focus ((intro w hSw);(try dsimp only at hSw);go_simp;(try with_reducible rfl)));(try simp only[Act.put,List.setIfInBounds_toArray,List.set_cons_zero,List.set_cons_succ,List.getElem_toArray,List.getElem_cons_zero,List.getElem_cons_succ])
        refine takeOne (i:=4) (by kernel_rfl) (by rfl) (by rfl) (fun K hK=>?_)
        go_simp;(go_at_call 36;(with_reducible refine Calls.mono (d1 _ (by repeat (first | assumption | exact Ext.refl _ | (apply And.left;assumption) | apply Ext.drew | apply Ext.alloc))) ?_);rintro e wH ⟨rfl,hX⟩;have hH:=Ext.trans (a:=w3) (by repeat (first | assumption | exact Ext.refl _ | (apply And.left;assumption) | apply Ext.drew | apply Ext.alloc)) hX;(try (clear hX)))
        refine hK.out _ _ (by exact⟨hH,l1 _ hH,l4 _ hH,l6 _ hH⟩) (fun hHeld=>?_)
        clear hK K
        (try simp only[Act.put,List.setIfInBounds_toArray,List.set_cons_zero,List.set_cons_succ,List.getElem_toArray,List.getElem_cons_zero,List.getElem_cons_succ])
        (refine takeOn (i:=5) (v:=?_) (by kernel_rfl) (by rfl) (by rfl) (by kernel_rfl) (by kernel_rfl) (by intro _ _ _ h;exact h) ?_ (by assumption) ?_);(rotate_left 1);(focus ((intro w hSw);(try dsimp only at hSw);go_simp;(first | done | with_reducible rfl | (rw[if_neg];(try simp only[ByteArray.size_append,ByteArray.size_mk,List.size_toArray,List.length_cons,List.length_nil]);omega) | trace_state)));(try simp only[Act.put,List.setIfInBounds_toArray,List.set_cons_zero,List.set_cons_succ,List.getElem_toArray,List.getElem_cons_zero,List.getElem_cons_succ])
        refine takeOne (i:=10) (by kernel_rfl) (by rfl) (by rfl) (fun K hK=>?_)
        go_simp;(go_at_call 36;(with_reducible refine Calls.mono (d2 _ (by repeat (first | assumption | exact Ext.refl _ | (apply And.left;assumption) | apply Ext.drew | apply Ext.alloc))) ?_);rintro e wH ⟨rfl,hX⟩;have hH:=Ext.trans (a:=w3) (by repeat (first | assumption | exact Ext.refl _ | (apply And.left;assumption) | apply Ext.drew | apply Ext.alloc)) hX;(try (clear hX)))
        refine hK.out _ _ (by exact⟨hH,l1 _ hH,l4 _ hH,l6 _ hH⟩) (fun hHeld=>?_)
        clear hK K
        (try simp only[Act.put,List.setIfInBounds_toArray,List.set_cons_zero,List.set_cons_succ,List.getElem_toArray,List.getElem_cons_zero,List.getElem_cons_succ])
        (refine takeOn (i:=11) (v:=?_) (by kernel_rfl) (by rfl) (by rfl) (by kernel_rfl) (by kernel_rfl) (by intro _ _ _ h;exact h) ?_ (by assumption) ?_);(rotate_left 1);(focus ((intro w hSw);(try dsimp only at hSw);go_simp;(first | done | with_reducible rfl | (rw[if_neg];(try simp only[ByteArray.size_append,ByteArray.size_mk,List.size_toArray,List.length_cons,List.length_nil]);omega) | trace_state)));(try simp only[Act.put,List.setIfInBounds_toArray,List.set_cons_zero,List.set_cons_succ,List.getElem_toArray,List.getElem_cons_zero,List.getElem_cons_succ])
        (refine takeOn (i:=12) (v:=?_) (by kernel_rfl) (by rfl) (by rfl) (by kernel_rfl) (by kernel_rfl) (by intro _ _ _ h;exact h) ?_ (by assumption) ?_);(rotate_left 1);(focus ((intro w hSw);(try dsimp only at hSw);go_simp;(first | done | with_reducible rfl | (rw[if_neg];(try simp only[ByteArray.size_append,ByteArray.size_mk,List.size_toArray,List.length_cons,List.length_nil]);omega) | trace_state)));(try simp only[Act.put,List.setIfInBounds_toArray,List.set_cons_zero,List.set_cons_succ,List.getElem_toArray,List.getElem_cons_zero,List.getElem_cons_succ])
        (refine takeOn (i:=13) (v:=?_) (by kernel_rfl) (by rfl) (by rfl) (by kernel_rfl) (by kernel_rfl) (by intro _ _ _ h;exact h) ?_ (by assumption) ?_);(rotate_left 1);(focus ((intro w hSw);(try dsimp only at hSw);go_simp;(try with_reducible rfl)));(try simp only[Act.put,List.setIfInBounds_toArray,List.set_cons_zero,List.set_cons_succ,List.getElem_toArray,List.getElem_cons_zero,List.getElem_cons_succ])
        refine wpAnyH_done (by kernel_rfl) ?_ _
        go_wp2_with fail
        go_meet
        exact hH
 case rest =>
 as_aux_lemma =>
 have hE:=hcut
 clear hcut Hac
 replace hP:=hP.ext hE
 replace hBz:=hBz.ext hE
 replace hIz:=hIz.ext hE
 clear hE
 go_wp2_with fail
 refine (DrawEqualClaims_any _ _ _ hP.2).mono ?_
 rintro e w4 ⟨kg,a1g,n1g,c1g,a2g,n2g,c2g,ag,bg,sg,pg,a3g,n3g,c3g,a4g,n4g,c4g,ng,Gg,Og,Tg,Qg,kh,a1h,n1h,c1h,a2h,n2h,c2h,ah,bh,sh,ph,a3h,n3h,c3h,a4h,n4h,c4h,nh,Gh,Oh,Th,Qh,rfl,i1,i2,i3,i4,j1,j2,j3,j4,hE⟩
 replace hP:=hP.ext hE
 replace hBz:=hBz.ext hE
 replace hIz:=hIz.ext hE
 clear hE
 have hKg:Ints4 w4 (.slice a1g n1g c1g) (.slice a2g n2g c2g) (.slice a3g n3g c3g) (.slice a4g n4g c4g) Gg Og Tg Qg:=⟨i1.ints,i2.ints,i3.ints,i4.ints⟩
 have hKh:Ints4 w4 (.slice a1h n1h c1h) (.slice a2h n2h c2h) (.slice a3h n3h c3h) (.slice a4h n4h c4h) Gh Oh Th Qh:=⟨j1.ints,j2.ints,j3.ints,j4.ints⟩
 clear i1 i2 i3 i4 j1 j2 j3 j4
 replace hBz:=hBz.alloc (.cells #[.int .i64 kg,.slice a1g n1g c1g,.slice a2g n2g c2g,.int .i64 ag,.int .i64 bg,.int .i64 sg,.int .i64 pg,.slice a3g n3g c3g,.slice a4g n4g c4g,.int .i64 ng] 38)
 replace hIz:=hIz.ext ((Ext.refl w4).alloc (.cells #[.int .i64 kg,.slice a1g n1g c1g,.slice a2g n2g c2g,.int .i64 ag,.int .i64 bg,.int .i64 sg,.int .i64 pg,.slice a3g n3g c3g,.slice a4g n4g c4g,.int .i64 ng] 38))
 replace hKh:=hKh.ext ((Ext.refl w4).alloc (.cells #[.int .i64 kg,.slice a1g n1g c1g,.slice a2g n2g c2g,.int .i64 ag,.int .i64 bg,.int .i64 sg,.int .i64 pg,.slice a3g n3g c3g,.slice a4g n4g c4g,.int .i64 ng] 38))
 have hBg:=Blk.new w4 38 #[.int .i64 kg,.slice a1g n1g c1g,.slice a2g n2g c2g,.int .i64 ag,.int .i64 bg,.int .i64 sg,.int .i64 pg,.slice a3g n3g c3g,.slice a4g n4g c4g,.int .i64 ng]
 have hIg:=(hKg).ext ((Ext.refl w4).alloc (.cells #[.int .i64 kg,.slice a1g n1g c1g,.slice a2g n2g c2g,.int .i64 ag,.int .i64 bg,.int .i64 sg,.int .i64 pg,.slice a3g n3g c3g,.slice a4g n4g c4g,.int .i64 ng] 38))
 have eN:=(Ext.refl w4).alloc (.cells #[.int .i64 kg,.slice a1g n1g c1g,.slice a2g n2g c2g,.int .i64 ag,.int .i64 bg,.int .i64 sg,.int .i64 pg,.slice a3g n3g c3g,.slice a4g n4g c4g,.int .i64 ng] 38)
 obtain⟨S1,hS1⟩:∃x,x=w4.alloc (.cells #[.int .i64 kg,.slice a1g n1g c1g,.slice a2g n2g c2g,.int .i64 ag,.int .i64 bg,.int .i64 sg,.int .i64 pg,.slice a3g n3g c3g,.slice a4g n4g c4g,.int .i64 ng] 38):=⟨_,rfl⟩
 rw[←hS1] at hBz hIz hBg hIg hKh eN
 replace hP:=hP.ext eN
 clear eN
 clear hKg
 replace hBz:=hBz.alloc (.cells #[.int .i64 kh,.slice a1h n1h c1h,.slice a2h n2h c2h,.int .i64 ah,.int .i64 bh,.int .i64 sh,.int .i64 ph,.slice a3h n3h c3h,.slice a4h n4h c4h,.int .i64 nh] 38)
 replace hIz:=hIz.ext ((Ext.refl S1).alloc (.cells #[.int .i64 kh,.slice a1h n1h c1h,.slice a2h n2h c2h,.int .i64 ah,.int .i64 bh,.int .i64 sh,.int .i64 ph,.slice a3h n3h c3h,.slice a4h n4h c4h,.int .i64 nh] 38))
 replace hBg:=hBg.alloc (.cells #[.int .i64 kh,.slice a1h n1h c1h,.slice a2h n2h c2h,.int .i64 ah,.int .i64 bh,.int .i64 sh,.int .i64 ph,.slice a3h n3h c3h,.slice a4h n4h c4h,.int .i64 nh] 38)
 replace hIg:=hIg.ext ((Ext.refl S1).alloc (.cells #[.int .i64 kh,.slice a1h n1h c1h,.slice a2h n2h c2h,.int .i64 ah,.int .i64 bh,.int .i64 sh,.int .i64 ph,.slice a3h n3h c3h,.slice a4h n4h c4h,.int .i64 nh] 38))
 have hBh:=Blk.new S1 38 #[.int .i64 kh,.slice a1h n1h c1h,.slice a2h n2h c2h,.int .i64 ah,.int .i64 bh,.int .i64 sh,.int .i64 ph,.slice a3h n3h c3h,.slice a4h n4h c4h,.int .i64 nh]
 have hIh:=(hKh).ext ((Ext.refl S1).alloc (.cells #[.int .i64 kh,.slice a1h n1h c1h,.slice a2h n2h c2h,.int .i64 ah,.int .i64 bh,.int .i64 sh,.int .i64 ph,.slice a3h n3h c3h,.slice a4h n4h c4h,.int .i64 nh] 38))
 have eN:=(Ext.refl S1).alloc (.cells #[.int .i64 kh,.slice a1h n1h c1h,.slice a2h n2h c2h,.int .i64 ah,.int .i64 bh,.int .i64 sh,.int .i64 ph,.slice a3h n3h c3h,.slice a4h n4h c4h,.int .i64 nh] 38)
 obtain⟨S2,hS2⟩:∃x,x=S1.alloc (.cells #[.int .i64 kh,.slice a1h n1h c1h,.slice a2h n2h c2h,.int .i64 ah,.int .i64 bh,.int .i64 sh,.int .i64 ph,.slice a3h n3h c3h,.slice a4h n4h c4h,.int .i64 nh] 38):=⟨_,rfl⟩
 rw[←hS2] at hBz hIz hBg hIg hBh hIh eN
 replace hP:=hP.ext eN
 clear eN
 clear hKh
 have sz:S1.heap.size=w4.heap.size+1:=by rw[hS1];simp
 rw[sz] at hBh
 clear sz
 have HS1:=Lib.hid hS1
 have HS2:=Lib.hid hS2
 clear hS1 hS2
 go_wp2_with fail
 rw[←HS1.out,←HS2.out]
 clear HS1 HS2
 refine (DrawClaimWord_any _ _ _ hP.2).mono ?_
 rintro e w5 ⟨xw,rfl,-,-,hE⟩
 replace hP:=hP.ext hE
 replace hBz:=hBz.ext hE
 replace hIz:=hIz.ext hE
 replace hBg:=hBg.ext hE
 replace hIg:=hIg.ext hE
 replace hBh:=hBh.ext hE
 replace hIh:=hIh.ext hE
 clear hE
 obtain⟨R,hR1,hR2⟩:=eq_pair kg ag bg sg pg ng Gg Og Tg Qg kh ah bh sh ph nh Gh Oh Th Qh
 have d1:=fun W (hW:Ext w5 W)=>FormatClaim_any kz az bz sz pz nz Gz Oz Tz Qz _ _ _ _ W (hIz.ext hW)
 have d2:=fun W (hW:Ext w5 W)=>sFormatClaim_any kz az bz sz pz nz Gz Oz Tz Qz _ _ _ _ W (hIz.ext hW)
 have d3:=fun W (hW:Ext w5 W)=>hR1 _ _ _ _ _ _ _ _ W (hIg.ext hW) (hIh.ext hW)
 have d4:=fun W (hW:Ext w5 W)=>hR2 _ _ _ _ _ _ _ _ W (hIg.ext hW) (hIh.ext hW)
 have d5:=fun W (hW:Ext w5 W)=>ClaimWord_any xw W
 have d6:=fun W (hW:Ext w5 W)=>sClaimWord_any xw W
 unfold CV at d1 d2
 obtain⟨F,hF⟩:∃F,F=fcF kz Gz Oz az bz sz pz Tz Qz nz:=⟨_,rfl⟩
 obtain⟨C,hC⟩:∃C,C=cwB xw:=⟨_,rfl⟩
 rw[←hF] at d1 d2
 rw[←hC] at d5 d6
 clear hF hC hR1 hR2
 have uz0:=fun U=>(hBz.ext (lat_ext w5 U)).cell (i:=0) (v:=.int .i64 kz) rfl
 have uz1:=fun U=>(hBz.ext (lat_ext w5 U)).cell (i:=1) (v:=.slice a1z n1z c1z) rfl
 have uz2:=fun U=>(hBz.ext (lat_ext w5 U)).cell (i:=2) (v:=.slice a2z n2z c2z) rfl
 have uz3:=fun U=>(hBz.ext (lat_ext w5 U)).cell (i:=3) (v:=.int .i64 az) rfl
 have uz4:=fun U=>(hBz.ext (lat_ext w5 U)).cell (i:=4) (v:=.int .i64 bz) rfl
 have uz5:=fun U=>(hBz.ext (lat_ext w5 U)).cell (i:=5) (v:=.int .i64 sz) rfl
 have uz6:=fun U=>(hBz.ext (lat_ext w5 U)).cell (i:=6) (v:=.int .i64 pz) rfl
 have uz7:=fun U=>(hBz.ext (lat_ext w5 U)).cell (i:=7) (v:=.slice a3z n3z c3z) rfl
 have uz8:=fun U=>(hBz.ext (lat_ext w5 U)).cell (i:=8) (v:=.slice a4z n4z c4z) rfl
 have uz9:=fun U=>(hBz.ext (lat_ext w5 U)).cell (i:=9) (v:=.int .i64 nz) rfl
 have ug0:=fun U=>(hBg.ext (lat_ext w5 U)).cell (i:=0) (v:=.int .i64 kg) rfl
 have ug1:=fun U=>(hBg.ext (lat_ext w5 U)).cell (i:=1) (v:=.slice a1g n1g c1g) rfl
 have ug2:=fun U=>(hBg.ext (lat_ext w5 U)).cell (i:=2) (v:=.slice a2g n2g c2g) rfl
 have ug3:=fun U=>(hBg.ext (lat_ext w5 U)).cell (i:=3) (v:=.int .i64 ag) rfl
 have ug4:=fun U=>(hBg.ext (lat_ext w5 U)).cell (i:=4) (v:=.int .i64 bg) rfl
 have ug5:=fun U=>(hBg.ext (lat_ext w5 U)).cell (i:=5) (v:=.int .i64 sg) rfl
 have ug6:=fun U=>(hBg.ext (lat_ext w5 U)).cell (i:=6) (v:=.int .i64 pg) rfl
 have ug7:=fun U=>(hBg.ext (lat_ext w5 U)).cell (i:=7) (v:=.slice a3g n3g c3g) rfl
 have ug8:=fun U=>(hBg.ext (lat_ext w5 U)).cell (i:=8) (v:=.slice a4g n4g c4g) rfl
 have ug9:=fun U=>(hBg.ext (lat_ext w5 U)).cell (i:=9) (v:=.int .i64 ng) rfl
 have uh0:=fun U=>(hBh.ext (lat_ext w5 U)).cell (i:=0) (v:=.int .i64 kh) rfl
 have uh1:=fun U=>(hBh.ext (lat_ext w5 U)).cell (i:=1) (v:=.slice a1h n1h c1h) rfl
 have uh2:=fun U=>(hBh.ext (lat_ext w5 U)).cell (i:=2) (v:=.slice a2h n2h c2h) rfl
 have uh3:=fun U=>(hBh.ext (lat_ext w5 U)).cell (i:=3) (v:=.int .i64 ah) rfl
 have uh4:=fun U=>(hBh.ext (lat_ext w5 U)).cell (i:=4) (v:=.int .i64 bh) rfl
 have uh5:=fun U=>(hBh.ext (lat_ext w5 U)).cell (i:=5) (v:=.int .i64 sh) rfl
 have uh6:=fun U=>(hBh.ext (lat_ext w5 U)).cell (i:=6) (v:=.int .i64 ph) rfl
 have uh7:=fun U=>(hBh.ext (lat_ext w5 U)).cell (i:=7) (v:=.slice a3h n3h c3h) rfl
 have uh8:=fun U=>(hBh.ext (lat_ext w5 U)).cell (i:=8) (v:=.slice a4h n4h c4h) rfl
 have uh9:=fun U=>(hBh.ext (lat_ext w5 U)).cell (i:=9) (v:=.int .i64 nh) rfl
 have hE:=Ext.refl w5
 go_wp2_with fail
 (refine wp_region_lat (w5) (by kernel_rfl) (by kernel_rfl) hE ?_);(repeat (go_big_quiet_step (first | (go_at_call 45;first | (with_reducible exact Calls.lat (d1 _ (lat_ext _ _)))) | (go_at_call 46;first | (with_reducible exact Calls.lat (d2 _ (lat_ext _ _)))) | (go_at_call 47;first | (with_reducible exact Calls.lat (d3 _ (lat_ext _ _)))) | (go_at_call 19;first | (with_reducible exact Calls.lat (d4 _ (lat_ext _ _)))) | (go_at_call 48;first | (with_reducible exact Calls.lat (d5 _ (lat_ext _ _)))) | (go_at_call 49;first | (with_reducible exact Calls.lat (d6 _ (lat_ext _ _)))))));(refine wpQuiet_nil ?_);(intro W hE');(replace hE:=lat_of hE');(clear hE')
 go_wp2_with fail
 go_ret
 exact⟨rfl,(hP.ext hE).1⟩
end Go.Zz
