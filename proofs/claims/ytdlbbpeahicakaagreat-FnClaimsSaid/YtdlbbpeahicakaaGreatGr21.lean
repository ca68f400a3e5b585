/- EqualClaims. -/
import Derived.Test.YtdlbbpeahicakaaGreatGr20
import Derived.Test.YtdlbbpeahicakaaGreatGr13
import Derived.Test.YtdlbbpeahicakaaGreatGr7
import Derived.Deep.RegionHeld3
import Derived.Test.YtdlbbpeahicakaaGreatGr3
import Derived.Test.YtdlbbpeahicakaaGreatGr5
namespace Go.Zz
open Go.RowKit Go.Proofs
set_option maxHeartbeats 9000000
set_option maxRecDepth 100000
theorem EqualClaims_any(c d:ClV)(v1 v2 v3 v4 u1 u2 u3 u4:Value)(w:World)(h:IsC w c v1 v2 v3 v4)(k:IsC w d u1 u2 u3 u4) :
 Calls Tryz.prog 47 #[.agg #[.int .i64 c.k,v1,v2,.int .i64 c.a,.int .i64 c.b,.int .i64 c.s,.int .i64 c.p,v3,v4,.int .i64 c.n],.agg #[.int .i64 d.k,u1,u2,.int .i64 d.a,.int .i64 d.b,.int .i64 d.s,.int .i64 d.p,u3,u4,.int .i64 d.n]] w
  fun e w'=>e=.returned (.bool (eqC c d))∧Ext w w':=by
 obtain⟨wb,hwb⟩:∃wb,wb=(w.alloc (.cells #[.int .i64 c.k,v1,v2,.int .i64 c.a,.int .i64 c.b,.int .i64 c.s,.int .i64 c.p,v3,v4,.int .i64 c.n] 38)).alloc (.cells #[.int .i64 d.k,u1,u2,.int .i64 d.a,.int .i64 d.b,.int .i64 d.s,.int .i64 d.p,u3,u4,.int .i64 d.n] 38):=⟨_,rfl⟩
 have e0:Ext w wb:=by rw[hwb];exact ((Ext.refl _).alloc _).alloc _
 have B0:Blk wb w.heap.size 38 #[.int .i64 c.k,v1,v2,.int .i64 c.a,.int .i64 c.b,.int .i64 c.s,.int .i64 c.p,v3,v4,.int .i64 c.n]:=by rw[hwb];exact (Blk.new _ _ _).alloc _
 have B1:Blk wb (w.heap.size+1) 38 #[.int .i64 d.k,u1,u2,.int .i64 d.a,.int .i64 d.b,.int .i64 d.s,.int .i64 d.p,u3,u4,.int .i64 d.n]:=by rw[hwb];simpa using Blk.new (w.alloc (.cells #[.int .i64 c.k,v1,v2,.int .i64 c.a,.int .i64 c.b,.int .i64 c.s,.int .i64 c.p,v3,v4,.int .i64 c.n] 38)) 38 #[.int .i64 d.k,u1,u2,.int .i64 d.a,.int .i64 d.b,.int .i64 d.s,.int .i64 d.p,u3,u4,.int .i64 d.n]
 have i1:=Lib.hid (fun W (hW:Ext wb W)=>(h.ext (e0.trans hW)).g)
 have i2:=Lib.hid (fun W (hW:Ext wb W)=>(h.ext (e0.trans hW)).o)
 have i3:=Lib.hid (fun W (hW:Ext wb W)=>(h.ext (e0.trans hW)).t)
 have i4:=Lib.hid (fun W (hW:Ext wb W)=>(h.ext (e0.trans hW)).q)
 have j1:=Lib.hid (fun W (hW:Ext wb W)=>(k.ext (e0.trans hW)).g)
 have j2:=Lib.hid (fun W (hW:Ext wb W)=>(k.ext (e0.trans hW)).o)
 have j3:=Lib.hid (fun W (hW:Ext wb W)=>(k.ext (e0.trans hW)).t)
 have j4:=Lib.hid (fun W (hW:Ext wb W)=>(k.ext (e0.trans hW)).q)
 have hE:=Ext.refl wb
 have Hwb:=Lib.hid hwb
 clear hwb h k
 by_cases ck:c.k=d.k
 rotate_left
 · have Dk:=Lib.hid (show (c.k == d.k)=false by simp[ck])
   have yk:=Dk.out
   have ek:(c.k != d.k)=true:=by simp[ck]
   clear ck
   go_enter Tryz.func47,Tryz.ntmps47
   go_wp2_with fail
   rw[←Hwb.out]
   go_ret
   exact⟨ret_bool (by simp[eqC,Dk.out]),e0.trans hE⟩
 have Dk:=Lib.hid (show (c.k == d.k)=true by simp[ck])
 have yk:=Dk.out
 have ek:(c.k != d.k)=false:=by simp[ck]
 by_cases cg:c.g=d.g
 rotate_left
 · have Dg:=Lib.hid (show decide (c.g=d.g)=false by simp[cg])
   have yg:=Dg.out
   clear ck cg
   go_enter Tryz.func47,Tryz.ntmps47
   go_wp2_with fail
   rw[←Hwb.out]
   refine (EqualGroups_any _ _ _ _ _ (i1.out _ hE) (j1.out _ hE)).mono ?_
   rintro e w1 ⟨rfl,hE'⟩
   replace hE:=hE.trans hE'
   clear hE'
   go_wp2_with fail
   go_ret
   exact⟨ret_bool (by simp[eqC,Dk.out,Dg.out]),e0.trans hE⟩
 have Dg:=Lib.hid (show decide (c.g=d.g)=true by simp[cg])
 have yg:=Dg.out
 by_cases co:c.o=d.o
 rotate_left
 · have Do:=Lib.hid (show decide (c.o=d.o)=false by simp[co])
   have yo:=Do.out
   clear ck cg co
   go_enter Tryz.func47,Tryz.ntmps47
   go_wp2_with fail
   rw[←Hwb.out]
   refine (EqualGroups_any _ _ _ _ _ (i1.out _ hE) (j1.out _ hE)).mono ?_
   rintro e w1 ⟨rfl,hE'⟩
   replace hE:=hE.trans hE'
   clear hE'
   have m2:=(B0.ext hE).cell (i:=2) (v:=v2) rfl
   have n2:=(B1.ext hE).cell (i:=2) (v:=u2) rfl
   go_wp2_with fail
   refine (EqualGroups_any _ _ _ _ _ (i2.out _ hE) (j2.out _ hE)).mono ?_
   rintro e w2 ⟨rfl,hE'⟩
   replace hE:=hE.trans hE'
   clear hE'
   clear m2 n2
   go_wp2_with fail
   go_ret
   exact⟨ret_bool (by simp[eqC,Dk.out,Dg.out,Do.out]),e0.trans hE⟩
 have Do:=Lib.hid (show decide (c.o=d.o)=true by simp[co])
 have yo:=Do.out
 by_cases ca:c.a=d.a
 rotate_left
 · have Da:=Lib.hid (show (c.a == d.a)=false by simp[ca])
   have ya:=Da.out
   have ea:(c.a != d.a)=true:=by simp[ca]
   clear ck cg co ca
   go_enter Tryz.func47,Tryz.ntmps47
   go_wp2_with fail
   rw[←Hwb.out]
   refine (EqualGroups_any _ _ _ _ _ (i1.out _ hE) (j1.out _ hE)).mono ?_
   rintro e w1 ⟨rfl,hE'⟩
   replace hE:=hE.trans hE'
   clear hE'
   have m2:=(B0.ext hE).cell (i:=2) (v:=v2) rfl
   have n2:=(B1.ext hE).cell (i:=2) (v:=u2) rfl
   go_wp2_with fail
   refine (EqualGroups_any _ _ _ _ _ (i2.out _ hE) (j2.out _ hE)).mono ?_
   rintro e w2 ⟨rfl,hE'⟩
   replace hE:=hE.trans hE'
   clear hE'
   clear m2 n2
   have m3:=(B0.ext hE).cell (i:=3) (v:=.int .i64 c.a) rfl
   have n3:=(B1.ext hE).cell (i:=3) (v:=.int .i64 d.a) rfl
   go_wp2_with fail
   go_ret
   exact⟨ret_bool (by simp[eqC,Dk.out,Dg.out,Do.out,Da.out]),e0.trans hE⟩
 have Da:=Lib.hid (show (c.a == d.a)=true by simp[ca])
 have ya:=Da.out
 have ea:(c.a != d.a)=false:=by simp[ca]
 by_cases cb:c.b=d.b
 rotate_left
 · have Db:=Lib.hid (show (c.b == d.b)=false by simp[cb])
   have yb:=Db.out
   have eb:(c.b != d.b)=true:=by simp[cb]
   clear ck cg co ca cb
   go_enter Tryz.func47,Tryz.ntmps47
   go_wp2_with fail
   rw[←Hwb.out]
   refine (EqualGroups_any _ _ _ _ _ (i1.out _ hE) (j1.out _ hE)).mono ?_
   rintro e w1 ⟨rfl,hE'⟩
   replace hE:=hE.trans hE'
   clear hE'
   have m2:=(B0.ext hE).cell (i:=2) (v:=v2) rfl
   have n2:=(B1.ext hE).cell (i:=2) (v:=u2) rfl
   go_wp2_with fail
   refine (EqualGroups_any _ _ _ _ _ (i2.out _ hE) (j2.out _ hE)).mono ?_
   rintro e w2 ⟨rfl,hE'⟩
   replace hE:=hE.trans hE'
   clear hE'
   clear m2 n2
   have m3:=(B0.ext hE).cell (i:=3) (v:=.int .i64 c.a) rfl
   have n3:=(B1.ext hE).cell (i:=3) (v:=.int .i64 d.a) rfl
   have m4:=(B0.ext hE).cell (i:=4) (v:=.int .i64 c.b) rfl
   have n4:=(B1.ext hE).cell (i:=4) (v:=.int .i64 d.b) rfl
   go_wp2_with fail
   go_ret
   exact⟨ret_bool (by simp[eqC,Dk.out,Dg.out,Do.out,Da.out,Db.out]),e0.trans hE⟩
 have Db:=Lib.hid (show (c.b == d.b)=true by simp[cb])
 have yb:=Db.out
 have eb:(c.b != d.b)=false:=by simp[cb]
 by_cases cs:c.s=d.s
 rotate_left
 · have Ds:=Lib.hid (show (c.s == d.s)=false by simp[cs])
   have ys:=Ds.out
   have es:(c.s != d.s)=true:=by simp[cs]
   clear ck cg co ca cb cs
   go_enter Tryz.func47,Tryz.ntmps47
   go_wp2_with fail
   rw[←Hwb.out]
   refine (EqualGroups_any _ _ _ _ _ (i1.out _ hE) (j1.out _ hE)).mono ?_
   rintro e w1 ⟨rfl,hE'⟩
   replace hE:=hE.trans hE'
   clear hE'
   have m2:=(B0.ext hE).cell (i:=2) (v:=v2) rfl
   have n2:=(B1.ext hE).cell (i:=2) (v:=u2) rfl
   go_wp2_with fail
   refine (EqualGroups_any _ _ _ _ _ (i2.out _ hE) (j2.out _ hE)).mono ?_
   rintro e w2 ⟨rfl,hE'⟩
   replace hE:=hE.trans hE'
   clear hE'
   clear m2 n2
   have m3:=(B0.ext hE).cell (i:=3) (v:=.int .i64 c.a) rfl
   have n3:=(B1.ext hE).cell (i:=3) (v:=.int .i64 d.a) rfl
   have m4:=(B0.ext hE).cell (i:=4) (v:=.int .i64 c.b) rfl
   have n4:=(B1.ext hE).cell (i:=4) (v:=.int .i64 d.b) rfl
   have m5:=(B0.ext hE).cell (i:=5) (v:=.int .i64 c.s) rfl
   have n5:=(B1.ext hE).cell (i:=5) (v:=.int .i64 d.s) rfl
   go_wp2_with fail
   go_ret
   exact⟨ret_bool (by simp[eqC,Dk.out,Dg.out,Do.out,Da.out,Db.out,Ds.out]),e0.trans hE⟩
 have Ds:=Lib.hid (show (c.s == d.s)=true by simp[cs])
 have ys:=Ds.out
 have es:(c.s != d.s)=false:=by simp[cs]
 by_cases cp:c.p=d.p
 rotate_left
 · have Dp:=Lib.hid (show (c.p == d.p)=false by simp[cp])
   have yp:=Dp.out
   have ep:(c.p != d.p)=true:=by simp[cp]
   clear ck cg co ca cb cs cp
   go_enter Tryz.func47,Tryz.ntmps47
   go_wp2_with fail
   rw[←Hwb.out]
   refine (EqualGroups_any _ _ _ _ _ (i1.out _ hE) (j1.out _ hE)).mono ?_
   rintro e w1 ⟨rfl,hE'⟩
   replace hE:=hE.trans hE'
   clear hE'
   have m2:=(B0.ext hE).cell (i:=2) (v:=v2) rfl
   have n2:=(B1.ext hE).cell (i:=2) (v:=u2) rfl
   go_wp2_with fail
   refine (EqualGroups_any _ _ _ _ _ (i2.out _ hE) (j2.out _ hE)).mono ?_
   rintro e w2 ⟨rfl,hE'⟩
   replace hE:=hE.trans hE'
   clear hE'
   clear m2 n2
   have m3:=(B0.ext hE).cell (i:=3) (v:=.int .i64 c.a) rfl
   have n3:=(B1.ext hE).cell (i:=3) (v:=.int .i64 d.a) rfl
   have m4:=(B0.ext hE).cell (i:=4) (v:=.int .i64 c.b) rfl
   have n4:=(B1.ext hE).cell (i:=4) (v:=.int .i64 d.b) rfl
   have m5:=(B0.ext hE).cell (i:=5) (v:=.int .i64 c.s) rfl
   have n5:=(B1.ext hE).cell (i:=5) (v:=.int .i64 d.s) rfl
   have m6:=(B0.ext hE).cell (i:=6) (v:=.int .i64 c.p) rfl
   have n6:=(B1.ext hE).cell (i:=6) (v:=.int .i64 d.p) rfl
   go_wp2_with fail
   go_ret
   exact⟨ret_bool (by simp[eqC,Dk.out,Dg.out,Do.out,Da.out,Db.out,Ds.out,Dp.out]),e0.trans hE⟩
 have Dp:=Lib.hid (show (c.p == d.p)=true by simp[cp])
 have yp:=Dp.out
 have ep:(c.p != d.p)=false:=by simp[cp]
 by_cases ct:c.t=d.t
 rotate_left
 · have Dt:=Lib.hid (show decide (c.t=d.t)=false by simp[ct])
   have yt:=Dt.out
   clear ck cg co ca cb cs cp ct
   go_enter Tryz.func47,Tryz.ntmps47
   go_wp2_with fail
   rw[←Hwb.out]
   refine (EqualGroups_any _ _ _ _ _ (i1.out _ hE) (j1.out _ hE)).mono ?_
   rintro e w1 ⟨rfl,hE'⟩
   replace hE:=hE.trans hE'
   clear hE'
   have m2:=(B0.ext hE).cell (i:=2) (v:=v2) rfl
   have n2:=(B1.ext hE).cell (i:=2) (v:=u2) rfl
   go_wp2_with fail
   refine (EqualGroups_any _ _ _ _ _ (i2.out _ hE) (j2.out _ hE)).mono ?_
   rintro e w2 ⟨rfl,hE'⟩
   replace hE:=hE.trans hE'
   clear hE'
   clear m2 n2
   have m3:=(B0.ext hE).cell (i:=3) (v:=.int .i64 c.a) rfl
   have n3:=(B1.ext hE).cell (i:=3) (v:=.int .i64 d.a) rfl
   have m4:=(B0.ext hE).cell (i:=4) (v:=.int .i64 c.b) rfl
   have n4:=(B1.ext hE).cell (i:=4) (v:=.int .i64 d.b) rfl
   have m5:=(B0.ext hE).cell (i:=5) (v:=.int .i64 c.s) rfl
   have n5:=(B1.ext hE).cell (i:=5) (v:=.int .i64 d.s) rfl
   have m6:=(B0.ext hE).cell (i:=6) (v:=.int .i64 c.p) rfl
   have n6:=(B1.ext hE).cell (i:=6) (v:=.int .i64 d.p) rfl
   have m7:=(B0.ext hE).cell (i:=7) (v:=v3) rfl
   have n7:=(B1.ext hE).cell (i:=7) (v:=u3) rfl
   go_wp2_with fail
   refine (slicesEqual_any _ _ _ _ _ (i3.out _ hE) (j3.out _ hE)).mono ?_
   rintro e w3 ⟨rfl,hE'⟩
   replace hE:=hE.trans hE'
   clear hE'
   clear m3 n3 m4 n4 m5 n5 m6 n6 m7 n7
   go_wp2_with fail
   go_ret
   exact⟨ret_bool (by simp[eqC,Dk.out,Dg.out,Do.out,Da.out,Db.out,Ds.out,Dp.out,Dt.out]),e0.trans hE⟩
 have Dt:=Lib.hid (show decide (c.t=d.t)=true by simp[ct])
 have yt:=Dt.out
 by_cases cq:c.q=d.q
 rotate_left
 · have Dq:=Lib.hid (show decide (c.q=d.q)=false by simp[cq])
   have yq:=Dq.out
   clear ck cg co ca cb cs cp ct cq
   go_enter Tryz.func47,Tryz.ntmps47
   go_wp2_with fail
   rw[←Hwb.out]
   refine (EqualGroups_any _ _ _ _ _ (i1.out _ hE) (j1.out _ hE)).mono ?_
   rintro e w1 ⟨rfl,hE'⟩
   replace hE:=hE.trans hE'
   clear hE'
   have m2:=(B0.ext hE).cell (i:=2) (v:=v2) rfl
   have n2:=(B1.ext hE).cell (i:=2) (v:=u2) rfl
   go_wp2_with fail
   refine (EqualGroups_any _ _ _ _ _ (i2.out _ hE) (j2.out _ hE)).mono ?_
   rintro e w2 ⟨rfl,hE'⟩
   replace hE:=hE.trans hE'
   clear hE'
   clear m2 n2
   have m3:=(B0.ext hE).cell (i:=3) (v:=.int .i64 c.a) rfl
   have n3:=(B1.ext hE).cell (i:=3) (v:=.int .i64 d.a) rfl
   have m4:=(B0.ext hE).cell (i:=4) (v:=.int .i64 c.b) rfl
   have n4:=(B1.ext hE).cell (i:=4) (v:=.int .i64 d.b) rfl
   have m5:=(B0.ext hE).cell (i:=5) (v:=.int .i64 c.s) rfl
   have n5:=(B1.ext hE).cell (i:=5) (v:=.int .i64 d.s) rfl
   have m6:=(B0.ext hE).cell (i:=6) (v:=.int .i64 c.p) rfl
   have n6:=(B1.ext hE).cell (i:=6) (v:=.int .i64 d.p) rfl
   have m7:=(B0.ext hE).cell (i:=7) (v:=v3) rfl
   have n7:=(B1.ext hE).cell (i:=7) (v:=u3) rfl
   go_wp2_with fail
   refine (slicesEqual_any _ _ _ _ _ (i3.out _ hE) (j3.out _ hE)).mono ?_
   rintro e w3 ⟨rfl,hE'⟩
   replace hE:=hE.trans hE'
   clear hE'
   clear m3 n3 m4 n4 m5 n5 m6 n6 m7 n7
   have m8:=(B0.ext hE).cell (i:=8) (v:=v4) rfl
   have n8:=(B1.ext hE).cell (i:=8) (v:=u4) rfl
   go_wp2_with fail
   refine (slicesEqual_any _ _ _ _ _ (i4.out _ hE) (j4.out _ hE)).mono ?_
   rintro e w4 ⟨rfl,hE'⟩
   replace hE:=hE.trans hE'
   clear hE'
   clear m8 n8
   go_wp2_with fail
   go_ret
   exact⟨ret_bool (by simp[eqC,Dk.out,Dg.out,Do.out,Da.out,Db.out,Ds.out,Dp.out,Dt.out,Dq.out]),e0.trans hE⟩
 have Dq:=Lib.hid (show decide (c.q=d.q)=true by simp[cq])
 have yq:=Dq.out
 by_cases cn:c.n=d.n
 rotate_left
 · have Dn:=Lib.hid (show (c.n == d.n)=false by simp[cn])
   have yn:=Dn.out
   have en:(c.n != d.n)=true:=by simp[cn]
   clear ck cg co ca cb cs cp ct cq cn
   go_enter Tryz.func47,Tryz.ntmps47
   go_wp2_with fail
   rw[←Hwb.out]
   refine (EqualGroups_any _ _ _ _ _ (i1.out _ hE) (j1.out _ hE)).mono ?_
   rintro e w1 ⟨rfl,hE'⟩
   replace hE:=hE.trans hE'
   clear hE'
   have m2:=(B0.ext hE).cell (i:=2) (v:=v2) rfl
   have n2:=(B1.ext hE).cell (i:=2) (v:=u2) rfl
   go_wp2_with fail
   refine (EqualGroups_any _ _ _ _ _ (i2.out _ hE) (j2.out _ hE)).mono ?_
   rintro e w2 ⟨rfl,hE'⟩
   replace hE:=hE.trans hE'
   clear hE'
   clear m2 n2
   have m3:=(B0.ext hE).cell (i:=3) (v:=.int .i64 c.a) rfl
   have n3:=(B1.ext hE).cell (i:=3) (v:=.int .i64 d.a) rfl
   have m4:=(B0.ext hE).cell (i:=4) (v:=.int .i64 c.b) rfl
   have n4:=(B1.ext hE).cell (i:=4) (v:=.int .i64 d.b) rfl
   have m5:=(B0.ext hE).cell (i:=5) (v:=.int .i64 c.s) rfl
   have n5:=(B1.ext hE).cell (i:=5) (v:=.int .i64 d.s) rfl
   have m6:=(B0.ext hE).cell (i:=6) (v:=.int .i64 c.p) rfl
   have n6:=(B1.ext hE).cell (i:=6) (v:=.int .i64 d.p) rfl
   have m7:=(B0.ext hE).cell (i:=7) (v:=v3) rfl
   have n7:=(B1.ext hE).cell (i:=7) (v:=u3) rfl
   go_wp2_with fail
   refine (slicesEqual_any _ _ _ _ _ (i3.out _ hE) (j3.out _ hE)).mono ?_
   rintro e w3 ⟨rfl,hE'⟩
   replace hE:=hE.trans hE'
   clear hE'
   clear m3 n3 m4 n4 m5 n5 m6 n6 m7 n7
   have m8:=(B0.ext hE).cell (i:=8) (v:=v4) rfl
   have n8:=(B1.ext hE).cell (i:=8) (v:=u4) rfl
   go_wp2_with fail
   refine (slicesEqual_any _ _ _ _ _ (i4.out _ hE) (j4.out _ hE)).mono ?_
   rintro e w4 ⟨rfl,hE'⟩
   replace hE:=hE.trans hE'
   clear hE'
   clear m8 n8
   have m9:=(B0.ext hE).cell (i:=9) (v:=.int .i64 c.n) rfl
   have n9:=(B1.ext hE).cell (i:=9) (v:=.int .i64 d.n) rfl
   go_wp2_with fail
   go_ret
   exact⟨ret_bool (by simp[eqC,Dk.out,Dg.out,Do.out,Da.out,Db.out,Ds.out,Dp.out,Dt.out,Dq.out,Dn.out]),e0.trans hE⟩
 have Dn:=Lib.hid (show (c.n == d.n)=true by simp[cn])
 have yn:=Dn.out
 have en:(c.n != d.n)=false:=by simp[cn]
 clear ck cg co ca cb cs cp ct cq cn
 go_enter Tryz.func47,Tryz.ntmps47
 go_wp2_with fail
 rw[←Hwb.out]
 refine (EqualGroups_any _ _ _ _ _ (i1.out _ hE) (j1.out _ hE)).mono ?_
 rintro e w1 ⟨rfl,hE'⟩
 replace hE:=hE.trans hE'
 clear hE'
 have m2:=(B0.ext hE).cell (i:=2) (v:=v2) rfl
 have n2:=(B1.ext hE).cell (i:=2) (v:=u2) rfl
 go_wp2_with fail
 refine (EqualGroups_any _ _ _ _ _ (i2.out _ hE) (j2.out _ hE)).mono ?_
 rintro e w2 ⟨rfl,hE'⟩
 replace hE:=hE.trans hE'
 clear hE'
 clear m2 n2
 have m3:=(B0.ext hE).cell (i:=3) (v:=.int .i64 c.a) rfl
 have n3:=(B1.ext hE).cell (i:=3) (v:=.int .i64 d.a) rfl
 have m4:=(B0.ext hE).cell (i:=4) (v:=.int .i64 c.b) rfl
 have n4:=(B1.ext hE).cell (i:=4) (v:=.int .i64 d.b) rfl
 have m5:=(B0.ext hE).cell (i:=5) (v:=.int .i64 c.s) rfl
 have n5:=(B1.ext hE).cell (i:=5) (v:=.int .i64 d.s) rfl
 have m6:=(B0.ext hE).cell (i:=6) (v:=.int .i64 c.p) rfl
 have n6:=(B1.ext hE).cell (i:=6) (v:=.int .i64 d.p) rfl
 have m7:=(B0.ext hE).cell (i:=7) (v:=v3) rfl
 have n7:=(B1.ext hE).cell (i:=7) (v:=u3) rfl
 go_wp2_with fail
 refine (slicesEqual_any _ _ _ _ _ (i3.out _ hE) (j3.out _ hE)).mono ?_
 rintro e w3 ⟨rfl,hE'⟩
 replace hE:=hE.trans hE'
 clear hE'
 clear m3 n3 m4 n4 m5 n5 m6 n6 m7 n7
 have m8:=(B0.ext hE).cell (i:=8) (v:=v4) rfl
 have n8:=(B1.ext hE).cell (i:=8) (v:=u4) rfl
 go_wp2_with fail
 refine (slicesEqual_any _ _ _ _ _ (i4.out _ hE) (j4.out _ hE)).mono ?_
 rintro e w4 ⟨rfl,hE'⟩
 replace hE:=hE.trans hE'
 clear hE'
 clear m8 n8
 have m9:=(B0.ext hE).cell (i:=9) (v:=.int .i64 c.n) rfl
 have n9:=(B1.ext hE).cell (i:=9) (v:=.int .i64 d.n) rfl
 go_wp2_with fail
 go_ret
 exact⟨ret_bool (by simp[eqC,Dk.out,Dg.out,Do.out,Da.out,Db.out,Ds.out,Dp.out,Dt.out,Dq.out,Dn.out]),e0.trans hE⟩
end Go.Zz
namespace Go.Zz
open Go.RowKit Go.Proofs
set_option maxHeartbeats 9000000
set_option maxRecDepth 100000
theorem sEqualClaims_any(c d:ClV)(v1 v2 v3 v4 u1 u2 u3 u4:Value)(w:World)(h:IsC w c v1 v2 v3 v4)(k:IsC w d u1 u2 u3 u4) :
 Calls Tryz.prog 19 #[.agg #[.int .i64 c.k,v1,v2,.int .i64 c.a,.int .i64 c.b,.int .i64 c.s,.int .i64 c.p,v3,v4,.int .i64 c.n],.agg #[.int .i64 d.k,u1,u2,.int .i64 d.a,.int .i64 d.b,.int .i64 d.s,.int .i64 d.p,u3,u4,.int .i64 d.n]] w
  fun e w'=>e=.returned (.bool (eqC c d))∧Ext w w':=by
 obtain⟨wb,hwb⟩:∃wb,wb=(w.alloc (.cells #[.int .i64 c.k,v1,v2,.int .i64 c.a,.int .i64 c.b,.int .i64 c.s,.int .i64 c.p,v3,v4,.int .i64 c.n] 38)).alloc (.cells #[.int .i64 d.k,u1,u2,.int .i64 d.a,.int .i64 d.b,.int .i64 d.s,.int .i64 d.p,u3,u4,.int .i64 d.n] 38):=⟨_,rfl⟩
 have e0:Ext w wb:=by rw[hwb];exact ((Ext.refl _).alloc _).alloc _
 have B0:Blk wb w.heap.size 38 #[.int .i64 c.k,v1,v2,.int .i64 c.a,.int .i64 c.b,.int .i64 c.s,.int .i64 c.p,v3,v4,.int .i64 c.n]:=by rw[hwb];exact (Blk.new _ _ _).alloc _
 have B1:Blk wb (w.heap.size+1) 38 #[.int .i64 d.k,u1,u2,.int .i64 d.a,.int .i64 d.b,.int .i64 d.s,.int .i64 d.p,u3,u4,.int .i64 d.n]:=by rw[hwb];simpa using Blk.new (w.alloc (.cells #[.int .i64 c.k,v1,v2,.int .i64 c.a,.int .i64 c.b,.int .i64 c.s,.int .i64 c.p,v3,v4,.int .i64 c.n] 38)) 38 #[.int .i64 d.k,u1,u2,.int .i64 d.a,.int .i64 d.b,.int .i64 d.s,.int .i64 d.p,u3,u4,.int .i64 d.n]
 have i1:=Lib.hid (fun W (hW:Ext wb W)=>(h.ext (e0.trans hW)).g)
 have i2:=Lib.hid (fun W (hW:Ext wb W)=>(h.ext (e0.trans hW)).o)
 have i3:=Lib.hid (fun W (hW:Ext wb W)=>(h.ext (e0.trans hW)).t)
 have i4:=Lib.hid (fun W (hW:Ext wb W)=>(h.ext (e0.trans hW)).q)
 have j1:=Lib.hid (fun W (hW:Ext wb W)=>(k.ext (e0.trans hW)).g)
 have j2:=Lib.hid (fun W (hW:Ext wb W)=>(k.ext (e0.trans hW)).o)
 have j3:=Lib.hid (fun W (hW:Ext wb W)=>(k.ext (e0.trans hW)).t)
 have j4:=Lib.hid (fun W (hW:Ext wb W)=>(k.ext (e0.trans hW)).q)
 have hE:=Ext.refl wb
 have Hwb:=Lib.hid hwb
 clear hwb h k
 by_cases ck:c.k=d.k
 rotate_left
 · have Dk:=Lib.hid (show (c.k == d.k)=false by simp[ck])
   have yk:=Dk.out
   have ek:(c.k != d.k)=true:=by simp[ck]
   clear ck
   go_enter Tryz.func19,Tryz.ntmps19
   go_wp2_with fail
   rw[←Hwb.out]
   go_ret
   exact⟨ret_bool (by simp[eqC,Dk.out]),e0.trans hE⟩
 have Dk:=Lib.hid (show (c.k == d.k)=true by simp[ck])
 have yk:=Dk.out
 have ek:(c.k != d.k)=false:=by simp[ck]
 by_cases cg:c.g=d.g
 rotate_left
 · have Dg:=Lib.hid (show decide (c.g=d.g)=false by simp[cg])
   have yg:=Dg.out
   clear ck cg
   go_enter Tryz.func19,Tryz.ntmps19
   go_wp2_with fail
   rw[←Hwb.out]
   refine (sEqualGroups_any _ _ _ _ _ (i1.out _ hE) (j1.out _ hE)).mono ?_
   rintro e w1 ⟨rfl,hE'⟩
   replace hE:=hE.trans hE'
   clear hE'
   go_wp2_with fail
   go_ret
   exact⟨ret_bool (by simp[eqC,Dk.out,Dg.out]),e0.trans hE⟩
 have Dg:=Lib.hid (show decide (c.g=d.g)=true by simp[cg])
 have yg:=Dg.out
 by_cases co:c.o=d.o
 rotate_left
 · have Do:=Lib.hid (show decide (c.o=d.o)=false by simp[co])
   have yo:=Do.out
   clear ck cg co
   go_enter Tryz.func19,Tryz.ntmps19
   go_wp2_with fail
   rw[←Hwb.out]
   refine (sEqualGroups_any _ _ _ _ _ (i1.out _ hE) (j1.out _ hE)).mono ?_
   rintro e w1 ⟨rfl,hE'⟩
   replace hE:=hE.trans hE'
   clear hE'
   have m2:=(B0.ext hE).cell (i:=2) (v:=v2) rfl
   have n2:=(B1.ext hE).cell (i:=2) (v:=u2) rfl
   go_wp2_with fail
   refine (sEqualGroups_any _ _ _ _ _ (i2.out _ hE) (j2.out _ hE)).mono ?_
   rintro e w2 ⟨rfl,hE'⟩
   replace hE:=hE.trans hE'
   clear hE'
   clear m2 n2
   go_wp2_with fail
   go_ret
   exact⟨ret_bool (by simp[eqC,Dk.out,Dg.out,Do.out]),e0.trans hE⟩
 have Do:=Lib.hid (show decide (c.o=d.o)=true by simp[co])
 have yo:=Do.out
 by_cases ca:c.a=d.a
 rotate_left
 · have Da:=Lib.hid (show (c.a == d.a)=false by simp[ca])
   have ya:=Da.out
   have ea:(c.a != d.a)=true:=by simp[ca]
   clear ck cg co ca
   go_enter Tryz.func19,Tryz.ntmps19
   go_wp2_with fail
   rw[←Hwb.out]
   refine (sEqualGroups_any _ _ _ _ _ (i1.out _ hE) (j1.out _ hE)).mono ?_
   rintro e w1 ⟨rfl,hE'⟩
   replace hE:=hE.trans hE'
   clear hE'
   have m2:=(B0.ext hE).cell (i:=2) (v:=v2) rfl
   have n2:=(B1.ext hE).cell (i:=2) (v:=u2) rfl
   go_wp2_with fail
   refine (sEqualGroups_any _ _ _ _ _ (i2.out _ hE) (j2.out _ hE)).mono ?_
   rintro e w2 ⟨rfl,hE'⟩
   replace hE:=hE.trans hE'
   clear hE'
   clear m2 n2
   have m3:=(B0.ext hE).cell (i:=3) (v:=.int .i64 c.a) rfl
   have n3:=(B1.ext hE).cell (i:=3) (v:=.int .i64 d.a) rfl
   go_wp2_with fail
   go_ret
   exact⟨ret_bool (by simp[eqC,Dk.out,Dg.out,Do.out,Da.out]),e0.trans hE⟩
 have Da:=Lib.hid (show (c.a == d.a)=true by simp[ca])
 have ya:=Da.out
 have ea:(c.a != d.a)=false:=by simp[ca]
 by_cases cb:c.b=d.b
 rotate_left
 · have Db:=Lib.hid (show (c.b == d.b)=false by simp[cb])
   have yb:=Db.out
   have eb:(c.b != d.b)=true:=by simp[cb]
   clear ck cg co ca cb
   go_enter Tryz.func19,Tryz.ntmps19
   go_wp2_with fail
   rw[←Hwb.out]
   refine (sEqualGroups_any _ _ _ _ _ (i1.out _ hE) (j1.out _ hE)).mono ?_
   rintro e w1 ⟨rfl,hE'⟩
   replace hE:=hE.trans hE'
   clear hE'
   have m2:=(B0.ext hE).cell (i:=2) (v:=v2) rfl
   have n2:=(B1.ext hE).cell (i:=2) (v:=u2) rfl
   go_wp2_with fail
   refine (sEqualGroups_any _ _ _ _ _ (i2.out _ hE) (j2.out _ hE)).mono ?_
   rintro e w2 ⟨rfl,hE'⟩
   replace hE:=hE.trans hE'
   clear hE'
   clear m2 n2
   have m3:=(B0.ext hE).cell (i:=3) (v:=.int .i64 c.a) rfl
   have n3:=(B1.ext hE).cell (i:=3) (v:=.int .i64 d.a) rfl
   have m4:=(B0.ext hE).cell (i:=4) (v:=.int .i64 c.b) rfl
   have n4:=(B1.ext hE).cell (i:=4) (v:=.int .i64 d.b) rfl
   go_wp2_with fail
   go_ret
   exact⟨ret_bool (by simp[eqC,Dk.out,Dg.out,Do.out,Da.out,Db.out]),e0.trans hE⟩
 have Db:=Lib.hid (show (c.b == d.b)=true by simp[cb])
 have yb:=Db.out
 have eb:(c.b != d.b)=false:=by simp[cb]
 by_cases cs:c.s=d.s
 rotate_left
 · have Ds:=Lib.hid (show (c.s == d.s)=false by simp[cs])
   have ys:=Ds.out
   have es:(c.s != d.s)=true:=by simp[cs]
   clear ck cg co ca cb cs
   go_enter Tryz.func19,Tryz.ntmps19
   go_wp2_with fail
   rw[←Hwb.out]
   refine (sEqualGroups_any _ _ _ _ _ (i1.out _ hE) (j1.out _ hE)).mono ?_
   rintro e w1 ⟨rfl,hE'⟩
   replace hE:=hE.trans hE'
   clear hE'
   have m2:=(B0.ext hE).cell (i:=2) (v:=v2) rfl
   have n2:=(B1.ext hE).cell (i:=2) (v:=u2) rfl
   go_wp2_with fail
   refine (sEqualGroups_any _ _ _ _ _ (i2.out _ hE) (j2.out _ hE)).mono ?_
   rintro e w2 ⟨rfl,hE'⟩
   replace hE:=hE.trans hE'
   clear hE'
   clear m2 n2
   have m3:=(B0.ext hE).cell (i:=3) (v:=.int .i64 c.a) rfl
   have n3:=(B1.ext hE).cell (i:=3) (v:=.int .i64 d.a) rfl
   have m4:=(B0.ext hE).cell (i:=4) (v:=.int .i64 c.b) rfl
   have n4:=(B1.ext hE).cell (i:=4) (v:=.int .i64 d.b) rfl
   have m5:=(B0.ext hE).cell (i:=5) (v:=.int .i64 c.s) rfl
   have n5:=(B1.ext hE).cell (i:=5) (v:=.int .i64 d.s) rfl
   go_wp2_with fail
   go_ret
   exact⟨ret_bool (by simp[eqC,Dk.out,Dg.out,Do.out,Da.out,Db.out,Ds.out]),e0.trans hE⟩
 have Ds:=Lib.hid (show (c.s == d.s)=true by simp[cs])
 have ys:=Ds.out
 have es:(c.s != d.s)=false:=by simp[cs]
 by_cases cp:c.p=d.p
 rotate_left
 · have Dp:=Lib.hid (show (c.p == d.p)=false by simp[cp])
   have yp:=Dp.out
   have ep:(c.p != d.p)=true:=by simp[cp]
   clear ck cg co ca cb cs cp
   go_enter Tryz.func19,Tryz.ntmps19
   go_wp2_with fail
   rw[←Hwb.out]
   refine (sEqualGroups_any _ _ _ _ _ (i1.out _ hE) (j1.out _ hE)).mono ?_
   rintro e w1 ⟨rfl,hE'⟩
   replace hE:=hE.trans hE'
   clear hE'
   have m2:=(B0.ext hE).cell (i:=2) (v:=v2) rfl
   have n2:=(B1.ext hE).cell (i:=2) (v:=u2) rfl
   go_wp2_with fail
   refine (sEqualGroups_any _ _ _ _ _ (i2.out _ hE) (j2.out _ hE)).mono ?_
   rintro e w2 ⟨rfl,hE'⟩
   replace hE:=hE.trans hE'
   clear hE'
   clear m2 n2
   have m3:=(B0.ext hE).cell (i:=3) (v:=.int .i64 c.a) rfl
   have n3:=(B1.ext hE).cell (i:=3) (v:=.int .i64 d.a) rfl
   have m4:=(B0.ext hE).cell (i:=4) (v:=.int .i64 c.b) rfl
   have n4:=(B1.ext hE).cell (i:=4) (v:=.int .i64 d.b) rfl
   have m5:=(B0.ext hE).cell (i:=5) (v:=.int .i64 c.s) rfl
   have n5:=(B1.ext hE).cell (i:=5) (v:=.int .i64 d.s) rfl
   have m6:=(B0.ext hE).cell (i:=6) (v:=.int .i64 c.p) rfl
   have n6:=(B1.ext hE).cell (i:=6) (v:=.int .i64 d.p) rfl
   go_wp2_with fail
   go_ret
   exact⟨ret_bool (by simp[eqC,Dk.out,Dg.out,Do.out,Da.out,Db.out,Ds.out,Dp.out]),e0.trans hE⟩
 have Dp:=Lib.hid (show (c.p == d.p)=true by simp[cp])
 have yp:=Dp.out
 have ep:(c.p != d.p)=false:=by simp[cp]
 by_cases ct:c.t=d.t
 rotate_left
 · have Dt:=Lib.hid (show decide (c.t=d.t)=false by simp[ct])
   have yt:=Dt.out
   clear ck cg co ca cb cs cp ct
   go_enter Tryz.func19,Tryz.ntmps19
   go_wp2_with fail
   rw[←Hwb.out]
   refine (sEqualGroups_any _ _ _ _ _ (i1.out _ hE) (j1.out _ hE)).mono ?_
   rintro e w1 ⟨rfl,hE'⟩
   replace hE:=hE.trans hE'
   clear hE'
   have m2:=(B0.ext hE).cell (i:=2) (v:=v2) rfl
   have n2:=(B1.ext hE).cell (i:=2) (v:=u2) rfl
   go_wp2_with fail
   refine (sEqualGroups_any _ _ _ _ _ (i2.out _ hE) (j2.out _ hE)).mono ?_
   rintro e w2 ⟨rfl,hE'⟩
   replace hE:=hE.trans hE'
   clear hE'
   clear m2 n2
   have m3:=(B0.ext hE).cell (i:=3) (v:=.int .i64 c.a) rfl
   have n3:=(B1.ext hE).cell (i:=3) (v:=.int .i64 d.a) rfl
   have m4:=(B0.ext hE).cell (i:=4) (v:=.int .i64 c.b) rfl
   have n4:=(B1.ext hE).cell (i:=4) (v:=.int .i64 d.b) rfl
   have m5:=(B0.ext hE).cell (i:=5) (v:=.int .i64 c.s) rfl
   have n5:=(B1.ext hE).cell (i:=5) (v:=.int .i64 d.s) rfl
   have m6:=(B0.ext hE).cell (i:=6) (v:=.int .i64 c.p) rfl
   have n6:=(B1.ext hE).cell (i:=6) (v:=.int .i64 d.p) rfl
   have m7:=(B0.ext hE).cell (i:=7) (v:=v3) rfl
   have n7:=(B1.ext hE).cell (i:=7) (v:=u3) rfl
   go_wp2_with fail
   refine (l30Same_any _ _ _ _ _ (i3.out _ hE) (j3.out _ hE)).mono ?_
   rintro e w3 ⟨rfl,hE'⟩
   replace hE:=hE.trans hE'
   clear hE'
   clear m3 n3 m4 n4 m5 n5 m6 n6 m7 n7
   go_wp2_with fail
   go_ret
   exact⟨ret_bool (by simp[eqC,Dk.out,Dg.out,Do.out,Da.out,Db.out,Ds.out,Dp.out,Dt.out]),e0.trans hE⟩
 have Dt:=Lib.hid (show decide (c.t=d.t)=true by simp[ct])
 have yt:=Dt.out
 by_cases cq:c.q=d.q
 rotate_left
 · have Dq:=Lib.hid (show decide (c.q=d.q)=false by simp[cq])
   have yq:=Dq.out
   clear ck cg co ca cb cs cp ct cq
   go_enter Tryz.func19,Tryz.ntmps19
   go_wp2_with fail
   rw[←Hwb.out]
   refine (sEqualGroups_any _ _ _ _ _ (i1.out _ hE) (j1.out _ hE)).mono ?_
   rintro e w1 ⟨rfl,hE'⟩
   replace hE:=hE.trans hE'
   clear hE'
   have m2:=(B0.ext hE).cell (i:=2) (v:=v2) rfl
   have n2:=(B1.ext hE).cell (i:=2) (v:=u2) rfl
   go_wp2_with fail
   refine (sEqualGroups_any _ _ _ _ _ (i2.out _ hE) (j2.out _ hE)).mono ?_
   rintro e w2 ⟨rfl,hE'⟩
   replace hE:=hE.trans hE'
   clear hE'
   clear m2 n2
   have m3:=(B0.ext hE).cell (i:=3) (v:=.int .i64 c.a) rfl
   have n3:=(B1.ext hE).cell (i:=3) (v:=.int .i64 d.a) rfl
   have m4:=(B0.ext hE).cell (i:=4) (v:=.int .i64 c.b) rfl
   have n4:=(B1.ext hE).cell (i:=4) (v:=.int .i64 d.b) rfl
   have m5:=(B0.ext hE).cell (i:=5) (v:=.int .i64 c.s) rfl
   have n5:=(B1.ext hE).cell (i:=5) (v:=.int .i64 d.s) rfl
   have m6:=(B0.ext hE).cell (i:=6) (v:=.int .i64 c.p) rfl
   have n6:=(B1.ext hE).cell (i:=6) (v:=.int .i64 d.p) rfl
   have m7:=(B0.ext hE).cell (i:=7) (v:=v3) rfl
   have n7:=(B1.ext hE).cell (i:=7) (v:=u3) rfl
   go_wp2_with fail
   refine (l30Same_any _ _ _ _ _ (i3.out _ hE) (j3.out _ hE)).mono ?_
   rintro e w3 ⟨rfl,hE'⟩
   replace hE:=hE.trans hE'
   clear hE'
   clear m3 n3 m4 n4 m5 n5 m6 n6 m7 n7
   have m8:=(B0.ext hE).cell (i:=8) (v:=v4) rfl
   have n8:=(B1.ext hE).cell (i:=8) (v:=u4) rfl
   go_wp2_with fail
   refine (l30Same_any _ _ _ _ _ (i4.out _ hE) (j4.out _ hE)).mono ?_
   rintro e w4 ⟨rfl,hE'⟩
   replace hE:=hE.trans hE'
   clear hE'
   clear m8 n8
   go_wp2_with fail
   go_ret
   exact⟨ret_bool (by simp[eqC,Dk.out,Dg.out,Do.out,Da.out,Db.out,Ds.out,Dp.out,Dt.out,Dq.out]),e0.trans hE⟩
 have Dq:=Lib.hid (show decide (c.q=d.q)=true by simp[cq])
 have yq:=Dq.out
 by_cases cn:c.n=d.n
 rotate_left
 · have Dn:=Lib.hid (show (c.n == d.n)=false by simp[cn])
   have yn:=Dn.out
   have en:(c.n != d.n)=true:=by simp[cn]
   clear ck cg co ca cb cs cp ct cq cn
   go_enter Tryz.func19,Tryz.ntmps19
   go_wp2_with fail
   rw[←Hwb.out]
   refine (sEqualGroups_any _ _ _ _ _ (i1.out _ hE) (j1.out _ hE)).mono ?_
   rintro e w1 ⟨rfl,hE'⟩
   replace hE:=hE.trans hE'
   clear hE'
   have m2:=(B0.ext hE).cell (i:=2) (v:=v2) rfl
   have n2:=(B1.ext hE).cell (i:=2) (v:=u2) rfl
   go_wp2_with fail
   refine (sEqualGroups_any _ _ _ _ _ (i2.out _ hE) (j2.out _ hE)).mono ?_
   rintro e w2 ⟨rfl,hE'⟩
   replace hE:=hE.trans hE'
   clear hE'
   clear m2 n2
   have m3:=(B0.ext hE).cell (i:=3) (v:=.int .i64 c.a) rfl
   have n3:=(B1.ext hE).cell (i:=3) (v:=.int .i64 d.a) rfl
   have m4:=(B0.ext hE).cell (i:=4) (v:=.int .i64 c.b) rfl
   have n4:=(B1.ext hE).cell (i:=4) (v:=.int .i64 d.b) rfl
   have m5:=(B0.ext hE).cell (i:=5) (v:=.int .i64 c.s) rfl
   have n5:=(B1.ext hE).cell (i:=5) (v:=.int .i64 d.s) rfl
   have m6:=(B0.ext hE).cell (i:=6) (v:=.int .i64 c.p) rfl
   have n6:=(B1.ext hE).cell (i:=6) (v:=.int .i64 d.p) rfl
   have m7:=(B0.ext hE).cell (i:=7) (v:=v3) rfl
   have n7:=(B1.ext hE).cell (i:=7) (v:=u3) rfl
   go_wp2_with fail
   refine (l30Same_any _ _ _ _ _ (i3.out _ hE) (j3.out _ hE)).mono ?_
   rintro e w3 ⟨rfl,hE'⟩
   replace hE:=hE.trans hE'
   clear hE'
   clear m3 n3 m4 n4 m5 n5 m6 n6 m7 n7
   have m8:=(B0.ext hE).cell (i:=8) (v:=v4) rfl
   have n8:=(B1.ext hE).cell (i:=8) (v:=u4) rfl
   go_wp2_with fail
   refine (l30Same_any _ _ _ _ _ (i4.out _ hE) (j4.out _ hE)).mono ?_
   rintro e w4 ⟨rfl,hE'⟩
   replace hE:=hE.trans hE'
   clear hE'
   clear m8 n8
   have m9:=(B0.ext hE).cell (i:=9) (v:=.int .i64 c.n) rfl
   have n9:=(B1.ext hE).cell (i:=9) (v:=.int .i64 d.n) rfl
   go_wp2_with fail
   go_ret
   exact⟨ret_bool (by simp[eqC,Dk.out,Dg.out,Do.out,Da.out,Db.out,Ds.out,Dp.out,Dt.out,Dq.out,Dn.out]),e0.trans hE⟩
 have Dn:=Lib.hid (show (c.n == d.n)=true by simp[cn])
 have yn:=Dn.out
 have en:(c.n != d.n)=false:=by simp[cn]
 clear ck cg co ca cb cs cp ct cq cn
 go_enter Tryz.func19,Tryz.ntmps19
 go_wp2_with fail
 rw[←Hwb.out]
 refine (sEqualGroups_any _ _ _ _ _ (i1.out _ hE) (j1.out _ hE)).mono ?_
 rintro e w1 ⟨rfl,hE'⟩
 replace hE:=hE.trans hE'
 clear hE'
 have m2:=(B0.ext hE).cell (i:=2) (v:=v2) rfl
 have n2:=(B1.ext hE).cell (i:=2) (v:=u2) rfl
 go_wp2_with fail
 refine (sEqualGroups_any _ _ _ _ _ (i2.out _ hE) (j2.out _ hE)).mono ?_
 rintro e w2 ⟨rfl,hE'⟩
 replace hE:=hE.trans hE'
 clear hE'
 clear m2 n2
 have m3:=(B0.ext hE).cell (i:=3) (v:=.int .i64 c.a) rfl
 have n3:=(B1.ext hE).cell (i:=3) (v:=.int .i64 d.a) rfl
 have m4:=(B0.ext hE).cell (i:=4) (v:=.int .i64 c.b) rfl
 have n4:=(B1.ext hE).cell (i:=4) (v:=.int .i64 d.b) rfl
 have m5:=(B0.ext hE).cell (i:=5) (v:=.int .i64 c.s) rfl
 have n5:=(B1.ext hE).cell (i:=5) (v:=.int .i64 d.s) rfl
 have m6:=(B0.ext hE).cell (i:=6) (v:=.int .i64 c.p) rfl
 have n6:=(B1.ext hE).cell (i:=6) (v:=.int .i64 d.p) rfl
 have m7:=(B0.ext hE).cell (i:=7) (v:=v3) rfl
 have n7:=(B1.ext hE).cell (i:=7) (v:=u3) rfl
 go_wp2_with fail
 refine (l30Same_any _ _ _ _ _ (i3.out _ hE) (j3.out _ hE)).mono ?_
 rintro e w3 ⟨rfl,hE'⟩
 replace hE:=hE.trans hE'
 clear hE'
 clear m3 n3 m4 n4 m5 n5 m6 n6 m7 n7
 have m8:=(B0.ext hE).cell (i:=8) (v:=v4) rfl
 have n8:=(B1.ext hE).cell (i:=8) (v:=u4) rfl
 go_wp2_with fail
 refine (l30Same_any _ _ _ _ _ (i4.out _ hE) (j4.out _ hE)).mono ?_
 rintro e w4 ⟨rfl,hE'⟩
 replace hE:=hE.trans hE'
 clear hE'
 clear m8 n8
 have m9:=(B0.ext hE).cell (i:=9) (v:=.int .i64 c.n) rfl
 have n9:=(B1.ext hE).cell (i:=9) (v:=.int .i64 d.n) rfl
 go_wp2_with fail
 go_ret
 exact⟨ret_bool (by simp[eqC,Dk.out,Dg.out,Do.out,Da.out,Db.out,Ds.out,Dp.out,Dt.out,Dq.out,Dn.out]),e0.trans hE⟩
end Go.Zz
namespace Go.Zz
open Go.RowKit Go.Proofs
set_option maxHeartbeats 2000000
set_option maxRecDepth 8000
def Byts(w:World)(v:Value)(l:List Int):Prop :=
 ∃(ao:Option Addr) (c:Nat),v=.slice ao l.length c∧l.length≤140737488355328∧(∀i,0≤nth l i∧nth l i≤255) ∧
  ∀i,i<l.length→∃a,ao=some a∧w.cell? (a.add i)=some (.int .u8 (nth l i))
theorem Byts.ext{w w':World}{v:Value}{l:List Int}(h:Byts w v l)(hE:Ext w w'):Byts w' v l:=by
 obtain⟨ao,c,rfl,h1,h2,h3⟩:=h
 refine⟨ao,c,rfl,h1,h2,fun i hi=>?_⟩
 obtain⟨a,rfl,hc⟩:=h3 i hi
 exact⟨a,rfl,hE.cell hc⟩
theorem Byts.op{w:World}{v:Value}{l:List Int}(h:Byts w v l) :
 ∃(ao:Option Addr) (c:Nat) (adr:Nat→Addr),v=.slice ao l.length c∧l.length≤140737488355328∧(∀i,0≤nth l i∧nth l i≤255) ∧
  (∀i,i<l.length→ao=some (adr 0)∧adr i=(adr 0).add i) ∧
  (∀i W,i<l.length→Ext w W→W.cell? (adr i)=some (.int .u8 (nth l i))):=by
 obtain⟨ao,c,rfl,h1,h2,h3⟩:=h
 refine⟨ao,c,fun i=>(ao.getD default).add i,rfl,by omega,h2,fun i hi=>?_,fun i W hi hW=>?_⟩
 · obtain⟨a,rfl,hc⟩:=h3 i hi
   exact⟨by simp[Addr.add],by simp[Addr.add]⟩
 · obtain⟨a,rfl,hc⟩:=h3 i hi
   exact hW.cell (by simpa using hc)
theorem elY:Tryz.prog.underlying 33=some (.slice (Tryz.prog.elem 33)):=by kernel_rfl
theorem szY:∀w,(Go.sizeOf (Tryz.prog.elem 33)).run Tryz.prog w=.ok 1 w:=fun w=>by kernel_rfl
def Cur(w0 w:World)(p:Nat):Prop :=
 ∃(ao:Option Addr) (l:List Int) (c:Nat) (i:Nat) (h:Int),Blk w p 131 #[.slice ao l.length c,.int .i64 i,.int .i64 h]∧i≤l.length∧w0.heap.size≤p∧Byts w0 (.slice ao l.length c) l∧Ext w0 w
theorem Cur.lt{w0 w:World}{p:Nat}(h:Cur w0 w p):w0.heap.size≤p∧p<w.heap.size:=by
 obtain⟨_,_,_,_,_,h1,_,h2,_⟩:=h;exact⟨h2,h1.lt⟩
theorem Cur.ext{w0 w w':World}{p:Nat}(h:Cur w0 w p)(hE:Ext w w'):Cur w0 w' p:=by
 obtain⟨ao,l,c,i,n,h1,h2,h3,h4,h5⟩:=h;exact⟨ao,l,c,i,n,h1.ext hE,h2,h3,h4,h5.trans hE⟩
theorem Cur.base{w0 w:World}{p:Nat}(h:Cur w0 w p):Ext w0 w:=by obtain⟨_,_,_,_,_,_,_,_,_,h⟩:=h;exact h
theorem Cur.other{w0 w:World}{p:Nat}(h:Cur w0 w p){b i:Nat}(h1:p≠b)(h2:w0.heap.size≤b)(v:Value):Cur w0 (w.setCell ⟨b,i,none⟩ v) p:=by
 obtain⟨ao,l,c,k,n,g1,g2,g3,g4,g5⟩:=h;exact⟨ao,l,c,k,n,g1.other h1 v,g2,g3,g4,g5.setCell h2 v⟩
def Drw(p:Nat)(w w':World):Prop:=Fr p none w w'
theorem Drw.blk{p:Nat}{w w':World}(h:Drw p w w'){c:Nat}{T:TypeId}{cs:Array Value}(hB:Blk w c T cs)(hc:c≠p):Blk w' c T cs:=Fr.blk h hB hc (by simp)
theorem Drw.own{p:Nat}{w w':World}(h:Drw p w w'){TI:TypeId}{w0:World}{v:Value}{l:List Int}(hO:Own TI w0 w v l)(hp:p<w0.heap.size):Own TI w0 w' v l:=by
 refine Fr.own h hO (own_nb hO hp) ?_
 cases hv:v.ownBlock<;>simp
theorem Drw.trans{p:Nat}{w w1 w2:World}(h:Drw p w w1)(k:Drw p w1 w2):Drw p w w2:=Fr.trans h (Nw.refl _ _) k
theorem Drw.alloc{p:Nat}{w w':World}(h:Drw p w w')(o:Obj):Drw p w (w'.alloc o):=Fr.trans h (Nw.refl _ _) (((Ext.refl w').alloc o).fr p none)
theorem Cur.alloc{w0 w:World}{p:Nat}(h:Cur w0 w p)(o:Obj):Cur w0 (w.alloc o) p:=h.ext ((Ext.refl w).alloc o)
theorem Drw.set{p:Nat}{w w':World}(h:Drw p w w'){b:Nat}(hb:w.heap.size≤b)(i:Nat)(v:Value):Drw p w (w'.setCell ⟨b,i,none⟩ v) :=
 ⟨h.os,h.tape,h.output,by simpa using h.size,fun k hk h1 h2=>by rw[Below.heap_setCell _ _ _ _ (by show k≠b;omega)];exact Fr.block h k hk h1 h2⟩
theorem Own.low{TI:TypeId}{w0 w1 w:World}{v:Value}{l:List Int}(h:Own TI w1 w v l)(hs:w0.heap.size≤w1.heap.size):Own TI w0 w v l:=⟨ownsRow_mono h.1 hs,h.2⟩
theorem Drw.refl(p:Nat)(w:World):Drw p w w:=Fr.refl _ _ _
theorem Drw.size{p:Nat}{w w':World}(h:Drw p w w'):w.heap.size≤w'.heap.size:=Fr.size h
theorem Ext.drw{w w':World}(h:Ext w w')(p:Nat):Drw p w w':=h.fr p none
def ixor(x y:Int):Int:=bits .xor .i64 x y
@[go_sem high] theorem intBits_xor_i (x y:Int):Op.intBits .xor .i64 x y=pure (.int .i64 (ixor x y)):=rfl
theorem iand_255(x:Int):0≤iand x 255∧iand x 255≤255:=by
 have h:iand x 255=((((BitVec.ofInt IntKind.i64.bits x).toNat &&& 255:Nat)):Int):=by
  show IntKind.i64.wrap ((BitVec.ofInt IntKind.i64.bits x &&& BitVec.ofInt IntKind.i64.bits 255).toNat:Int)=_
  rw[BitVec.toNat_and]
  have e:(BitVec.ofInt IntKind.i64.bits (255:Int)).toNat=255:=by decide
  rw[e,wrap_nat]
  exact Nat.lt_of_le_of_lt Nat.and_le_right (by decide)
 have h2:(BitVec.ofInt IntKind.i64.bits x).toNat &&& 255≤255:=Nat.and_le_right
 omega
theorem l1New_any(v:Value)(l:List Int)(w0 w:World)(h0:Byts w0 v l)(hE0:Ext w0 w) :
 Calls Tryz.prog 110 #[v] w fun e w'=>∃p,e=.returned (.pointer (some ⟨p,0,none⟩))∧Cur w0 w' p∧Ext w w'∧w.heap.size≤p:=by
 have h:=h0.ext hE0
 have HB:=Lib.hid h0
 have HE0:=Lib.hid hE0
 clear h0 hE0
 obtain⟨ao,c,adr,rfl,hl,hb,hadr,hcell⟩:=h.op
 have hix:=ints_index (c:=c) elY szY hadr
 have Hcell:=Lib.hid hcell
 clear hadr hcell h
 go_enter Tryz.func110,Tryz.ntmps110
 go_wp2_with fail
 go_loopw [3,4] (fun sh si wr=>∃(k:Nat) (h:Int),k≤l.length∧si=.int .i64 k∧sh=.int .i64 h∧Ext w wr) (fun _ si _=>l.length - (intOf si).toNat)
 case atStart=>exact⟨0,_,by omega,rfl,rfl,Ext.refl _⟩
 case round =>
  rename World=>wr
  obtain⟨k,h,hk,rfl,rfl,hE⟩:=hrel
  by_cases hlt:k<l.length
  · have hck:=Hcell.out k wr hlt hE
    have hbk:=hb k
    obtain⟨x,hx⟩:∃x,x=nth l k:=⟨_,rfl⟩
    rw[←hx] at hck hbk
    clear hx
    have hltI:(k:Int)<(l.length:Int):=by omega
    by_cases h4:(k:Int)<4000
    · go_wp2_with fail
      go_roundw
      case rel=>exact⟨k+1,_,by omega,by go_num,rfl,hE⟩
      case measure=>(simp[intOf];omega)
    · go_wp2_with fail
      go_ret
      exact⟨_,rfl,⟨ao,l,c,0,_,Blk.new _ _ _,Nat.zero_le _,Nat.le_trans HE0.out.size hE.size,HB.out,HE0.out.trans (hE.alloc _)⟩,hE.alloc _,hE.size⟩
  · have hltI:¬(k:Int)<(l.length:Int):=by omega
    go_wp2_with fail
    go_ret
    exact⟨_,rfl,⟨ao,l,c,0,_,Blk.new _ _ _,Nat.zero_le _,Nat.le_trans HE0.out.size hE.size,HB.out,HE0.out.trans (hE.alloc _)⟩,hE.alloc _,hE.size⟩
theorem l1Byte_any(w0 w:World)(p:Nat)(h:Cur w0 w p) :
 Calls Tryz.prog 182 #[.pointer (some ⟨p,0,none⟩)] w fun e w'=>∃x,e=.returned (.int .i64 x)∧0≤x∧x≤255∧Cur w0 w' p∧Drw p w w':=by
 obtain⟨ao,l,c,i,hv,hB,hi,hp,hY,hE0⟩:=h
 have HY:=Lib.hid hY
 obtain⟨ao',c',adr,hvY,hl,hb,hadr,hcell⟩:=hY.op
 simp only[Value.slice.injEq] at hvY
 obtain⟨rfl,-,rfl⟩:=hvY
 have hix:=ints_index (c:=c) elY szY hadr
 have Hcell:=Lib.hid hcell
 clear hadr hcell hY
 have k2:=hB.cell (i:=2) (v:=.int .i64 hv) rfl
 have f2:=hB.free 2
 have HB:=Lib.hid hB
 have HE0:=Lib.hid hE0
 clear hB hE0
 have hb2:∀(W:World) (u:Value) (h':Int),Blk W p 131 #[u,.int .i64 i,.int .i64 h']→∀U,(Lat W U).cell? ⟨p,0,none⟩=some u∧(Lat W U).cell? ⟨p,1,none⟩=some (.int .i64 i)∧(Lat W U).cell? ⟨p,2,none⟩=some (.int .i64 h'):=fun W u h' hB U =>
  ⟨(hB.ext (lat_ext W U)).cell rfl,(hB.ext (lat_ext W U)).cell rfl,(hB.ext (lat_ext W U)).cell rfl⟩
 have Hb2:=Lib.hid hb2
 clear hb2
 go_enter Tryz.func182,Tryz.ntmps182
 go_wp2_with fail
 generalize wrap64 (wrap64 (hv*6364136223846793005)+1442695040888963407)=h1
 have B1:Blk (w.setCell ⟨p,2,none⟩ (.int .i64 h1)) p 131 #[.slice ao l.length c,.int .i64 i,.int .i64 h1]:=HB.out.set 2 _
 have E1:Ext w0 (w.setCell ⟨p,2,none⟩ (.int .i64 h1)):=HE0.out.setCell hp _
 have F1:Drw p w (w.setCell ⟨p,2,none⟩ (.int .i64 h1)):=fr_set _ _ _ _ _
 generalize w.setCell ⟨p,2,none⟩ (.int .i64 h1)=w1 at B1 E1 F1 ⊢
 have HB1:=Lib.hid B1
 have HE1:=Lib.hid E1
 have HF1:=Lib.hid F1
 have hU:=Hb2.out w1 _ _ B1
 have c0U:=fun U=>(hU U).1
 have c1U:=fun U=>(hU U).2.1
 have c2U:=fun U=>(hU U).2.2
 clear hU B1 E1 F1 k2 f2
 have hE:=Ext.refl w1
 by_cases hil:i<l.length
 · have hilI:(i:Int)<(l.length:Int):=by omega
   have hbi:=hb i
   have hciU:=fun U=>Hcell.out i (Lat w1 U) hil (HE1.out.trans (lat_ext w1 U))
   obtain⟨y,hy⟩:∃y,y=nth l i:=⟨_,rfl⟩
   rw[←hy] at hbi hciU
   clear hy
   have hixi:=hix i
   (refine wp_region_lat (w1) (by kernel_rfl) (by kernel_rfl) hE ?_);(repeat (go_big_quiet_step (first | (fail "no call"))));(refine wpQuiet_nil ?_);(intro W hE');(replace hE:=lat_of hE');(clear hE')
   go_wp2_with fail
   (refine wp_region_lat (w1) (by kernel_rfl) (by kernel_rfl) hE ?_);(repeat (go_big_quiet_step (first | (fail "no call"))));(refine wpQuiet_nil ?_);(intro W hE');(replace hE:=lat_of hE');(clear hE')
   go_wp2_with fail
   (refine wp_region_lat (w1) (by kernel_rfl) (by kernel_rfl) hE ?_);(repeat (go_big_quiet_step (first | (fail "no call"))));(refine wpQuiet_nil ?_);(intro W hE');(replace hE:=lat_of hE');(clear hE')
   rename World=>w2
   have B2:=HB1.out.ext hE
   have k1:=B2.cell (i:=1) (v:=.int .i64 i) rfl
   have f1:=B2.free 1
   have hwi:IntKind.i64.wrap ((i:Int)+1)=((i+1:Nat):Int):=by rw[show (i:Int)+1=((i+1:Nat):Int) by omega];exact wrap_nat (Nat.lt_of_le_of_lt (show i+1≤140737488355329 by omega) (by decide))
   go_wp2_with fail
   go_ret
   have hx:=iand_255 (wrap64 (iand (ixor (ishr h1 33) (ishr h1 45)) 255+y))
   refine⟨_,rfl,hx.1,hx.2,⟨ao,l,c,i+1,h1,?_,by omega,hp,HY.out,(HE1.out.trans hE).setCell hp _⟩,HF1.out.trans ((hE.drw p).trans (fr_set _ _ _ _ _))⟩
   exact B2.set 1 _
 · have hilI:¬(i:Int)<(l.length:Int):=by omega
   (refine wp_region_lat (w1) (by kernel_rfl) (by kernel_rfl) hE ?_);(repeat (go_big_quiet_step (first | (fail "no call"))));(refine wpQuiet_nil ?_);(intro W hE');(replace hE:=lat_of hE');(clear hE')
   go_wp2_with fail
   (refine wp_region_lat (w1) (by kernel_rfl) (by kernel_rfl) hE ?_);(repeat (go_big_quiet_step (first | (fail "no call"))));(refine wpQuiet_nil ?_);(intro W hE');(replace hE:=lat_of hE');(clear hE')
   rename World=>w2
   go_wp2_with fail
   go_ret
   have hx:=iand_255 (ixor (ishr h1 33) (ishr h1 45))
   exact⟨_,rfl,hx.1,hx.2,⟨ao,l,c,i,h1,HB1.out.ext hE,hi,hp,HY.out,HE1.out.trans hE⟩,HF1.out.trans (hE.drw p)⟩
end Go.Zz
namespace Go.Zz
open Go.RowKit Go.Proofs
set_option maxHeartbeats 2000000
set_option maxRecDepth 8000
theorem big_any(v:Value)(l:List Int)(w:World)(h:Byts w v l) :
 Calls Tryz.prog 12 #[v] w fun e w'=>∃b,e=.returned (.bool b)∧Ext w w':=by
 obtain⟨ao,c,rfl,-⟩:=h
 go_enter Tryz.func12,Tryz.ntmps12
 go_wp2_with fail
 go_ret
 exact⟨_,rfl,Ext.refl _⟩
def csF(l:List Int)(a:Int):Int:=if isSetB l a then (cnt a.toNat:Int) else -1
theorem csF_no{l:List Int}{a:Int}(h:isSetB l a=false):csF l a = -1:=by unfold csF;rw[h];rfl
theorem csF_yes{l:List Int}{n:Nat}(h:isSetB l n=true):csF l n=cnt n:=by unfold csF;rw[if_pos h];rfl
theorem sCountSet_any(v:Value)(l:List Int)(a:Int)(w:World)(h:Ints w v l) :
 Calls Tryz.prog 36 #[.agg #[v],.int .i64 a] w fun e w'=>e=.returned (.int .i64 (csF l a))∧Ext w w':=by
 have hE0:=(Ext.refl w).alloc (.cells #[v] 27)
 have hE:=Ext.refl (w.alloc (.cells #[v] 27))
 have hb:=box_cell w v 27
 have hg:∀W,Ext (w.alloc (.cells #[v] 27)) W→Ints W v l:=fun W hW=>h.ext (hE0.trans hW)
 clear h
 cases hs:isSetB l a
 · have Hs:=Lib.hid hs
   go_enter Tryz.func36,Tryz.ntmps36
   go_wp2_with (first | (go_at_call 126;refine (sIsSet_any _ _ _ _ (hg _ hE)).mono ?_;rintro e w' ⟨rfl,hE'⟩;replace hE:=hE.trans hE';clear hE'))
   go_ret
   exact⟨ret_int (csF_no Hs.out).symm,hE0.trans hE⟩
 · obtain⟨n,rfl,h1,h2,h3⟩:=isSetB_nat hs
   have Hc:=Lib.hid (csF_yes hs)
   go_enter Tryz.func36,Tryz.ntmps36
   go_wp2_with (first | (go_at_call 126;refine (sIsSet_any _ _ _ _ (hg _ hE)).mono ?_;rintro e w' ⟨rfl,hE'⟩;replace hE:=hE.trans hE';clear hE') | (go_at_call 125;refine (l3Bits_any _ (h2) _).mono ?_;rintro e w' ⟨rfl,rfl⟩))
   go_ret
   exact⟨ret_int Hc.out.symm,hE0.trans hE⟩
def ssF(l:List Int)(a b:Int):Int:=if isSetB l a&&isSetB l b then (sumF l a.toNat b.toNat:Int) else -1
theorem ssF_no{l:List Int}{a b:Int}(h:(isSetB l a&&isSetB l b)=false):ssF l a b = -1:=by unfold ssF;rw[h];rfl
theorem ssF_yes{l:List Int}{m n:Nat}(h:(isSetB l m&&isSetB l n)=true):ssF l m n=sumF l m n:=by unfold ssF;rw[if_pos h];rfl
theorem sSumOfSets_any(v:Value)(l:List Int)(a b:Int)(w:World)(h:Ints w v l) :
 Calls Tryz.prog 41 #[.agg #[v],.int .i64 a,.int .i64 b] w fun e w'=>e=.returned (.int .i64 (ssF l a b))∧Ext w w':=by
 have hE0:=(Ext.refl w).alloc (.cells #[v] 27)
 have hE:=Ext.refl (w.alloc (.cells #[v] 27))
 have hb:=box_cell w v 27
 have hg:∀W,Ext (w.alloc (.cells #[v] 27)) W→Ints W v l:=fun W hW=>h.ext (hE0.trans hW)
 clear h
 cases ha:isSetB l a
 · have Hs:=Lib.hid (ssF_no (l:=l) (a:=a) (b:=b) (by rw[ha];rfl))
   go_enter Tryz.func41,Tryz.ntmps41
   go_wp2_with (first | (go_at_call 126;refine (sIsSet_any _ _ _ _ (hg _ hE)).mono ?_;rintro e w' ⟨rfl,hE'⟩;replace hE:=hE.trans hE';clear hE'))
   go_ret
   exact⟨ret_int Hs.out.symm,hE0.trans hE⟩
 · cases hb2:isSetB l b
   · have Hs:=Lib.hid (ssF_no (l:=l) (a:=a) (b:=b) (by rw[ha,hb2];rfl))
     go_enter Tryz.func41,Tryz.ntmps41
     go_wp2_with (first | (go_at_call 126;refine (sIsSet_any _ _ _ _ (hg _ hE)).mono ?_;rintro e w' ⟨rfl,hE'⟩;replace hE:=hE.trans hE';clear hE'))
     go_ret
     exact⟨ret_int Hs.out.symm,hE0.trans hE⟩
   · obtain⟨m,rfl,a1,a2,hgr⟩:=isSetB_nat ha
     obtain⟨n,rfl,b1,b2,-⟩:=isSetB_nat hb2
     have Hs:=Lib.hid (ssF_yes (l:=l) (m:=m) (n:=n) (by rw[ha,hb2];rfl))
     have Hgr:=Lib.hid hgr
     go_enter Tryz.func41,Tryz.ntmps41
     go_wp2_with (first | (go_at_call 126;refine (sIsSet_any _ _ _ _ (hg _ hE)).mono ?_;rintro e w' ⟨rfl,hE'⟩;replace hE:=hE.trans hE';clear hE') | (go_at_call 84;refine (l4Sum_any _ _ _ _ _ (hg _ hE) (Hgr) (a2) (b2)).mono ?_;rintro e w' ⟨rfl,hE'⟩;replace hE:=hE.trans hE';clear hE'))
     go_ret
     exact⟨ret_int Hs.out.symm,hE0.trans hE⟩
end Go.Zz
