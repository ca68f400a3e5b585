/- Whether a map keeps sums: of the program and of the reference. -/
import Derived.Test.YtdlbbpeahicakaaGreatGr5
import Derived.Test.YtdlbbpeahicakaaGreatGr8
import Derived.Test.YtdlbbpeahicakaaGreatGr7
import Derived.Test.YtdlbbpeahicakaaGreatGr6
import Derived.Deep.DeepCutAuto
namespace Go.Zz
open Go.RowKit Go.Proofs
set_option maxHeartbeats 4000000
set_option maxRecDepth 8000
theorem keeps_any(v u:Value)(g h:List Int)(vL vM:Value)(L M:List Nat)(w:World)(hv:Ints w v g)(hu:Ints w u h)(Hg:Hid (isGrp g=true))(Hh:Hid (isGrp h=true))(hL:Ints w vL (castL L))(hM:Ints w vM (castL M))(hL24:∀y∈L,y<24)(hM24:∀y∈M,y<24)(hlm:L.length≤M.length)(hl:L.length≤24) :
 Calls Tryz.prog 180 #[.agg #[v],.agg #[u],vL,vM] w fun e w'=>e=.returned (.bool (kpB g h L M))∧Ext w w':=by
 obtain⟨wb,hwb⟩:∃wb,wb=(w.alloc (.cells #[v] 27)).alloc (.cells #[u] 27):=⟨_,rfl⟩
 have hE0:Ext w wb:=by rw[hwb];exact ((Ext.refl _).alloc _).alloc _
 have B0:Blk wb w.heap.size 27 #[v]:=by rw[hwb];exact (Blk.new _ _ _).alloc _
 have B1:Blk wb (w.heap.size+1) 27 #[u]:=by rw[hwb];simpa using Blk.new (w.alloc (.cells #[v] 27)) 27 #[u]
 have b0:∀W,Ext wb W→W.cell? ⟨w.heap.size,0,none⟩=some v:=fun W hW=>(B0.ext hW).cell (i:=0) rfl
 have b1:∀W,Ext wb W→W.cell? ⟨w.heap.size+1,0,none⟩=some u:=fun W hW=>(B1.ext hW).cell (i:=0) rfl
 have HV:=Lib.hid (fun W (hW:Ext wb W)=>hv.ext (hE0.trans hW))
 have HU:=Lib.hid (fun W (hW:Ext wb W)=>hu.ext (hE0.trans hW))
 obtain⟨aoL,cL,adrL,rfl,hadrL,hcellL⟩:=hL.nats
 have hixL:=ints_index (c:=cL) elI szI hadrL
 obtain⟨aoM,cM,adrM,rfl,hadrM,hcellM⟩:=hM.nats
 have hixM:=ints_index (c:=cM) elI szI hadrM
 have hE:=Ext.refl wb
 have Hwb:=Lib.hid hwb
 clear hadrL hadrM hL hM hv hu hwb B0 B1
 have ob:=ord_bd Hg.out
 go_enter Tryz.func180,Tryz.ntmps180
 go_wp2_with fail
 rw[←Hwb.out]
 go_loopw [15] (fun iv wr=>∃i:Nat,i≤L.length∧iv=.int .i64 i∧Ext wb wr∧Hid (∀i',i'<i→∀j p q,i'≤j→j<L.length→p<L.length→p≤q→q<L.length→kEq g h L M i' j p q=true)) (fun iv _=>L.length - (intOf iv).toNat)
 case atStart=>exact⟨0,by omega,rfl,hE,Lib.hid (by omega)⟩
 case round =>
  clear hE
  obtain⟨i,hi,rfl,hE,H1⟩:=hrel
  by_cases hit:i<L.length
  · go_wp2_with fail
    go_loopw [10] (fun jv wq=>∃j:Nat,i≤j∧j≤L.length∧jv=.int .i64 j∧Ext wb wq∧Hid (∀j',i≤j'→j'<j→∀p q,p<L.length→p≤q→q<L.length→kEq g h L M i j' p q=true)) (fun jv _=>L.length - (intOf jv).toNat)
    case atStart=>exact⟨i,by omega,by omega,rfl,hE,Lib.hid (by omega)⟩
    case round =>
     clear hE
     obtain⟨j,hij,hj,rfl,hE,H2⟩:=hrel
     by_cases hjt:j<L.length
     · go_wp2_with fail
       go_loopw [27] (fun pv wq=>∃p:Nat,p≤L.length∧pv=.int .i64 p∧Ext wb wq∧Hid (∀p',p'<p→∀q,p'≤q→q<L.length→kEq g h L M i j p' q=true)) (fun pv _=>L.length - (intOf pv).toNat)
       case atStart=>exact⟨0,by omega,rfl,hE,Lib.hid (by omega)⟩
       case round =>
        clear hE
        obtain⟨p,hp,rfl,hE,H3⟩:=hrel
        by_cases hpt:p<L.length
        · go_wp2_with fail
          go_loopw [12] (fun qv wq=>∃q:Nat,p≤q∧q≤L.length∧qv=.int .i64 q∧Ext wb wq∧Hid (∀q',p≤q'→q'<q→kEq g h L M i j p q'=true)) (fun qv _=>L.length - (intOf qv).toNat)
          case atStart=>exact⟨p,by omega,by omega,rfl,hE,Lib.hid (by omega)⟩
          case round =>
           clear hE
           obtain⟨q,hpq,hq,rfl,hE,H4⟩:=hrel
           by_cases hqt:q<L.length
           · have hpl:p<L.length:=by omega
             have him:i<M.length:=by omega
             have hjm:j<M.length:=by omega
             have hpm:p<M.length:=by omega
             have hqm:q<M.length:=by omega
             have cLi:=fun U=>hcellL i _ hit (hE0.trans (hE.trans (lat_ext wr U)))
             have cLj:=fun U=>hcellL j _ hjt (hE0.trans (hE.trans (lat_ext wr U)))
             have cLp:=fun U=>hcellL p _ hpl (hE0.trans (hE.trans (lat_ext wr U)))
             have cLq:=fun U=>hcellL q _ hqt (hE0.trans (hE.trans (lat_ext wr U)))
             have cMi:=fun U=>hcellM i _ him (hE0.trans (hE.trans (lat_ext wr U)))
             have cMj:=fun U=>hcellM j _ hjm (hE0.trans (hE.trans (lat_ext wr U)))
             have cMp:=fun U=>hcellM p _ hpm (hE0.trans (hE.trans (lat_ext wr U)))
             have cMq:=fun U=>hcellM q _ hqm (hE0.trans (hE.trans (lat_ext wr U)))
             have x0:=fun U=>b0 _ (hE.trans (lat_ext wr U))
             have x1:=fun U=>b1 _ (hE.trans (lat_ext wr U))
             have tLi:=hL24 _ (nthN_mem hit)
             have tLj:=hL24 _ (nthN_mem hjt)
             have tLp:=hL24 _ (nthN_mem hpl)
             have tLq:=hL24 _ (nthN_mem hqt)
             have tMi:=hM24 _ (nthN_mem him)
             have tMj:=hM24 _ (nthN_mem hjm)
             have tMp:=hM24 _ (nthN_mem hpm)
             have tMq:=hM24 _ (nthN_mem hqm)
             have a1:=fun U=>add_any _ _ (nthN L i) (nthN L j) _ (HV.out _ (hE.trans (lat_ext wr U))) Hg (by omega) (by omega)
             have a2:=fun U=>add_any _ _ (nthN L p) (nthN L q) _ (HV.out _ (hE.trans (lat_ext wr U))) Hg (by omega) (by omega)
             have a3:=fun U=>add_any _ _ (nthN M i) (nthN M j) _ (HU.out _ (hE.trans (lat_ext wr U))) Hh (by omega) (by omega)
             have a4:=fun U=>add_any _ _ (nthN M p) (nthN M q) _ (HU.out _ (hE.trans (lat_ext wr U))) Hh (by omega) (by omega)
             have hEb:=hE
             clear hE
             have hE:=Ext.refl wr
             cases e1:(((addF g (nthN L i) (nthN L j):Nat):Int) == ((addF g (nthN L p) (nthN L q):Nat):Int))
             · have Hk:Hid (kEq g h L M i j p q=true):=Lib.hid (by unfold kEq;rw[e1];rfl)
               go_wp2_with fail
               (refine wp_region_lat (wr) (by kernel_rfl) (by kernel_rfl) hE ?_);(repeat (go_big_quiet_step (first | (go_at_call 194;first | with_reducible exact Calls.lat (a1 _) | with_reducible exact Calls.lat (a2 _) | with_reducible exact Calls.lat (a3 _) | with_reducible exact Calls.lat (a4 _)))));(refine wpQuiet_nil ?_);(intro W hE');(replace hE:=lat_of hE');(clear hE')
               go_wp2_with fail
               go_roundw
               case rel=>exact⟨q+1,by omega,by omega,by go_num,hEb.trans hE,Lib.hid fun q' h1 h2=>by by_cases e:q'=q;(subst e;exact Hk.out);exact H4.out q' h1 (by omega)⟩
               case measure=>(simp[intOf];omega)
             · cases e2:(((addF h (nthN M i) (nthN M j):Nat):Int) != ((addF h (nthN M p) (nthN M q):Nat):Int))
               · have Hk:Hid (kEq g h L M i j p q=true):=Lib.hid (by unfold kEq;rw[e1,e2];rfl)
                 go_wp2_with fail
                 (refine wp_region_lat (wr) (by kernel_rfl) (by kernel_rfl) hE ?_);(repeat (go_big_quiet_step (first | (go_at_call 194;first | with_reducible exact Calls.lat (a1 _) | with_reducible exact Calls.lat (a2 _) | with_reducible exact Calls.lat (a3 _) | with_reducible exact Calls.lat (a4 _)))));(refine wpQuiet_nil ?_);(intro W hE');(replace hE:=lat_of hE');(clear hE')
                 go_wp2_with fail
                 go_roundw
                 case rel=>exact⟨q+1,by omega,by omega,by go_num,hEb.trans hE,Lib.hid fun q' h1 h2=>by by_cases e:q'=q;(subst e;exact Hk.out);exact H4.out q' h1 (by omega)⟩
                 case measure=>(simp[intOf];omega)
               · have Hk:Hid (kpB g h L M=false):=Lib.hid (kpB_no hij hjt hpq hqt (by unfold kEq;rw[e1,e2];rfl))
                 go_wp2_with fail
                 (refine wp_region_lat (wr) (by kernel_rfl) (by kernel_rfl) hE ?_);(repeat (go_big_quiet_step (first | (go_at_call 194;first | with_reducible exact Calls.lat (a1 _) | with_reducible exact Calls.lat (a2 _) | with_reducible exact Calls.lat (a3 _) | with_reducible exact Calls.lat (a4 _)))));(refine wpQuiet_nil ?_);(intro W hE');(replace hE:=lat_of hE');(clear hE')
                 go_wp2_with fail
                 go_ret
                 exact⟨ret_bool Hk.out.symm,hE0.trans (hEb.trans hE)⟩
           · have hql:q=L.length:=by omega
             subst hql
             go_wp2_with fail
             go_roundw
             case rel=>exact⟨p+1,by omega,by go_num,hE,Lib.hid fun p' h1=>by by_cases e:p'=p;(subst e;exact H4.out);exact H3.out p' (by omega)⟩
             case measure=>(simp[intOf];omega)
        · have hpl:p=L.length:=by omega
          go_wp2_with fail
          go_roundw
          case rel=>exact⟨j+1,by omega,by omega,by go_num,hE,Lib.hid fun j' h1 h2 p' q' h3=>by by_cases e:j'=j;(subst e;exact H3.out p' (by omega) q');exact H2.out j' h1 (by omega) p' q' h3⟩
          case measure=>(simp[intOf];omega)
     · have hjl:j=L.length:=by omega
       go_wp2_with fail
       go_roundw
       case rel=>exact⟨i+1,by omega,by go_num,hE,Lib.hid fun i' h1 j' p' q' h2 h3=>by by_cases e:i'=i;(subst e;exact H2.out j' h2 (by omega) p' q');exact H1.out i' (by omega) j' p' q' h2 h3⟩
       case measure=>(simp[intOf];omega)
  · have hil:i=L.length:=by omega
    have Hk:Hid (kpB g h L M=true):=Lib.hid (kpB_all fun i' h1=>H1.out i' (by omega))
    go_wp2_with fail
    go_ret
    exact⟨ret_bool Hk.out.symm,hE0.trans hE⟩
theorem sKeeps_any(v u:Value)(g h:List Int)(vL vM:Value)(L M:List Nat)(w:World)(hv:Ints w v g)(hu:Ints w u h)(Hg:Hid (isGrp g=true))(Hh:Hid (isGrp h=true))(hL:Ints w vL (castL L))(hM:Ints w vM (castL M))(hL24:∀y∈L,y<24)(hM24:∀y∈M,y<24)(hlm:L.length≤M.length)(hl:L.length≤24) :
 Calls Tryz.prog 213 #[.agg #[v],.agg #[u],vL,vM] w fun e w'=>e=.returned (.bool (kpB g h L M))∧Ext w w':=by
 obtain⟨wb,hwb⟩:∃wb,wb=(w.alloc (.cells #[v] 27)).alloc (.cells #[u] 27):=⟨_,rfl⟩
 have hE0:Ext w wb:=by rw[hwb];exact ((Ext.refl _).alloc _).alloc _
 have B0:Blk wb w.heap.size 27 #[v]:=by rw[hwb];exact (Blk.new _ _ _).alloc _
 have B1:Blk wb (w.heap.size+1) 27 #[u]:=by rw[hwb];simpa using Blk.new (w.alloc (.cells #[v] 27)) 27 #[u]
 have b0:∀W,Ext wb W→W.cell? ⟨w.heap.size,0,none⟩=some v:=fun W hW=>(B0.ext hW).cell (i:=0) rfl
 have b1:∀W,Ext wb W→W.cell? ⟨w.heap.size+1,0,none⟩=some u:=fun W hW=>(B1.ext hW).cell (i:=0) rfl
 have HV:=Lib.hid (fun W (hW:Ext wb W)=>hv.ext (hE0.trans hW))
 have HU:=Lib.hid (fun W (hW:Ext wb W)=>hu.ext (hE0.trans hW))
 obtain⟨aoL,cL,adrL,rfl,hadrL,hcellL⟩:=hL.nats
 have hixL:=ints_index (c:=cL) elI szI hadrL
 obtain⟨aoM,cM,adrM,rfl,hadrM,hcellM⟩:=hM.nats
 have hixM:=ints_index (c:=cM) elI szI hadrM
 have hE:=Ext.refl wb
 have Hwb:=Lib.hid hwb
 clear hadrL hadrM hL hM hv hu hwb B0 B1
 have ob:=ord_bd Hg.out
 go_enter Tryz.func213,Tryz.ntmps213
 go_wp2_with fail
 rw[←Hwb.out]
 go_loopw [9] (fun iv wr=>∃i:Nat,i≤L.length∧iv=.int .i64 i∧Ext wb wr∧Hid (∀i',i'<i→∀j p q,i'≤j→j<L.length→p<(i'+1)→p≤q→q<L.length→kEq g h L M i' j p q=true)) (fun iv _=>L.length - (intOf iv).toNat)
 case atStart=>exact⟨0,by omega,rfl,hE,Lib.hid (by omega)⟩
 case round =>
  clear hE
  obtain⟨i,hi,rfl,hE,H1⟩:=hrel
  by_cases hit:i<L.length
  · go_wp2_with fail
    go_loopw [10] (fun jv wq=>∃j:Nat,i≤j∧j≤L.length∧jv=.int .i64 j∧Ext wb wq∧Hid (∀j',i≤j'→j'<j→∀p q,p<(i+1)→p≤q→q<L.length→kEq g h L M i j' p q=true)) (fun jv _=>L.length - (intOf jv).toNat)
    case atStart=>exact⟨i,by omega,by omega,rfl,hE,Lib.hid (by omega)⟩
    case round =>
     clear hE
     obtain⟨j,hij,hj,rfl,hE,H2⟩:=hrel
     by_cases hjt:j<L.length
     · go_wp2_with fail
       go_loopw [11] (fun pv wq=>∃p:Nat,p≤(i+1)∧pv=.int .i64 p∧Ext wb wq∧Hid (∀p',p'<p→∀q,p'≤q→q<L.length→kEq g h L M i j p' q=true)) (fun pv _=>(i+1) - (intOf pv).toNat)
       case atStart=>exact⟨0,by omega,rfl,hE,Lib.hid (by omega)⟩
       case round =>
        clear hE
        obtain⟨p,hp,rfl,hE,H3⟩:=hrel
        by_cases hpt:p<(i+1)
        · go_wp2_with fail
          go_loopw [12] (fun qv wq=>∃q:Nat,p≤q∧q≤L.length∧qv=.int .i64 q∧Ext wb wq∧Hid (∀q',p≤q'→q'<q→kEq g h L M i j p q'=true)) (fun qv _=>L.length - (intOf qv).toNat)
          case atStart=>exact⟨p,by omega,by omega,rfl,hE,Lib.hid (by omega)⟩
          case round =>
           clear hE
           obtain⟨q,hpq,hq,rfl,hE,H4⟩:=hrel
           by_cases hqt:q<L.length
           · have hpl:p<L.length:=by omega
             have him:i<M.length:=by omega
             have hjm:j<M.length:=by omega
             have hpm:p<M.length:=by omega
             have hqm:q<M.length:=by omega
             have cLi:=fun U=>hcellL i _ hit (hE0.trans (hE.trans (lat_ext wr U)))
             have cLj:=fun U=>hcellL j _ hjt (hE0.trans (hE.trans (lat_ext wr U)))
             have cLp:=fun U=>hcellL p _ hpl (hE0.trans (hE.trans (lat_ext wr U)))
             have cLq:=fun U=>hcellL q _ hqt (hE0.trans (hE.trans (lat_ext wr U)))
             have cMi:=fun U=>hcellM i _ him (hE0.trans (hE.trans (lat_ext wr U)))
             have cMj:=fun U=>hcellM j _ hjm (hE0.trans (hE.trans (lat_ext wr U)))
             have cMp:=fun U=>hcellM p _ hpm (hE0.trans (hE.trans (lat_ext wr U)))
             have cMq:=fun U=>hcellM q _ hqm (hE0.trans (hE.trans (lat_ext wr U)))
             have x0:=fun U=>b0 _ (hE.trans (lat_ext wr U))
             have x1:=fun U=>b1 _ (hE.trans (lat_ext wr U))
             have tLi:=hL24 _ (nthN_mem hit)
             have tLj:=hL24 _ (nthN_mem hjt)
             have tLp:=hL24 _ (nthN_mem hpl)
             have tLq:=hL24 _ (nthN_mem hqt)
             have tMi:=hM24 _ (nthN_mem him)
             have tMj:=hM24 _ (nthN_mem hjm)
             have tMp:=hM24 _ (nthN_mem hpm)
             have tMq:=hM24 _ (nthN_mem hqm)
             have a1:=fun U=>l2Add_any _ _ (nthN L i) (nthN L j) _ (HV.out _ (hE.trans (lat_ext wr U))) Hg (by omega) (by omega)
             have a2:=fun U=>l2Add_any _ _ (nthN L p) (nthN L q) _ (HV.out _ (hE.trans (lat_ext wr U))) Hg (by omega) (by omega)
             have a3:=fun U=>l2Add_any _ _ (nthN M i) (nthN M j) _ (HU.out _ (hE.trans (lat_ext wr U))) Hh (by omega) (by omega)
             have a4:=fun U=>l2Add_any _ _ (nthN M p) (nthN M q) _ (HU.out _ (hE.trans (lat_ext wr U))) Hh (by omega) (by omega)
             have hEb:=hE
             clear hE
             have hE:=Ext.refl wr
             cases e1:(((addF g (nthN L i) (nthN L j):Nat):Int) == ((addF g (nthN L p) (nthN L q):Nat):Int))
             · have Hk:Hid (kEq g h L M i j p q=true):=Lib.hid (by unfold kEq;rw[e1];rfl)
               go_wp2_with fail
               (refine wp_region_lat (wr) (by kernel_rfl) (by kernel_rfl) hE ?_);(repeat (go_big_quiet_step (first | (go_at_call 141;first | with_reducible exact Calls.lat (a1 _) | with_reducible exact Calls.lat (a2 _) | with_reducible exact Calls.lat (a3 _) | with_reducible exact Calls.lat (a4 _)))));(refine wpQuiet_nil ?_);(intro W hE');(replace hE:=lat_of hE');(clear hE')
               go_wp2_with fail
               go_roundw
               case rel=>exact⟨q+1,by omega,by omega,by go_num,hEb.trans hE,Lib.hid fun q' h1 h2=>by by_cases e:q'=q;(subst e;exact Hk.out);exact H4.out q' h1 (by omega)⟩
               case measure=>(simp[intOf];omega)
             · cases e2:(((addF h (nthN M i) (nthN M j):Nat):Int) != ((addF h (nthN M p) (nthN M q):Nat):Int))
               · have Hk:Hid (kEq g h L M i j p q=true):=Lib.hid (by unfold kEq;rw[e1,e2];rfl)
                 go_wp2_with fail
                 (refine wp_region_lat (wr) (by kernel_rfl) (by kernel_rfl) hE ?_);(repeat (go_big_quiet_step (first | (go_at_call 141;first | with_reducible exact Calls.lat (a1 _) | with_reducible exact Calls.lat (a2 _) | with_reducible exact Calls.lat (a3 _) | with_reducible exact Calls.lat (a4 _)))));(refine wpQuiet_nil ?_);(intro W hE');(replace hE:=lat_of hE');(clear hE')
                 go_wp2_with fail
                 go_roundw
                 case rel=>exact⟨q+1,by omega,by omega,by go_num,hEb.trans hE,Lib.hid fun q' h1 h2=>by by_cases e:q'=q;(subst e;exact Hk.out);exact H4.out q' h1 (by omega)⟩
                 case measure=>(simp[intOf];omega)
               · have Hk:Hid (kpB g h L M=false):=Lib.hid (kpB_no hij hjt hpq hqt (by unfold kEq;rw[e1,e2];rfl))
                 go_wp2_with fail
                 (refine wp_region_lat (wr) (by kernel_rfl) (by kernel_rfl) hE ?_);(repeat (go_big_quiet_step (first | (go_at_call 141;first | with_reducible exact Calls.lat (a1 _) | with_reducible exact Calls.lat (a2 _) | with_reducible exact Calls.lat (a3 _) | with_reducible exact Calls.lat (a4 _)))));(refine wpQuiet_nil ?_);(intro W hE');(replace hE:=lat_of hE');(clear hE')
                 go_wp2_with fail
                 go_ret
                 exact⟨ret_bool Hk.out.symm,hE0.trans (hEb.trans hE)⟩
           · have hql:q=L.length:=by omega
             subst hql
             go_wp2_with fail
             go_roundw
             case rel=>exact⟨p+1,by omega,by go_num,hE,Lib.hid fun p' h1=>by by_cases e:p'=p;(subst e;exact H4.out);exact H3.out p' (by omega)⟩
             case measure=>(simp[intOf];omega)
        · have hpl:p=(i+1):=by omega
          go_wp2_with fail
          go_roundw
          case rel=>exact⟨j+1,by omega,by omega,by go_num,hE,Lib.hid fun j' h1 h2 p' q' h3=>by by_cases e:j'=j;(subst e;exact H3.out p' (by omega) q');exact H2.out j' h1 (by omega) p' q' h3⟩
          case measure=>(simp[intOf];omega)
     · have hjl:j=L.length:=by omega
       go_wp2_with fail
       go_roundw
       case rel=>exact⟨i+1,by omega,by go_num,hE,Lib.hid fun i' h1 j' p' q' h2 h3=>by by_cases e:i'=i;(subst e;exact H2.out j' h2 (by omega) p' q');exact H1.out i' (by omega) j' p' q' h2 h3⟩
       case measure=>(simp[intOf];omega)
  · have hil:i=L.length:=by omega
    have Hk:Hid (kpB g h L M=true):=Lib.hid (kpB_half fun i' h1=>H1.out i' (by omega))
    go_wp2_with fail
    go_ret
    exact⟨ret_bool Hk.out.symm,hE0.trans hE⟩
end Go.Zz
namespace Go.Zz
open Go.RowKit Go.Proofs
set_option maxHeartbeats 1000000
set_option maxRecDepth 4000
theorem sSetOf_any(v:Value)(l:List Int)(vX:Value)(X:List Int)(w:World)(h:Ints w v l)(hX:Ints w vX X) :
 Calls Tryz.prog 119 #[.agg #[v],vX] w fun e w'=>e=.returned (.tuple #[.int .i64 (soV l X),.bool (soB l X)])∧Ext w w':=by
 obtain⟨wb,hwb⟩:∃wb,wb=w.alloc (.cells #[v] 27):=⟨_,rfl⟩
 have hE0:=(Ext.refl w).alloc (.cells #[v] 27)
 have hb:=box_cell w v 27
 rw[←hwb] at hE0 hb
 have hg:∀W,Ext wb W→Ints W v l:=fun W hW=>h.ext (hE0.trans hW)
 have hE:=Ext.refl wb
 have Hsz:Hid (w.heap.size+1=wb.heap.size):=Lib.hid (by rw[hwb];simp[go_sem])
 have Hwb:=Lib.hid hwb
 clear hwb h
 obtain⟨ao,c,adr,rfl,hlen,hadr,hcell⟩:=hX.op
 have hix:=ints_index (c:=c) elI szI hadr
 clear hadr hX
 go_enter Tryz.func119,Tryz.ntmps119
 go_wp2_with fail
 rw[←Hwb.out]
 go_loopw [6,7] (fun av iv wr=>∃(k a:Nat),k≤X.length∧iv=.int .i64 k∧av=.int .i64 a∧a<2 ^ 24∧Ext wb wr∧Hid (soG l X 0=soG l (X.drop k) a)) (fun _ iv _=>X.length - (intOf iv).toNat)
 case atStart=>exact⟨0,0,by omega,rfl,rfl,by decide,hE,Lib.hid rfl⟩
 case round =>
  clear hE
  obtain⟨k,a,hk,rfl,rfl,ha,hE,H⟩:=hrel
  by_cases hlt:k<X.length
  · have hd:=drop_nth X k hlt
    have hck:=fun U=>hcell k _ hlt (hE0.trans (hE.trans (lat_ext wr U)))
    have kb:=fun U=>hb _ (hE.trans (lat_ext wr U))
    have cI:=fun U=>l2Is_any v l (nth X k) (Lat wr U) (hg _ (hE.trans (lat_ext wr U)))
    have hEb:=hE
    clear hE
    have hE:=Ext.refl wr
    cases hh:hasB l (nth X k)
    · have Hn:Hid (soB l X=false∧soV l X=0):=Lib.hid (soG_no (by rw[H.out,hd,soG_hno hh]))
      rw[hh] at cI
      clear hd hh
      go_wp2_with fail
      (refine wp_region_lat (wr) (by kernel_rfl) (by kernel_rfl) hE ?_);(repeat (go_big_quiet_step (first | (go_at_call 99;with_reducible exact Calls.lat (cI _)))));(refine wpQuiet_nil ?_);(intro W hE');(replace hE:=lat_of hE');(clear hE')
      go_wp2_with fail
      exact bodyPost_ret (v:=.tuple #[.int .i64 0,.bool false]) (by simp[results,Tryz.results119,go_sem]) rfl ⟨by rw[Hn.out.1,Hn.out.2],hE0.trans (hEb.trans hE)⟩
    · rw[hh] at cI
      obtain⟨n,hn,hno,hgr⟩:=hasB_nat hh
      have hob:=ord_bd hgr
      have hck3:∀W,Ext wr W→W.cell? (adr k)=some (.int .i64 (n:Int)):=fun W hW=>by rw[←hn];exact hcell k _ hlt (hE0.trans (hEb.trans hW))
      rw[hn] at hd hh cI hck
      have hsh:=ishr_nat (a:=a) (n:=n) (by omega)
      have hbt:=bit_test' (a:=a) (n:=n) (by omega) (by omega)
      have hs1:=ishl_one (n:=n) (by omega)
      have hpw:=pw_le (n:=n) (by omega)
      cases ht:a.testBit n
      · rw[ht] at hbt
        have Hn:Hid (soG l X 0=soG l (X.drop (k+1)) (a ||| 2 ^ n)):=Lib.hid (by rw[H.out,hd,soG_go hh ht])
        have Ha:Hid (((a:Int)+((pw n:Nat):Int))=((a ||| 2 ^ n:Nat):Int)):=Lib.hid (by rw[←add_bit ht,pw_eq];simp)
        have hab:a ||| 2 ^ n<2 ^ 24:=Nat.or_lt_two_pow ha (Nat.pow_lt_pow_right (by omega) (by omega))
        clear hd hh ht hgr hn
        go_wp2_with fail
        (refine wp_region_lat (wr) (by kernel_rfl) (by kernel_rfl) hE ?_);(repeat (go_big_quiet_step (first | (go_at_call 99;with_reducible exact Calls.lat (cI _)))));(refine wpQuiet_nil ?_);(intro W hE');(replace hE:=lat_of hE');(clear hE')
        go_wp2_with fail
        go_roundw
        case rel=>exact⟨k+1,a ||| 2 ^ n,by omega,by go_num,by rw[Ha.out],hab,hEb.trans hE,Hn⟩
        case measure=>(simp[intOf];omega)
      · rw[ht] at hbt
        have Hn:Hid (soB l X=false∧soV l X=0):=Lib.hid (soG_no (by rw[H.out,hd,soG_bno ht]))
        clear hd hh ht hgr hn
        go_wp2_with fail
        (refine wp_region_lat (wr) (by kernel_rfl) (by kernel_rfl) hE ?_);(repeat (go_big_quiet_step (first | (go_at_call 99;with_reducible exact Calls.lat (cI _)))));(refine wpQuiet_nil ?_);(intro W hE');(replace hE:=lat_of hE');(clear hE')
        go_wp2_with fail
        exact bodyPost_ret (v:=.tuple #[.int .i64 0,.bool false]) (by simp[results,Tryz.results119,go_sem]) rfl ⟨by rw[Hn.out.1,Hn.out.2],hE0.trans (hEb.trans hE)⟩
  · have hkl:k=X.length:=by omega
    have Hn:Hid (soB l X=isGrp l∧soV l X=(a:Int)):=Lib.hid (soG_yes (by rw[H.out,hkl,List.drop_length];rfl))
    clear hkl
    go_wp2_with (refine (sIsGroup_any _ _ _ (hg _ hE)).mono ?_;rintro e w' ⟨rfl,hE'⟩;replace hE:=hE.trans hE')
    exact bodyPost_ret (v:=.tuple #[.int .i64 a,.bool (isGrp l)]) (by simp[results,Tryz.results119,go_sem]) rfl ⟨by rw[Hn.out.1,Hn.out.2],hE0.trans hE⟩
theorem sFine_any(v u:Value)(g h:List Int)(vX vY:Value)(X Y:List Int)(w:World)(hv:Ints w v g)(hu:Ints w u h)(hX:Ints w vX X)(hY:Ints w vY Y) :
 Calls Tryz.prog 215 #[.agg #[v],.agg #[u],vX,vY] w fun e w'=>e=.returned (.bool (fineF g h X Y))∧Ext w w':=by
 obtain⟨wb,hwb⟩:∃wb,wb=(w.alloc (.cells #[v] 27)).alloc (.cells #[u] 27):=⟨_,rfl⟩
 have hE0:Ext w wb:=by rw[hwb];exact ((Ext.refl _).alloc _).alloc _
 have B0:Blk wb w.heap.size 27 #[v]:=by rw[hwb];exact (Blk.new _ _ _).alloc _
 have B1:Blk wb (w.heap.size+1) 27 #[u]:=by rw[hwb];simpa using Blk.new (w.alloc (.cells #[v] 27)) 27 #[u]
 have b0:∀W,Ext wb W→W.cell? ⟨w.heap.size,0,none⟩=some v:=fun W hW=>(B0.ext hW).cell (i:=0) rfl
 have b1:∀W,Ext wb W→W.cell? ⟨w.heap.size+1,0,none⟩=some u:=fun W hW=>(B1.ext hW).cell (i:=0) rfl
 have HV:=Lib.hid (fun W (hW:Ext wb W)=>hv.ext (hE0.trans hW))
 have HU:=Lib.hid (fun W (hW:Ext wb W)=>hu.ext (hE0.trans hW))
 have hE:=Ext.refl wb
 have Hwb:=Lib.hid hwb
 clear hv hu hwb B0 B1
 have HX:=Lib.hid (fun W (hW:Ext wb W)=>hX.ext (hE0.trans hW))
 obtain⟨aoX,cX,-,rfl,hlenX,-,-⟩:=hX.op
 obtain⟨ao,c,adr,rfl,hlen,hadr,hcell⟩:=hY.op
 have hix:=ints_index (c:=c) elI szI hadr
 clear hadr hX hY
 go_enter Tryz.func215,Tryz.ntmps215
 go_wp2_with fail
 rw[←Hwb.out]
 refine (sSetOf_any _ _ _ _ _ (HV.out _ hE) (HX.out _ hE)).mono ?_
 rintro e w1 ⟨rfl,hE1⟩
 replace hE:=hE.trans hE1
 clear hE1
 go_wp2_with fail
 go_loopw [11] (fun iv wr=>∃k:Nat,k≤Y.length∧iv=.int .i64 k∧Ext wb wr∧Hid (∀j,j<k→hasB h (nth Y j)=true)) (fun iv _=>Y.length - (intOf iv).toNat)
 case atStart=>exact⟨0,by omega,rfl,hE,Lib.hid (by omega)⟩
 case round =>
  clear hE
  obtain⟨k,hk,rfl,hE,H⟩:=hrel
  by_cases hlt:k<Y.length
  · have hck:=fun U=>hcell k _ hlt (hE0.trans (hE.trans (lat_ext wr U)))
    have kb:=fun U=>b1 _ (hE.trans (lat_ext wr U))
    have cI:=fun U=>l2Is_any u h (nth Y k) (Lat wr U) (HU.out _ (hE.trans (lat_ext wr U)))
    have hEb:=hE
    clear hE
    have hE:=Ext.refl wr
    cases hh:hasB h (nth Y k)
    · have Hn:Hid (fineF g h X Y=false):=Lib.hid (by
       unfold fineF
       have:Y.all (hasB h)=false:=by
        rw[List.all_eq_false];exact⟨_,nth_mem hlt,by rw[hh];simp⟩
       rw[this];rfl)
      rw[hh] at cI
      clear hh
      go_wp2_with fail
      (refine wp_region_lat (wr) (by kernel_rfl) (by kernel_rfl) hE ?_);(repeat (go_big_quiet_step (first | (go_at_call 99;with_reducible exact Calls.lat (cI _)))));(refine wpQuiet_nil ?_);(intro W hE');(replace hE:=lat_of hE');(clear hE')
      go_wp2_with fail
      go_ret
      exact⟨ret_bool Hn.out.symm,hE0.trans (hEb.trans hE)⟩
    · have Hh:=Lib.hid hh
      rw[hh] at cI
      clear hh
      go_wp2_with fail
      (refine wp_region_lat (wr) (by kernel_rfl) (by kernel_rfl) hE ?_);(repeat (go_big_quiet_step (first | (go_at_call 99;with_reducible exact Calls.lat (cI _)))));(refine wpQuiet_nil ?_);(intro W hE');(replace hE:=lat_of hE');(clear hE')
      go_wp2_with fail
      go_roundw
      case rel=>exact⟨k+1,by omega,by go_num,hEb.trans hE,Lib.hid fun j hj=>by by_cases e:j=k;(subst e;exact Hh.out);exact H.out j (by omega)⟩
      case measure=>(simp[intOf];omega)
  · have Hn:Hid (fineF g h X Y=(soB g X&&isGrp h&&decide (X.length=Y.length)&&decide (1≤X.length∧X.length≤6))):=Lib.hid (by
     unfold fineF
     have:Y.all (hasB h)=true:=List.all_eq_true.2 fun x hx=>by
      obtain⟨j,hj,rfl⟩:=mem_nth hx;exact H.out j (by omega)
     rw[this];rfl)
    have cG:=fun W (hW:Ext wb W)=>sIsGroup_any u h W (HU.out W hW)
    have cI:=fun W=>l1In_any ((X.length:Nat):Int) 1 6 W
    have hin:inB ((X.length:Nat):Int) 1 6=decide (1≤X.length∧X.length≤6):=by
     rw[Bool.eq_iff_iff,inB_t,decide_eq_true_iff];omega
    rw[hin] at cI
    have heq:(((X.length:Nat):Int) == ((Y.length:Nat):Int))=decide (X.length=Y.length):=by
     rw[Bool.eq_iff_iff,beq_iff_eq,decide_eq_true_iff];omega
    clear hin
    obtain⟨d1,hd1⟩:∃d,d=soB g X:=⟨_,rfl⟩
    obtain⟨d2,hd2⟩:∃d,d=isGrp h:=⟨_,rfl⟩
    obtain⟨d3,hd3⟩:∃d,d=decide (X.length=Y.length):=⟨_,rfl⟩
    obtain⟨d4,hd4⟩:∃d,d=decide (1≤X.length∧X.length≤6):=⟨_,rfl⟩
    rw[←hd1,←hd2,←hd3,←hd4] at Hn
    rw[←hd1]
    rw[←hd2] at cG
    rw[←hd3] at heq
    rw[←hd4] at cI
    clear hd1 hd2 hd3 hd4
    cases d1
    · go_wp2_with fail
      go_ret
      exact⟨ret_bool Hn.out.symm,hE0.trans hE⟩
    cases d2
    · go_wp2_with (refine (cG _ hE).mono ?_;rintro e w' ⟨rfl,hE'⟩;replace hE:=hE.trans hE')
      go_ret
      exact⟨ret_bool Hn.out.symm,hE0.trans hE⟩
    cases d3
    · go_wp2_with (refine (cG _ hE).mono ?_;rintro e w' ⟨rfl,hE'⟩;replace hE:=hE.trans hE')
      go_ret
      exact⟨ret_bool Hn.out.symm,hE0.trans hE⟩
    go_wp2_with (first | (go_at_call 100;refine (cG _ hE).mono ?_;rintro e w' ⟨rfl,hE'⟩;replace hE:=hE.trans hE') | (go_at_call 139;refine (cI _).mono ?_;rintro e w' ⟨rfl,rfl⟩))
    go_ret
    exact⟨ret_bool (by rw[Hn.out];rfl),hE0.trans hE⟩
theorem fine_nat{g h X Y:List Int}(H:fineF g h X Y=true):isGrp g=true∧isGrp h=true∧(∃L M,X=castL L∧Y=castL M∧(∀y∈L,y<24)∧(∀y∈M,y<24))∧X.length=Y.length∧X.length≤6:=by
 unfold fineF at H
 simp only[Bool.and_eq_true,decide_eq_true_eq] at H
 obtain⟨h1,⟨⟨h2,h3⟩,h4⟩,-,h5⟩:=H
 unfold soB at h2
 rw[Bool.and_eq_true] at h2
 have key:∀(X:List Int) (a:Nat),(soG g X a).isSome=true→∀x∈X,hasB g x=true:=by
  intro X
  induction X with
  | nil=>intro a _ x hx;cases hx
  | cons y X ih =>
   intro a e x hx
   unfold soG at e
   split at e
   · next hc =>
      rw[Bool.and_eq_true] at hc
      rcases List.mem_cons.1 hx with rfl | hx
      · exact hc.1
      · exact ih _ e x hx
   · cases e
 have toN:∀(l:List Int) (X:List Int),(∀x∈X,hasB l x=true)→X=castL (natL X)∧∀y∈natL X,y<24:=by
  intro l X hX
  constructor
  · unfold castL natL;rw[List.map_map]
    conv=>lhs;rw[←List.map_id X]
    refine List.map_congr_left fun x hx=>?_
    obtain⟨n,rfl,-,-⟩:=hasB_nat (hX x hx);rfl
  · intro y hy
    unfold natL at hy
    obtain⟨x,hx,rfl⟩:=List.mem_map.1 hy
    obtain⟨n,rfl,hn,hg⟩:=hasB_nat (hX x hx)
    have:=(ord_bd hg).2
    show n<24;omega
 obtain⟨a1,a2⟩:=toN g X (key X 0 h2.1)
 obtain⟨b1,b2⟩:=toN h Y (List.all_eq_true.1 h1)
 exact⟨h2.2,h3,⟨_,_,a1,b1,a2,b2⟩,h4,h5⟩
theorem sMap_any(v u:Value)(g h:List Int)(vX vY:Value)(X Y:List Int)(w:World)(hv:Ints w v g)(hu:Ints w u h)(hX:Ints w vX X)(hY:Ints w vY Y) :
 Calls Tryz.prog 187 #[.agg #[v],.agg #[u],vX,vY] w fun e w'=>e=.returned (.bool (fmF g h X Y))∧Ext w w':=by
 obtain⟨wb,hwb⟩:∃wb,wb=(w.alloc (.cells #[v] 27)).alloc (.cells #[u] 27):=⟨_,rfl⟩
 have hE0:Ext w wb:=by rw[hwb];exact ((Ext.refl _).alloc _).alloc _
 have B0:Blk wb w.heap.size 27 #[v]:=by rw[hwb];exact (Blk.new _ _ _).alloc _
 have B1:Blk wb (w.heap.size+1) 27 #[u]:=by rw[hwb];simpa using Blk.new (w.alloc (.cells #[v] 27)) 27 #[u]
 have b0:∀W,Ext wb W→W.cell? ⟨w.heap.size,0,none⟩=some v:=fun W hW=>(B0.ext hW).cell (i:=0) rfl
 have b1:∀W,Ext wb W→W.cell? ⟨w.heap.size+1,0,none⟩=some u:=fun W hW=>(B1.ext hW).cell (i:=0) rfl
 have HV:=Lib.hid (fun W (hW:Ext wb W)=>hv.ext (hE0.trans hW))
 have HU:=Lib.hid (fun W (hW:Ext wb W)=>hu.ext (hE0.trans hW))
 have hE:=Ext.refl wb
 have Hwb:=Lib.hid hwb
 clear hv hu hwb B0 B1
 have HX:=Lib.hid (fun W (hW:Ext wb W)=>hX.ext (hE0.trans hW))
 have HY:=Lib.hid (fun W (hW:Ext wb W)=>hY.ext (hE0.trans hW))
 clear hX hY
 have cF:=fun W (hW:Ext wb W)=>sFine_any v u g h vX vY X Y W (HV.out W hW) (HU.out W hW) (HX.out W hW) (HY.out W hW)
 cases hf:fineF g h X Y
 · have Hn:Hid (fmF g h X Y=false):=Lib.hid (by unfold fmF;rw[hf];rfl)
   rw[hf] at cF
   go_enter Tryz.func187,Tryz.ntmps187
   go_wp2_with fail
   rw[←Hwb.out]
   refine (cF _ hE).mono ?_
   rintro e w' ⟨rfl,hE'⟩
   replace hE:=hE.trans hE'
   go_wp2_with fail
   go_ret
   exact⟨ret_bool Hn.out.symm,hE0.trans hE⟩
 · have Hn:Hid (fmF g h X Y=kpB g h (natL X) (natL Y)):=Lib.hid (by unfold fmF;rw[hf];rfl)
   rw[hf] at cF
   obtain⟨hg,hh,⟨L,M,rfl,rfl,hL,hM⟩,hlm,hl6⟩:=fine_nat hf
   rw[castL_len,castL_len] at hlm
   rw[castL_len] at hl6
   rw[natL_cast,natL_cast] at Hn
   have cK:=fun W (hW:Ext wb W)=>sKeeps_any v u g h vX vY L M W (HV.out W hW) (HU.out W hW) (Lib.hid hg) (Lib.hid hh) (HX.out W hW) (HY.out W hW) hL hM (by omega) (by omega)
   clear hf hg hh hlm hL hM
   go_enter Tryz.func187,Tryz.ntmps187
   go_wp2_with fail
   rw[←Hwb.out]
   refine (cF _ hE).mono ?_
   rintro e w' ⟨rfl,hE'⟩
   replace hE:=hE.trans hE'
   go_wp2_with (refine (cK _ hE).mono ?_;rintro e w' ⟨rfl,hE'⟩;replace hE:=hE.trans hE')
   go_ret
   exact⟨ret_bool Hn.out.symm,hE0.trans hE⟩
theorem sIso_any(v u:Value)(g h:List Int)(vX vY:Value)(X Y:List Int)(w:World)(hv:Ints w v g)(hu:Ints w u h)(hX:Ints w vX X)(hY:Ints w vY Y) :
 Calls Tryz.prog 120 #[.agg #[v],.agg #[u],vX,vY] w fun e w'=>e=.returned (.bool (isoF g h X Y))∧Ext w w':=by
 obtain⟨wb,hwb⟩:∃wb,wb=(w.alloc (.cells #[v] 27)).alloc (.cells #[u] 27):=⟨_,rfl⟩
 have hE0:Ext w wb:=by rw[hwb];exact ((Ext.refl _).alloc _).alloc _
 have B0:Blk wb w.heap.size 27 #[v]:=by rw[hwb];exact (Blk.new _ _ _).alloc _
 have B1:Blk wb (w.heap.size+1) 27 #[u]:=by rw[hwb];simpa using Blk.new (w.alloc (.cells #[v] 27)) 27 #[u]
 have b0:∀W,Ext wb W→W.cell? ⟨w.heap.size,0,none⟩=some v:=fun W hW=>(B0.ext hW).cell (i:=0) rfl
 have b1:∀W,Ext wb W→W.cell? ⟨w.heap.size+1,0,none⟩=some u:=fun W hW=>(B1.ext hW).cell (i:=0) rfl
 have HV:=Lib.hid (fun W (hW:Ext wb W)=>hv.ext (hE0.trans hW))
 have HU:=Lib.hid (fun W (hW:Ext wb W)=>hu.ext (hE0.trans hW))
 have hE:=Ext.refl wb
 have Hwb:=Lib.hid hwb
 clear hv hu hwb B0 B1
 have HX:=Lib.hid (fun W (hW:Ext wb W)=>hX.ext (hE0.trans hW))
 have HY:=Lib.hid (fun W (hW:Ext wb W)=>hY.ext (hE0.trans hW))
 clear hX hY
 have cF:=fun W (hW:Ext wb W)=>sMap_any v u g h vX vY X Y W (HV.out W hW) (HU.out W hW) (HX.out W hW) (HY.out W hW)
 have cG:=fun W (hW:Ext wb W)=>sMap_any u v h g vY vX Y X W (HU.out W hW) (HV.out W hW) (HY.out W hW) (HX.out W hW)
 cases hf:fmF g h X Y
 · have Hn:Hid (isoF g h X Y=false):=Lib.hid (by unfold isoF;rw[hf];rfl)
   rw[hf] at cF
   go_enter Tryz.func120,Tryz.ntmps120
   go_wp2_with fail
   rw[←Hwb.out]
   refine (cF _ hE).mono ?_
   rintro e w' ⟨rfl,hE'⟩
   replace hE:=hE.trans hE'
   go_wp2_with fail
   go_ret
   exact⟨ret_bool Hn.out.symm,hE0.trans hE⟩
 · have Hn:Hid (isoF g h X Y=fmF h g Y X):=Lib.hid (by unfold isoF;rw[hf];rfl)
   rw[hf] at cF
   go_enter Tryz.func120,Tryz.ntmps120
   go_wp2_with fail
   rw[←Hwb.out]
   refine (cF _ hE).mono ?_
   rintro e w' ⟨rfl,hE'⟩
   replace hE:=hE.trans hE'
   go_wp2_with (refine (cG _ hE).mono ?_;rintro e w' ⟨rfl,hE'⟩;replace hE:=hE.trans hE')
   go_ret
   exact⟨ret_bool Hn.out.symm,hE0.trans hE⟩
end Go.Zz
namespace Go.Zz
open Go.RowKit Go.Proofs
set_option maxHeartbeats 1000000
def Oth(TI:TypeId)(w w':World):Prop:=∀b T cs,T≠TI→Blk w b T cs→Blk w' b T cs
theorem Oth.refl(TI:TypeId)(w:World):Oth TI w w:=fun _ _ _ _ h=>h
theorem Oth.trans{TI:TypeId}{a b c:World}(h:Oth TI a b)(k:Oth TI b c):Oth TI a c:=fun b T cs hT hB=>k b T cs hT (h b T cs hT hB)
theorem Ext.oth{w w':World}(h:Ext w w')(TI:TypeId):Oth TI w w':=fun _ _ _ _ hB=>hB.ext h
theorem own_not{TI T:TypeId}{w0 w:World}{v:Value}{l:List Int}(h:Own TI w0 w v l){g:Nat}{cs:Array Value}(hB:Blk w g T cs)(hT:T≠TI):v.ownBlock≠some g:=fun e=>by
 obtain⟨h1,h2⟩:=h
 rcases h1.2 with ⟨rfl,_⟩ | ⟨g',cap,cur,rfl,_,hh,_⟩
 · cases e
 · simp[Value.ownBlock] at e
   subst e
   have hB':w.heap[g']?=some (.cells cs T (0,0)):=hB
   rw[hB'] at hh
   simp at hh
   exact hT hh.2
theorem oth_grown{TI:TypeId}{w0 w w':World}{v:Value}{l:List Int}(h:Own TI w0 w v l)(hg:w.grownBy w' v.ownBlock):Oth TI w w':=fun b T cs hT hB =>
 hB.grown hg fun k hk e=>own_not h hB hT (by rw[hk,e])
theorem run_appendsE{P:Program}{T TI:TypeId}(hT:IntSl P T TI)(ty:TypeId)(wb w0 w:World)(v u:Value)(l m:List Int)(hO:OwnE TI wb w0 w v l)(hI:Ints w u m)(hE:Ext w0 w)(hn:l.length+m.length≤17592186044416) :
 ∃v' w',(Builtin.append_ #[T,T] ty #[v,u]).run P w=.ok v' w'∧OwnE TI wb w0 w' v' (l++m)∧Ext w0 w'∧Oth TI w w':=by
 obtain⟨i,hi,hz,hs1,hby⟩:=hT.info
 obtain⟨ao,c,rfl,hmc,hml,hc⟩:=hI
 cases ao with
 | none =>
  have hm:m=[]:=by
   cases m with
   | nil=>rfl
   | cons y m=>obtain⟨_,h,_⟩:=hc 0 (by simp);cases h
  subst hm
  refine⟨v,w,?_,by simpa using hO,hE,Oth.refl _ _⟩
  rcases hO with ⟨g,-,rfl,rfl,hB⟩ | hO
  · simp[Builtin.append_,run_underlying hT.und,sizeOf,typeInfo,hi,Builtin.lenOf,Builtin.firstCells,storeCells,Result.andThen]
  · rcases hO.1.2 with ⟨rfl,_⟩ | ⟨g,cap,cur,rfl,_,_,hnc,_⟩
    · simp[Builtin.append_,run_underlying hT.und,sizeOf,typeInfo,hi,Builtin.lenOf,Builtin.firstCells]
    · simp[Builtin.append_,run_underlying hT.und,sizeOf,typeInfo,hi,Builtin.lenOf,Builtin.firstCells,hnc,storeCells,Result.andThen]
 | some ad =>
  have hnews:∀j u,(m.map (Value.int .i64))[j]?=some u→w.cell? (ad.add j)=some u:=by
   intro j u hu
   have hj:j<m.length:=by have:=(List.getElem?_eq_some_iff.1 hu).1;simpa using this
   obtain⟨a',ha',hc'⟩:=hc j hj
   cases ha'
   rw[hc',←hu,nth_get _ _ hj];simp[hj]
  rcases hO with ⟨g,h0,rfl,rfl,hB⟩ | hO
  · by_cases hm:m=[]
    · subst hm
      have hown:w.ownsRow wb.heap.size TI 1 (.slice (some ⟨g,0,none⟩) 0 0) 0 []:=by
       have hB':w.heap[g]?=some (.cells #[] TI (0,0)):=hB
       exact⟨by simp,Or.inr ⟨g,0,#[],rfl,h0,hB',Nat.le_refl _,Nat.zero_le _,by simp,by simp⟩⟩
      refine⟨_,w,?_,Or.inl ⟨g,h0,rfl,rfl,hB⟩,hE,Oth.refl _ _⟩
      have hrun:=run_append_owned_none (P:=P) w wb.heap.size T ty TI i 1 hT.und hi (.slice (some ⟨g,0,none⟩) 0 0) 0 [] hown
      rw[←hrun];simp[Builtin.append_,run_underlying hT.und,sizeOf,typeInfo,hi,Builtin.lenOf,Builtin.firstCells,go_sem]
    · have hpos:0<m.length:=Nat.pos_of_ne_zero (fun e=>hm (List.eq_nil_of_length_eq_zero e))
      obtain⟨v',w',hrun,r1,r2⟩:=run_append_arg_grows (P:=P) (w:=w) T ty TI i (.int .i64 0) 1 8 hT.und hi hz hs1 hby rfl (by omega) ⟨g,0,none⟩ 0 0 [] (by simp) (by simp) ad m.length c (m.map (Value.int .i64)) (by simp) hnews (by omega) (by unfold maxLen;omega) (by omega)
      have hO':Own TI w w' v' m:=⟨by simpa using r1,hml⟩
      have hE2:Ext w w':=(Ext.refl w).grown r2 (by simp)
      exact⟨v',w',hrun,Or.inr (by simpa using hO'.mono hE),hE.trans hE2,hE2.oth TI⟩
  · obtain⟨v',w',hrun,r1,r2,-⟩:=run_append_own (P:=P) w w0.heap.size T ty TI i (.int .i64 0) 1 8 hT.und hi hz hs1 hby rfl (by omega) v l.length _ hO.1 ad m.length c (m.map (Value.int .i64)) (by simp) hnews (ints_oneCell _ _) (by unfold maxLen;omega) (by omega) hE.size
    exact⟨v',w',hrun,Or.inr ⟨by simpa using r1,by simp;omega⟩,hE.grown r2 fun k hk=>(hO.blk k hk).1,oth_grown hO r2⟩
theorem step_appendsE{P:Program}{ops:Array Oper}{o:Oper}{a:Act}{w:World}{K:Act→World→Prop}{Q:Exit→Act→World→Prop}{E:Prop}{T TI:TypeId}(hT:IntSl P T TI)
 (hg:o.guard=none) (s x:Operand) (hop:o.op=Op.call { callee:=Callee.builtin Builtin.append,args:=#[s,x],argTypes:=#[T,T] })
 (wb w0:World) (v u:Value) (l m:List Int) (hO:OwnE TI wb w0 w v l) (hI:Ints w u m) (hE:Ext w0 w) (hn:l.length+m.length≤17592186044416) (hs:a.eval s=v) (hx:a.eval x=u)
 (hK:∀v' w',OwnE TI wb w0 w' v' (l++m)→Ext w0 w'→Oth TI w w'→K (a.put o.dst v') w') :
 if Region.wanted o (yielded ops a.tmps)=true then Oper.wp P o a w K Q else E:=by
 have hw:Region.wanted o (yielded ops a.tmps)=true:=by simp[Region.wanted,hg]
 rw[if_pos hw]
 obtain⟨v',w',hrun,h1,h2,h3⟩:=run_appendsE hT o.type wb w0 w v u l m hO hI hE hn
 unfold Oper.wp
 simp[execOp,hop,resolve,invoke,builtin,hs,hx,hrun,Result.andThen]
 exact hK v' w' h1 h2 h3
section
variable {P:Program} {ops:Array Oper} {rest:List Oper} {o:Oper} {a:Act} {Q:Exit→Act→World→Prop} {T TI:TypeId}
end
end Go.Zz
namespace Go.Zz
open Go.RowKit Go.Proofs
set_option maxHeartbeats 2000000
set_option maxRecDepth 20000
theorem step_copy2{P:Program}{ops:Array Oper}{o:Oper}{a:Act}{w:World}{K:Act→World→Prop}{Q:Exit→Act→World→Prop}{E:Prop}{T TI:TypeId}(hT:IntSl P T TI)
 (hg:o.guard=none) (s x:Operand) (hop:o.op=Op.call { callee:=Callee.builtin Builtin.append,args:=#[s,x],argTypes:=#[T,T] })
 (g:Nat) (u:Value) (m:List Int) (hs:a.eval s=.slice (some ⟨g,0,none⟩) 0 0) (hx:a.eval x=u) (hB:Blk w g TI #[]) (hI:Ints w u m) (w0:World) (h0:w0.heap.size≤g) (hE:Ext w0 w)
 (hK:∀ao c w',Own TI w0 w' (.slice ao m.length c) m→(∀k,(Value.slice ao m.length c).ownBlock=some k→k=g∨w.heap.size≤k)→Ext w w'→K (a.put o.dst (.slice ao m.length c)) w') :
 if Region.wanted o (yielded ops a.tmps)=true then Oper.wp P o a w K Q else E:=by
 have hw:Region.wanted o (yielded ops a.tmps)=true:=by simp[Region.wanted,hg]
 rw[if_pos hw]
 obtain⟨i,hi,hz,hs1,hby⟩:=hT.info
 have hown:w.ownsRow w0.heap.size TI 1 (.slice (some ⟨g,0,none⟩) 0 0) 0 []:=by
  have hB':w.heap[g]?=some (.cells #[] TI (0,0)):=hB
  exact⟨by simp,Or.inr ⟨g,0,#[],rfl,h0,hB',Nat.le_refl _,Nat.zero_le _,by simp,by simp⟩⟩
 obtain⟨ao,c,rfl,hmc,hml,hc⟩:=hI
 have key:m=[]→Oper.wp P o a w K Q:=by
  intro hm
  subst hm
  have hrun2:(Builtin.append_ #[T,T] o.type #[.slice (some ⟨g,0,none⟩) 0 0,.slice ao 0 c]).run P w=.ok (.slice (some ⟨g,0,none⟩) 0 0) w:=by
   have hrun:=run_append_owned_none (P:=P) w w0.heap.size T o.type TI i 1 hT.und hi (.slice (some ⟨g,0,none⟩) 0 0) 0 [] hown
   rw[←hrun];cases ao<;>simp[Builtin.append_,run_underlying hT.und,sizeOf,typeInfo,hi,Builtin.lenOf,Builtin.firstCells,go_sem]
  unfold Oper.wp
  simp[execOp,hop,resolve,invoke,builtin,hs,hx,hrun2,Result.andThen]
  exact hK (some ⟨g,0,none⟩) 0 _ ⟨by simpa using hown,by simp⟩ (fun k hk=>by simp[Value.ownBlock] at hk;exact Or.inl hk.symm) (Ext.refl w)
 by_cases hm:m=[]
 · exact key hm
 · have hpos:0<m.length:=Nat.pos_of_ne_zero (fun e=>hm (List.eq_nil_of_length_eq_zero e))
   cases ao with
   | none=>obtain⟨_,h,_⟩:=hc 0 hpos;cases h
   | some ad =>
    obtain⟨v',w',hrun,r1,r2⟩:=run_append_arg_grows (P:=P) (w:=w) T o.type TI i (.int .i64 0) 1 8 hT.und hi hz hs1 hby rfl (by omega) ⟨g,0,none⟩ 0 0 [] (by simp) (by simp) ad m.length c (m.map (Value.int .i64)) (by simp) (by
     intro j u hu
     have hj:j<m.length:=by have:=(List.getElem?_eq_some_iff.1 hu).1;simpa using this
     obtain⟨a',ha',hc'⟩:=hc j hj
     cases ha'
     rw[hc',←hu,nth_get _ _ hj];simp[hj]) (by omega) (by unfold maxLen;omega) (by omega)
    unfold Oper.wp
    simp[execOp,hop,resolve,invoke,builtin,hs,hx,hrun,Result.andThen]
    have hO':Own TI w w' v' m:=⟨by simpa using r1,hml⟩
    obtain⟨ao',c',rfl,-⟩:=hO'.shape
    exact hK ao' c' w' (hO'.mono hE) (fun k hk=>Or.inr (hO'.blk k hk).1) ((Ext.refl w).grown r2 (by simp))
theorem grown_setCell(w:World)(a:Addr)(u:Value):w.grownBy (w.setCell a u) (some a.block) :=
 ⟨rfl,rfl,rfl,by simp,fun k _ hk=>Below.heap_setCell _ _ _ _ (fun e=>hk (by rw[e]))⟩
theorem Own.setCell_ne{TI:TypeId}{w0 w:World}{v:Value}{l:List Int}(h:Own TI w0 w v l){p:Addr}(hp:v.ownBlock≠some p.block)(u:Value):Own TI w0 (w.setCell p u) v l :=
 h.kept (grown_setCell w p u) (Or.inr hp)
theorem Own.ne_of{TI:TypeId}{w0 w:World}{v:Value}{l:List Int}(h:Own TI w0 w v l){b:Nat}(hb:b<w0.heap.size∨w.heap.size≤b):v.ownBlock≠some b:=fun e=>by
 have:=h.blk b e;omega
theorem Own.ne_blk{TI T:TypeId}{w0 w:World}{v:Value}{l:List Int}(h:Own TI w0 w v l){g:Nat}{cs:Array Value}(hB:Blk w g T cs)(hT:T≠TI):v.ownBlock≠some g:=fun e=>by
 obtain⟨h1,h2⟩:=h
 rcases h1.2 with ⟨rfl,_⟩ | ⟨g',cap,cur,rfl,_,hh,_⟩
 · cases e
 · simp[Value.ownBlock] at e
   subst e
   have hB':w.heap[g']?=some (.cells cs T (0,0)):=hB
   rw[hB'] at hh
   simp at hh
   exact hT hh.2
end Go.Zz
