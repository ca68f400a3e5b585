/- Parts of sequences and their totals, the first part of a length, the shortest part, with the sum 0. -/
import Derived.Test.YtdlbbpeahicakaaGreatGr7
import Derived.Test.YtdlbbpeahicakaaGreatGr5
import Derived.Test.YtdlbbpeahicakaaGreatGr4
import Derived.Test.YtdlbbpeahicakaaGreatGr3
namespace Go.Zz
open Go.RowKit Go.Proofs
set_option maxHeartbeats 1000000
set_option maxRecDepth 20000
theorem part_int(u:Value)(xs:List Int)(m:Nat)(w:World)(hu:Ints w u xs)(hm:m<2 ^ 24)(hl:xs.length≤24) :
 Calls Tryz.prog 162 #[u,.int .i64 m] w fun e w'=>∃p,e=.returned p∧Own 3 w w' p (partI xs m)∧Ext w w':=by
 have hO:=own_made (TI:=3) (n:=0) (by omega) (Ext.refl w) [] rfl
 have hE:=(Ext.refl w).alloc (.cells #[] 3)
 obtain⟨ao,c,adr,rfl,hlen,hadr,hcell⟩:=hu.op
 have hix:=ints_index (c:=c) elI szI hadr
 clear hadr hu
 go_enter Tryz.func162,Tryz.ntmps162
 go_wp2_with fail
 go_loopw [5,11] (fun p i wr=>∃k:Nat,k≤xs.length∧i=.int .i64 k∧Own 3 w wr p (partTo xs m k)∧Ext w wr) (fun _ i _=>xs.length - (intOf i).toNat)
 case atStart=>exact⟨0,by omega,rfl,by have e:partTo xs m 0=[]:=rfl;rw[e];exact hO,hE⟩
 case round =>
  clear hE hO
  obtain⟨k,hk,rfl,hO,hE⟩:=hrel
  by_cases hlt:k<xs.length
  · have hck:=hcell k _ hlt hE
    have hpl:=partTo_len xs m k
    have hsh:=ishr_nat (a:=m) (n:=k) (by omega)
    have hbt:=bit_test' (a:=m) (n:=k) (by omega) (by omega)
    cases hb:m.testBit k
    · rw[hb] at hbt
      have Hn:=Lib.hid (partTo_no (xs:=xs) hb)
      go_wp2_with (first | (go_at_call 163;refine (in_val m k hm (by omega) _ hb).mono ?_;rintro e w' ⟨rfl,rfl⟩))
      go_roundw
      case rel=>exact⟨k+1,by omega,by go_num,by rw[Hn.out];exact hO,hE⟩
      case measure=>(simp[intOf];omega)
    · rw[hb] at hbt
      have Hn:=Lib.hid (partTo_yes (xs:=xs) hb)
      go_wp2_with (first | (go_at_call 163;refine (in_val m k hm (by omega) _ hb).mono ?_;rintro e w' ⟨rfl,rfl⟩) | (at_builtin;refine wp_append1 slI rfl _ _ rfl w _ _ _ _ hO hE (by omega) rfl rfl ?_;intro v1 w1 hO1 hE1))
      go_roundw
      case rel=>exact⟨k+1,by omega,by go_num,by rw[Hn.out];exact hO1,hE1⟩
      case measure=>(simp[intOf];omega)
  · have hkl:k=xs.length:=by omega
    subst hkl
    go_wp2_with fail
    go_ret
    exact⟨_,rfl,hO,hE⟩
theorem part_any(u:Value)(X:List Nat)(m:Nat)(w:World)(hu:Ints w u (castL X))(hm:m<2 ^ 24)(hl:X.length≤24) :
 Calls Tryz.prog 162 #[u,.int .i64 m] w fun e w'=>∃p,e=.returned p∧Own 3 w w' p (castL (partL X m))∧Ext w w':=by
 have:=part_int u _ m w hu hm (by rw[castL_len];exact hl)
 rwa [partI_cast] at this
theorem l16Part_int(u:Value)(xs:List Int)(m:Nat)(w:World)(hu:Ints w u xs)(hm:m<2 ^ 24)(hl:xs.length≤24) :
 Calls Tryz.prog 144 #[u,.int .i64 m] w fun e w'=>∃p,e=.returned p∧Own 3 w w' p (partI xs m)∧Ext w w':=by
 have hO:=own_made (TI:=3) (n:=0) (by omega) (Ext.refl w) [] rfl
 have hE:=(Ext.refl w).alloc (.cells #[] 3)
 obtain⟨ao,c,adr,rfl,hlen,hadr,hcell⟩:=hu.op
 have hix:=ints_index (c:=c) elI szI hadr
 clear hadr hu
 go_enter Tryz.func144,Tryz.ntmps144
 go_wp2_with fail
 go_loopw [5,6] (fun p i wr=>∃k:Nat,k≤xs.length∧i=.int .i64 k∧Own 3 w wr p (partTo xs m k)∧Ext w wr) (fun _ i _=>xs.length - (intOf i).toNat)
 case atStart=>exact⟨0,by omega,rfl,by have e:partTo xs m 0=[]:=rfl;rw[e];exact hO,hE⟩
 case round =>
  clear hE hO
  obtain⟨k,hk,rfl,hO,hE⟩:=hrel
  by_cases hlt:k<xs.length
  · have hck:=hcell k _ hlt hE
    have hpl:=partTo_len xs m k
    have hsh:=ishr_nat (a:=m) (n:=k) (by omega)
    have hbt:=bit_test' (a:=m) (n:=k) (by omega) (by omega)
    cases hb:m.testBit k
    · rw[hb] at hbt
      have Hn:=Lib.hid (partTo_no (xs:=xs) hb)
      go_wp2_with (first | (fail))
      go_roundw
      case rel=>exact⟨k+1,by omega,by go_num,by rw[Hn.out];exact hO,hE⟩
      case measure=>(simp[intOf];omega)
    · rw[hb] at hbt
      have Hn:=Lib.hid (partTo_yes (xs:=xs) hb)
      go_wp2_with (first | (fail) | (at_builtin;refine wp_append1 slI rfl _ _ rfl w _ _ _ _ hO hE (by omega) rfl rfl ?_;intro v1 w1 hO1 hE1))
      go_roundw
      case rel=>exact⟨k+1,by omega,by go_num,by rw[Hn.out];exact hO1,hE1⟩
      case measure=>(simp[intOf];omega)
  · have hkl:k=xs.length:=by omega
    subst hkl
    go_wp2_with fail
    go_ret
    exact⟨_,rfl,hO,hE⟩
theorem l16Part_any(u:Value)(X:List Nat)(m:Nat)(w:World)(hu:Ints w u (castL X))(hm:m<2 ^ 24)(hl:X.length≤24) :
 Calls Tryz.prog 144 #[u,.int .i64 m] w fun e w'=>∃p,e=.returned p∧Own 3 w w' p (castL (partL X m))∧Ext w w':=by
 have:=l16Part_int u _ m w hu hm (by rw[castL_len];exact hl)
 rwa [partI_cast] at this
theorem total_any(v u:Value)(l:List Int)(X:List Nat)(w:World)(h:Ints w v l)(hu:Ints w u (castL X))(Hgr:Hid (isGrp l=true))(hX:Hid (∀x∈X,x<24)) :
 Calls Tryz.prog 151 #[.agg #[v],u] w fun e w'=>e=.returned (.int .i64 (tot l X:Nat))∧Ext w w':=by
 obtain⟨wb,hwb⟩:∃wb,wb=w.alloc (.cells #[v] 27):=⟨_,rfl⟩
 have hE0:=(Ext.refl w).alloc (.cells #[v] 27)
 have hb:=box_cell w v 27
 rw[←hwb] at hE0 hb
 have hg:∀W,Ext wb W→Ints W v l:=fun W hW=>h.ext (hE0.trans hW)
 have hE:=Ext.refl wb
 have Hwb:=Lib.hid hwb
 clear hwb h
 have hu':=hu.ext hE0
 have hlen:X.length≤17592186044416:=by obtain⟨_,_,_,_,h',_⟩:=hu;simpa[castL_len] using h'
 obtain⟨ao,c,adr,rfl,hadr,hcell⟩:=hu'.nats
 have hix:=ints_index (c:=c) elI szI hadr
 clear hadr hu hu'
 go_enter Tryz.func151,Tryz.ntmps151
 go_wp2_with fail
 rw[←Hwb.out]
 go_loopw [5,10] (fun s i wr=>∃k:Nat,k≤X.length∧i=.int .i64 k∧s=.int .i64 (tot l (X.take k):Nat)∧Ext wb wr) (fun _ i _=>X.length - (intOf i).toNat)
 case atStart=>exact⟨0,by omega,rfl,rfl,hE⟩
 case round =>
  clear hE
  obtain⟨k,hk,rfl,rfl,hE⟩:=hrel
  by_cases hlt:k<X.length
  · have hx:=hX.out _ (nthN_mem hlt)
    have ht:=tot_bd Hgr.out (X.take k)
    have Ht:=Lib.hid (tot_snoc l (X.take k) (nthN X k))
    have Ht2:=Lib.hid (take_nthN X k hlt)
    have hck:=hcell k _ hlt hE
    have hbx:=hb _ hE
    go_wp2_with (first | (go_at_call 194;refine (add_any _ _ _ _ _ (hg _ hE) (Hgr) ((by omega)) ((by omega))).mono ?_;rintro e w' ⟨rfl,hE'⟩;replace hE:=hE.trans hE';clear hE'))
    go_wp2_with fail
    go_roundw
    case rel=>exact⟨k+1,by omega,by go_num,by rw[Ht2.out,Ht.out],hE⟩
    case measure=>(simp[intOf];omega)
  · have hkl:k=X.length:=by omega
    subst hkl
    go_wp2_with fail
    go_ret
    exact⟨ret_int (by rw[List.take_length]),hE0.trans hE⟩
theorem l16Sum_any(v u:Value)(l:List Int)(X:List Nat)(w:World)(h:Ints w v l)(hu:Ints w u (castL X))(Hgr:Hid (isGrp l=true))(hX:Hid (∀x∈X,x<24)) :
 Calls Tryz.prog 53 #[.agg #[v],u] w fun e w'=>e=.returned (.int .i64 (tot l X:Nat))∧Ext w w':=by
 obtain⟨wb,hwb⟩:∃wb,wb=w.alloc (.cells #[v] 27):=⟨_,rfl⟩
 have hE0:=(Ext.refl w).alloc (.cells #[v] 27)
 have hb:=box_cell w v 27
 rw[←hwb] at hE0 hb
 have hg:∀W,Ext wb W→Ints W v l:=fun W hW=>h.ext (hE0.trans hW)
 have hE:=Ext.refl wb
 have Hwb:=Lib.hid hwb
 clear hwb h
 have hu':=hu.ext hE0
 have hlen:X.length≤17592186044416:=by obtain⟨_,_,_,_,h',_⟩:=hu;simpa[castL_len] using h'
 obtain⟨ao,c,adr,rfl,hadr,hcell⟩:=hu'.nats
 have hix:=ints_index (c:=c) elI szI hadr
 clear hadr hu hu'
 go_enter Tryz.func53,Tryz.ntmps53
 go_wp2_with fail
 rw[←Hwb.out]
 go_loopw [5,6] (fun s i wr=>∃k:Nat,k≤X.length∧i=.int .i64 k∧s=.int .i64 (tot l (X.take k):Nat)∧Ext wb wr) (fun _ i _=>X.length - (intOf i).toNat)
 case atStart=>exact⟨0,by omega,rfl,rfl,hE⟩
 case round =>
  clear hE
  obtain⟨k,hk,rfl,rfl,hE⟩:=hrel
  by_cases hlt:k<X.length
  · have hx:=hX.out _ (nthN_mem hlt)
    have ht:=tot_bd Hgr.out (X.take k)
    have Ht:=Lib.hid (tot_snoc l (X.take k) (nthN X k))
    have Ht2:=Lib.hid (take_nthN X k hlt)
    have hck:=fun U=>hcell k _ hlt (hE.trans (lat_ext wr U))
    have hbx:=fun U=>hb _ (hE.trans (lat_ext wr U));have hgr':∀W,Ext wr W→Ints W v l:=fun W hW=>hg W (hE.trans hW);have hE1:=hE;clear hE;have hE:=Ext.refl wr;go_wp2_with fail
    (refine wp_region_lat (wr) (by kernel_rfl) (by kernel_rfl) hE ?_);(repeat (go_big_quiet_step (first | (go_at_call 141;exact Calls.lat (l2Add_any _ _ _ _ _ (hgr' _ (lat_ext wr _)) Hgr (by omega) (by omega))))));(refine wpQuiet_nil ?_);(intro W hE');(replace hE:=lat_of hE');(clear hE');replace hE:=hE1.trans hE
    go_wp2_with fail
    go_roundw
    case rel=>exact⟨k+1,by omega,by go_num,by rw[Ht2.out,Ht.out],hE⟩
    case measure=>(simp[intOf];omega)
  · have hkl:k=X.length:=by omega
    subst hkl
    go_wp2_with fail
    go_ret
    exact⟨ret_int (by rw[List.take_length]),hE0.trans hE⟩
theorem pw_len{n:Nat}(h:n≤12):pw n≤4096:=Nat.pow_le_pow_right (n:=2) (by omega) h
theorem ZeroOfLength_seq(v u:Value)(l:List Int)(X:List Nat)(k:Nat)(w:World)(h:Ints w v l)(hu:Ints w u (castL X))(hs:seqB l (castL X)=true)(hk1:1≤k)(hk2:k≤X.length) :
 Calls Tryz.prog 155 #[.agg #[v],u,.int .i64 k] w fun e w'=>∃p,e=.returned (.tuple #[p,.bool (zolB l X k)])∧Own 3 w w' p (castL (zolL l X k))∧Ext w w':=by
 obtain⟨wb,hwb⟩:∃wb,wb=w.alloc (.cells #[v] 27):=⟨_,rfl⟩
 have hE0:=(Ext.refl w).alloc (.cells #[v] 27)
 have hb:=box_cell w v 27
 rw[←hwb] at hE0 hb
 have hg:∀W,Ext wb W→Ints W v l:=fun W hW=>h.ext (hE0.trans hW)
 have hE:=Ext.refl wb
 have Hsz:Hid (w.heap.size+1=wb.heap.size):=Lib.hid (by rw[hwb];simp[go_sem])
 have Hwb:=Lib.hid hwb
 clear hwb h
 obtain⟨X',e1,-,h12,hgr,hall⟩:=seqB_nat hs
 obtain rfl:X=X':=by
  have:∀(A B:List Nat),castL A=castL B→A=B:=fun A B e=>by
   have:=congrArg (List.map Int.toNat) e
   simpa[castL,Function.comp_def] using this
  exact this _ _ e1
 have Hall:=Lib.hid hall
 have Hgr:=Lib.hid hgr
 have hp:=pw_len h12
 have hs1:=ishl_one (n:=X.length) (by omega)
 have Hgu:Hid (∀W,Ext wb W→Ints W u (castL X)):=Lib.hid fun W hW=>hu.ext (hE0.trans hW)
 obtain⟨ao,c,adr,rfl,hadr,hcell⟩:=hu.nats
 have hin:inB (k:Int) 1 (X.length:Int)=true:=inB_t.2 (by omega)
 have hbx:=hb wb hE
 have Hat:=Lib.hid (fun (m:Nat) a b c d=>zol_at (l:=l) (X:=X) (k:=k) (m:=m) a b c d)
 have Hnone:=Lib.hid (fun a=>zol_none (l:=l) (X:=X) (k:=k) a)
 clear hall hgr e1 hadr hcell hu
 go_enter Tryz.func155,Tryz.ntmps155
 go_wp2_with fail
 rw[←Hwb.out]
 go_wp2_with (first | (go_at_call 63;refine (IsSequence_val _ _ _ _ _ (hg _ hE) (Hgu.out _ hE) hs).mono ?_;rintro e w' ⟨rfl,hE'⟩;replace hE:=hE.trans hE';clear hE') | (go_at_call 138;refine (within_any _ _ _ _).mono ?_;rw[hin];rintro e w' ⟨rfl,rfl⟩))
 clear hbx hs hin
 go_loopw [24] (fun i wr=>∃m:Nat,m≤pw X.length∧i=.int .i64 m∧(∀j,j<m→¬(cnt j=k∧tot l (partL X j)=0))∧Ext wb wr) (fun i _=>pw X.length - (intOf i).toNat)
 case atStart=>exact⟨0,by omega,rfl,by omega,hE⟩
 case round =>
  clear hE
  obtain⟨m,hm,rfl,hno,hE⟩:=hrel
  have Hno:=Lib.hid hno
  clear hno
  by_cases hlt:m<pw X.length
  · have hm24:m<2 ^ 24:=by omega
    have hcm:=cnt_le m
    have hbw:∀W,Ext wr W→W.cell? ⟨w.heap.size,0,none⟩=some v:=fun W hW=>hb W (hE.trans hW)
    have hgw:∀W,Ext wr W→Ints W v l:=fun W hW=>hg W (hE.trans hW)
    have Hgw:Hid (∀W,Ext wr W→Ints W (.slice ao X.length c) (castL X)):=Lib.hid fun W hW=>Hgu.out W (hE.trans hW)
    have hE1:=hE
    clear hE
    have hE:=Ext.refl wr
    by_cases hc:cnt m=k
    · have hq1:((cnt m:Int) == (k:Int))=true:=by rw[hc];simp
      by_cases ht:tot l (partL X m)=0
      · have Hz:=Lib.hid (Hat.out m hlt Hno.out hc ht)
        have hq2:((tot l (partL X m):Int) == 0)=true:=by rw[ht];simp
        have hbx:=hbw wr hE
        clear hc ht
        go_wp2_with fail
        have hD:=(Ext.refl (wr)).drew
        first | (go_region_held3 (fun W=>Ext (wr) W∧W.cell? ⟨w.heap.size,0,none⟩=some v) (exact⟨(by repeat (first | assumption | exact Ext.refl _ | (apply And.left;assumption) | apply Ext.drew | apply Ext.alloc)),hbw _ (by repeat (first | assumption | exact Ext.refl _ | (apply And.left;assumption) | apply Ext.drew | apply Ext.alloc))⟩) (first | (go_at_call 98;((with_reducible refine Calls.mono (Calls.ext_of_same (bits_any _ hm24 _)) ?_);rintro e wH0 ⟨rfl,hX0⟩;have hH0:=Ext.trans (a:=wr) (by repeat (first | assumption | exact Ext.refl _ | (apply And.left;assumption) | apply Ext.drew | apply Ext.alloc)) hX0)) | (go_at_call 162;((with_reducible refine Calls.mono (part_any _ _ _ _ (Hgw.out _ (by repeat (first | assumption | exact Ext.refl _ | (apply And.left;assumption) | apply Ext.drew | apply Ext.alloc))) hm24 (by omega)) ?_);rintro e wH1 ⟨vP,rfl,hOP,hX1⟩;have hH1:=Ext.trans (a:=wr) (by repeat (first | assumption | exact Ext.refl _ | (apply And.left;assumption) | apply Ext.drew | apply Ext.alloc)) hX1)) | (go_at_call 151;((with_reducible refine Calls.mono (total_any _ _ _ _ _ (hgw _ (by repeat (first | assumption | exact Ext.refl _ | (apply And.left;assumption) | apply Ext.drew | apply Ext.alloc))) hOP.ints Hgr (Lib.hid fun x hx=>Hall.out x (partL_mem hx))) ?_);rintro e wH2 ⟨rfl,hX2⟩;have hH2:=Ext.trans (a:=wr) (by repeat (first | assumption | exact Ext.refl _ | (apply And.left;assumption) | apply Ext.drew | apply Ext.alloc)) hX2)))) | (fail "the region with calls")
        have hE3:Ext wr wH2:=by repeat (first | assumption | exact Ext.refl _ | (apply And.left;assumption) | apply Ext.drew | apply Ext.alloc)
        go_wp2_with fail
        refine (part_any _ _ _ _ (Hgw.out _ hE3) hm24 (by omega)).mono ?_
        rintro e w5 ⟨p5,rfl,hO5,hE5⟩
        go_wp2_with fail
        exact bodyPost_ret (v:=.tuple #[p5,.bool true]) (by simp[results,Tryz.results155,go_sem]) rfl ⟨_,by rw[Hz.out.2.1],by rw[Hz.out.1];exact hO5.mono (hE0.trans (hE1.trans hE3)),hE0.trans (hE1.trans (hE3.trans hE5))⟩
      · have Hq:=Lib.hid (fun e:cnt m=k∧tot l (partL X m)=0=>ht e.2)
        have hq2:((tot l (partL X m):Int) == 0)=false:=by simp;omega
        have hbx:=hbw wr hE
        clear hc ht
        go_wp2_with fail
        have hD:=(Ext.refl (wr)).drew
        first | (go_region_held3 (fun W=>Ext (wr) W∧W.cell? ⟨w.heap.size,0,none⟩=some v) (exact⟨(by repeat (first | assumption | exact Ext.refl _ | (apply And.left;assumption) | apply Ext.drew | apply Ext.alloc)),hbw _ (by repeat (first | assumption | exact Ext.refl _ | (apply And.left;assumption) | apply Ext.drew | apply Ext.alloc))⟩) (first | (go_at_call 98;((with_reducible refine Calls.mono (Calls.ext_of_same (bits_any _ hm24 _)) ?_);rintro e wH0 ⟨rfl,hX0⟩;have hH0:=Ext.trans (a:=wr) (by repeat (first | assumption | exact Ext.refl _ | (apply And.left;assumption) | apply Ext.drew | apply Ext.alloc)) hX0)) | (go_at_call 162;((with_reducible refine Calls.mono (part_any _ _ _ _ (Hgw.out _ (by repeat (first | assumption | exact Ext.refl _ | (apply And.left;assumption) | apply Ext.drew | apply Ext.alloc))) hm24 (by omega)) ?_);rintro e wH1 ⟨vP,rfl,hOP,hX1⟩;have hH1:=Ext.trans (a:=wr) (by repeat (first | assumption | exact Ext.refl _ | (apply And.left;assumption) | apply Ext.drew | apply Ext.alloc)) hX1)) | (go_at_call 151;((with_reducible refine Calls.mono (total_any _ _ _ _ _ (hgw _ (by repeat (first | assumption | exact Ext.refl _ | (apply And.left;assumption) | apply Ext.drew | apply Ext.alloc))) hOP.ints Hgr (Lib.hid fun x hx=>Hall.out x (partL_mem hx))) ?_);rintro e wH2 ⟨rfl,hX2⟩;have hH2:=Ext.trans (a:=wr) (by repeat (first | assumption | exact Ext.refl _ | (apply And.left;assumption) | apply Ext.drew | apply Ext.alloc)) hX2)))) | (fail "the region with calls")
        have hE3:Ext wr wH2:=by repeat (first | assumption | exact Ext.refl _ | (apply And.left;assumption) | apply Ext.drew | apply Ext.alloc)
        go_wp2_with fail
        go_roundw
        case rel=>exact⟨m+1,by omega,by go_num,fun j hj=>by by_cases e:j=m;(subst e;exact Hq.out);exact Hno.out j (by omega),hE1.trans hE3⟩
        case measure=>(simp[intOf];omega)
    · have Hq:=Lib.hid (fun e:cnt m=k∧tot l (partL X m)=0=>hc e.1)
      have hq1:((cnt m:Int) == (k:Int))=false:=by simp;omega
      have hbu:=fun U=>hbw _ (lat_ext wr U)
      clear hc
      go_wp2_with fail
      (refine wp_region_lat (wr) (by kernel_rfl) (by kernel_rfl) hE ?_);(repeat (go_big_quiet_step (first | (go_at_call 98;exact Calls.lat_same (bits_any _ (hm24) _)))));(refine wpQuiet_nil ?_);(intro W hE');(replace hE:=lat_of hE');(clear hE')
      go_wp2_with fail
      go_roundw
      case rel=>exact⟨m+1,by omega,by go_num,fun j hj=>by by_cases e:j=m;(subst e;exact Hq.out);exact Hno.out j (by omega),hE1.trans hE⟩
      case measure=>(simp[intOf];omega)
  · have hml:m=pw X.length:=by omega
    subst hml
    have Hz:=Lib.hid (Hnone.out Hno.out)
    have hO:Own 3 wr (wr.alloc (.cells #[] 3)) (.slice (some ⟨wr.heap.size,0,none⟩) 0 0) (castL []):=own_made (TI:=3) (n:=0) (by omega) (Ext.refl wr) [] rfl
    go_wp2_with fail
    exact bodyPost_ret (v:=.tuple #[.slice (some ⟨wr.heap.size,0,none⟩) 0 0,.bool false]) (by simp[results,Tryz.results155,go_sem]) rfl ⟨_,by rw[Hz.out.2.1],by rw[Hz.out.1];exact hO.mono (hE0.trans hE),hE0.trans (hE.alloc _)⟩
end Go.Zz
namespace Go.Zz
def mulTo(xs:List Int)(x:Int):Nat→Nat
 | 0=>0
 | k+1=>if nth xs k=x then mulTo xs x k+1 else mulTo xs x k
def mulI(xs:List Int)(x:Int):Nat:=mulTo xs x xs.length
theorem mulTo_le(xs:List Int)(x:Int):∀k,mulTo xs x k≤k
 | 0=>Nat.le_refl _
 | k+1=>by
  have:=mulTo_le xs x k
  unfold mulTo;split<;>omega
theorem mulTo_yes{xs:List Int}{x:Int}{k:Nat}(h:nth xs k=x):mulTo xs x (k+1)=mulTo xs x k+1:=by
 conv=>lhs;unfold mulTo
 rw[if_pos h]
theorem mulTo_no{xs:List Int}{x:Int}{k:Nat}(h:nth xs k≠x):mulTo xs x (k+1)=mulTo xs x k:=by
 conv=>lhs;unfold mulTo
 rw[if_neg h]
theorem mulTo_take(xs:List Int)(x:Int):∀k,k≤xs.length→mulTo xs x k=(xs.take k).count x
 | 0,_=>by simp[mulTo]
 | k+1,hk=>by
  have ih:=mulTo_take xs x k (by omega)
  have e:xs.take (k+1)=xs.take k++[nth xs k]:=by
   rw[List.take_add_one];simp[nth,List.getD,show k<xs.length by omega]
  rw[e,List.count_append,List.count_singleton]
  by_cases h:nth xs k=x
  · rw[mulTo_yes h,ih,h];simp
  · rw[mulTo_no h,ih];simp[h]
theorem mulI_count(xs:List Int)(x:Int):mulI xs x=xs.count x:=by
 unfold mulI;rw[mulTo_take xs x _ (Nat.le_refl _),List.take_length]
def sbs(l:List Int)(X:List Nat):Nat:=X.foldl (fun o x=>(o ||| shiftF l o x) ||| 2 ^ x) 0
theorem sbs_snoc(l:List Int)(X:List Nat)(x:Nat):sbs l (X++[x])=(sbs l X ||| shiftF l (sbs l X) x) ||| 2 ^ x:=by unfold sbs;rw[List.foldl_append];rfl
theorem sbs_bd{l:List Int}(h:isGrp l=true):∀(X:List Nat),(∀x∈X,x<24)→sbs l X<2 ^ 24:=by
 intro X hX
 have:∀(X:List Nat) (o:Nat),o<2 ^ 24→(∀x∈X,x<24)→X.foldl (fun o x=>(o ||| shiftF l o x) ||| 2 ^ x) o<2 ^ 24:=by
  intro X
  induction X with
  | nil=>intro o ho _;exact ho
  | cons x X ih =>
   intro o ho hX
   rw[List.foldl_cons]
   refine ih _ (Nat.or_lt_two_pow (Nat.or_lt_two_pow ho (shiftF_bd h o x)) (Nat.pow_lt_pow_right (by omega) (hX x (by simp)))) fun y hy=>hX y (by simp[hy])
 exact this X 0 (by decide) hX
def zsB(l xs:List Int):Bool:=seqB l xs&&decide (tot l (xs.map Int.toNat)=0)
theorem zsB_no{l xs:List Int}(h:seqB l xs=false):zsB l xs=false:=by unfold zsB;rw[h];rfl
theorem map_cast(X:List Nat):(castL X).map Int.toNat=X:=by
 unfold castL;rw[List.map_map]
 have:(Int.toNat ∘ fun n:Nat=>(n:Int))=id:=by funext n;rfl
 rw[this,List.map_id]
theorem zsB_yes{l:List Int}{X:List Nat}(h:seqB l (castL X)=true):zsB l (castL X)=(((tot l X:Nat):Int) == 0):=by
 unfold zsB;rw[h,map_cast,Bool.true_and,Bool.eq_iff_iff,decide_eq_true_iff,beq_iff_eq];omega
def zfB(l xs:List Int):Bool:=seqB l xs && !(sbs l (xs.map Int.toNat)).testBit 0
theorem zfB_no{l xs:List Int}(h:seqB l xs=false):zfB l xs=false:=by unfold zfB;rw[h];rfl
theorem zfB_yes{l:List Int}{X:List Nat}(h:seqB l (castL X)=true):zfB l (castL X) = !(sbs l X).testBit 0:=by
 unfold zfB;rw[h,map_cast,Bool.true_and]
theorem bit0(n:Nat):(((n % 2:Nat):Int) == 0) = !n.testBit 0:=by
 rw[Nat.testBit_zero]
 rcases Nat.mod_two_eq_zero_or_one n with h | h<;>rw[h]<;>rfl
def dropLast1(x:Int)(l:List Int):List Int:=(l.reverse.erase x).reverse
def subM(T:List Int):List Int→Bool
 | []=>true
 | x :: P=>if x∈T then subM (dropLast1 x T) P else false
theorem count_drop1(x y:Int)(l:List Int)(_:x∈l):(dropLast1 x l).count y=l.count y - if x=y then 1 else 0:=by
 unfold dropLast1
 rw[List.count_reverse,List.count_erase,List.count_reverse]
 congr 1
 by_cases e:x=y<;>simp[e]
theorem subM_iff:∀(P T:List Int),subM T P=true↔∀x,P.count x≤T.count x
 | [],T=>by simp[subM]
 | x :: P,T=>by
  unfold subM
  by_cases h:x∈T
  · rw[if_pos h,subM_iff P]
    have hx:0<T.count x:=List.count_pos_iff.2 h
    constructor
    · intro H y
      have:=H y
      rw[count_drop1 x y T h] at this
      rw[List.count_cons]
      by_cases e:x=y
      · subst e;simp at this ⊢;omega
      · have e':(x == y)=false:=by simpa using e
        rw[if_neg e] at this;simp[e'];omega
    · intro H y
      have:=H y
      rw[List.count_cons] at this
      rw[count_drop1 x y T h]
      by_cases e:x=y
      · subst e;simp at this ⊢;omega
      · have e':(x == y)=false:=by simpa using e
        rw[if_neg e];simp[e'] at this;omega
  · rw[if_neg h]
    constructor
    · intro H;cases H
    · intro H
      have:=H x
      rw[List.count_cons] at this
      simp[List.count_eq_zero.2 h] at this
def lastTo(xs:List Int)(x:Int):Nat→Int
 | 0=>-1
 | k+1=>if nth xs k=x then (k:Int) else lastTo xs x k
theorem lastTo_yes{xs:List Int}{x:Int}{k:Nat}(h:nth xs k=x):lastTo xs x (k+1)=(k:Int):=by
 conv=>lhs;unfold lastTo
 rw[if_pos h]
theorem lastTo_no{xs:List Int}{x:Int}{k:Nat}(h:nth xs k≠x):lastTo xs x (k+1)=lastTo xs x k:=by
 conv=>lhs;unfold lastTo
 rw[if_neg h]
theorem take_snocI(xs:List Int)(k:Nat)(hk:k<xs.length):xs.take (k+1)=xs.take k++[nth xs k]:=by
 rw[List.take_add_one];simp[nth,List.getD,hk]
theorem lastTo_spec(xs:List Int)(x:Int):∀k,k≤xs.length→(lastTo xs x k = -1∧x ∉ xs.take k) ∨
 ∃a:Nat,lastTo xs x k=(a:Int)∧a<k∧dropLast1 x (xs.take k)=xs.take a++(xs.take k).drop (a+1)∧x∈xs.take k
 | 0,_=>Or.inl ⟨rfl,by simp⟩
 | k+1,hk=>by
  by_cases h:nth xs k=x
  · refine Or.inr ⟨k,lastTo_yes h,by omega,?_,?_⟩
    · rw[take_snocI xs k (by omega),h]
      unfold dropLast1
      rw[List.reverse_append]
      simp[List.drop_append,List.length_take]
      omega
    · rw[take_snocI xs k (by omega),h];simp
  · rw[lastTo_no h]
    rcases lastTo_spec xs x k (by omega) with ⟨e,hn⟩ | ⟨a,e,ha,hd,hm⟩
    · refine Or.inl ⟨e,?_⟩
      rw[take_snocI xs k (by omega),List.mem_append,List.mem_singleton]
      rintro (h1 | h1)
      · exact hn h1
      · exact h h1.symm
    · refine Or.inr ⟨a,e,by omega,?_,?_⟩
      · rw[take_snocI xs k (by omega)]
        have hlen:(xs.take k).length=k:=by rw[List.length_take];omega
        rw[List.drop_append_of_le_length (by omega),←List.append_assoc,←hd]
        unfold dropLast1
        rw[List.reverse_append,List.reverse_singleton,List.singleton_append,List.erase_cons_tail (by simpa using fun e=>h e),List.reverse_cons]
      · rw[take_snocI xs k (by omega)];simp[hm]
theorem last_no{xs:List Int}{x:Int}(h:lastTo xs x xs.length<0):x ∉ xs:=by
 rcases lastTo_spec xs x _ (Nat.le_refl _) with ⟨-,hn⟩ | ⟨a,e,-,-,-⟩
 · simpa using hn
 · omega
theorem last_yes{xs:List Int}{x:Int}(h:¬lastTo xs x xs.length<0):∃a:Nat,lastTo xs x xs.length=(a:Int)∧a<xs.length∧dropLast1 x xs=xs.take a++xs.drop (a+1)∧x∈xs:=by
 rcases lastTo_spec xs x _ (Nat.le_refl _) with ⟨e,-⟩ | ⟨a,e,ha,hd,hm⟩
 · omega
 · rw[List.take_length] at hd hm;exact⟨a,e,ha,hd,hm⟩
theorem subM_no{T P:List Int}{x:Int}(h:x ∉ T):subM T (x :: P)=false:=by unfold subM;rw[if_neg h]
theorem subM_yes{T P:List Int}{x:Int}(h:x∈T):subM T (x :: P)=subM (dropLast1 x T) P:=by
 conv=>lhs;unfold subM
 rw[if_pos h]
def mulOK(T P:List Int):Bool:=(List.range P.length).all fun k=>decide (mulI P (nth P k)≤mulI T (nth P k))
theorem mulOK_eq(T P:List Int):mulOK T P=subM T P:=by
 rw[Bool.eq_iff_iff,subM_iff]
 unfold mulOK
 rw[List.all_eq_true]
 constructor
 · intro H x
   by_cases hx:x∈P
   · obtain⟨k,hk,rfl⟩:=List.getElem_of_mem hx
     have:=H k (List.mem_range.2 hk)
     rw[decide_eq_true_iff,mulI_count,mulI_count,show nth P k=P[k] by simp[nth,List.getD,hk]] at this
     exact this
   · rw[List.count_eq_zero.2 hx];exact Nat.zero_le _
 · intro H k hk
   rw[decide_eq_true_iff,mulI_count,mulI_count];exact H _
theorem mulOK_no{T P:List Int}{k:Nat}(hk:k<P.length)(h:mulI T (nth P k)<mulI P (nth P k)):mulOK T P=false:=by
 rw[←Bool.not_eq_true];intro H
 have:=List.all_eq_true.1 H k (List.mem_range.2 hk)
 rw[decide_eq_true_iff] at this;omega
theorem mulOK_yes{T P:List Int}(h:∀k,k<P.length→mulI P (nth P k)≤mulI T (nth P k)):mulOK T P=true:=by
 unfold mulOK;rw[List.all_eq_true];intro k hk;rw[decide_eq_true_iff];exact h k (List.mem_range.1 hk)
end Go.Zz
namespace Go.Zz
open Go.RowKit Go.Proofs
set_option maxHeartbeats 1000000
set_option maxRecDepth 4000
theorem MultiplicityIn_any(u:Value)(xs:List Int)(x:Int)(w:World)(hu:Ints w u xs) :
 Calls Tryz.prog 90 #[u,.int .i64 x] w fun e w'=>e=.returned (.int .i64 (mulI xs x:Nat))∧w=w':=by
 obtain⟨ao,c,adr,rfl,hlen,hadr,hcell⟩:=hu.op
 have hix:=ints_index (c:=c) elI szI hadr
 clear hadr hu
 go_enter Tryz.func90,Tryz.ntmps90
 go_wp2_with fail
 go_loop [5,10] (fun n i=>∃k:Nat,k≤xs.length∧i=.int .i64 k∧n=.int .i64 (mulTo xs x k:Nat)) (fun _ i=>xs.length - (intOf i).toNat)
 case atStart=>exact⟨0,by omega,rfl,rfl⟩
 case round =>
  obtain⟨k,hk,rfl,rfl⟩:=hrel
  have hm:=mulTo_le xs x k
  by_cases hlt:k<xs.length
  · have hck:=hcell k w hlt (Ext.refl _)
    by_cases e:nth xs k=x
    · have Hn:=Lib.hid (mulTo_yes e)
      have hq1:(x == nth xs k)=true:=by rw[e];simp
      have hq2:(nth xs k == x)=true:=by rw[e];simp
      clear e
      go_wp2_with fail
      go_round
      case rel=>exact⟨k+1,by omega,by go_num,by rw[Hn.out];go_num⟩
      case measure=>(simp[intOf];omega)
    · have Hn:=Lib.hid (mulTo_no e)
      have hq1:(x == nth xs k)=false:=by rw[beq_eq_false_iff_ne];exact fun h=>e h.symm
      have hq2:(nth xs k == x)=false:=by rw[beq_eq_false_iff_ne];exact e
      clear e
      go_wp2_with fail
      go_round
      case rel=>exact⟨k+1,by omega,by go_num,by rw[Hn.out]⟩
      case measure=>(simp[intOf];omega)
  · have hkl:k=xs.length:=by omega
    subst hkl
    go_wp2_with fail
    go_ret
    exact⟨rfl,rfl⟩
theorem subsums_any(v u:Value)(l:List Int)(X:List Nat)(w:World)(h:Ints w v l)(hu:Ints w u (castL X))(Hgr:Hid (isGrp l=true))(hX:Hid (∀x∈X,x<24)) :
 Calls Tryz.prog 154 #[.agg #[v],u] w fun e w'=>e=.returned (.int .i64 (sbs l X:Nat))∧Ext w w':=by
 obtain⟨wb,hwb⟩:∃wb,wb=w.alloc (.cells #[v] 27):=⟨_,rfl⟩
 have hE0:=(Ext.refl w).alloc (.cells #[v] 27)
 have hb:=box_cell w v 27
 rw[←hwb] at hE0 hb
 have hg:∀W,Ext wb W→Ints W v l:=fun W hW=>h.ext (hE0.trans hW)
 have hE:=Ext.refl wb
 have Hsz:Hid (w.heap.size+1=wb.heap.size):=Lib.hid (by rw[hwb];simp[go_sem])
 have Hwb:=Lib.hid hwb
 clear hwb h
 have hu':=hu.ext hE0
 have hlen:X.length≤17592186044416:=by obtain⟨_,_,_,_,h',_⟩:=hu;simpa[castL_len] using h'
 obtain⟨ao,c,adr,rfl,hadr,hcell⟩:=hu'.nats
 have hix:=ints_index (c:=c) elI szI hadr
 clear hadr hu hu'
 go_enter Tryz.func154,Tryz.ntmps154
 go_wp2_with fail
 rw[←Hwb.out]
 go_loopw [5,10] (fun s i wr=>∃k:Nat,k≤X.length∧i=.int .i64 k∧s=.int .i64 (sbs l (X.take k):Nat)∧Ext wb wr) (fun _ i _=>X.length - (intOf i).toNat)
 case atStart=>exact⟨0,by omega,rfl,rfl,hE⟩
 case round =>
  clear hE
  obtain⟨k,hk,rfl,rfl,hE⟩:=hrel
  by_cases hlt:k<X.length
  · have hx:=hX.out _ (nthN_mem hlt)
    have hs:=sbs_bd Hgr.out (X.take k) fun y hy=>hX.out y (List.mem_of_mem_take hy)
    have Ht:=Lib.hid (sbs_snoc l (X.take k) (nthN X k))
    have Ht2:=Lib.hid (take_nthN X k hlt)
    obtain⟨S,hS⟩:∃S,S=sbs l (X.take k):=⟨_,rfl⟩
    rw[←hS] at hs Ht ⊢
    have hsh:=shiftF_bd Hgr.out S (nthN X k)
    have h1:=ishl_one (n:=nthN X k) (by omega)
    have h2:ior (S:Int) (shiftF l S (nthN X k):Int)=((S ||| shiftF l S (nthN X k):Nat):Int):=ior_nat (by omega) (by omega)
    have h3:=ior_pw (Nat.or_lt_two_pow hs hsh) hx
    have cS:=fun W (hW:Ext wr W)=>shift_any v l S (nthN X k) W (hg _ (hE.trans hW)) Hgr hs hx
    have hck:=fun U=>hcell k _ hlt (hE.trans (lat_ext wr U))
    have hck0:=hcell k wr hlt hE
    have hbx:=fun U=>hb _ (hE.trans (lat_ext wr U))
    have hE1:=hE
    clear hE hS hsh
    have hE:=Ext.refl wr
    go_wp2_with fail
    (refine wp_region_lat (wr) (by kernel_rfl) (by kernel_rfl) hE ?_);(repeat (go_big_quiet_step (first | (go_at_call 166;exact Calls.lat (cS _ (lat_ext wr _))))));(refine wpQuiet_nil ?_);(intro W hE');(replace hE:=lat_of hE');(clear hE')
    replace hE:=hE1.trans hE
    go_wp2_with fail
    go_roundw
    case rel=>exact⟨k+1,by omega,by go_num,by rw[Ht2.out,Ht.out],hE⟩
    case measure=>(simp[intOf];omega)
  · have hkl:k=X.length:=by omega
    subst hkl
    go_wp2_with fail
    go_ret
    exact⟨ret_int (by rw[List.take_length]),hE0.trans hE⟩
theorem l16Subsums_any(v u:Value)(l:List Int)(X:List Nat)(w:World)(h:Ints w v l)(hu:Ints w u (castL X))(Hgr:Hid (isGrp l=true))(hX:Hid (∀x∈X,x<24)) :
 Calls Tryz.prog 55 #[.agg #[v],u] w fun e w'=>e=.returned (.int .i64 (sbs l X:Nat))∧Ext w w':=by
 obtain⟨wb,hwb⟩:∃wb,wb=w.alloc (.cells #[v] 27):=⟨_,rfl⟩
 have hE0:=(Ext.refl w).alloc (.cells #[v] 27)
 have hb:=box_cell w v 27
 rw[←hwb] at hE0 hb
 have hg:∀W,Ext wb W→Ints W v l:=fun W hW=>h.ext (hE0.trans hW)
 have hE:=Ext.refl wb
 have Hsz:Hid (w.heap.size+1=wb.heap.size):=Lib.hid (by rw[hwb];simp[go_sem])
 have Hwb:=Lib.hid hwb
 clear hwb h
 have hu':=hu.ext hE0
 have hlen:X.length≤17592186044416:=by obtain⟨_,_,_,_,h',_⟩:=hu;simpa[castL_len] using h'
 obtain⟨ao,c,adr,rfl,hadr,hcell⟩:=hu'.nats
 have hix:=ints_index (c:=c) elI szI hadr
 clear hadr hu hu'
 go_enter Tryz.func55,Tryz.ntmps55
 go_wp2_with fail
 rw[←Hwb.out]
 go_loopw [5,6] (fun s i wr=>∃k:Nat,k≤X.length∧i=.int .i64 k∧s=.int .i64 (sbs l (X.take k):Nat)∧Ext wb wr) (fun _ i _=>X.length - (intOf i).toNat)
 case atStart=>exact⟨0,by omega,rfl,rfl,hE⟩
 case round =>
  clear hE
  obtain⟨k,hk,rfl,rfl,hE⟩:=hrel
  by_cases hlt:k<X.length
  · have hx:=hX.out _ (nthN_mem hlt)
    have hs:=sbs_bd Hgr.out (X.take k) fun y hy=>hX.out y (List.mem_of_mem_take hy)
    have Ht:=Lib.hid (sbs_snoc l (X.take k) (nthN X k))
    have Ht2:=Lib.hid (take_nthN X k hlt)
    obtain⟨S,hS⟩:∃S,S=sbs l (X.take k):=⟨_,rfl⟩
    rw[←hS] at hs Ht ⊢
    have hsh:=shiftF_bd Hgr.out S (nthN X k)
    have h1:=ishl_one (n:=nthN X k) (by omega)
    have h2:ior (S:Int) (shiftF l S (nthN X k):Int)=((S ||| shiftF l S (nthN X k):Nat):Int):=ior_nat (by omega) (by omega)
    have h3:=ior_pw (Nat.or_lt_two_pow hs hsh) hx
    have cS:=fun W (hW:Ext wr W)=>l3Shift_any v l S (nthN X k) W (hg _ (hE.trans hW)) Hgr hs hx
    have hck:=fun U=>hcell k _ hlt (hE.trans (lat_ext wr U))
    have hck0:=hcell k wr hlt hE
    have hbx:=fun U=>hb _ (hE.trans (lat_ext wr U))
    have hE1:=hE
    clear hE hS hsh
    have hE:=Ext.refl wr
    go_wp2_with fail
    (refine wp_region_lat (wr) (by kernel_rfl) (by kernel_rfl) hE ?_);(repeat (go_big_quiet_step (first | (go_at_call 143;exact Calls.lat (cS _ (lat_ext wr _))))));(refine wpQuiet_nil ?_);(intro W hE');(replace hE:=lat_of hE');(clear hE')
    replace hE:=hE1.trans hE
    go_wp2_with fail
    go_roundw
    case rel=>exact⟨k+1,by omega,by go_num,by rw[Ht2.out,Ht.out],hE⟩
    case measure=>(simp[intOf];omega)
  · have hkl:k=X.length:=by omega
    subst hkl
    go_wp2_with fail
    go_ret
    exact⟨ret_int (by rw[List.take_length]),hE0.trans hE⟩
theorem IsZeroSum_any(v u:Value)(l xs:List Int)(w:World)(h:Ints w v l)(hu:Ints w u xs) :
 Calls Tryz.prog 89 #[.agg #[v],u] w fun e w'=>e=.returned (.bool (zsB l xs))∧Ext w w':=by
 obtain⟨wb,hwb⟩:∃wb,wb=w.alloc (.cells #[v] 27):=⟨_,rfl⟩
 have hE0:=(Ext.refl w).alloc (.cells #[v] 27)
 have hb:=box_cell w v 27
 rw[←hwb] at hE0 hb
 have hg:∀W,Ext wb W→Ints W v l:=fun W hW=>h.ext (hE0.trans hW)
 have hE:=Ext.refl wb
 have Hsz:Hid (w.heap.size+1=wb.heap.size):=Lib.hid (by rw[hwb];simp[go_sem])
 have Hwb:=Lib.hid hwb
 clear hwb h
 have hbx:=hb wb hE
 have HU:=Lib.hid (fun W (hW:Ext wb W)=>hu.ext (hE0.trans hW))
 cases hs:seqB l xs
 · have Hs:=Lib.hid (zsB_no hs)
   have cS:=fun W (hW:Ext wb W)=>IsSequence_val v u l xs W (hg _ hW) (HU.out _ hW) hs
   go_enter Tryz.func89,Tryz.ntmps89
   go_wp2_with fail
   rw[←Hwb.out]
   refine (cS _ hE).mono ?_
   rintro e w1 ⟨rfl,hE1⟩
   go_wp2_with fail
   go_ret
   exact⟨ret_bool Hs.out.symm,hE0.trans hE1⟩
 · have cS:=fun W (hW:Ext wb W)=>IsSequence_val v u l xs W (hg _ hW) (HU.out _ hW) hs
   obtain⟨X,rfl,-,-,hgr,hX⟩:=seqB_nat hs
   have Hs:=Lib.hid (zsB_yes hs)
   have cT:=fun W (hW:Ext wb W)=>total_any v u l X W (hg _ hW) (HU.out _ hW) (Lib.hid hgr) (Lib.hid hX)
   clear hX hgr
   go_enter Tryz.func89,Tryz.ntmps89
   go_wp2_with fail
   rw[←Hwb.out]
   refine (cS _ hE).mono ?_
   rintro e w1 ⟨rfl,hE1⟩
   have hb1:=hb w1 hE1
   go_wp2_with fail
   refine (cT _ hE1).mono ?_
   rintro e w2 ⟨rfl,hE2⟩
   go_wp2_with fail
   go_ret
   exact⟨ret_bool Hs.out.symm,hE0.trans (hE1.trans hE2)⟩
theorem sIsZeroSum_any(v u:Value)(l xs:List Int)(w:World)(h:Ints w v l)(hu:Ints w u xs) :
 Calls Tryz.prog 58 #[.agg #[v],u] w fun e w'=>e=.returned (.bool (zsB l xs))∧Ext w w':=by
 obtain⟨wb,hwb⟩:∃wb,wb=w.alloc (.cells #[v] 27):=⟨_,rfl⟩
 have hE0:=(Ext.refl w).alloc (.cells #[v] 27)
 have hb:=box_cell w v 27
 rw[←hwb] at hE0 hb
 have hg:∀W,Ext wb W→Ints W v l:=fun W hW=>h.ext (hE0.trans hW)
 have hE:=Ext.refl wb
 have Hsz:Hid (w.heap.size+1=wb.heap.size):=Lib.hid (by rw[hwb];simp[go_sem])
 have Hwb:=Lib.hid hwb
 clear hwb h
 have hbx:=hb wb hE
 have HU:=Lib.hid (fun W (hW:Ext wb W)=>hu.ext (hE0.trans hW))
 cases hs:seqB l xs
 · have Hs:=Lib.hid (zsB_no hs)
   have cS:=fun W (hW:Ext wb W)=>sIsSequence_val v u l xs W (hg _ hW) (HU.out _ hW) hs
   go_enter Tryz.func58,Tryz.ntmps58
   go_wp2_with fail
   rw[←Hwb.out]
   refine (cS _ hE).mono ?_
   rintro e w1 ⟨rfl,hE1⟩
   go_wp2_with fail
   go_ret
   exact⟨ret_bool Hs.out.symm,hE0.trans hE1⟩
 · have cS:=fun W (hW:Ext wb W)=>sIsSequence_val v u l xs W (hg _ hW) (HU.out _ hW) hs
   obtain⟨X,rfl,-,-,hgr,hX⟩:=seqB_nat hs
   have Hs:=Lib.hid (zsB_yes hs)
   have cT:=fun W (hW:Ext wb W)=>l16Sum_any v u l X W (hg _ hW) (HU.out _ hW) (Lib.hid hgr) (Lib.hid hX)
   clear hX hgr
   go_enter Tryz.func58,Tryz.ntmps58
   go_wp2_with fail
   rw[←Hwb.out]
   refine (cS _ hE).mono ?_
   rintro e w1 ⟨rfl,hE1⟩
   have hb1:=hb w1 hE1
   go_wp2_with fail
   refine (cT _ hE1).mono ?_
   rintro e w2 ⟨rfl,hE2⟩
   go_wp2_with fail
   go_ret
   exact⟨ret_bool Hs.out.symm,hE0.trans (hE1.trans hE2)⟩
theorem IsZeroFree_any(v u:Value)(l xs:List Int)(w:World)(h:Ints w v l)(hu:Ints w u xs) :
 Calls Tryz.prog 76 #[.agg #[v],u] w fun e w'=>e=.returned (.bool (zfB l xs))∧Ext w w':=by
 obtain⟨wb,hwb⟩:∃wb,wb=w.alloc (.cells #[v] 27):=⟨_,rfl⟩
 have hE0:=(Ext.refl w).alloc (.cells #[v] 27)
 have hb:=box_cell w v 27
 rw[←hwb] at hE0 hb
 have hg:∀W,Ext wb W→Ints W v l:=fun W hW=>h.ext (hE0.trans hW)
 have hE:=Ext.refl wb
 have Hsz:Hid (w.heap.size+1=wb.heap.size):=Lib.hid (by rw[hwb];simp[go_sem])
 have Hwb:=Lib.hid hwb
 clear hwb h
 have hbx:=hb wb hE
 have HU:=Lib.hid (fun W (hW:Ext wb W)=>hu.ext (hE0.trans hW))
 cases hs:seqB l xs
 · have Hs:=Lib.hid (zfB_no hs)
   have cS:=fun W (hW:Ext wb W)=>IsSequence_val v u l xs W (hg _ hW) (HU.out _ hW) hs
   go_enter Tryz.func76,Tryz.ntmps76
   go_wp2_with fail
   rw[←Hwb.out]
   refine (cS _ hE).mono ?_
   rintro e w1 ⟨rfl,hE1⟩
   go_wp2_with fail
   go_ret
   exact⟨ret_bool Hs.out.symm,hE0.trans hE1⟩
 · have cS:=fun W (hW:Ext wb W)=>IsSequence_val v u l xs W (hg _ hW) (HU.out _ hW) hs
   obtain⟨X,rfl,-,-,hgr,hX⟩:=seqB_nat hs
   have Hs:=Lib.hid (zfB_yes hs)
   have cT:=fun W (hW:Ext wb W)=>subsums_any v u l X W (hg _ hW) (HU.out _ hW) (Lib.hid hgr) (Lib.hid hX)
   have hb24:=sbs_bd hgr X hX
   obtain⟨S,hS⟩:∃S,S=sbs l X:=⟨_,rfl⟩
   rw[←hS] at hb24 cT Hs
   clear hX hgr hS
   go_enter Tryz.func76,Tryz.ntmps76
   go_wp2_with fail
   rw[←Hwb.out]
   refine (cS _ hE).mono ?_
   rintro e w1 ⟨rfl,hE1⟩
   have hb1:=hb w1 hE1
   go_wp2_with fail
   refine (cT _ hE1).mono ?_
   rintro e w2 ⟨rfl,hE2⟩
   go_wp2_with (go_at_call 163;refine (in_any S 0 hb24 (by omega) _).mono ?_;rintro e w' ⟨rfl,rfl⟩)
   go_ret
   exact⟨ret_bool (by rw[Hs.out];first | exact bit0 S | rw[Nat.testBit_zero]),hE0.trans (hE1.trans hE2)⟩
theorem sIsZeroFree_any(v u:Value)(l xs:List Int)(w:World)(h:Ints w v l)(hu:Ints w u xs) :
 Calls Tryz.prog 38 #[.agg #[v],u] w fun e w'=>e=.returned (.bool (zfB l xs))∧Ext w w':=by
 obtain⟨wb,hwb⟩:∃wb,wb=w.alloc (.cells #[v] 27):=⟨_,rfl⟩
 have hE0:=(Ext.refl w).alloc (.cells #[v] 27)
 have hb:=box_cell w v 27
 rw[←hwb] at hE0 hb
 have hg:∀W,Ext wb W→Ints W v l:=fun W hW=>h.ext (hE0.trans hW)
 have hE:=Ext.refl wb
 have Hsz:Hid (w.heap.size+1=wb.heap.size):=Lib.hid (by rw[hwb];simp[go_sem])
 have Hwb:=Lib.hid hwb
 clear hwb h
 have hbx:=hb wb hE
 have HU:=Lib.hid (fun W (hW:Ext wb W)=>hu.ext (hE0.trans hW))
 cases hs:seqB l xs
 · have Hs:=Lib.hid (zfB_no hs)
   have cS:=fun W (hW:Ext wb W)=>sIsSequence_val v u l xs W (hg _ hW) (HU.out _ hW) hs
   go_enter Tryz.func38,Tryz.ntmps38
   go_wp2_with fail
   rw[←Hwb.out]
   refine (cS _ hE).mono ?_
   rintro e w1 ⟨rfl,hE1⟩
   go_wp2_with fail
   go_ret
   exact⟨ret_bool Hs.out.symm,hE0.trans hE1⟩
 · have cS:=fun W (hW:Ext wb W)=>sIsSequence_val v u l xs W (hg _ hW) (HU.out _ hW) hs
   obtain⟨X,rfl,-,-,hgr,hX⟩:=seqB_nat hs
   have Hs:=Lib.hid (zfB_yes hs)
   have cT:=fun W (hW:Ext wb W)=>l16Subsums_any v u l X W (hg _ hW) (HU.out _ hW) (Lib.hid hgr) (Lib.hid hX)
   have hb24:=sbs_bd hgr X hX
   obtain⟨S,hS⟩:∃S,S=sbs l X:=⟨_,rfl⟩
   rw[←hS] at hb24 cT Hs
   clear hX hgr hS
   go_enter Tryz.func38,Tryz.ntmps38
   go_wp2_with fail
   rw[←Hwb.out]
   refine (cS _ hE).mono ?_
   rintro e w1 ⟨rfl,hE1⟩
   have hb1:=hb w1 hE1
   go_wp2_with fail
   refine (cT _ hE1).mono ?_
   rintro e w2 ⟨rfl,hE2⟩
   have h1:=iand_one (a:=S) (by omega);go_wp2_with fail
   go_ret
   exact⟨ret_bool (by rw[Hs.out];first | exact bit0 S | rw[Nat.testBit_zero]),hE0.trans (hE1.trans hE2)⟩
end Go.Zz
namespace Go.Zz
set_option linter.unusedVariables false
def kEq(g h:List Int)(L M:List Nat)(i j p q:Nat):Bool:=!(((addF g (nthN L i) (nthN L j):Nat):Int) == ((addF g (nthN L p) (nthN L q):Nat):Int)) || !(((addF h (nthN M i) (nthN M j):Nat):Int) != ((addF h (nthN M p) (nthN M q):Nat):Int))
theorem kEq_symm(g h:List Int)(L M:List Nat)(i j p q:Nat):kEq g h L M i j p q=kEq g h L M p q i j:=by
 unfold kEq
 rw[show (((addF g (nthN L i) (nthN L j):Nat):Int) == ((addF g (nthN L p) (nthN L q):Nat):Int))=(((addF g (nthN L p) (nthN L q):Nat):Int) == ((addF g (nthN L i) (nthN L j):Nat):Int)) by rw[Bool.eq_iff_iff,beq_iff_eq,beq_iff_eq];exact eq_comm,
  show (((addF h (nthN M i) (nthN M j):Nat):Int) != ((addF h (nthN M p) (nthN M q):Nat):Int))=(((addF h (nthN M p) (nthN M q):Nat):Int) != ((addF h (nthN M i) (nthN M j):Nat):Int)) by rw[Bool.eq_iff_iff,bne_iff_ne,bne_iff_ne];exact ne_comm]
def kpB(g h:List Int)(L M:List Nat):Bool:=(List.range L.length).all fun i=>(List.range L.length).all fun j=>(List.range L.length).all fun p=>(List.range L.length).all fun q=>decide (j<i) || decide (q<p) || kEq g h L M i j p q
theorem kpB_iff{g h:List Int}{L M:List Nat}:kpB g h L M=true↔∀i j p q,i≤j→j<L.length→p≤q→q<L.length→kEq g h L M i j p q=true:=by
 unfold kpB
 simp only[List.all_eq_true,List.mem_range]
 constructor
 · intro H i j p q h1 h2 h3 h4
   have:=H i (by omega) j h2 p (by omega) q h4
   simpa[show ¬j<i by omega,show ¬q<p by omega] using this
 · intro H i h1 j h2 p h3 q h4
   by_cases hij:j<i
   · simp[hij]
   · by_cases hpq:q<p
     · simp[hpq]
     · rw[H i j p q (by omega) h2 (by omega) h4];simp
theorem kpB_no{g h:List Int}{L M:List Nat}{i j p q:Nat}(h1:i≤j)(h2:j<L.length)(h3:p≤q)(h4:q<L.length)(e:kEq g h L M i j p q=false):kpB g h L M=false:=by
 rw[←Bool.not_eq_true,kpB_iff];intro H;rw[H i j p q h1 h2 h3 h4] at e;cases e
theorem kpB_all{g h:List Int}{L M:List Nat}(H:∀i,i<L.length→∀j p q,i≤j→j<L.length→p<L.length→p≤q→q<L.length→kEq g h L M i j p q=true):kpB g h L M=true:=by
 rw[kpB_iff];intro i j p q h1 h2 h3 h4;exact H i (by omega) j p q h1 h2 (by omega) h3 h4
theorem kpB_half{g h:List Int}{L M:List Nat}(H:∀i,i<L.length→∀j p q,i≤j→j<L.length→p<i+1→p≤q→q<L.length→kEq g h L M i j p q=true):kpB g h L M=true:=by
 rw[kpB_iff];intro i j p q h1 h2 h3 h4
 by_cases hp:p<i+1
 · exact H i (by omega) j p q h1 h2 hp h3 h4
 · rw[kEq_symm];exact H p (by omega) q i j h3 h4 (by omega) h1 h2
theorem kpB_take{g h:List Int}{L M:List Nat}{n:Nat}(hn:n≤L.length)(H:kpB g h L M=true):kpB g h (L.take n) (M.take n)=true:=by
 rw[kpB_iff] at H ⊢
 intro i j p q h1 h2 h3 h4
 rw[List.length_take] at h2 h4
 have:=H i j p q h1 (by omega) h3 (by omega)
 have e:∀(N:List Nat) k,k<n→nthN (N.take n) k=nthN N k:=fun N k hk=>by simp[nthN,List.getD,hk]
 unfold kEq at this ⊢
 rw[e L i (by omega),e L j (by omega),e L p (by omega),e L q (by omega),e M i (by omega),e M j (by omega),e M p (by omega),e M q (by omega)]
 exact this
theorem add_bit{a x:Nat}(h:a.testBit x=false):a+2 ^ x=a ||| 2 ^ x:=by
 have h1:a &&& 2 ^ x=0:=Nat.eq_of_testBit_eq fun i=>by
  rw[Nat.testBit_and,Nat.testBit_two_pow,Nat.zero_testBit]
  by_cases e:x=i
  · subst e;rw[h];rfl
  · simp[e]
 have e1:a<2 ^ (max a (2 ^ x)+1):=Nat.lt_of_lt_of_le (Nat.lt_two_pow_self) (Nat.pow_le_pow_right (by omega) (by omega))
 have e2:2 ^ x<2 ^ (max a (2 ^ x)+1):=Nat.lt_of_lt_of_le (Nat.lt_two_pow_self) (Nat.pow_le_pow_right (by omega) (by omega))
 have h2:=andN_sub (max a (2 ^ x)+1) (a ||| 2 ^ x) (2 ^ x) (Nat.or_lt_two_pow e1 e2)
 have h3:andN (a ||| 2 ^ x) (2 ^ x)=a:=Nat.eq_of_testBit_eq fun i=>by
  rw[andN_bit,Nat.testBit_or,Nat.testBit_two_pow]
  by_cases e:x=i
  · subst e;simp[h]
  · simp[e]
 have h4:(a ||| 2 ^ x) &&& 2 ^ x=2 ^ x:=Nat.eq_of_testBit_eq fun i=>by
  rw[Nat.testBit_and,Nat.testBit_or,Nat.testBit_two_pow]
  by_cases e:x=i<;>simp[e]
 rw[h3,h4] at h2;exact h2
def soG(l:List Int):List Int→Nat→Option Nat
 | [],a=>some a
 | x :: r,a=>if hasB l x && !a.testBit x.toNat then soG l r (a ||| 2 ^ x.toNat) else none
def soB(l X:List Int):Bool:=(soG l X 0).isSome&&isGrp l
def soV(l X:List Int):Int:=match soG l X 0 with | some a=>(a:Int) | none=>0
theorem soG_no{l X:List Int}(h:soG l X 0=none):soB l X=false∧soV l X=0:=by unfold soB soV;rw[h];exact⟨rfl,rfl⟩
theorem soG_yes{l X:List Int}{a:Nat}(h:soG l X 0=some a):soB l X=isGrp l∧soV l X=(a:Int):=by unfold soB soV;rw[h];exact⟨by simp,rfl⟩
theorem soG_hno{l r:List Int}{x:Int}{a:Nat}(h:hasB l x=false):soG l (x :: r) a=none:=by unfold soG;rw[h];rfl
theorem soG_bno{l r:List Int}{n a:Nat}(h:a.testBit n=true):soG l ((n:Int) :: r) a=none:=by unfold soG;simp[h]
theorem soG_go{l r:List Int}{n a:Nat}(h1:hasB l n=true)(h:a.testBit n=false):soG l ((n:Int) :: r) a=soG l r (a ||| 2 ^ n):=by
 conv=>lhs;unfold soG
 simp[h,h1]
theorem soG_append(l:List Int):∀(X Y:List Int) (a:Nat),soG l (X++Y) a=(soG l X a).bind (soG l Y)
 | [],_,_=>rfl
 | x :: X,Y,a=>by
  rw[List.cons_append];unfold soG
  split
  · exact soG_append l X Y _
  · rfl
theorem bset_app(M:List Nat)(y:Nat):bset (M++[y])=bset M ||| 2 ^ y:=bset_snoc M y
theorem bset_mem{M:List Nat}{y:Nat}:(bset M).testBit y=decide (y∈M):=testBit_bset M y
theorem soG_take{l:List Int}(hg:isGrp l=true){M:List Nat}(hn:M.Nodup)(hM:∀y∈M,y<ord l):∀k,k≤M.length→soG l (castL (M.take k)) 0=some (bset (M.take k))
 | 0,_=>rfl
 | k+1,hk=>by
  have hk':k<M.length:=by omega
  have ih:=soG_take hg hn hM k (by omega)
  have hn2:(M.take (k+1)).Nodup:=hn.sublist (List.take_sublist _ _)
  have hy:nthN M k<ord l:=hM _ (nthN_mem hk')
  rw[take_nthN M k hk'] at hn2 ⊢
  have hn3:=List.nodup_append.1 hn2
  have hyn:nthN M k ∉ M.take k:=fun e=>hn3.2.2 _ e _ (by simp) rfl
  rw[show castL (M.take k++[nthN M k])=castL (M.take k)++[((nthN M k:Nat):Int)] by simp[castL],soG_append,ih]
  show soG l [((nthN M k:Nat):Int)] (bset (M.take k))=_
  rw[soG_go (hasB_of hg hy) (by rw[bset_mem];simpa using hyn),bset_app];rfl
theorem soG_list{l:List Int}(hg:isGrp l=true)(M:List Nat)(hn:M.Nodup)(hM:∀y∈M,y<ord l):soG l (castL M) 0=some (bset M):=by
 have:=soG_take hg hn hM M.length (Nat.le_refl _)
 rwa [List.take_length] at this
theorem soB_list{l:List Int}(hg:isGrp l=true){M:List Nat}(hn:M.Nodup)(hM:∀y∈M,y<ord l):soB l (castL M)=true:=by
 unfold soB;rw[soG_list hg M hn hM,hg];rfl
theorem soB_snoc{l:List Int}(hg:isGrp l=true){M:List Nat}{y:Nat}(hn:M.Nodup)(hM:∀z∈M,z<ord l)(hy:y<ord l):soB l (castL (M++[y])) = !(bset M).testBit y:=by
 unfold soB
 rw[show castL (M++[y])=castL M++[(y:Int)] by simp[castL],soG_append,soG_list hg M hn hM,hg]
 show ((soG l [(y:Int)] (bset M)).isSome&&true)=_
 cases hb:(bset M).testBit y
 · rw[soG_go (hasB_of hg hy) hb];rfl
 · rw[soG_bno hb];rfl
def fineF(g h X Y:List Int):Bool:=Y.all (hasB h)&&(soB g X&&isGrp h&&decide (X.length=Y.length)&&decide (1≤X.length∧X.length≤6))
def natL(X:List Int):List Nat:=X.map Int.toNat
def fmF(g h X Y:List Int):Bool:=fineF g h X Y&&kpB g h (natL X) (natL Y)
def isoF(g h X Y:List Int):Bool:=fmF g h X Y&&fmF h g Y X
theorem natL_cast(L:List Nat):natL (castL L)=L:=by
 unfold natL castL;rw[List.map_map]
 have:(Int.toNat ∘ fun n:Nat=>(n:Int))=id:=by funext n;rfl
 rw[this,List.map_id]
theorem fine_list{g h:List Int}(hg:isGrp g=true)(hh:isGrp h=true){L M:List Nat}(hL:L.Nodup)(hLo:∀y∈L,y<ord g)(hMo:∀y∈M,y<ord h)(hlm:L.length=M.length)(h1:1≤L.length)(h6:L.length≤6):fineF g h (castL L) (castL M)=true:=by
 unfold fineF
 rw[soB_list hg hL hLo,hh,castL_len,castL_len]
 have:(castL M).all (hasB h)=true:=List.all_eq_true.2 fun x hx=>by
  unfold castL at hx;obtain⟨y,hy,rfl⟩:=List.mem_map.1 hx;exact hasB_of hh (hMo y hy)
 rw[this];simp;omega
theorem iso_list{g h:List Int}(hg:isGrp g=true)(hh:isGrp h=true){L M:List Nat}(hL:L.Nodup)(hM:M.Nodup)(hLo:∀y∈L,y<ord g)(hMo:∀y∈M,y<ord h)(hlm:L.length=M.length)(h1:1≤L.length)(h6:L.length≤6):isoF g h (castL L) (castL M)=(kpB g h L M&&kpB h g M L):=by
 unfold isoF fmF
 rw[fine_list hg hh hL hLo hMo hlm h1 h6,fine_list hh hg hM hMo hLo hlm.symm (by omega) (by omega),natL_cast,natL_cast];simp
def isoK(g h:List Int)(L M:List Nat):Bool:=kpB g h L M&&kpB h g M L
def fiI(g h:List Int)(L E:List Nat):Nat→List Nat→Option (List Nat)
 | 0,_=>none
 | f+1,M=>if M.length=L.length then (if isoK g h L M then some M else none) else E.findSome? (fun y=>if (bset M).testBit y then none else fiI g h L E f (M++[y]))
def fiS(g h:List Int)(L E:List Nat):Nat→List Nat→Option (List Nat)
 | 0,_=>none
 | f+1,M=>if M.length=L.length then (if isoK g h L M then some M else none) else E.findSome? (fun y=>if (bset M).testBit y || !kpB g h (L.take (M.length+1)) (M++[y]) then none else fiS g h L E f (M++[y]))
theorem findSome_at{E:List Nat}{F:Nat→Option (List Nat)}{k:Nat}{r:List Nat}(hk:k<E.length)(h:∀k',k'<k→F (nthN E k')=none)(hr:F (nthN E k)=some r):E.findSome? F=some r:=by
 induction E generalizing k with
 | nil=>simp at hk
 | cons y E ih =>
  cases k with
  | zero =>
   have:F y=some r:=hr
   simp[List.findSome?,this]
  | succ k =>
   have h0:F y=none:=h 0 (by omega)
   simp only[List.findSome?,h0]
   exact ih (k:=k) (by simpa using hk) (fun k' hk'=>h (k'+1) (by omega)) hr
theorem findSome_none{E:List Nat}{F:Nat→Option (List Nat)}(h:∀k',k'<E.length→F (nthN E k')=none):E.findSome? F=none:=by
 rw[List.findSome?_eq_none_iff]
 intro y hy
 obtain⟨k,hk,rfl⟩:=List.getElem_of_mem hy
 have:=h k hk
 simpa[nthN,List.getD,hk] using this
theorem findSome_get{E:List Nat}{F:Nat→Option (List Nat)}{r:List Nat}(h:E.findSome? F=some r):∃y∈E,F y=some r:=by
 obtain⟨l1,y,l2,rfl,hy,-⟩:=List.findSome?_eq_some_iff.1 h
 exact⟨y,by simp,hy⟩
theorem fiI_ext(g h:List Int)(L E:List Nat):∀f M N,fiI g h L E f M=some N→(∃R,N=M++R)∧N.length=L.length∧isoK g h L N=true:=by
 intro f
 induction f with
 | zero=>intro M N e;cases e
 | succ f ih =>
  intro M N e
  unfold fiI at e
  split at e
  · next hl =>
     split at e
     · next hk=>cases e;exact⟨⟨[],by simp⟩,hl,hk⟩
     · cases e
  · obtain⟨y,-,hy⟩:=findSome_get e
    split at hy
    · cases hy
    · obtain⟨⟨R,hR⟩,h2,h3⟩:=ih _ _ hy
      exact⟨⟨y :: R,by rw[hR];simp⟩,h2,h3⟩
theorem fiS_eq(g h:List Int)(L E:List Nat):∀f M,M.length≤L.length→fiS g h L E f M=fiI g h L E f M:=by
 intro f
 induction f with
 | zero=>intro M _;rfl
 | succ f ih =>
  intro M hM
  unfold fiS fiI
  by_cases hl:M.length=L.length
  · rw[if_pos hl,if_pos hl]
  · rw[if_neg hl,if_neg hl]
    congr 1
    funext y
    by_cases hb:(bset M).testBit y=true
    · simp[hb]
    · have hb':(bset M).testBit y=false:=by simpa using hb
      rw[hb']
      by_cases hk:kpB g h (L.take (M.length+1)) (M++[y])=true
      · rw[hk];simp;exact ih _ (by simp;omega)
      · have hk':kpB g h (L.take (M.length+1)) (M++[y])=false:=by simpa using hk
        rw[hk']
        simp
        cases hf:fiI g h L E f (M++[y]) with
        | none=>rfl
        | some N =>
         exfalso
         obtain⟨⟨R,hR⟩,h2,h3⟩:=fiI_ext g h L E _ _ _ hf
         unfold isoK at h3
         rw[Bool.and_eq_true] at h3
         have:=kpB_take (n:=M.length+1) (by omega) h3.1
         rw[hR,show (M++[y]++R).take (M.length+1)=M++[y] by
          rw[show M.length+1=(M++[y]).length by simp];exact List.take_left] at this
         exact hk this
def ffC(g h:List Int)(a b:Int):Bool:=isSetB g a&&isSetB h b&&(decide (cnt a.toNat=cnt b.toNat)&&decide (1≤cnt a.toNat∧cnt a.toNat≤5))
def ffR(g h:List Int)(a b:Int):Option (List Nat):=if ffC g h a b then fiI g h (elems a.toNat) (elems b.toNat) (cnt a.toNat+1) [] else none
def ffL(g h:List Int)(a b:Int):List Nat:=(ffR g h a b).getD []
def ffB(g h:List Int)(a b:Int):Bool:=(ffR g h a b).isSome
theorem ff_no{g h:List Int}{a b:Int}(e:ffR g h a b=none):ffL g h a b=[]∧ffB g h a b=false:=by unfold ffL ffB;rw[e];exact⟨rfl,rfl⟩
theorem ff_yes{g h:List Int}{a b:Int}{N:List Nat}(e:ffR g h a b=some N):ffL g h a b=N∧ffB g h a b=true:=by unfold ffL ffB;rw[e];exact⟨rfl,rfl⟩
end Go.Zz
