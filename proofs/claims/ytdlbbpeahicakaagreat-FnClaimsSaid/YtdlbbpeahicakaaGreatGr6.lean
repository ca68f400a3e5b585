/- Claims of sums: stabilizers, pairs of Kneser's bound. -/
import Derived.Test.YtdlbbpeahicakaaGreatGr5
import Derived.Test.YtdlbbpeahicakaaGreatGr4
namespace Go.Zz
open Go.RowKit Go.Proofs
set_option maxHeartbeats 2000000
set_option maxRecDepth 20000
def stabTo(l:List Int)(a k:Nat):Nat:=bset ((List.range k).filter (fun x=>decide (shiftF l a x=a)))
theorem stabTo_yes{l:List Int}{a k:Nat}(h:shiftF l a k=a):stabTo l a (k+1)=stabTo l a k ||| 2 ^ k:=by
 unfold stabTo;rw[List.range_succ,List.filter_append];simp only[List.filter_cons,List.filter_nil,h,decide_true,if_true];exact bset_snoc _ _
theorem stabTo_no{l:List Int}{a k:Nat}(h:¬shiftF l a k=a):stabTo l a (k+1)=stabTo l a k:=by
 unfold stabTo;rw[List.range_succ,List.filter_append];simp[h]
theorem stabTo_lt(l:List Int)(a k:Nat):stabTo l a k<2 ^ k:=bset_lt fun _ hx=>List.mem_range.1 (List.mem_filter.1 hx).1
def stabF(l:List Int)(a:Nat):Nat:=stabTo l a (ord l)
theorem stabF_lt(l:List Int)(a:Nat):stabF l a<2 ^ ord l:=stabTo_lt l a _
def fullB(l:List Int)(a b:Int):Bool:=isSetB l a&&isSetB l b && !(a == 0) && !(b == 0)
theorem fullB_set{l:List Int}{a b:Int}(h:(isSetB l a&&isSetB l b)=false):fullB l a b=false:=by unfold fullB;rw[h];rfl
theorem fullB_nat{l:List Int}{a b:Int}(h:fullB l a b=true):∃m n:Nat,a=m∧b=n∧m≠0∧n≠0∧m<2 ^ ord l∧n<2 ^ ord l∧m<2 ^ 24∧n<2 ^ 24∧isGrp l=true∧isSetB l a=true∧isSetB l b=true:=by
 unfold fullB at h
 simp only[Bool.and_eq_true,Bool.not_eq_true',beq_eq_false_iff_ne] at h
 obtain⟨⟨⟨h1,h2⟩,h3⟩,h4⟩:=h
 obtain⟨m,rfl,a1,a2,hg⟩:=isSetB_nat h1
 obtain⟨n,rfl,b1,b2,-⟩:=isSetB_nat h2
 exact⟨m,n,rfl,rfl,by omega,by omega,a1,b1,a2,b2,hg,h1,h2⟩
theorem cnt_sum_ge{l:List Int}(h:isGrp l=true){a b:Nat}(ha:a≠0)(ha2:a<2 ^ ord l)(hb:b<2 ^ ord l):cnt b≤cnt (sumF l a b):=by
 obtain⟨x,hx⟩:=bit_of_pos ha
 rw[←cnt_shift h hb x]
 refine cnt_mono fun i hi=>?_
 obtain⟨y,hy,by_,rfl⟩:=testBit_shiftF.1 hi
 exact testBit_sumF.2 ⟨x,y,Nat.lt_of_lt_of_le (bit_lt ha2 hx) (ord_bd h).2,hx,hy,by_,rfl⟩
theorem StabilizerOf_nat(v:Value)(l:List Int)(a:Nat)(w:World)(h:Ints w v l)(hs:isSetB l a=true) :
 Calls Tryz.prog 81 #[.agg #[v],.int .i64 a] w fun e w'=>e=.returned (.int .i64 (stabF l a:Nat))∧Ext w w':=by
 obtain⟨wb,hwb⟩:∃wb,wb=w.alloc (.cells #[v] 27):=⟨_,rfl⟩
 have hE0:=(Ext.refl w).alloc (.cells #[v] 27)
 have hb:=box_cell w v 27
 rw[←hwb] at hE0 hb
 have hg:∀W,Ext wb W→Ints W v l:=fun W hW=>h.ext (hE0.trans hW)
 have hE:=Ext.refl wb
 have Hsz:Hid (w.heap.size+1=wb.heap.size):=Lib.hid (by rw[hwb];simp[go_sem])
 have Hwb:=Lib.hid hwb
 clear hwb h
 obtain⟨a',e1,-,ha2,hgr⟩:=isSetB_nat hs
 obtain rfl:a=a':=by omega
 have Hgr:=Lib.hid hgr
 have hob:=ord_bd hgr
 clear hgr e1
 go_enter Tryz.func81,Tryz.ntmps81
 go_wp2_with fail
 rw[←Hwb.out]
 go_wp2_with (first | (go_at_call 152;refine (IsSet_val _ _ _ _ (hg _ hE) (hs)).mono ?_;rintro e w' ⟨rfl,hE'⟩;replace hE:=hE.trans hE';clear hE') | (go_at_call 157;refine (OrderOf_grp _ _ _ (hg _ hE) (Hgr)).mono ?_;rintro e w' ⟨rfl,hE'⟩;replace hE:=hE.trans hE';clear hE'))
 clear hs
 go_loopw [5,13] (fun ov xv wr=>∃k:Nat,k≤ord l∧xv=.int .i64 k∧ov=.int .i64 (stabTo l a k:Nat)∧Ext wb wr) (fun _ x _=>ord l - (intOf x).toNat)
 case atStart=>exact⟨0,by omega,rfl,rfl,hE⟩
 case round =>
  clear hE
  obtain⟨k,hk,rfl,rfl,hE⟩:=hrel
  have hbx:=hb _ hE
  by_cases hlt:k<ord l
  · have hst:stabTo l a k<2 ^ 24:=Nat.lt_of_lt_of_le (stabTo_lt l a k) (Nat.pow_le_pow_right (by omega) (by omega))
    have hsf:=shiftF_bd Hgr.out a k
    have hs1:=ishl_one (n:=k) (by omega)
    have hs2:=ior_pw hst (show k<24 by omega)
    by_cases hq:shiftF l a k=a
    · have Hn:=Lib.hid (stabTo_yes hq)
      have hqi:((shiftF l a k:Int) == (a:Int))=true:=by rw[hq];simp
      clear hq
      go_wp2_with (first | (go_at_call 166;refine (shift_any _ _ _ _ _ (hg _ hE) (Hgr) (ha2) ((by omega))).mono ?_;rintro e w' ⟨rfl,hE'⟩;replace hE:=hE.trans hE';clear hE'))
      go_roundw
      case rel=>exact⟨k+1,by omega,by go_num,by rw[Hn.out],hE⟩
      case measure=>(simp[intOf];omega)
    · have Hn:=Lib.hid (stabTo_no hq)
      have hqi:((shiftF l a k:Int) == (a:Int))=false:=by simp;omega
      clear hq
      go_wp2_with (first | (go_at_call 166;refine (shift_any _ _ _ _ _ (hg _ hE) (Hgr) (ha2) ((by omega))).mono ?_;rintro e w' ⟨rfl,hE'⟩;replace hE:=hE.trans hE';clear hE'))
      go_roundw
      case rel=>exact⟨k+1,by omega,by go_num,by rw[Hn.out],hE⟩
      case measure=>(simp[intOf];omega)
  · have hkl:k=ord l:=by omega
    subst hkl
    go_wp2_with fail
    go_ret
    exact⟨rfl,hE0.trans hE⟩
theorem l6Stabilizer_any(v:Value)(l:List Int)(a:Nat)(w:World)(h:Ints w v l)(Hgr:Hid (isGrp l=true))(ha2:a<2 ^ 24) :
 Calls Tryz.prog 117 #[.agg #[v],.int .i64 a] w fun e w'=>e=.returned (.int .i64 (stabF l a:Nat))∧Ext w w':=by
 obtain⟨wb,hwb⟩:∃wb,wb=w.alloc (.cells #[v] 27):=⟨_,rfl⟩
 have hE0:=(Ext.refl w).alloc (.cells #[v] 27)
 have hb:=box_cell w v 27
 rw[←hwb] at hE0 hb
 have hg:∀W,Ext wb W→Ints W v l:=fun W hW=>h.ext (hE0.trans hW)
 have hE:=Ext.refl wb
 have Hsz:Hid (w.heap.size+1=wb.heap.size):=Lib.hid (by rw[hwb];simp[go_sem])
 have Hwb:=Lib.hid hwb
 clear hwb h
 have hob:=ord_bd Hgr.out
 go_enter Tryz.func117,Tryz.ntmps117
 go_wp2_with fail
 rw[←Hwb.out]
 go_loopw [5,6] (fun ov xv wr=>∃k:Nat,k≤ord l∧xv=.int .i64 k∧ov=.int .i64 (stabTo l a k:Nat)∧Ext wb wr) (fun _ x _=>ord l - (intOf x).toNat)
 case atStart=>exact⟨0,by omega,rfl,rfl,hE⟩
 case round =>
  clear hE
  obtain⟨k,hk,rfl,rfl,hE⟩:=hrel
  have hbx:=hb _ hE
  by_cases hlt:k<ord l
  · have hst:stabTo l a k<2 ^ 24:=Nat.lt_of_lt_of_le (stabTo_lt l a k) (Nat.pow_le_pow_right (by omega) (by omega))
    have hsf:=shiftF_bd Hgr.out a k
    have hs1:=ishl_one (n:=k) (by omega)
    have hs2:=ior_pw hst (show k<24 by omega)
    by_cases hq:shiftF l a k=a
    · have Hn:=Lib.hid (stabTo_yes hq)
      have hqi:((shiftF l a k:Int) == (a:Int))=true:=by rw[hq];simp
      clear hq
      go_wp2_with (first | (go_at_call 59;refine (l2Order_any _ _ _ (hg _ hE) (Hgr)).mono ?_;rintro e w' ⟨rfl,hE'⟩;replace hE:=hE.trans hE';clear hE') | (go_at_call 143;refine (l3Shift_any _ _ _ _ _ (hg _ hE) (Hgr) (ha2) ((by omega))).mono ?_;rintro e w' ⟨rfl,hE'⟩;replace hE:=hE.trans hE';clear hE'))
      go_roundw
      case rel=>exact⟨k+1,by omega,by go_num,by rw[Hn.out],hE⟩
      case measure=>(simp[intOf];omega)
    · have Hn:=Lib.hid (stabTo_no hq)
      have hqi:((shiftF l a k:Int) == (a:Int))=false:=by simp;omega
      clear hq
      go_wp2_with (first | (go_at_call 59;refine (l2Order_any _ _ _ (hg _ hE) (Hgr)).mono ?_;rintro e w' ⟨rfl,hE'⟩;replace hE:=hE.trans hE';clear hE') | (go_at_call 143;refine (l3Shift_any _ _ _ _ _ (hg _ hE) (Hgr) (ha2) ((by omega))).mono ?_;rintro e w' ⟨rfl,hE'⟩;replace hE:=hE.trans hE';clear hE'))
      go_roundw
      case rel=>exact⟨k+1,by omega,by go_num,by rw[Hn.out],hE⟩
      case measure=>(simp[intOf];omega)
  · have hkl:k=ord l:=by omega
    subst hkl
    go_wp2_with (first | (go_at_call 59;refine (l2Order_any _ _ _ (hg _ hE) (Hgr)).mono ?_;rintro e w' ⟨rfl,hE'⟩;replace hE:=hE.trans hE';clear hE'))
    go_ret
    exact⟨rfl,hE0.trans hE⟩
theorem areFull_any(v:Value)(l:List Int)(a b:Int)(w:World)(h:Ints w v l) :
 Calls Tryz.prog 78 #[.agg #[v],.int .i64 a,.int .i64 b] w fun e w'=>e=.returned (.bool (fullB l a b))∧Ext w w':=by
 obtain⟨wb,hwb⟩:∃wb,wb=w.alloc (.cells #[v] 27):=⟨_,rfl⟩
 have hE0:=(Ext.refl w).alloc (.cells #[v] 27)
 have hb:=box_cell w v 27
 rw[←hwb] at hE0 hb
 have hg:∀W,Ext wb W→Ints W v l:=fun W hW=>h.ext (hE0.trans hW)
 have hE:=Ext.refl wb
 have Hsz:Hid (w.heap.size+1=wb.heap.size):=Lib.hid (by rw[hwb];simp[go_sem])
 have Hwb:=Lib.hid hwb
 clear hwb h
 have hbx:=hb wb hE
 have har:=areF_two l a b
 cases hs:(isSetB l a&&isSetB l b)
 · have Hs:=Lib.hid (fullB_set hs)
   rw[hs] at har
   clear hs
   go_enter Tryz.func78,Tryz.ntmps78
   go_wp2_with fail
   rw[←Hwb.out];try rw[Hsz.out]
   go_wp2_with (first | (go_at_call 133;refine Calls.mono (areSets_val _ _ _ _ _ (hg _ (by repeat (first | assumption | exact Ext.refl _ | (apply And.left;assumption) | apply Ext.drew | apply Ext.alloc))) (ints_two _ _ _ _) har) ?_;rintro e w' ⟨rfl,hE'⟩;replace hE:=hE.trans (Ext.trans (by repeat (first | assumption | exact Ext.refl _ | (apply And.left;assumption) | apply Ext.drew | apply Ext.alloc)) hE');clear hE'))
   go_ret
   exact⟨ret_bool Hs.out.symm,hE0.trans hE⟩
 · have Hs:Hid (fullB l a b=(!(a == 0) && !(b == 0))):=Lib.hid (by unfold fullB;rw[hs];rfl)
   rw[hs] at har
   clear hs
   cases ha:(a == 0)<;>cases hb0:(b == 0)
   all_goals
    have ha':(a != 0) = !(a == 0):=rfl
    have hb':(b != 0) = !(b == 0):=rfl
    rw[ha] at ha'
    rw[hb0] at hb'
    rw[ha,hb0] at Hs
    go_enter Tryz.func78,Tryz.ntmps78
    go_wp2_with fail
    rw[←Hwb.out];try rw[Hsz.out]
    go_wp2_with (first | (go_at_call 133;refine Calls.mono (areSets_val _ _ _ _ _ (hg _ (by repeat (first | assumption | exact Ext.refl _ | (apply And.left;assumption) | apply Ext.drew | apply Ext.alloc))) (ints_two _ _ _ _) har) ?_;rintro e w' ⟨rfl,hE'⟩;replace hE:=hE.trans (Ext.trans (by repeat (first | assumption | exact Ext.refl _ | (apply And.left;assumption) | apply Ext.drew | apply Ext.alloc)) hE');clear hE'))
    go_ret
    exact⟨ret_bool (by rw[Hs.out];simp_all),hE0.trans hE⟩
def knF(l:List Int)(a b:Nat):Int:=(cnt (sumF l a (stabF l (sumF l a b))):Int)+cnt (sumF l b (stabF l (sumF l a b))) - cnt (stabF l (sumF l a b))
theorem knF_pos{l:List Int}(h:isGrp l=true){a b:Nat}(ha:a≠0)(ha2:a<2 ^ ord l):0≤knF l a b:=by
 have:=cnt_sum_ge h ha ha2 (stabF_lt l (sumF l a b))
 unfold knF;omega
theorem sKneserBound_no(v:Value)(l:List Int)(a b:Int)(w:World)(h:Ints w v l)(hf:fullB l a b=false) :
 Calls Tryz.prog 37 #[.agg #[v],.int .i64 a,.int .i64 b] w fun e w'=>e=.returned (.int .i64 (-1))∧Ext w w':=by
 obtain⟨wb,hwb⟩:∃wb,wb=w.alloc (.cells #[v] 27):=⟨_,rfl⟩
 have hE0:=(Ext.refl w).alloc (.cells #[v] 27)
 have hb:=box_cell w v 27
 rw[←hwb] at hE0 hb
 have hg:∀W,Ext wb W→Ints W v l:=fun W hW=>h.ext (hE0.trans hW)
 have hE:=Ext.refl wb
 have Hsz:Hid (w.heap.size+1=wb.heap.size):=Lib.hid (by rw[hwb];simp[go_sem])
 have Hwb:=Lib.hid hwb
 clear hwb h
 have hbx:=hb wb hE
 cases h1:isSetB l a
 ·
    go_enter Tryz.func37,Tryz.ntmps37
    go_wp2_with fail
    rw[←Hwb.out]
    go_wp2_with (first | (go_at_call 126;refine (sIsSet_val _ _ _ _ (hg _ hE) (h1)).mono ?_;rintro e w' ⟨rfl,hE'⟩;replace hE:=hE.trans hE';clear hE'))
    go_ret
    exact⟨rfl,hE0.trans hE⟩
 · cases h2:isSetB l b
   ·
      go_enter Tryz.func37,Tryz.ntmps37
      go_wp2_with fail
      rw[←Hwb.out]
      go_wp2_with (first | (go_at_call 126;(first | (with_reducible refine Calls.mono (sIsSet_val _ _ a _ (hg _ hE) h1) ?_) | (with_reducible refine Calls.mono (sIsSet_val _ _ b _ (hg _ hE) h2) ?_));rintro e w' ⟨rfl,hE'⟩;replace hE:=hE.trans hE';clear hE'))
      go_ret
      exact⟨rfl,hE0.trans hE⟩
   · cases h3:(a == 0)
     · have h4:(b == 0)=true:=by unfold fullB at hf;rw[h1,h2,h3] at hf;simpa using hf
       clear hf
       ·
          go_enter Tryz.func37,Tryz.ntmps37
          go_wp2_with fail
          rw[←Hwb.out]
          go_wp2_with (first | (go_at_call 126;(first | (with_reducible refine Calls.mono (sIsSet_val _ _ a _ (hg _ hE) h1) ?_) | (with_reducible refine Calls.mono (sIsSet_val _ _ b _ (hg _ hE) h2) ?_));rintro e w' ⟨rfl,hE'⟩;replace hE:=hE.trans hE';clear hE'))
          go_ret
          exact⟨rfl,hE0.trans hE⟩
     · clear hf
       ·
          go_enter Tryz.func37,Tryz.ntmps37
          go_wp2_with fail
          rw[←Hwb.out]
          go_wp2_with (first | (go_at_call 126;(first | (with_reducible refine Calls.mono (sIsSet_val _ _ a _ (hg _ hE) h1) ?_) | (with_reducible refine Calls.mono (sIsSet_val _ _ b _ (hg _ hE) h2) ?_));rintro e w' ⟨rfl,hE'⟩;replace hE:=hE.trans hE';clear hE'))
          go_ret
          exact⟨rfl,hE0.trans hE⟩
theorem sKneserBound_yes(v:Value)(l:List Int)(a b:Nat)(w:World)(h:Ints w v l)(hf:fullB l a b=true) :
 Calls Tryz.prog 37 #[.agg #[v],.int .i64 a,.int .i64 b] w fun e w'=>e=.returned (.int .i64 (knF l a b))∧Ext w w':=by
 obtain⟨wb,hwb⟩:∃wb,wb=w.alloc (.cells #[v] 27):=⟨_,rfl⟩
 have hE0:=(Ext.refl w).alloc (.cells #[v] 27)
 have hb:=box_cell w v 27
 rw[←hwb] at hE0 hb
 have hg:∀W,Ext wb W→Ints W v l:=fun W hW=>h.ext (hE0.trans hW)
 have hE:=Ext.refl wb
 have Hsz:Hid (w.heap.size+1=wb.heap.size):=Lib.hid (by rw[hwb];simp[go_sem])
 have Hwb:=Lib.hid hwb
 clear hwb h
 have hbx:=fun U=>hb _ (lat_ext wb U)
 have hbx1:=hb wb hE
 obtain⟨m,n,e1,e2,h3,h4,-,-,ha,hb',hgr,h1,h2⟩:=fullB_nat hf
 obtain rfl:a=m:=by omega
 obtain rfl:b=n:=by omega
 have Hgr:=Lib.hid hgr
 have hst:stabF l (sumF l a b)<2 ^ 24:=Nat.lt_of_lt_of_le (stabF_lt l _) (pow_ord hgr)
 have hsum:=sumF_bd hgr a b
 have q1:=sumF_bd hgr a (stabF l (sumF l a b))
 have q2:=sumF_bd hgr b (stabF l (sumF l a b))
 have r1:=cnt_le (sumF l a (stabF l (sumF l a b)))
 have r2:=cnt_le (sumF l b (stabF l (sumF l a b)))
 have r3:=cnt_le (stabF l (sumF l a b))
 have h3':((a:Int) == 0)=false:=by simp;omega
 have h4':((b:Int) == 0)=false:=by simp;omega
 have w1:IntKind.i64.wrap ((cnt (sumF l a (stabF l (sumF l a b))):Int)+(cnt (sumF l b (stabF l (sumF l a b))):Int))=(cnt (sumF l a (stabF l (sumF l a b))):Int)+(cnt (sumF l b (stabF l (sumF l a b))):Int):=IntWalk.i64_in _ (by omega)
 have w2:IntKind.i64.wrap ((cnt (sumF l a (stabF l (sumF l a b))):Int)+(cnt (sumF l b (stabF l (sumF l a b))):Int) - (cnt (stabF l (sumF l a b)):Int))=(cnt (sumF l a (stabF l (sumF l a b))):Int)+(cnt (sumF l b (stabF l (sumF l a b))):Int) - (cnt (stabF l (sumF l a b)):Int):=IntWalk.i64_in _ (by omega)
 clear hgr e1 e2 hf
 go_enter Tryz.func37,Tryz.ntmps37
 go_wp2_with fail
 rw[←Hwb.out]
 go_wp2_with (first | (go_at_call 126;(first | (with_reducible refine Calls.mono (sIsSet_val _ _ (a:Int) _ (hg _ hE) h1) ?_) | (with_reducible refine Calls.mono (sIsSet_val _ _ (b:Int) _ (hg _ hE) h2) ?_));rintro e w' ⟨rfl,hE'⟩;replace hE:=hE.trans hE';clear hE'))
 (refine wp_region_lat (wb) (by kernel_rfl) (by kernel_rfl) hE ?_);(repeat (go_big_quiet_step (first | (go_at_call 84;exact Calls.lat (l4Sum_any _ _ _ _ _ (hg _ (lat_ext wb _)) (Hgr) (ha) (hb'))) | (go_at_call 117;exact Calls.lat (l6Stabilizer_any _ _ _ _ (hg _ (lat_ext wb _)) (Hgr) (hsum))))));(refine wpQuiet_nil ?_);(intro W hE');(replace hE:=lat_of hE');(clear hE')
 go_wp2_with fail
 (refine wp_region_lat (wb) (by kernel_rfl) (by kernel_rfl) hE ?_);(repeat (go_big_quiet_step (first | (go_at_call 84;exact Calls.lat (l4Sum_any _ _ _ _ _ (hg _ (lat_ext wb _)) (Hgr) (ha) (hst))) | (go_at_call 84;exact Calls.lat (l4Sum_any _ _ _ _ _ (hg _ (lat_ext wb _)) (Hgr) (hb') (hst))) | (go_at_call 125;(first | (with_reducible exact Calls.lat_same (l3Bits_any _ q1 _)) | (with_reducible exact Calls.lat_same (l3Bits_any _ q2 _)) | (with_reducible exact Calls.lat_same (l3Bits_any _ hst _)))))));(refine wpQuiet_nil ?_);(intro W hE');(replace hE:=lat_of hE');(clear hE')
 go_wp2_with fail
 go_ret
 exact⟨ret_int (by unfold knF;rfl),hE0.trans hE⟩
def kpH(l:List Int)(a b:Nat):Nat:=stabF l (sumF l a b)
theorem sKneserPair_no(v:Value)(l:List Int)(a b:Int)(w:World)(h:Ints w v l)(hf:fullB l a b=false) :
 Calls Tryz.prog 82 #[.agg #[v],.int .i64 a,.int .i64 b] w fun e w'=>e=.returned (.tuple #[.int .i64 0,.int .i64 0,.int .i64 0,.bool false])∧Ext w w':=by
 obtain⟨wb,hwb⟩:∃wb,wb=w.alloc (.cells #[v] 27):=⟨_,rfl⟩
 have hE0:=(Ext.refl w).alloc (.cells #[v] 27)
 have hb:=box_cell w v 27
 rw[←hwb] at hE0 hb
 have hg:∀W,Ext wb W→Ints W v l:=fun W hW=>h.ext (hE0.trans hW)
 have hE:=Ext.refl wb
 have Hsz:Hid (w.heap.size+1=wb.heap.size):=Lib.hid (by rw[hwb];simp[go_sem])
 have Hwb:=Lib.hid hwb
 clear hwb h
 go_enter Tryz.func82,Tryz.ntmps82
 go_wp2_with fail
 rw[←Hwb.out]
 go_wp2_with (first | (go_at_call 37;refine (sKneserBound_no _ _ _ _ _ (hg _ hE) hf).mono ?_;rintro e w' ⟨rfl,hE'⟩;replace hE:=hE.trans hE';clear hE'))
 exact bodyPost_ret (v:=.tuple #[.int .i64 0,.int .i64 0,.int .i64 0,.bool false]) (by simp[results,Tryz.results82,go_sem]) rfl ⟨rfl,hE0.trans hE⟩
theorem sKneserPair_yes(v:Value)(l:List Int)(a b:Nat)(w:World)(h:Ints w v l)(hf:fullB l a b=true) :
 Calls Tryz.prog 82 #[.agg #[v],.int .i64 a,.int .i64 b] w fun e w'=>e=.returned (.tuple #[.int .i64 (kpH l a b:Nat),.int .i64 (sumF l a (kpH l a b):Nat),.int .i64 (sumF l b (kpH l a b):Nat),.bool true])∧Ext w w':=by
 obtain⟨wb,hwb⟩:∃wb,wb=w.alloc (.cells #[v] 27):=⟨_,rfl⟩
 have hE0:=(Ext.refl w).alloc (.cells #[v] 27)
 have hb:=box_cell w v 27
 rw[←hwb] at hE0 hb
 have hg:∀W,Ext wb W→Ints W v l:=fun W hW=>h.ext (hE0.trans hW)
 have hE:=Ext.refl wb
 have Hsz:Hid (w.heap.size+1=wb.heap.size):=Lib.hid (by rw[hwb];simp[go_sem])
 have Hwb:=Lib.hid hwb
 clear hwb h
 have hbx:=fun U=>hb _ (lat_ext wb U)
 obtain⟨m,n,e1,e2,h3,h4,a1,-,ha,hb',hgr,-,-⟩:=fullB_nat hf
 obtain rfl:a=m:=by omega
 obtain rfl:b=n:=by omega
 have hk:=knF_pos (b:=b) hgr h3 a1
 have Hgr:=Lib.hid hgr
 have hst:kpH l a b<2 ^ 24:=Nat.lt_of_lt_of_le (stabF_lt l _) (pow_ord hgr)
 have hsum:=sumF_bd hgr a b
 have hkp:stabF l (sumF l a b)=kpH l a b:=rfl
 have Hkp:=Lib.hid hkp
 clear hgr e1 e2 hkp h3 h4
 go_enter Tryz.func82,Tryz.ntmps82
 go_wp2_with fail
 rw[←Hwb.out]
 go_wp2_with (first | (go_at_call 37;refine (sKneserBound_yes _ _ _ _ _ (hg _ hE) hf).mono ?_;rintro e w' ⟨rfl,hE'⟩;replace hE:=hE.trans hE';clear hE'))
 (refine wp_region_lat (wb) (by kernel_rfl) (by kernel_rfl) hE ?_);(repeat (go_big_quiet_step (first | (go_at_call 84;exact Calls.lat (l4Sum_any _ _ _ _ _ (hg _ (lat_ext wb _)) (Hgr) (ha) (hb'))) | (go_at_call 117;exact Calls.lat (l6Stabilizer_any _ _ _ _ (hg _ (lat_ext wb _)) (Hgr) (hsum))))));(refine wpQuiet_nil ?_);(intro W hE');(replace hE:=lat_of hE');(clear hE')
 rw[Hkp.out]
 go_wp2_with fail
 (refine wp_region_lat (wb) (by kernel_rfl) (by kernel_rfl) hE ?_);(repeat (go_big_quiet_step (first | (go_at_call 84;exact Calls.lat (l4Sum_any _ _ _ _ _ (hg _ (lat_ext wb _)) (Hgr) (ha) (hst))) | (go_at_call 84;exact Calls.lat (l4Sum_any _ _ _ _ _ (hg _ (lat_ext wb _)) (Hgr) (hb') (hst))))));(refine wpQuiet_nil ?_);(intro W hE');(replace hE:=lat_of hE');(clear hE')
 go_wp2_with fail
 exact bodyPost_ret (v:=.tuple #[.int .i64 (kpH l a b:Nat),.int .i64 (sumF l a (kpH l a b):Nat),.int .i64 (sumF l b (kpH l a b):Nat),.bool true]) (by simp[results,Tryz.results82,go_sem]) rfl ⟨rfl,hE0.trans hE⟩
def csK(l:List Int)(a b:Int):Int:=if fullB l a b then 1 else 0
def csA(l:List Int)(a b:Int):Int:=if fullB l a b then a else 0
def csB(l:List Int)(a b:Int):Int:=if fullB l a b then b else 0
def csS(l:List Int)(a b:Int):Int:=if fullB l a b then (sumF l a.toNat b.toNat:Int) else 0
def csP(l:List Int)(a b:Int):Int:=if fullB l a b then (kpH l a.toNat b.toNat:Int) else 0
def csG(l:List Int)(a b:Int):List Int:=if fullB l a b then l else []
theorem cs_no{l:List Int}{a b:Int}(h:fullB l a b=false):csK l a b=0∧csA l a b=0∧csB l a b=0∧csS l a b=0∧csP l a b=0∧csG l a b=[]:=by
 unfold csK csA csB csS csP csG;rw[h];exact⟨rfl,rfl,rfl,rfl,rfl,rfl⟩
theorem cs_yes{l:List Int}{a b:Nat}(h:fullB l a b=true):csK l a b=1∧csA l a b=a∧csB l a b=b∧csS l a b=(sumF l a b:Int)∧csP l a b=(kpH l a b:Int)∧csG l a b=l:=by
 unfold csK csA csB csS csP csG;rw[h];exact⟨rfl,rfl,rfl,rfl,rfl,rfl⟩
theorem ClaimOfSum_any(v:Value)(l:List Int)(a b:Int)(w:World)(h:Ints w v l) :
 Calls Tryz.prog 14 #[.agg #[v],.int .i64 a,.int .i64 b] w fun e w'=>∃v1 v2 v3 v4,e=.returned (.tuple #[CV (csK l a b) v1 v2 (csA l a b) (csB l a b) (csS l a b) (csP l a b) v3 v4 0,.bool (fullB l a b)])∧Own4 w w' v1 v2 v3 v4 (csG l a b) [] [] []∧Ext w w':=by
 obtain⟨wb,hwb⟩:∃wb,wb=w.alloc (.cells #[v] 27):=⟨_,rfl⟩
 have hE0:=(Ext.refl w).alloc (.cells #[v] 27)
 have hb:=box_cell w v 27
 rw[←hwb] at hE0 hb
 have hg:∀W,Ext wb W→Ints W v l:=fun W hW=>h.ext (hE0.trans hW)
 have hE:=Ext.refl wb
 have Hsz:Hid (w.heap.size+1=wb.heap.size):=Lib.hid (by rw[hwb];simp[go_sem])
 have Hwb:=Lib.hid hwb
 clear hwb h
 obtain⟨wc,hwc⟩:∃wc,wc=wb.alloc (.cells #[.int .i64 0,.slice none 0 0,.slice none 0 0,.int .i64 0,.int .i64 0,.int .i64 0,.int .i64 0,.slice none 0 0,.slice none 0 0,.int .i64 0] 38):=⟨_,rfl⟩
 have hBc:Blk wc wb.heap.size 38 #[.int .i64 0,.slice none 0 0,.slice none 0 0,.int .i64 0,.int .i64 0,.int .i64 0,.int .i64 0,.slice none 0 0,.slice none 0 0,.int .i64 0]:=by rw[hwc];exact Blk.new _ _ _
 have hRc:Res wc wb.heap.size 10:=hBc.res (by simp)
 have hAc:Ext wb wc:=by rw[hwc];exact hE.alloc _
 replace hE:=Ext.refl wc
 have Hsz2:Hid (wb.heap.size+1=wc.heap.size):=Lib.hid (by rw[hwc];simp[go_sem])
 have Hwc:=Lib.hid hwc
 clear hwc hBc
 have hgc:∀W,Ext wc W→Ints W v l:=fun W hW=>hg W (hAc.trans hW)
 have hbc:∀W,Ext wc W→W.cell? ⟨w.heap.size,0,none⟩=some v:=fun W hW=>hb W (hAc.trans hW)
 have hwc:wb.heap.size<wc.heap.size:=by have:=Hsz2.out;omega
 cases hf:fullB l a b
 · have Hs:=Lib.hid (cs_no hf)
   go_enter Tryz.func14,Tryz.ntmps14
   go_wp2_with fail
   rw[←Hwb.out,←Hwc.out];rw[Hsz.out]
   refine (areFull_any _ _ _ _ _ (hgc _ hE)).mono ?_
   rw[hf]
   rintro e w1 ⟨rfl,hE1⟩
   have hr:=hRc.ext hE1
   unfold Res at hr
   go_wp2_with fail
   exact bodyPost_ret (v:=.tuple #[CV 0 (.slice none 0 0) (.slice none 0 0) 0 0 0 0 (.slice none 0 0) (.slice none 0 0) 0,.bool false]) (by simp[results,Tryz.results14,go_sem,hr,CV]) rfl ⟨_,_,_,_,by rw[Hs.out.1,Hs.out.2.1,Hs.out.2.2.1,Hs.out.2.2.2.1,Hs.out.2.2.2.2.1],by rw[Hs.out.2.2.2.2.2];exact⟨Own.nil _ _ _,Own.nil _ _ _,Own.nil _ _ _,Own.nil _ _ _,Apart.nil_left _,Apart.nil_left _,Apart.nil_left _,Apart.nil_left _,Apart.nil_left _,Apart.nil_left _⟩,hE0.trans (by (repeat (refine Ext.setCell ?_ (Nat.le_refl _) _));exact hAc.trans hE1)⟩
 · have hf':=hf
   obtain⟨m,n,rfl,rfl,-,-,-,-,ha,hb',hgr,-,-⟩:=fullB_nat hf
   have Hs:=Lib.hid (cs_yes hf')
   have Hgr:=Lib.hid hgr
   have hss:isSetB l ((sumF l m n:Nat):Int)=true:=isSetB_of hgr (sumF_lt (isGrp_ords hgr) m n)
   have hkp:stabF l (sumF l m n)=kpH l m n:=rfl
   obtain⟨a,rfl⟩:∃a,a=m:=⟨_,rfl⟩
   obtain⟨b,rfl⟩:∃b,b=n:=⟨_,rfl⟩
   clear hgr
   go_enter Tryz.func14,Tryz.ntmps14
   go_wp2_with fail
   rw[←Hwb.out,←Hwc.out];rw[Hsz.out]
   refine (areFull_any _ _ _ _ _ (hgc _ hE)).mono ?_
   rw[hf]
   rintro e w1 ⟨rfl,hE1⟩
   have kb:=hbc _ hE1
   go_wp2_with fail
   refine (sum_any _ _ _ _ _ (hgc _ hE1) Hgr ha hb').mono ?_
   rintro e w2 ⟨rfl,hE2⟩
   replace hE:=hE1.trans hE2
   clear kb hf hf'
   go_wp2_with fail
   have hD:=hE.drew
   first | (go_region_held3 (fun W=>Ext (wb) W∧W.cell? ⟨w.heap.size,0,none⟩=some v∧(∀i,i<10→W.cell? ⟨(wb).heap.size,i,none⟩=some (At W ⟨(wb).heap.size,i,none⟩)∧W.frozen? ⟨(wb).heap.size,i,none⟩=false)) (exact⟨(by (repeat (refine Ext.setCell ?_ (Nat.le_refl _) _));exact Ext.trans hAc (by repeat (first | assumption | exact Ext.refl _ | (apply And.left;assumption) | apply Ext.drew | apply Ext.alloc))),hb _ (by (repeat (refine Ext.setCell ?_ (Nat.le_refl _) _));exact Ext.trans hAc (by repeat (first | assumption | exact Ext.refl _ | (apply And.left;assumption) | apply Ext.drew | apply Ext.alloc))),(by (repeat (refine Res.setCell ?_ _ _));exact Res.ext hRc (by repeat (first | assumption | exact Ext.refl _ | (apply And.left;assumption) | apply Ext.drew | apply Ext.alloc)))⟩) (first | (go_at_call 80;((with_reducible refine Calls.mono (copyGroup_any _ _ _ (hgc _ (by repeat (first | assumption | exact Ext.refl _ | (apply And.left;assumption) | apply Ext.drew | apply Ext.alloc)))) ?_);rintro e wH0 ⟨ao,c,rfl,hO,hX0⟩;have hH0:=Ext.trans (a:=wc) (by repeat (first | assumption | exact Ext.refl _ | (apply And.left;assumption) | apply Ext.drew | apply Ext.alloc)) hX0)) | (go_at_call 81;((with_reducible refine Calls.mono (StabilizerOf_nat _ _ _ _ (hgc _ (by repeat (first | assumption | exact Ext.refl _ | (apply And.left;assumption) | apply Ext.drew | apply Ext.alloc))) hss) ?_);rintro e wH1 ⟨rfl,hX1⟩;have hH1:=Ext.trans (a:=wc) (by repeat (first | assumption | exact Ext.refl _ | (apply And.left;assumption) | apply Ext.drew | apply Ext.alloc)) hX1)))) | (fail "the region with a result")
   go_wp2_with fail
   have hr:=hRc.ext hH1
   unfold Res at hr
   have hv:=(hO.ext hX1).mono (show Ext wc _ by repeat (first | assumption | exact Ext.refl _ | (apply And.left;assumption) | apply Ext.drew | apply Ext.alloc))
   exact bodyPost_ret (v:=.tuple #[CV 1 (.slice ao l.length c) (.slice none 0 0) (a:Int) (b:Int) (sumF l a b:Int) (kpH l a b:Int) (.slice none 0 0) (.slice none 0 0) 0,.bool true]) (by simp[results,Tryz.results14,go_sem,hr,CV]) rfl ⟨_,_,_,_,by rw[Hs.out.1,Hs.out.2.1,Hs.out.2.2.1,Hs.out.2.2.2.1,Hs.out.2.2.2.2.1],by rw[Hs.out.2.2.2.2.2];exact⟨(show Own 3 wc _ _ _ by (repeat (refine Own.setCell_below ?_ hwc _));exact hv).mono (hE0.trans hAc),Own.nil _ _ _,Own.nil _ _ _,Own.nil _ _ _,Apart.nil_right _,Apart.nil_right _,Apart.nil_right _,Apart.nil_left _,Apart.nil_left _,Apart.nil_left _⟩,hE0.trans (by (repeat (refine Ext.setCell ?_ (Nat.le_refl _) _));exact hAc.trans hH1)⟩
theorem sClaimOfSum_any(v:Value)(l:List Int)(a b:Int)(w:World)(h:Ints w v l) :
 Calls Tryz.prog 15 #[.agg #[v],.int .i64 a,.int .i64 b] w fun e w'=>∃v1 v2 v3 v4,e=.returned (.tuple #[CV (csK l a b) v1 v2 (csA l a b) (csB l a b) (csS l a b) (csP l a b) v3 v4 0,.bool (fullB l a b)])∧Own4 w w' v1 v2 v3 v4 (csG l a b) [] [] []∧Ext w w':=by
 obtain⟨wb,hwb⟩:∃wb,wb=w.alloc (.cells #[v] 27):=⟨_,rfl⟩
 have hE0:=(Ext.refl w).alloc (.cells #[v] 27)
 have hb:=box_cell w v 27
 rw[←hwb] at hE0 hb
 have hg:∀W,Ext wb W→Ints W v l:=fun W hW=>h.ext (hE0.trans hW)
 have hE:=Ext.refl wb
 have Hsz:Hid (w.heap.size+1=wb.heap.size):=Lib.hid (by rw[hwb];simp[go_sem])
 have Hwb:=Lib.hid hwb
 clear hwb h
 obtain⟨wc,hwc⟩:∃wc,wc=wb.alloc (.cells #[.int .i64 0,.slice none 0 0,.slice none 0 0,.int .i64 0,.int .i64 0,.int .i64 0,.int .i64 0,.slice none 0 0,.slice none 0 0,.int .i64 0] 38):=⟨_,rfl⟩
 have hBc:Blk wc wb.heap.size 38 #[.int .i64 0,.slice none 0 0,.slice none 0 0,.int .i64 0,.int .i64 0,.int .i64 0,.int .i64 0,.slice none 0 0,.slice none 0 0,.int .i64 0]:=by rw[hwc];exact Blk.new _ _ _
 have hRc:Res wc wb.heap.size 10:=hBc.res (by simp)
 have hAc:Ext wb wc:=by rw[hwc];exact hE.alloc _
 replace hE:=Ext.refl wc
 have Hsz2:Hid (wb.heap.size+1=wc.heap.size):=Lib.hid (by rw[hwc];simp[go_sem])
 have Hwc:=Lib.hid hwc
 clear hwc hBc
 have hgc:∀W,Ext wc W→Ints W v l:=fun W hW=>hg W (hAc.trans hW)
 have hbc:∀W,Ext wc W→W.cell? ⟨w.heap.size,0,none⟩=some v:=fun W hW=>hb W (hAc.trans hW)
 have hwc:wb.heap.size<wc.heap.size:=by have:=Hsz2.out;omega
 cases hf:fullB l a b
 · have Hs:=Lib.hid (cs_no hf)
   go_enter Tryz.func15,Tryz.ntmps15
   go_wp2_with fail
   rw[←Hwb.out,←Hwc.out];rw[Hsz.out]
   refine (sKneserPair_no _ _ _ _ _ (hgc _ hE) hf).mono ?_
   rintro e w1 ⟨rfl,hE1⟩
   have hr:=hRc.ext hE1
   unfold Res at hr
   go_wp2_with fail
   exact bodyPost_ret (v:=.tuple #[CV 0 (.slice none 0 0) (.slice none 0 0) 0 0 0 0 (.slice none 0 0) (.slice none 0 0) 0,.bool false]) (by simp[results,Tryz.results15,go_sem,hr,CV]) rfl ⟨_,_,_,_,by rw[Hs.out.1,Hs.out.2.1,Hs.out.2.2.1,Hs.out.2.2.2.1,Hs.out.2.2.2.2.1],by rw[Hs.out.2.2.2.2.2];exact⟨Own.nil _ _ _,Own.nil _ _ _,Own.nil _ _ _,Own.nil _ _ _,Apart.nil_left _,Apart.nil_left _,Apart.nil_left _,Apart.nil_left _,Apart.nil_left _,Apart.nil_left _⟩,hE0.trans (by (repeat (refine Ext.setCell ?_ (Nat.le_refl _) _));exact hAc.trans hE1)⟩
 · have hf':=hf
   obtain⟨m,n,rfl,rfl,-,-,-,-,ha,hb',hgr,-,-⟩:=fullB_nat hf
   have Hs:=Lib.hid (cs_yes hf')
   have Hgr:=Lib.hid hgr
   obtain⟨a,rfl⟩:∃a,a=m:=⟨_,rfl⟩
   obtain⟨b,rfl⟩:∃b,b=n:=⟨_,rfl⟩
   clear hgr
   go_enter Tryz.func15,Tryz.ntmps15
   go_wp2_with fail
   rw[←Hwb.out,←Hwc.out];rw[Hsz.out]
   refine (sKneserPair_yes _ _ _ _ _ (hgc _ hE) hf').mono ?_
   rintro e w1 ⟨rfl,hE1⟩
   have kb:=hbc _ hE1
   replace hE:=hE1
   clear hf hf'
   go_wp2_with fail
   have hD:=hE.drew
   first | (go_region_held3 (fun W=>Ext (wb) W∧W.cell? ⟨w.heap.size,0,none⟩=some v∧(∀i,i<10→W.cell? ⟨(wb).heap.size,i,none⟩=some (At W ⟨(wb).heap.size,i,none⟩)∧W.frozen? ⟨(wb).heap.size,i,none⟩=false)) (exact⟨(by (repeat (refine Ext.setCell ?_ (Nat.le_refl _) _));exact Ext.trans hAc (by repeat (first | assumption | exact Ext.refl _ | (apply And.left;assumption) | apply Ext.drew | apply Ext.alloc))),hb _ (by (repeat (refine Ext.setCell ?_ (Nat.le_refl _) _));exact Ext.trans hAc (by repeat (first | assumption | exact Ext.refl _ | (apply And.left;assumption) | apply Ext.drew | apply Ext.alloc))),(by (repeat (refine Res.setCell ?_ _ _));exact Res.ext hRc (by repeat (first | assumption | exact Ext.refl _ | (apply And.left;assumption) | apply Ext.drew | apply Ext.alloc)))⟩) (first | (go_at_call 83;((with_reducible refine Calls.mono (l33Group_any _ _ _ (hgc _ (by repeat (first | assumption | exact Ext.refl _ | (apply And.left;assumption) | apply Ext.drew | apply Ext.alloc)))) ?_);rintro e wH0 ⟨ao,c,rfl,hO,hX0⟩;have hH0:=Ext.trans (a:=wc) (by repeat (first | assumption | exact Ext.refl _ | (apply And.left;assumption) | apply Ext.drew | apply Ext.alloc)) hX0)) | (go_at_call 84;((with_reducible refine Calls.mono (l4Sum_any _ _ _ _ _ (hgc _ (by repeat (first | assumption | exact Ext.refl _ | (apply And.left;assumption) | apply Ext.drew | apply Ext.alloc))) Hgr ha hb') ?_);rintro e wH1 ⟨rfl,hX1⟩;have hH1:=Ext.trans (a:=wc) (by repeat (first | assumption | exact Ext.refl _ | (apply And.left;assumption) | apply Ext.drew | apply Ext.alloc)) hX1)))) | (fail "the region with a result")
   go_wp2_with fail
   have hr:=hRc.ext hH1
   unfold Res at hr
   have hv:=(hO.ext hX1).mono (show Ext wc _ by repeat (first | assumption | exact Ext.refl _ | (apply And.left;assumption) | apply Ext.drew | apply Ext.alloc))
   exact bodyPost_ret (v:=.tuple #[CV 1 (.slice ao l.length c) (.slice none 0 0) (a:Int) (b:Int) (sumF l a b:Int) (kpH l a b:Int) (.slice none 0 0) (.slice none 0 0) 0,.bool true]) (by simp[results,Tryz.results15,go_sem,hr,CV]) rfl ⟨_,_,_,_,by rw[Hs.out.1,Hs.out.2.1,Hs.out.2.2.1,Hs.out.2.2.2.1,Hs.out.2.2.2.2.1],by rw[Hs.out.2.2.2.2.2];exact⟨(show Own 3 wc _ _ _ by (repeat (refine Own.setCell_below ?_ hwc _));exact hv).mono (hE0.trans hAc),Own.nil _ _ _,Own.nil _ _ _,Own.nil _ _ _,Apart.nil_right _,Apart.nil_right _,Apart.nil_right _,Apart.nil_left _,Apart.nil_left _,Apart.nil_left _⟩,hE0.trans (by (repeat (refine Ext.setCell ?_ (Nat.le_refl _) _));exact hAc.trans hH1)⟩
end Go.Zz
namespace Go.Zz
open Go.RowKit Go.Proofs
set_option maxHeartbeats 1000000
end Go.Zz
namespace Go.Zz
open Go.RowKit Go.Proofs
set_option maxHeartbeats 1000000
set_option maxRecDepth 20000
end Go.Zz
namespace Go.Zz
open Go.RowKit Go.Proofs
set_option maxHeartbeats 400000
def OwnE(TI:TypeId)(wb w0 w:World)(v:Value)(l:List Int):Prop :=
 (∃g,wb.heap.size≤g∧v=.slice (some ⟨g,0,none⟩) 0 0∧l=[]∧Blk w g TI #[])∨Own TI w0 w v l
theorem OwnE.ext{TI:TypeId}{wb w0 w w':World}{v:Value}{l:List Int}(h:OwnE TI wb w0 w v l)(hE:Ext w w'):OwnE TI wb w0 w' v l:=by
 rcases h with ⟨g,h0,h1,h2,h3⟩ | h
 · exact Or.inl ⟨g,h0,h1,h2,h3.ext hE⟩
 · exact Or.inr (h.ext hE)
theorem OwnE.own{TI:TypeId}{wb w0 w:World}{v:Value}{l:List Int}(h:OwnE TI wb w0 w v l)(hE:Ext wb w0):Own TI wb w v l:=by
 rcases h with ⟨g,h0,rfl,rfl,h3⟩ | h
 · exact⟨⟨by simp,Or.inr ⟨g,0,#[],rfl,h0,h3,Nat.le_refl _,Nat.zero_le _,by simp,by simp⟩⟩,by simp⟩
 · exact h.mono hE
theorem OwnE.start{TI:TypeId}{wb w1 w:World}(w0:World)(hB:Blk w1 wb.heap.size TI #[])(hE:Ext w1 w):OwnE TI wb w0 w (.slice (some ⟨wb.heap.size,0,none⟩) 0 0) []:=Or.inl ⟨_,Nat.le_refl _,rfl,rfl,hB.ext hE⟩
section
variable {P:Program} {ops:Array Oper} {rest:List Oper} {o:Oper} {a:Act} {Q:Exit→Act→World→Prop} {T TI:TypeId}
end
end Go.Zz
namespace Go.Zz
open Go.RowKit Go.Proofs
set_option maxHeartbeats 1000000
set_option maxRecDepth 20000
end Go.Zz
namespace Go.Zz
open Go.RowKit Go.Proofs
set_option maxHeartbeats 1000000
set_option maxRecDepth 20000
end Go.Zz
namespace Go.Zz
open Go.RowKit Go.Proofs
set_option maxHeartbeats 1000000
set_option maxRecDepth 4000
end Go.Zz
