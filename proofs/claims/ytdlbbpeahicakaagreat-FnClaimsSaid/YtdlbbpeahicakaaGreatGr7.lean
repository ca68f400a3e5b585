/- Direct sums, tilings, the bound of Kneser of the program, energies of the reference. -/
import Derived.Test.YtdlbbpeahicakaaGreatGr4
import Derived.Test.YtdlbbpeahicakaaGreatGr6
import Derived.Test.YtdlbbpeahicakaaGreatGr5
import Derived.Deep.RegionHeld3
import Derived.Deep.RegionWith
namespace Go.Zz
open Go.RowKit Go.Proofs
set_option maxHeartbeats 1000000
set_option maxRecDepth 4000
def drF(l:List Int)(a b:Int):Bool:=(isSetB l a&&isSetB l b)&&decide (cnt (sumF l a.toNat b.toNat)=cnt a.toNat*cnt b.toNat)
theorem drF_no{l:List Int}{a b:Int}(h:(isSetB l a&&isSetB l b)=false):drF l a b=false:=by unfold drF;rw[h];rfl
theorem drF_yes{l:List Int}{a b:Nat}(h:(isSetB l a&&isSetB l b)=true):drF l a b=(((cnt (sumF l a b):Nat):Int) == (cnt a:Int)*(cnt b:Int)):=by
 unfold drF;rw[h,Bool.true_and,Bool.eq_iff_iff,decide_eq_true_iff,beq_iff_eq]
 show cnt (sumF l a b)=cnt a*cnt b↔_
 constructor
 · intro e;rw[e];simp
 · intro e;rw[←Int.natCast_mul] at e;exact Int.ofNat_inj.1 e
theorem cnt_mul(a b:Nat):0≤(cnt a:Int)*(cnt b:Int)∧(cnt a:Int)*(cnt b:Int)≤576:=by
 have h1:=cnt_le a
 have h2:=cnt_le b
 have:=Nat.mul_le_mul h1 h2
 rw[←Int.natCast_mul];omega
def tilF(l:List Int)(a b:Int):Bool:=drF l a b&&decide (sumF l a.toNat b.toNat=fullN l)
theorem tilF_no{l:List Int}{a b:Int}(h:drF l a b=false):tilF l a b=false:=by unfold tilF;rw[h];rfl
theorem tilF_yes{l:List Int}{a b:Nat}(h:drF l a b=true):tilF l a b=(((sumF l a b:Nat):Int) == (fullN l:Int)):=by
 unfold tilF;rw[h,Bool.true_and,Bool.eq_iff_iff,decide_eq_true_iff,beq_iff_eq]
 show sumF l a b=fullN l↔_
 omega
theorem drF_sets{l:List Int}{a b:Int}(h:drF l a b=true):(isSetB l a&&isSetB l b)=true:=by unfold drF at h;rw[Bool.and_eq_true] at h;exact h.1
theorem IsDirD_any(v:Value)(l:List Int)(a b:Int)(w:World)(h:Ints w v l) :
 Calls Tryz.prog 168 #[.agg #[v],.int .i64 a,.int .i64 b] w fun e w'=>e=.returned (.bool (drF l a b))∧Ext w w':=by
 obtain⟨wb,hwb⟩:∃wb,wb=w.alloc (.cells #[v] 27):=⟨_,rfl⟩
 have hE0:=(Ext.refl w).alloc (.cells #[v] 27)
 have hb:=box_cell w v 27
 rw[←hwb] at hE0 hb
 have hg:∀W,Ext wb W→Ints W v l:=fun W hW=>h.ext (hE0.trans hW)
 have hE:=Ext.refl wb
 have Hsz:Hid (w.heap.size+1=wb.heap.size):=Lib.hid (by rw[hwb];simp[go_sem])
 have Hwb:=Lib.hid hwb
 clear hwb h
 have hbx:=hb wb hE
 have har:=areF_two l a b
 cases hs:(isSetB l a&&isSetB l b)
 · have Hs:=Lib.hid (drF_no hs)
   rw[hs] at har
   clear hs
   go_enter Tryz.func168,Tryz.ntmps168
   go_wp2_with fail
   rw[←Hwb.out];try rw[Hsz.out]
   go_wp2_with (first | (go_at_call 133;refine Calls.mono (areSets_val _ _ _ _ _ (hg _ (by repeat (first | assumption | exact Ext.refl _ | (apply And.left;assumption) | apply Ext.drew | apply Ext.alloc))) (ints_two _ _ _ _) har) ?_;rintro e w' ⟨rfl,hE'⟩;replace hE:=hE.trans (Ext.trans (by repeat (first | assumption | exact Ext.refl _ | (apply And.left;assumption) | apply Ext.drew | apply Ext.alloc)) hE');clear hE'))
   go_ret
   exact⟨ret_bool Hs.out.symm,hE0.trans hE⟩
 · obtain⟨h1,h2⟩:=Bool.and_eq_true_iff.1 hs
   obtain⟨a,rfl,-,ha,hgr⟩:=isSetB_nat h1
   obtain⟨b,rfl,-,hb',-⟩:=isSetB_nat h2
   have Hs:=Lib.hid (drF_yes hs)
   rw[hs] at har
   have Hgr:=Lib.hid hgr
   have hsum:=sumF_bd hgr a b
   obtain⟨hm1,hm2⟩:=cnt_mul a b
   have q1:=fun W=>bits_any (sumF l a b) hsum W
   have q2:=fun W=>bits_any a ha W
   have q3:=fun W=>bits_any b hb' W
   clear hs hgr h1 h2
   go_enter Tryz.func168,Tryz.ntmps168
   go_wp2_with fail
   rw[←Hwb.out];try rw[Hsz.out]
   go_wp2_with (first | (go_at_call 133;refine Calls.mono (areSets_val _ _ _ _ _ (hg _ (by repeat (first | assumption | exact Ext.refl _ | (apply And.left;assumption) | apply Ext.drew | apply Ext.alloc))) (ints_two _ _ _ _) har) ?_;rintro e w' ⟨rfl,hE'⟩;replace hE:=hE.trans (Ext.trans (by repeat (first | assumption | exact Ext.refl _ | (apply And.left;assumption) | apply Ext.drew | apply Ext.alloc)) hE');clear hE') | (go_at_call 79;refine (sum_any _ _ _ _ _ (hg _ hE) (Hgr) (ha) (hb')).mono ?_;rintro e w' ⟨rfl,hE'⟩;replace hE:=hE.trans hE';clear hE') | (go_at_call 98;(first | (with_reducible refine Calls.mono (q1 _) ?_) | (with_reducible refine Calls.mono (q2 _) ?_) | (with_reducible refine Calls.mono (q3 _) ?_));rintro e w' ⟨rfl,rfl⟩))
   go_ret
   exact⟨ret_bool Hs.out.symm,hE0.trans hE⟩
theorem sIsDirD_any(v:Value)(l:List Int)(a b:Int)(w:World)(h:Ints w v l) :
 Calls Tryz.prog 127 #[.agg #[v],.int .i64 a,.int .i64 b] w fun e w'=>e=.returned (.bool (drF l a b))∧Ext w w':=by
 obtain⟨wb,hwb⟩:∃wb,wb=w.alloc (.cells #[v] 27):=⟨_,rfl⟩
 have hE0:=(Ext.refl w).alloc (.cells #[v] 27)
 have hb:=box_cell w v 27
 rw[←hwb] at hE0 hb
 have hg:∀W,Ext wb W→Ints W v l:=fun W hW=>h.ext (hE0.trans hW)
 have hE:=Ext.refl wb
 have Hsz:Hid (w.heap.size+1=wb.heap.size):=Lib.hid (by rw[hwb];simp[go_sem])
 have Hwb:=Lib.hid hwb
 clear hwb h
 have hbx:=hb wb hE
 cases h1:isSetB l a
 · have Hs:=Lib.hid (drF_no (l:=l) (a:=a) (b:=b) (by rw[h1];rfl))
   go_enter Tryz.func127,Tryz.ntmps127
   go_wp2_with fail
   rw[←Hwb.out]
   go_wp2_with (first | (go_at_call 126;refine (sIsSet_val _ _ _ _ (hg _ hE) (h1)).mono ?_;rintro e w' ⟨rfl,hE'⟩;replace hE:=hE.trans hE';clear hE'))
   go_ret
   exact⟨ret_bool Hs.out.symm,hE0.trans hE⟩
 · cases h2:isSetB l b
   · have Hs:=Lib.hid (drF_no (l:=l) (a:=a) (b:=b) (by rw[h1,h2];rfl))
     have c1:=fun W (hW:Ext wb W)=>sIsSet_val v l a W (hg W hW) h1
     have c2:=fun W (hW:Ext wb W)=>sIsSet_val v l b W (hg W hW) h2
     go_enter Tryz.func127,Tryz.ntmps127
     go_wp2_with fail
     rw[←Hwb.out]
     go_wp2_with (first | (go_at_call 126;(first | (with_reducible refine Calls.mono (c1 _ hE) ?_) | (with_reducible refine Calls.mono (c2 _ hE) ?_));rintro e w' ⟨rfl,hE'⟩;replace hE:=hE.trans hE';clear hE'))
     go_ret
     exact⟨ret_bool Hs.out.symm,hE0.trans hE⟩
   · have c1:=fun W (hW:Ext wb W)=>sIsSet_val v l a W (hg W hW) h1
     have c2:=fun W (hW:Ext wb W)=>sIsSet_val v l b W (hg W hW) h2
     have hs:(isSetB l a&&isSetB l b)=true:=by rw[h1,h2];rfl
     obtain⟨a,rfl,-,ha,hgr⟩:=isSetB_nat h1
     obtain⟨b,rfl,-,hb',-⟩:=isSetB_nat h2
     have Hs:=Lib.hid (drF_yes hs)
     have Hgr:=Lib.hid hgr
     have hsum:=sumF_bd hgr a b
     obtain⟨hm1,hm2⟩:=cnt_mul a b
     have q1:=fun W=>l3Bits_any (sumF l a b) hsum W
     have q2:=fun W=>l3Bits_any a ha W
     have q3:=fun W=>l3Bits_any b hb' W
     clear hs hgr h1 h2
     go_enter Tryz.func127,Tryz.ntmps127
     go_wp2_with fail
     rw[←Hwb.out]
     go_wp2_with (first | (go_at_call 126;(first | (with_reducible refine Calls.mono (c1 _ hE) ?_) | (with_reducible refine Calls.mono (c2 _ hE) ?_));rintro e w' ⟨rfl,hE'⟩;replace hE:=hE.trans hE';clear hE') | (go_at_call 84;refine (l4Sum_any _ _ _ _ _ (hg _ hE) (Hgr) (ha) (hb')).mono ?_;rintro e w' ⟨rfl,hE'⟩;replace hE:=hE.trans hE';clear hE') | (go_at_call 125;(first | (with_reducible refine Calls.mono (q1 _) ?_) | (with_reducible refine Calls.mono (q2 _) ?_) | (with_reducible refine Calls.mono (q3 _) ?_));rintro e w' ⟨rfl,rfl⟩))
     go_ret
     exact⟨ret_bool Hs.out.symm,hE0.trans hE⟩
theorem IsTiling_any(v:Value)(l:List Int)(a b:Int)(w:World)(h:Ints w v l) :
 Calls Tryz.prog 91 #[.agg #[v],.int .i64 a,.int .i64 b] w fun e w'=>e=.returned (.bool (tilF l a b))∧Ext w w':=by
 obtain⟨wb,hwb⟩:∃wb,wb=w.alloc (.cells #[v] 27):=⟨_,rfl⟩
 have hE0:=(Ext.refl w).alloc (.cells #[v] 27)
 have hb:=box_cell w v 27
 rw[←hwb] at hE0 hb
 have hg:∀W,Ext wb W→Ints W v l:=fun W hW=>h.ext (hE0.trans hW)
 have hE:=Ext.refl wb
 have Hsz:Hid (w.heap.size+1=wb.heap.size):=Lib.hid (by rw[hwb];simp[go_sem])
 have Hwb:=Lib.hid hwb
 clear hwb h
 have kb:=fun U=>hb _ (lat_ext wb U)
 have cD:=fun U=>IsDirD_any v l a b (Lat wb U) (hg _ (lat_ext wb U))
 cases hd:drF l a b
 · have Hs:=Lib.hid (tilF_no hd)
   rw[hd] at cD
   go_enter Tryz.func91,Tryz.ntmps91
   go_wp2_with fail
   rw[←Hwb.out]
   (refine wp_region_lat (wb) (by kernel_rfl) (by kernel_rfl) hE ?_);(repeat (go_big_quiet_step (first | (go_at_call 168;exact Calls.lat (cD _)))));(refine wpQuiet_nil ?_);(intro W hE');(replace hE:=lat_of hE');(clear hE')
   go_wp2_with fail
   go_ret
   exact⟨ret_bool Hs.out.symm,hE0.trans hE⟩
 · rw[hd] at cD
   obtain⟨h1,h2⟩:=Bool.and_eq_true_iff.1 (drF_sets hd)
   obtain⟨a,rfl,-,ha,hgr⟩:=isSetB_nat h1
   obtain⟨b,rfl,-,hb',-⟩:=isSetB_nat h2
   have Hs:=Lib.hid (tilF_yes hd)
   have Hgr:=Lib.hid hgr
   clear hgr h1 h2 hd
   go_enter Tryz.func91,Tryz.ntmps91
   go_wp2_with fail
   rw[←Hwb.out]
   (refine wp_region_lat (wb) (by kernel_rfl) (by kernel_rfl) hE ?_);(repeat (go_big_quiet_step (first | (go_at_call 168;exact Calls.lat (cD _)) | (go_at_call 79;exact Calls.lat (sum_any _ _ _ _ _ (hg _ (lat_ext wb _)) (Hgr) (ha) (hb'))) | (go_at_call 169;exact Calls.lat (FullSet_grp _ _ _ (hg _ (lat_ext wb _)) (Hgr))))));(refine wpQuiet_nil ?_);(intro W hE');(replace hE:=lat_of hE');(clear hE')
   go_wp2_with fail
   go_ret
   exact⟨ret_bool Hs.out.symm,hE0.trans hE⟩
theorem sIsTiling_any(v:Value)(l:List Int)(a b:Int)(w:World)(h:Ints w v l) :
 Calls Tryz.prog 40 #[.agg #[v],.int .i64 a,.int .i64 b] w fun e w'=>e=.returned (.bool (tilF l a b))∧Ext w w':=by
 obtain⟨wb,hwb⟩:∃wb,wb=w.alloc (.cells #[v] 27):=⟨_,rfl⟩
 have hE0:=(Ext.refl w).alloc (.cells #[v] 27)
 have hb:=box_cell w v 27
 rw[←hwb] at hE0 hb
 have hg:∀W,Ext wb W→Ints W v l:=fun W hW=>h.ext (hE0.trans hW)
 have hE:=Ext.refl wb
 have Hsz:Hid (w.heap.size+1=wb.heap.size):=Lib.hid (by rw[hwb];simp[go_sem])
 have Hwb:=Lib.hid hwb
 clear hwb h
 have kb:=fun U=>hb _ (lat_ext wb U)
 have cD:=fun U=>sIsDirD_any v l a b (Lat wb U) (hg _ (lat_ext wb U))
 cases hd:drF l a b
 · have Hs:=Lib.hid (tilF_no hd)
   rw[hd] at cD
   go_enter Tryz.func40,Tryz.ntmps40
   go_wp2_with fail
   rw[←Hwb.out]
   (refine wp_region_lat (wb) (by kernel_rfl) (by kernel_rfl) hE ?_);(repeat (go_big_quiet_step (first | (go_at_call 127;exact Calls.lat (cD _)))));(refine wpQuiet_nil ?_);(intro W hE');(replace hE:=lat_of hE');(clear hE')
   go_wp2_with fail
   go_ret
   exact⟨ret_bool Hs.out.symm,hE0.trans hE⟩
 · rw[hd] at cD
   obtain⟨h1,h2⟩:=Bool.and_eq_true_iff.1 (drF_sets hd)
   obtain⟨a,rfl,-,ha,hgr⟩:=isSetB_nat h1
   obtain⟨b,rfl,-,hb',-⟩:=isSetB_nat h2
   have Hs:=Lib.hid (tilF_yes hd)
   have Hgr:=Lib.hid hgr
   have hob:=ord_bd hgr
   have hs1:=ishl_one (n:=ord l) (by omega)
   have hpw:=pw_le (n:=ord l) hob.2
   have hpw1:=pw_pos (ord l)
   have hwr:((pw (ord l):Nat):Int) - 1=((fullN l:Nat):Int):=by unfold fullN;omega
   clear hgr h1 h2 hd
   go_enter Tryz.func40,Tryz.ntmps40
   go_wp2_with fail
   rw[←Hwb.out]
   (refine wp_region_lat (wb) (by kernel_rfl) (by kernel_rfl) hE ?_);(repeat (go_big_quiet_step (first | (go_at_call 127;exact Calls.lat (cD _)) | (go_at_call 84;exact Calls.lat (l4Sum_any _ _ _ _ _ (hg _ (lat_ext wb _)) (Hgr) (ha) (hb'))) | (go_at_call 59;exact Calls.lat (l2Order_any _ _ _ (hg _ (lat_ext wb _)) (Hgr))))));(refine wpQuiet_nil ?_);(intro W hE');(replace hE:=lat_of hE');(clear hE')
   go_wp2_with fail
   go_ret
   exact⟨ret_bool Hs.out.symm,hE0.trans hE⟩
def knI(l:List Int)(a b:Int):Int:=if fullB l a b then knF l a.toNat b.toNat else -1
theorem knI_no{l:List Int}{a b:Int}(h:fullB l a b=false):knI l a b = -1:=by unfold knI;rw[h];rfl
theorem knI_yes{l:List Int}{a b:Nat}(h:fullB l a b=true):knI l a b=knF l a b:=by unfold knI;rw[h];rfl
theorem sKneserBound_any(v:Value)(l:List Int)(a b:Int)(w:World)(h:Ints w v l) :
 Calls Tryz.prog 37 #[.agg #[v],.int .i64 a,.int .i64 b] w fun e w'=>e=.returned (.int .i64 (knI l a b))∧Ext w w':=by
 cases hf:fullB l a b
 · rw[knI_no hf];exact sKneserBound_no v l a b w h hf
 · have hf':=hf
   obtain⟨m,n,rfl,rfl,-⟩:=fullB_nat hf
   rw[knI_yes hf'];exact sKneserBound_yes v l m n w h hf'
end Go.Zz
namespace Go.Zz
open Go.RowKit Go.Proofs
set_option maxHeartbeats 400000
theorem in_any(a x:Nat)(ha:a<2 ^ 24)(hx:x≤64)(w:World) :
 Calls Tryz.prog 163 #[.int .i64 a,.int .i64 x] w fun e w'=>e=.returned (.bool (a.testBit x))∧w=w':=by
 have hsh:=ishr_nat (a:=a) (n:=x) hx
 have hbt:=bit_test' (a:=a) (n:=x) (by omega) hx
 go_enter Tryz.func163,Tryz.ntmps163
 go_wp2_with fail
 go_ret
 exact⟨rfl,rfl⟩
theorem in_val(a x:Nat)(ha:a<2 ^ 24)(hx:x≤64)(w:World){b:Bool}(hb:a.testBit x=b) :
 Calls Tryz.prog 163 #[.int .i64 a,.int .i64 x] w fun e w'=>e=.returned (.bool b)∧w=w':=by
 subst hb;exact in_any a x ha hx w
theorem has_any(v:Value)(l:List Int)(x:Int)(w:World)(h:Ints w v l) :
 Calls Tryz.prog 148 #[.agg #[v],.int .i64 x] w fun e w'=>e=.returned (.bool (hasB l x))∧Ext w w':=by
 obtain⟨wb,hwb⟩:∃wb,wb=w.alloc (.cells #[v] 27):=⟨_,rfl⟩
 have hE0:=(Ext.refl w).alloc (.cells #[v] 27)
 have hb:=box_cell w v 27
 rw[←hwb] at hE0 hb
 have hg:∀W,Ext wb W→Ints W v l:=fun W hW=>h.ext (hE0.trans hW)
 have hE:=Ext.refl wb
 have Hsz:Hid (w.heap.size+1=wb.heap.size):=Lib.hid (by rw[hwb];simp[go_sem])
 have Hwb:=Lib.hid hwb
 clear hwb h
 have ho:=ordF_bd l
 go_enter Tryz.func148,Tryz.ntmps148
 go_wp2_with fail
 rw[←Hwb.out]
 go_wp2_with (first | (go_at_call 157;refine (OrderOf_any _ _ _ (hg _ hE)).mono ?_;rintro e w' ⟨rfl,hE'⟩;replace hE:=hE.trans hE';clear hE') | (go_at_call 138;refine (within_any _ _ _ _).mono ?_;rintro e w' ⟨rfl,rfl⟩))
 go_ret
 exact⟨rfl,hE0.trans hE⟩
theorem has_val(v:Value)(l:List Int)(x:Int)(w:World)(h:Ints w v l){b:Bool}(hb:hasB l x=b) :
 Calls Tryz.prog 148 #[.agg #[v],.int .i64 x] w fun e w'=>e=.returned (.bool b)∧Ext w w':=by
 subst hb;exact has_any v l x w h
theorem sOrderOf_any(v:Value)(l:List Int)(w:World)(h:Ints w v l) :
 Calls Tryz.prog 39 #[.agg #[v]] w fun e w'=>e=.returned (.int .i64 (ordF l))∧Ext w w':=by
 obtain⟨wb,hwb⟩:∃wb,wb=w.alloc (.cells #[v] 27):=⟨_,rfl⟩
 have hE0:=(Ext.refl w).alloc (.cells #[v] 27)
 have hb:=box_cell w v 27
 rw[←hwb] at hE0 hb
 have hg:∀W,Ext wb W→Ints W v l:=fun W hW=>h.ext (hE0.trans hW)
 have hE:=Ext.refl wb
 have Hsz:Hid (w.heap.size+1=wb.heap.size):=Lib.hid (by rw[hwb];simp[go_sem])
 have Hwb:=Lib.hid hwb
 clear hwb h
 cases hgr:isGrp l
 · have Ho:=Lib.hid (ordF_f hgr)
   go_enter Tryz.func39,Tryz.ntmps39
   go_wp2_with fail
   rw[←Hwb.out]
   go_wp2_with (first | (go_at_call 100;refine (sIsGroup_any _ _ _ (hg _ hE)).mono ?_;rintro e w' ⟨rfl,hE'⟩;replace hE:=hE.trans hE';clear hE'))
   go_ret
   exact⟨ret_int Ho.out.symm,hE0.trans hE⟩
 · have Ho:=Lib.hid (ordF_t hgr)
   have Hgr:=Lib.hid hgr
   go_enter Tryz.func39,Tryz.ntmps39
   go_wp2_with fail
   rw[←Hwb.out]
   go_wp2_with (first | (go_at_call 100;refine (sIsGroup_any _ _ _ (hg _ hE)).mono ?_;rintro e w' ⟨rfl,hE'⟩;replace hE:=hE.trans hE';clear hE') | (go_at_call 59;refine (l2Order_any _ _ _ (hg _ hE) (Hgr)).mono ?_;rintro e w' ⟨rfl,hE'⟩;replace hE:=hE.trans hE';clear hE'))
   go_ret
   exact⟨ret_int Ho.out.symm,hE0.trans hE⟩
theorem l2Is_any(v:Value)(l:List Int)(x:Int)(w:World)(h:Ints w v l) :
 Calls Tryz.prog 99 #[.agg #[v],.int .i64 x] w fun e w'=>e=.returned (.bool (hasB l x))∧Ext w w':=by
 obtain⟨wb,hwb⟩:∃wb,wb=w.alloc (.cells #[v] 27):=⟨_,rfl⟩
 have hE0:=(Ext.refl w).alloc (.cells #[v] 27)
 have hb:=box_cell w v 27
 rw[←hwb] at hE0 hb
 have hg:∀W,Ext wb W→Ints W v l:=fun W hW=>h.ext (hE0.trans hW)
 have hE:=Ext.refl wb
 have Hsz:Hid (w.heap.size+1=wb.heap.size):=Lib.hid (by rw[hwb];simp[go_sem])
 have Hwb:=Lib.hid hwb
 clear hwb h
 have ho:=ordF_bd l
 by_cases h0:0≤x
 · by_cases h1:x<ordF l
   · have Hh:Hid (hasB l x=true):=Lib.hid (inB_t.2 (by omega))
     go_enter Tryz.func99,Tryz.ntmps99
     go_wp2_with fail
     rw[←Hwb.out]
     go_wp2_with (first | (go_at_call 39;refine (sOrderOf_any _ _ _ (hg _ hE)).mono ?_;rintro e w' ⟨rfl,hE'⟩;replace hE:=hE.trans hE';clear hE'))
     go_ret
     exact⟨ret_bool (by rw[Hh.out]),hE0.trans hE⟩
   · have Hh:Hid (hasB l x=false):=Lib.hid (inB_f.2 (by omega))
     have h1':decide (x<ordF l)=false:=by simp;omega
     go_enter Tryz.func99,Tryz.ntmps99
     go_wp2_with fail
     rw[←Hwb.out]
     go_wp2_with (first | (go_at_call 39;refine (sOrderOf_any _ _ _ (hg _ hE)).mono ?_;rintro e w' ⟨rfl,hE'⟩;replace hE:=hE.trans hE';clear hE'))
     go_ret
     exact⟨ret_bool (by rw[Hh.out]),hE0.trans hE⟩
 · have Hh:Hid (hasB l x=false):=Lib.hid (inB_f.2 (by omega))
   have h0':decide (0≤x)=false:=by simp;omega
   go_enter Tryz.func99,Tryz.ntmps99
   go_wp2_with fail
   rw[←Hwb.out]
   go_wp2_with (first | (go_at_call 39;refine (sOrderOf_any _ _ _ (hg _ hE)).mono ?_;rintro e w' ⟨rfl,hE'⟩;replace hE:=hE.trans hE';clear hE'))
   go_ret
   exact⟨ret_bool (by rw[Hh.out]),hE0.trans hE⟩
theorem l2Is_val(v:Value)(l:List Int)(x:Int)(w:World)(h:Ints w v l){b:Bool}(hb:hasB l x=b) :
 Calls Tryz.prog 99 #[.agg #[v],.int .i64 x] w fun e w'=>e=.returned (.bool b)∧Ext w w':=by
 subst hb;exact l2Is_any v l x w h
end Go.Zz
namespace Go.Zz
open Go.RowKit Go.Proofs
set_option maxHeartbeats 400000
theorem IsSubgroup_any(v:Value)(l:List Int)(a:Int)(w:World)(h:Ints w v l) :
 Calls Tryz.prog 97 #[.agg #[v],.int .i64 a] w fun e w'=>e=.returned (.bool (subB l a))∧Ext w w':=by
 obtain⟨wb,hwb⟩:∃wb,wb=w.alloc (.cells #[v] 27):=⟨_,rfl⟩
 have hE0:=(Ext.refl w).alloc (.cells #[v] 27)
 have hb:=box_cell w v 27
 rw[←hwb] at hE0 hb
 have hg:∀W,Ext wb W→Ints W v l:=fun W hW=>h.ext (hE0.trans hW)
 have hE:=Ext.refl wb
 have Hsz:Hid (w.heap.size+1=wb.heap.size):=Lib.hid (by rw[hwb];simp[go_sem])
 have Hwb:=Lib.hid hwb
 clear hwb h
 have hbx:=hb wb hE
 cases hs:isSetB l a
 · have Hs:=Lib.hid (subB_no hs)
   go_enter Tryz.func97,Tryz.ntmps97
   go_wp2_with fail
   rw[←Hwb.out]
   go_wp2_with (first | (go_at_call 152;refine (IsSet_val _ _ _ _ (hg _ hE) (hs)).mono ?_;rintro e w' ⟨rfl,hE'⟩;replace hE:=hE.trans hE';clear hE'))
   go_ret
   exact⟨ret_bool Hs.out.symm,hE0.trans hE⟩
 · have Hs:Hid (∀n:Nat,a=n→subB l a=((genF l n:Int) == (n:Int))):=Lib.hid (fun n e=>by subst e;exact subB_yes hs)
   obtain⟨n,hn,h1,h2,hgr⟩:=isSetB_nat hs
   subst hn
   have Hgr:=Lib.hid hgr
   clear hgr
   go_enter Tryz.func97,Tryz.ntmps97
   go_wp2_with fail
   rw[←Hwb.out]
   go_wp2_with (first | (go_at_call 152;refine (IsSet_val _ _ _ _ (hg _ hE) (hs)).mono ?_;rintro e w' ⟨rfl,hE'⟩;replace hE:=hE.trans hE';clear hE') | (go_at_call 174;refine (generated_any _ _ _ _ (hg _ hE) (Hgr) (h2)).mono ?_;rintro e w' ⟨rfl,hE'⟩;replace hE:=hE.trans hE';clear hE'))
   go_ret
   exact⟨ret_bool (by rw[Hs.out n rfl]),hE0.trans hE⟩
theorem IsSubgroup_val(v:Value)(l:List Int)(a:Int)(w:World)(h:Ints w v l){b:Bool}(hb:subB l a=b) :
 Calls Tryz.prog 97 #[.agg #[v],.int .i64 a] w fun e w'=>e=.returned (.bool b)∧Ext w w':=by
 subst hb;exact IsSubgroup_any v l a w h
theorem sIsSubgroup_any(v:Value)(l:List Int)(a:Int)(w:World)(h:Ints w v l) :
 Calls Tryz.prog 124 #[.agg #[v],.int .i64 a] w fun e w'=>e=.returned (.bool (subB l a))∧Ext w w':=by
 obtain⟨wb,hwb⟩:∃wb,wb=w.alloc (.cells #[v] 27):=⟨_,rfl⟩
 have hE0:=(Ext.refl w).alloc (.cells #[v] 27)
 have hb:=box_cell w v 27
 rw[←hwb] at hE0 hb
 have hg:∀W,Ext wb W→Ints W v l:=fun W hW=>h.ext (hE0.trans hW)
 have hE:=Ext.refl wb
 have Hsz:Hid (w.heap.size+1=wb.heap.size):=Lib.hid (by rw[hwb];simp[go_sem])
 have Hwb:=Lib.hid hwb
 clear hwb h
 have hbx:=hb wb hE
 cases hs:isSetB l a
 · have Hs:=Lib.hid (subB_no hs)
   go_enter Tryz.func124,Tryz.ntmps124
   go_wp2_with fail
   rw[←Hwb.out]
   go_wp2_with (first | (go_at_call 126;refine (sIsSet_val _ _ _ _ (hg _ hE) (hs)).mono ?_;rintro e w' ⟨rfl,hE'⟩;replace hE:=hE.trans hE';clear hE'))
   go_ret
   exact⟨ret_bool Hs.out.symm,hE0.trans hE⟩
 · have Hs:Hid (∀n:Nat,a=n→subB l a=((genF l n:Int) == (n:Int))):=Lib.hid (fun n e=>by subst e;exact subB_yes hs)
   obtain⟨n,hn,h1,h2,hgr⟩:=isSetB_nat hs
   subst hn
   have Hgr:=Lib.hid hgr
   clear hgr
   go_enter Tryz.func124,Tryz.ntmps124
   go_wp2_with fail
   rw[←Hwb.out]
   go_wp2_with (first | (go_at_call 126;refine (sIsSet_val _ _ _ _ (hg _ hE) (hs)).mono ?_;rintro e w' ⟨rfl,hE'⟩;replace hE:=hE.trans hE';clear hE') | (go_at_call 190;refine (l5Closure_any _ _ _ _ (hg _ hE) (Hgr) (h2)).mono ?_;rintro e w' ⟨rfl,hE'⟩;replace hE:=hE.trans hE';clear hE'))
   go_ret
   exact⟨ret_bool (by rw[Hs.out n rfl]),hE0.trans hE⟩
theorem sIsSubgroup_val(v:Value)(l:List Int)(a:Int)(w:World)(h:Ints w v l){b:Bool}(hb:subB l a=b) :
 Calls Tryz.prog 124 #[.agg #[v],.int .i64 a] w fun e w'=>e=.returned (.bool b)∧Ext w w':=by
 subst hb;exact sIsSubgroup_any v l a w h
theorem subB_nat{l:List Int}{a:Int}(h:subB l a=true):∃n:Nat,a=n∧n<2 ^ ord l∧n<2 ^ 24∧isGrp l=true:=by
 unfold subB at h
 exact isSetB_nat (Bool.and_eq_true_iff.1 h).1
theorem sCosetsOf_any(v:Value)(l:List Int)(a:Int)(w:World)(h:Ints w v l) :
 Calls Tryz.prog 208 #[.agg #[v],.int .i64 a] w fun e w'=>∃u,e=.returned (.tuple #[u,.bool (subB l a)])∧Own 3 w w' u (cosF l a)∧Ext w w':=by
 obtain⟨wb,hwb⟩:∃wb,wb=w.alloc (.cells #[v] 27):=⟨_,rfl⟩
 have hE0:=(Ext.refl w).alloc (.cells #[v] 27)
 have hb:=box_cell w v 27
 rw[←hwb] at hE0 hb
 have hg:∀W,Ext wb W→Ints W v l:=fun W hW=>h.ext (hE0.trans hW)
 have hE:=Ext.refl wb
 have Hsz:Hid (w.heap.size+1=wb.heap.size):=Lib.hid (by rw[hwb];simp[go_sem])
 have Hwb:=Lib.hid hwb
 clear hwb h
 obtain⟨wc,hwc⟩:∃wc,wc=wb.alloc (.cells #[] 3):=⟨_,rfl⟩
 have hO:Own 3 wb wc (.slice (some ⟨wb.heap.size,0,none⟩) 0 0) []:=by rw[hwc];exact own_made (by omega) hE [] rfl
 replace hE:Ext wb wc:=by rw[hwc];exact hE.alloc _
 have Hsz2:Hid (wb.heap.size+1=wc.heap.size):=Lib.hid (by rw[hwc];simp[go_sem])
 have Hwc:=Lib.hid hwc
 clear hwc
 cases hs:subB l a
 · have Hs:=Lib.hid (cosF_no hs)
   go_enter Tryz.func208,Tryz.ntmps208
   go_wp2_with fail
   rw[←Hwb.out,←Hwc.out];rw[Hsz.out];try rw[Hsz2.out]
   go_wp2_with (first | (go_at_call 124;refine Calls.mono (sIsSubgroup_val _ _ _ _ (hg _ (by repeat (first | assumption | exact Ext.refl _ | (apply And.left;assumption) | apply Ext.drew | apply Ext.alloc))) hs) ?_;rintro e w' ⟨rfl,hE'⟩;replace hO:=hO.ext (Ext.trans (by repeat (first | assumption | exact Ext.refl _ | (apply And.left;assumption) | apply Ext.drew | apply Ext.alloc)) hE');replace hE:=hE.trans (Ext.trans (by repeat (first | assumption | exact Ext.refl _ | (apply And.left;assumption) | apply Ext.drew | apply Ext.alloc)) hE');clear hE'))
   exact bodyPost_ret (v:=.tuple #[.slice (some ⟨wb.heap.size,0,none⟩) 0 0,.bool false]) (by simp[results,Tryz.results208,go_sem]) rfl ⟨_,rfl,by rw[Hs.out];exact hO.mono hE0,hE0.trans hE⟩
 · have Hs:Hid (∀n:Nat,a=n→cosF l a=castL (cosTo l n (ord l)).1):=Lib.hid (fun n e=>by subst e;exact cosF_yes hs)
   obtain⟨n,hn,h1,h2,hgr⟩:=subB_nat hs
   subst hn
   have Hgr:=Lib.hid hgr
   have hob:=ord_bd hgr
   clear hgr
   go_enter Tryz.func208,Tryz.ntmps208
   go_wp2_with fail
   rw[←Hwb.out,←Hwc.out];rw[Hsz.out];try rw[Hsz2.out]
   go_wp2_with (first | (go_at_call 124;refine Calls.mono (sIsSubgroup_val _ _ _ _ (hg _ (by repeat (first | assumption | exact Ext.refl _ | (apply And.left;assumption) | apply Ext.drew | apply Ext.alloc))) hs) ?_;rintro e w' ⟨rfl,hE'⟩;replace hO:=hO.ext (Ext.trans (by repeat (first | assumption | exact Ext.refl _ | (apply And.left;assumption) | apply Ext.drew | apply Ext.alloc)) hE');replace hE:=hE.trans (Ext.trans (by repeat (first | assumption | exact Ext.refl _ | (apply And.left;assumption) | apply Ext.drew | apply Ext.alloc)) hE');clear hE'))
   go_loopw [6,7,8] (fun u sv x wr=>∃k:Nat,k≤ord l∧x=.int .i64 k∧sv=.int .i64 ((cosTo l n k).2:Nat)∧Own 3 wb wr u (castL (cosTo l n k).1)∧Ext wb wr) (fun _ _ x _=>ord l - (intOf x).toNat)
   case atStart=>exact⟨0,by omega,rfl,rfl,hO,hE⟩
   case round =>
    clear hE hO
    obtain⟨k,hk,rfl,rfl,hO,hE⟩:=hrel
    have hbx:=hb _ hE
    by_cases hlt:k<ord l
    · have hln:(castL (cosTo l n k).1).length≤24:=by rw[castL_len];have:=cosTo_len l n k;omega
      have hsb:=shiftF_bd Hgr.out n k
      have hcb:(cosTo l n k).2<2 ^ 24:=Nat.lt_of_lt_of_le (cosTo_bd Hgr.out n k).1 (pow_ord Hgr.out)
      have hi:=ior_nat (a:=(cosTo l n k).2) (b:=shiftF l n k) (by omega) (by omega)
      have hsh:=ishr_nat (a:=(cosTo l n k).2) (n:=k) (by omega)
      have hle:=shr_le (cosTo l n k).2 k
      cases hb':(cosTo l n k).2.testBit k
      · have hm:shr (cosTo l n k).2 k % 2=0:=by
         rw[Nat.testBit_eq_decide_div_mod_eq,←Nat.shiftRight_eq_div_pow] at hb'
         have:=of_decide_eq_false hb'
         unfold shr;omega
        have hand:iand ((shr (cosTo l n k).2 k:Nat):Int) 1=0:=by rw[iand_one (by omega),hm];rfl
        have Hn:=Lib.hid (cosTo_no hb')
        clear hm
        go_wp2_with (first | (go_at_call 59;refine (l2Order_any _ _ _ (hg _ hE) (Hgr)).mono ?_;rintro e w' ⟨rfl,hE'⟩;replace hO:=hO.ext (Ext.trans (by repeat (first | assumption | exact Ext.refl _ | (apply And.left;assumption) | apply Ext.drew | apply Ext.alloc)) hE');replace hE:=hE.trans (Ext.trans (by repeat (first | assumption | exact Ext.refl _ | (apply And.left;assumption) | apply Ext.drew | apply Ext.alloc)) hE');clear hE') | (go_at_call 143;refine (l3Shift_any _ _ _ _ _ (hg _ hE) (Hgr) (h2) ((by omega))).mono ?_;rintro e w' ⟨rfl,hE'⟩;replace hO:=hO.ext (Ext.trans (by repeat (first | assumption | exact Ext.refl _ | (apply And.left;assumption) | apply Ext.drew | apply Ext.alloc)) hE');replace hE:=hE.trans (Ext.trans (by repeat (first | assumption | exact Ext.refl _ | (apply And.left;assumption) | apply Ext.drew | apply Ext.alloc)) hE');clear hE') | (at_builtin;refine wp_append1 slI rfl _ _ rfl wb _ _ _ _ hO hE (by omega) rfl rfl ?_;intro v1 w1 hO1 hE1))
        go_roundw
        case rel=>exact⟨k+1,by omega,by go_num,by rw[Hn.out],by rw[Hn.out];simpa[castL_snoc] using hO1,hE1⟩
        case measure=>(simp[intOf];omega)
      · have hm:shr (cosTo l n k).2 k % 2=1:=by
         rw[Nat.testBit_eq_decide_div_mod_eq,←Nat.shiftRight_eq_div_pow] at hb'
         exact of_decide_eq_true hb'
        have hand:iand ((shr (cosTo l n k).2 k:Nat):Int) 1=1:=by rw[iand_one (by omega),hm];rfl
        have Hn:=Lib.hid (cosTo_yes hb')
        clear hm
        go_wp2_with (first | (go_at_call 59;refine (l2Order_any _ _ _ (hg _ hE) (Hgr)).mono ?_;rintro e w' ⟨rfl,hE'⟩;replace hO:=hO.ext (Ext.trans (by repeat (first | assumption | exact Ext.refl _ | (apply And.left;assumption) | apply Ext.drew | apply Ext.alloc)) hE');replace hE:=hE.trans (Ext.trans (by repeat (first | assumption | exact Ext.refl _ | (apply And.left;assumption) | apply Ext.drew | apply Ext.alloc)) hE');clear hE'))
        go_roundw
        case rel=>exact⟨k+1,by omega,by go_num,by rw[Hn.out],by rw[Hn.out];exact hO,hE⟩
        case measure=>(simp[intOf];omega)
    · have hkl:k=ord l:=by omega
      subst hkl
      go_wp2_with (first | (go_at_call 59;refine (l2Order_any _ _ _ (hg _ hE) (Hgr)).mono ?_;rintro e w' ⟨rfl,hE'⟩;replace hO:=hO.ext (Ext.trans (by repeat (first | assumption | exact Ext.refl _ | (apply And.left;assumption) | apply Ext.drew | apply Ext.alloc)) hE');replace hE:=hE.trans (Ext.trans (by repeat (first | assumption | exact Ext.refl _ | (apply And.left;assumption) | apply Ext.drew | apply Ext.alloc)) hE');clear hE'))
      exact bodyPost_ret (v:=.tuple #[u6,.bool true]) (by simp[results,Tryz.results208,go_sem]) rfl ⟨_,rfl,by rw[Hs.out n rfl];exact hO.mono hE0,hE0.trans hE⟩
end Go.Zz
namespace Go.Zz
def sortB(xs:List Int):Bool:=(List.range xs.length).all (fun j=>decide (j=0) || decide (nth xs (j - 1)≤nth xs j))
theorem sortB_iff(xs:List Int):sortB xs=true↔∀j,0<j→j<xs.length→nth xs (j - 1)≤nth xs j:=by
 unfold sortB
 simp only[List.all_eq_true,List.mem_range,Bool.or_eq_true,decide_eq_true_eq]
 constructor
 · intro h j h0 hj
   rcases h j hj with e | e
   · omega
   · exact e
 · intro h j hj
   by_cases e:j=0
   · exact Or.inl e
   · exact Or.inr (h j (by omega) hj)
theorem sortB_no{xs:List Int}{j:Nat}(h0:0<j)(hj:j<xs.length)(h:nth xs j<nth xs (j - 1)):sortB xs=false:=by
 rw[←Bool.not_eq_true,sortB_iff]
 intro hall;have:=hall j h0 hj;omega
def seqB(l xs:List Int):Bool:=xs.all (hasB l)&&isGrp l&&decide (xs.length≤12)&&sortB xs
theorem seqB_has{l xs:List Int}{k:Nat}(hk:k<xs.length)(h:hasB l (nth xs k)=false):seqB l xs=false:=by
 have:xs.all (hasB l)=false:=by
  rw[←Bool.not_eq_true,List.all_eq_true]
  intro hall;rw[hall _ (nth_mem hk)] at h;cases h
 unfold seqB;rw[this];rfl
theorem seqB_down{l xs:List Int}{k:Nat}(h0:0<k)(hk:k<xs.length)(h:nth xs k<nth xs (k - 1)):seqB l xs=false:=by
 unfold seqB;rw[sortB_no h0 hk h];simp
theorem seqB_end{l xs:List Int}(h:∀j,j<xs.length→hasB l (nth xs j)=true):seqB l xs=(isGrp l&&decide (xs.length≤12)&&sortB xs):=by
 have:xs.all (hasB l)=true:=by
  rw[List.all_eq_true]
  intro x hx;obtain⟨k,hk,rfl⟩:=mem_nth hx;exact h k hk
 unfold seqB;rw[this];simp
theorem nat_list:∀(xs:List Int),(∀x∈xs,∃n:Nat,x=n)→∃X:List Nat,xs=castL X
 | [],_=>⟨[],rfl⟩
 | x :: xs,h=>by
  obtain⟨n,hn⟩:=h x (by simp)
  obtain⟨X,hX⟩:=nat_list xs (fun y hy=>h y (by simp[hy]))
  exact⟨n :: X,by rw[hn,hX];simp[castL]⟩
theorem seqB_nat{l xs:List Int}(h:seqB l xs=true):∃X:List Nat,xs=castL X∧(∀x∈X,x<ord l)∧X.length≤12∧isGrp l=true∧∀x∈X,x<24:=by
 simp only[seqB,Bool.and_eq_true,List.all_eq_true,decide_eq_true_eq] at h
 obtain⟨⟨⟨h1,h2⟩,h3⟩,_⟩:=h
 obtain⟨X,rfl⟩:=nat_list xs (fun x hx=>by obtain⟨n,hn,_⟩:=hasB_nat (h1 x hx);exact⟨n,hn⟩)
 have hx:∀x∈X,x<ord l:=fun x hx=>by
  obtain⟨n,hn,hlt,_⟩:=hasB_nat (h1 (x:Int) (by simp[castL];exact⟨x,hx,rfl⟩))
  have:x=n:=by omega
  omega
 exact⟨X,rfl,hx,by simpa[castL_len] using h3,h2,fun x hx'=>Nat.lt_of_lt_of_le (hx x hx') (ord_bd h2).2⟩
def partTo(xs:List Int)(m k:Nat):List Int:=((List.range k).filter (fun i=>m.testBit i)).map (nth xs)
def partI(xs:List Int)(m:Nat):List Int:=partTo xs m xs.length
theorem partTo_yes{xs:List Int}{m k:Nat}(h:m.testBit k=true):partTo xs m (k+1)=partTo xs m k++[nth xs k]:=by
 unfold partTo;rw[List.range_succ,List.filter_append,List.map_append];simp[h]
theorem partTo_no{xs:List Int}{m k:Nat}(h:m.testBit k=false):partTo xs m (k+1)=partTo xs m k:=by
 unfold partTo;rw[List.range_succ,List.filter_append,List.map_append];simp[h]
theorem partTo_len(xs:List Int)(m k:Nat):(partTo xs m k).length≤k:=by
 unfold partTo;rw[List.length_map];exact Nat.le_trans (List.length_filter_le _ _) (by simp)
def partL(X:List Nat)(m:Nat):List Nat:=((List.range X.length).filter (fun i=>m.testBit i)).map (nthN X)
theorem partI_cast(X:List Nat)(m:Nat):partI (castL X) m=castL (partL X m):=by
 unfold partI partTo partL castL
 rw[List.length_map,List.map_map]
 apply List.map_congr_left
 intro i _
 exact nth_castL X i
theorem partL_mem{X:List Nat}{m x:Nat}(h:x∈partL X m):x∈X:=by
 unfold partL at h
 rw[List.mem_map] at h
 obtain⟨i,hi,rfl⟩:=h
 exact nthN_mem (List.mem_range.1 (List.mem_filter.1 hi).1)
theorem partL_len{X:List Nat}{m:Nat}(hX:X.length≤24)(hm:m<2 ^ X.length):(partL X m).length=cnt m:=by
 unfold partL;rw[List.length_map]
 have:=elemsTo_all hX hm
 unfold elemsTo at this
 rw[this];rfl
def tot(l:List Int)(X:List Nat):Nat:=X.foldl (fun s x=>addF l s x) 0
theorem tot_snoc(l:List Int)(X:List Nat)(x:Nat):tot l (X++[x])=addF l (tot l X) x:=by unfold tot;rw[List.foldl_append];rfl
theorem tot_bd{l:List Int}(h:isGrp l=true)(X:List Nat):tot l X<24:=by
 rcases List.eq_nil_or_concat X with rfl | ⟨Y,y,rfl⟩
 · show (0:Nat)<24;omega
 · rw[List.concat_eq_append,tot_snoc];exact addF_bd h _ _
def zol(l:List Int)(X:List Nat)(k:Nat):Option Nat:=(List.range (pw X.length)).find? (fun m=>decide (cnt m=k)&&decide (tot l (partL X m)=0))
def zolL(l:List Int)(X:List Nat)(k:Nat):List Nat:=match zol l X k with | some m=>partL X m | none=>[]
def zolB(l:List Int)(X:List Nat)(k:Nat):Bool:=(zol l X k).isSome
theorem zol_at{l:List Int}{X:List Nat}{k m:Nat}(hm:m<pw X.length)(h:∀j,j<m→¬(cnt j=k∧tot l (partL X j)=0))(e1:cnt m=k)(e2:tot l (partL X m)=0):zolL l X k=partL X m∧zolB l X k=true∧zol l X k=some m:=by
 have:zol l X k=some m:=find_at hm (fun j hj=>by
  have:=h j hj
  by_cases a:cnt j=k
  · have b:¬tot l (partL X j)=0:=fun b=>this ⟨a,b⟩
    simp[b]
  · simp[a]) (by simp[e1,e2])
 unfold zolL zolB;rw[this];exact⟨rfl,rfl,rfl⟩
theorem zol_none{l:List Int}{X:List Nat}{k:Nat}(h:∀j,j<pw X.length→¬(cnt j=k∧tot l (partL X j)=0)):zolL l X k=[]∧zolB l X k=false∧zol l X k=none:=by
 have:zol l X k=none:=find_none (fun j hj=>by
  have:=h j hj
  by_cases a:cnt j=k
  · have b:¬tot l (partL X j)=0:=fun b=>this ⟨a,b⟩
    simp[b]
  · simp[a])
 unfold zolL zolB;rw[this];exact⟨rfl,rfl,rfl⟩
def szTo(l:List Int)(X:List Nat):Nat→Nat
 | 0=>0
 | c+1=>if c≠0∧tot l (partL X c)=0∧(szTo l X c=0∨cnt c<cnt (szTo l X c)) then c else szTo l X c
theorem szTo_yes{l:List Int}{X:List Nat}{c:Nat}(h0:c≠0)(h1:tot l (partL X c)=0)(h2:szTo l X c=0∨cnt c<cnt (szTo l X c)):szTo l X (c+1)=c:=by rw[szTo,if_pos ⟨h0,h1,h2⟩]
theorem szTo_no{l:List Int}{X:List Nat}{c:Nat}(h:¬(tot l (partL X c)=0∧(szTo l X c=0∨cnt c<cnt (szTo l X c)))):szTo l X (c+1)=szTo l X c:=by rw[szTo,if_neg (fun e=>h e.2)]
theorem szTo_one(l:List Int)(X:List Nat):szTo l X 1=0:=by rw[szTo,if_neg (fun e=>e.1 rfl)];rfl
theorem szTo_spec(l:List Int)(X:List Nat):∀c,(szTo l X c=0∧∀m,m<c→m≠0→tot l (partL X m)≠0) ∨
 (szTo l X c≠0∧szTo l X c<c∧tot l (partL X (szTo l X c))=0∧∀m,m<c→m≠0→tot l (partL X m)=0→cnt (szTo l X c)<cnt m∨(cnt (szTo l X c)=cnt m∧szTo l X c≤m))
 | 0=>Or.inl ⟨rfl,fun m hm=>by omega⟩
 | c+1=>by
  have ih:=szTo_spec l X c
  by_cases h:c≠0∧tot l (partL X c)=0∧(szTo l X c=0∨cnt c<cnt (szTo l X c))
  · rw[szTo_yes h.1 h.2.1 h.2.2]
    refine Or.inr ⟨h.1,by omega,h.2.1,fun m hm h0 ht=>?_⟩
    by_cases e:m=c
    · subst e;exact Or.inr ⟨rfl,Nat.le_refl _⟩
    · rcases ih with ⟨i1,i2⟩ | ⟨i1,i2,i3,i4⟩
      · exact absurd ht (i2 m (by omega) h0)
      · rcases h.2.2 with e2 | e2
        · exact absurd e2 i1
        · rcases i4 m (by omega) h0 ht with q | q<;>omega
  · have e:szTo l X (c+1)=szTo l X c:=by rw[szTo,if_neg h]
    rw[e]
    rcases ih with ⟨i1,i2⟩ | ⟨i1,i2,i3,i4⟩
    · refine Or.inl ⟨i1,fun m hm h0=>?_⟩
      by_cases e:m=c
      · subst e;exact fun ht=>h ⟨h0,ht,Or.inl i1⟩
      · exact i2 m (by omega) h0
    · refine Or.inr ⟨i1,by omega,i3,fun m hm h0 ht=>?_⟩
      by_cases e:m=c
      · subst e
        have:¬cnt m<cnt (szTo l X m):=fun q=>h ⟨h0,ht,Or.inr q⟩
        omega
      · exact i4 m (by omega) h0 ht
def szN(l:List Int)(X:List Nat):Nat:=szTo l X (pw X.length)
def szL'(X:List Nat)(b:Nat):List Nat:=if b=0 then [] else partL X b
def szR(l:List Int)(X:List Nat):List Nat:=szL' X (szN l X)
def szB(l:List Int)(X:List Nat):Bool:=decide (szN l X≠0)
theorem szL'_len{X:List Nat}{b:Nat}(hX:X.length≤12)(hb:b<2 ^ X.length):(szL' X b).length=cnt b:=by
 unfold szL'
 by_cases h:b=0
 · rw[if_pos h,h,cnt_zero];rfl
 · rw[if_neg h,partL_len (by omega) hb]
theorem cnt_mask{n m:Nat}(hn:n≤24)(hm:m<2 ^ n):cnt m≤n:=by
 have:=elemsTo_all hn hm
 unfold cnt;rw[←this];exact elemsTo_len m n
theorem sz_at{l:List Int}{X:List Nat}(hX:X.length≤12){k:Nat}(hk:1≤k)(h:∀j,1≤j→j<k→zolB l X j=false)(hz:zolB l X k=true):szR l X=zolL l X k∧szB l X=true:=by
 unfold zolB at hz
 cases hq:zol l X k with
 | none=>rw[hq] at hz;cases hz
 | some m =>
  have hm:=List.find?_some hq
  have hmr:=List.mem_of_find?_eq_some hq
  rw[List.mem_range] at hmr
  simp only[Bool.and_eq_true,decide_eq_true_eq] at hm
  have h0:m≠0:=fun e=>by rw[e,cnt_zero] at hm;omega
  have key:szN l X=m:=by
   rcases szTo_spec l X (pw X.length) with ⟨_,i2⟩ | ⟨i1,i2,i3,i4⟩
   · exact absurd hm.2 (i2 m hmr h0)
   · have hb:szN l X=szTo l X (pw X.length):=rfl
     rw[←hb] at i1 i2 i3 i4
     have c1:=cnt_pos (a:=szN l X) (by omega) (by have:=cnt_mask (n:=X.length) (m:=szN l X) (by omega) i2;exact Nat.lt_of_lt_of_le i2 (Nat.pow_le_pow_right (by omega) (by omega)))
     rcases i4 m hmr h0 hm.2 with q | q
     · have hj:=h (cnt (szN l X)) c1 (by omega)
       unfold zolB zol at hj
       have:((List.range (pw X.length)).find? (fun m=>decide (cnt m=cnt (szN l X))&&decide (tot l (partL X m)=0))).isSome=true:=by
        rw[List.find?_isSome]
        exact⟨szN l X,List.mem_range.2 i2,by simp[i3]⟩
       rw[this] at hj;cases hj
     · have hle:m≤szN l X:=by
        rcases Nat.lt_or_ge (szN l X) m with hlt | hge
        · exfalso
          unfold zol at hq
          rw[List.find?_range_eq_some] at hq
          have:=hq.2.2 (szN l X) hlt
          simp[i3] at this
          omega
        · exact hge
       omega
  unfold szR szL' szB zolL
  rw[key,if_neg h0,hq]
  exact⟨rfl,decide_eq_true h0⟩
theorem sz_none{l:List Int}{X:List Nat}(hX:X.length≤12)(h:∀j,1≤j→j≤X.length→zolB l X j=false):szR l X=[]∧szB l X=false:=by
 have key:szN l X=0:=by
  rcases szTo_spec l X (pw X.length) with ⟨i1,_⟩ | ⟨i1,i2,i3,i4⟩
  · exact i1
  · exfalso
    have hb:szN l X=szTo l X (pw X.length):=rfl
    rw[←hb] at i1 i2 i3
    have c2:=cnt_mask (n:=X.length) (m:=szN l X) (by omega) i2
    have c1:=cnt_pos (a:=szN l X) (by omega) (Nat.lt_of_lt_of_le i2 (Nat.pow_le_pow_right (by omega) (by omega)))
    have hj:=h (cnt (szN l X)) c1 c2
    unfold zolB zol at hj
    have:((List.range (pw X.length)).find? (fun m=>decide (cnt m=cnt (szN l X))&&decide (tot l (partL X m)=0))).isSome=true:=by
     rw[List.find?_isSome]
     exact⟨szN l X,List.mem_range.2 i2,by simp[i3]⟩
    rw[this] at hj;cases hj
 unfold szR szL' szB
 rw[key];exact⟨rfl,rfl⟩
end Go.Zz
namespace Go.Zz
open Go.RowKit Go.Proofs
set_option maxHeartbeats 1000000
set_option maxRecDepth 20000
theorem Calls.ext_of_same{P:Program}{f:FuncId}{args:Array Value}{w:World}{v:Value}(h:Calls P f args w fun e w'=>e=.returned v∧w=w') :
 Calls P f args w fun e w'=>e=.returned v∧Ext w w':=h.mono fun _ _ ⟨he,hw⟩=>⟨he,hw ▸ Ext.refl _⟩
theorem cmpLess_any(a b:Int)(w:World) :
 Calls Tryz.prog 193 #[.int .i64 a,.int .i64 b] w fun e w'=>e=.returned (.bool (decide (a<b)))∧w=w':=by
 have hn:∀(x:Int) (W:World),Calls Tryz.prog 218 #[.int .i64 x] W fun e w'=>e=.returned (.bool false)∧W=w':=fun x W=>by
  go_enter Tryz.func218,Tryz.ntmps218
  go_wp2_with fail
  go_ret
  exact⟨by simp,rfl⟩
 have hd:∃d,d=decide (a<b):=⟨_,rfl⟩
 go_enter Tryz.func193,Tryz.ntmps193
 go_wp2_with (first | (go_at_call 218;refine (hn _ _).mono ?_;rintro e w' ⟨rfl,rfl⟩))
 go_ret
 exact⟨rfl,rfl⟩
theorem cmpLess_val(a b:Int)(w:World){c:Bool}(hc:decide (a<b)=c) :
 Calls Tryz.prog 193 #[.int .i64 a,.int .i64 b] w fun e w'=>e=.returned (.bool c)∧w=w':=by subst hc;exact cmpLess_any a b w
theorem slicesIsSorted_any(u:Value)(xs:List Int)(w:World)(h:Ints w u xs) :
 Calls Tryz.prog 149 #[u] w fun e w'=>e=.returned (.bool (sortB xs))∧Ext w w':=by
 obtain⟨ao,c,adr,rfl,hlen,hadr,hcell⟩:=h.op
 have hix:=ints_index (c:=c) elI szI hadr
 have Hit:=Lib.hid (sortB_iff xs)
 have Hno:Hid (∀j,0<j→j<xs.length→nth xs j<nth xs (j - 1)→sortB xs=false):=Lib.hid fun j a b c=>sortB_no a b c
 have hE:=Ext.refl w
 clear h hadr
 go_enter Tryz.func149,Tryz.ntmps149
 go_wp2_with fail
 go_loopw [3] (fun i wr=>∃z:Int,z<(xs.length:Int) ∧ -1≤z∧i=.int .i64 z∧(∀j:Nat,z<(j:Int)→j<xs.length→nth xs (j - 1)≤nth xs j)∧Ext w wr) (fun i _=>(intOf i).toNat)
 case atStart=>exact⟨_,by omega,by omega,rfl,fun j h1 h2=>by omega,hE⟩
 case round =>
  clear hE
  obtain⟨z,hz1,hz2,rfl,hall,hE⟩:=hrel
  have Hall:=Lib.hid hall
  clear hall
  by_cases hp:0<z
  · obtain⟨k,rfl⟩:=Int.eq_ofNat_of_zero_le (show 0≤z by omega)
    have hk:k<xs.length:=by omega
    have hk0:0<k:=by omega
    obtain⟨q,hq⟩:∃q,q+1=k:=⟨k - 1,by omega⟩
    have hw:IntKind.i64.wrap ((k:Int) - 1)=(q:Int):=by rw[←hq];exact (IntWalk.i64_in _ (by omega)).trans (by omega)
    have hql:q<xs.length:=by omega
    have hck:=fun U=>hcell k _ hk (hE.trans (lat_ext wr U))
    have hcq:=fun U=>hcell q _ hql (hE.trans (lat_ext wr U))
    have Hqk:=Lib.hid (show q=k - 1 by omega)
    clear hq
    have hE1:=hE
    clear hE
    have hE:=Ext.refl wr
    cases hd:decide (nth xs k<nth xs q)
    · have Hd:=Lib.hid (of_decide_eq_false hd)
      go_wp2_with fail
      (refine wp_region_lat (wr) (by kernel_rfl) (by kernel_rfl) hE ?_);(repeat (go_big_quiet_step (first | (go_at_call 193;exact Calls.lat_same (cmpLess_val _ _ _ hd)))));(refine wpQuiet_nil ?_);(intro W hE');(replace hE:=lat_of hE');(clear hE')
      go_wp2_with fail
      go_roundw
      case rel=>exact⟨(q:Int),by have:=Hqk.out;omega,by omega,rfl,fun j h1 h2=>by by_cases e:j=k;(subst e;have:=Hd.out;rw[Hqk.out] at this;omega);exact Hall.out j (by have:=Hqk.out;omega) h2,hE1.trans hE⟩
      case measure=>(have:=Hqk.out;simp[intOf];omega)
    · have Hd:Hid (sortB xs=false):=Lib.hid (Hno.out k hk0 hk (by rw[←Hqk.out];exact of_decide_eq_true hd))
      go_wp2_with fail
      (refine wp_region_lat (wr) (by kernel_rfl) (by kernel_rfl) hE ?_);(repeat (go_big_quiet_step (first | (go_at_call 193;exact Calls.lat_same (cmpLess_val _ _ _ hd)))));(refine wpQuiet_nil ?_);(intro W hE');(replace hE:=lat_of hE');(clear hE')
      go_wp2_with fail
      go_ret
      exact⟨ret_bool Hd.out.symm,hE1.trans hE⟩
  · have Hz:Hid (sortB xs=true):=Lib.hid (Hit.out.2 fun j h0 hj=>Hall.out j (by omega) hj)
    go_wp2_with fail
    go_ret
    exact⟨ret_bool Hz.out.symm,hE⟩
theorem IsGroup_val(v:Value)(l:List Int)(w:World)(h:Ints w v l){c:Bool}(hc:isGrp l=c) :
 Calls Tryz.prog 131 #[.agg #[v]] w fun e w'=>e=.returned (.bool c)∧Ext w w':=by subst hc;exact IsGroup_any v l w h
theorem IsSequence_any(v u:Value)(l xs:List Int)(w:World)(h:Ints w v l)(hu:Ints w u xs) :
 Calls Tryz.prog 63 #[.agg #[v],u] w fun e w'=>e=.returned (.bool (seqB l xs))∧Ext w w':=by
 obtain⟨wb,hwb⟩:∃wb,wb=w.alloc (.cells #[v] 27):=⟨_,rfl⟩
 have hE0:=(Ext.refl w).alloc (.cells #[v] 27)
 have hb:=box_cell w v 27
 rw[←hwb] at hE0 hb
 have hg:∀W,Ext wb W→Ints W v l:=fun W hW=>h.ext (hE0.trans hW)
 have hgu:Hid (∀W,Ext wb W→Ints W u xs):=Lib.hid fun W hW=>hu.ext (hE0.trans hW)
 have hE:=Ext.refl wb
 have Hwb:=Lib.hid hwb
 clear hwb h
 obtain⟨ao,c,adr,rfl,hlen,hadr,hcell⟩:=(hgu.out wb hE).op
 have hix:=ints_index (c:=c) elI szI hadr
 have Hhas:Hid (∀k,k<xs.length→hasB l (nth xs k)=false→seqB l xs=false):=Lib.hid fun k a b=>seqB_has a b
 have Hend:=Lib.hid (fun h=>seqB_end (l:=l) (xs:=xs) h)
 clear hadr hu
 go_enter Tryz.func63,Tryz.ntmps63
 go_wp2_with fail
 rw[←Hwb.out]
 go_loopw [9] (fun i wr=>∃k:Nat,k≤xs.length∧i=.int .i64 k∧(∀j,j<k→hasB l (nth xs j)=true)∧Ext wb wr) (fun i _=>xs.length - (intOf i).toNat)
 case atStart=>exact⟨0,by omega,rfl,by omega,hE⟩
 case round =>
  clear hE
  obtain⟨k,hk,rfl,hall,hE⟩:=hrel
  have Hall:=Lib.hid hall
  clear hall
  have hbx:=hb _ hE
  by_cases hlt:k<xs.length
  · have hck:=hcell k _ hlt hE
    cases hh:hasB l (nth xs k)
    · have Hz:=Lib.hid (Hhas.out k hlt hh)
      go_wp2_with (first | (go_at_call 148;refine (has_val _ _ _ _ (hg _ hE) (hh)).mono ?_;rintro e w' ⟨rfl,hE'⟩;replace hE:=hE.trans hE';clear hE'))
      go_ret
      exact⟨ret_bool Hz.out.symm,hE0.trans hE⟩
    · have Hk:=Lib.hid hh
      go_wp2_with (first | (go_at_call 148;refine (has_val _ _ _ _ (hg _ hE) (hh)).mono ?_;rintro e w' ⟨rfl,hE'⟩;replace hE:=hE.trans hE';clear hE'))
      go_roundw
      case rel=>exact⟨k+1,by omega,by go_num,fun j hj=>by by_cases e:j=k;(subst e;exact Hk.out);exact Hall.out j (by omega),hE⟩
      case measure=>(simp[intOf];omega)
  · have hkl:k=xs.length:=by omega
    subst hkl
    have He:=Lib.hid (Hend.out Hall.out)
    cases hgr:isGrp l
    · have Hz:Hid (seqB l xs=false):=Lib.hid (by rw[He.out,hgr];rfl)
      go_wp2_with (first | (go_at_call 131;refine (IsGroup_val _ _ _ (hg _ hE) hgr).mono ?_;rintro e w' ⟨rfl,hE'⟩;replace hE:=hE.trans hE';clear hE'))
      go_ret
      exact⟨ret_bool Hz.out.symm,hE0.trans hE⟩
    · by_cases h12:xs.length≤12
      · have Hz:Hid (seqB l xs=sortB xs):=Lib.hid (by rw[He.out,hgr,decide_eq_true h12];rfl)
        go_wp2_with (first | (go_at_call 131;refine (IsGroup_val _ _ _ (hg _ hE) hgr).mono ?_;rintro e w' ⟨rfl,hE'⟩;replace hE:=hE.trans hE';clear hE') | (go_at_call 149;refine (slicesIsSorted_any _ _ _ (hgu.out _ hE)).mono ?_;rintro e w' ⟨rfl,hE'⟩;replace hE:=hE.trans hE';clear hE'))
        go_ret
        exact⟨ret_bool Hz.out.symm,hE0.trans hE⟩
      · have Hz:Hid (seqB l xs=false):=Lib.hid (by rw[He.out,hgr,decide_eq_false h12];rfl)
        have h12':¬(xs.length:Int)≤12:=by omega
        go_wp2_with (first | (go_at_call 131;refine (IsGroup_val _ _ _ (hg _ hE) hgr).mono ?_;rintro e w' ⟨rfl,hE'⟩;replace hE:=hE.trans hE';clear hE'))
        go_ret
        exact⟨ret_bool Hz.out.symm,hE0.trans hE⟩
theorem IsSequence_val(v u:Value)(l xs:List Int)(w:World)(h:Ints w v l)(hu:Ints w u xs){c:Bool}(hc:seqB l xs=c) :
 Calls Tryz.prog 63 #[.agg #[v],u] w fun e w'=>e=.returned (.bool c)∧Ext w w':=by subst hc;exact IsSequence_any v u l xs w h hu
theorem sIsGroup_val(v:Value)(l:List Int)(w:World)(h:Ints w v l){c:Bool}(hc:isGrp l=c) :
 Calls Tryz.prog 100 #[.agg #[v]] w fun e w'=>e=.returned (.bool c)∧Ext w w':=by subst hc;exact sIsGroup_any v l w h
theorem sIsSequence_any(v u:Value)(l xs:List Int)(w:World)(h:Ints w v l)(hu:Ints w u xs) :
 Calls Tryz.prog 21 #[.agg #[v],u] w fun e w'=>e=.returned (.bool (seqB l xs))∧Ext w w':=by
 obtain⟨wb,hwb⟩:∃wb,wb=w.alloc (.cells #[v] 27):=⟨_,rfl⟩
 have hE0:=(Ext.refl w).alloc (.cells #[v] 27)
 have hb:=box_cell w v 27
 rw[←hwb] at hE0 hb
 have hg:∀W,Ext wb W→Ints W v l:=fun W hW=>h.ext (hE0.trans hW)
 have hgu:Hid (∀W,Ext wb W→Ints W u xs):=Lib.hid fun W hW=>hu.ext (hE0.trans hW)
 have hE:=Ext.refl wb
 have Hwb:=Lib.hid hwb
 clear hwb h
 obtain⟨ao,c,adr,rfl,hlen,hadr,hcell⟩:=(hgu.out wb hE).op
 have hix:=ints_index (c:=c) elI szI hadr
 have Hhas:Hid (∀k,k<xs.length→hasB l (nth xs k)=false→seqB l xs=false):=Lib.hid fun k a b=>seqB_has a b
 have Hdown:Hid (∀k,0<k→k<xs.length→nth xs k<nth xs (k - 1)→seqB l xs=false):=Lib.hid fun k a b c=>seqB_down a b c
 have Hend:=Lib.hid (fun h=>seqB_end (l:=l) (xs:=xs) h)
 have Hit:=Lib.hid (sortB_iff xs)
 clear hadr hu
 go_enter Tryz.func21,Tryz.ntmps21
 go_wp2_with fail
 rw[←Hwb.out]
 go_loopw [5] (fun i wr=>∃k:Nat,k≤xs.length∧i=.int .i64 k∧(∀j,j<k→hasB l (nth xs j)=true∧(0<j→nth xs (j - 1)≤nth xs j))∧Ext wb wr) (fun i _=>xs.length - (intOf i).toNat)
 case atStart=>exact⟨0,by omega,rfl,by omega,hE⟩
 case round =>
  clear hE
  obtain⟨k,hk,rfl,hall,hE⟩:=hrel
  have Hall:=Lib.hid hall
  clear hall
  by_cases hlt:k<xs.length
  · have hck:=fun U=>hcell k _ hlt (hE.trans (lat_ext wr U))
    have hbu:=fun U=>hb _ (hE.trans (lat_ext wr U))
    have hgr':∀W,Ext wr W→Ints W v l:=fun W hW=>hg W (hE.trans hW)
    have hE1:=hE
    clear hE
    have hE:=Ext.refl wr
    cases hh:hasB l (nth xs k)
    · have Hz:=Lib.hid (Hhas.out k hlt hh)
      go_wp2_with fail
      (refine wp_region_lat (wr) (by kernel_rfl) (by kernel_rfl) hE ?_);(repeat (go_big_quiet_step (first | (go_at_call 99;exact Calls.lat (l2Is_val _ _ _ _ (hgr' _ (lat_ext wr _)) (hh))))));(refine wpQuiet_nil ?_);(intro W hE');(replace hE:=lat_of hE');(clear hE')
      go_wp2_with fail
      go_ret
      exact⟨ret_bool Hz.out.symm,hE0.trans (hE1.trans hE)⟩
    · have Hk:=Lib.hid hh
      by_cases h0:k=0
      · have Hk0:=Lib.hid h0
        have hd0:¬(0:Int)<(k:Int):=by omega
        have hdn:¬0<k:=by omega
        clear h0
        go_wp2_with fail
        (refine wp_region_lat (wr) (by kernel_rfl) (by kernel_rfl) hE ?_);(repeat (go_big_quiet_step (first | (go_at_call 99;exact Calls.lat (l2Is_val _ _ _ _ (hgr' _ (lat_ext wr _)) (hh))))));(refine wpQuiet_nil ?_);(intro W hE');(replace hE:=lat_of hE');(clear hE')
        go_wp2_with fail
        go_roundw
        case rel=>exact⟨k+1,by omega,by go_num,fun j hj=>by by_cases e:j=k;(subst e;exact⟨Hk.out,fun h=>by have:=Hk0.out;omega⟩);exact Hall.out j (by omega),hE1.trans hE⟩
        case measure=>(simp[intOf];omega)
      · have hd0:(0:Int)<(k:Int):=by omega
        have hk0:0<k:=by omega
        clear h0
        obtain⟨q,hq⟩:∃q,q+1=k:=⟨k - 1,by omega⟩
        have hw:IntKind.i64.wrap ((k:Int) - 1)=(q:Int):=by rw[←hq];exact (IntWalk.i64_in _ (by omega)).trans (by omega)
        have hql:q<xs.length:=by omega
        have hcq:=fun U=>hcell q _ hql (hE1.trans (lat_ext wr U))
        have Hqk:=Lib.hid (show q=k - 1 by omega)
        clear hq
        cases hd:decide (nth xs k<nth xs q)
        · have Hd:=Lib.hid (of_decide_eq_false hd)
          go_wp2_with fail
          (refine wp_region_lat (wr) (by kernel_rfl) (by kernel_rfl) hE ?_);(repeat (go_big_quiet_step (first | (go_at_call 99;exact Calls.lat (l2Is_val _ _ _ _ (hgr' _ (lat_ext wr _)) (hh))))));(refine wpQuiet_nil ?_);(intro W hE');(replace hE:=lat_of hE');(clear hE')
          go_wp2_with fail
          go_roundw
          case rel=>exact⟨k+1,by omega,by go_num,fun j hj=>by by_cases e:j=k;(subst e;exact⟨Hk.out,fun _=>by have:=Hd.out;rw[Hqk.out] at this;omega⟩);exact Hall.out j (by omega),hE1.trans hE⟩
          case measure=>(simp[intOf];omega)
        · have Hz:=Lib.hid (Hdown.out k hk0 hlt (by rw[←Hqk.out];exact of_decide_eq_true hd))
          go_wp2_with fail
          (refine wp_region_lat (wr) (by kernel_rfl) (by kernel_rfl) hE ?_);(repeat (go_big_quiet_step (first | (go_at_call 99;exact Calls.lat (l2Is_val _ _ _ _ (hgr' _ (lat_ext wr _)) (hh))))));(refine wpQuiet_nil ?_);(intro W hE');(replace hE:=lat_of hE');(clear hE')
          go_wp2_with fail
          go_ret
          exact⟨ret_bool Hz.out.symm,hE0.trans (hE1.trans hE)⟩
  · have hkl:k=xs.length:=by omega
    subst hkl
    have hbx:=hb _ hE
    have He:=Lib.hid (Hend.out fun j hj=>(Hall.out j hj).1)
    have Hs:Hid (sortB xs=true):=Lib.hid (Hit.out.2 fun j h0 hj=>(Hall.out j hj).2 h0)
    cases hgr:isGrp l
    · have Hz:Hid (seqB l xs=false):=Lib.hid (by rw[He.out,hgr];rfl)
      go_wp2_with (first | (go_at_call 100;refine (sIsGroup_val _ _ _ (hg _ hE) hgr).mono ?_;rintro e w' ⟨rfl,hE'⟩;replace hE:=hE.trans hE';clear hE'))
      go_ret
      exact⟨ret_bool Hz.out.symm,hE0.trans hE⟩
    · by_cases h12:xs.length≤12
      · have Hz:Hid (seqB l xs=true):=Lib.hid (by rw[He.out,hgr,decide_eq_true h12,Hs.out];rfl)
        go_wp2_with (first | (go_at_call 100;refine (sIsGroup_val _ _ _ (hg _ hE) hgr).mono ?_;rintro e w' ⟨rfl,hE'⟩;replace hE:=hE.trans hE';clear hE'))
        go_ret
        exact⟨ret_bool (by rw[Hz.out];exact decide_eq_true (by omega)),hE0.trans hE⟩
      · have Hz:Hid (seqB l xs=false):=Lib.hid (by rw[He.out,hgr,decide_eq_false h12];rfl)
        go_wp2_with (first | (go_at_call 100;refine (sIsGroup_val _ _ _ (hg _ hE) hgr).mono ?_;rintro e w' ⟨rfl,hE'⟩;replace hE:=hE.trans hE';clear hE'))
        go_ret
        exact⟨ret_bool (by rw[Hz.out];exact decide_eq_false (by omega)),hE0.trans hE⟩
theorem sIsSequence_val(v u:Value)(l xs:List Int)(w:World)(h:Ints w v l)(hu:Ints w u xs){c:Bool}(hc:seqB l xs=c) :
 Calls Tryz.prog 21 #[.agg #[v],u] w fun e w'=>e=.returned (.bool c)∧Ext w w':=by subst hc;exact sIsSequence_any v u l xs w h hu
end Go.Zz
