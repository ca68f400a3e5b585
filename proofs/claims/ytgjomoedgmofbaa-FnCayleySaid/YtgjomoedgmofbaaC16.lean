/- Coverings (the reference), small doubling, sizes of intersections. -/
import Derived.Test.YtgjomoedgmofbaaC15
namespace Go.Zz
open Go.RowKit Go.Proofs
set_option maxHeartbeats 400000
--%call IsSetV 144 ext IsSet_val _ _ _ _ ({0}) ({1})
theorem IsSet_val (v : Value) (l : List Int) (a : Int) (w : World) (h : Ints w v l) {b : Bool} (hb : isSetB l a = b) :
    Calls Try.prog 144 #[.agg #[v], .int .i64 a] w fun e w' => e = .returned (.bool b) ∧ Ext w w' := by
  subst hb; exact IsSet_any v l a w h
--%call sIsSetV 119 ext sIsSet_val _ _ _ _ ({0}) ({1})
theorem sIsSet_val (v : Value) (l : List Int) (a : Int) (w : World) (h : Ints w v l) {b : Bool} (hb : isSetB l a = b) :
    Calls Try.prog 119 #[.agg #[v], .int .i64 a] w fun e w' => e = .returned (.bool b) ∧ Ext w w' := by
  subst hb; exact sIsSet_any v l a w h



--%call sIsCovering 74 ext sIsCovering_any _ _ _ _ _ ({0})
theorem sIsCovering_any (v : Value) (l : List Int) (a x : Int) (w : World) (h : Ints w v l) :
    Calls Try.prog 74 #[.agg #[v], .int .i64 a, .int .i64 x] w fun e w' => e = .returned (.bool (covF l a x)) ∧ Ext w w' := by
  obtain ⟨wb, hwb⟩ : ∃ wb, wb = w.alloc (.cells #[v] 26) := ⟨_, rfl⟩
  have hE0 := (Ext.refl w).alloc (.cells #[v] 26)
  have hb := box_cell w v 26
  rw [← hwb] at hE0 hb
  have hg : ∀ W, Ext wb W → Ints W v l := fun W hW => h.ext (hE0.trans hW)
  have hE := Ext.refl wb
  have Hsz : Hid (w.heap.size + 1 = wb.heap.size) := Lib.hid (by rw [hwb]; simp [go_sem])
  have Hwb := Lib.hid hwb
  clear hwb h
  have hbx := fun U => hb _ (lat_ext wb U)
  cases hs1 : isSetB l a
  · have Hs := Lib.hid (covF_no (l := l) (a := a) (x := x) (by rw [hs1]; rfl))
    go_enter Try.func74, Try.ntmps74
    go_wp2_with fail
    rw [← Hwb.out]
    (refine wp_region_lat (wb) (by kernel_rfl) (by kernel_rfl) hE ?_); (repeat (go_big_quiet_step (first | (go_at_call 119; exact Calls.lat (sIsSet_val _ _ _ _ (hg _ (lat_ext wb _)) (hs1)))))); (refine wpQuiet_nil ?_); (intro W hE'); (replace hE := lat_of hE'); (clear hE')
    go_wp2_with fail
    go_ret
    exact ⟨ret_bool Hs.out.symm, hE0.trans hE⟩
  · cases hs2 : isSetB l x
    · have Hs := Lib.hid (covF_no (l := l) (a := a) (x := x) (by rw [hs2]; simp))
      go_enter Try.func74, Try.ntmps74
      go_wp2_with fail
      rw [← Hwb.out]
      (refine wp_region_lat (wb) (by kernel_rfl) (by kernel_rfl) hE ?_); (repeat (go_big_quiet_step (first | (go_at_call 119; first | with_reducible exact Calls.lat (sIsSet_val _ _ a _ (hg _ (lat_ext wb _)) hs1) | with_reducible exact Calls.lat (sIsSet_val _ _ x _ (hg _ (lat_ext wb _)) hs2))))); (refine wpQuiet_nil ?_); (intro W hE'); (replace hE := lat_of hE'); (clear hE')
      go_wp2_with fail
      go_ret
      exact ⟨ret_bool Hs.out.symm, hE0.trans hE⟩
    · obtain ⟨a, rfl, -, ha, hgr⟩ := isSetB_nat hs1
      obtain ⟨x, rfl, -, hx, -⟩ := isSetB_nat hs2
      have Hs := Lib.hid (covF_yes (l := l) (a := a) (x := x) (by rw [hs1, hs2]; rfl))
      have Hf := Lib.hid (fullF_t hgr)
      have Hgr := Lib.hid hgr
      have hb1 := ord_bd hgr
      have hp1 := pw_pos (ord l)
      have hp2 := pw_le hb1.2
      have hs3 := ishl_one (n := ord l) (by omega)
      clear hgr
      go_enter Try.func74, Try.ntmps74
      go_wp2_with fail
      rw [← Hwb.out]
      (refine wp_region_lat (wb) (by kernel_rfl) (by kernel_rfl) hE ?_); (repeat (go_big_quiet_step (first | (go_at_call 119; first | with_reducible exact Calls.lat (sIsSet_val _ _ (a : Int) _ (hg _ (lat_ext wb _)) hs1) | with_reducible exact Calls.lat (sIsSet_val _ _ (x : Int) _ (hg _ (lat_ext wb _)) hs2)) | (go_at_call 118; exact Calls.lat (l4Sum_any _ _ _ _ _ (hg _ (lat_ext wb _)) (Hgr) (ha) (hx))) | (go_at_call 115; exact Calls.lat (l2Order_any _ _ _ (hg _ (lat_ext wb _)) (Hgr)))))); (refine wpQuiet_nil ?_); (intro W hE'); (replace hE := lat_of hE'); (clear hE')
      go_wp2_with fail
      go_ret
      exact ⟨ret_bool (by rw [Hs.out, Hf.out]), hE0.trans hE⟩

/-- whether twice the size of a + a is less than three times that of a -/
def smallF (l : List Int) (a : Int) : Bool := isSetB l a && decide (a ≠ 0) && decide (2 * cnt (sumF l a.toNat a.toNat) < 3 * cnt a.toNat)
theorem smallF_no {l : List Int} {a : Int} (h : isSetB l a = false) : smallF l a = false := by unfold smallF; rw [h]; rfl
theorem smallF_zero (l : List Int) : smallF l 0 = false := by unfold smallF; simp
theorem smallF_yes {l : List Int} {n : Nat} (h : isSetB l n = true) (h0 : 0 < n) : smallF l n = decide (2 * (cnt (sumF l n n) : Int) < 3 * (cnt n : Int)) := by
  unfold smallF
  rw [h, Bool.eq_iff_iff]
  simp
  omega

/-- the sizes of the intersections of a with the shifts of b -/
def interTo (l : List Int) (a b k : Nat) : List Int := castL ((List.range k).map (fun x => cnt (a &&& shiftF l b x)))
def interF (l : List Int) (a b : Int) : List Int := if isSetB l a && isSetB l b then interTo l a.toNat b.toNat (ord l) else []
theorem interTo_zero (l : List Int) (a b : Nat) : interTo l a b 0 = [] := rfl
theorem interTo_succ (l : List Int) (a b k : Nat) : interTo l a b (k + 1) = interTo l a b k ++ [(cnt (a &&& shiftF l b k) : Int)] := by
  unfold interTo; rw [List.range_succ, List.map_append]; exact castL_snoc _ _
theorem interTo_len (l : List Int) (a b k : Nat) : (interTo l a b k).length = k := by simp [interTo, castL]
theorem interF_no {l : List Int} {a b : Int} (h : (isSetB l a && isSetB l b) = false) : interF l a b = [] := by unfold interF; rw [h]; rfl
theorem interF_yes {l : List Int} {a b : Nat} (h : (isSetB l a && isSetB l b) = true) : interF l a b = interTo l a b (ord l) := by unfold interF; rw [h]; rfl
theorem IntersectionSizes_any (v : Value) (l : List Int) (a b : Int) (w : World) (h : Ints w v l) :
    Calls Try.prog 69 #[.agg #[v], .int .i64 a, .int .i64 b] w fun e w' => ∃ u, e = .returned u ∧ Own 3 w w' u (interF l a b) ∧ Ext w w' := by
  obtain ⟨wb, hwb⟩ : ∃ wb, wb = w.alloc (.cells #[v] 26) := ⟨_, rfl⟩
  have hE0 := (Ext.refl w).alloc (.cells #[v] 26)
  have hb := box_cell w v 26
  rw [← hwb] at hE0 hb
  have hg : ∀ W, Ext wb W → Ints W v l := fun W hW => h.ext (hE0.trans hW)
  have hE := Ext.refl wb
  have Hsz : Hid (w.heap.size + 1 = wb.heap.size) := Lib.hid (by rw [hwb]; simp [go_sem])
  have Hwb := Lib.hid hwb
  clear hwb h
  obtain ⟨wc, hwc⟩ : ∃ wc, wc = wb.alloc (.cells #[] 3) := ⟨_, rfl⟩
  have hO : Own 3 wb wc (.slice (some ⟨wb.heap.size, 0, none⟩) 0 0) [] := by rw [hwc]; exact own_made (by omega) hE [] rfl
  replace hE : Ext wb wc := by rw [hwc]; exact hE.alloc _
  have Hsz2 : Hid (wb.heap.size + 1 = wc.heap.size) := Lib.hid (by rw [hwc]; simp [go_sem])
  have Hwc := Lib.hid hwc
  clear hwc
  have har := areF_two l a b
  cases hs : (isSetB l a && isSetB l b)
  · have Hs := Lib.hid (interF_no hs)
    rw [hs] at har
    clear hs
    go_enter Try.func69, Try.ntmps69
    go_wp2_with fail
    rw [← Hwb.out, ← Hwc.out]; rw [Hsz.out]; try rw [Hsz2.out]
    go_wp2_with (first | (go_at_call 158; refine Calls.mono (areSets_val _ _ _ _ _ (hg _ (by repeat (first | assumption | exact Ext.refl _ | (apply And.left; assumption) | apply Ext.drew | apply Ext.alloc))) (ints_two _ _ _ _) har) ?_; rintro e w' ⟨rfl, hE'⟩; replace hO := hO.ext (Ext.trans (by repeat (first | assumption | exact Ext.refl _ | (apply And.left; assumption) | apply Ext.drew | apply Ext.alloc)) hE'); replace hE := hE.trans (Ext.trans (by repeat (first | assumption | exact Ext.refl _ | (apply And.left; assumption) | apply Ext.drew | apply Ext.alloc)) hE'); clear hE'))
    go_ret
    exact ⟨_, rfl, by rw [Hs.out]; exact hO.mono hE0, hE0.trans hE⟩
  · obtain ⟨h1, h2⟩ := Bool.and_eq_true_iff.1 hs
    obtain ⟨a, rfl, -, ha, hgr⟩ := isSetB_nat h1
    obtain ⟨b, rfl, -, hb', -⟩ := isSetB_nat h2
    have Hs := Lib.hid (interF_yes hs)
    rw [hs] at har
    have Hgr := Lib.hid hgr
    have hord := ordF_t hgr
    have hob := ord_bd hgr
    clear hs hgr h1 h2
    go_enter Try.func69, Try.ntmps69
    go_wp2_with fail
    rw [← Hwb.out, ← Hwc.out]; rw [Hsz.out]; try rw [Hsz2.out]
    go_wp2_with (first | (go_at_call 158; refine Calls.mono (areSets_val _ _ _ _ _ (hg _ (by repeat (first | assumption | exact Ext.refl _ | (apply And.left; assumption) | apply Ext.drew | apply Ext.alloc))) (ints_two _ _ _ _) har) ?_; rintro e w' ⟨rfl, hE'⟩; replace hO := hO.ext (Ext.trans (by repeat (first | assumption | exact Ext.refl _ | (apply And.left; assumption) | apply Ext.drew | apply Ext.alloc)) hE'); replace hE := hE.trans (Ext.trans (by repeat (first | assumption | exact Ext.refl _ | (apply And.left; assumption) | apply Ext.drew | apply Ext.alloc)) hE'); clear hE') | (go_at_call 108; refine (OrderOf_any _ _ _ (hg _ hE)).mono ?_; rintro e w' ⟨rfl, hE'⟩; replace hO := hO.ext (Ext.trans (by repeat (first | assumption | exact Ext.refl _ | (apply And.left; assumption) | apply Ext.drew | apply Ext.alloc)) hE'); replace hE := hE.trans (Ext.trans (by repeat (first | assumption | exact Ext.refl _ | (apply And.left; assumption) | apply Ext.drew | apply Ext.alloc)) hE'); clear hE'))
    go_loopw [7, 19] (fun u x wr => ∃ k : Nat, k ≤ ord l ∧ x = .int .i64 k ∧ Own 3 wb wr u (interTo l a b k) ∧ Ext wb wr) (fun _ x _ => ord l - (intOf x).toNat)
    case atStart => exact ⟨0, by omega, rfl, hO, hE⟩
    case round =>
      clear hE hO
      obtain ⟨k, hk, rfl, hO, hE⟩ := hrel
      have hbx := hb _ hE
      by_cases hlt : k < ord l
      · have hln : (interTo l a b k).length ≤ 24 := by rw [interTo_len]; omega
        have hsb := shiftF_bd Hgr.out b k
        have hand := iand_nat (a := a) (b := shiftF l b k) (by omega) (by omega)
        have hcb : a &&& shiftF l b k < 2 ^ 24 := Nat.and_lt_two_pow _ hsb
        have Hn := Lib.hid (interTo_succ l a b k)
        go_wp2_with (first | (go_at_call 157; refine (shift_any _ _ _ _ _ (hg _ hE) (Hgr) (hb') ((by omega))).mono ?_; rintro e w' ⟨rfl, hE'⟩; replace hO := hO.ext (Ext.trans (by repeat (first | assumption | exact Ext.refl _ | (apply And.left; assumption) | apply Ext.drew | apply Ext.alloc)) hE'); replace hE := hE.trans (Ext.trans (by repeat (first | assumption | exact Ext.refl _ | (apply And.left; assumption) | apply Ext.drew | apply Ext.alloc)) hE'); clear hE') | (go_at_call 112; refine (bits_any _ (hcb) _).mono ?_; rintro e w' ⟨rfl, rfl⟩) | (at_builtin; refine wp_append1 slI rfl _ _ rfl wb _ _ _ _ hO hE (by omega) rfl rfl ?_; intro v1 w1 hO1 hE1))
        go_roundw
        case rel => exact ⟨k + 1, by omega, by go_num, by rw [Hn.out]; exact hO1, hE1⟩
        case measure => (simp [intOf]; omega)
      · have hkl : k = ord l := by omega
        subst hkl
        go_wp2_with fail
        go_ret
        exact ⟨_, rfl, by rw [Hs.out]; exact hO.mono hE0, hE0.trans hE⟩
theorem sIntersectionSizes_any (v : Value) (l : List Int) (a b : Int) (w : World) (h : Ints w v l) :
    Calls Try.prog 71 #[.agg #[v], .int .i64 a, .int .i64 b] w fun e w' => ∃ u, e = .returned u ∧ Own 3 w w' u (interF l a b) ∧ Ext w w' := by
  obtain ⟨wb, hwb⟩ : ∃ wb, wb = w.alloc (.cells #[v] 26) := ⟨_, rfl⟩
  have hE0 := (Ext.refl w).alloc (.cells #[v] 26)
  have hb := box_cell w v 26
  rw [← hwb] at hE0 hb
  have hg : ∀ W, Ext wb W → Ints W v l := fun W hW => h.ext (hE0.trans hW)
  have hE := Ext.refl wb
  have Hsz : Hid (w.heap.size + 1 = wb.heap.size) := Lib.hid (by rw [hwb]; simp [go_sem])
  have Hwb := Lib.hid hwb
  clear hwb h
  obtain ⟨wc, hwc⟩ : ∃ wc, wc = wb.alloc (.cells #[] 3) := ⟨_, rfl⟩
  have hO : Own 3 wb wc (.slice (some ⟨wb.heap.size, 0, none⟩) 0 0) [] := by rw [hwc]; exact own_made (by omega) hE [] rfl
  replace hE : Ext wb wc := by rw [hwc]; exact hE.alloc _
  have Hsz2 : Hid (wb.heap.size + 1 = wc.heap.size) := Lib.hid (by rw [hwc]; simp [go_sem])
  have Hwc := Lib.hid hwc
  clear hwc
  cases hs : (isSetB l a && isSetB l b)
  · have Hs := Lib.hid (interF_no hs)
    cases h1 : isSetB l a
    · go_enter Try.func71, Try.ntmps71
      go_wp2_with fail
      rw [← Hwb.out, ← Hwc.out]; rw [Hsz.out]; try rw [Hsz2.out]
      go_wp2_with (first | (go_at_call 119; refine Calls.mono (sIsSet_val _ _ _ _ (hg _ (by repeat (first | assumption | exact Ext.refl _ | (apply And.left; assumption) | apply Ext.drew | apply Ext.alloc))) h1) ?_; rintro e w' ⟨rfl, hE'⟩; replace hO := hO.ext (Ext.trans (by repeat (first | assumption | exact Ext.refl _ | (apply And.left; assumption) | apply Ext.drew | apply Ext.alloc)) hE'); replace hE := hE.trans (Ext.trans (by repeat (first | assumption | exact Ext.refl _ | (apply And.left; assumption) | apply Ext.drew | apply Ext.alloc)) hE'); clear hE'))
      go_ret
      exact ⟨_, rfl, by rw [Hs.out]; exact hO.mono hE0, hE0.trans hE⟩
    · have h2 : isSetB l b = false := by simpa [h1] using hs
      clear hs
      go_enter Try.func71, Try.ntmps71
      go_wp2_with fail
      rw [← Hwb.out, ← Hwc.out]; rw [Hsz.out]; try rw [Hsz2.out]
      go_wp2_with (first | (go_at_call 119; (first | (with_reducible refine Calls.mono (sIsSet_val _ _ a _ (hg _ (by repeat (first | assumption | exact Ext.refl _ | (apply And.left; assumption) | apply Ext.drew | apply Ext.alloc))) h1) ?_) | (with_reducible refine Calls.mono (sIsSet_val _ _ b _ (hg _ (by repeat (first | assumption | exact Ext.refl _ | (apply And.left; assumption) | apply Ext.drew | apply Ext.alloc))) h2) ?_)); rintro e w' ⟨rfl, hE'⟩; replace hO := hO.ext (Ext.trans (by repeat (first | assumption | exact Ext.refl _ | (apply And.left; assumption) | apply Ext.drew | apply Ext.alloc)) hE'); replace hE := hE.trans (Ext.trans (by repeat (first | assumption | exact Ext.refl _ | (apply And.left; assumption) | apply Ext.drew | apply Ext.alloc)) hE'); clear hE'))
      go_ret
      exact ⟨_, rfl, by rw [Hs.out]; exact hO.mono hE0, hE0.trans hE⟩
  · obtain ⟨h1, h2⟩ := Bool.and_eq_true_iff.1 hs
    obtain ⟨a, rfl, -, ha, hgr⟩ := isSetB_nat h1
    obtain ⟨b, rfl, -, hb', -⟩ := isSetB_nat h2
    have Hs := Lib.hid (interF_yes hs)
    have Hgr := Lib.hid hgr
    have hob := ord_bd hgr
    clear hs hgr
    go_enter Try.func71, Try.ntmps71
    go_wp2_with fail
    rw [← Hwb.out, ← Hwc.out]; rw [Hsz.out]; try rw [Hsz2.out]
    go_wp2_with (first | (go_at_call 119; (first | (with_reducible refine Calls.mono (sIsSet_val _ _ (a : Int) _ (hg _ (by repeat (first | assumption | exact Ext.refl _ | (apply And.left; assumption) | apply Ext.drew | apply Ext.alloc))) h1) ?_) | (with_reducible refine Calls.mono (sIsSet_val _ _ (b : Int) _ (hg _ (by repeat (first | assumption | exact Ext.refl _ | (apply And.left; assumption) | apply Ext.drew | apply Ext.alloc))) h2) ?_)); rintro e w' ⟨rfl, hE'⟩; replace hO := hO.ext (Ext.trans (by repeat (first | assumption | exact Ext.refl _ | (apply And.left; assumption) | apply Ext.drew | apply Ext.alloc)) hE'); replace hE := hE.trans (Ext.trans (by repeat (first | assumption | exact Ext.refl _ | (apply And.left; assumption) | apply Ext.drew | apply Ext.alloc)) hE'); clear hE'))
    clear h1 h2
    go_loopw [7, 8] (fun u x wr => ∃ k : Nat, k ≤ ord l ∧ x = .int .i64 k ∧ Own 3 wb wr u (interTo l a b k) ∧ Ext wb wr) (fun _ x _ => ord l - (intOf x).toNat)
    case atStart => exact ⟨0, by omega, rfl, hO, hE⟩
    case round =>
      clear hE hO
      obtain ⟨k, hk, rfl, hO, hE⟩ := hrel
      have hbx := hb _ hE
      by_cases hlt : k < ord l
      · have hln : (interTo l a b k).length ≤ 24 := by rw [interTo_len]; omega
        have hsb := shiftF_bd Hgr.out b k
        have hand := iand_nat (a := a) (b := shiftF l b k) (by omega) (by omega)
        have hcb : a &&& shiftF l b k < 2 ^ 24 := Nat.and_lt_two_pow _ hsb
        have Hn := Lib.hid (interTo_succ l a b k)
        go_wp2_with (first | (go_at_call 115; refine (l2Order_any _ _ _ (hg _ hE) (Hgr)).mono ?_; rintro e w' ⟨rfl, hE'⟩; replace hO := hO.ext (Ext.trans (by repeat (first | assumption | exact Ext.refl _ | (apply And.left; assumption) | apply Ext.drew | apply Ext.alloc)) hE'); replace hE := hE.trans (Ext.trans (by repeat (first | assumption | exact Ext.refl _ | (apply And.left; assumption) | apply Ext.drew | apply Ext.alloc)) hE'); clear hE') | (go_at_call 160; refine (l3Shift_any _ _ _ _ _ (hg _ hE) (Hgr) (hb') ((by omega))).mono ?_; rintro e w' ⟨rfl, hE'⟩; replace hO := hO.ext (Ext.trans (by repeat (first | assumption | exact Ext.refl _ | (apply And.left; assumption) | apply Ext.drew | apply Ext.alloc)) hE'); replace hE := hE.trans (Ext.trans (by repeat (first | assumption | exact Ext.refl _ | (apply And.left; assumption) | apply Ext.drew | apply Ext.alloc)) hE'); clear hE') | (go_at_call 117; refine (l3Bits_any _ (hcb) _).mono ?_; rintro e w' ⟨rfl, rfl⟩) | (at_builtin; refine wp_append1 slI rfl _ _ rfl wb _ _ _ _ hO hE (by omega) rfl rfl ?_; intro v1 w1 hO1 hE1))
        go_roundw
        case rel => exact ⟨k + 1, by omega, by go_num, by rw [Hn.out]; exact hO1, hE1⟩
        case measure => (simp [intOf]; omega)
      · have hkl : k = ord l := by omega
        subst hkl
        go_wp2_with (first | (go_at_call 115; refine (l2Order_any _ _ _ (hg _ hE) (Hgr)).mono ?_; rintro e w' ⟨rfl, hE'⟩; replace hO := hO.ext (Ext.trans (by repeat (first | assumption | exact Ext.refl _ | (apply And.left; assumption) | apply Ext.drew | apply Ext.alloc)) hE'); replace hE := hE.trans (Ext.trans (by repeat (first | assumption | exact Ext.refl _ | (apply And.left; assumption) | apply Ext.drew | apply Ext.alloc)) hE'); clear hE'))
        go_ret
        exact ⟨_, rfl, by rw [Hs.out]; exact hO.mono hE0, hE0.trans hE⟩
end Go.Zz
