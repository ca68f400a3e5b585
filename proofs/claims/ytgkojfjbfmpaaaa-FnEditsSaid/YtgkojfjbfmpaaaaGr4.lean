/- Coverings (the reference), small doubling, sizes of intersections. -/
import Derived.Test.YtgkojfjbfmpaaaaGr3
namespace Go.Zz
open Go.RowKit Go.Proofs
set_option maxHeartbeats 400000
--%call IsSetV 66 ext IsSet_val _ _ _ _ ({0}) ({1})
theorem IsSet_val (v : Value) (l : List Int) (a : Int) (w : World) (h : Ints w v l) {b : Bool} (hb : isSetB l a = b) :
    Calls Try.prog 66 #[.agg #[v], .int .i64 a] w fun e w' => e = .returned (.bool b) ∧ Ext w w' := by
  subst hb; exact IsSet_any v l a w h
--%call sIsSetV 73 ext sIsSet_val _ _ _ _ ({0}) ({1})
theorem sIsSet_val (v : Value) (l : List Int) (a : Int) (w : World) (h : Ints w v l) {b : Bool} (hb : isSetB l a = b) :
    Calls Try.prog 73 #[.agg #[v], .int .i64 a] w fun e w' => e = .returned (.bool b) ∧ Ext w w' := by
  subst hb; exact sIsSet_any v l a w h



--%call sIsCovering 51 ext sIsCovering_any _ _ _ _ _ ({0})
theorem sIsCovering_any (v : Value) (l : List Int) (a x : Int) (w : World) (h : Ints w v l) :
    Calls Try.prog 51 #[.agg #[v], .int .i64 a, .int .i64 x] w fun e w' => e = .returned (.bool (covF l a x)) ∧ Ext w w' := by
  obtain ⟨wb, hwb⟩ : ∃ wb, wb = w.alloc (.cells #[v] 26) := ⟨_, rfl⟩
  have hE0 := (Ext.refl w).alloc (.cells #[v] 26)
  have hb := box_cell w v 26
  rw [← hwb] at hE0 hb
  have hg : ∀ W, Ext wb W → Ints W v l := fun W hW => h.ext (hE0.trans hW)
  have hE := Ext.refl wb
  have Hsz : Hid (w.heap.size + 1 = wb.heap.size) := Lib.hid (by rw [hwb]; simp [go_sem])
  have Hwb := Lib.hid hwb
  clear hwb h
  have hbx := fun U => hb _ (lat_ext wb U)
  cases hs1 : isSetB l a
  · have Hs := Lib.hid (covF_no (l := l) (a := a) (x := x) (by rw [hs1]; rfl))
    go_enter Try.func51, Try.ntmps51
    go_wp2_with fail
    rw [← Hwb.out]
    (refine wp_region_lat (wb) (by kernel_rfl) (by kernel_rfl) hE ?_); (repeat (go_big_quiet_step (first | (go_at_call 73; exact Calls.lat (sIsSet_val _ _ _ _ (hg _ (lat_ext wb _)) (hs1)))))); (refine wpQuiet_nil ?_); (intro W hE'); (replace hE := lat_of hE'); (clear hE')
    go_wp2_with fail
    go_ret
    exact ⟨ret_bool Hs.out.symm, hE0.trans hE⟩
  · cases hs2 : isSetB l x
    · have Hs := Lib.hid (covF_no (l := l) (a := a) (x := x) (by rw [hs2]; simp))
      go_enter Try.func51, Try.ntmps51
      go_wp2_with fail
      rw [← Hwb.out]
      (refine wp_region_lat (wb) (by kernel_rfl) (by kernel_rfl) hE ?_); (repeat (go_big_quiet_step (first | (go_at_call 73; first | with_reducible exact Calls.lat (sIsSet_val _ _ a _ (hg _ (lat_ext wb _)) hs1) | with_reducible exact Calls.lat (sIsSet_val _ _ x _ (hg _ (lat_ext wb _)) hs2))))); (refine wpQuiet_nil ?_); (intro W hE'); (replace hE := lat_of hE'); (clear hE')
      go_wp2_with fail
      go_ret
      exact ⟨ret_bool Hs.out.symm, hE0.trans hE⟩
    · obtain ⟨a, rfl, -, ha, hgr⟩ := isSetB_nat hs1
      obtain ⟨x, rfl, -, hx, -⟩ := isSetB_nat hs2
      have Hs := Lib.hid (covF_yes (l := l) (a := a) (x := x) (by rw [hs1, hs2]; rfl))
      have Hf := Lib.hid (fullF_t hgr)
      have Hgr := Lib.hid hgr
      have hb1 := ord_bd hgr
      have hp1 := pw_pos (ord l)
      have hp2 := pw_le hb1.2
      have hs3 := ishl_one (n := ord l) (by omega)
      clear hgr
      go_enter Try.func51, Try.ntmps51
      go_wp2_with fail
      rw [← Hwb.out]
      (refine wp_region_lat (wb) (by kernel_rfl) (by kernel_rfl) hE ?_); (repeat (go_big_quiet_step (first | (go_at_call 73; first | with_reducible exact Calls.lat (sIsSet_val _ _ (a : Int) _ (hg _ (lat_ext wb _)) hs1) | with_reducible exact Calls.lat (sIsSet_val _ _ (x : Int) _ (hg _ (lat_ext wb _)) hs2)) | (go_at_call 74; exact Calls.lat (l4Sum_any _ _ _ _ _ (hg _ (lat_ext wb _)) (Hgr) (ha) (hx))) | (go_at_call 84; exact Calls.lat (l2Order_any _ _ _ (hg _ (lat_ext wb _)) (Hgr)))))); (refine wpQuiet_nil ?_); (intro W hE'); (replace hE := lat_of hE'); (clear hE')
      go_wp2_with fail
      go_ret
      exact ⟨ret_bool (by rw [Hs.out, Hf.out]), hE0.trans hE⟩

/-- whether twice the size of a + a is less than three times that of a -/
def smallF (l : List Int) (a : Int) : Bool := isSetB l a && decide (a ≠ 0) && decide (2 * cnt (sumF l a.toNat a.toNat) < 3 * cnt a.toNat)
theorem smallF_no {l : List Int} {a : Int} (h : isSetB l a = false) : smallF l a = false := by unfold smallF; rw [h]; rfl
theorem smallF_zero (l : List Int) : smallF l 0 = false := by unfold smallF; simp
theorem smallF_yes {l : List Int} {n : Nat} (h : isSetB l n = true) (h0 : 0 < n) : smallF l n = decide (2 * (cnt (sumF l n n) : Int) < 3 * (cnt n : Int)) := by
  unfold smallF
  rw [h, Bool.eq_iff_iff]
  simp
  omega

/-- the sizes of the intersections of a with the shifts of b -/
def interTo (l : List Int) (a b k : Nat) : List Int := castL ((List.range k).map (fun x => cnt (a &&& shiftF l b x)))
def interF (l : List Int) (a b : Int) : List Int := if isSetB l a && isSetB l b then interTo l a.toNat b.toNat (ord l) else []
theorem interTo_zero (l : List Int) (a b : Nat) : interTo l a b 0 = [] := rfl
theorem interTo_succ (l : List Int) (a b k : Nat) : interTo l a b (k + 1) = interTo l a b k ++ [(cnt (a &&& shiftF l b k) : Int)] := by
  unfold interTo; rw [List.range_succ, List.map_append]; exact castL_snoc _ _
theorem interTo_len (l : List Int) (a b k : Nat) : (interTo l a b k).length = k := by simp [interTo, castL]
theorem interF_no {l : List Int} {a b : Int} (h : (isSetB l a && isSetB l b) = false) : interF l a b = [] := by unfold interF; rw [h]; rfl
theorem interF_yes {l : List Int} {a b : Nat} (h : (isSetB l a && isSetB l b) = true) : interF l a b = interTo l a b (ord l) := by unfold interF; rw [h]; rfl
theorem IntersectionSizes_any (v : Value) (l : List Int) (a b : Int) (w : World) (h : Ints w v l) :
    Calls Try.prog 45 #[.agg #[v], .int .i64 a, .int .i64 b] w fun e w' => ∃ u, e = .returned u ∧ Own 3 w w' u (interF l a b) ∧ Ext w w' := by
  obtain ⟨wb, hwb⟩ : ∃ wb, wb = w.alloc (.cells #[v] 26) := ⟨_, rfl⟩
  have hE0 := (Ext.refl w).alloc (.cells #[v] 26)
  have hb := box_cell w v 26
  rw [← hwb] at hE0 hb
  have hg : ∀ W, Ext wb W → Ints W v l := fun W hW => h.ext (hE0.trans hW)
  have hE := Ext.refl wb
  have Hsz : Hid (w.heap.size + 1 = wb.heap.size) := Lib.hid (by rw [hwb]; simp [go_sem])
  have Hwb := Lib.hid hwb
  clear hwb h
  obtain ⟨wc, hwc⟩ : ∃ wc, wc = wb.alloc (.cells #[] 3) := ⟨_, rfl⟩
  have hO : Own 3 wb wc (.slice (some ⟨wb.heap.size, 0, none⟩) 0 0) [] := by rw [hwc]; exact own_made (by omega) hE [] rfl
  replace hE : Ext wb wc := by rw [hwc]; exact hE.alloc _
  have Hsz2 : Hid (wb.heap.size + 1 = wc.heap.size) := Lib.hid (by rw [hwc]; simp [go_sem])
  have Hwc := Lib.hid hwc
  clear hwc
  have har := areF_two l a b
  cases hs : (isSetB l a && isSetB l b)
  · have Hs := Lib.hid (interF_no hs)
    rw [hs] at har
    clear hs
    go_enter Try.func45, Try.ntmps45
    go_wp2_with fail
    rw [← Hwb.out, ← Hwc.out]; rw [Hsz.out]; try rw [Hsz2.out]
    go_wp2_with (first | (go_at_call 88; refine Calls.mono (areSets_val _ _ _ _ _ (hg _ (by repeat (first | assumption | exact Ext.refl _ | (apply And.left; assumption) | apply Ext.drew | apply Ext.alloc))) (ints_two _ _ _ _) har) ?_; rintro e w' ⟨rfl, hE'⟩; replace hO := hO.ext (Ext.trans (by repeat (first | assumption | exact Ext.refl _ | (apply And.left; assumption) | apply Ext.drew | apply Ext.alloc)) hE'); replace hE := hE.trans (Ext.trans (by repeat (first | assumption | exact Ext.refl _ | (apply And.left; assumption) | apply Ext.drew | apply Ext.alloc)) hE'); clear hE'))
    go_ret
    exact ⟨_, rfl, by rw [Hs.out]; exact hO.mono hE0, hE0.trans hE⟩
  · obtain ⟨h1, h2⟩ := Bool.and_eq_true_iff.1 hs
    obtain ⟨a, rfl, -, ha, hgr⟩ := isSetB_nat h1
    obtain ⟨b, rfl, -, hb', -⟩ := isSetB_nat h2
    have Hs := Lib.hid (interF_yes hs)
    rw [hs] at har
    have Hgr := Lib.hid hgr
    have hord := ordF_t hgr
    have hob := ord_bd hgr
    clear hs hgr h1 h2
    go_enter Try.func45, Try.ntmps45
    go_wp2_with fail
    rw [← Hwb.out, ← Hwc.out]; rw [Hsz.out]; try rw [Hsz2.out]
    go_wp2_with (first | (go_at_call 88; refine Calls.mono (areSets_val _ _ _ _ _ (hg _ (by repeat (first | assumption | exact Ext.refl _ | (apply And.left; assumption) | apply Ext.drew | apply Ext.alloc))) (ints_two _ _ _ _) har) ?_; rintro e w' ⟨rfl, hE'⟩; replace hO := hO.ext (Ext.trans (by repeat (first | assumption | exact Ext.refl _ | (apply And.left; assumption) | apply Ext.drew | apply Ext.alloc)) hE'); replace hE := hE.trans (Ext.trans (by repeat (first | assumption | exact Ext.refl _ | (apply And.left; assumption) | apply Ext.drew | apply Ext.alloc)) hE'); clear hE') | (go_at_call 81; refine (OrderOf_any _ _ _ (hg _ hE)).mono ?_; rintro e w' ⟨rfl, hE'⟩; replace hO := hO.ext (Ext.trans (by repeat (first | assumption | exact Ext.refl _ | (apply And.left; assumption) | apply Ext.drew | apply Ext.alloc)) hE'); replace hE := hE.trans (Ext.trans (by repeat (first | assumption | exact Ext.refl _ | (apply And.left; assumption) | apply Ext.drew | apply Ext.alloc)) hE'); clear hE'))
    go_loopw [7, 19] (fun u x wr => ∃ k : Nat, k ≤ ord l ∧ x = .int .i64 k ∧ Own 3 wb wr u (interTo l a b k) ∧ Ext wb wr) (fun _ x _ => ord l - (intOf x).toNat)
    case atStart => exact ⟨0, by omega, rfl, hO, hE⟩
    case round =>
      clear hE hO
      obtain ⟨k, hk, rfl, hO, hE⟩ := hrel
      have hbx := hb _ hE
      by_cases hlt : k < ord l
      · have hln : (interTo l a b k).length ≤ 24 := by rw [interTo_len]; omega
        have hsb := shiftF_bd Hgr.out b k
        have hand := iand_nat (a := a) (b := shiftF l b k) (by omega) (by omega)
        have hcb : a &&& shiftF l b k < 2 ^ 24 := Nat.and_lt_two_pow _ hsb
        have Hn := Lib.hid (interTo_succ l a b k)
        go_wp2_with (first | (go_at_call 87; refine (shift_any _ _ _ _ _ (hg _ hE) (Hgr) (hb') ((by omega))).mono ?_; rintro e w' ⟨rfl, hE'⟩; replace hO := hO.ext (Ext.trans (by repeat (first | assumption | exact Ext.refl _ | (apply And.left; assumption) | apply Ext.drew | apply Ext.alloc)) hE'); replace hE := hE.trans (Ext.trans (by repeat (first | assumption | exact Ext.refl _ | (apply And.left; assumption) | apply Ext.drew | apply Ext.alloc)) hE'); clear hE') | (go_at_call 83; refine (bits_any _ (hcb) _).mono ?_; rintro e w' ⟨rfl, rfl⟩) | (at_builtin; refine wp_append1 slI rfl _ _ rfl wb _ _ _ _ hO hE (by omega) rfl rfl ?_; intro v1 w1 hO1 hE1))
        go_roundw
        case rel => exact ⟨k + 1, by omega, by go_num, by rw [Hn.out]; exact hO1, hE1⟩
        case measure => (simp [intOf]; omega)
      · have hkl : k = ord l := by omega
        subst hkl
        go_wp2_with fail
        go_ret
        exact ⟨_, rfl, by rw [Hs.out]; exact hO.mono hE0, hE0.trans hE⟩
theorem sIntersectionSizes_any (v : Value) (l : List Int) (a b : Int) (w : World) (h : Ints w v l) :
    Calls Try.prog 48 #[.agg #[v], .int .i64 a, .int .i64 b] w fun e w' => ∃ u, e = .returned u ∧ Own 3 w w' u (interF l a b) ∧ Ext w w' := by
  obtain ⟨wb, hwb⟩ : ∃ wb, wb = w.alloc (.cells #[v] 26) := ⟨_, rfl⟩
  have hE0 := (Ext.refl w).alloc (.cells #[v] 26)
  have hb := box_cell w v 26
  rw [← hwb] at hE0 hb
  have hg : ∀ W, Ext wb W → Ints W v l := fun W hW => h.ext (hE0.trans hW)
  have hE := Ext.refl wb
  have Hsz : Hid (w.heap.size + 1 = wb.heap.size) := Lib.hid (by rw [hwb]; simp [go_sem])
  have Hwb := Lib.hid hwb
  clear hwb h
  obtain ⟨wc, hwc⟩ : ∃ wc, wc = wb.alloc (.cells #[] 3) := ⟨_, rfl⟩
  have hO : Own 3 wb wc (.slice (some ⟨wb.heap.size, 0, none⟩) 0 0) [] := by rw [hwc]; exact own_made (by omega) hE [] rfl
  replace hE : Ext wb wc := by rw [hwc]; exact hE.alloc _
  have Hsz2 : Hid (wb.heap.size + 1 = wc.heap.size) := Lib.hid (by rw [hwc]; simp [go_sem])
  have Hwc := Lib.hid hwc
  clear hwc
  cases hs : (isSetB l a && isSetB l b)
  · have Hs := Lib.hid (interF_no hs)
    cases h1 : isSetB l a
    · go_enter Try.func48, Try.ntmps48
      go_wp2_with fail
      rw [← Hwb.out, ← Hwc.out]; rw [Hsz.out]; try rw [Hsz2.out]
      go_wp2_with (first | (go_at_call 73; refine Calls.mono (sIsSet_val _ _ _ _ (hg _ (by repeat (first | assumption | exact Ext.refl _ | (apply And.left; assumption) | apply Ext.drew | apply Ext.alloc))) h1) ?_; rintro e w' ⟨rfl, hE'⟩; replace hO := hO.ext (Ext.trans (by repeat (first | assumption | exact Ext.refl _ | (apply And.left; assumption) | apply Ext.drew | apply Ext.alloc)) hE'); replace hE := hE.trans (Ext.trans (by repeat (first | assumption | exact Ext.refl _ | (apply And.left; assumption) | apply Ext.drew | apply Ext.alloc)) hE'); clear hE'))
      go_ret
      exact ⟨_, rfl, by rw [Hs.out]; exact hO.mono hE0, hE0.trans hE⟩
    · have h2 : isSetB l b = false := by simpa [h1] using hs
      clear hs
      go_enter Try.func48, Try.ntmps48
      go_wp2_with fail
      rw [← Hwb.out, ← Hwc.out]; rw [Hsz.out]; try rw [Hsz2.out]
      go_wp2_with (first | (go_at_call 73; (first | (with_reducible refine Calls.mono (sIsSet_val _ _ a _ (hg _ (by repeat (first | assumption | exact Ext.refl _ | (apply And.left; assumption) | apply Ext.drew | apply Ext.alloc))) h1) ?_) | (with_reducible refine Calls.mono (sIsSet_val _ _ b _ (hg _ (by repeat (first | assumption | exact Ext.refl _ | (apply And.left; assumption) | apply Ext.drew | apply Ext.alloc))) h2) ?_)); rintro e w' ⟨rfl, hE'⟩; replace hO := hO.ext (Ext.trans (by repeat (first | assumption | exact Ext.refl _ | (apply And.left; assumption) | apply Ext.drew | apply Ext.alloc)) hE'); replace hE := hE.trans (Ext.trans (by repeat (first | assumption | exact Ext.refl _ | (apply And.left; assumption) | apply Ext.drew | apply Ext.alloc)) hE'); clear hE'))
      go_ret
      exact ⟨_, rfl, by rw [Hs.out]; exact hO.mono hE0, hE0.trans hE⟩
  · obtain ⟨h1, h2⟩ := Bool.and_eq_true_iff.1 hs
    obtain ⟨a, rfl, -, ha, hgr⟩ := isSetB_nat h1
    obtain ⟨b, rfl, -, hb', -⟩ := isSetB_nat h2
    have Hs := Lib.hid (interF_yes hs)
    have Hgr := Lib.hid hgr
    have hob := ord_bd hgr
    clear hs hgr
    go_enter Try.func48, Try.ntmps48
    go_wp2_with fail
    rw [← Hwb.out, ← Hwc.out]; rw [Hsz.out]; try rw [Hsz2.out]
    go_wp2_with (first | (go_at_call 73; (first | (with_reducible refine Calls.mono (sIsSet_val _ _ (a : Int) _ (hg _ (by repeat (first | assumption | exact Ext.refl _ | (apply And.left; assumption) | apply Ext.drew | apply Ext.alloc))) h1) ?_) | (with_reducible refine Calls.mono (sIsSet_val _ _ (b : Int) _ (hg _ (by repeat (first | assumption | exact Ext.refl _ | (apply And.left; assumption) | apply Ext.drew | apply Ext.alloc))) h2) ?_)); rintro e w' ⟨rfl, hE'⟩; replace hO := hO.ext (Ext.trans (by repeat (first | assumption | exact Ext.refl _ | (apply And.left; assumption) | apply Ext.drew | apply Ext.alloc)) hE'); replace hE := hE.trans (Ext.trans (by repeat (first | assumption | exact Ext.refl _ | (apply And.left; assumption) | apply Ext.drew | apply Ext.alloc)) hE'); clear hE'))
    clear h1 h2
    go_loopw [7, 8] (fun u x wr => ∃ k : Nat, k ≤ ord l ∧ x = .int .i64 k ∧ Own 3 wb wr u (interTo l a b k) ∧ Ext wb wr) (fun _ x _ => ord l - (intOf x).toNat)
    case atStart => exact ⟨0, by omega, rfl, hO, hE⟩
    case round =>
      clear hE hO
      obtain ⟨k, hk, rfl, hO, hE⟩ := hrel
      have hbx := hb _ hE
      by_cases hlt : k < ord l
      · have hln : (interTo l a b k).length ≤ 24 := by rw [interTo_len]; omega
        have hsb := shiftF_bd Hgr.out b k
        have hand := iand_nat (a := a) (b := shiftF l b k) (by omega) (by omega)
        have hcb : a &&& shiftF l b k < 2 ^ 24 := Nat.and_lt_two_pow _ hsb
        have Hn := Lib.hid (interTo_succ l a b k)
        go_wp2_with (first | (go_at_call 84; refine (l2Order_any _ _ _ (hg _ hE) (Hgr)).mono ?_; rintro e w' ⟨rfl, hE'⟩; replace hO := hO.ext (Ext.trans (by repeat (first | assumption | exact Ext.refl _ | (apply And.left; assumption) | apply Ext.drew | apply Ext.alloc)) hE'); replace hE := hE.trans (Ext.trans (by repeat (first | assumption | exact Ext.refl _ | (apply And.left; assumption) | apply Ext.drew | apply Ext.alloc)) hE'); clear hE') | (go_at_call 91; refine (l3Shift_any _ _ _ _ _ (hg _ hE) (Hgr) (hb') ((by omega))).mono ?_; rintro e w' ⟨rfl, hE'⟩; replace hO := hO.ext (Ext.trans (by repeat (first | assumption | exact Ext.refl _ | (apply And.left; assumption) | apply Ext.drew | apply Ext.alloc)) hE'); replace hE := hE.trans (Ext.trans (by repeat (first | assumption | exact Ext.refl _ | (apply And.left; assumption) | apply Ext.drew | apply Ext.alloc)) hE'); clear hE') | (go_at_call 85; refine (l3Bits_any _ (hcb) _).mono ?_; rintro e w' ⟨rfl, rfl⟩) | (at_builtin; refine wp_append1 slI rfl _ _ rfl wb _ _ _ _ hO hE (by omega) rfl rfl ?_; intro v1 w1 hO1 hE1))
        go_roundw
        case rel => exact ⟨k + 1, by omega, by go_num, by rw [Hn.out]; exact hO1, hE1⟩
        case measure => (simp [intOf]; omega)
      · have hkl : k = ord l := by omega
        subst hkl
        go_wp2_with (first | (go_at_call 84; refine (l2Order_any _ _ _ (hg _ hE) (Hgr)).mono ?_; rintro e w' ⟨rfl, hE'⟩; replace hO := hO.ext (Ext.trans (by repeat (first | assumption | exact Ext.refl _ | (apply And.left; assumption) | apply Ext.drew | apply Ext.alloc)) hE'); replace hE := hE.trans (Ext.trans (by repeat (first | assumption | exact Ext.refl _ | (apply And.left; assumption) | apply Ext.drew | apply Ext.alloc)) hE'); clear hE'))
        go_ret
        exact ⟨_, rfl, by rw [Hs.out]; exact hO.mono hE0, hE0.trans hE⟩
end Go.Zz

/- The table of sums: how often each element is a sum. Plain laws. -/
namespace Go.Zz
open Go.RowKit Go.Proofs
set_option maxHeartbeats 400000

/-- one more at a place -/
def bump (t : List Int) (z : Nat) : List Int := t.set z (nth t z + 1)
theorem bump_len (t : List Int) (z : Nat) : (bump t z).length = t.length := by simp [bump]
def tabIn (l : List Int) (x : Nat) (t : List Int) (L : List Nat) : List Int := L.foldl (fun t y => bump t (addF l x y)) t
def tabOut (l : List Int) (b : Nat) (t : List Int) (L : List Nat) : List Int := L.foldl (fun t x => tabIn l x t (elems b)) t
theorem tabIn_snoc (l : List Int) (x : Nat) (t : List Int) (L : List Nat) (y : Nat) : tabIn l x t (L ++ [y]) = bump (tabIn l x t L) (addF l x y) := by
  unfold tabIn; rw [List.foldl_append]; rfl
theorem tabOut_snoc (l : List Int) (b : Nat) (t : List Int) (L : List Nat) (x : Nat) : tabOut l b t (L ++ [x]) = tabIn l x (tabOut l b t L) (elems b) := by
  unfold tabOut; rw [List.foldl_append]; rfl
theorem nth_bump (t : List Int) (z i : Nat) (hz : z < t.length) : nth (bump t z) i = if i = z then nth t z + 1 else nth t i := by
  unfold bump nth
  simp only [List.getD_eq_getElem?_getD, List.getElem?_set]
  by_cases h : i = z
  · subst h; simp [hz]
  · have h' : ¬ z = i := fun e => h e.symm
    simp [h, h']
/-- every count lies between 0 and B -/
def Upto (t : List Int) (B : Int) : Prop := ∀ i, 0 ≤ nth t i ∧ nth t i ≤ B
theorem Upto.bump {t : List Int} {B : Int} (h : Upto t B) {z : Nat} (hz : z < t.length) : Upto (bump t z) (B + 1) := fun i => by
  rw [nth_bump t z i hz]
  have h1 := h z
  have h2 := h i
  split <;> omega
theorem Upto.zeros (n : Nat) : Upto (List.replicate n 0) 0 := fun i => by
  unfold nth
  simp only [List.getD_eq_getElem?_getD, List.getElem?_replicate]
  split <;> simp
def tabF (l : List Int) (a b : Int) : List Int := if isSetB l a && isSetB l b then tabOut l b.toNat (List.replicate (ord l) 0) (elems a.toNat) else []
theorem tabF_no {l : List Int} {a b : Int} (h : (isSetB l a && isSetB l b) = false) : tabF l a b = [] := by unfold tabF; rw [h]; rfl
theorem tabF_yes {l : List Int} {a b : Nat} (h : (isSetB l a && isSetB l b) = true) : tabF l a b = tabOut l b (List.replicate (ord l) 0) (elems a) := by unfold tabF; rw [h]; rfl
end Go.Zz

/- Plain laws of searches: a without b, greedy covers, first best values. -/
namespace Go.Zz
open Go.RowKit Go.Proofs
set_option maxHeartbeats 400000

/-- a without b -/
def andN (a b : Nat) : Nat := a ^^^ (a &&& b)
theorem andN_bit (a b i : Nat) : (andN a b).testBit i = (a.testBit i && !b.testBit i) := by
  unfold andN; rw [Nat.testBit_xor, Nat.testBit_and]; cases a.testBit i <;> cases b.testBit i <;> rfl
theorem andN_lt {a b n : Nat} (h : a < 2 ^ n) : andN a b < 2 ^ n := Nat.xor_lt_two_pow h (Nat.lt_of_le_of_lt Nat.and_le_left h)
theorem andN_sub : ∀ (n a b : Nat), a < 2 ^ n → andN a b + (a &&& b) = a
  | 0, a, b, h => by
    obtain rfl : a = 0 := by simp at h; omega
    simp [andN]
  | n + 1, a, b, h => by
    have hp : 2 ^ (n + 1) = 2 ^ n * 2 := Nat.pow_succ 2 n
    have ih := andN_sub n (a / 2) (b / 2) (by omega)
    have d1 : andN a b / 2 = andN (a / 2) (b / 2) := by
      apply Nat.eq_of_testBit_eq; intro i
      rw [← Nat.testBit_succ, andN_bit, andN_bit, Nat.testBit_succ, Nat.testBit_succ]
    have d2 : (a &&& b) / 2 = (a / 2) &&& (b / 2) := by
      apply Nat.eq_of_testBit_eq; intro i
      rw [← Nat.testBit_succ, Nat.testBit_and, Nat.testBit_and, Nat.testBit_succ, Nat.testBit_succ]
    have m1 : (andN a b).testBit 0 = (a.testBit 0 && !b.testBit 0) := andN_bit a b 0
    have m2 : (a &&& b).testBit 0 = (a.testBit 0 && b.testBit 0) := Nat.testBit_and a b 0
    rw [Nat.testBit_zero, Nat.testBit_zero, Nat.testBit_zero] at m1 m2
    have e1 : andN a b % 2 + (a &&& b) % 2 = a % 2 := by
      rw [Bool.eq_iff_iff] at m1 m2
      simp only [decide_eq_true_eq, Bool.and_eq_true, Bool.not_eq_true', decide_eq_false_iff_not] at m1 m2
      omega
    omega
theorem andN_zero {a b : Nat} : andN a b = 0 ↔ ∀ i, a.testBit i = true → b.testBit i = true := by
  constructor
  · intro h i hi
    have := andN_bit a b i
    rw [h, Nat.zero_testBit, hi] at this
    simpa using this.symm
  · intro h
    apply Nat.eq_of_testBit_eq; intro i
    rw [andN_bit, Nat.zero_testBit]
    cases e : a.testBit i
    · rfl
    · rw [h i e]; rfl
theorem iandn_nat {a b : Nat} (ha : a < 2 ^ 63) (hb : b < 2 ^ 63) : iandn a b = ((andN a b : Nat) : Int) := by
  show IntKind.i64.wrap ((BitVec.ofInt IntKind.i64.bits (a : Int) &&& ~~~ BitVec.ofInt IntKind.i64.bits (b : Int)).toNat : Int) = _
  have e : (BitVec.ofInt IntKind.i64.bits (a : Int) &&& ~~~ BitVec.ofInt IntKind.i64.bits (b : Int)) = (BitVec.ofInt IntKind.i64.bits (a : Int) ^^^ (BitVec.ofInt IntKind.i64.bits (a : Int) &&& BitVec.ofInt IntKind.i64.bits (b : Int))) := by
    ext i hi; simp only [BitVec.getElem_and, BitVec.getElem_xor, BitVec.getElem_not]
    cases (BitVec.ofInt IntKind.i64.bits (a : Int))[i] <;> cases (BitVec.ofInt IntKind.i64.bits (b : Int))[i] <;> rfl
  rw [e, BitVec.toNat_xor, BitVec.toNat_and, bv_nat ha, bv_nat hb]
  exact wrap_nat (andN_lt ha)

/-- the first greatest value of f below k, from 0 on: the place and the value -/
def bm (f : Nat → Nat) : Nat → Nat × Nat
  | 0 => (0, 0)
  | k + 1 => if (bm f k).2 < f k then (k, f k) else bm f k
theorem bm_zero (f : Nat → Nat) : bm f 0 = (0, 0) := rfl
theorem bm_yes {f : Nat → Nat} {k : Nat} (h : (bm f k).2 < f k) : bm f (k + 1) = (k, f k) := by rw [bm, if_pos h]
theorem bm_no {f : Nat → Nat} {k : Nat} (h : ¬ (bm f k).2 < f k) : bm f (k + 1) = bm f k := by rw [bm, if_neg h]
theorem bm_one (f : Nat → Nat) : bm f 1 = (0, f 0) := by
  by_cases h : (bm f 0).2 < f 0
  · exact bm_yes h
  · rw [bm_no h]
    have : f 0 = 0 := by simp [bm] at h; exact h
    rw [this]; rfl
theorem bm_max (f : Nat → Nat) : ∀ k j, j < k → f j ≤ (bm f k).2
  | k + 1, j, h => by
    by_cases e : (bm f k).2 < f k
    · rw [bm_yes e]
      by_cases hj : j = k
      · subst hj; exact Nat.le_refl _
      · have := bm_max f k j (by omega); show f j ≤ f k; omega
    · rw [bm_no e]
      by_cases hj : j = k
      · subst hj; omega
      · exact bm_max f k j (by omega)
theorem bm_val (f : Nat → Nat) : ∀ k, (bm f k).2 = 0 ∨ (bm f k).2 = f (bm f k).1
  | 0 => Or.inl rfl
  | k + 1 => by
    by_cases e : (bm f k).2 < f k
    · rw [bm_yes e]; exact Or.inr rfl
    · rw [bm_no e]; exact bm_val f k
theorem bm_at (f : Nat → Nat) : ∀ k, (bm f k).1 ≤ k - 1
  | 0 => Nat.le_refl 0
  | k + 1 => by
    by_cases e : (bm f k).2 < f k
    · rw [bm_yes e]; exact Nat.le_refl _
    · rw [bm_no e]; have := bm_at f k; omega

/-- how many of what is left the shift of a by x takes -/
def gain (l : List Int) (a left x : Nat) : Nat := cnt (shiftF l a x &&& left)
def bestAt (l : List Int) (a left : Nat) : Nat := (bm (gain l a left) (ord l)).1
/-- the greedy cover -/
def greedyN (l : List Int) (a : Nat) : Nat → Nat → Nat → Nat
  | 0, out, _ => out
  | n + 1, out, left => if left = 0 then out else greedyN l a n (out ||| 2 ^ bestAt l a left) (andN left (shiftF l a (bestAt l a left)))
theorem greedyN_end (l : List Int) (a n out : Nat) : greedyN l a n out 0 = out := by cases n <;> rfl
theorem greedyN_step {l : List Int} {a n out left : Nat} (h : left ≠ 0) :
    greedyN l a (n + 1) out left = greedyN l a n (out ||| 2 ^ bestAt l a left) (andN left (shiftF l a (bestAt l a left))) := by rw [greedyN, if_neg h]
def fullN (l : List Int) : Nat := pw (ord l) - 1
def greedyF (l : List Int) (a : Int) : Int := if isSetB l a && decide (a ≠ 0) then (greedyN l a.toNat (fullN l) 0 (fullN l) : Int) else 0
def isOneB (l : List Int) (a : Int) : Bool := isSetB l a && decide (a ≠ 0)
theorem isOneB_no {l : List Int} {a : Int} (h : isSetB l a = false) : isOneB l a = false := by unfold isOneB; rw [h]; rfl
theorem isOneB_zero (l : List Int) : isOneB l 0 = false := by unfold isOneB; simp
theorem isOneB_yes {l : List Int} {n : Nat} (h : isSetB l n = true) (h0 : 0 < n) : isOneB l n = true := by unfold isOneB; rw [h]; simp; omega
theorem greedyF_no {l : List Int} {a : Int} (h : isOneB l a = false) : greedyF l a = 0 := by unfold greedyF; unfold isOneB at h; rw [h]; rfl
theorem greedyF_yes {l : List Int} {n : Nat} (h : isOneB l n = true) : greedyF l n = (greedyN l n (fullN l) 0 (fullN l) : Int) := by unfold greedyF; unfold isOneB at h; rw [h]; rfl
theorem fullN_lt (l : List Int) : fullN l < 2 ^ ord l := by unfold fullN; have := pw_pos (ord l); rw [← pw_eq]; omega
theorem fullN_bit (l : List Int) (i : Nat) : (fullN l).testBit i = decide (i < ord l) := by unfold fullN; rw [pw_eq]; exact Nat.testBit_two_pow_sub_one _ _
theorem bestAt_lt {l : List Int} (h : isGrp l = true) (a left : Nat) : bestAt l a left < ord l := by
  unfold bestAt; have := bm_at (gain l a left) (ord l); have := (ord_bd h).1; omega
theorem pos_of_bit {a i : Nat} (h : a.testBit i = true) : a ≠ 0 := by intro e; rw [e, Nat.zero_testBit] at h; cases h
theorem bit_of_pos {a : Nat} (h : a ≠ 0) : ∃ i, a.testBit i = true := by
  refine Classical.byContradiction fun hn => h (Nat.eq_of_testBit_eq fun i => ?_)
  rw [Nat.zero_testBit]
  cases e : a.testBit i
  · rfl
  · exact absurd ⟨i, e⟩ hn
theorem cnt_ne {a : Nat} (h : cnt a ≠ 0) : a ≠ 0 := fun e => h (by rw [e]; exact cnt_zero)
theorem bit_lt {a n i : Nat} (ha : a < 2 ^ n) (h : a.testBit i = true) : i < n := by
  refine Classical.byContradiction fun hn => ?_
  rw [testBit_ge ha (by omega)] at h; cases h
/-- some shift meets what is left -/
theorem meets {l : List Int} (hg : isGrp l = true) {a left : Nat} (ha : a ≠ 0) (ha2 : a < 2 ^ ord l) (hl : left ≠ 0) (hl2 : left < 2 ^ ord l) :
    ∃ x, x < ord l ∧ gain l a left x ≠ 0 := by
  obtain ⟨y, hy⟩ := bit_of_pos ha
  obtain ⟨z, hz⟩ := bit_of_pos hl
  have hy2 := bit_lt ha2 hy
  have hz2 := bit_lt hl2 hz
  have ho := isGrp_ords hg
  have hb := (ord_bd hg).2
  have he : addF l (addF l z (negF l y)) y = z := by
    rw [addF_assoc l ho, addF_comm l (negF l y) y, addF_neg l ho, addF_comm l z 0, addF_zero l ho z hz2]
  refine ⟨addF l z (negF l y), addF_lt l ho _ _, ?_⟩
  have hbit : (shiftF l a (addF l z (negF l y)) &&& left).testBit z = true := by
    rw [Nat.testBit_and, hz, testBit_shiftF.2 ⟨y, by omega, hy, he⟩]; rfl
  have hp := cnt_pos (Nat.pos_of_ne_zero (pos_of_bit hbit)) (Nat.lt_of_le_of_lt Nat.and_le_right (Nat.lt_of_lt_of_le hl2 (pow_ord hg)))
  unfold gain; omega
theorem greedy_less {l : List Int} (hg : isGrp l = true) {a left : Nat} (ha : a ≠ 0) (ha2 : a < 2 ^ ord l) (hl : left ≠ 0) (hl2 : left < 2 ^ ord l) :
    andN left (shiftF l a (bestAt l a left)) < left := by
  obtain ⟨x, hx, hn⟩ := meets hg ha ha2 hl hl2
  have h1 := bm_max (gain l a left) (ord l) x hx
  have h2 : gain l a left (bestAt l a left) ≠ 0 := by
    unfold bestAt
    rcases bm_val (gain l a left) (ord l) with h | h <;> omega
  have h3 : shiftF l a (bestAt l a left) &&& left ≠ 0 := cnt_ne h2
  have h4 := andN_sub (ord l) left (shiftF l a (bestAt l a left)) hl2
  rw [Nat.and_comm] at h3
  omega
/-- what is covered beside what is left -/
theorem left_gain {l : List Int} (hg : isGrp l = true) (a x c : Nat) : andN (shiftF l a x) c = shiftF l a x &&& andN (fullN l) c := by
  apply Nat.eq_of_testBit_eq; intro i
  rw [andN_bit, Nat.testBit_and, andN_bit, fullN_bit]
  cases e : (shiftF l a x).testBit i
  · rfl
  · have := bit_lt (shiftF_lt (isGrp_ords hg) a x) e
    simp [this]
theorem left_next (l : List Int) (s c : Nat) : andN (fullN l) (c ||| s) = andN (andN (fullN l) c) s := by
  apply Nat.eq_of_testBit_eq; intro i
  rw [andN_bit, andN_bit, andN_bit, Nat.testBit_or]
  cases (fullN l).testBit i <;> cases c.testBit i <;> cases s.testBit i <;> rfl
theorem left_zero {l : List Int} {c : Nat} (hc : c < 2 ^ ord l) : andN (fullN l) c = 0 ↔ c = fullN l := by
  rw [andN_zero]
  constructor
  · intro h
    apply Nat.eq_of_testBit_eq; intro i
    cases e : (fullN l).testBit i
    · rw [fullN_bit] at e
      exact testBit_ge hc (by have := of_decide_eq_false e; omega)
    · exact h i e
  · rintro rfl i hi; exact hi
theorem left_start (l : List Int) : andN (fullN l) 0 = fullN l := by
  apply Nat.eq_of_testBit_eq; intro i
  rw [andN_bit, Nat.zero_testBit]; simp
/-- the same search from -1 on -/
def bmI (f : Nat → Nat) (k : Nat) : Nat × Int := if k = 0 then (0, -1) else ((bm f k).1, ((bm f k).2 : Int))
theorem bmI_zero (f : Nat → Nat) : bmI f 0 = (0, -1) := rfl
theorem bmI_pos (f : Nat → Nat) {k : Nat} (h : k ≠ 0) : bmI f k = ((bm f k).1, ((bm f k).2 : Int)) := by unfold bmI; rw [if_neg h]
theorem bmI_yes {f : Nat → Nat} {k : Nat} (h : (bmI f k).2 < (f k : Int)) : bmI f (k + 1) = (k, (f k : Int)) := by
  rw [bmI_pos f (Nat.succ_ne_zero k)]
  by_cases hk : k = 0
  · subst hk; rw [bm_one]
  · rw [bmI_pos f hk] at h
    rw [bm_yes (f := f) (k := k) (by have : ((bm f k).2 : Int) < (f k : Int) := h; omega)]
theorem bmI_no {f : Nat → Nat} {k : Nat} (h : ¬ (bmI f k).2 < (f k : Int)) : bmI f (k + 1) = bmI f k := by
  by_cases hk : k = 0
  · subst hk; rw [bmI_zero] at h; exact absurd (show (-1 : Int) < (f 0 : Int) by omega) h
  · rw [bmI_pos f (Nat.succ_ne_zero k)]
    rw [bmI_pos f hk] at h ⊢
    rw [bm_no (f := f) (k := k) (by intro e; exact h (show ((bm f k).2 : Int) < (f k : Int) by omega))]
theorem bm_le {f : Nat → Nat} {B : Nat} (h : ∀ j, f j ≤ B) : ∀ k, (bm f k).2 ≤ B
  | 0 => Nat.zero_le _
  | k + 1 => by
    by_cases e : (bm f k).2 < f k
    · rw [bm_yes e]; exact h k
    · rw [bm_no e]; exact bm_le h k
theorem bmI_bd {f : Nat → Nat} {B : Nat} (h : ∀ j, f j ≤ B) (k : Nat) : -1 ≤ (bmI f k).2 ∧ (bmI f k).2 ≤ B := by
  by_cases hk : k = 0
  · subst hk; rw [bmI_zero]; constructor <;> simp <;> omega
  · rw [bmI_pos f hk]; have := bm_le h k; constructor <;> simp <;> omega
theorem bmI_at (f : Nat → Nat) (k : Nat) : (bmI f k).1 ≤ k - 1 := by
  by_cases hk : k = 0
  · subst hk; exact Nat.le_refl 0
  · rw [bmI_pos f hk]; exact bm_at f k
theorem gain_le (l : List Int) (a left : Nat) : ∀ j, gain l a left j ≤ 24 := fun _ => cnt_le _
theorem bestAt_I {l : List Int} (h : isGrp l = true) (a left : Nat) : (bmI (gain l a left) (ord l)).1 = bestAt l a left := by
  rw [bmI_pos _ (by have := (ord_bd h).1; omega)]; rfl
end Go.Zz

/- The greedy translates. -/
namespace Go.Zz
open Go.RowKit Go.Proofs
set_option maxHeartbeats 400000

theorem fullF_n {l : List Int} (h : isGrp l = true) : fullF l = (fullN l : Int) := by
  rw [fullF_t h]; unfold fullN; have := pw_pos (ord l); omega
--%call FullSetN 82 ext FullSet_grp _ _ _ ({0}) ({1})
theorem FullSet_grp (v : Value) (l : List Int) (w : World) (h : Ints w v l) (Hgr : Hid (isGrp l = true)) :
    Calls Try.prog 82 #[.agg #[v]] w fun e w' => e = .returned (.int .i64 (fullN l)) ∧ Ext w w' := by
  rw [← fullF_n Hgr.out]; exact FullSet_any v l w h
--%call OrderOfN 81 ext OrderOf_grp _ _ _ ({0}) ({1})
theorem OrderOf_grp (v : Value) (l : List Int) (w : World) (h : Ints w v l) (Hgr : Hid (isGrp l = true)) :
    Calls Try.prog 81 #[.agg #[v]] w fun e w' => e = .returned (.int .i64 (ord l : Int)) ∧ Ext w w' := by
  rw [← ordF_t Hgr.out]; exact OrderOf_any v l w h

theorem GreedyTranslates_any (v : Value) (l : List Int) (a : Int) (w : World) (h : Ints w v l) :
    Calls Try.prog 36 #[.agg #[v], .int .i64 a] w fun e w' => e = .returned (.tuple #[.int .i64 (greedyF l a), .bool (isOneB l a)]) ∧ Ext w w' := by
  obtain ⟨wb, hwb⟩ : ∃ wb, wb = w.alloc (.cells #[v] 26) := ⟨_, rfl⟩
  have hE0 := (Ext.refl w).alloc (.cells #[v] 26)
  have hb := box_cell w v 26
  rw [← hwb] at hE0 hb
  have hg : ∀ W, Ext wb W → Ints W v l := fun W hW => h.ext (hE0.trans hW)
  have hE := Ext.refl wb
  have Hsz : Hid (w.heap.size + 1 = wb.heap.size) := Lib.hid (by rw [hwb]; simp [go_sem])
  have Hwb := Lib.hid hwb
  clear hwb h
  have hbx := hb wb hE
  cases hs : isSetB l a
  · have Hs := Lib.hid (isOneB_no hs)
    have Hs2 := Lib.hid (greedyF_no (isOneB_no hs))
    go_enter Try.func36, Try.ntmps36
    go_wp2_with fail
    rw [← Hwb.out]
    go_wp2_with (first | (go_at_call 66; refine (IsSet_any _ _ _ _ (hg _ hE)).mono ?_; rintro e w' ⟨rfl, hE'⟩; replace hE := hE.trans hE'; clear hE'))
    refine bodyPost_ret (v := .tuple #[.int .i64 0, .bool false]) (by simp [results, Try.results36, go_sem]) rfl ⟨by rw [Hs.out, Hs2.out], hE0.trans hE⟩
  · obtain ⟨n, rfl, h1, h2, hgr⟩ := isSetB_nat hs
    by_cases h0 : n = 0
    · subst h0
      have Hs := Lib.hid (isOneB_zero l)
      have Hs2 := Lib.hid (greedyF_no (isOneB_zero l))
      go_enter Try.func36, Try.ntmps36
      go_wp2_with fail
      rw [← Hwb.out]
      go_wp2_with (first | (go_at_call 66; refine (IsSet_any _ _ _ _ (hg _ hE)).mono ?_; rintro e w' ⟨rfl, hE'⟩; replace hE := hE.trans hE'; clear hE'))
      refine bodyPost_ret (v := .tuple #[.int .i64 0, .bool false]) (by simp [results, Try.results36, go_sem]) rfl ⟨by have := Hs.out; have := Hs2.out; simp_all, hE0.trans hE⟩
    · have Hs := Lib.hid (isOneB_yes hs (by omega))
      have Hs2 := Lib.hid (greedyF_yes Hs.out)
      have hne := Lib.hid h0
      have hn1 := Lib.hid h1
      have h0' : ((n : Int) == 0) = false := by simp; omega
      have Hgr := Lib.hid hgr
      have hob := ord_bd hgr
      have hfl := fullN_lt l
      have hpo := pow_ord hgr
      clear hgr h0 h1
      go_enter Try.func36, Try.ntmps36
      go_wp2_with fail
      rw [← Hwb.out]
      go_wp2_with (first | (go_at_call 66; refine (IsSet_any _ _ _ _ (hg _ hE)).mono ?_; rintro e w' ⟨rfl, hE'⟩; replace hE := hE.trans hE'; clear hE'))
      clear hs h0'
      go_loopw [6, 7] (fun ov cv wr => ∃ out c N : Nat, out < 2 ^ 24 ∧ c < 2 ^ ord l ∧ andN (fullN l) c ≤ N ∧ greedyN l n N out (andN (fullN l) c) = greedyN l n (fullN l) 0 (fullN l) ∧ ov = .int .i64 out ∧ cv = .int .i64 c ∧ Ext wb wr) (fun _ c _ => andN (fullN l) (intOf c).toNat)
      case atStart => exact ⟨0, 0, fullN l, by omega, by omega, by rw [left_start]; omega, by rw [left_start], rfl, rfl, hE⟩
      case round =>
        clear hE
        obtain ⟨out, c, N, ho, hc, hN, hG, rfl, rfl, hE⟩ := hrel
        have hbx := hb _ hE
        have HG := Lib.hid hG
        clear hG
        by_cases hend : c = fullN l
        · have hz := Lib.hid ((left_zero hc).2 hend)
          have hq : ((c : Int) != (fullN l : Int)) = false := by simp [hend]
          clear hend
          go_wp2_with (first | (go_at_call 82; refine (FullSet_grp _ _ _ (hg _ hE) (Hgr)).mono ?_; rintro e w' ⟨rfl, hE'⟩; replace hE := hE.trans hE'; clear hE'))
          have hres : Hid (greedyN l n (fullN l) 0 (fullN l) = out) := Lib.hid (by have := HG.out; rw [hz.out, greedyN_end] at this; exact this.symm)
          refine bodyPost_ret (v := .tuple #[.int .i64 out, .bool true]) (by simp [results, Try.results36, go_sem]) rfl ⟨by rw [Hs.out, Hs2.out, hres.out], hE0.trans hE⟩
        · have hq : ((c : Int) != (fullN l : Int)) = true := by simp; omega
          have Hnz : Hid (andN (fullN l) c ≠ 0) := Lib.hid fun e => hend ((left_zero hc).1 e)
          have hal := andN_lt (b := c) hfl
          clear hend
          go_wp2_with (first | (go_at_call 82; refine (FullSet_grp _ _ _ (hg _ hE) (Hgr)).mono ?_; rintro e w' ⟨rfl, hE'⟩; replace hE := hE.trans hE'; clear hE') | (go_at_call 81; refine (OrderOf_grp _ _ _ (hg _ hE) (Hgr)).mono ?_; rintro e w' ⟨rfl, hE'⟩; replace hE := hE.trans hE'; clear hE'))
          clear hq
          go_loopw [8, 9, 26] (fun bv mv xv wr => ∃ k : Nat, k ≤ ord l ∧ xv = .int .i64 k ∧ bv = .int .i64 ((bmI (gain l n (andN (fullN l) c)) k).1 : Int) ∧ mv = .int .i64 (bmI (gain l n (andN (fullN l) c)) k).2 ∧ Ext wb wr) (fun _ _ x _ => ord l - (intOf x).toNat)
          case atStart => exact ⟨0, by omega, rfl, rfl, rfl, hE⟩
          case round =>
            clear hE hbx
            obtain ⟨k, hk, rfl, rfl, rfl, hE⟩ := hrel
            have hbx := hb _ hE
            by_cases hlt : k < ord l
            · have hsb := shiftF_bd Hgr.out n k
              have hand : iandn (shiftF l n k : Int) (c : Int) = ((andN (shiftF l n k) c : Nat) : Int) := iandn_nat (by omega) (by omega)
              have hcb : andN (shiftF l n k) c < 2 ^ 24 := andN_lt hsb
              have Hcg : Hid (cnt (andN (shiftF l n k) c) = gain l n (andN (fullN l) c) k) := Lib.hid (by rw [left_gain Hgr.out]; rfl)
              have hbb := bmI_bd (gain_le l n (andN (fullN l) c)) k
              have hg24 := gain_le l n (andN (fullN l) c) k
              have hsh : Hid (k < 24) := Lib.hid (by omega)
              by_cases hgt : (bmI (gain l n (andN (fullN l) c)) k).2 < (gain l n (andN (fullN l) c) k : Int)
              · have Hb := Lib.hid (bmI_yes hgt)
                go_wp2_with (first | (go_at_call 87; refine (shift_any _ _ _ _ _ (hg _ hE) (Hgr) (h2) (hsh.out)).mono ?_; rintro e w' ⟨rfl, hE'⟩; replace hE := hE.trans hE'; clear hE') | (go_at_call 83; refine (bits_any _ hcb _).mono ?_; rintro e w' ⟨rfl, rfl⟩; rw [Hcg.out]))
                go_roundw
                case rel => exact ⟨k + 1, by omega, by go_num, by rw [Hb.out], by rw [Hb.out], hE⟩
                case measure => (simp [intOf]; omega)
              · have Hb := Lib.hid (bmI_no hgt)
                go_wp2_with (first | (go_at_call 87; refine (shift_any _ _ _ _ _ (hg _ hE) (Hgr) (h2) (hsh.out)).mono ?_; rintro e w' ⟨rfl, hE'⟩; replace hE := hE.trans hE'; clear hE') | (go_at_call 83; refine (bits_any _ hcb _).mono ?_; rintro e w' ⟨rfl, rfl⟩; rw [Hcg.out]))
                go_roundw
                case rel => exact ⟨k + 1, by omega, by go_num, by rw [Hb.out], by rw [Hb.out], hE⟩
                case measure => (simp [intOf]; omega)
            · have hkl : k = ord l := by omega
              subst hkl
              rw [bestAt_I Hgr.out]
              have hbl := bestAt_lt Hgr.out n (andN (fullN l) c)
              have hs1 := ishl_one (n := bestAt l n (andN (fullN l) c)) (by omega)
              have hs2 := ior_pw ho (show bestAt l n (andN (fullN l) c) < 24 by omega)
              have hsb := shiftF_lt (isGrp_ords Hgr.out) n (bestAt l n (andN (fullN l) c))
              have hs3 := ior_nat (a := c) (b := shiftF l n (bestAt l n (andN (fullN l) c))) (by omega) (by omega)
              have hless := greedy_less Hgr.out hne.out hn1.out Hnz.out hal
              have Hst := Lib.hid (greedyN_step (l := l) (a := n) (n := N - 1) (out := out) Hnz.out)
              have hNp : Hid (N - 1 + 1 = N) := Lib.hid (by have := Hnz.out; omega)
              have hln := Lib.hid (left_next l (shiftF l n (bestAt l n (andN (fullN l) c))) c)
              have hsh : Hid (bestAt l n (andN (fullN l) c) < 24) := Lib.hid (by omega)
              go_wp2_with (first | (go_at_call 87; refine (shift_any _ _ _ _ _ (hg _ hE) (Hgr) (h2) (hsh.out)).mono ?_; rintro e w' ⟨rfl, hE'⟩; replace hE := hE.trans hE'; clear hE'))
              go_roundw
              case rel =>
                refine ⟨out ||| 2 ^ bestAt l n (andN (fullN l) c), c ||| shiftF l n (bestAt l n (andN (fullN l) c)), N - 1, Nat.or_lt_two_pow ho (Nat.pow_lt_pow_right (by omega) hsh.out), Nat.or_lt_two_pow hc hsb, ?_, ?_, rfl, rfl, hE⟩
                · rw [hln.out]; omega
                · rw [hln.out, ← Hst.out, hNp.out]; exact HG.out
              case measure => (simp only [intOf, Int.toNat_natCast]; rw [hln.out]; exact hless)

theorem andN_int {l : List Int} {a b : Nat} (h : a < 2 ^ ord l) : (a : Int) - ((a &&& b : Nat) : Int) = ((andN a b : Nat) : Int) := by
  have := andN_sub (ord l) a b h; omega
theorem sGreedyTranslates_any (v : Value) (l : List Int) (a : Int) (w : World) (h : Ints w v l) :
    Calls Try.prog 43 #[.agg #[v], .int .i64 a] w fun e w' => e = .returned (.tuple #[.int .i64 (greedyF l a), .bool (isOneB l a)]) ∧ Ext w w' := by
  obtain ⟨wb, hwb⟩ : ∃ wb, wb = w.alloc (.cells #[v] 26) := ⟨_, rfl⟩
  have hE0 := (Ext.refl w).alloc (.cells #[v] 26)
  have hb := box_cell w v 26
  rw [← hwb] at hE0 hb
  have hg : ∀ W, Ext wb W → Ints W v l := fun W hW => h.ext (hE0.trans hW)
  have hE := Ext.refl wb
  have Hsz : Hid (w.heap.size + 1 = wb.heap.size) := Lib.hid (by rw [hwb]; simp [go_sem])
  have Hwb := Lib.hid hwb
  clear hwb h
  have hbx := hb wb hE
  cases hs : isSetB l a
  · have Hs := Lib.hid (isOneB_no hs)
    have Hs2 := Lib.hid (greedyF_no (isOneB_no hs))
    go_enter Try.func43, Try.ntmps43
    go_wp2_with fail
    rw [← Hwb.out]
    go_wp2_with (first | (go_at_call 73; refine (sIsSet_any _ _ _ _ (hg _ hE)).mono ?_; rintro e w' ⟨rfl, hE'⟩; replace hE := hE.trans hE'; clear hE'))
    refine bodyPost_ret (v := .tuple #[.int .i64 0, .bool false]) (by simp [results, Try.results43, go_sem]) rfl ⟨by rw [Hs.out, Hs2.out], hE0.trans hE⟩
  · obtain ⟨n, rfl, h1, h2, hgr⟩ := isSetB_nat hs
    by_cases h0 : n = 0
    · subst h0
      have Hs := Lib.hid (isOneB_zero l)
      have Hs2 := Lib.hid (greedyF_no (isOneB_zero l))
      go_enter Try.func43, Try.ntmps43
      go_wp2_with fail
      rw [← Hwb.out]
      go_wp2_with (first | (go_at_call 73; refine (sIsSet_any _ _ _ _ (hg _ hE)).mono ?_; rintro e w' ⟨rfl, hE'⟩; replace hE := hE.trans hE'; clear hE'))
      refine bodyPost_ret (v := .tuple #[.int .i64 0, .bool false]) (by simp [results, Try.results43, go_sem]) rfl ⟨by have := Hs.out; have := Hs2.out; simp_all, hE0.trans hE⟩
    · have Hs := Lib.hid (isOneB_yes hs (by omega))
      have Hs2 := Lib.hid (greedyF_yes Hs.out)
      have hne := Lib.hid h0
      have hn1 := Lib.hid h1
      have h0' : ((n : Int) == 0) = false := by simp; omega
      have Hgr := Lib.hid hgr
      have hob := ord_bd hgr
      have hfl := fullN_lt l
      have hpo := pow_ord hgr
      have hp1 := pw_pos (ord l)
      have hp2 := pw_le hob.2
      have hs0 := ishl_one (n := ord l) (by omega)
      have Hful : Hid (((pw (ord l) : Nat) : Int) - 1 = (fullN l : Int)) := Lib.hid (by unfold fullN; omega)
      clear hgr h0 h1
      go_enter Try.func43, Try.ntmps43
      go_wp2_with fail
      rw [← Hwb.out]
      go_wp2_with (first | (go_at_call 73; refine (sIsSet_any _ _ _ _ (hg _ hE)).mono ?_; rintro e w' ⟨rfl, hE'⟩; replace hE := hE.trans hE'; clear hE') | (go_at_call 84; refine (l2Order_any _ _ _ (hg _ hE) (Hgr)).mono ?_; rintro e w' ⟨rfl, hE'⟩; replace hE := hE.trans hE'; clear hE'))
      rw [Hful.out]
      clear hs h0' hs0 hp1 hp2
      go_loopw [6, 7] (fun ov cv wr => ∃ out c N : Nat, out < 2 ^ 24 ∧ c < 2 ^ ord l ∧ c ≤ N ∧ greedyN l n N out c = greedyN l n (fullN l) 0 (fullN l) ∧ ov = .int .i64 out ∧ cv = .int .i64 c ∧ Ext wb wr) (fun _ c _ => (intOf c).toNat)
      case atStart => exact ⟨0, fullN l, fullN l, by omega, hfl, by omega, rfl, rfl, rfl, hE⟩
      case round =>
        clear hE
        obtain ⟨out, c, N, ho, hc, hN, hG, rfl, rfl, hE⟩ := hrel
        have hbx := hb _ hE
        have HG := Lib.hid hG
        clear hG
        by_cases hend : c = 0
        · subst hend
          go_wp2_with fail
          have hres : Hid (greedyN l n (fullN l) 0 (fullN l) = out) := Lib.hid (by have := HG.out; rw [greedyN_end] at this; exact this.symm)
          refine bodyPost_ret (v := .tuple #[.int .i64 out, .bool true]) (by simp [results, Try.results43, go_sem]) rfl ⟨by rw [Hs.out, Hs2.out, hres.out], hE0.trans hE⟩
        · have Hnz : Hid (c ≠ 0) := Lib.hid hend
          have hcp : 0 < (c : Int) := by omega
          have hcn : 0 < c := by omega
          clear hend
          go_wp2_with fail
          go_loopw [8, 9, 10] (fun bv mv xv wr => ∃ k : Nat, k ≤ ord l ∧ xv = .int .i64 k ∧ bv = .int .i64 ((bm (gain l n c) k).1 : Int) ∧ mv = .int .i64 ((bm (gain l n c) k).2 : Int) ∧ Ext wb wr) (fun _ _ x _ => ord l - (intOf x).toNat)
          case atStart => exact ⟨0, by omega, rfl, rfl, rfl, hE⟩
          case round =>
            clear hE hbx
            obtain ⟨k, hk, rfl, rfl, rfl, hE⟩ := hrel
            have hbx := hb _ hE
            by_cases hlt : k < ord l
            · have hsb := shiftF_bd Hgr.out n k
              have hand : iand (shiftF l n k : Int) (c : Int) = ((shiftF l n k &&& c : Nat) : Int) := iand_nat (by omega) (by omega)
              have hcb : shiftF l n k &&& c < 2 ^ 24 := Nat.lt_of_le_of_lt Nat.and_le_left hsb
              have Hcg : Hid (cnt (shiftF l n k &&& c) = gain l n c k) := Lib.hid rfl
              have hbb := bm_le (gain_le l n c) k
              have hg24 := gain_le l n c k
              have hsh : Hid (k < 24) := Lib.hid (by omega)
              by_cases hgt : (bm (gain l n c) k).2 < gain l n c k
              · have Hb := Lib.hid (bm_yes hgt)
                go_wp2_with (first | (go_at_call 84; refine (l2Order_any _ _ _ (hg _ hE) (Hgr)).mono ?_; rintro e w' ⟨rfl, hE'⟩; replace hE := hE.trans hE'; clear hE') | (go_at_call 91; refine (l3Shift_any _ _ _ _ _ (hg _ hE) (Hgr) (h2) (hsh.out)).mono ?_; rintro e w' ⟨rfl, hE'⟩; replace hE := hE.trans hE'; clear hE') | (go_at_call 85; refine (l3Bits_any _ hcb _).mono ?_; rintro e w' ⟨rfl, rfl⟩; rw [Hcg.out]))
                go_roundw
                case rel => exact ⟨k + 1, by omega, by go_num, by rw [Hb.out], by rw [Hb.out], hE⟩
                case measure => (simp [intOf]; omega)
              · have Hb := Lib.hid (bm_no hgt)
                go_wp2_with (first | (go_at_call 84; refine (l2Order_any _ _ _ (hg _ hE) (Hgr)).mono ?_; rintro e w' ⟨rfl, hE'⟩; replace hE := hE.trans hE'; clear hE') | (go_at_call 91; refine (l3Shift_any _ _ _ _ _ (hg _ hE) (Hgr) (h2) (hsh.out)).mono ?_; rintro e w' ⟨rfl, hE'⟩; replace hE := hE.trans hE'; clear hE') | (go_at_call 85; refine (l3Bits_any _ hcb _).mono ?_; rintro e w' ⟨rfl, rfl⟩; rw [Hcg.out]))
                go_roundw
                case rel => exact ⟨k + 1, by omega, by go_num, by rw [Hb.out], by rw [Hb.out], hE⟩
                case measure => (simp [intOf]; omega)
            · have hkl : k = ord l := by omega
              subst hkl
              rw [show (bm (gain l n c) (ord l)).1 = bestAt l n c from rfl]
              have hbl := bestAt_lt Hgr.out n c
              have hs1 := ishl_one (n := bestAt l n c) (by omega)
              have hs2 := ior_pw ho (show bestAt l n c < 24 by omega)
              have hsb := shiftF_lt (isGrp_ords Hgr.out) n (bestAt l n c)
              have hs3 := iand_nat (a := c) (b := shiftF l n (bestAt l n c)) (by omega) (by omega)
              have hless := greedy_less Hgr.out hne.out hn1.out Hnz.out hc
              have Hst := Lib.hid (greedyN_step (l := l) (a := n) (n := N - 1) (out := out) Hnz.out)
              have hNp : Hid (N - 1 + 1 = N) := Lib.hid (by have := Hnz.out; omega)
              have hsh : Hid (bestAt l n c < 24) := Lib.hid (by omega)
              have hle : c &&& shiftF l n (bestAt l n c) ≤ c := Nat.and_le_left
              have Hsub := Lib.hid (andN_int (b := shiftF l n (bestAt l n c)) hc)
              have Hal := Lib.hid (andN_lt (b := shiftF l n (bestAt l n c)) hc)
              go_wp2_with (first | (go_at_call 84; refine (l2Order_any _ _ _ (hg _ hE) (Hgr)).mono ?_; rintro e w' ⟨rfl, hE'⟩; replace hE := hE.trans hE'; clear hE') | (go_at_call 91; refine (l3Shift_any _ _ _ _ _ (hg _ hE) (Hgr) (h2) (hsh.out)).mono ?_; rintro e w' ⟨rfl, hE'⟩; replace hE := hE.trans hE'; clear hE'))
              go_roundw
              case rel =>
                refine ⟨out ||| 2 ^ bestAt l n c, andN c (shiftF l n (bestAt l n c)), N - 1, Nat.or_lt_two_pow ho (Nat.pow_lt_pow_right (by omega) hsh.out), Hal.out, ?_, ?_, rfl, by rw [Hsub.out], hE⟩
                · omega
                · rw [← Hst.out, hNp.out]; exact HG.out
              case measure => (simp only [intOf]; rw [Hsub.out, Int.toNat_natCast, Int.toNat_natCast]; exact hless)
end Go.Zz
