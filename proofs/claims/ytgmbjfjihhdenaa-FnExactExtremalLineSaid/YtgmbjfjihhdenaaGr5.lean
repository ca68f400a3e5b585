/- Coverings, small doubling, sizes of intersections. -/
import Derived.Test.YtgmbjfjihhdenaaGr4
import Derived.Deep.RegionHeld3
import Derived.Deep.RegionWith
namespace Go.Zz
open Go.RowKit Go.Proofs
set_option maxHeartbeats 400000

theorem ints_two (w : World) (a b : Int) (T : TypeId) : Ints (w.alloc (.cells #[.int .i64 a, .int .i64 b] T)) (.slice (some ⟨w.heap.size, 0, none⟩) 2 2) [a, b] := by
  refine ⟨_, 2, rfl, Nat.le_refl _, by simp, fun i hi => ⟨_, rfl, ?_⟩⟩
  match i, hi with
  | 0, _ => simp [go_sem, nth, Addr.add]
  | 1, _ => simp [go_sem, nth, Addr.add]
theorem areF_two (l : List Int) (a b : Int) : areF l [a, b] = (isSetB l a && isSetB l b) := by
  unfold areF
  cases h : isSetB l a
  · simp [h]
  · simp [h, isSetB_grp h]
--%call areSetsV 154 ext areSets_val _ _ _ _ _ ({0}) ({1}) ({2})
theorem areSets_val (v u : Value) (l xs : List Int) (w : World) (h : Ints w v l) (k : Ints w u xs) {b : Bool} (hb : areF l xs = b) :
    Calls Try.prog 154 #[.agg #[v], u] w fun e w' => e = .returned (.bool b) ∧ Ext w w' := by
  subst hb; exact areSets_any v u l xs w h k
/-- whether the shifts of a by x fill the group -/
def covF (l : List Int) (a x : Int) : Bool := isSetB l a && isSetB l x && decide ((sumF l a.toNat x.toNat : Int) = fullF l)
theorem covF_no {l : List Int} {a x : Int} (h : (isSetB l a && isSetB l x) = false) : covF l a x = false := by unfold covF; rw [h]; rfl
theorem covF_yes {l : List Int} {a x : Nat} (h : (isSetB l a && isSetB l x) = true) : covF l a x = ((sumF l a x : Int) == fullF l) := by
  unfold covF; rw [h, Bool.eq_iff_iff]; simp
set_option maxHeartbeats 4000000 in
--%call IsCovering 51 ext IsCovering_any _ _ _ _ _ ({0})
theorem IsCovering_any (v : Value) (l : List Int) (a x : Int) (w : World) (h : Ints w v l) :
    Calls Try.prog 51 #[.agg #[v], .int .i64 a, .int .i64 x] w fun e w' => e = .returned (.bool (covF l a x)) ∧ Ext w w' := by
  obtain ⟨wb, hwb⟩ : ∃ wb, wb = w.alloc (.cells #[v] 31) := ⟨_, rfl⟩
  have hE0 := (Ext.refl w).alloc (.cells #[v] 31)
  have hb := box_cell w v 31
  rw [← hwb] at hE0 hb
  have hg : ∀ W, Ext wb W → Ints W v l := fun W hW => h.ext (hE0.trans hW)
  have hE := Ext.refl wb
  have Hwb := Lib.hid hwb
  clear hwb h
  have har := areF_two l a x
  cases hs : (isSetB l a && isSetB l x)
  · have Hs := Lib.hid (covF_no hs)
    rw [hs] at har
    clear hs
    go_enter Try.func51, Try.ntmps51
    go_wp2_with fail
    rw [← Hwb.out]
    have hbx := hb wb hE
    have hlt : w.heap.size < wb.heap.size := by rw [Hwb.out]; simp [go_sem]
    first | (go_region_with (go_at_call 154; (with_reducible refine Calls.mono (areSets_val _ _ _ _ _ (hg _ (by repeat (first | assumption | exact Ext.refl _ | (apply And.left; assumption) | apply Ext.drew | apply Ext.alloc))) ((ints_two _ _ _ _).ext (by repeat (first | assumption | exact Ext.refl _ | (apply And.left; assumption) | apply Ext.drew | apply Ext.alloc))) har) ?_); rintro e w1 ⟨rfl, hX⟩; replace hX := Ext.trans (a := wb) (by repeat (first | assumption | exact Ext.refl _ | (apply And.left; assumption) | apply Ext.drew | apply Ext.alloc)) hX)) | (fail "the region")
    all_goals (go_wp2_with fail; go_ret; exact ⟨ret_bool Hs.out.symm, hE0.trans (by repeat (first | assumption | exact Ext.refl _ | (apply And.left; assumption) | apply Ext.drew | apply Ext.alloc))⟩)
  · obtain ⟨ha, hx⟩ := Bool.and_eq_true_iff.1 hs
    obtain ⟨a, rfl, -, ha, hgr⟩ := isSetB_nat ha
    obtain ⟨x, rfl, -, hx, -⟩ := isSetB_nat hx
    have Hs := Lib.hid (covF_yes hs)
    rw [hs] at har
    have Hgr := Lib.hid hgr
    clear hs hgr
    cases hq : ((sumF l a x : Int) == fullF l)
    all_goals
      go_enter Try.func51, Try.ntmps51
      go_wp2_with fail
      rw [← Hwb.out]
      have hD := (Ext.refl (wb)).drew
      first | (go_region_held3 (fun W => Ext (wb) W ∧ W.cell? ⟨w.heap.size, 0, none⟩ = some v) (exact ⟨(by repeat (first | assumption | exact Ext.refl _ | (apply And.left; assumption) | apply Ext.drew | apply Ext.alloc)), hb _ (by repeat (first | assumption | exact Ext.refl _ | (apply And.left; assumption) | apply Ext.drew | apply Ext.alloc))⟩) (first | (go_at_call 154; ((with_reducible refine Calls.mono (areSets_val _ _ _ _ _ (hg _ (by repeat (first | assumption | exact Ext.refl _ | (apply And.left; assumption) | apply Ext.drew | apply Ext.alloc))) ((ints_two _ _ _ _).ext (by repeat (first | assumption | exact Ext.refl _ | (apply And.left; assumption) | apply Ext.drew | apply Ext.alloc))) har) ?_); rintro e wH0 ⟨rfl, hX0⟩; have hH0 := Ext.trans (a := wb) (by repeat (first | assumption | exact Ext.refl _ | (apply And.left; assumption) | apply Ext.drew | apply Ext.alloc)) hX0)) | (go_at_call 140; ((with_reducible refine Calls.mono (sum_any _ _ _ _ _ (hg _ (by repeat (first | assumption | exact Ext.refl _ | (apply And.left; assumption) | apply Ext.drew | apply Ext.alloc))) Hgr ha hx) ?_); rintro e wH1 ⟨rfl, hX1⟩; have hH1 := Ext.trans (a := wb) (by repeat (first | assumption | exact Ext.refl _ | (apply And.left; assumption) | apply Ext.drew | apply Ext.alloc)) hX1)) | (go_at_call 149; ((with_reducible refine Calls.mono (FullSet_any _ _ _ (hg _ (by repeat (first | assumption | exact Ext.refl _ | (apply And.left; assumption) | apply Ext.drew | apply Ext.alloc)))) ?_); rintro e wH2 ⟨rfl, hX2⟩; have hH2 := Ext.trans (a := wb) (by repeat (first | assumption | exact Ext.refl _ | (apply And.left; assumption) | apply Ext.drew | apply Ext.alloc)) hX2)))) | (fail "the region with calls")
      all_goals (go_wp2_with fail; go_ret; exact ⟨ret_bool (by rw [Hs.out, hq]), hE0.trans (by repeat (first | assumption | exact Ext.refl _ | (apply And.left; assumption) | apply Ext.drew | apply Ext.alloc))⟩)
end Go.Zz

/- Coverings (the reference), small doubling, sizes of intersections. -/
namespace Go.Zz
open Go.RowKit Go.Proofs
set_option maxHeartbeats 400000
--%call IsSetV 134 ext IsSet_val _ _ _ _ ({0}) ({1})
theorem IsSet_val (v : Value) (l : List Int) (a : Int) (w : World) (h : Ints w v l) {b : Bool} (hb : isSetB l a = b) :
    Calls Try.prog 134 #[.agg #[v], .int .i64 a] w fun e w' => e = .returned (.bool b) ∧ Ext w w' := by
  subst hb; exact IsSet_any v l a w h
--%call sIsSetV 141 ext sIsSet_val _ _ _ _ ({0}) ({1})
theorem sIsSet_val (v : Value) (l : List Int) (a : Int) (w : World) (h : Ints w v l) {b : Bool} (hb : isSetB l a = b) :
    Calls Try.prog 141 #[.agg #[v], .int .i64 a] w fun e w' => e = .returned (.bool b) ∧ Ext w w' := by
  subst hb; exact sIsSet_any v l a w h



--%call sIsCovering 64 ext sIsCovering_any _ _ _ _ _ ({0})
theorem sIsCovering_any (v : Value) (l : List Int) (a x : Int) (w : World) (h : Ints w v l) :
    Calls Try.prog 64 #[.agg #[v], .int .i64 a, .int .i64 x] w fun e w' => e = .returned (.bool (covF l a x)) ∧ Ext w w' := by
  obtain ⟨wb, hwb⟩ : ∃ wb, wb = w.alloc (.cells #[v] 31) := ⟨_, rfl⟩
  have hE0 := (Ext.refl w).alloc (.cells #[v] 31)
  have hb := box_cell w v 31
  rw [← hwb] at hE0 hb
  have hg : ∀ W, Ext wb W → Ints W v l := fun W hW => h.ext (hE0.trans hW)
  have hE := Ext.refl wb
  have Hsz : Hid (w.heap.size + 1 = wb.heap.size) := Lib.hid (by rw [hwb]; simp [go_sem])
  have Hwb := Lib.hid hwb
  clear hwb h
  have hbx := fun U => hb _ (lat_ext wb U)
  cases hs1 : isSetB l a
  · have Hs := Lib.hid (covF_no (l := l) (a := a) (x := x) (by rw [hs1]; rfl))
    go_enter Try.func64, Try.ntmps64
    go_wp2_with fail
    rw [← Hwb.out]
    (refine wp_region_lat (wb) (by kernel_rfl) (by kernel_rfl) hE ?_); (repeat (go_big_quiet_step (first | (go_at_call 141; exact Calls.lat (sIsSet_val _ _ _ _ (hg _ (lat_ext wb _)) (hs1)))))); (refine wpQuiet_nil ?_); (intro W hE'); (replace hE := lat_of hE'); (clear hE')
    go_wp2_with fail
    go_ret
    exact ⟨ret_bool Hs.out.symm, hE0.trans hE⟩
  · cases hs2 : isSetB l x
    · have Hs := Lib.hid (covF_no (l := l) (a := a) (x := x) (by rw [hs2]; simp))
      go_enter Try.func64, Try.ntmps64
      go_wp2_with fail
      rw [← Hwb.out]
      (refine wp_region_lat (wb) (by kernel_rfl) (by kernel_rfl) hE ?_); (repeat (go_big_quiet_step (first | (go_at_call 141; first | with_reducible exact Calls.lat (sIsSet_val _ _ a _ (hg _ (lat_ext wb _)) hs1) | with_reducible exact Calls.lat (sIsSet_val _ _ x _ (hg _ (lat_ext wb _)) hs2))))); (refine wpQuiet_nil ?_); (intro W hE'); (replace hE := lat_of hE'); (clear hE')
      go_wp2_with fail
      go_ret
      exact ⟨ret_bool Hs.out.symm, hE0.trans hE⟩
    · obtain ⟨a, rfl, -, ha, hgr⟩ := isSetB_nat hs1
      obtain ⟨x, rfl, -, hx, -⟩ := isSetB_nat hs2
      have Hs := Lib.hid (covF_yes (l := l) (a := a) (x := x) (by rw [hs1, hs2]; rfl))
      have Hf := Lib.hid (fullF_t hgr)
      have Hgr := Lib.hid hgr
      have hb1 := ord_bd hgr
      have hp1 := pw_pos (ord l)
      have hp2 := pw_le hb1.2
      have hs3 := ishl_one (n := ord l) (by omega)
      clear hgr
      go_enter Try.func64, Try.ntmps64
      go_wp2_with fail
      rw [← Hwb.out]
      (refine wp_region_lat (wb) (by kernel_rfl) (by kernel_rfl) hE ?_); (repeat (go_big_quiet_step (first | (go_at_call 141; first | with_reducible exact Calls.lat (sIsSet_val _ _ (a : Int) _ (hg _ (lat_ext wb _)) hs1) | with_reducible exact Calls.lat (sIsSet_val _ _ (x : Int) _ (hg _ (lat_ext wb _)) hs2)) | (go_at_call 142; exact Calls.lat (l4Sum_any _ _ _ _ _ (hg _ (lat_ext wb _)) (Hgr) (ha) (hx))) | (go_at_call 106; exact Calls.lat (l2Order_any _ _ _ (hg _ (lat_ext wb _)) (Hgr)))))); (refine wpQuiet_nil ?_); (intro W hE'); (replace hE := lat_of hE'); (clear hE')
      go_wp2_with fail
      go_ret
      exact ⟨ret_bool (by rw [Hs.out, Hf.out]), hE0.trans hE⟩

/-- whether twice the size of a + a is less than three times that of a -/
def smallF (l : List Int) (a : Int) : Bool := isSetB l a && decide (a ≠ 0) && decide (2 * cnt (sumF l a.toNat a.toNat) < 3 * cnt a.toNat)
theorem smallF_no {l : List Int} {a : Int} (h : isSetB l a = false) : smallF l a = false := by unfold smallF; rw [h]; rfl
theorem smallF_zero (l : List Int) : smallF l 0 = false := by unfold smallF; simp
theorem smallF_yes {l : List Int} {n : Nat} (h : isSetB l n = true) (h0 : 0 < n) : smallF l n = decide (2 * (cnt (sumF l n n) : Int) < 3 * (cnt n : Int)) := by
  unfold smallF
  rw [h, Bool.eq_iff_iff]
  simp
  omega

/-- the sizes of the intersections of a with the shifts of b -/
def interTo (l : List Int) (a b k : Nat) : List Int := castL ((List.range k).map (fun x => cnt (a &&& shiftF l b x)))
def interF (l : List Int) (a b : Int) : List Int := if isSetB l a && isSetB l b then interTo l a.toNat b.toNat (ord l) else []
theorem interTo_zero (l : List Int) (a b : Nat) : interTo l a b 0 = [] := rfl
theorem interTo_succ (l : List Int) (a b k : Nat) : interTo l a b (k + 1) = interTo l a b k ++ [(cnt (a &&& shiftF l b k) : Int)] := by
  unfold interTo; rw [List.range_succ, List.map_append]; exact castL_snoc _ _
theorem interTo_len (l : List Int) (a b k : Nat) : (interTo l a b k).length = k := by simp [interTo, castL]
theorem interF_no {l : List Int} {a b : Int} (h : (isSetB l a && isSetB l b) = false) : interF l a b = [] := by unfold interF; rw [h]; rfl
theorem interF_yes {l : List Int} {a b : Nat} (h : (isSetB l a && isSetB l b) = true) : interF l a b = interTo l a b (ord l) := by unfold interF; rw [h]; rfl
theorem IntersectionSizes_any (v : Value) (l : List Int) (a b : Int) (w : World) (h : Ints w v l) :
    Calls Try.prog 58 #[.agg #[v], .int .i64 a, .int .i64 b] w fun e w' => ∃ u, e = .returned u ∧ Own 3 w w' u (interF l a b) ∧ Ext w w' := by
  obtain ⟨wb, hwb⟩ : ∃ wb, wb = w.alloc (.cells #[v] 31) := ⟨_, rfl⟩
  have hE0 := (Ext.refl w).alloc (.cells #[v] 31)
  have hb := box_cell w v 31
  rw [← hwb] at hE0 hb
  have hg : ∀ W, Ext wb W → Ints W v l := fun W hW => h.ext (hE0.trans hW)
  have hE := Ext.refl wb
  have Hsz : Hid (w.heap.size + 1 = wb.heap.size) := Lib.hid (by rw [hwb]; simp [go_sem])
  have Hwb := Lib.hid hwb
  clear hwb h
  obtain ⟨wc, hwc⟩ : ∃ wc, wc = wb.alloc (.cells #[] 3) := ⟨_, rfl⟩
  have hO : Own 3 wb wc (.slice (some ⟨wb.heap.size, 0, none⟩) 0 0) [] := by rw [hwc]; exact own_made (by omega) hE [] rfl
  replace hE : Ext wb wc := by rw [hwc]; exact hE.alloc _
  have Hsz2 : Hid (wb.heap.size + 1 = wc.heap.size) := Lib.hid (by rw [hwc]; simp [go_sem])
  have Hwc := Lib.hid hwc
  clear hwc
  have har := areF_two l a b
  cases hs : (isSetB l a && isSetB l b)
  · have Hs := Lib.hid (interF_no hs)
    rw [hs] at har
    clear hs
    go_enter Try.func58, Try.ntmps58
    go_wp2_with fail
    rw [← Hwb.out, ← Hwc.out]; rw [Hsz.out]; try rw [Hsz2.out]
    go_wp2_with (first | (go_at_call 154; refine Calls.mono (areSets_val _ _ _ _ _ (hg _ (by repeat (first | assumption | exact Ext.refl _ | (apply And.left; assumption) | apply Ext.drew | apply Ext.alloc))) (ints_two _ _ _ _) har) ?_; rintro e w' ⟨rfl, hE'⟩; replace hO := hO.ext (Ext.trans (by repeat (first | assumption | exact Ext.refl _ | (apply And.left; assumption) | apply Ext.drew | apply Ext.alloc)) hE'); replace hE := hE.trans (Ext.trans (by repeat (first | assumption | exact Ext.refl _ | (apply And.left; assumption) | apply Ext.drew | apply Ext.alloc)) hE'); clear hE'))
    go_ret
    exact ⟨_, rfl, by rw [Hs.out]; exact hO.mono hE0, hE0.trans hE⟩
  · obtain ⟨h1, h2⟩ := Bool.and_eq_true_iff.1 hs
    obtain ⟨a, rfl, -, ha, hgr⟩ := isSetB_nat h1
    obtain ⟨b, rfl, -, hb', -⟩ := isSetB_nat h2
    have Hs := Lib.hid (interF_yes hs)
    rw [hs] at har
    have Hgr := Lib.hid hgr
    have hord := ordF_t hgr
    have hob := ord_bd hgr
    clear hs hgr h1 h2
    go_enter Try.func58, Try.ntmps58
    go_wp2_with fail
    rw [← Hwb.out, ← Hwc.out]; rw [Hsz.out]; try rw [Hsz2.out]
    go_wp2_with (first | (go_at_call 154; refine Calls.mono (areSets_val _ _ _ _ _ (hg _ (by repeat (first | assumption | exact Ext.refl _ | (apply And.left; assumption) | apply Ext.drew | apply Ext.alloc))) (ints_two _ _ _ _) har) ?_; rintro e w' ⟨rfl, hE'⟩; replace hO := hO.ext (Ext.trans (by repeat (first | assumption | exact Ext.refl _ | (apply And.left; assumption) | apply Ext.drew | apply Ext.alloc)) hE'); replace hE := hE.trans (Ext.trans (by repeat (first | assumption | exact Ext.refl _ | (apply And.left; assumption) | apply Ext.drew | apply Ext.alloc)) hE'); clear hE') | (go_at_call 114; refine (OrderOf_any _ _ _ (hg _ hE)).mono ?_; rintro e w' ⟨rfl, hE'⟩; replace hO := hO.ext (Ext.trans (by repeat (first | assumption | exact Ext.refl _ | (apply And.left; assumption) | apply Ext.drew | apply Ext.alloc)) hE'); replace hE := hE.trans (Ext.trans (by repeat (first | assumption | exact Ext.refl _ | (apply And.left; assumption) | apply Ext.drew | apply Ext.alloc)) hE'); clear hE'))
    go_loopw [7, 19] (fun u x wr => ∃ k : Nat, k ≤ ord l ∧ x = .int .i64 k ∧ Own 3 wb wr u (interTo l a b k) ∧ Ext wb wr) (fun _ x _ => ord l - (intOf x).toNat)
    case atStart => exact ⟨0, by omega, rfl, hO, hE⟩
    case round =>
      clear hE hO
      obtain ⟨k, hk, rfl, hO, hE⟩ := hrel
      have hbx := hb _ hE
      by_cases hlt : k < ord l
      · have hln : (interTo l a b k).length ≤ 24 := by rw [interTo_len]; omega
        have hsb := shiftF_bd Hgr.out b k
        have hand := iand_nat (a := a) (b := shiftF l b k) (by omega) (by omega)
        have hcb : a &&& shiftF l b k < 2 ^ 24 := Nat.and_lt_two_pow _ hsb
        have Hn := Lib.hid (interTo_succ l a b k)
        go_wp2_with (first | (go_at_call 153; refine (shift_any _ _ _ _ _ (hg _ hE) (Hgr) (hb') ((by omega))).mono ?_; rintro e w' ⟨rfl, hE'⟩; replace hO := hO.ext (Ext.trans (by repeat (first | assumption | exact Ext.refl _ | (apply And.left; assumption) | apply Ext.drew | apply Ext.alloc)) hE'); replace hE := hE.trans (Ext.trans (by repeat (first | assumption | exact Ext.refl _ | (apply And.left; assumption) | apply Ext.drew | apply Ext.alloc)) hE'); clear hE') | (go_at_call 150; refine (bits_any _ (hcb) _).mono ?_; rintro e w' ⟨rfl, rfl⟩) | (at_builtin; refine wp_append1 slI rfl _ _ rfl wb _ _ _ _ hO hE (by omega) rfl rfl ?_; intro v1 w1 hO1 hE1))
        go_roundw
        case rel => exact ⟨k + 1, by omega, by go_num, by rw [Hn.out]; exact hO1, hE1⟩
        case measure => (simp [intOf]; omega)
      · have hkl : k = ord l := by omega
        subst hkl
        go_wp2_with fail
        go_ret
        exact ⟨_, rfl, by rw [Hs.out]; exact hO.mono hE0, hE0.trans hE⟩
theorem sIntersectionSizes_any (v : Value) (l : List Int) (a b : Int) (w : World) (h : Ints w v l) :
    Calls Try.prog 61 #[.agg #[v], .int .i64 a, .int .i64 b] w fun e w' => ∃ u, e = .returned u ∧ Own 3 w w' u (interF l a b) ∧ Ext w w' := by
  obtain ⟨wb, hwb⟩ : ∃ wb, wb = w.alloc (.cells #[v] 31) := ⟨_, rfl⟩
  have hE0 := (Ext.refl w).alloc (.cells #[v] 31)
  have hb := box_cell w v 31
  rw [← hwb] at hE0 hb
  have hg : ∀ W, Ext wb W → Ints W v l := fun W hW => h.ext (hE0.trans hW)
  have hE := Ext.refl wb
  have Hsz : Hid (w.heap.size + 1 = wb.heap.size) := Lib.hid (by rw [hwb]; simp [go_sem])
  have Hwb := Lib.hid hwb
  clear hwb h
  obtain ⟨wc, hwc⟩ : ∃ wc, wc = wb.alloc (.cells #[] 3) := ⟨_, rfl⟩
  have hO : Own 3 wb wc (.slice (some ⟨wb.heap.size, 0, none⟩) 0 0) [] := by rw [hwc]; exact own_made (by omega) hE [] rfl
  replace hE : Ext wb wc := by rw [hwc]; exact hE.alloc _
  have Hsz2 : Hid (wb.heap.size + 1 = wc.heap.size) := Lib.hid (by rw [hwc]; simp [go_sem])
  have Hwc := Lib.hid hwc
  clear hwc
  cases hs : (isSetB l a && isSetB l b)
  · have Hs := Lib.hid (interF_no hs)
    cases h1 : isSetB l a
    · go_enter Try.func61, Try.ntmps61
      go_wp2_with fail
      rw [← Hwb.out, ← Hwc.out]; rw [Hsz.out]; try rw [Hsz2.out]
      go_wp2_with (first | (go_at_call 141; refine Calls.mono (sIsSet_val _ _ _ _ (hg _ (by repeat (first | assumption | exact Ext.refl _ | (apply And.left; assumption) | apply Ext.drew | apply Ext.alloc))) h1) ?_; rintro e w' ⟨rfl, hE'⟩; replace hO := hO.ext (Ext.trans (by repeat (first | assumption | exact Ext.refl _ | (apply And.left; assumption) | apply Ext.drew | apply Ext.alloc)) hE'); replace hE := hE.trans (Ext.trans (by repeat (first | assumption | exact Ext.refl _ | (apply And.left; assumption) | apply Ext.drew | apply Ext.alloc)) hE'); clear hE'))
      go_ret
      exact ⟨_, rfl, by rw [Hs.out]; exact hO.mono hE0, hE0.trans hE⟩
    · have h2 : isSetB l b = false := by simpa [h1] using hs
      clear hs
      go_enter Try.func61, Try.ntmps61
      go_wp2_with fail
      rw [← Hwb.out, ← Hwc.out]; rw [Hsz.out]; try rw [Hsz2.out]
      go_wp2_with (first | (go_at_call 141; (first | (with_reducible refine Calls.mono (sIsSet_val _ _ a _ (hg _ (by repeat (first | assumption | exact Ext.refl _ | (apply And.left; assumption) | apply Ext.drew | apply Ext.alloc))) h1) ?_) | (with_reducible refine Calls.mono (sIsSet_val _ _ b _ (hg _ (by repeat (first | assumption | exact Ext.refl _ | (apply And.left; assumption) | apply Ext.drew | apply Ext.alloc))) h2) ?_)); rintro e w' ⟨rfl, hE'⟩; replace hO := hO.ext (Ext.trans (by repeat (first | assumption | exact Ext.refl _ | (apply And.left; assumption) | apply Ext.drew | apply Ext.alloc)) hE'); replace hE := hE.trans (Ext.trans (by repeat (first | assumption | exact Ext.refl _ | (apply And.left; assumption) | apply Ext.drew | apply Ext.alloc)) hE'); clear hE'))
      go_ret
      exact ⟨_, rfl, by rw [Hs.out]; exact hO.mono hE0, hE0.trans hE⟩
  · obtain ⟨h1, h2⟩ := Bool.and_eq_true_iff.1 hs
    obtain ⟨a, rfl, -, ha, hgr⟩ := isSetB_nat h1
    obtain ⟨b, rfl, -, hb', -⟩ := isSetB_nat h2
    have Hs := Lib.hid (interF_yes hs)
    have Hgr := Lib.hid hgr
    have hob := ord_bd hgr
    clear hs hgr
    go_enter Try.func61, Try.ntmps61
    go_wp2_with fail
    rw [← Hwb.out, ← Hwc.out]; rw [Hsz.out]; try rw [Hsz2.out]
    go_wp2_with (first | (go_at_call 141; (first | (with_reducible refine Calls.mono (sIsSet_val _ _ (a : Int) _ (hg _ (by repeat (first | assumption | exact Ext.refl _ | (apply And.left; assumption) | apply Ext.drew | apply Ext.alloc))) h1) ?_) | (with_reducible refine Calls.mono (sIsSet_val _ _ (b : Int) _ (hg _ (by repeat (first | assumption | exact Ext.refl _ | (apply And.left; assumption) | apply Ext.drew | apply Ext.alloc))) h2) ?_)); rintro e w' ⟨rfl, hE'⟩; replace hO := hO.ext (Ext.trans (by repeat (first | assumption | exact Ext.refl _ | (apply And.left; assumption) | apply Ext.drew | apply Ext.alloc)) hE'); replace hE := hE.trans (Ext.trans (by repeat (first | assumption | exact Ext.refl _ | (apply And.left; assumption) | apply Ext.drew | apply Ext.alloc)) hE'); clear hE'))
    clear h1 h2
    go_loopw [7, 8] (fun u x wr => ∃ k : Nat, k ≤ ord l ∧ x = .int .i64 k ∧ Own 3 wb wr u (interTo l a b k) ∧ Ext wb wr) (fun _ x _ => ord l - (intOf x).toNat)
    case atStart => exact ⟨0, by omega, rfl, hO, hE⟩
    case round =>
      clear hE hO
      obtain ⟨k, hk, rfl, hO, hE⟩ := hrel
      have hbx := hb _ hE
      by_cases hlt : k < ord l
      · have hln : (interTo l a b k).length ≤ 24 := by rw [interTo_len]; omega
        have hsb := shiftF_bd Hgr.out b k
        have hand := iand_nat (a := a) (b := shiftF l b k) (by omega) (by omega)
        have hcb : a &&& shiftF l b k < 2 ^ 24 := Nat.and_lt_two_pow _ hsb
        have Hn := Lib.hid (interTo_succ l a b k)
        go_wp2_with (first | (go_at_call 106; refine (l2Order_any _ _ _ (hg _ hE) (Hgr)).mono ?_; rintro e w' ⟨rfl, hE'⟩; replace hO := hO.ext (Ext.trans (by repeat (first | assumption | exact Ext.refl _ | (apply And.left; assumption) | apply Ext.drew | apply Ext.alloc)) hE'); replace hE := hE.trans (Ext.trans (by repeat (first | assumption | exact Ext.refl _ | (apply And.left; assumption) | apply Ext.drew | apply Ext.alloc)) hE'); clear hE') | (go_at_call 156; refine (l3Shift_any _ _ _ _ _ (hg _ hE) (Hgr) (hb') ((by omega))).mono ?_; rintro e w' ⟨rfl, hE'⟩; replace hO := hO.ext (Ext.trans (by repeat (first | assumption | exact Ext.refl _ | (apply And.left; assumption) | apply Ext.drew | apply Ext.alloc)) hE'); replace hE := hE.trans (Ext.trans (by repeat (first | assumption | exact Ext.refl _ | (apply And.left; assumption) | apply Ext.drew | apply Ext.alloc)) hE'); clear hE') | (go_at_call 151; refine (l3Bits_any _ (hcb) _).mono ?_; rintro e w' ⟨rfl, rfl⟩) | (at_builtin; refine wp_append1 slI rfl _ _ rfl wb _ _ _ _ hO hE (by omega) rfl rfl ?_; intro v1 w1 hO1 hE1))
        go_roundw
        case rel => exact ⟨k + 1, by omega, by go_num, by rw [Hn.out]; exact hO1, hE1⟩
        case measure => (simp [intOf]; omega)
      · have hkl : k = ord l := by omega
        subst hkl
        go_wp2_with (first | (go_at_call 106; refine (l2Order_any _ _ _ (hg _ hE) (Hgr)).mono ?_; rintro e w' ⟨rfl, hE'⟩; replace hO := hO.ext (Ext.trans (by repeat (first | assumption | exact Ext.refl _ | (apply And.left; assumption) | apply Ext.drew | apply Ext.alloc)) hE'); replace hE := hE.trans (Ext.trans (by repeat (first | assumption | exact Ext.refl _ | (apply And.left; assumption) | apply Ext.drew | apply Ext.alloc)) hE'); clear hE'))
        go_ret
        exact ⟨_, rfl, by rw [Hs.out]; exact hO.mono hE0, hE0.trans hE⟩
end Go.Zz

/- The greedy translates. -/
namespace Go.Zz
open Go.RowKit Go.Proofs
set_option maxHeartbeats 400000

theorem fullF_n {l : List Int} (h : isGrp l = true) : fullF l = (fullN l : Int) := by
  rw [fullF_t h]; unfold fullN; have := pw_pos (ord l); omega
--%call FullSetN 149 ext FullSet_grp _ _ _ ({0}) ({1})
theorem FullSet_grp (v : Value) (l : List Int) (w : World) (h : Ints w v l) (Hgr : Hid (isGrp l = true)) :
    Calls Try.prog 149 #[.agg #[v]] w fun e w' => e = .returned (.int .i64 (fullN l)) ∧ Ext w w' := by
  rw [← fullF_n Hgr.out]; exact FullSet_any v l w h
--%call OrderOfN 114 ext OrderOf_grp _ _ _ ({0}) ({1})
theorem OrderOf_grp (v : Value) (l : List Int) (w : World) (h : Ints w v l) (Hgr : Hid (isGrp l = true)) :
    Calls Try.prog 114 #[.agg #[v]] w fun e w' => e = .returned (.int .i64 (ord l : Int)) ∧ Ext w w' := by
  rw [← ordF_t Hgr.out]; exact OrderOf_any v l w h

theorem GreedyTranslates_any (v : Value) (l : List Int) (a : Int) (w : World) (h : Ints w v l) :
    Calls Try.prog 49 #[.agg #[v], .int .i64 a] w fun e w' => e = .returned (.tuple #[.int .i64 (greedyF l a), .bool (isOneB l a)]) ∧ Ext w w' := by
  obtain ⟨wb, hwb⟩ : ∃ wb, wb = w.alloc (.cells #[v] 31) := ⟨_, rfl⟩
  have hE0 := (Ext.refl w).alloc (.cells #[v] 31)
  have hb := box_cell w v 31
  rw [← hwb] at hE0 hb
  have hg : ∀ W, Ext wb W → Ints W v l := fun W hW => h.ext (hE0.trans hW)
  have hE := Ext.refl wb
  have Hsz : Hid (w.heap.size + 1 = wb.heap.size) := Lib.hid (by rw [hwb]; simp [go_sem])
  have Hwb := Lib.hid hwb
  clear hwb h
  have hbx := hb wb hE
  cases hs : isSetB l a
  · have Hs := Lib.hid (isOneB_no hs)
    have Hs2 := Lib.hid (greedyF_no (isOneB_no hs))
    go_enter Try.func49, Try.ntmps49
    go_wp2_with fail
    rw [← Hwb.out]
    go_wp2_with (first | (go_at_call 134; refine (IsSet_any _ _ _ _ (hg _ hE)).mono ?_; rintro e w' ⟨rfl, hE'⟩; replace hE := hE.trans hE'; clear hE'))
    refine bodyPost_ret (v := .tuple #[.int .i64 0, .bool false]) (by simp [results, Try.results49, go_sem]) rfl ⟨by rw [Hs.out, Hs2.out], hE0.trans hE⟩
  · obtain ⟨n, rfl, h1, h2, hgr⟩ := isSetB_nat hs
    by_cases h0 : n = 0
    · subst h0
      have Hs := Lib.hid (isOneB_zero l)
      have Hs2 := Lib.hid (greedyF_no (isOneB_zero l))
      go_enter Try.func49, Try.ntmps49
      go_wp2_with fail
      rw [← Hwb.out]
      go_wp2_with (first | (go_at_call 134; refine (IsSet_any _ _ _ _ (hg _ hE)).mono ?_; rintro e w' ⟨rfl, hE'⟩; replace hE := hE.trans hE'; clear hE'))
      refine bodyPost_ret (v := .tuple #[.int .i64 0, .bool false]) (by simp [results, Try.results49, go_sem]) rfl ⟨by have := Hs.out; have := Hs2.out; simp_all, hE0.trans hE⟩
    · have Hs := Lib.hid (isOneB_yes hs (by omega))
      have Hs2 := Lib.hid (greedyF_yes Hs.out)
      have hne := Lib.hid h0
      have hn1 := Lib.hid h1
      have h0' : ((n : Int) == 0) = false := by simp; omega
      have Hgr := Lib.hid hgr
      have hob := ord_bd hgr
      have hfl := fullN_lt l
      have hpo := pow_ord hgr
      clear hgr h0 h1
      go_enter Try.func49, Try.ntmps49
      go_wp2_with fail
      rw [← Hwb.out]
      go_wp2_with (first | (go_at_call 134; refine (IsSet_any _ _ _ _ (hg _ hE)).mono ?_; rintro e w' ⟨rfl, hE'⟩; replace hE := hE.trans hE'; clear hE'))
      clear hs h0'
      go_loopw [6, 7] (fun ov cv wr => ∃ out c N : Nat, out < 2 ^ 24 ∧ c < 2 ^ ord l ∧ andN (fullN l) c ≤ N ∧ greedyN l n N out (andN (fullN l) c) = greedyN l n (fullN l) 0 (fullN l) ∧ ov = .int .i64 out ∧ cv = .int .i64 c ∧ Ext wb wr) (fun _ c _ => andN (fullN l) (intOf c).toNat)
      case atStart => exact ⟨0, 0, fullN l, by omega, by omega, by rw [left_start]; omega, by rw [left_start], rfl, rfl, hE⟩
      case round =>
        clear hE
        obtain ⟨out, c, N, ho, hc, hN, hG, rfl, rfl, hE⟩ := hrel
        have hbx := hb _ hE
        have HG := Lib.hid hG
        clear hG
        by_cases hend : c = fullN l
        · have hz := Lib.hid ((left_zero hc).2 hend)
          have hq : ((c : Int) != (fullN l : Int)) = false := by simp [hend]
          clear hend
          go_wp2_with (first | (go_at_call 149; refine (FullSet_grp _ _ _ (hg _ hE) (Hgr)).mono ?_; rintro e w' ⟨rfl, hE'⟩; replace hE := hE.trans hE'; clear hE'))
          have hres : Hid (greedyN l n (fullN l) 0 (fullN l) = out) := Lib.hid (by have := HG.out; rw [hz.out, greedyN_end] at this; exact this.symm)
          refine bodyPost_ret (v := .tuple #[.int .i64 out, .bool true]) (by simp [results, Try.results49, go_sem]) rfl ⟨by rw [Hs.out, Hs2.out, hres.out], hE0.trans hE⟩
        · have hq : ((c : Int) != (fullN l : Int)) = true := by simp; omega
          have Hnz : Hid (andN (fullN l) c ≠ 0) := Lib.hid fun e => hend ((left_zero hc).1 e)
          have hal := andN_lt (b := c) hfl
          clear hend
          go_wp2_with (first | (go_at_call 149; refine (FullSet_grp _ _ _ (hg _ hE) (Hgr)).mono ?_; rintro e w' ⟨rfl, hE'⟩; replace hE := hE.trans hE'; clear hE') | (go_at_call 114; refine (OrderOf_grp _ _ _ (hg _ hE) (Hgr)).mono ?_; rintro e w' ⟨rfl, hE'⟩; replace hE := hE.trans hE'; clear hE'))
          clear hq
          go_loopw [8, 9, 26] (fun bv mv xv wr => ∃ k : Nat, k ≤ ord l ∧ xv = .int .i64 k ∧ bv = .int .i64 ((bmI (gain l n (andN (fullN l) c)) k).1 : Int) ∧ mv = .int .i64 (bmI (gain l n (andN (fullN l) c)) k).2 ∧ Ext wb wr) (fun _ _ x _ => ord l - (intOf x).toNat)
          case atStart => exact ⟨0, by omega, rfl, rfl, rfl, hE⟩
          case round =>
            clear hE hbx
            obtain ⟨k, hk, rfl, rfl, rfl, hE⟩ := hrel
            have hbx := hb _ hE
            by_cases hlt : k < ord l
            · have hsb := shiftF_bd Hgr.out n k
              have hand : iandn (shiftF l n k : Int) (c : Int) = ((andN (shiftF l n k) c : Nat) : Int) := iandn_nat (by omega) (by omega)
              have hcb : andN (shiftF l n k) c < 2 ^ 24 := andN_lt hsb
              have Hcg : Hid (cnt (andN (shiftF l n k) c) = gain l n (andN (fullN l) c) k) := Lib.hid (by rw [left_gain Hgr.out]; rfl)
              have hbb := bmI_bd (gain_le l n (andN (fullN l) c)) k
              have hg24 := gain_le l n (andN (fullN l) c) k
              have hsh : Hid (k < 24) := Lib.hid (by omega)
              by_cases hgt : (bmI (gain l n (andN (fullN l) c)) k).2 < (gain l n (andN (fullN l) c) k : Int)
              · have Hb := Lib.hid (bmI_yes hgt)
                go_wp2_with (first | (go_at_call 153; refine (shift_any _ _ _ _ _ (hg _ hE) (Hgr) (h2) (hsh.out)).mono ?_; rintro e w' ⟨rfl, hE'⟩; replace hE := hE.trans hE'; clear hE') | (go_at_call 150; refine (bits_any _ hcb _).mono ?_; rintro e w' ⟨rfl, rfl⟩; rw [Hcg.out]))
                go_roundw
                case rel => exact ⟨k + 1, by omega, by go_num, by rw [Hb.out], by rw [Hb.out], hE⟩
                case measure => (simp [intOf]; omega)
              · have Hb := Lib.hid (bmI_no hgt)
                go_wp2_with (first | (go_at_call 153; refine (shift_any _ _ _ _ _ (hg _ hE) (Hgr) (h2) (hsh.out)).mono ?_; rintro e w' ⟨rfl, hE'⟩; replace hE := hE.trans hE'; clear hE') | (go_at_call 150; refine (bits_any _ hcb _).mono ?_; rintro e w' ⟨rfl, rfl⟩; rw [Hcg.out]))
                go_roundw
                case rel => exact ⟨k + 1, by omega, by go_num, by rw [Hb.out], by rw [Hb.out], hE⟩
                case measure => (simp [intOf]; omega)
            · have hkl : k = ord l := by omega
              subst hkl
              rw [bestAt_I Hgr.out]
              have hbl := bestAt_lt Hgr.out n (andN (fullN l) c)
              have hs1 := ishl_one (n := bestAt l n (andN (fullN l) c)) (by omega)
              have hs2 := ior_pw ho (show bestAt l n (andN (fullN l) c) < 24 by omega)
              have hsb := shiftF_lt (isGrp_ords Hgr.out) n (bestAt l n (andN (fullN l) c))
              have hs3 := ior_nat (a := c) (b := shiftF l n (bestAt l n (andN (fullN l) c))) (by omega) (by omega)
              have hless := greedy_less Hgr.out hne.out hn1.out Hnz.out hal
              have Hst := Lib.hid (greedyN_step (l := l) (a := n) (n := N - 1) (out := out) Hnz.out)
              have hNp : Hid (N - 1 + 1 = N) := Lib.hid (by have := Hnz.out; omega)
              have hln := Lib.hid (left_next l (shiftF l n (bestAt l n (andN (fullN l) c))) c)
              have hsh : Hid (bestAt l n (andN (fullN l) c) < 24) := Lib.hid (by omega)
              go_wp2_with (first | (go_at_call 153; refine (shift_any _ _ _ _ _ (hg _ hE) (Hgr) (h2) (hsh.out)).mono ?_; rintro e w' ⟨rfl, hE'⟩; replace hE := hE.trans hE'; clear hE'))
              go_roundw
              case rel =>
                refine ⟨out ||| 2 ^ bestAt l n (andN (fullN l) c), c ||| shiftF l n (bestAt l n (andN (fullN l) c)), N - 1, Nat.or_lt_two_pow ho (Nat.pow_lt_pow_right (by omega) hsh.out), Nat.or_lt_two_pow hc hsb, ?_, ?_, rfl, rfl, hE⟩
                · rw [hln.out]; omega
                · rw [hln.out, ← Hst.out, hNp.out]; exact HG.out
              case measure => (simp only [intOf, Int.toNat_natCast]; rw [hln.out]; exact hless)

theorem andN_int {l : List Int} {a b : Nat} (h : a < 2 ^ ord l) : (a : Int) - ((a &&& b : Nat) : Int) = ((andN a b : Nat) : Int) := by
  have := andN_sub (ord l) a b h; omega
theorem sGreedyTranslates_any (v : Value) (l : List Int) (a : Int) (w : World) (h : Ints w v l) :
    Calls Try.prog 56 #[.agg #[v], .int .i64 a] w fun e w' => e = .returned (.tuple #[.int .i64 (greedyF l a), .bool (isOneB l a)]) ∧ Ext w w' := by
  obtain ⟨wb, hwb⟩ : ∃ wb, wb = w.alloc (.cells #[v] 31) := ⟨_, rfl⟩
  have hE0 := (Ext.refl w).alloc (.cells #[v] 31)
  have hb := box_cell w v 31
  rw [← hwb] at hE0 hb
  have hg : ∀ W, Ext wb W → Ints W v l := fun W hW => h.ext (hE0.trans hW)
  have hE := Ext.refl wb
  have Hsz : Hid (w.heap.size + 1 = wb.heap.size) := Lib.hid (by rw [hwb]; simp [go_sem])
  have Hwb := Lib.hid hwb
  clear hwb h
  have hbx := hb wb hE
  cases hs : isSetB l a
  · have Hs := Lib.hid (isOneB_no hs)
    have Hs2 := Lib.hid (greedyF_no (isOneB_no hs))
    go_enter Try.func56, Try.ntmps56
    go_wp2_with fail
    rw [← Hwb.out]
    go_wp2_with (first | (go_at_call 141; refine (sIsSet_any _ _ _ _ (hg _ hE)).mono ?_; rintro e w' ⟨rfl, hE'⟩; replace hE := hE.trans hE'; clear hE'))
    refine bodyPost_ret (v := .tuple #[.int .i64 0, .bool false]) (by simp [results, Try.results56, go_sem]) rfl ⟨by rw [Hs.out, Hs2.out], hE0.trans hE⟩
  · obtain ⟨n, rfl, h1, h2, hgr⟩ := isSetB_nat hs
    by_cases h0 : n = 0
    · subst h0
      have Hs := Lib.hid (isOneB_zero l)
      have Hs2 := Lib.hid (greedyF_no (isOneB_zero l))
      go_enter Try.func56, Try.ntmps56
      go_wp2_with fail
      rw [← Hwb.out]
      go_wp2_with (first | (go_at_call 141; refine (sIsSet_any _ _ _ _ (hg _ hE)).mono ?_; rintro e w' ⟨rfl, hE'⟩; replace hE := hE.trans hE'; clear hE'))
      refine bodyPost_ret (v := .tuple #[.int .i64 0, .bool false]) (by simp [results, Try.results56, go_sem]) rfl ⟨by have := Hs.out; have := Hs2.out; simp_all, hE0.trans hE⟩
    · have Hs := Lib.hid (isOneB_yes hs (by omega))
      have Hs2 := Lib.hid (greedyF_yes Hs.out)
      have hne := Lib.hid h0
      have hn1 := Lib.hid h1
      have h0' : ((n : Int) == 0) = false := by simp; omega
      have Hgr := Lib.hid hgr
      have hob := ord_bd hgr
      have hfl := fullN_lt l
      have hpo := pow_ord hgr
      have hp1 := pw_pos (ord l)
      have hp2 := pw_le hob.2
      have hs0 := ishl_one (n := ord l) (by omega)
      have Hful : Hid (((pw (ord l) : Nat) : Int) - 1 = (fullN l : Int)) := Lib.hid (by unfold fullN; omega)
      clear hgr h0 h1
      go_enter Try.func56, Try.ntmps56
      go_wp2_with fail
      rw [← Hwb.out]
      go_wp2_with (first | (go_at_call 141; refine (sIsSet_any _ _ _ _ (hg _ hE)).mono ?_; rintro e w' ⟨rfl, hE'⟩; replace hE := hE.trans hE'; clear hE') | (go_at_call 106; refine (l2Order_any _ _ _ (hg _ hE) (Hgr)).mono ?_; rintro e w' ⟨rfl, hE'⟩; replace hE := hE.trans hE'; clear hE'))
      rw [Hful.out]
      clear hs h0' hs0 hp1 hp2
      go_loopw [6, 7] (fun ov cv wr => ∃ out c N : Nat, out < 2 ^ 24 ∧ c < 2 ^ ord l ∧ c ≤ N ∧ greedyN l n N out c = greedyN l n (fullN l) 0 (fullN l) ∧ ov = .int .i64 out ∧ cv = .int .i64 c ∧ Ext wb wr) (fun _ c _ => (intOf c).toNat)
      case atStart => exact ⟨0, fullN l, fullN l, by omega, hfl, by omega, rfl, rfl, rfl, hE⟩
      case round =>
        clear hE
        obtain ⟨out, c, N, ho, hc, hN, hG, rfl, rfl, hE⟩ := hrel
        have hbx := hb _ hE
        have HG := Lib.hid hG
        clear hG
        by_cases hend : c = 0
        · subst hend
          go_wp2_with fail
          have hres : Hid (greedyN l n (fullN l) 0 (fullN l) = out) := Lib.hid (by have := HG.out; rw [greedyN_end] at this; exact this.symm)
          refine bodyPost_ret (v := .tuple #[.int .i64 out, .bool true]) (by simp [results, Try.results56, go_sem]) rfl ⟨by rw [Hs.out, Hs2.out, hres.out], hE0.trans hE⟩
        · have Hnz : Hid (c ≠ 0) := Lib.hid hend
          have hcp : 0 < (c : Int) := by omega
          have hcn : 0 < c := by omega
          clear hend
          go_wp2_with fail
          go_loopw [8, 9, 10] (fun bv mv xv wr => ∃ k : Nat, k ≤ ord l ∧ xv = .int .i64 k ∧ bv = .int .i64 ((bm (gain l n c) k).1 : Int) ∧ mv = .int .i64 ((bm (gain l n c) k).2 : Int) ∧ Ext wb wr) (fun _ _ x _ => ord l - (intOf x).toNat)
          case atStart => exact ⟨0, by omega, rfl, rfl, rfl, hE⟩
          case round =>
            clear hE hbx
            obtain ⟨k, hk, rfl, rfl, rfl, hE⟩ := hrel
            have hbx := hb _ hE
            by_cases hlt : k < ord l
            · have hsb := shiftF_bd Hgr.out n k
              have hand : iand (shiftF l n k : Int) (c : Int) = ((shiftF l n k &&& c : Nat) : Int) := iand_nat (by omega) (by omega)
              have hcb : shiftF l n k &&& c < 2 ^ 24 := Nat.lt_of_le_of_lt Nat.and_le_left hsb
              have Hcg : Hid (cnt (shiftF l n k &&& c) = gain l n c k) := Lib.hid rfl
              have hbb := bm_le (gain_le l n c) k
              have hg24 := gain_le l n c k
              have hsh : Hid (k < 24) := Lib.hid (by omega)
              by_cases hgt : (bm (gain l n c) k).2 < gain l n c k
              · have Hb := Lib.hid (bm_yes hgt)
                go_wp2_with (first | (go_at_call 106; refine (l2Order_any _ _ _ (hg _ hE) (Hgr)).mono ?_; rintro e w' ⟨rfl, hE'⟩; replace hE := hE.trans hE'; clear hE') | (go_at_call 156; refine (l3Shift_any _ _ _ _ _ (hg _ hE) (Hgr) (h2) (hsh.out)).mono ?_; rintro e w' ⟨rfl, hE'⟩; replace hE := hE.trans hE'; clear hE') | (go_at_call 151; refine (l3Bits_any _ hcb _).mono ?_; rintro e w' ⟨rfl, rfl⟩; rw [Hcg.out]))
                go_roundw
                case rel => exact ⟨k + 1, by omega, by go_num, by rw [Hb.out], by rw [Hb.out], hE⟩
                case measure => (simp [intOf]; omega)
              · have Hb := Lib.hid (bm_no hgt)
                go_wp2_with (first | (go_at_call 106; refine (l2Order_any _ _ _ (hg _ hE) (Hgr)).mono ?_; rintro e w' ⟨rfl, hE'⟩; replace hE := hE.trans hE'; clear hE') | (go_at_call 156; refine (l3Shift_any _ _ _ _ _ (hg _ hE) (Hgr) (h2) (hsh.out)).mono ?_; rintro e w' ⟨rfl, hE'⟩; replace hE := hE.trans hE'; clear hE') | (go_at_call 151; refine (l3Bits_any _ hcb _).mono ?_; rintro e w' ⟨rfl, rfl⟩; rw [Hcg.out]))
                go_roundw
                case rel => exact ⟨k + 1, by omega, by go_num, by rw [Hb.out], by rw [Hb.out], hE⟩
                case measure => (simp [intOf]; omega)
            · have hkl : k = ord l := by omega
              subst hkl
              rw [show (bm (gain l n c) (ord l)).1 = bestAt l n c from rfl]
              have hbl := bestAt_lt Hgr.out n c
              have hs1 := ishl_one (n := bestAt l n c) (by omega)
              have hs2 := ior_pw ho (show bestAt l n c < 24 by omega)
              have hsb := shiftF_lt (isGrp_ords Hgr.out) n (bestAt l n c)
              have hs3 := iand_nat (a := c) (b := shiftF l n (bestAt l n c)) (by omega) (by omega)
              have hless := greedy_less Hgr.out hne.out hn1.out Hnz.out hc
              have Hst := Lib.hid (greedyN_step (l := l) (a := n) (n := N - 1) (out := out) Hnz.out)
              have hNp : Hid (N - 1 + 1 = N) := Lib.hid (by have := Hnz.out; omega)
              have hsh : Hid (bestAt l n c < 24) := Lib.hid (by omega)
              have hle : c &&& shiftF l n (bestAt l n c) ≤ c := Nat.and_le_left
              have Hsub := Lib.hid (andN_int (b := shiftF l n (bestAt l n c)) hc)
              have Hal := Lib.hid (andN_lt (b := shiftF l n (bestAt l n c)) hc)
              go_wp2_with (first | (go_at_call 106; refine (l2Order_any _ _ _ (hg _ hE) (Hgr)).mono ?_; rintro e w' ⟨rfl, hE'⟩; replace hE := hE.trans hE'; clear hE') | (go_at_call 156; refine (l3Shift_any _ _ _ _ _ (hg _ hE) (Hgr) (h2) (hsh.out)).mono ?_; rintro e w' ⟨rfl, hE'⟩; replace hE := hE.trans hE'; clear hE'))
              go_roundw
              case rel =>
                refine ⟨out ||| 2 ^ bestAt l n c, andN c (shiftF l n (bestAt l n c)), N - 1, Nat.or_lt_two_pow ho (Nat.pow_lt_pow_right (by omega) hsh.out), Hal.out, ?_, ?_, rfl, by rw [Hsub.out], hE⟩
                · omega
                · rw [← Hst.out, hNp.out]; exact HG.out
              case measure => (simp only [intOf]; rw [Hsub.out, Int.toNat_natCast, Int.toNat_natCast]; exact hless)
end Go.Zz

/- Negatives of elements and of sets; differences of sets. -/
namespace Go.Zz
open Go.RowKit Go.Proofs
set_option maxHeartbeats 400000

theorem neg_val {x q s u : Nat} (hs : s < 24) (hq : 2 ≤ q) (hm : ((q - x % q) % q) * u ≤ 331776) :
    Value.int .i64 (wrap64 ((s : Int) + wrap64 ((((q : Int) - (x : Int) % (q : Int)) % (q : Int)) * (u : Int)))) = .int .i64 ((s + ((q - x % q) % q) * u : Nat) : Int) := by
  have h1 := Nat.mod_lt x (show 0 < q by omega)
  have e1 : (q : Int) - (x : Int) % (q : Int) = ((q - x % q : Nat) : Int) := by rw [← Int.natCast_emod]; omega
  have e2 : (((q - x % q : Nat) : Int) % (q : Int)) * (u : Int) = ((((q - x % q) % q) * u : Nat) : Int) := by rw [Int.natCast_mul, Int.natCast_emod]
  rw [e1, e2]
  generalize ((q - x % q) % q) * u = d at hm ⊢
  rw [wrapN d (by omega), ← Int.natCast_add, wrapN (s + d) (by omega)]
--%call negate 217 ext negate_any _ _ _ _ ({0}) ({1}) ({2})
theorem negate_any (v : Value) (l : List Int) (x : Nat) (w : World) (h : Ints w v l) (Hgr : Hid (isGrp l = true)) (hx : x < 16777216) :
    Calls Try.prog 217 #[.agg #[v], .int .i64 x] w fun e w' => e = .returned (.int .i64 (negF l x)) ∧ Ext w w' := by
  obtain ⟨ao, c, adr, rfl, hlen, hadr, hcell⟩ := h.op
  have hix := ints_index (c := c) elI szI hadr
  clear hadr h
  obtain ⟨wb, hwb⟩ : ∃ wb, wb = w.alloc (.cells #[.slice ao l.length c] 31) := ⟨_, rfl⟩
  have hE0 := (Ext.refl w).alloc (.cells #[.slice ao l.length c] 31)
  have hb := box_cell w (.slice ao l.length c) 31
  rw [← hwb] at hE0 hb
  have hE := Ext.refl wb
  have Hwb := Lib.hid hwb
  have hA := negF_bd Hgr.out x
  have h3 := isGrp_len Hgr.out
  clear hwb
  go_enter Try.func217, Try.ntmps217
  go_wp2_with fail
  rw [← Hwb.out]
  go_loopw [1, 5, 6, 12] (fun xv sv uv i wr => ∃ k x' s u : Nat, k ≤ l.length ∧ x' ≤ x ∧ s + u * negF (l.drop k) x' = negF l x ∧ (u : Int) = prodL (l.take k) ∧ xv = .int .i64 x' ∧ sv = .int .i64 s ∧ uv = .int .i64 u ∧ i = .int .i64 k ∧ Ext wb wr) (fun _ _ _ i _ => l.length - (intOf i).toNat)
  case atStart => exact ⟨0, x, 0, 1, by omega, by omega, by simp, by simp [prodL], rfl, rfl, rfl, rfl, hE⟩
  case round =>
    clear hE
    obtain ⟨k, x', s, u, hk, hx', hs, hu, rfl, rfl, rfl, rfl, hE⟩ := hrel
    have hbx := hb wr hE
    have hsb := add_inv hs hA
    obtain ⟨hu1, hu2⟩ := prodL_bd3 k l hk (by omega) (fun j hj => isGrp_nth Hgr.out (by omega))
    rw [← hu] at hu1 hu2
    have Hs := Lib.hid hs
    have Hu := Lib.hid hu
    clear hs hu hA
    by_cases hlt : k < l.length
    · have hck := hcell k _ hlt (hE0.trans hE)
      obtain ⟨hq1, hq2⟩ := isGrp_nth Hgr.out hlt
      obtain ⟨q, hq⟩ := Int.eq_ofNat_of_zero_le (show 0 ≤ nth l k by omega)
      have Hst := Lib.hid (negF_step hlt hq x')
      have Hu2 : Hid (nth l k * prodL (l.take k) = prodL (l.take (k + 1))) := Lib.hid (by rw [prodL_take l k hlt, Int.mul_comm])
      rw [hq] at hq1 hq2
      have Hq := Lib.hid hq
      have hd : (q - x' % q) % q < 24 := Nat.lt_of_lt_of_le (Nat.mod_lt _ (by omega)) (by omega)
      have hm1 : ((q - x' % q) % q) * u ≤ 24 * 13824 := Nat.mul_le_mul (by omega) (by omega)
      have hm2 : u * q ≤ 13824 * 24 := Nat.mul_le_mul (by omega) (by omega)
      have h1 := Nat.mod_lt x' (show 0 < q by omega)
      have c1 : (q : Int) - (x' : Int) % (q : Int) = ((q - x' % q : Nat) : Int) := by rw [← Int.natCast_emod]; omega
      have c2 : (((q : Int) - (x' : Int) % (q : Int)) % (q : Int)) * (u : Int) = ((((q - x' % q) % q) * u : Nat) : Int) := by rw [c1, Int.natCast_mul, Int.natCast_emod]
      have c3 : ((u * q : Nat) : Int) = (u : Int) * (q : Int) := Int.natCast_mul _ _
      have b1 : (x' : Int) % (q : Int) < 24 := by have := Int.emod_lt_of_pos (x' : Int) (show (0:Int) < q by omega); omega
      have b3 : 0 ≤ (x' : Int) % (q : Int) := Int.emod_nonneg _ (by omega)
      have b2 : 0 ≤ (q : Int) - (x' : Int) % (q : Int) := by have := Int.emod_lt_of_pos (x' : Int) (show (0:Int) < q by omega); omega
      have b5 : (((q : Int) - (x' : Int) % (q : Int)) % (q : Int)) * (u : Int) ≤ 331776 := by rw [c2]; omega
      have b6 : 0 ≤ (((q : Int) - (x' : Int) % (q : Int)) % (q : Int)) * (u : Int) := by rw [c2]; omega
      have b7 : (u : Int) * (q : Int) ≤ 331776 := by rw [← c3]; omega
      have b8 : 0 ≤ (u : Int) * (q : Int) := by rw [← c3]; omega
      have Hm1 := Lib.hid hm1
      clear c1 c2 c3 hd hm1 hm2 h1
      go_wp2_with fail
      skip
      go_roundw
      case rel =>
        refine ⟨k + 1, x' / q, s + ((q - x' % q) % q) * u, u * q, by omega, Nat.le_trans (Nat.div_le_self _ _) hx', ?_, ?_, ?_, ?_, ?_, by go_num, hE⟩
        · apply add_next
          rw [← Hst.out]; exact Hs.out
        · rw [← Hu2.out, ← Hu.out, Hq.out]; push_cast; rw [Int.mul_comm]
        · exact div_val (Nat.le_trans hx' (Nat.le_of_lt hx))
        · first | exact neg_val hsb (by omega) Hm1.out | (rw [show (-((x' : Int) % (q : Int))) % (q : Int) = ((q : Int) - (x' : Int) % (q : Int)) % (q : Int) from by simp]; exact neg_val hsb (by omega) Hm1.out)
        · exact mul_val u q
      case measure => (simp [intOf]; omega)
    · have hkl : k = l.length := by omega
      subst hkl
      go_wp2_with fail
      go_ret
      exact ⟨ret_int (by have := Hs.out; rw [List.drop_length] at this; simp [negF] at this; omega), hE0.trans hE⟩
--%call l2Negate 219 ext l2Negate_any _ _ _ _ ({0}) ({1}) ({2})
theorem l2Negate_any (v : Value) (l : List Int) (x : Nat) (w : World) (h : Ints w v l) (Hgr : Hid (isGrp l = true)) (hx : x < 16777216) :
    Calls Try.prog 219 #[.agg #[v], .int .i64 x] w fun e w' => e = .returned (.int .i64 (negF l x)) ∧ Ext w w' := by
  obtain ⟨ao, c, adr, rfl, hlen, hadr, hcell⟩ := h.op
  have hix := ints_index (c := c) elI szI hadr
  clear hadr h
  obtain ⟨wb, hwb⟩ : ∃ wb, wb = w.alloc (.cells #[.slice ao l.length c] 31) := ⟨_, rfl⟩
  have hE0 := (Ext.refl w).alloc (.cells #[.slice ao l.length c] 31)
  have hb := box_cell w (.slice ao l.length c) 31
  rw [← hwb] at hE0 hb
  have hE := Ext.refl wb
  have Hwb := Lib.hid hwb
  have hA := negF_bd Hgr.out x
  have h3 := isGrp_len Hgr.out
  clear hwb
  go_enter Try.func219, Try.ntmps219
  go_wp2_with fail
  rw [← Hwb.out]
  go_loopw [1, 5, 6, 7] (fun xv sv uv i wr => ∃ k x' s u : Nat, k ≤ l.length ∧ x' ≤ x ∧ s + u * negF (l.drop k) x' = negF l x ∧ (u : Int) = prodL (l.take k) ∧ xv = .int .i64 x' ∧ sv = .int .i64 s ∧ uv = .int .i64 u ∧ i = .int .i64 k ∧ Ext wb wr) (fun _ _ _ i _ => l.length - (intOf i).toNat)
  case atStart => exact ⟨0, x, 0, 1, by omega, by omega, by simp, by simp [prodL], rfl, rfl, rfl, rfl, hE⟩
  case round =>
    clear hE
    obtain ⟨k, x', s, u, hk, hx', hs, hu, rfl, rfl, rfl, rfl, hE⟩ := hrel
    have hbx := hb wr hE
    have hsb := add_inv hs hA
    obtain ⟨hu1, hu2⟩ := prodL_bd3 k l hk (by omega) (fun j hj => isGrp_nth Hgr.out (by omega))
    rw [← hu] at hu1 hu2
    have Hs := Lib.hid hs
    have Hu := Lib.hid hu
    clear hs hu hA
    by_cases hlt : k < l.length
    · have hck := hcell k _ hlt (hE0.trans hE)
      obtain ⟨hq1, hq2⟩ := isGrp_nth Hgr.out hlt
      obtain ⟨q, hq⟩ := Int.eq_ofNat_of_zero_le (show 0 ≤ nth l k by omega)
      have Hst := Lib.hid (negF_step hlt hq x')
      have Hu2 : Hid (nth l k * prodL (l.take k) = prodL (l.take (k + 1))) := Lib.hid (by rw [prodL_take l k hlt, Int.mul_comm])
      rw [hq] at hq1 hq2
      have Hq := Lib.hid hq
      have hd : (q - x' % q) % q < 24 := Nat.lt_of_lt_of_le (Nat.mod_lt _ (by omega)) (by omega)
      have hm1 : ((q - x' % q) % q) * u ≤ 24 * 13824 := Nat.mul_le_mul (by omega) (by omega)
      have hm2 : u * q ≤ 13824 * 24 := Nat.mul_le_mul (by omega) (by omega)
      have h1 := Nat.mod_lt x' (show 0 < q by omega)
      have c1 : (q : Int) - (x' : Int) % (q : Int) = ((q - x' % q : Nat) : Int) := by rw [← Int.natCast_emod]; omega
      have c2 : (((q : Int) - (x' : Int) % (q : Int)) % (q : Int)) * (u : Int) = ((((q - x' % q) % q) * u : Nat) : Int) := by rw [c1, Int.natCast_mul, Int.natCast_emod]
      have c3 : ((u * q : Nat) : Int) = (u : Int) * (q : Int) := Int.natCast_mul _ _
      have b1 : (x' : Int) % (q : Int) < 24 := by have := Int.emod_lt_of_pos (x' : Int) (show (0:Int) < q by omega); omega
      have b3 : 0 ≤ (x' : Int) % (q : Int) := Int.emod_nonneg _ (by omega)
      have b2 : 0 ≤ (q : Int) - (x' : Int) % (q : Int) := by have := Int.emod_lt_of_pos (x' : Int) (show (0:Int) < q by omega); omega
      have b5 : (((q : Int) - (x' : Int) % (q : Int)) % (q : Int)) * (u : Int) ≤ 331776 := by rw [c2]; omega
      have b6 : 0 ≤ (((q : Int) - (x' : Int) % (q : Int)) % (q : Int)) * (u : Int) := by rw [c2]; omega
      have b7 : (u : Int) * (q : Int) ≤ 331776 := by rw [← c3]; omega
      have b8 : 0 ≤ (u : Int) * (q : Int) := by rw [← c3]; omega
      have Hm1 := Lib.hid hm1
      clear c1 c2 c3 hd hm1 hm2 h1
      go_wp2_with fail
      skip
      go_roundw
      case rel =>
        refine ⟨k + 1, x' / q, s + ((q - x' % q) % q) * u, u * q, by omega, Nat.le_trans (Nat.div_le_self _ _) hx', ?_, ?_, ?_, ?_, ?_, by go_num, hE⟩
        · apply add_next
          rw [← Hst.out]; exact Hs.out
        · rw [← Hu2.out, ← Hu.out, Hq.out]; push_cast; rw [Int.mul_comm]
        · exact div_val (Nat.le_trans hx' (Nat.le_of_lt hx))
        · first | exact neg_val hsb (by omega) Hm1.out | (rw [show (-((x' : Int) % (q : Int))) % (q : Int) = ((q : Int) - (x' : Int) % (q : Int)) % (q : Int) from by simp]; exact neg_val hsb (by omega) Hm1.out)
        · exact mul_val u q
      case measure => (simp [intOf]; omega)
    · have hkl : k = l.length := by omega
      subst hkl
      go_wp2_with fail
      go_ret
      exact ⟨ret_int (by have := Hs.out; rw [List.drop_length] at this; simp [negF] at this; omega), hE0.trans hE⟩

--%call opposite 158 ext opposite_any _ _ _ _ ({0}) ({1}) ({2})
theorem opposite_any (v : Value) (l : List Int) (a : Nat) (w : World) (h : Ints w v l) (Hgr : Hid (isGrp l = true)) (ha : a < 2 ^ 24) :
    Calls Try.prog 158 #[.agg #[v], .int .i64 a] w fun e w' => e = .returned (.int .i64 (oppF l a)) ∧ Ext w w' := by
  obtain ⟨wb, hwb⟩ : ∃ wb, wb = w.alloc (.cells #[v] 31) := ⟨_, rfl⟩
  have hE0 := (Ext.refl w).alloc (.cells #[v] 31)
  have hb := box_cell w v 31
  rw [← hwb] at hE0 hb
  have hg : ∀ W, Ext wb W → Ints W v l := fun W hW => h.ext (hE0.trans hW)
  have hE := Ext.refl wb
  have Hsz : Hid (w.heap.size + 1 = wb.heap.size) := Lib.hid (by rw [hwb]; simp [go_sem])
  have Hwb := Lib.hid hwb
  clear hwb h
  go_enter Try.func158, Try.ntmps158
  go_wp2_with fail
  rw [← Hwb.out]
  go_wp2_with (first | (go_at_call 169; refine (members_any _ (ha) _).mono ?_; rintro e w1 ⟨v1, rfl, hL, hE1⟩; obtain ⟨aoL, cL, adrL, rfl, hadrL, hcellL⟩ := hL.ints.nats; have hixL := ints_index (c := cL) elI szI hadrL; clear hadrL))
  have hb1 : ∀ W, Ext w1 W → W.cell? ⟨w.heap.size, 0, none⟩ = some v := fun W hW => hb W (hE1.trans hW)
  have hg1 : ∀ W, Ext w1 W → Ints W v l := fun W hW => hg W (hE1.trans hW)
  replace hE := Ext.refl w1
  clear hb hg hL
  have hall : ∀ y ∈ elems a, y < 24 := fun y hy => elems_lt hy
  have hlen := elems_len a
  have Hd := Lib.hid (oppL_all l a)
  generalize elems a = L at hcellL hixL hall hlen Hd ⊢
  go_loopw [5, 11] (fun ov i wr => ∃ k : Nat, k ≤ L.length ∧ i = .int .i64 k ∧ ov = .int .i64 ((oppL l (L.take k) : Nat) : Int) ∧ Ext w1 wr) (fun _ i _ => L.length - (intOf i).toNat)
  case atStart => exact ⟨0, by omega, rfl, by simp [oppL, bset], hE⟩
  case round =>
    clear hE
    obtain ⟨k, hk, rfl, rfl, hE⟩ := hrel
    by_cases hlt : k < L.length
    · have hck := hcellL k _ hlt hE
      have hbx := hb1 _ hE
      have hby := hall _ (nthN_mem hlt)
      have Ht := Lib.hid (oppL_snoc l (L.take k) (nthN L k))
      have Ht2 := Lib.hid (take_nthN L k hlt)
      have hz := negF_bd Hgr.out (nthN L k)
      have hs1 := ishl_one (n := negF l (nthN L k)) (by omega)
      have hs2 := ior_pw (oppL_bd Hgr.out (L.take k)) hz
      go_wp2_with (first | (go_at_call 217; refine (negate_any _ _ _ _ (hg1 _ hE) (Hgr) ((by omega))).mono ?_; rintro e w' ⟨rfl, hE'⟩; replace hE := hE.trans hE'; clear hE'))
      go_roundw
      case rel => exact ⟨k + 1, by omega, by go_num, by rw [Ht2.out, Ht.out], hE⟩
      case measure => (simp [intOf]; omega)
    · have hkl : k = L.length := by omega
      subst hkl
      go_wp2_with fail
      go_ret
      exact ⟨ret_int (by rw [List.take_length, Hd.out]), hE0.trans (hE1.trans hE)⟩
--%call l3Negate 167 ext l3Negate_any _ _ _ _ ({0}) ({1}) ({2})
theorem l3Negate_any (v : Value) (l : List Int) (a : Nat) (w : World) (h : Ints w v l) (Hgr : Hid (isGrp l = true)) (ha : a < 2 ^ 24) :
    Calls Try.prog 167 #[.agg #[v], .int .i64 a] w fun e w' => e = .returned (.int .i64 (oppF l a)) ∧ Ext w w' := by
  obtain ⟨wb, hwb⟩ : ∃ wb, wb = w.alloc (.cells #[v] 31) := ⟨_, rfl⟩
  have hE0 := (Ext.refl w).alloc (.cells #[v] 31)
  have hb := box_cell w v 31
  rw [← hwb] at hE0 hb
  have hg : ∀ W, Ext wb W → Ints W v l := fun W hW => h.ext (hE0.trans hW)
  have hE := Ext.refl wb
  have Hsz : Hid (w.heap.size + 1 = wb.heap.size) := Lib.hid (by rw [hwb]; simp [go_sem])
  have Hwb := Lib.hid hwb
  clear hwb h
  go_enter Try.func167, Try.ntmps167
  go_wp2_with fail
  rw [← Hwb.out]
  go_wp2_with (first | (go_at_call 170; refine (l3List_any _ (ha) _).mono ?_; rintro e w1 ⟨v1, rfl, hL, hE1⟩; obtain ⟨aoL, cL, adrL, rfl, hadrL, hcellL⟩ := hL.ints.nats; have hixL := ints_index (c := cL) elI szI hadrL; clear hadrL))
  have hb1 : ∀ W, Ext w1 W → W.cell? ⟨w.heap.size, 0, none⟩ = some v := fun W hW => hb W (hE1.trans hW)
  have hg1 : ∀ W, Ext w1 W → Ints W v l := fun W hW => hg W (hE1.trans hW)
  replace hE := Ext.refl w1
  clear hb hg hL
  have hall : ∀ y ∈ elems a, y < 24 := fun y hy => elems_lt hy
  have hlen := elems_len a
  have Hd := Lib.hid (oppL_all l a)
  generalize elems a = L at hcellL hixL hall hlen Hd ⊢
  go_loopw [5, 7] (fun ov i wr => ∃ k : Nat, k ≤ L.length ∧ i = .int .i64 k ∧ ov = .int .i64 ((oppL l (L.take k) : Nat) : Int) ∧ Ext w1 wr) (fun _ i _ => L.length - (intOf i).toNat)
  case atStart => exact ⟨0, by omega, rfl, by simp [oppL, bset], hE⟩
  case round =>
    clear hE
    obtain ⟨k, hk, rfl, rfl, hE⟩ := hrel
    by_cases hlt : k < L.length
    · have hck := fun U => hcellL k _ hlt (lat_ext w1 U)
      have hbx := fun U => hb1 _ (lat_ext w1 U)
      have hby := hall _ (nthN_mem hlt)
      have Ht := Lib.hid (oppL_snoc l (L.take k) (nthN L k))
      have Ht2 := Lib.hid (take_nthN L k hlt)
      have hz := negF_bd Hgr.out (nthN L k)
      have hs1 := ishl_one (n := negF l (nthN L k)) (by omega)
      have hs2 := ior_pw (oppL_bd Hgr.out (L.take k)) hz
      go_wp2_with fail
      (refine wp_region_lat (w1) (by kernel_rfl) (by kernel_rfl) hE ?_); (repeat (go_big_quiet_step (first | (go_at_call 219; exact Calls.lat (l2Negate_any _ _ _ _ (hg1 _ (lat_ext w1 _)) (Hgr) ((by omega))))))); (refine wpQuiet_nil ?_); (intro W hE'); (replace hE := lat_of hE'); (clear hE')
      go_wp2_with fail
      go_roundw
      case rel => exact ⟨k + 1, by omega, by go_num, by rw [Ht2.out, Ht.out], hE⟩
      case measure => (simp [intOf]; omega)
    · have hkl : k = L.length := by omega
      subst hkl
      go_wp2_with fail
      go_ret
      exact ⟨ret_int (by rw [List.take_length, Hd.out]), hE0.trans (hE1.trans hE)⟩

--%call difference 165 ext difference_any _ _ _ _ _ ({0}) ({1}) ({2}) ({3})
theorem difference_any (v : Value) (l : List Int) (a b : Nat) (w : World) (h : Ints w v l) (Hgr : Hid (isGrp l = true)) (ha : a < 2 ^ 24) (hb' : b < 2 ^ 24) :
    Calls Try.prog 165 #[.agg #[v], .int .i64 a, .int .i64 b] w fun e w' => e = .returned (.int .i64 (sumF l a (oppF l b))) ∧ Ext w w' := by
  obtain ⟨wb, hwb⟩ : ∃ wb, wb = w.alloc (.cells #[v] 31) := ⟨_, rfl⟩
  have hE0 := (Ext.refl w).alloc (.cells #[v] 31)
  have hb := box_cell w v 31
  rw [← hwb] at hE0 hb
  have hg : ∀ W, Ext wb W → Ints W v l := fun W hW => h.ext (hE0.trans hW)
  have hE := Ext.refl wb
  have Hsz : Hid (w.heap.size + 1 = wb.heap.size) := Lib.hid (by rw [hwb]; simp [go_sem])
  have Hwb := Lib.hid hwb
  clear hwb h
  have hbx := fun U => hb _ (lat_ext wb U)
  have ho := oppF_bd Hgr.out b
  go_enter Try.func165, Try.ntmps165
  go_wp2_with fail
  rw [← Hwb.out]
  (refine wp_region_lat (wb) (by kernel_rfl) (by kernel_rfl) hE ?_); (repeat (go_big_quiet_step (first | (go_at_call 158; exact Calls.lat (opposite_any _ _ _ _ (hg _ (lat_ext wb _)) (Hgr) (hb'))) | (go_at_call 140; exact Calls.lat (sum_any _ _ _ _ _ (hg _ (lat_ext wb _)) (Hgr) (ha) (ho)))))); (refine wpQuiet_nil ?_); (intro W hE'); (replace hE := lat_of hE'); (clear hE')
  go_wp2_with fail
  go_ret
  exact ⟨rfl, hE0.trans hE⟩
end Go.Zz
