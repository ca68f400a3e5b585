/- Cosets, progressions, sets of Sidon, boxes: of both. -/
import Derived.Test.YtohdnnamjcfnnaaC44
import Derived.Test.YtohdnnamjcfnnaaC31
import Derived.Test.YtohdnnamjcfnnaaPq
namespace Go.Zz
open Go.RowKit Go.Proofs
set_option maxHeartbeats 2000000
set_option maxRecDepth 20000

theorem IsCoset_any (v : Value) (l : List Int) (a : Int) (w : World) (h : Ints w v l) :
    Calls Try.prog 174 #[.agg #[v], .int .i64 a] w fun e w' => e = .returned (.bool (cstB l a)) ∧ Ext w w' := by
  obtain ⟨wb, hwb⟩ : ∃ wb, wb = w.alloc (.cells #[v] 28) := ⟨_, rfl⟩
  have hE0 := (Ext.refl w).alloc (.cells #[v] 28)
  have hb := box_cell w v 28
  rw [← hwb] at hE0 hb
  have hg : ∀ W, Ext wb W → Ints W v l := fun W hW => h.ext (hE0.trans hW)
  have hE := Ext.refl wb
  have Hsz : Hid (w.heap.size + 1 = wb.heap.size) := Lib.hid (by rw [hwb]; simp [go_sem])
  have Hwb := Lib.hid hwb
  clear hwb h
  have hbx := hb wb hE
  cases hs : isSetB l a
  · have Hs := Lib.hid (cstB_no (isOneB_no hs))
    go_enter Try.func174, Try.ntmps174
    go_wp2_with fail
    rw [← Hwb.out]
    go_wp2_with (first | (go_at_call 157; refine (IsSet_val _ _ _ _ (hg _ hE) (hs)).mono ?_; rintro e w' ⟨rfl, hE'⟩; replace hE := hE.trans hE'; clear hE'))
    go_ret
    exact ⟨ret_bool Hs.out.symm, hE0.trans hE⟩
  · obtain ⟨n, rfl, h1, h2, hgr⟩ := isSetB_nat hs
    by_cases h0 : n = 0
    · subst h0
      have Hs := Lib.hid (cstB_no (isOneB_zero l))
      go_enter Try.func174, Try.ntmps174
      go_wp2_with fail
      rw [← Hwb.out]
      go_wp2_with (first | (go_at_call 157; refine (IsSet_val _ _ _ _ (hg _ hE) (hs)).mono ?_; rintro e w' ⟨rfl, hE'⟩; replace hE := hE.trans hE'; clear hE'))
      go_ret
      exact ⟨ret_bool (by have := Hs.out; simp_all), hE0.trans hE⟩
    · have Hs := Lib.hid (cstB_hull (isOneB_yes hs (by omega)))
      have h0' : ((n : Int) != 0) = true := by simp; omega
      clear hgr h0
      go_enter Try.func174, Try.ntmps174
      go_wp2_with fail
      rw [← Hwb.out]
      go_wp2_with (first | (go_at_call 157; refine (IsSet_val _ _ _ _ (hg _ hE) (hs)).mono ?_; rintro e w' ⟨rfl, hE'⟩; replace hE := hE.trans hE'; clear hE') | (go_at_call 227; refine (AffineHull_any _ _ _ _ (hg _ hE)).mono ?_; rintro e w' ⟨rfl, hE'⟩; replace hE := hE.trans hE'; clear hE'))
      go_ret
      exact ⟨ret_bool Hs.out.symm, hE0.trans hE⟩
theorem IsCoset_val (v : Value) (l : List Int) (a : Int) (w : World) (h : Ints w v l) {c : Bool} (hc : cstB l a = c) :
    Calls Try.prog 174 #[.agg #[v], .int .i64 a] w fun e w' => e = .returned (.bool c) ∧ Ext w w' := by subst hc; exact IsCoset_any v l a w h
theorem sIsCoset_any (v : Value) (l : List Int) (a : Int) (w : World) (h : Ints w v l) :
    Calls Try.prog 169 #[.agg #[v], .int .i64 a] w fun e w' => e = .returned (.bool (cstB l a)) ∧ Ext w w' := by
  obtain ⟨wb, hwb⟩ : ∃ wb, wb = w.alloc (.cells #[v] 28) := ⟨_, rfl⟩
  have hE0 := (Ext.refl w).alloc (.cells #[v] 28)
  have hb := box_cell w v 28
  rw [← hwb] at hE0 hb
  have hg : ∀ W, Ext wb W → Ints W v l := fun W hW => h.ext (hE0.trans hW)
  have hE := Ext.refl wb
  have Hsz : Hid (w.heap.size + 1 = wb.heap.size) := Lib.hid (by rw [hwb]; simp [go_sem])
  have Hwb := Lib.hid hwb
  clear hwb h
  have hbx := fun U => hb _ (lat_ext wb U)
  cases hs : isSetB l a
  · have Hs := Lib.hid (cstB_no (isOneB_no hs))
    go_enter Try.func169, Try.ntmps169
    go_wp2_with fail
    rw [← Hwb.out]
    (refine wp_region_lat (wb) (by kernel_rfl) (by kernel_rfl) hE ?_); (repeat (go_big_quiet_step (first | (go_at_call 162; exact Calls.lat (sIsSet_val _ _ _ _ (hg _ (lat_ext wb _)) (hs)))))); (refine wpQuiet_nil ?_); (intro W hE'); (replace hE := lat_of hE'); (clear hE')
    go_wp2_with fail
    go_ret
    exact ⟨ret_bool Hs.out.symm, hE0.trans hE⟩
  · obtain ⟨n, rfl, h1, h2, hgr⟩ := isSetB_nat hs
    by_cases h0 : n = 0
    · subst h0
      have Hs := Lib.hid (cstB_no (isOneB_zero l))
      go_enter Try.func169, Try.ntmps169
      go_wp2_with fail
      rw [← Hwb.out]
      (refine wp_region_lat (wb) (by kernel_rfl) (by kernel_rfl) hE ?_); (repeat (go_big_quiet_step (first | (go_at_call 162; exact Calls.lat (sIsSet_val _ _ _ _ (hg _ (lat_ext wb _)) (hs)))))); (refine wpQuiet_nil ?_); (intro W hE'); (replace hE := lat_of hE'); (clear hE')
      go_wp2_with fail
      go_ret
      exact ⟨ret_bool (by have := Hs.out; simp_all), hE0.trans hE⟩
    · have Hs := Lib.hid (cstB_sub (isOneB_yes hs (by omega)))
      have h0' : (0 : Int) < (n : Int) := by omega
      have h0n : 0 < n := by omega
      have Hgr := Lib.hid hgr
      obtain ⟨-, -, -, l4⟩ := lowN_first h0 h2
      have hn := negF_bd hgr (lowN n)
      clear hgr
      go_enter Try.func169, Try.ntmps169
      go_wp2_with fail
      rw [← Hwb.out]
      (refine wp_region_lat (wb) (by kernel_rfl) (by kernel_rfl) hE ?_); (repeat (go_big_quiet_step (first | (go_at_call 162; exact Calls.lat (sIsSet_val _ _ _ _ (hg _ (lat_ext wb _)) (hs))) | (go_at_call 224; exact Calls.lat_same (l5Low_any _ (h0) (h2) _)) | (go_at_call 223; exact Calls.lat (l2Negate_any _ _ _ _ (hg _ (lat_ext wb _)) Hgr (by omega))) | (go_at_call 184; exact Calls.lat (l3Shift_any _ _ _ _ _ (hg _ (lat_ext wb _)) (Hgr) (h2) (hn))) | (go_at_call 222; exact Calls.lat (sIsSubgroup_any _ _ _ _ (hg _ (lat_ext wb _))))))); (refine wpQuiet_nil ?_); (intro W hE'); (replace hE := lat_of hE'); (clear hE')
      go_wp2_with fail
      go_ret
      exact ⟨ret_bool (by rw [Hs.out]), hE0.trans hE⟩
theorem sIsCoset_val (v : Value) (l : List Int) (a : Int) (w : World) (h : Ints w v l) {c : Bool} (hc : cstB l a = c) :
    Calls Try.prog 169 #[.agg #[v], .int .i64 a] w fun e w' => e = .returned (.bool c) ∧ Ext w w' := by subst hc; exact sIsCoset_any v l a w h
def proB (l : List Int) (a : Int) : Bool := decide (0 < (difF l a).length)
theorem IsProgression_any (v : Value) (l : List Int) (a : Int) (w : World) (h : Ints w v l) :
    Calls Try.prog 175 #[.agg #[v], .int .i64 a] w fun e w' => e = .returned (.bool (proB l a)) ∧ Ext w w' := by
  obtain ⟨wb, hwb⟩ : ∃ wb, wb = w.alloc (.cells #[v] 28) := ⟨_, rfl⟩
  have hE0 := (Ext.refl w).alloc (.cells #[v] 28)
  have hb := box_cell w v 28
  rw [← hwb] at hE0 hb
  have hg : ∀ W, Ext wb W → Ints W v l := fun W hW => h.ext (hE0.trans hW)
  have hE := Ext.refl wb
  have Hsz : Hid (w.heap.size + 1 = wb.heap.size) := Lib.hid (by rw [hwb]; simp [go_sem])
  have Hwb := Lib.hid hwb
  clear hwb h
  have hbx := hb wb hE
  go_enter Try.func175, Try.ntmps175
  go_wp2_with fail
  rw [← Hwb.out]
  go_wp2_with (first | (go_at_call 205; refine (Calls.sh (DifferencesOf_any _ _ _ _ (hg _ hE))).mono ?_; rintro e w1 ⟨ao, c, rfl, hO, hE'⟩; replace hE := hE.trans hE'; clear hE'))
  go_ret
  exact ⟨ret_bool (by unfold proB; rw [Bool.eq_iff_iff]; try simp), hE0.trans hE⟩
theorem IsProgression_val (v : Value) (l : List Int) (a : Int) (w : World) (h : Ints w v l) {c : Bool} (hc : proB l a = c) :
    Calls Try.prog 175 #[.agg #[v], .int .i64 a] w fun e w' => e = .returned (.bool c) ∧ Ext w w' := by subst hc; exact IsProgression_any v l a w h
theorem sIsProgression_any (v : Value) (l : List Int) (a : Int) (w : World) (h : Ints w v l) :
    Calls Try.prog 170 #[.agg #[v], .int .i64 a] w fun e w' => e = .returned (.bool (proB l a)) ∧ Ext w w' := by
  obtain ⟨wb, hwb⟩ : ∃ wb, wb = w.alloc (.cells #[v] 28) := ⟨_, rfl⟩
  have hE0 := (Ext.refl w).alloc (.cells #[v] 28)
  have hb := box_cell w v 28
  rw [← hwb] at hE0 hb
  have hg : ∀ W, Ext wb W → Ints W v l := fun W hW => h.ext (hE0.trans hW)
  have hE := Ext.refl wb
  have Hsz : Hid (w.heap.size + 1 = wb.heap.size) := Lib.hid (by rw [hwb]; simp [go_sem])
  have Hwb := Lib.hid hwb
  clear hwb h
  have hbx := hb wb hE
  go_enter Try.func170, Try.ntmps170
  go_wp2_with fail
  rw [← Hwb.out]
  go_wp2_with (first | (go_at_call 204; refine (Calls.sh (sDifferencesOf_any _ _ _ _ (hg _ hE))).mono ?_; rintro e w1 ⟨ao, c, rfl, hO, hE'⟩; replace hE := hE.trans hE'; clear hE'))
  go_ret
  exact ⟨ret_bool (by unfold proB; rw [Bool.eq_iff_iff]; try simp), hE0.trans hE⟩
theorem sIsProgression_val (v : Value) (l : List Int) (a : Int) (w : World) (h : Ints w v l) {c : Bool} (hc : proB l a = c) :
    Calls Try.prog 170 #[.agg #[v], .int .i64 a] w fun e w' => e = .returned (.bool c) ∧ Ext w w' := by subst hc; exact sIsProgression_any v l a w h
end Go.Zz
