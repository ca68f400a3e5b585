/- EqualGroups, MeetingBound. -/
import Derived.Test.YtgjomoedgmofbaaC2
import Derived.Test.YtgjomoedgmofbaaC3
namespace Go.Zz
open Go.RowKit Go.Proofs
set_option maxHeartbeats 400000

--%call EqualGroups 153 ext EqualGroups_any _ _ _ _ _ ({0}) ({1})
theorem EqualGroups_any (v u : Value) (l m : List Int) (w : World) (h : Ints w v l) (k : Ints w u m) :
    Calls Try.prog 153 #[.agg #[v], .agg #[u]] w fun e w' => e = .returned (.bool (decide (l = m))) ∧ Ext w w' := by
  have hE0 := ((Ext.refl w).alloc (.cells #[v] 26)).alloc (.cells #[u] 26)
  have hE := Ext.refl ((w.alloc (.cells #[v] 26)).alloc (.cells #[u] 26))
  have hI1 := h.ext hE0
  have hI2 := k.ext hE0
  clear h k
  go_enter Try.func153, Try.ntmps153
  go_wp2_with (first | (go_at_call 147; refine (slicesEqual_any _ _ _ _ _ (hI1) (hI2)).mono ?_; rintro e w' ⟨rfl, hE'⟩; replace hE := hE.trans hE'; clear hE'))
  go_ret
  exact ⟨ret_bool rfl, hE0.trans hE⟩

--%call sEqualGroups 142 ext sEqualGroups_any _ _ _ _ _ ({0}) ({1})
theorem sEqualGroups_any (v u : Value) (l m : List Int) (w : World) (h : Ints w v l) (k : Ints w u m) :
    Calls Try.prog 142 #[.agg #[v], .agg #[u]] w fun e w' => e = .returned (.bool (decide (l = m))) ∧ Ext w w' := by
  obtain ⟨ao, c, adr, rfl, hlen, hadr, hcell⟩ := h.op
  have hix := ints_index (c := c) elI szI hadr
  obtain ⟨ao2, c2, adr2, rfl, hlen2, hadr2, hcell2⟩ := k.op
  have hix2 := ints_index (c := c2) elI szI hadr2
  clear hadr hadr2 h k
  obtain ⟨wb, hwb⟩ : ∃ wb, wb = (w.alloc (.cells #[.slice ao l.length c] 26)).alloc (.cells #[.slice ao2 m.length c2] 26) := ⟨_, rfl⟩
  have hE0 := ((Ext.refl w).alloc (.cells #[.slice ao l.length c] 26)).alloc (.cells #[.slice ao2 m.length c2] 26)
  have k1 := cell_in (show wb.cell? ⟨w.heap.size, 0, none⟩ = some (.slice ao l.length c) by rw [hwb]; simp [go_sem])
  have k2 := cell_in (show wb.cell? ⟨w.heap.size + 1, 0, none⟩ = some (.slice ao2 m.length c2) by rw [hwb]; simp [go_sem])
  have k1L := fun U => k1 _ (lat_ext wb U)
  have k2L := fun U => k2 _ (lat_ext wb U)
  rw [← hwb] at hE0
  have hE := Ext.refl wb
  have Hwb := Lib.hid hwb
  clear hwb
  by_cases hl : l.length = m.length
  · have hl1 : ((l.length : Int) != (m.length : Int)) = false := by simp [hl]
    have Hl := Lib.hid hl
    clear hl
    go_enter Try.func142, Try.ntmps142
    go_wp2_with fail
    rw [← Hwb.out]
    go_loopw [5] (fun i wr => ∃ k : Nat, k ≤ l.length ∧ (∀ j, j < k → nth l j = nth m j) ∧ i = .int .i64 k ∧ Ext wb wr) (fun i _ => l.length - (intOf i).toNat)
    case atStart => exact ⟨0, by omega, by omega, rfl, hE⟩
    case round =>
      clear hE
      obtain ⟨k, hk, hall, rfl, hE⟩ := hrel
      have Hall := Lib.hid hall
      clear hall
      have k1' := k1 _ hE
      have k2' := k2 _ hE
      by_cases hlt : k < l.length
      · have hlt2 : k < m.length := by have := Hl.out; omega
        have hck := fun U => hcell k _ hlt (hE0.trans (lat_ext wb U))
        have hck2 := fun U => hcell2 k _ hlt2 (hE0.trans (lat_ext wb U))
        by_cases he : nth l k = nth m k
        · have he1 : (nth l k != nth m k) = false := by simp [he]
          have He := Lib.hid he
          clear he
          go_wp2_with fail
          (refine wp_region_lat (wb) (by kernel_rfl) (by kernel_rfl) hE ?_); (repeat (go_big_quiet_step (first | fail))); (refine wpQuiet_nil ?_); (intro W hE'); (replace hE := lat_of hE'); (clear hE')
          go_wp2_with fail
          go_roundw
          case rel => exact ⟨k + 1, by omega, fun j hj => by by_cases e : j = k; (subst e; exact He.out); exact Hall.out j (by omega), by go_num, hE⟩
          case measure => (simp [intOf]; omega)
        · have he1 : (nth l k != nth m k) = true := by simp [he]
          have He := Lib.hid he
          clear he
          go_wp2_with fail
          (refine wp_region_lat (wb) (by kernel_rfl) (by kernel_rfl) hE ?_); (repeat (go_big_quiet_step (first | fail))); (refine wpQuiet_nil ?_); (intro W hE'); (replace hE := lat_of hE'); (clear hE')
          go_wp2_with fail
          go_ret
          exact ⟨ret_bool (by symm; rw [decide_eq_false_iff_not]; intro e; exact He.out (by rw [e])), hE0.trans hE⟩
      · have hkl : k = l.length := by omega
        subst hkl
        go_wp2_with fail
        go_ret
        exact ⟨ret_bool (by symm; rw [decide_eq_true_iff]; exact ext_nth Hl.out Hall.out), hE0.trans hE⟩
  · have hl1 : ((l.length : Int) != (m.length : Int)) = true := by simp; omega
    have Hl := Lib.hid hl
    clear hl
    go_enter Try.func142, Try.ntmps142
    go_wp2_with fail
    rw [← Hwb.out]
    go_ret
    exact ⟨ret_bool (by symm; rw [decide_eq_false_iff_not]; intro e; exact Hl.out (by rw [e])), hE0⟩

/-- the bound of MeetingBound -/
def meetF (l : List Int) (a : Int) : Int := if isSetB l a && !(a == 0) then ((ord l : Int) + cnt a.toNat - 1) / cnt a.toNat else -1
theorem meetF_no {l : List Int} {a : Int} (h : isSetB l a = false) : meetF l a = -1 := by unfold meetF; rw [h]; rfl
theorem meetF_zero (l : List Int) : meetF l 0 = -1 := by unfold meetF; simp
theorem meetF_yes {l : List Int} {n : Nat} (h : isSetB l n = true) (h0 : 0 < n) : meetF l n = ((ord l : Int) + cnt n - 1) / cnt n := by
  unfold meetF
  have : ((n : Int) == 0) = false := by simp; omega
  rw [h, this]; simp
--%call MeetingBound 60 ext MeetingBound_any _ _ _ _ ({0})
theorem MeetingBound_any (v : Value) (l : List Int) (a : Int) (w : World) (h : Ints w v l) :
    Calls Try.prog 60 #[.agg #[v], .int .i64 a] w fun e w' => e = .returned (.int .i64 (meetF l a)) ∧ Ext w w' := by
  have hE0 := (Ext.refl w).alloc (.cells #[v] 26)
  have hE := Ext.refl (w.alloc (.cells #[v] 26))
  have hb := box_cell w v 26
  have hg : ∀ W, Ext (w.alloc (.cells #[v] 26)) W → Ints W v l := fun W hW => h.ext (hE0.trans hW)
  clear h
  cases hs : isSetB l a
  · have Hs := Lib.hid hs
    go_enter Try.func60, Try.ntmps60
    go_wp2_with (first | (go_at_call 144; refine (IsSet_any _ _ _ _ (hg _ hE)).mono ?_; rintro e w' ⟨rfl, hE'⟩; replace hE := hE.trans hE'; clear hE'))
    go_ret
    exact ⟨ret_int (meetF_no Hs.out).symm, hE0.trans hE⟩
  · obtain ⟨n, rfl, h1, h2, h3⟩ := isSetB_nat hs
    by_cases h0 : n = 0
    · subst h0
      go_enter Try.func60, Try.ntmps60
      go_wp2_with (first | (go_at_call 144; refine (IsSet_any _ _ _ _ (hg _ hE)).mono ?_; rintro e w' ⟨rfl, hE'⟩; replace hE := hE.trans hE'; clear hE'))
      go_ret
      exact ⟨ret_int (meetF_zero l).symm, hE0.trans hE⟩
    · have h0' : ((n : Int) == 0) = false := by simp; omega
      have hm := Lib.hid (meetF_yes hs (by omega))
      have hb1 := ord_bd h3
      have hb2 := cnt_pos (by omega) h2
      have hb3 := cnt_le n
      have ho := ordF_t h3
      have h3' := Lib.hid h3
      clear h3
      have hq1 : 0 ≤ (ord l : Int) + cnt n - 1 := by omega
      go_enter Try.func60, Try.ntmps60
      go_wp2_with (first | (go_at_call 144; refine (IsSet_any _ _ _ _ (hg _ hE)).mono ?_; rintro e w' ⟨rfl, hE'⟩; replace hE := hE.trans hE'; clear hE') | (go_at_call 108; refine (OrderOf_any _ _ _ (hg _ hE)).mono ?_; rintro e w' ⟨rfl, hE'⟩; replace hE := hE.trans hE'; clear hE') | (go_at_call 112; refine (bits_any _ (h2) _).mono ?_; rintro e w' ⟨rfl, rfl⟩))
      go_ret
      exact ⟨ret_int hm.out.symm, hE0.trans hE⟩
--%call sMeetingBound 61 ext sMeetingBound_any _ _ _ _ ({0})
theorem sMeetingBound_any (v : Value) (l : List Int) (a : Int) (w : World) (h : Ints w v l) :
    Calls Try.prog 61 #[.agg #[v], .int .i64 a] w fun e w' => e = .returned (.int .i64 (meetF l a)) ∧ Ext w w' := by
  have hE0 := (Ext.refl w).alloc (.cells #[v] 26)
  have hE := Ext.refl (w.alloc (.cells #[v] 26))
  have hb := box_cell w v 26
  have hg : ∀ W, Ext (w.alloc (.cells #[v] 26)) W → Ints W v l := fun W hW => h.ext (hE0.trans hW)
  clear h
  cases hs : isSetB l a
  · have Hs := Lib.hid hs
    go_enter Try.func61, Try.ntmps61
    go_wp2_with (first | (go_at_call 119; refine (sIsSet_any _ _ _ _ (hg _ hE)).mono ?_; rintro e w' ⟨rfl, hE'⟩; replace hE := hE.trans hE'; clear hE'))
    go_ret
    exact ⟨ret_int (meetF_no Hs.out).symm, hE0.trans hE⟩
  · obtain ⟨n, rfl, h1, h2, h3⟩ := isSetB_nat hs
    by_cases h0 : n = 0
    · subst h0
      go_enter Try.func61, Try.ntmps61
      go_wp2_with (first | (go_at_call 119; refine (sIsSet_any _ _ _ _ (hg _ hE)).mono ?_; rintro e w' ⟨rfl, hE'⟩; replace hE := hE.trans hE'; clear hE'))
      go_ret
      exact ⟨ret_int (meetF_zero l).symm, hE0.trans hE⟩
    · have h0' : ((n : Int) == 0) = false := by simp; omega
      have hm := Lib.hid (meetF_yes hs (by omega))
      have hb1 := ord_bd h3
      have hb2 := cnt_pos (by omega) h2
      have hb3 := cnt_le n
      have ho := trivial
      have h3' := Lib.hid h3
      clear h3
      have hq1 : 0 ≤ (ord l : Int) + cnt n - 1 := by omega
      go_enter Try.func61, Try.ntmps61
      go_wp2_with (first | (go_at_call 119; refine (sIsSet_any _ _ _ _ (hg _ hE)).mono ?_; rintro e w' ⟨rfl, hE'⟩; replace hE := hE.trans hE'; clear hE') | (go_at_call 115; refine (l2Order_any _ _ _ (hg _ hE) (h3')).mono ?_; rintro e w' ⟨rfl, hE'⟩; replace hE := hE.trans hE'; clear hE') | (go_at_call 117; refine (l3Bits_any _ (h2) _).mono ?_; rintro e w' ⟨rfl, rfl⟩))
      go_ret
      exact ⟨ret_int hm.out.symm, hE0.trans hE⟩
end Go.Zz
