/- Colorings: whether the last number is a sum of two of its color; the search of the reference. -/
import Derived.Test.YtopmhjmjmdohhaaC3
import Derived.Test.YtopmhjmjmdohhaaC34
import Derived.Test.YtopmhjmjmdohhaaPc
namespace Go.Zz
open Go.RowKit Go.Proofs
set_option maxHeartbeats 1000000
set_option maxRecDepth 4000

theorem fits_any (v : Value) (c : List Int) (w : World) (h : Ints w v c) (hn : c.length ≤ 1000) :
    Calls Try.prog 84 #[v] w fun e w' => e = .returned (.bool (! (badF c))) ∧ Ext w w' := by
  obtain ⟨ao, k, adr, rfl, hlen, hadr, hcell⟩ := h.op
  have hix := ints_index (c := k) elI szI hadr
  clear hadr h
  go_enter Try.func84, Try.ntmps84
  go_wp2_with fail
  go_loopw [4] (fun i wr => ∃ x : Nat, 1 ≤ x ∧ 2 * x ≤ c.length + 2 ∧ i = .int .i64 x ∧ (∀ y, 1 ≤ y → y < x → eqAt c y = false) ∧ Ext w wr) (fun i _ => c.length + 2 - (intOf i).toNat)
  case atStart => exact ⟨1, by omega, by omega, rfl, by omega, Ext.refl _⟩
  case round =>
    obtain ⟨x, hx1, hx2, rfl, hall, hE⟩ := hrel
    have Hall := Lib.hid hall
    clear hall
    by_cases hlt : 2 * x ≤ c.length
    · have hc1 := fun U => hcell (x - 1) _ (by omega) (lat_ext w U)
      have hc2 := fun U => hcell (c.length - 1) _ (by omega) (lat_ext w U)
      have hc3 := fun U => hcell (c.length - x - 1) _ (by omega) (lat_ext w U)
      have ix1 : ∀ W, (Instr.indexAt 22 (.slice ao c.length k) (.int .i64 ((x : Int) - 1))).run Try.prog W = .ok (.pointer (some (adr (x - 1)))) W := fun W => by rw [show ((x : Int) - 1) = ((x - 1 : Nat) : Int) by omega]; exact hix _ W (by omega)
      have ix2 : ∀ W, (Instr.indexAt 22 (.slice ao c.length k) (.int .i64 ((c.length : Int) - 1))).run Try.prog W = .ok (.pointer (some (adr (c.length - 1)))) W := fun W => by rw [show ((c.length : Int) - 1) = ((c.length - 1 : Nat) : Int) by omega]; exact hix _ W (by omega)
      have ix3 : ∀ W, (Instr.indexAt 22 (.slice ao c.length k) (.int .i64 ((c.length : Int) - (x : Int) - 1))).run Try.prog W = .ok (.pointer (some (adr (c.length - x - 1)))) W := fun W => by rw [show ((c.length : Int) - (x : Int) - 1) = ((c.length - x - 1 : Nat) : Int) by omega]; exact hix _ W (by omega)
      have hg1 : (1 : Int) ≤ (c.length : Int) - (x : Int) := by omega
      have hg2 : (x : Int) < (c.length : Int) := by omega
      have hg3 : (2 : Int) * (x : Int) ≤ (c.length : Int) := by omega
      clear hix hcell
      cases e1 : (nth c (x - 1) == nth c (c.length - 1))
      · have He := Lib.hid (eqAt_no1 e1)
        go_wp2_with fail
        (refine wp_region_lat (w) (by kernel_rfl) (by kernel_rfl) hE ?_); (repeat (go_big_quiet_step (first | fail))); (refine wpQuiet_nil ?_); (intro W hE'); (replace hE := lat_of hE'); (clear hE')
        go_wp2_with fail
        go_roundw
        case rel => exact ⟨x + 1, by omega, by omega, by go_num, fun y hy1 hy2 => by by_cases e : y = x; (subst e; exact He.out); exact Hall.out y hy1 (by omega), hE⟩
        case measure => (simp [intOf]; omega)
      · cases e2 : (nth c (c.length - x - 1) == nth c (c.length - 1))
        · have He := Lib.hid ((eqAt_yes1 e1).trans e2)
          go_wp2_with fail
          (refine wp_region_lat (w) (by kernel_rfl) (by kernel_rfl) hE ?_); (repeat (go_big_quiet_step (first | fail))); (refine wpQuiet_nil ?_); (intro W hE'); (replace hE := lat_of hE'); (clear hE')
          go_wp2_with fail
          go_roundw
          case rel => exact ⟨x + 1, by omega, by omega, by go_num, fun y hy1 hy2 => by by_cases e : y = x; (subst e; exact He.out); exact Hall.out y hy1 (by omega), hE⟩
          case measure => (simp [intOf]; omega)
        · have He := Lib.hid (badF_yes hx1 hlt ((eqAt_yes1 e1).trans e2))
          go_wp2_with fail
          (refine wp_region_lat (w) (by kernel_rfl) (by kernel_rfl) hE ?_); (repeat (go_big_quiet_step (first | fail))); (refine wpQuiet_nil ?_); (intro W hE'); (replace hE := lat_of hE'); (clear hE')
          go_wp2_with fail
          go_ret
          exact ⟨ret_bool (by rw [He.out]; rfl), hE⟩
    · have He := Lib.hid (badF_no (c := c) (n := x) (by omega) Hall.out)
      clear hix hcell
      go_wp2_with fail
      go_ret
      exact ⟨ret_bool (by rw [He.out]; rfl), hE⟩
theorem sBad_any (v : Value) (c : List Int) (w : World) (h : Ints w v c) (hn : c.length ≤ 1000) :
    Calls Try.prog 110 #[v] w fun e w' => e = .returned (.bool (id (badF c))) ∧ Ext w w' := by
  obtain ⟨ao, k, adr, rfl, hlen, hadr, hcell⟩ := h.op
  have hix := ints_index (c := k) elI szI hadr
  clear hadr h
  go_enter Try.func110, Try.ntmps110
  go_wp2_with fail
  go_loopw [4] (fun i wr => ∃ x : Nat, 1 ≤ x ∧ 2 * x ≤ c.length + 2 ∧ i = .int .i64 x ∧ (∀ y, 1 ≤ y → y < x → eqAt c y = false) ∧ Ext w wr) (fun i _ => c.length + 2 - (intOf i).toNat)
  case atStart => exact ⟨1, by omega, by omega, rfl, by omega, Ext.refl _⟩
  case round =>
    obtain ⟨x, hx1, hx2, rfl, hall, hE⟩ := hrel
    have Hall := Lib.hid hall
    clear hall
    by_cases hlt : 2 * x ≤ c.length
    · have hc1 := fun U => hcell (x - 1) _ (by omega) (lat_ext w U)
      have hc2 := fun U => hcell (c.length - 1) _ (by omega) (lat_ext w U)
      have hc3 := fun U => hcell (c.length - x - 1) _ (by omega) (lat_ext w U)
      have ix1 : ∀ W, (Instr.indexAt 22 (.slice ao c.length k) (.int .i64 ((x : Int) - 1))).run Try.prog W = .ok (.pointer (some (adr (x - 1)))) W := fun W => by rw [show ((x : Int) - 1) = ((x - 1 : Nat) : Int) by omega]; exact hix _ W (by omega)
      have ix2 : ∀ W, (Instr.indexAt 22 (.slice ao c.length k) (.int .i64 ((c.length : Int) - 1))).run Try.prog W = .ok (.pointer (some (adr (c.length - 1)))) W := fun W => by rw [show ((c.length : Int) - 1) = ((c.length - 1 : Nat) : Int) by omega]; exact hix _ W (by omega)
      have ix3 : ∀ W, (Instr.indexAt 22 (.slice ao c.length k) (.int .i64 ((c.length : Int) - (x : Int) - 1))).run Try.prog W = .ok (.pointer (some (adr (c.length - x - 1)))) W := fun W => by rw [show ((c.length : Int) - (x : Int) - 1) = ((c.length - x - 1 : Nat) : Int) by omega]; exact hix _ W (by omega)
      have hg1 : (1 : Int) ≤ (c.length : Int) - (x : Int) := by omega
      have hg2 : (x : Int) < (c.length : Int) := by omega
      have hg3 : (2 : Int) * (x : Int) ≤ (c.length : Int) := by omega
      clear hix hcell
      cases e1 : (nth c (x - 1) == nth c (c.length - 1))
      · have He := Lib.hid (eqAt_no1 e1)
        go_wp2_with fail
        (refine wp_region_lat (w) (by kernel_rfl) (by kernel_rfl) hE ?_); (repeat (go_big_quiet_step (first | fail))); (refine wpQuiet_nil ?_); (intro W hE'); (replace hE := lat_of hE'); (clear hE')
        go_wp2_with fail
        go_roundw
        case rel => exact ⟨x + 1, by omega, by omega, by go_num, fun y hy1 hy2 => by by_cases e : y = x; (subst e; exact He.out); exact Hall.out y hy1 (by omega), hE⟩
        case measure => (simp [intOf]; omega)
      · cases e2 : (nth c (c.length - x - 1) == nth c (c.length - 1))
        · have He := Lib.hid ((eqAt_yes1 e1).trans e2)
          go_wp2_with fail
          (refine wp_region_lat (w) (by kernel_rfl) (by kernel_rfl) hE ?_); (repeat (go_big_quiet_step (first | fail))); (refine wpQuiet_nil ?_); (intro W hE'); (replace hE := lat_of hE'); (clear hE')
          go_wp2_with fail
          go_roundw
          case rel => exact ⟨x + 1, by omega, by omega, by go_num, fun y hy1 hy2 => by by_cases e : y = x; (subst e; exact He.out); exact Hall.out y hy1 (by omega), hE⟩
          case measure => (simp [intOf]; omega)
        · have He := Lib.hid (badF_yes hx1 hlt ((eqAt_yes1 e1).trans e2))
          go_wp2_with fail
          (refine wp_region_lat (w) (by kernel_rfl) (by kernel_rfl) hE ?_); (repeat (go_big_quiet_step (first | fail))); (refine wpQuiet_nil ?_); (intro W hE'); (replace hE := lat_of hE'); (clear hE')
          go_wp2_with fail
          go_ret
          exact ⟨ret_bool (by rw [He.out]; rfl), hE⟩
    · have He := Lib.hid (badF_no (c := c) (n := x) (by omega) Hall.out)
      clear hix hcell
      go_wp2_with fail
      go_ret
      exact ⟨ret_bool (by rw [He.out]; rfl), hE⟩
end Go.Zz
