/- Diameters of graphs. -/
import Derived.Test.YtgjomoedgmofbaaC29
namespace Go.Zz
open Go.RowKit Go.Proofs
set_option maxHeartbeats 400000

theorem DiameterOfCayley_any (v : Value) (l : List Int) (a : Int) (w : World) (h : Ints w v l) :
    Calls Try.prog 91 #[.agg #[v], .int .i64 a] w fun e w' => e = .returned (.int .i64 (diamF l a)) ∧ Ext w w' := by
  obtain ⟨wb, hwb⟩ : ∃ wb, wb = w.alloc (.cells #[v] 26) := ⟨_, rfl⟩
  have hE0 := (Ext.refl w).alloc (.cells #[v] 26)
  have hb := box_cell w v 26
  rw [← hwb] at hE0 hb
  have hg : ∀ W, Ext wb W → Ints W v l := fun W hW => h.ext (hE0.trans hW)
  have hE := Ext.refl wb
  have Hsz : Hid (w.heap.size + 1 = wb.heap.size) := Lib.hid (by rw [hwb]; simp [go_sem])
  have Hwb := Lib.hid hwb
  clear hwb h
  have hbx := hb wb hE
  cases hc : connB l a
  · have Hs := Lib.hid (diamF_no hc)
    go_enter Try.func91, Try.ntmps91
    go_wp2_with fail
    rw [← Hwb.out]
    go_wp2_with (first | (go_at_call 92; refine (IsConnection_val _ _ _ _ (hg _ hE) (hc)).mono ?_; rintro e w' ⟨rfl, hE'⟩; replace hE := hE.trans hE'; clear hE'))
    go_ret
    exact ⟨ret_int Hs.out.symm, hE0.trans hE⟩
  · obtain ⟨-, -, -, -, hgr⟩ := connB_nat hc
    have Hgr := Lib.hid hgr
    have Hc := Lib.hid hc
    have hob := ord_bd hgr
    clear hgr
    go_enter Try.func91, Try.ntmps91
    go_wp2_with fail
    rw [← Hwb.out]
    go_wp2_with (first | (go_at_call 92; refine (IsConnection_val _ _ _ _ (hg _ hE) (hc)).mono ?_; rintro e w' ⟨rfl, hE'⟩; replace hE := hE.trans hE'; clear hE') | (go_at_call 108; refine (OrderOf_grp _ _ _ (hg _ hE) (Hgr)).mono ?_; rintro e w' ⟨rfl, hE'⟩; replace hE := hE.trans hE'; clear hE'))
    clear hbx hc
    go_loopw [5, 14] (fun bv xv wr => ∃ k : Nat, k ≤ ord l ∧ (∀ j : Nat, j < k → 0 ≤ distF l a 0 (j : Int)) ∧ xv = .int .i64 k ∧ bv = .int .i64 (dmTo l a k) ∧ Ext wb wr) (fun _ x _ => ord l - (intOf x).toNat)
    case atStart => exact ⟨0, by omega, by omega, rfl, rfl, hE⟩
    case round =>
      clear hE
      obtain ⟨k, hk, hall, rfl, rfl, hE⟩ := hrel
      have hbx := hb _ hE
      have Hall := Lib.hid hall
      clear hall
      by_cases hlt : k < ord l
      · have Hn := Lib.hid (dmTo_succ l a k)
        have hd := distF_bd l a 0 k
        have hm := dmTo_bd l a k
        by_cases hneg : distF l a 0 k < 0
        · have Hz := Lib.hid (diamF_neg hlt hneg)
          go_wp2_with (first | (go_at_call 76; refine (DistanceInCayley_any _ _ a 0 (k : Int) _ (hg _ hE)).mono ?_; rintro e w' ⟨rfl, hE'⟩; replace hE := hE.trans hE'; clear hE'))
          go_ret
          exact ⟨ret_int Hz.out.symm, hE0.trans hE⟩
        · have Hp : Hid (0 ≤ distF l a 0 (k : Int)) := Lib.hid (by omega)
          go_wp2_with (first | (go_at_call 76; refine (DistanceInCayley_any _ _ a 0 (k : Int) _ (hg _ hE)).mono ?_; rintro e w' ⟨rfl, hE'⟩; replace hE := hE.trans hE'; clear hE'))
          go_roundw
          case rel => exact ⟨k + 1, by omega, fun j hj => by by_cases e : j = k; (subst e; exact Hp.out); exact Hall.out j (by omega), by go_num, by rw [Hn.out]; try rfl, hE⟩
          case measure => (simp [intOf]; omega)
      · have hkl : k = ord l := by omega
        subst hkl
        have Hz := Lib.hid (diamF_yes Hc.out Hall.out)
        go_wp2_with fail
        go_ret
        exact ⟨ret_int (by rw [Hz.out]), hE0.trans hE⟩
theorem sDiameterOfCayley_any (v : Value) (l : List Int) (a : Int) (w : World) (h : Ints w v l) :
    Calls Try.prog 93 #[.agg #[v], .int .i64 a] w fun e w' => e = .returned (.int .i64 (diamF l a)) ∧ Ext w w' := by
  obtain ⟨wb, hwb⟩ : ∃ wb, wb = w.alloc (.cells #[v] 26) := ⟨_, rfl⟩
  have hE0 := (Ext.refl w).alloc (.cells #[v] 26)
  have hb := box_cell w v 26
  rw [← hwb] at hE0 hb
  have hg : ∀ W, Ext wb W → Ints W v l := fun W hW => h.ext (hE0.trans hW)
  have hE := Ext.refl wb
  have Hsz : Hid (w.heap.size + 1 = wb.heap.size) := Lib.hid (by rw [hwb]; simp [go_sem])
  have Hwb := Lib.hid hwb
  clear hwb h
  have Hno := Lib.hid (fun hc => diamF_no (l := l) (a := a) hc)
  have hob := ordF_bd l
  have Hof : Hid (∀ k : Nat, (k : Int) < ordF l → k < ord l ∧ isGrp l = true) := Lib.hid (fun k hk => by
    cases hg : isGrp l
    · rw [ordF_f hg] at hk; omega
    · rw [ordF_t hg] at hk; exact ⟨by omega, rfl⟩)
  have Hend : Hid (∀ k : Nat, k ≤ ordF l → ¬ (k : Int) < ordF l → connB l a = true → k = ord l) := Lib.hid (fun k hk h1 hc => by
    obtain ⟨-, -, -, -, hgr⟩ := connB_nat hc
    rw [ordF_t hgr] at hk h1; omega)
  go_enter Try.func93, Try.ntmps93
  go_wp2_with fail
  rw [← Hwb.out]
  go_loopw [5, 6] (fun bv xv wr => ∃ k : Nat, (k : Int) ≤ ordF l ∧ (∀ j : Nat, j < k → 0 ≤ distF l a 0 (j : Int)) ∧ xv = .int .i64 k ∧ bv = .int .i64 (dmTo l a k) ∧ Ext wb wr) (fun _ x _ => (ordF l).toNat - (intOf x).toNat)
  case atStart => exact ⟨0, by omega, by omega, rfl, rfl, hE⟩
  case round =>
    clear hE
    obtain ⟨k, hk, hall, rfl, rfl, hE⟩ := hrel
    have hbx := hb _ hE
    have Hall := Lib.hid hall
    clear hall
    by_cases hlt : (k : Int) < ordF l
    · obtain ⟨hlt2, hgr⟩ := Hof.out k hlt
      have Hgr := Lib.hid hgr
      clear hgr
      have Hn := Lib.hid (dmTo_succ l a k)
      have hd := distF_bd l a 0 k
      have hm := dmTo_bd l a k
      by_cases hneg : distF l a 0 k < 0
      · have Hz := Lib.hid (diamF_neg hlt2 hneg)
        go_wp2_with (first | (go_at_call 19; refine (sOrderOf_any _ _ _ (hg _ hE)).mono ?_; rintro e w' ⟨rfl, hE'⟩; replace hE := hE.trans hE'; clear hE') | (go_at_call 77; refine (sDistanceInCayley_any _ _ a 0 (k : Int) _ (hg _ hE)).mono ?_; rintro e w' ⟨rfl, hE'⟩; replace hE := hE.trans hE'; clear hE'))
        go_ret
        exact ⟨ret_int Hz.out.symm, hE0.trans hE⟩
      · have Hp : Hid (0 ≤ distF l a 0 (k : Int)) := Lib.hid (by omega)
        go_wp2_with (first | (go_at_call 19; refine (sOrderOf_any _ _ _ (hg _ hE)).mono ?_; rintro e w' ⟨rfl, hE'⟩; replace hE := hE.trans hE'; clear hE') | (go_at_call 77; refine (sDistanceInCayley_any _ _ a 0 (k : Int) _ (hg _ hE)).mono ?_; rintro e w' ⟨rfl, hE'⟩; replace hE := hE.trans hE'; clear hE'))
        go_roundw
        case rel => exact ⟨k + 1, by omega, fun j hj => by by_cases e : j = k; (subst e; exact Hp.out); exact Hall.out j (by omega), by go_num, by rw [Hn.out]; try rfl, hE⟩
        case measure => (simp [intOf]; omega)
    · cases hc : connB l a
      · have Hz := Lib.hid (Hno.out hc)
        go_wp2_with (first | (go_at_call 19; refine (sOrderOf_any _ _ _ (hg _ hE)).mono ?_; rintro e w' ⟨rfl, hE'⟩; replace hE := hE.trans hE'; clear hE') | (go_at_call 165; refine (sIsConnection_val _ _ _ _ (hg _ hE) (hc)).mono ?_; rintro e w' ⟨rfl, hE'⟩; replace hE := hE.trans hE'; clear hE'))
        go_ret
        exact ⟨ret_int Hz.out.symm, hE0.trans hE⟩
      · have Hk := Lib.hid (Hend.out k hk (by omega) hc)
        have Hz : Hid (diamF l a = dmTo l a k) := Lib.hid (by rw [diamF_yes hc (fun j hj => Hall.out j (by have := Hk.out; omega)), Hk.out])
        go_wp2_with (first | (go_at_call 19; refine (sOrderOf_any _ _ _ (hg _ hE)).mono ?_; rintro e w' ⟨rfl, hE'⟩; replace hE := hE.trans hE'; clear hE') | (go_at_call 165; refine (sIsConnection_val _ _ _ _ (hg _ hE) (hc)).mono ?_; rintro e w' ⟨rfl, hE'⟩; replace hE := hE.trans hE'; clear hE'))
        go_ret
        exact ⟨ret_int Hz.out.symm, hE0.trans hE⟩
end Go.Zz
