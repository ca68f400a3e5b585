/- Sequences of elements: IsSequence, parts, totals, the shortest part with the sum 0. -/
import Derived.Test.YtohdnnamjcfnnaaC29
import Derived.Test.YtohdnnamjcfnnaaPs
import Derived.Test.YtohdnnamjcfnnaaAe
import Derived.Deep.RegionHeld3
import Derived.Deep.RegionWith
namespace Go.Zz
open Go.RowKit Go.Proofs
set_option maxHeartbeats 1000000
set_option maxRecDepth 20000

theorem Calls.ext_of_same {P : Program} {f : FuncId} {args : Array Value} {w : World} {v : Value} (h : Calls P f args w fun e w' => e = .returned v ∧ w = w') :
    Calls P f args w fun e w' => e = .returned v ∧ Ext w w' := h.mono fun _ _ ⟨he, hw⟩ => ⟨he, hw ▸ Ext.refl _⟩
theorem cmpLess_any (a b : Int) (w : World) :
    Calls Try.prog 233 #[.int .i64 a, .int .i64 b] w fun e w' => e = .returned (.bool (decide (a < b))) ∧ w = w' := by
  have hn : ∀ (x : Int) (W : World), Calls Try.prog 248 #[.int .i64 x] W fun e w' => e = .returned (.bool false) ∧ W = w' := fun x W => by
    go_enter Try.func248, Try.ntmps248
    go_wp2_with fail
    go_ret
    exact ⟨by simp, rfl⟩
  have hd : ∃ d, d = decide (a < b) := ⟨_, rfl⟩
  go_enter Try.func233, Try.ntmps233
  go_wp2_with (first | (go_at_call 248; refine (hn _ _).mono ?_; rintro e w' ⟨rfl, rfl⟩))
  go_ret
  exact ⟨rfl, rfl⟩
theorem cmpLess_val (a b : Int) (w : World) {c : Bool} (hc : decide (a < b) = c) :
    Calls Try.prog 233 #[.int .i64 a, .int .i64 b] w fun e w' => e = .returned (.bool c) ∧ w = w' := by subst hc; exact cmpLess_any a b w
theorem slicesIsSorted_any (u : Value) (xs : List Int) (w : World) (h : Ints w u xs) :
    Calls Try.prog 194 #[u] w fun e w' => e = .returned (.bool (sortB xs)) ∧ Ext w w' := by
  obtain ⟨ao, c, adr, rfl, hlen, hadr, hcell⟩ := h.op
  have hix := ints_index (c := c) elI szI hadr
  have Hit := Lib.hid (sortB_iff xs)
  have Hno : Hid (∀ j, 0 < j → j < xs.length → nth xs j < nth xs (j - 1) → sortB xs = false) := Lib.hid fun j a b c => sortB_no a b c
  have hE := Ext.refl w
  clear h hadr
  go_enter Try.func194, Try.ntmps194
  go_wp2_with fail
  go_loopw [3] (fun i wr => ∃ z : Int, z < (xs.length : Int) ∧ -1 ≤ z ∧ i = .int .i64 z ∧ (∀ j : Nat, z < (j : Int) → j < xs.length → nth xs (j - 1) ≤ nth xs j) ∧ Ext w wr) (fun i _ => (intOf i).toNat)
  case atStart => exact ⟨_, by omega, by omega, rfl, fun j h1 h2 => by omega, hE⟩
  case round =>
    clear hE
    obtain ⟨z, hz1, hz2, rfl, hall, hE⟩ := hrel
    have Hall := Lib.hid hall
    clear hall
    by_cases hp : 0 < z
    · obtain ⟨k, rfl⟩ := Int.eq_ofNat_of_zero_le (show 0 ≤ z by omega)
      have hk : k < xs.length := by omega
      have hk0 : 0 < k := by omega
      obtain ⟨q, hq⟩ : ∃ q, q + 1 = k := ⟨k - 1, by omega⟩
      have hw : IntKind.i64.wrap ((k : Int) - 1) = (q : Int) := by rw [← hq]; exact (IntWalk.i64_in _ (by omega)).trans (by omega)
      have hql : q < xs.length := by omega
      have hck := fun U => hcell k _ hk (hE.trans (lat_ext wr U))
      have hcq := fun U => hcell q _ hql (hE.trans (lat_ext wr U))
      have Hqk := Lib.hid (show q = k - 1 by omega)
      clear hq
      have hE1 := hE
      clear hE
      have hE := Ext.refl wr
      cases hd : decide (nth xs k < nth xs q)
      · have Hd := Lib.hid (of_decide_eq_false hd)
        go_wp2_with fail
        (refine wp_region_lat (wr) (by kernel_rfl) (by kernel_rfl) hE ?_); (repeat (go_big_quiet_step (first | (go_at_call 233; exact Calls.lat_same (cmpLess_val _ _ _ hd))))); (refine wpQuiet_nil ?_); (intro W hE'); (replace hE := lat_of hE'); (clear hE')
        go_wp2_with fail
        go_roundw
        case rel => exact ⟨(q : Int), by have := Hqk.out; omega, by omega, rfl, fun j h1 h2 => by by_cases e : j = k; (subst e; have := Hd.out; rw [Hqk.out] at this; omega); exact Hall.out j (by have := Hqk.out; omega) h2, hE1.trans hE⟩
        case measure => (have := Hqk.out; simp [intOf]; omega)
      · have Hd : Hid (sortB xs = false) := Lib.hid (Hno.out k hk0 hk (by rw [← Hqk.out]; exact of_decide_eq_true hd))
        go_wp2_with fail
        (refine wp_region_lat (wr) (by kernel_rfl) (by kernel_rfl) hE ?_); (repeat (go_big_quiet_step (first | (go_at_call 233; exact Calls.lat_same (cmpLess_val _ _ _ hd))))); (refine wpQuiet_nil ?_); (intro W hE'); (replace hE := lat_of hE'); (clear hE')
        go_wp2_with fail
        go_ret
        exact ⟨ret_bool Hd.out.symm, hE1.trans hE⟩
    · have Hz : Hid (sortB xs = true) := Lib.hid (Hit.out.2 fun j h0 hj => Hall.out j (by omega) hj)
      go_wp2_with fail
      go_ret
      exact ⟨ret_bool Hz.out.symm, hE⟩
theorem slicesIsSorted_val (u : Value) (xs : List Int) (w : World) (h : Ints w u xs) {c : Bool} (hc : sortB xs = c) :
    Calls Try.prog 194 #[u] w fun e w' => e = .returned (.bool c) ∧ Ext w w' := by subst hc; exact slicesIsSorted_any u xs w h
theorem IsGroup_val (v : Value) (l : List Int) (w : World) (h : Ints w v l) {c : Bool} (hc : isGrp l = c) :
    Calls Try.prog 150 #[.agg #[v]] w fun e w' => e = .returned (.bool c) ∧ Ext w w' := by subst hc; exact IsGroup_any v l w h
theorem IsSequence_any (v u : Value) (l xs : List Int) (w : World) (h : Ints w v l) (hu : Ints w u xs) :
    Calls Try.prog 111 #[.agg #[v], u] w fun e w' => e = .returned (.bool (seqB l xs)) ∧ Ext w w' := by
  obtain ⟨wb, hwb⟩ : ∃ wb, wb = w.alloc (.cells #[v] 28) := ⟨_, rfl⟩
  have hE0 := (Ext.refl w).alloc (.cells #[v] 28)
  have hb := box_cell w v 28
  rw [← hwb] at hE0 hb
  have hg : ∀ W, Ext wb W → Ints W v l := fun W hW => h.ext (hE0.trans hW)
  have hgu : Hid (∀ W, Ext wb W → Ints W u xs) := Lib.hid fun W hW => hu.ext (hE0.trans hW)
  have hE := Ext.refl wb
  have Hwb := Lib.hid hwb
  clear hwb h
  obtain ⟨ao, c, adr, rfl, hlen, hadr, hcell⟩ := (hgu.out wb hE).op
  have hix := ints_index (c := c) elI szI hadr
  have Hhas : Hid (∀ k, k < xs.length → hasB l (nth xs k) = false → seqB l xs = false) := Lib.hid fun k a b => seqB_has a b
  have Hend := Lib.hid (fun h => seqB_end (l := l) (xs := xs) h)
  clear hadr hu
  go_enter Try.func111, Try.ntmps111
  go_wp2_with fail
  rw [← Hwb.out]
  go_loopw [9] (fun i wr => ∃ k : Nat, k ≤ xs.length ∧ i = .int .i64 k ∧ (∀ j, j < k → hasB l (nth xs j) = true) ∧ Ext wb wr) (fun i _ => xs.length - (intOf i).toNat)
  case atStart => exact ⟨0, by omega, rfl, by omega, hE⟩
  case round =>
    clear hE
    obtain ⟨k, hk, rfl, hall, hE⟩ := hrel
    have Hall := Lib.hid hall
    clear hall
    have hbx := hb _ hE
    by_cases hlt : k < xs.length
    · have hck := hcell k _ hlt hE
      cases hh : hasB l (nth xs k)
      · have Hz := Lib.hid (Hhas.out k hlt hh)
        go_wp2_with (first | (go_at_call 98; refine (has_val _ _ _ _ (hg _ hE) (hh)).mono ?_; rintro e w' ⟨rfl, hE'⟩; replace hE := hE.trans hE'; clear hE'))
        go_ret
        exact ⟨ret_bool Hz.out.symm, hE0.trans hE⟩
      · have Hk := Lib.hid hh
        go_wp2_with (first | (go_at_call 98; refine (has_val _ _ _ _ (hg _ hE) (hh)).mono ?_; rintro e w' ⟨rfl, hE'⟩; replace hE := hE.trans hE'; clear hE'))
        go_roundw
        case rel => exact ⟨k + 1, by omega, by go_num, fun j hj => by by_cases e : j = k; (subst e; exact Hk.out); exact Hall.out j (by omega), hE⟩
        case measure => (simp [intOf]; omega)
    · have hkl : k = xs.length := by omega
      subst hkl
      have He := Lib.hid (Hend.out Hall.out)
      cases hgr : isGrp l
      · have Hz : Hid (seqB l xs = false) := Lib.hid (by rw [He.out, hgr]; rfl)
        go_wp2_with (first | (go_at_call 150; refine (IsGroup_val _ _ _ (hg _ hE) hgr).mono ?_; rintro e w' ⟨rfl, hE'⟩; replace hE := hE.trans hE'; clear hE'))
        go_ret
        exact ⟨ret_bool Hz.out.symm, hE0.trans hE⟩
      · by_cases h12 : xs.length ≤ 12
        · have Hz : Hid (seqB l xs = sortB xs) := Lib.hid (by rw [He.out, hgr, decide_eq_true h12]; rfl)
          go_wp2_with (first | (go_at_call 150; refine (IsGroup_val _ _ _ (hg _ hE) hgr).mono ?_; rintro e w' ⟨rfl, hE'⟩; replace hE := hE.trans hE'; clear hE') | (go_at_call 194; refine (slicesIsSorted_any _ _ _ (hgu.out _ hE)).mono ?_; rintro e w' ⟨rfl, hE'⟩; replace hE := hE.trans hE'; clear hE'))
          go_ret
          exact ⟨ret_bool Hz.out.symm, hE0.trans hE⟩
        · have Hz : Hid (seqB l xs = false) := Lib.hid (by rw [He.out, hgr, decide_eq_false h12]; rfl)
          have h12' : ¬ (xs.length : Int) ≤ 12 := by omega
          go_wp2_with (first | (go_at_call 150; refine (IsGroup_val _ _ _ (hg _ hE) hgr).mono ?_; rintro e w' ⟨rfl, hE'⟩; replace hE := hE.trans hE'; clear hE'))
          go_ret
          exact ⟨ret_bool Hz.out.symm, hE0.trans hE⟩
theorem IsSequence_val (v u : Value) (l xs : List Int) (w : World) (h : Ints w v l) (hu : Ints w u xs) {c : Bool} (hc : seqB l xs = c) :
    Calls Try.prog 111 #[.agg #[v], u] w fun e w' => e = .returned (.bool c) ∧ Ext w w' := by subst hc; exact IsSequence_any v u l xs w h hu
theorem sIsGroup_val (v : Value) (l : List Int) (w : World) (h : Ints w v l) {c : Bool} (hc : isGrp l = c) :
    Calls Try.prog 183 #[.agg #[v]] w fun e w' => e = .returned (.bool c) ∧ Ext w w' := by subst hc; exact sIsGroup_any v l w h
theorem sIsSequence_any (v u : Value) (l xs : List Int) (w : World) (h : Ints w v l) (hu : Ints w u xs) :
    Calls Try.prog 109 #[.agg #[v], u] w fun e w' => e = .returned (.bool (seqB l xs)) ∧ Ext w w' := by
  obtain ⟨wb, hwb⟩ : ∃ wb, wb = w.alloc (.cells #[v] 28) := ⟨_, rfl⟩
  have hE0 := (Ext.refl w).alloc (.cells #[v] 28)
  have hb := box_cell w v 28
  rw [← hwb] at hE0 hb
  have hg : ∀ W, Ext wb W → Ints W v l := fun W hW => h.ext (hE0.trans hW)
  have hgu : Hid (∀ W, Ext wb W → Ints W u xs) := Lib.hid fun W hW => hu.ext (hE0.trans hW)
  have hE := Ext.refl wb
  have Hwb := Lib.hid hwb
  clear hwb h
  obtain ⟨ao, c, adr, rfl, hlen, hadr, hcell⟩ := (hgu.out wb hE).op
  have hix := ints_index (c := c) elI szI hadr
  have Hhas : Hid (∀ k, k < xs.length → hasB l (nth xs k) = false → seqB l xs = false) := Lib.hid fun k a b => seqB_has a b
  have Hdown : Hid (∀ k, 0 < k → k < xs.length → nth xs k < nth xs (k - 1) → seqB l xs = false) := Lib.hid fun k a b c => seqB_down a b c
  have Hend := Lib.hid (fun h => seqB_end (l := l) (xs := xs) h)
  have Hit := Lib.hid (sortB_iff xs)
  clear hadr hu
  go_enter Try.func109, Try.ntmps109
  go_wp2_with fail
  rw [← Hwb.out]
  go_loopw [5] (fun i wr => ∃ k : Nat, k ≤ xs.length ∧ i = .int .i64 k ∧ (∀ j, j < k → hasB l (nth xs j) = true ∧ (0 < j → nth xs (j - 1) ≤ nth xs j)) ∧ Ext wb wr) (fun i _ => xs.length - (intOf i).toNat)
  case atStart => exact ⟨0, by omega, rfl, by omega, hE⟩
  case round =>
    clear hE
    obtain ⟨k, hk, rfl, hall, hE⟩ := hrel
    have Hall := Lib.hid hall
    clear hall
    by_cases hlt : k < xs.length
    · have hck := fun U => hcell k _ hlt (hE.trans (lat_ext wr U))
      have hbu := fun U => hb _ (hE.trans (lat_ext wr U))
      have hgr' : ∀ W, Ext wr W → Ints W v l := fun W hW => hg W (hE.trans hW)
      have hE1 := hE
      clear hE
      have hE := Ext.refl wr
      cases hh : hasB l (nth xs k)
      · have Hz := Lib.hid (Hhas.out k hlt hh)
        go_wp2_with fail
        (refine wp_region_lat (wr) (by kernel_rfl) (by kernel_rfl) hE ?_); (repeat (go_big_quiet_step (first | (go_at_call 96; exact Calls.lat (l2Is_val _ _ _ _ (hgr' _ (lat_ext wr _)) (hh)))))); (refine wpQuiet_nil ?_); (intro W hE'); (replace hE := lat_of hE'); (clear hE')
        go_wp2_with fail
        go_ret
        exact ⟨ret_bool Hz.out.symm, hE0.trans (hE1.trans hE)⟩
      · have Hk := Lib.hid hh
        by_cases h0 : k = 0
        · have Hk0 := Lib.hid h0
          have hd0 : ¬ (0 : Int) < (k : Int) := by omega
          have hdn : ¬ 0 < k := by omega
          clear h0
          go_wp2_with fail
          (refine wp_region_lat (wr) (by kernel_rfl) (by kernel_rfl) hE ?_); (repeat (go_big_quiet_step (first | (go_at_call 96; exact Calls.lat (l2Is_val _ _ _ _ (hgr' _ (lat_ext wr _)) (hh)))))); (refine wpQuiet_nil ?_); (intro W hE'); (replace hE := lat_of hE'); (clear hE')
          go_wp2_with fail
          go_roundw
          case rel => exact ⟨k + 1, by omega, by go_num, fun j hj => by by_cases e : j = k; (subst e; exact ⟨Hk.out, fun h => by have := Hk0.out; omega⟩); exact Hall.out j (by omega), hE1.trans hE⟩
          case measure => (simp [intOf]; omega)
        · have hd0 : (0 : Int) < (k : Int) := by omega
          have hk0 : 0 < k := by omega
          clear h0
          obtain ⟨q, hq⟩ : ∃ q, q + 1 = k := ⟨k - 1, by omega⟩
          have hw : IntKind.i64.wrap ((k : Int) - 1) = (q : Int) := by rw [← hq]; exact (IntWalk.i64_in _ (by omega)).trans (by omega)
          have hql : q < xs.length := by omega
          have hcq := fun U => hcell q _ hql (hE1.trans (lat_ext wr U))
          have Hqk := Lib.hid (show q = k - 1 by omega)
          clear hq
          cases hd : decide (nth xs k < nth xs q)
          · have Hd := Lib.hid (of_decide_eq_false hd)
            go_wp2_with fail
            (refine wp_region_lat (wr) (by kernel_rfl) (by kernel_rfl) hE ?_); (repeat (go_big_quiet_step (first | (go_at_call 96; exact Calls.lat (l2Is_val _ _ _ _ (hgr' _ (lat_ext wr _)) (hh)))))); (refine wpQuiet_nil ?_); (intro W hE'); (replace hE := lat_of hE'); (clear hE')
            go_wp2_with fail
            go_roundw
            case rel => exact ⟨k + 1, by omega, by go_num, fun j hj => by by_cases e : j = k; (subst e; exact ⟨Hk.out, fun _ => by have := Hd.out; rw [Hqk.out] at this; omega⟩); exact Hall.out j (by omega), hE1.trans hE⟩
            case measure => (simp [intOf]; omega)
          · have Hz := Lib.hid (Hdown.out k hk0 hlt (by rw [← Hqk.out]; exact of_decide_eq_true hd))
            go_wp2_with fail
            (refine wp_region_lat (wr) (by kernel_rfl) (by kernel_rfl) hE ?_); (repeat (go_big_quiet_step (first | (go_at_call 96; exact Calls.lat (l2Is_val _ _ _ _ (hgr' _ (lat_ext wr _)) (hh)))))); (refine wpQuiet_nil ?_); (intro W hE'); (replace hE := lat_of hE'); (clear hE')
            go_wp2_with fail
            go_ret
            exact ⟨ret_bool Hz.out.symm, hE0.trans (hE1.trans hE)⟩
    · have hkl : k = xs.length := by omega
      subst hkl
      have hbx := hb _ hE
      have He := Lib.hid (Hend.out fun j hj => (Hall.out j hj).1)
      have Hs : Hid (sortB xs = true) := Lib.hid (Hit.out.2 fun j h0 hj => (Hall.out j hj).2 h0)
      cases hgr : isGrp l
      · have Hz : Hid (seqB l xs = false) := Lib.hid (by rw [He.out, hgr]; rfl)
        go_wp2_with (first | (go_at_call 183; refine (sIsGroup_val _ _ _ (hg _ hE) hgr).mono ?_; rintro e w' ⟨rfl, hE'⟩; replace hE := hE.trans hE'; clear hE'))
        go_ret
        exact ⟨ret_bool Hz.out.symm, hE0.trans hE⟩
      · by_cases h12 : xs.length ≤ 12
        · have Hz : Hid (seqB l xs = true) := Lib.hid (by rw [He.out, hgr, decide_eq_true h12, Hs.out]; rfl)
          go_wp2_with (first | (go_at_call 183; refine (sIsGroup_val _ _ _ (hg _ hE) hgr).mono ?_; rintro e w' ⟨rfl, hE'⟩; replace hE := hE.trans hE'; clear hE'))
          go_ret
          exact ⟨ret_bool (by rw [Hz.out]; exact decide_eq_true (by omega)), hE0.trans hE⟩
        · have Hz : Hid (seqB l xs = false) := Lib.hid (by rw [He.out, hgr, decide_eq_false h12]; rfl)
          go_wp2_with (first | (go_at_call 183; refine (sIsGroup_val _ _ _ (hg _ hE) hgr).mono ?_; rintro e w' ⟨rfl, hE'⟩; replace hE := hE.trans hE'; clear hE'))
          go_ret
          exact ⟨ret_bool (by rw [Hz.out]; exact decide_eq_false (by omega)), hE0.trans hE⟩
theorem sIsSequence_val (v u : Value) (l xs : List Int) (w : World) (h : Ints w v l) (hu : Ints w u xs) {c : Bool} (hc : seqB l xs = c) :
    Calls Try.prog 109 #[.agg #[v], u] w fun e w' => e = .returned (.bool c) ∧ Ext w w' := by subst hc; exact sIsSequence_any v u l xs w h hu
end Go.Zz
