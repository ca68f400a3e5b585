/- Shifts, progressions and boxes of the reference, as the draws call them: what is returned is some number. -/
import Derived.Test.YtgkojfjbfmpaaaaGreatGr7
import Derived.Test.YtgkojfjbfmpaaaaGreatGr4
import Derived.Test.YtgkojfjbfmpaaaaGreatGr5
import Derived.Test.YtgkojfjbfmpaaaaGreatGr15
namespace Go.Zz
open Go.RowKit Go.Proofs
set_option maxHeartbeats 8000000
set_option maxRecDepth 20000

theorem sShiftSet_ex (v : Value) (l : List Int) (a x : Int) (w : World) (h : Ints w v l) :
    Calls Tryz.prog 75 #[.agg #[v], .int .i64 a, .int .i64 x] w fun e w' => ∃ y, e = .returned (.int .i64 y) ∧ Ext w w' := by
  obtain ⟨wb, hwb⟩ : ∃ wb, wb = w.alloc (.cells #[v] 26) := ⟨_, rfl⟩
  have hE0 := (Ext.refl w).alloc (.cells #[v] 26)
  have hb := box_cell w v 26
  rw [← hwb] at hE0 hb
  have hg : ∀ W, Ext wb W → Ints W v l := fun W hW => h.ext (hE0.trans hW)
  have hE := Ext.refl wb
  have Hsz : Hid (w.heap.size + 1 = wb.heap.size) := Lib.hid (by rw [hwb]; simp [go_sem])
  have Hwb := Lib.hid hwb
  clear hwb h
  have hbx := hb wb hE
  cases hs : isSetB l a
  · go_enter Tryz.func75, Tryz.ntmps75
    go_wp2_with fail
    rw [← Hwb.out]
    refine (sIsSet_val _ _ _ _ (hg _ hE) hs).mono ?_
    rintro e w1 ⟨rfl, hE1⟩
    go_wp2_with fail
    go_ret
    exact ⟨_, rfl, hE0.trans (hE.trans hE1)⟩
  · obtain ⟨a, rfl, -, ha, hgr⟩ := isSetB_nat hs
    have Hgr := Lib.hid hgr
    clear hgr
    cases hx : hasB l x
    · go_enter Tryz.func75, Tryz.ntmps75
      go_wp2_with fail
      rw [← Hwb.out]
      refine (sIsSet_val _ _ _ _ (hg _ hE) hs).mono ?_
      rintro e w1 ⟨rfl, hE1⟩
      replace hE := hE.trans hE1
      go_wp2_with fail
      refine (l2Is_val _ _ _ _ (hg _ hE) hx).mono ?_
      rintro e w2 ⟨rfl, hE2⟩
      go_wp2_with fail
      go_ret
      exact ⟨_, rfl, hE0.trans (hE.trans hE2)⟩
    · obtain ⟨x, rfl, hxl, -⟩ := hasB_nat hx
      have hob := ord_bd Hgr.out
      go_enter Tryz.func75, Tryz.ntmps75
      go_wp2_with fail
      rw [← Hwb.out]
      refine (sIsSet_val _ _ _ _ (hg _ hE) hs).mono ?_
      rintro e w1 ⟨rfl, hE1⟩
      replace hE := hE.trans hE1
      go_wp2_with fail
      refine (l2Is_val _ _ _ _ (hg _ hE) hx).mono ?_
      rintro e w2 ⟨rfl, hE2⟩
      replace hE := hE.trans hE2
      go_wp2_with fail
      refine (l3Shift_any _ _ a x _ (hg _ hE) Hgr ha (by omega)).mono ?_
      rintro e w3 ⟨rfl, hE3⟩
      go_wp2_with fail
      go_ret
      exact ⟨_, rfl, hE0.trans (hE.trans hE3)⟩
theorem sProgressionSet_ex (v : Value) (l : List Int) (s d n : Int) (w : World) (h : Ints w v l) :
    Calls Tryz.prog 90 #[.agg #[v], .int .i64 s, .int .i64 d, .int .i64 n] w fun e w' => ∃ y, e = .returned (.int .i64 y) ∧ Ext w w' := by
  obtain ⟨wb, hwb⟩ : ∃ wb, wb = w.alloc (.cells #[v] 26) := ⟨_, rfl⟩
  have hE0 := (Ext.refl w).alloc (.cells #[v] 26)
  have hb := box_cell w v 26
  rw [← hwb] at hE0 hb
  have hg : ∀ W, Ext wb W → Ints W v l := fun W hW => h.ext (hE0.trans hW)
  have hE := Ext.refl wb
  have Hsz : Hid (w.heap.size + 1 = wb.heap.size) := Lib.hid (by rw [hwb]; simp [go_sem])
  have Hwb := Lib.hid hwb
  clear hwb h
  have hbx := hb wb hE
  cases hs : hasB l s
  · go_enter Tryz.func90, Tryz.ntmps90
    go_wp2_with fail
    rw [← Hwb.out]
    refine (l2Is_val _ _ _ _ (hg _ hE) hs).mono ?_
    rintro e w1 ⟨rfl, hE1⟩
    go_wp2_with fail
    go_ret
    exact ⟨_, rfl, hE0.trans (hE.trans hE1)⟩
  · obtain ⟨s, rfl, hsl, hgr⟩ := hasB_nat hs
    have Hgr := Lib.hid hgr
    have hob := ord_bd hgr
    clear hgr
    cases hd : hasB l d
    · go_enter Tryz.func90, Tryz.ntmps90
      go_wp2_with fail
      rw [← Hwb.out]
      refine (l2Is_val _ _ _ _ (hg _ hE) hs).mono ?_
      rintro e w1 ⟨rfl, hE1⟩
      replace hE := hE.trans hE1
      go_wp2_with fail
      refine (l2Is_val _ _ _ _ (hg _ hE) hd).mono ?_
      rintro e w2 ⟨rfl, hE2⟩
      go_wp2_with fail
      go_ret
      exact ⟨_, rfl, hE0.trans (hE.trans hE2)⟩
    · obtain ⟨d, rfl, hdl, -⟩ := hasB_nat hd
      cases hn : inB n 0 24
      · go_enter Tryz.func90, Tryz.ntmps90
        go_wp2_with fail
        rw [← Hwb.out]
        refine (l2Is_val _ _ _ _ (hg _ hE) hs).mono ?_
        rintro e w1 ⟨rfl, hE1⟩
        replace hE := hE.trans hE1
        go_wp2_with fail
        refine (l2Is_val _ _ _ _ (hg _ hE) hd).mono ?_
        rintro e w2 ⟨rfl, hE2⟩
        replace hE := hE.trans hE2
        go_wp2_with fail
        refine (l1In_any n 0 24 _).mono ?_
        rw [hn]
        rintro e w3 ⟨rfl, rfl⟩
        go_wp2_with fail
        go_ret
        exact ⟨_, rfl, hE0.trans hE⟩
      · have hn2 := inB_t.1 hn
        obtain ⟨n, rfl⟩ := Int.eq_ofNat_of_zero_le hn2.1
        have cP := fun W (hW : Ext wb W) => l10Progression_any v l s d n W (hg W hW) Hgr (by omega) (by omega) (by omega)
        go_enter Tryz.func90, Tryz.ntmps90
        go_wp2_with fail
        rw [← Hwb.out]
        refine (l2Is_val _ _ _ _ (hg _ hE) hs).mono ?_
        rintro e w1 ⟨rfl, hE1⟩
        replace hE := hE.trans hE1
        go_wp2_with fail
        refine (l2Is_val _ _ _ _ (hg _ hE) hd).mono ?_
        rintro e w2 ⟨rfl, hE2⟩
        replace hE := hE.trans hE2
        go_wp2_with fail
        refine (l1In_any n 0 24 _).mono ?_
        rw [hn]
        rintro e w3 ⟨rfl, rfl⟩
        go_wp2_with fail
        refine (cP _ hE).mono ?_
        rintro e w4 ⟨rfl, hE4⟩
        go_wp2_with fail
        go_ret
        exact ⟨_, rfl, hE0.trans (hE.trans hE4)⟩
/-- lists that make a box -/
def BoxOk (l P Q : List Int) : Prop := isGrp l = true ∧ P.length = Q.length ∧ P.length ≤ 3 ∧ ∀ i, i < P.length → hasB l (nth P i) = true ∧ 1 ≤ nth Q i ∧ nth Q i ≤ 24
theorem l14Fine_ex (v u t : Value) (l P Q : List Int) (w : World) (h : Ints w v l) (hu : Ints w u P) (ht : Ints w t Q) :
    Calls Tryz.prog 99 #[.agg #[v], u, t] w fun e w' => ∃ b, e = .returned (.bool b) ∧ (b = true → BoxOk l P Q) ∧ Ext w w' := by
  obtain ⟨wb, hwb⟩ : ∃ wb, wb = w.alloc (.cells #[v] 26) := ⟨_, rfl⟩
  have hE0 := (Ext.refl w).alloc (.cells #[v] 26)
  have hb := box_cell w v 26
  rw [← hwb] at hE0 hb
  have hg : ∀ W, Ext wb W → Ints W v l := fun W hW => h.ext (hE0.trans hW)
  have hE := Ext.refl wb
  have Hsz : Hid (w.heap.size + 1 = wb.heap.size) := Lib.hid (by rw [hwb]; simp [go_sem])
  have Hwb := Lib.hid hwb
  clear hwb h
  have hbx := hb wb hE
  obtain ⟨aoP, cP, adrP, rfl, hlP, hadrP, hcellP⟩ := (hu.ext hE0).op
  obtain ⟨aoQ, cQ, adrQ, rfl, hlQ, hadrQ, hcellQ⟩ := (ht.ext hE0).op
  have hixP := ints_index (c := cP) elI szI hadrP
  have hixQ := ints_index (c := cQ) elI szI hadrQ
  have HcP := Lib.hid hcellP
  have HcQ := Lib.hid hcellQ
  clear hadrP hadrQ hcellP hcellQ hu ht
  go_enter Tryz.func99, Tryz.ntmps99
  go_wp2_with fail
  rw [← Hwb.out]
  go_loopw [7] (fun s7 wr => ∃ i : Nat, i ≤ P.length ∧ s7 = .int .i64 i ∧ (∀ j, j < i → hasB l (nth P j) = true ∧ 1 ≤ nth Q j ∧ nth Q j ≤ 24) ∧ Ext wb wr) (fun s7 _ => P.length - (intOf s7).toNat)
  case atStart => exact ⟨0, by omega, rfl, fun j hj => by omega, hE⟩
  case round =>
    rename World => wr
    clear hE
    obtain ⟨i, hi, rfl, hall, hEr⟩ := hrel
    by_cases hlt : i < P.length
    · have hltI : (i : Int) < (P.length : Int) := by omega
      have hckU := fun U => HcP.out i (Lat wr U) hlt (hEr.trans (lat_ext wr U))
      have hbU := fun U => hb (Lat wr U) (hEr.trans (lat_ext wr U))
      have hxi := hixP i
      have hxj := hixQ i
      have Hall := Lib.hid hall
      have cI := fun U => l2Is_any v l (nth P i) (Lat wr U) (hg _ (hEr.trans (lat_ext wr U)))
      have hE := Ext.refl wr
      obtain ⟨H1, hH1⟩ : ∃ x, x = hasB l (nth P i) := ⟨_, rfl⟩
      rw [← hH1] at cI
      have HH1 := Lib.hid hH1
      obtain ⟨p, hp⟩ : ∃ x, x = nth P i := ⟨_, rfl⟩
      rw [← hp] at hckU cI
      clear hall hH1 hp
      cases H1
      · go_wp2_with fail
        (refine wp_region_lat (wr) (by kernel_rfl) (by kernel_rfl) hE ?_); (repeat (go_big_quiet_step (first | (go_at_call 101; with_reducible exact Calls.lat (cI _))))); (refine wpQuiet_nil ?_); (intro W hE'); (replace hE := lat_of hE'); (clear hE')
        go_wp2_with fail
        go_ret
        exact ⟨false, rfl, fun q => (by cases q), hE0.trans (hEr.trans hE)⟩
      · by_cases hq : i < Q.length
        · have hqI : ¬ (Q.length : Int) ≤ (i : Int) := by omega
          have hqN : decide (Q.length ≤ i) = false := decide_eq_false (by omega)
          have hqI2 : (i : Int) < (Q.length : Int) := by omega
          have hcqU := fun U => HcQ.out i (Lat wr U) hq (hEr.trans (lat_ext wr U))
          have cN := fun W => l1In_any (nth Q i) 1 24 W
          obtain ⟨B2, hB2⟩ : ∃ x, x = inB (nth Q i) 1 24 := ⟨_, rfl⟩
          rw [← hB2] at cN
          have HB2 := Lib.hid hB2
          obtain ⟨q, hqd⟩ : ∃ x, x = nth Q i := ⟨_, rfl⟩
          rw [← hqd] at hcqU cN
          clear hB2 hqd
          cases B2
          · go_wp2_with fail
            (refine wp_region_lat (wr) (by kernel_rfl) (by kernel_rfl) hE ?_); (repeat (go_big_quiet_step (first | (go_at_call 101; with_reducible exact Calls.lat (cI _)) | (go_at_call 52; with_reducible exact Calls.lat_same (cN _))))); (refine wpQuiet_nil ?_); (intro W hE'); (replace hE := lat_of hE'); (clear hE')
            go_wp2_with fail
            go_ret
            exact ⟨false, rfl, fun q => (by cases q), hE0.trans (hEr.trans hE)⟩
          · go_wp2_with fail
            (refine wp_region_lat (wr) (by kernel_rfl) (by kernel_rfl) hE ?_); (repeat (go_big_quiet_step (first | (go_at_call 101; with_reducible exact Calls.lat (cI _)) | (go_at_call 52; with_reducible exact Calls.lat_same (cN _))))); (refine wpQuiet_nil ?_); (intro W hE'); (replace hE := lat_of hE'); (clear hE')
            go_wp2_with fail
            go_roundw
            case rel => exact ⟨i + 1, by omega, by go_num, fun j hj => by
              by_cases e : j = i
              · subst e; exact ⟨HH1.out.symm, inB_t.1 HB2.out.symm⟩
              · exact Hall.out j (by omega), hEr.trans hE⟩
            case measure => (simp [intOf]; omega)
        · have hqI : (Q.length : Int) ≤ (i : Int) := by omega
          go_wp2_with fail
          (refine wp_region_lat (wr) (by kernel_rfl) (by kernel_rfl) hE ?_); (repeat (go_big_quiet_step (first | (go_at_call 101; with_reducible exact Calls.lat (cI _))))); (refine wpQuiet_nil ?_); (intro W hE'); (replace hE := lat_of hE'); (clear hE')
          go_wp2_with fail
          go_ret
          exact ⟨false, rfl, fun q => (by cases q), hE0.trans (hEr.trans hE)⟩
    · have hil : i = P.length := by omega
      subst hil
      have hltI : ¬ ((P.length : Nat) : Int) < (P.length : Int) := by omega
      have Hall := Lib.hid hall
      clear hall
      have cG := fun W (hW : Ext wb W) => sIsGroup_any v l W (hg W hW)
      obtain ⟨G, hG⟩ : ∃ x, x = isGrp l := ⟨_, rfl⟩
      have HG := Lib.hid hG
      rw [← hG] at cG
      clear hG
      go_wp2_with fail
      refine (cG _ hEr).mono ?_
      rintro e w1 ⟨rfl, hE1⟩
      replace hEr := hEr.trans hE1
      cases G
      · go_wp2_with fail
        go_ret
        exact ⟨false, rfl, fun q => (by cases q), hE0.trans hEr⟩
      · by_cases hpq : P.length = Q.length
        · have hpqI : ((P.length : Int) == (Q.length : Int)) = true := by rw [beq_iff_eq]; omega
          by_cases h3 : P.length ≤ 3
          · have h3I : (P.length : Int) ≤ 3 := by omega
            have Hpq := Lib.hid hpq
            clear hpq
            go_wp2_with fail
            go_ret
            first | exact ⟨true, rfl, fun _ => ⟨HG.out.symm, Hpq.out, h3, Hall.out⟩, hE0.trans hEr⟩ | (refine ⟨true, ?_, fun _ => ⟨HG.out.symm, Hpq.out, h3, Hall.out⟩, hE0.trans hEr⟩; simp [*]; done)
          · have h3I : ¬ (P.length : Int) ≤ 3 := by omega
            have h3N : decide (P.length ≤ 3) = false := decide_eq_false h3
            have Hpq := Lib.hid hpq
            clear hpq
            go_wp2_with fail
            go_ret
            refine ⟨false, ?_, fun q => (by cases q), hE0.trans hEr⟩
            first | rfl | (simp; omega) | (simp [h3]; done) | trace_state
        · have hpqI : ((P.length : Int) == (Q.length : Int)) = false := by rw [beq_eq_false_iff_ne]; omega
          go_wp2_with fail
          go_ret
          exact ⟨false, rfl, fun q => (by cases q), hE0.trans hEr⟩
theorem l14Box_ex (v u t : Value) (l P Q : List Int) (w : World) (h : Ints w v l) (hu : Ints w u P) (ht : Ints w t Q) (hok : BoxOk l P Q) :
    Calls Tryz.prog 100 #[.agg #[v], u, t] w fun e w' => ∃ y, e = .returned (.int .i64 y) ∧ Ext w w' := by
  obtain ⟨wb, hwb⟩ : ∃ wb, wb = w.alloc (.cells #[v] 26) := ⟨_, rfl⟩
  have hE0 := (Ext.refl w).alloc (.cells #[v] 26)
  have hb := box_cell w v 26
  rw [← hwb] at hE0 hb
  have hg : ∀ W, Ext wb W → Ints W v l := fun W hW => h.ext (hE0.trans hW)
  have hE := Ext.refl wb
  have Hsz : Hid (w.heap.size + 1 = wb.heap.size) := Lib.hid (by rw [hwb]; simp [go_sem])
  have Hwb := Lib.hid hwb
  clear hwb h
  have hbx := hb wb hE
  obtain ⟨hgr, hpq, -, hall⟩ := hok
  have Hgr := Lib.hid hgr
  have Hall := Lib.hid hall
  have hob := ord_bd hgr
  obtain ⟨aoP, cP, adrP, rfl, hlP, hadrP, hcellP⟩ := (hu.ext hE0).op
  obtain ⟨aoQ, cQ, adrQ, rfl, hlQ, hadrQ, hcellQ⟩ := (ht.ext hE0).op
  have hixP := ints_index (c := cP) elI szI hadrP
  have hixQ := ints_index (c := cQ) elI szI hadrQ
  have HcP := Lib.hid hcellP
  have HcQ := Lib.hid hcellQ
  have Hpq := Lib.hid hpq
  clear hadrP hadrQ hcellP hcellQ hu ht hgr hall hpq
  go_enter Tryz.func100, Tryz.ntmps100
  go_wp2_with fail
  rw [← Hwb.out]
  go_loopw [7, 8] (fun s7 s8 wr => ∃ (i o : Nat), i ≤ P.length ∧ o < 2 ^ 24 ∧ s8 = .int .i64 i ∧ s7 = .int .i64 o ∧ Ext wb wr) (fun _ s8 _ => P.length - (intOf s8).toNat)
  case atStart => exact ⟨0, 1, by omega, by omega, rfl, rfl, hE⟩
  case round =>
    rename World => wr
    clear hE
    obtain ⟨i, o, hi, ho, rfl, rfl, hEr⟩ := hrel
    by_cases hlt : i < P.length
    · have hltI : (i : Int) < (P.length : Int) := by omega
      have hltQ : i < Q.length := by have := Hpq.out; omega
      have hltQI : (i : Int) < (Q.length : Int) := by omega
      have hckU := fun U => HcP.out i (Lat wr U) hlt (hEr.trans (lat_ext wr U))
      have hcqU := fun U => HcQ.out i (Lat wr U) hltQ (hEr.trans (lat_ext wr U))
      have hbU := fun U => hb (Lat wr U) (hEr.trans (lat_ext wr U))
      have hxi := hixP i
      have hxj := hixQ i
      obtain ⟨h1, h2, h3⟩ := Hall.out i hlt
      obtain ⟨p, hp⟩ : ∃ x, x = nth P i := ⟨_, rfl⟩
      obtain ⟨q, hq⟩ : ∃ x, x = nth Q i := ⟨_, rfl⟩
      rw [← hp] at hckU h1
      rw [← hq] at hcqU h2 h3
      clear hp hq
      obtain ⟨p, rfl, hpl, -⟩ := hasB_nat h1
      obtain ⟨q, rfl⟩ := Int.eq_ofNat_of_zero_le (show 0 ≤ q by omega)
      have cA := fun U => l10Progression_any v l 0 p q (Lat wr U) (hg _ (hEr.trans (lat_ext wr U))) Hgr (by omega) (by omega) (by omega)
      have hb1 := prSet_bd Hgr.out (s := 0) (by omega) p q
      have cS := fun U => l4Sum_any v l o (prSet l 0 p q) (Lat wr U) (hg _ (hEr.trans (lat_ext wr U))) Hgr ho hb1
      have hb2 := sumF_bd Hgr.out o (prSet l 0 p q)
      obtain ⟨R, hR⟩ : ∃ R, R = prSet l 0 p q := ⟨_, rfl⟩
      obtain ⟨o2, ho2⟩ : ∃ R, R = sumF l o (prSet l 0 p q) := ⟨_, rfl⟩
      rw [← ho2] at cS hb2
      rw [← hR] at cA cS
      clear hR ho2 hb1 h1
      have hE := Ext.refl wr
      go_wp2_with fail
      (refine wp_region_lat (wr) (by kernel_rfl) (by kernel_rfl) hE ?_); (repeat (go_big_quiet_step (first | (go_at_call 103; with_reducible exact Calls.lat (cA _)) | (go_at_call 31; with_reducible exact Calls.lat (cS _))))); (refine wpQuiet_nil ?_); (intro W hE'); (replace hE := lat_of hE'); (clear hE')
      go_wp2_with fail
      go_roundw
      case rel => exact ⟨i + 1, o2, by omega, hb2, by go_num, rfl, hEr.trans hE⟩
      case measure => (simp [intOf]; omega)
    · have hltI : ¬ (i : Int) < (P.length : Int) := by omega
      go_wp2_with fail
      go_ret
      exact ⟨⟨_, rfl⟩, hE0.trans hEr⟩
theorem sBoxOf_ex (v u t : Value) (l P Q : List Int) (w : World) (h : Ints w v l) (hu : Ints w u P) (ht : Ints w t Q) :
    Calls Tryz.prog 74 #[.agg #[v], u, t] w fun e w' => ∃ y b, e = .returned (.tuple #[.int .i64 y, .bool b]) ∧ Ext w w' := by
  obtain ⟨wb, hwb⟩ : ∃ wb, wb = w.alloc (.cells #[v] 26) := ⟨_, rfl⟩
  have hE0 := (Ext.refl w).alloc (.cells #[v] 26)
  have hb := box_cell w v 26
  rw [← hwb] at hE0 hb
  have hg : ∀ W, Ext wb W → Ints W v l := fun W hW => h.ext (hE0.trans hW)
  have hE := Ext.refl wb
  have Hsz : Hid (w.heap.size + 1 = wb.heap.size) := Lib.hid (by rw [hwb]; simp [go_sem])
  have Hwb := Lib.hid hwb
  clear hwb h
  have hbx := hb wb hE
  have hu1 := hu.ext hE0
  have ht1 := ht.ext hE0
  clear hu ht
  go_enter Tryz.func74, Tryz.ntmps74
  go_wp2_with fail
  rw [← Hwb.out]
  refine (l14Fine_ex _ _ _ l P Q _ (hg _ hE) hu1 ht1).mono ?_
  rintro e w1 ⟨b, rfl, hok, hE1⟩
  replace hE := hE.trans hE1
  cases b
  · clear hok
    go_wp2_with fail
    exact bodyPost_ret (v := .tuple #[.int .i64 0, .bool false]) (by simp [results, Tryz.results74, go_sem]) rfl ⟨_, _, rfl, hE0.trans hE⟩
  · have hok2 := hok rfl
    clear hok
    go_wp2_with fail
    refine (l14Box_ex _ _ _ l P Q _ (hg _ hE) (hu1.ext hE1) (ht1.ext hE1) hok2).mono ?_
    rintro e w2 ⟨y, rfl, hE2⟩
    go_wp2_with fail
    exact bodyPost_ret (v := .tuple #[.int .i64 y, .bool true]) (by simp [results, Tryz.results74, go_sem]) rfl ⟨_, _, rfl, hE0.trans (hE.trans hE2)⟩
end Go.Zz

/- The drawing of the steps and sizes of a box. -/
namespace Go.Zz
open Go.RowKit Go.Proofs
set_option maxHeartbeats 8000000
set_option maxRecDepth 20000

theorem Cur.grown {w0 w w' : World} {p : Nat} {row : Option Nat} (h : Cur w0 w p) (hg : w.grownBy w' row) (hn : row ≠ some p) (hb : ∀ k, row = some k → w0.heap.size ≤ k) : Cur w0 w' p := by
  obtain ⟨ao, l, c, i, n, h1, h2, h3, h4, h5⟩ := h
  exact ⟨ao, l, c, i, n, h1.grown hg (fun k hk e => hn (by rw [hk, e])), h2, h3, h4, h5.grown hg hb⟩
theorem Cur.nb {w0 w wB : World} {p : Nat} (h : Cur w0 w p) {v : Value} {l : List Int} (hO : Own 3 wB w v l) : v.ownBlock ≠ some p := by
  obtain ⟨ao, l, c, i, n, h1, -⟩ := h
  exact hO.ne_blk h1 (by decide)
/-- what a round of the loop keeps -/
structure L14 (w w1 wr : World) (p g : Nat) (V : Value) (L : List Int) (sP sQ : Value) (P Q : List Int) : Prop where
  hP : Own 3 w wr sP P
  hQ : Own 3 w wr sQ Q
  hV : Own 3 w1 wr V L
  pq : sP.ownBlock = none ∨ sP.ownBlock ≠ sQ.ownBlock
  vp : V.ownBlock = none ∨ V.ownBlock ≠ sP.ownBlock
  vq : V.ownBlock = none ∨ V.ownBlock ≠ sQ.ownBlock
  hR : Blk wr w.heap.size 26 #[.slice none 0 0]
  hG : Blk wr g 26 #[V]
  hC : Cur w wr p
theorem L14.drw {w w1 wr wr' : World} {p g : Nat} {V sP sQ : Value} {L P Q : List Int} (h : L14 w w1 wr p g V L sP sQ P Q) (hF : Drw p wr wr') (hC : Cur w wr' p) (hg : g ≠ p) (hw : w.heap.size ≠ p) : L14 w w1 wr' p g V L sP sQ P Q :=
  ⟨Fr.own hF h.hP (h.hC.nb h.hP) (by cases sP.ownBlock <;> simp), Fr.own hF h.hQ (h.hC.nb h.hQ) (by cases sQ.ownBlock <;> simp), Fr.own hF h.hV (h.hC.nb h.hV) (by cases V.ownBlock <;> simp), h.pq, h.vp, h.vq, hF.blk h.hR hw, hF.blk h.hG hg, hC⟩
theorem nw_ne {a o o' : Option Nat} {W : World} (hn : Nw o W o') (h : a = none ∨ a ≠ o) (ha : ∀ k, a = some k → k < W.heap.size) : a = none ∨ a ≠ o' := by
  rcases h with h | h
  · exact Or.inl h
  · cases a with
    | none => exact Or.inl rfl
    | some k =>
      refine Or.inr fun e => ?_
      rcases hn with hn | hn
      · exact h (by rw [e, hn])
      · have := hn k e.symm; have := ha k rfl; omega
theorem none_sym {a b : Option Nat} (h : a = none ∨ a ≠ b) : b = none ∨ b ≠ a := by
  cases b with
  | none => exact Or.inl rfl
  | some k => exact Or.inr fun e => by rcases h with h | h <;> simp_all
theorem L14.appP {w w1 wr wr' : World} {p g : Nat} {V sP sQ sP' : Value} {L P Q P' : List Int} (h : L14 w w1 wr p g V L sP sQ P Q) (hO : Own 3 w wr' sP' P') (hG : wr.grownBy wr' sP.ownBlock) (hN : Nw sP.ownBlock wr sP'.ownBlock) : L14 w w1 wr' p g V L sP' sQ P' Q :=
  ⟨hO, h.hQ.kept hG (none_sym h.pq), h.hV.kept hG h.vp, none_sym (nw_ne hN (none_sym h.pq) (fun k hk => (h.hQ.blk k hk).2)), nw_ne hN h.vp (fun k hk => (h.hV.blk k hk).2), h.vq,
    h.hR.grown hG (fun k hk e => h.hP.ne_blk h.hR (by decide) (by rw [hk, e])), h.hG.grown hG (fun k hk e => h.hP.ne_blk h.hG (by decide) (by rw [hk, e])), h.hC.grown hG (h.hC.nb h.hP) (fun k hk => (h.hP.blk k hk).1)⟩
theorem L14.appQ {w w1 wr wr' : World} {p g : Nat} {V sP sQ sQ' : Value} {L P Q Q' : List Int} (h : L14 w w1 wr p g V L sP sQ P Q) (hO : Own 3 w wr' sQ' Q') (hG : wr.grownBy wr' sQ.ownBlock) (hN : Nw sQ.ownBlock wr sQ'.ownBlock) : L14 w w1 wr' p g V L sP sQ' P Q' :=
  ⟨h.hP.kept hG h.pq, hO, h.hV.kept hG h.vq, nw_ne hN h.pq (fun k hk => (h.hP.blk k hk).2), h.vp, nw_ne hN h.vq (fun k hk => (h.hV.blk k hk).2),
    h.hR.grown hG (fun k hk e => h.hQ.ne_blk h.hR (by decide) (by rw [hk, e])), h.hG.grown hG (fun k hk e => h.hQ.ne_blk h.hG (by decide) (by rw [hk, e])), h.hC.grown hG (h.hC.nb h.hQ) (fun k hk => (h.hQ.blk k hk).1)⟩
theorem L14.alloc {w w1 wr : World} {p g : Nat} {V sP sQ : Value} {L P Q : List Int} (h : L14 w w1 wr p g V L sP sQ P Q) (o : Obj) : L14 w w1 (wr.alloc o) p g V L sP sQ P Q :=
  ⟨h.hP.alloc o, h.hQ.alloc o, h.hV.alloc o, h.pq, h.vp, h.vq, h.hR.alloc o, h.hG.alloc o, h.hC.alloc o⟩
theorem l14Draw_any (v : Value) (l : List Int) (w : World) (h : Byts w v l) :
    Calls Tryz.prog 73 #[v] w fun e w' => ∃ ao L c aP P cP aQ Q cQ, e = .returned (.tuple #[.agg #[.slice ao (List.length L) c], .slice aP (List.length P) cP, .slice aQ (List.length Q) cQ]) ∧ Own 3 w w' (.slice ao (List.length L) c) L ∧ Ints w' (.slice aP (List.length P) cP) P ∧ Ints w' (.slice aQ (List.length Q) cQ) Q ∧ Ext w w' := by
  have hE0 := (Ext.refl w).alloc (.cells #[.slice none 0 0] 26)
  have hB0 := Blk.new w 26 #[.slice none 0 0]
  obtain ⟨wZ, hwZ⟩ : ∃ x, x = w.alloc (.cells #[.slice none 0 0] 26) := ⟨_, rfl⟩
  have hsZ : w.heap.size < wZ.heap.size := by rw [hwZ]; simp
  rw [← hwZ] at hE0 hB0
  have HwZ := Lib.hid hwZ
  clear hwZ
  go_enter Tryz.func73, Tryz.ntmps73
  go_wp2_with fail
  rw [← HwZ.out]
  refine (l1New_any _ _ w _ h hE0).mono ?_
  rintro e w1 ⟨p, rfl, hC1, hE1, hpZ⟩
  have hp := hC1.lt
  have hR1 := hB0.ext hE1
  have npw : p ≠ w.heap.size := by omega
  clear hB0 hE1 hE0
  go_wp2_with fail
  refine (l2Any_any w w1 p hC1).mono ?_
  rintro e w2 ⟨ao, L, c, rfl, hO, hC, hF2⟩
  have hs2 := hF2.size
  have hR := (hF2.blk hR1 (by omega)).alloc (.cells #[.slice ao L.length c] 26)
  have hG := Blk.new w2 26 #[.slice ao L.length c]
  have hV := hO.alloc (.cells #[.slice ao L.length c] 26)
  have hC3 := hC.alloc (.cells #[.slice ao L.length c] 26)
  obtain ⟨w3, hw3⟩ : ∃ x, x = w2.alloc (.cells #[.slice ao L.length c] 26) := ⟨_, rfl⟩
  obtain ⟨g, hg⟩ : ∃ g, g = w2.heap.size := ⟨_, rfl⟩
  have hgp : g ≠ p := by omega
  have Hs3 : Hid (w3.heap.size = g + 1) := Lib.hid (by rw [hw3, hg]; simp)
  have hsg : w2.heap.size < w3.heap.size := by rw [hw3]; simp
  rw [← hw3] at hR hG hV hC3
  rw [← hg] at hG
  have Hw3 := Lib.hid hw3
  have Hg := Lib.hid hg
  have hE3 := hC3.base
  have hOP := own_made (TI := 3) (n := 0) (by omega) hE3 [] rfl
  have hOQ := own_made (TI := 3) (n := 0) (by omega) (hE3.alloc (.cells #[] 3)) [] rfl
  rw [show (w3.alloc (.cells #[] 3)).heap.size = w3.heap.size + 1 by simp] at hOQ
  change Own _ _ (w3.alloc (.cells #[] 3)) _ _ at hOP
  change Own _ _ ((w3.alloc (.cells #[] 3)).alloc (.cells #[] 3)) _ _ at hOQ
  have hK3 : L14 w w1 ((w3.alloc (.cells #[] 3)).alloc (.cells #[] 3)) p g (.slice ao L.length c) L (.slice (some ⟨w3.heap.size, 0, none⟩) 0 0) (.slice (some ⟨w3.heap.size + 1, 0, none⟩) 0 0) [] [] := by
    have nb : ∀ b, (Value.slice ao L.length c).ownBlock = some b → b < w3.heap.size := fun b hb => (hV.blk b hb).2
    refine ⟨hOP.alloc _, hOQ, (hV.alloc _).alloc _, Or.inr (by simp [Value.ownBlock]), ?_, ?_, (hR.alloc _).alloc _, (hG.alloc _).alloc _, (hC3.alloc _).alloc _⟩
    · cases hb : (Value.slice ao L.length c).ownBlock with
      | none => exact Or.inl rfl
      | some b => exact Or.inr (by have := nb b hb; simp [Value.ownBlock]; omega)
    · cases hb : (Value.slice ao L.length c).ownBlock with
      | none => exact Or.inl rfl
      | some b => exact Or.inr (by have := nb b hb; simp [Value.ownBlock]; omega)
  clear hR hG hV hC3 hOP hOQ hE3 hw3 hg hO hC hF2 hR1 hC1 hs2 hsg
  go_wp2_with fail
  rw [← Hw3.out, ← Hg.out]
  refine (l1Below_any w _ p 4 (by omega) hK3.hC).mono ?_
  rintro e w4 ⟨n0, rfl, hb, hC4, hF4⟩
  obtain ⟨hn0, hn1⟩ := hb.2 (by omega)
  have hK4 := hK3.drw hF4 hC4 hgp (Ne.symm npw)
  clear hK3 hC4 hF4 hb
  go_wp2_with fail
  go_loopw [7, 8, 9] (fun s7 s8 s9 wr => ∃ (n : Int) (aP : Option Addr) (P : List Int) (cP : Nat) (aQ : Option Addr) (Q : List Int) (cQ : Nat), 0 ≤ n ∧ (P.length : Int) + n ≤ 3 ∧ (Q.length : Int) + n ≤ 3 ∧ s9 = .int .i64 n ∧ s7 = .slice aP P.length cP ∧ s8 = .slice aQ Q.length cQ ∧ L14 w w1 wr p g (.slice ao L.length c) L (.slice aP P.length cP) (.slice aQ Q.length cQ) P Q) (fun _ _ s9 _ => (intOf s9).toNat)
  case atStart =>
    rw [Hs3.out] at hK4
    exact ⟨n0, _, [], 0, _, [], 0, by omega, by simp; omega, by simp; omega, rfl, rfl, rfl, hK4⟩
  case round =>
    rename World => wr
    clear hK4 hn0 hn1
    obtain ⟨n, aP, P, cP, aQ, Q, cQ, hn0, hnP, hnQ, rfl, rfl, rfl, hI⟩ := hrel
    by_cases hlt : 0 < n
    · have hlP : P.length < 17592186044416 := by omega
      have hlQ : Q.length < 17592186044416 := by omega
      have l0 := hI.hG.cell (i := 0) (v := .slice ao L.length c) rfl
      have hwn : IntKind.i64.wrap (n - 1) = n - 1 := IntWalk.i64_in _ (by omega)
      go_wp2_with (first
        | (go_at_call 97; refine (l2Element_any w _ w1 p _ _ hI.hC hI.hV hp.2).mono ?_; rintro e w5 ⟨y, rfl, hy, hC5, hF5⟩; have hI5 := hI.drw hF5 hC5 hgp (Ne.symm npw); clear l0 hC5 hF5)
        | (go_at_call 98; refine (l1PickInt_any w _ w6 p _ [1, 2, 2, 3, 4, 0, 25] (hI6.alloc _).hC hOl (by have := hI6.hC.lt; omega) (by decide) (by decide)).mono ?_; rintro e w7 ⟨kk, hkk, rfl, hC7, hF7⟩; obtain ⟨z, hz⟩ : ∃ z, z = nth [1, 2, 2, 3, 4, 0, 25] kk := ⟨_, rfl⟩; rw [← hz]; clear hz; have hI7 := (hI6.alloc _).drw hF7 hC7 hgp (Ne.symm npw); clear hC7 hF7)
        | (at_builtin; refine wp_append1F slI rfl _ _ rfl w _ _ _ _ hI7.hQ hI7.hC.base hlQ rfl rfl ?_; intro v8 w8 hO8 hG8 hN8; have hI8 := hI7.appQ hO8 hG8 hN8; obtain ⟨a8, c8, rfl, -⟩ := hO8.shape)
        | (at_builtin; refine wp_append1F slI rfl _ _ rfl w _ _ _ _ hI5.hP hI5.hC.base hlP rfl rfl ?_; intro v6 w6 hO6 hG6 hN6; have hI6 := hI5.appP hO6 hG6 hN6; obtain ⟨a6, c6, rfl, -⟩ := hO6.shape; have hOl : Own 3 w6 (w6.alloc (.cells #[.int .i64 1, .int .i64 2, .int .i64 2, .int .i64 3, .int .i64 4, .int .i64 0, .int .i64 25] 3)) (.slice (some ⟨w6.heap.size, 0, none⟩) 7 7) [1, 2, 2, 3, 4, 0, 25] := own_made (TI := 3) (n := 7) (by omega) (Ext.refl w6) [1, 2, 2, 3, 4, 0, 25] rfl))
      go_roundw
      case rel => exact ⟨n - 1, a6, P ++ [y], c6, a8, Q ++ [z], c8, by omega, by simp; omega, by simp; omega, by go_num, by simp, by simp, hI8⟩
      case measure => (simp [intOf]; omega)
    · go_wp2_with fail
      refine (l1Once_any w _ p 14 (by omega) hI.hC).mono ?_
      rintro e w5 ⟨bb, rfl, hC5, hF5⟩
      replace hI := hI.drw hF5 hC5 hgp (Ne.symm npw)
      clear hC5 hF5
      cases bb
      · skip
        have l0 := hI.hG.cell (i := 0) (v := .slice ao L.length c) rfl
        have r0 := hI.hR.cell (i := 0) (v := .slice none 0 0) rfl
        have f0 := hI.hR.free 0
        have q0 := (hI.hR.set 0 (.slice ao L.length c)).cell (i := 0) (v := .slice ao L.length c) rfl
        have hO9 := (hI.hV.setCell_ne (p := ⟨w.heap.size, 0, none⟩) (hI.hV.ne_blk hI.hR (by decide)) (.slice ao L.length c)).low (w0 := w) (by omega)
        have hP9 := hI.hP.setCell_ne (p := ⟨w.heap.size, 0, none⟩) (hI.hP.ne_blk hI.hR (by decide)) (.slice ao L.length c)
        have hQ9 := hI.hQ.setCell_ne (p := ⟨w.heap.size, 0, none⟩) (hI.hQ.ne_blk hI.hR (by decide)) (.slice ao L.length c)
        have hE9 := hI.hC.base.setCell (p := ⟨w.heap.size, 0, none⟩) (Nat.le_refl _) (.slice ao L.length c)
        go_wp2_with fail
        clear l0 r0 f0
        generalize w5.setCell ⟨w.heap.size, 0, none⟩ (.slice ao L.length c) = w9 at hO9 hP9 hQ9 hE9 q0 ⊢
        exact bodyPost_ret (v := .tuple #[.agg #[.slice ao L.length c], .slice aP P.length cP, .slice aQ Q.length cQ]) (by simp [results, Tryz.results73, go_sem, q0]) rfl ⟨_, L, _, _, P, _, _, Q, _, rfl, hO9, hP9.ints, hQ9.ints, hE9⟩
      · have hlQ : Q.length < 17592186044416 := by omega
        go_upto_region 12 with (at_builtin; refine wp_append1F slI rfl _ _ rfl w _ _ _ _ hI.hQ hI.hC.base hlQ rfl rfl ?_; intro v8 w8 hO8 hG8 hN8; replace hI := hI.appQ hO8 hG8 hN8; obtain ⟨a8, c8, rfl, -⟩ := hO8.shape)
        have l0 := hI.hG.cell (i := 0) (v := .slice ao L.length c) rfl
        have r0 := hI.hR.cell (i := 0) (v := .slice none 0 0) rfl
        have f0 := hI.hR.free 0
        have q0 := (hI.hR.set 0 (.slice ao L.length c)).cell (i := 0) (v := .slice ao L.length c) rfl
        have hO9 := (hI.hV.setCell_ne (p := ⟨w.heap.size, 0, none⟩) (hI.hV.ne_blk hI.hR (by decide)) (.slice ao L.length c)).low (w0 := w) (by omega)
        have hP9 := hI.hP.setCell_ne (p := ⟨w.heap.size, 0, none⟩) (hI.hP.ne_blk hI.hR (by decide)) (.slice ao L.length c)
        have hQ9 := hI.hQ.setCell_ne (p := ⟨w.heap.size, 0, none⟩) (hI.hQ.ne_blk hI.hR (by decide)) (.slice ao L.length c)
        have hE9 := hI.hC.base.setCell (p := ⟨w.heap.size, 0, none⟩) (Nat.le_refl _) (.slice ao L.length c)
        go_wp2_with fail
        clear l0 r0 f0
        generalize w8.setCell ⟨w.heap.size, 0, none⟩ (.slice ao L.length c) = w9 at hO9 hP9 hQ9 hE9 q0 ⊢
        exact bodyPost_ret (v := .tuple #[.agg #[.slice ao L.length c], .slice aP P.length cP, .slice a8 (Q ++ [2]).length c8]) (by simp [results, Tryz.results73, go_sem, q0]) rfl ⟨_, L, _, _, P, _, _, (Q ++ [2]), _, rfl, hO9, hP9.ints, hQ9.ints, hE9⟩
end Go.Zz
