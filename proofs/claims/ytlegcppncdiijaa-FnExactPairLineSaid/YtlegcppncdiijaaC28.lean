/- Energies and sums of kept counts. -/
import Derived.Test.YtlegcppncdiijaaC27
namespace Go.Zz
open Go.RowKit Go.Proofs
set_option maxHeartbeats 400000

def enF (l : List Int) (a b : Int) : Int := if isSetB l a && isSetB l b then sqTo (tabN l a.toNat b.toNat) (ord l) else -1
theorem enF_no {l : List Int} {a b : Int} (h : (isSetB l a && isSetB l b) = false) : enF l a b = -1 := by unfold enF; rw [h]; rfl
theorem enF_yes {l : List Int} {a b : Nat} (h : (isSetB l a && isSetB l b) = true) : enF l a b = sqTo (tabN l a b) (ord l) := by unfold enF; rw [if_pos h]; rfl
theorem EnergyOf_any (v : Value) (l : List Int) (a b : Int) (w : World) (h : Ints w v l) :
    Calls Try.prog 110 #[.agg #[v], .int .i64 a, .int .i64 b] w fun e w' => e = .returned (.int .i64 (enF l a b)) ∧ Ext w w' := by
  obtain ⟨wb, hwb⟩ : ∃ wb, wb = w.alloc (.cells #[v] 27) := ⟨_, rfl⟩
  have hE0 := (Ext.refl w).alloc (.cells #[v] 27)
  have hb := box_cell w v 27
  rw [← hwb] at hE0 hb
  have hg : ∀ W, Ext wb W → Ints W v l := fun W hW => h.ext (hE0.trans hW)
  have hE := Ext.refl wb
  have Hsz : Hid (w.heap.size + 1 = wb.heap.size) := Lib.hid (by rw [hwb]; simp [go_sem])
  have Hwb := Lib.hid hwb
  clear hwb h
  have hbx := hb wb hE
  have har := areF_two l a b
  cases hs : (isSetB l a && isSetB l b)
  · have Hs := Lib.hid (enF_no hs)
    rw [hs] at har
    clear hs
    go_enter Try.func110, Try.ntmps110
    go_wp2_with fail
    rw [← Hwb.out]; try rw [Hsz.out]
    go_wp2_with (first | (go_at_call 170; refine Calls.mono (areSets_val _ _ _ _ _ (hg _ (by repeat (first | assumption | exact Ext.refl _ | (apply And.left; assumption) | apply Ext.drew | apply Ext.alloc))) (ints_two _ _ _ _) har) ?_; rintro e w' ⟨rfl, hE'⟩; replace hE := hE.trans (Ext.trans (by repeat (first | assumption | exact Ext.refl _ | (apply And.left; assumption) | apply Ext.drew | apply Ext.alloc)) hE'); clear hE'))
    go_ret
    exact ⟨ret_int Hs.out.symm, hE0.trans hE⟩
  · obtain ⟨h1, h2⟩ := Bool.and_eq_true_iff.1 hs
    obtain ⟨a, rfl, -, ha, hgr⟩ := isSetB_nat h1
    obtain ⟨b, rfl, -, hb', -⟩ := isSetB_nat h2
    have Hs := Lib.hid (enF_yes hs)
    have Ht := Lib.hid (tabF_N hs)
    rw [hs] at har
    have Hgr := Lib.hid hgr
    have hob := ord_bd hgr
    clear hs hgr h1 h2
    go_enter Try.func110, Try.ntmps110
    go_wp2_with fail
    rw [← Hwb.out]; try rw [Hsz.out]
    go_wp2_with (first | (go_at_call 170; refine Calls.mono (areSets_val _ _ _ _ _ (hg _ (by repeat (first | assumption | exact Ext.refl _ | (apply And.left; assumption) | apply Ext.drew | apply Ext.alloc))) (ints_two _ _ _ _) har) ?_; rintro e w' ⟨rfl, hE'⟩; replace hE := hE.trans (Ext.trans (by repeat (first | assumption | exact Ext.refl _ | (apply And.left; assumption) | apply Ext.drew | apply Ext.alloc)) hE'); clear hE'))
    refine (SumTable_any _ _ _ _ _ (hg _ hE)).mono ?_
    rw [Ht.out]
    rintro e w1 ⟨v1, rfl, hL, hE1⟩
    have hLs := hL.ints
    obtain ⟨ao, c, adr, rfl, hlen, hadr, hcell⟩ := hLs.op
    have hix := ints_index (c := c) elI szI hadr
    rw [tabN_len] at hcell hlen hix ⊢
    clear hadr hL hLs
    have hEb := hE.trans hE1
    clear hE hE1
    have hE := Ext.refl w1
    go_wp2_with fail
    go_loopw [7, 21] (fun nv i wr => ∃ k : Nat, k ≤ ord l ∧ i = .int .i64 k ∧ nv = .int .i64 (sqTo (tabN l a b) k) ∧ Ext w1 wr) (fun _ i _ => ord l - (intOf i).toNat)
    case atStart => exact ⟨0, by omega, rfl, rfl, hE⟩
    case round =>
      clear hE
      obtain ⟨k, hk, rfl, rfl, hE⟩ := hrel
      by_cases hlt : k < ord l
      · have hck := hcell k _ hlt hE
        have hsq := Lib.hid (sqTo_succ (tabN l a b) k)
        have hb1 := sqTo_bd Hgr.out a b k
        obtain ⟨hb2, hb3⟩ := tabN_bd Hgr.out a b k
        obtain ⟨hb4, hb5⟩ := sq_bd hb2 hb3
        go_wp2_with fail
        go_roundw
        case rel => exact ⟨k + 1, by omega, by go_num, by rw [hsq.out], hE⟩
        case measure => (simp [intOf]; omega)
      · have hkl : k = ord l := by omega
        subst hkl
        go_wp2_with fail
        go_ret
        exact ⟨ret_int (by rw [Hs.out]), hE0.trans (hEb.trans hE)⟩
theorem EnergyOfKept_any (c : Value) (l m : List Int) (n : Int) (w : World) (h : IsK w c l n m) :
    Calls Try.prog 29 #[c] w fun e w' => e = .returned (.int .i64 (engF l n m)) ∧ Ext w w' := by
  obtain ⟨v, u, rfl, hv, hu⟩ := h
  obtain ⟨wb, hwb⟩ : ∃ wb, wb = w.alloc (.cells #[v, .int .i64 n, u] 45) := ⟨_, rfl⟩
  have hE0 : Ext w wb := by rw [hwb]; exact (Ext.refl _).alloc _
  have B0 : Blk wb w.heap.size 45 #[v, .int .i64 n, u] := by rw [hwb]; exact Blk.new _ _ _
  have b0 : ∀ W, Ext wb W → W.cell? ⟨w.heap.size, 0, none⟩ = some v := fun W hW => (B0.ext hW).cell (i := 0) rfl
  have b1 : ∀ W, Ext wb W → W.cell? ⟨w.heap.size, 1, none⟩ = some (.int .i64 n) := fun W hW => (B0.ext hW).cell (i := 1) rfl
  have b2 : ∀ W, Ext wb W → W.cell? ⟨w.heap.size, 2, none⟩ = some u := fun W hW => (B0.ext hW).cell (i := 2) rfl
  have hg : ∀ W, Ext wb W → Ints W v l := fun W hW => hv.ext (hE0.trans hW)
  have hg2 : ∀ W, Ext wb W → Ints W u m := fun W hW => hu.ext (hE0.trans hW)
  have hE := Ext.refl wb
  have Hsz : Hid (w.heap.size + 1 = wb.heap.size) := Lib.hid (by rw [hwb]; simp [go_sem])
  have Hwb := Lib.hid hwb
  clear hwb hv hu B0
  cases hk : keptB l n m
  ·
    go_enter Try.func29, Try.ntmps29
    go_wp2_with fail
    rw [← Hwb.out]
    go_wp2_with (first | (go_at_call 28; refine (IsKept_val _ _ _ _ _ (⟨_, _, rfl, hg _ hE, hg2 _ hE⟩) (hk)).mono ?_; rintro e w' ⟨rfl, hE'⟩; replace hE := hE.trans hE'; clear hE'))
    go_ret
    exact ⟨ret_int (engF_no hk).symm, hE0.trans hE⟩
  · have Hs := Lib.hid (engF_yes hk)
    have Hk := Lib.hid (keptB_nat hk)
    obtain ⟨a, rfl, -, h2, hgr, hm, hs⟩ := keptB_nat hk
    have He : Hid (enF l a a = engF l a m) := Lib.hid (by rw [Hs.out, enF_yes (by rw [hs]; rfl), hm])
    clear hm hgr hs Hk
    go_enter Try.func29, Try.ntmps29
    go_wp2_with fail
    rw [← Hwb.out]
    go_wp2_with (first | (go_at_call 28; refine (IsKept_val _ _ _ _ _ (⟨_, _, rfl, hg _ hE, hg2 _ hE⟩) (hk)).mono ?_; rintro e w' ⟨rfl, hE'⟩; replace hE := hE.trans hE'; clear hE'))
    refine (EnergyOf_any _ _ _ _ _ (hg _ hE)).mono ?_
    rw [He.out]
    rintro e w1 ⟨rfl, hE1⟩
    go_wp2_with fail
    go_ret
    exact ⟨rfl, hE0.trans (hE.trans hE1)⟩
theorem SumsOfKept_any (c : Value) (l m : List Int) (n : Int) (w : World) (h : IsK w c l n m) :
    Calls Try.prog 31 #[c] w fun e w' => e = .returned (.int .i64 (sukF l n m)) ∧ Ext w w' := by
  obtain ⟨v, u, rfl, hv, hu⟩ := h
  obtain ⟨wb, hwb⟩ : ∃ wb, wb = w.alloc (.cells #[v, .int .i64 n, u] 45) := ⟨_, rfl⟩
  have hE0 : Ext w wb := by rw [hwb]; exact (Ext.refl _).alloc _
  have B0 : Blk wb w.heap.size 45 #[v, .int .i64 n, u] := by rw [hwb]; exact Blk.new _ _ _
  have b0 : ∀ W, Ext wb W → W.cell? ⟨w.heap.size, 0, none⟩ = some v := fun W hW => (B0.ext hW).cell (i := 0) rfl
  have b1 : ∀ W, Ext wb W → W.cell? ⟨w.heap.size, 1, none⟩ = some (.int .i64 n) := fun W hW => (B0.ext hW).cell (i := 1) rfl
  have b2 : ∀ W, Ext wb W → W.cell? ⟨w.heap.size, 2, none⟩ = some u := fun W hW => (B0.ext hW).cell (i := 2) rfl
  have hg : ∀ W, Ext wb W → Ints W v l := fun W hW => hv.ext (hE0.trans hW)
  have hg2 : ∀ W, Ext wb W → Ints W u m := fun W hW => hu.ext (hE0.trans hW)
  have hE := Ext.refl wb
  have Hsz : Hid (w.heap.size + 1 = wb.heap.size) := Lib.hid (by rw [hwb]; simp [go_sem])
  have Hwb := Lib.hid hwb
  clear hwb hv hu B0
  cases hk : keptB l n m
  ·
    go_enter Try.func31, Try.ntmps31
    go_wp2_with fail
    rw [← Hwb.out]
    go_wp2_with (first | (go_at_call 28; refine (IsKept_val _ _ _ _ _ (⟨_, _, rfl, hg _ hE, hg2 _ hE⟩) (hk)).mono ?_; rintro e w' ⟨rfl, hE'⟩; replace hE := hE.trans hE'; clear hE'))
    go_ret
    exact ⟨ret_int (sukF_no hk).symm, hE0.trans hE⟩
  · obtain ⟨a, rfl, -, h2, hgr, -, -⟩ := keptB_nat hk
    have Hs := Lib.hid (sukF_yes hk)
    have Hgr := Lib.hid hgr
    clear hgr
    go_enter Try.func31, Try.ntmps31
    go_wp2_with fail
    rw [← Hwb.out]
    go_wp2_with (first | (go_at_call 28; refine (IsKept_val _ _ _ _ _ (⟨_, _, rfl, hg _ hE, hg2 _ hE⟩) (hk)).mono ?_; rintro e w' ⟨rfl, hE'⟩; replace hE := hE.trans hE'; clear hE') | (go_at_call 103; refine (sum_any _ _ _ _ _ (hg _ hE) (Hgr) (h2) (h2)).mono ?_; rintro e w' ⟨rfl, hE'⟩; replace hE := hE.trans hE'; clear hE'))
    go_ret
    exact ⟨ret_int Hs.out.symm, hE0.trans hE⟩
theorem sEnergyOfKept_any (c : Value) (l m : List Int) (n : Int) (w : World) (h : IsK w c l n m) :
    Calls Try.prog 40 #[c] w fun e w' => e = .returned (.int .i64 (engF l n m)) ∧ Ext w w' := by
  obtain ⟨v, u, rfl, hv, hu⟩ := h
  obtain ⟨wb, hwb⟩ : ∃ wb, wb = w.alloc (.cells #[v, .int .i64 n, u] 45) := ⟨_, rfl⟩
  have hE0 : Ext w wb := by rw [hwb]; exact (Ext.refl _).alloc _
  have B0 : Blk wb w.heap.size 45 #[v, .int .i64 n, u] := by rw [hwb]; exact Blk.new _ _ _
  have b0 : ∀ W, Ext wb W → W.cell? ⟨w.heap.size, 0, none⟩ = some v := fun W hW => (B0.ext hW).cell (i := 0) rfl
  have b1 : ∀ W, Ext wb W → W.cell? ⟨w.heap.size, 1, none⟩ = some (.int .i64 n) := fun W hW => (B0.ext hW).cell (i := 1) rfl
  have b2 : ∀ W, Ext wb W → W.cell? ⟨w.heap.size, 2, none⟩ = some u := fun W hW => (B0.ext hW).cell (i := 2) rfl
  have hg : ∀ W, Ext wb W → Ints W v l := fun W hW => hv.ext (hE0.trans hW)
  have hg2 : ∀ W, Ext wb W → Ints W u m := fun W hW => hu.ext (hE0.trans hW)
  have hE := Ext.refl wb
  have Hsz : Hid (w.heap.size + 1 = wb.heap.size) := Lib.hid (by rw [hwb]; simp [go_sem])
  have Hwb := Lib.hid hwb
  clear hwb hv hu B0
  cases hk : keptB l n m
  ·
    go_enter Try.func40, Try.ntmps40
    go_wp2_with fail
    rw [← Hwb.out]
    go_wp2_with (first | (go_at_call 39; refine (sIsKept_val _ _ _ _ _ (⟨_, _, rfl, hg _ hE, hg2 _ hE⟩) (hk)).mono ?_; rintro e w' ⟨rfl, hE'⟩; replace hE := hE.trans hE'; clear hE'))
    go_ret
    exact ⟨ret_int (engF_no hk).symm, hE0.trans hE⟩
  · have Hs := Lib.hid (engF_yes hk)
    obtain ⟨a, rfl, -, h2, hgr, hm, -⟩ := keptB_nat hk
    have hob := ord_bd hgr
    have Hgr := Lib.hid hgr
    obtain ⟨ao, cU, adr, rfl, hlen, hadr, hcell⟩ := (hg2 wb hE).op
    have hix := ints_index (c := cU) elI szI hadr
    have hml : m.length = ord l := by rw [hm, tabN_len]
    have Hm := Lib.hid hm
    rw [hml] at hcell hlen hix b2 Hwb hg2 ⊢
    clear hadr hm hgr hml
    go_enter Try.func40, Try.ntmps40
    go_wp2_with fail
    rw [← Hwb.out]
    go_wp2_with (first | (go_at_call 39; refine (sIsKept_val _ _ _ _ _ (⟨_, _, rfl, hg _ hE, hg2 _ hE⟩) (hk)).mono ?_; rintro e w' ⟨rfl, hE'⟩; replace hE := hE.trans hE'; clear hE'))
    go_loopw [3, 4] (fun nv i wr => ∃ k : Nat, k ≤ ord l ∧ i = .int .i64 k ∧ nv = .int .i64 (sqTo m k) ∧ Ext wb wr) (fun _ i _ => ord l - (intOf i).toNat)
    case atStart => exact ⟨0, by omega, rfl, rfl, hE⟩
    case round =>
      clear hE
      obtain ⟨k, hkl, rfl, rfl, hE⟩ := hrel
      by_cases hlt : k < ord l
      · have hck := fun U => hcell k _ hlt (lat_ext wb U)
        have z2 := fun U => b2 _ (lat_ext wb U)
        have hsq := Lib.hid (sqTo_succ m k)
        have hb1 : 0 ≤ sqTo m k ∧ sqTo m k ≤ 331776 * k := by rw [Hm.out]; exact sqTo_bd Hgr.out a a k
        have hb2 : 0 ≤ nth m k ∧ nth m k ≤ 576 := by rw [Hm.out]; exact tabN_bd Hgr.out a a k
        obtain ⟨hb4, hb5⟩ := sq_bd hb2.1 hb2.2
        go_wp2_with fail
        (refine wp_region_lat (wb) (by kernel_rfl) (by kernel_rfl) hE ?_); (repeat (go_big_quiet_step (first | fail))); (refine wpQuiet_nil ?_); (intro W hE'); (replace hE := lat_of hE'); (clear hE')
        go_wp2_with fail
        go_roundw
        case rel => exact ⟨k + 1, by omega, by go_num, by rw [hsq.out], hE⟩
        case measure => (simp [intOf]; omega)
      · have hkl : k = ord l := by omega
        subst hkl
        go_wp2_with fail
        go_ret
        exact ⟨ret_int (by rw [Hs.out]), hE0.trans hE⟩
theorem sSumsOfKept_any (c : Value) (l m : List Int) (n : Int) (w : World) (h : IsK w c l n m) :
    Calls Try.prog 41 #[c] w fun e w' => e = .returned (.int .i64 (sukF l n m)) ∧ Ext w w' := by
  obtain ⟨v, u, rfl, hv, hu⟩ := h
  obtain ⟨wb, hwb⟩ : ∃ wb, wb = w.alloc (.cells #[v, .int .i64 n, u] 45) := ⟨_, rfl⟩
  have hE0 : Ext w wb := by rw [hwb]; exact (Ext.refl _).alloc _
  have B0 : Blk wb w.heap.size 45 #[v, .int .i64 n, u] := by rw [hwb]; exact Blk.new _ _ _
  have b0 : ∀ W, Ext wb W → W.cell? ⟨w.heap.size, 0, none⟩ = some v := fun W hW => (B0.ext hW).cell (i := 0) rfl
  have b1 : ∀ W, Ext wb W → W.cell? ⟨w.heap.size, 1, none⟩ = some (.int .i64 n) := fun W hW => (B0.ext hW).cell (i := 1) rfl
  have b2 : ∀ W, Ext wb W → W.cell? ⟨w.heap.size, 2, none⟩ = some u := fun W hW => (B0.ext hW).cell (i := 2) rfl
  have hg : ∀ W, Ext wb W → Ints W v l := fun W hW => hv.ext (hE0.trans hW)
  have hg2 : ∀ W, Ext wb W → Ints W u m := fun W hW => hu.ext (hE0.trans hW)
  have hE := Ext.refl wb
  have Hsz : Hid (w.heap.size + 1 = wb.heap.size) := Lib.hid (by rw [hwb]; simp [go_sem])
  have Hwb := Lib.hid hwb
  clear hwb hv hu B0
  cases hk : keptB l n m
  ·
    go_enter Try.func41, Try.ntmps41
    go_wp2_with fail
    rw [← Hwb.out]
    go_wp2_with (first | (go_at_call 39; refine (sIsKept_val _ _ _ _ _ (⟨_, _, rfl, hg _ hE, hg2 _ hE⟩) (hk)).mono ?_; rintro e w' ⟨rfl, hE'⟩; replace hE := hE.trans hE'; clear hE'))
    go_ret
    exact ⟨ret_int (sukF_no hk).symm, hE0.trans hE⟩
  · obtain ⟨a, rfl, -, h2, hgr, hm, -⟩ := keptB_nat hk
    have Hs : Hid (sukF l a m = (posTo m (ord l) : Int)) := Lib.hid (by rw [sukF_yes hk, hm, posTo_tab hgr])
    have hob := ord_bd hgr
    have Hgr := Lib.hid hgr
    obtain ⟨ao, cU, adr, rfl, hlen, hadr, hcell⟩ := (hg2 wb hE).op
    have hix := ints_index (c := cU) elI szI hadr
    have hml : m.length = ord l := by rw [hm, tabN_len]
    have Hm := Lib.hid hm
    rw [hml] at hcell hlen hix b2 Hwb hg2 ⊢
    clear hadr hm hgr hml
    go_enter Try.func41, Try.ntmps41
    go_wp2_with fail
    rw [← Hwb.out]
    go_wp2_with (first | (go_at_call 39; refine (sIsKept_val _ _ _ _ _ (⟨_, _, rfl, hg _ hE, hg2 _ hE⟩) (hk)).mono ?_; rintro e w' ⟨rfl, hE'⟩; replace hE := hE.trans hE'; clear hE'))
    go_loopw [3, 4] (fun nv i wr => ∃ k : Nat, k ≤ ord l ∧ i = .int .i64 k ∧ nv = .int .i64 (posTo m k : Nat) ∧ Ext wb wr) (fun _ i _ => ord l - (intOf i).toNat)
    case atStart => exact ⟨0, by omega, rfl, rfl, hE⟩
    case round =>
      clear hE
      obtain ⟨k, hkl, rfl, rfl, hE⟩ := hrel
      by_cases hlt : k < ord l
      · have hck := hcell k _ hlt hE
        have hp := posTo_lt m k
        have hp2 : posTo m k < 2 ^ 24 := Nat.lt_of_lt_of_le hp (Nat.pow_le_pow_right (by omega) (by omega))
        have hs1 := ishl_one (n := k) (by omega)
        have hs2 := ior_pw hp2 (show k < 24 by omega)
        clear hp
        by_cases hq : 0 < nth m k
        · have Hp := Lib.hid (posTo_yes hq)
          go_wp2_with fail
          go_roundw
          case rel => exact ⟨k + 1, by omega, by go_num, by rw [Hp.out], hE⟩
          case measure => (simp [intOf]; omega)
        · have Hp := Lib.hid (posTo_no hq)
          go_wp2_with fail
          go_roundw
          case rel => exact ⟨k + 1, by omega, by go_num, by rw [Hp.out], hE⟩
          case measure => (simp [intOf]; omega)
      · have hkl : k = ord l := by omega
        subst hkl
        go_wp2_with fail
        go_ret
        exact ⟨ret_int (by rw [Hs.out]), hE0.trans hE⟩
end Go.Zz
