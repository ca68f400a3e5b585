/- Energies and sums of kept counts. -/
import Derived.Test.YtgkojfjbfmpaaaaGr6
import Derived.Test.YtgkojfjbfmpaaaaGr2
import Derived.Deep.RegionHeld3
import Derived.Deep.RegionWith
import Derived.Deep.RegionLaw
import Derived.Test.YtgkojfjbfmpaaaaGr5
namespace Go.Zz
open Go.RowKit Go.Proofs
set_option maxHeartbeats 400000

def enF (l : List Int) (a b : Int) : Int := if isSetB l a && isSetB l b then sqTo (tabN l a.toNat b.toNat) (ord l) else -1
theorem enF_no {l : List Int} {a b : Int} (h : (isSetB l a && isSetB l b) = false) : enF l a b = -1 := by unfold enF; rw [h]; rfl
theorem enF_yes {l : List Int} {a b : Nat} (h : (isSetB l a && isSetB l b) = true) : enF l a b = sqTo (tabN l a b) (ord l) := by unfold enF; rw [if_pos h]; rfl
theorem EnergyOf_any (v : Value) (l : List Int) (a b : Int) (w : World) (h : Ints w v l) :
    Calls Try.prog 70 #[.agg #[v], .int .i64 a, .int .i64 b] w fun e w' => e = .returned (.int .i64 (enF l a b)) ∧ Ext w w' := by
  obtain ⟨wb, hwb⟩ : ∃ wb, wb = w.alloc (.cells #[v] 26) := ⟨_, rfl⟩
  have hE0 := (Ext.refl w).alloc (.cells #[v] 26)
  have hb := box_cell w v 26
  rw [← hwb] at hE0 hb
  have hg : ∀ W, Ext wb W → Ints W v l := fun W hW => h.ext (hE0.trans hW)
  have hE := Ext.refl wb
  have Hsz : Hid (w.heap.size + 1 = wb.heap.size) := Lib.hid (by rw [hwb]; simp [go_sem])
  have Hwb := Lib.hid hwb
  clear hwb h
  have hbx := hb wb hE
  have har := areF_two l a b
  cases hs : (isSetB l a && isSetB l b)
  · have Hs := Lib.hid (enF_no hs)
    rw [hs] at har
    clear hs
    go_enter Try.func70, Try.ntmps70
    go_wp2_with fail
    rw [← Hwb.out]; try rw [Hsz.out]
    go_wp2_with (first | (go_at_call 88; refine Calls.mono (areSets_val _ _ _ _ _ (hg _ (by repeat (first | assumption | exact Ext.refl _ | (apply And.left; assumption) | apply Ext.drew | apply Ext.alloc))) (ints_two _ _ _ _) har) ?_; rintro e w' ⟨rfl, hE'⟩; replace hE := hE.trans (Ext.trans (by repeat (first | assumption | exact Ext.refl _ | (apply And.left; assumption) | apply Ext.drew | apply Ext.alloc)) hE'); clear hE'))
    go_ret
    exact ⟨ret_int Hs.out.symm, hE0.trans hE⟩
  · obtain ⟨h1, h2⟩ := Bool.and_eq_true_iff.1 hs
    obtain ⟨a, rfl, -, ha, hgr⟩ := isSetB_nat h1
    obtain ⟨b, rfl, -, hb', -⟩ := isSetB_nat h2
    have Hs := Lib.hid (enF_yes hs)
    have Ht := Lib.hid (tabF_N hs)
    rw [hs] at har
    have Hgr := Lib.hid hgr
    have hob := ord_bd hgr
    clear hs hgr h1 h2
    go_enter Try.func70, Try.ntmps70
    go_wp2_with fail
    rw [← Hwb.out]; try rw [Hsz.out]
    go_wp2_with (first | (go_at_call 88; refine Calls.mono (areSets_val _ _ _ _ _ (hg _ (by repeat (first | assumption | exact Ext.refl _ | (apply And.left; assumption) | apply Ext.drew | apply Ext.alloc))) (ints_two _ _ _ _) har) ?_; rintro e w' ⟨rfl, hE'⟩; replace hE := hE.trans (Ext.trans (by repeat (first | assumption | exact Ext.refl _ | (apply And.left; assumption) | apply Ext.drew | apply Ext.alloc)) hE'); clear hE'))
    refine (SumTable_any _ _ _ _ _ (hg _ hE)).mono ?_
    rw [Ht.out]
    rintro e w1 ⟨v1, rfl, hL, hE1⟩
    have hLs := hL.ints
    obtain ⟨ao, c, adr, rfl, hlen, hadr, hcell⟩ := hLs.op
    have hix := ints_index (c := c) elI szI hadr
    rw [tabN_len] at hcell hlen hix ⊢
    clear hadr hL hLs
    have hEb := hE.trans hE1
    clear hE hE1
    have hE := Ext.refl w1
    go_wp2_with fail
    go_loopw [7, 21] (fun nv i wr => ∃ k : Nat, k ≤ ord l ∧ i = .int .i64 k ∧ nv = .int .i64 (sqTo (tabN l a b) k) ∧ Ext w1 wr) (fun _ i _ => ord l - (intOf i).toNat)
    case atStart => exact ⟨0, by omega, rfl, rfl, hE⟩
    case round =>
      clear hE
      obtain ⟨k, hk, rfl, rfl, hE⟩ := hrel
      by_cases hlt : k < ord l
      · have hck := hcell k _ hlt hE
        have hsq := Lib.hid (sqTo_succ (tabN l a b) k)
        have hb1 := sqTo_bd Hgr.out a b k
        obtain ⟨hb2, hb3⟩ := tabN_bd Hgr.out a b k
        obtain ⟨hb4, hb5⟩ := sq_bd hb2 hb3
        go_wp2_with fail
        go_roundw
        case rel => exact ⟨k + 1, by omega, by go_num, by rw [hsq.out], hE⟩
        case measure => (simp [intOf]; omega)
      · have hkl : k = ord l := by omega
        subst hkl
        go_wp2_with fail
        go_ret
        exact ⟨ret_int (by rw [Hs.out]), hE0.trans (hEb.trans hE)⟩
theorem EnergyOfKept_any (c : Value) (l m : List Int) (n : Int) (w : World) (h : IsK w c l n m) :
    Calls Try.prog 15 #[c] w fun e w' => e = .returned (.int .i64 (engF l n m)) ∧ Ext w w' := by
  obtain ⟨v, u, rfl, hv, hu⟩ := h
  obtain ⟨wb, hwb⟩ : ∃ wb, wb = w.alloc (.cells #[v, .int .i64 n, u] 28) := ⟨_, rfl⟩
  have hE0 : Ext w wb := by rw [hwb]; exact (Ext.refl _).alloc _
  have B0 : Blk wb w.heap.size 28 #[v, .int .i64 n, u] := by rw [hwb]; exact Blk.new _ _ _
  have b0 : ∀ W, Ext wb W → W.cell? ⟨w.heap.size, 0, none⟩ = some v := fun W hW => (B0.ext hW).cell (i := 0) rfl
  have b1 : ∀ W, Ext wb W → W.cell? ⟨w.heap.size, 1, none⟩ = some (.int .i64 n) := fun W hW => (B0.ext hW).cell (i := 1) rfl
  have b2 : ∀ W, Ext wb W → W.cell? ⟨w.heap.size, 2, none⟩ = some u := fun W hW => (B0.ext hW).cell (i := 2) rfl
  have hg : ∀ W, Ext wb W → Ints W v l := fun W hW => hv.ext (hE0.trans hW)
  have hg2 : ∀ W, Ext wb W → Ints W u m := fun W hW => hu.ext (hE0.trans hW)
  have hE := Ext.refl wb
  have Hsz : Hid (w.heap.size + 1 = wb.heap.size) := Lib.hid (by rw [hwb]; simp [go_sem])
  have Hwb := Lib.hid hwb
  clear hwb hv hu B0
  cases hk : keptB l n m
  ·
    go_enter Try.func15, Try.ntmps15
    go_wp2_with fail
    rw [← Hwb.out]
    go_wp2_with (first | (go_at_call 14; refine (IsKept_val _ _ _ _ _ (⟨_, _, rfl, hg _ hE, hg2 _ hE⟩) (hk)).mono ?_; rintro e w' ⟨rfl, hE'⟩; replace hE := hE.trans hE'; clear hE'))
    go_ret
    exact ⟨ret_int (engF_no hk).symm, hE0.trans hE⟩
  · have Hs := Lib.hid (engF_yes hk)
    have Hk := Lib.hid (keptB_nat hk)
    obtain ⟨a, rfl, -, h2, hgr, hm, hs⟩ := keptB_nat hk
    have He : Hid (enF l a a = engF l a m) := Lib.hid (by rw [Hs.out, enF_yes (by rw [hs]; rfl), hm])
    clear hm hgr hs Hk
    go_enter Try.func15, Try.ntmps15
    go_wp2_with fail
    rw [← Hwb.out]
    go_wp2_with (first | (go_at_call 14; refine (IsKept_val _ _ _ _ _ (⟨_, _, rfl, hg _ hE, hg2 _ hE⟩) (hk)).mono ?_; rintro e w' ⟨rfl, hE'⟩; replace hE := hE.trans hE'; clear hE'))
    refine (EnergyOf_any _ _ _ _ _ (hg _ hE)).mono ?_
    rw [He.out]
    rintro e w1 ⟨rfl, hE1⟩
    go_wp2_with fail
    go_ret
    exact ⟨rfl, hE0.trans (hE.trans hE1)⟩
theorem SumsOfKept_any (c : Value) (l m : List Int) (n : Int) (w : World) (h : IsK w c l n m) :
    Calls Try.prog 17 #[c] w fun e w' => e = .returned (.int .i64 (sukF l n m)) ∧ Ext w w' := by
  obtain ⟨v, u, rfl, hv, hu⟩ := h
  obtain ⟨wb, hwb⟩ : ∃ wb, wb = w.alloc (.cells #[v, .int .i64 n, u] 28) := ⟨_, rfl⟩
  have hE0 : Ext w wb := by rw [hwb]; exact (Ext.refl _).alloc _
  have B0 : Blk wb w.heap.size 28 #[v, .int .i64 n, u] := by rw [hwb]; exact Blk.new _ _ _
  have b0 : ∀ W, Ext wb W → W.cell? ⟨w.heap.size, 0, none⟩ = some v := fun W hW => (B0.ext hW).cell (i := 0) rfl
  have b1 : ∀ W, Ext wb W → W.cell? ⟨w.heap.size, 1, none⟩ = some (.int .i64 n) := fun W hW => (B0.ext hW).cell (i := 1) rfl
  have b2 : ∀ W, Ext wb W → W.cell? ⟨w.heap.size, 2, none⟩ = some u := fun W hW => (B0.ext hW).cell (i := 2) rfl
  have hg : ∀ W, Ext wb W → Ints W v l := fun W hW => hv.ext (hE0.trans hW)
  have hg2 : ∀ W, Ext wb W → Ints W u m := fun W hW => hu.ext (hE0.trans hW)
  have hE := Ext.refl wb
  have Hsz : Hid (w.heap.size + 1 = wb.heap.size) := Lib.hid (by rw [hwb]; simp [go_sem])
  have Hwb := Lib.hid hwb
  clear hwb hv hu B0
  cases hk : keptB l n m
  ·
    go_enter Try.func17, Try.ntmps17
    go_wp2_with fail
    rw [← Hwb.out]
    go_wp2_with (first | (go_at_call 14; refine (IsKept_val _ _ _ _ _ (⟨_, _, rfl, hg _ hE, hg2 _ hE⟩) (hk)).mono ?_; rintro e w' ⟨rfl, hE'⟩; replace hE := hE.trans hE'; clear hE'))
    go_ret
    exact ⟨ret_int (sukF_no hk).symm, hE0.trans hE⟩
  · obtain ⟨a, rfl, -, h2, hgr, -, -⟩ := keptB_nat hk
    have Hs := Lib.hid (sukF_yes hk)
    have Hgr := Lib.hid hgr
    clear hgr
    go_enter Try.func17, Try.ntmps17
    go_wp2_with fail
    rw [← Hwb.out]
    go_wp2_with (first | (go_at_call 14; refine (IsKept_val _ _ _ _ _ (⟨_, _, rfl, hg _ hE, hg2 _ hE⟩) (hk)).mono ?_; rintro e w' ⟨rfl, hE'⟩; replace hE := hE.trans hE'; clear hE') | (go_at_call 72; refine (sum_any _ _ _ _ _ (hg _ hE) (Hgr) (h2) (h2)).mono ?_; rintro e w' ⟨rfl, hE'⟩; replace hE := hE.trans hE'; clear hE'))
    go_ret
    exact ⟨ret_int Hs.out.symm, hE0.trans hE⟩
theorem sEnergyOfKept_any (c : Value) (l m : List Int) (n : Int) (w : World) (h : IsK w c l n m) :
    Calls Try.prog 26 #[c] w fun e w' => e = .returned (.int .i64 (engF l n m)) ∧ Ext w w' := by
  obtain ⟨v, u, rfl, hv, hu⟩ := h
  obtain ⟨wb, hwb⟩ : ∃ wb, wb = w.alloc (.cells #[v, .int .i64 n, u] 28) := ⟨_, rfl⟩
  have hE0 : Ext w wb := by rw [hwb]; exact (Ext.refl _).alloc _
  have B0 : Blk wb w.heap.size 28 #[v, .int .i64 n, u] := by rw [hwb]; exact Blk.new _ _ _
  have b0 : ∀ W, Ext wb W → W.cell? ⟨w.heap.size, 0, none⟩ = some v := fun W hW => (B0.ext hW).cell (i := 0) rfl
  have b1 : ∀ W, Ext wb W → W.cell? ⟨w.heap.size, 1, none⟩ = some (.int .i64 n) := fun W hW => (B0.ext hW).cell (i := 1) rfl
  have b2 : ∀ W, Ext wb W → W.cell? ⟨w.heap.size, 2, none⟩ = some u := fun W hW => (B0.ext hW).cell (i := 2) rfl
  have hg : ∀ W, Ext wb W → Ints W v l := fun W hW => hv.ext (hE0.trans hW)
  have hg2 : ∀ W, Ext wb W → Ints W u m := fun W hW => hu.ext (hE0.trans hW)
  have hE := Ext.refl wb
  have Hsz : Hid (w.heap.size + 1 = wb.heap.size) := Lib.hid (by rw [hwb]; simp [go_sem])
  have Hwb := Lib.hid hwb
  clear hwb hv hu B0
  cases hk : keptB l n m
  ·
    go_enter Try.func26, Try.ntmps26
    go_wp2_with fail
    rw [← Hwb.out]
    go_wp2_with (first | (go_at_call 25; refine (sIsKept_val _ _ _ _ _ (⟨_, _, rfl, hg _ hE, hg2 _ hE⟩) (hk)).mono ?_; rintro e w' ⟨rfl, hE'⟩; replace hE := hE.trans hE'; clear hE'))
    go_ret
    exact ⟨ret_int (engF_no hk).symm, hE0.trans hE⟩
  · have Hs := Lib.hid (engF_yes hk)
    obtain ⟨a, rfl, -, h2, hgr, hm, -⟩ := keptB_nat hk
    have hob := ord_bd hgr
    have Hgr := Lib.hid hgr
    obtain ⟨ao, cU, adr, rfl, hlen, hadr, hcell⟩ := (hg2 wb hE).op
    have hix := ints_index (c := cU) elI szI hadr
    have hml : m.length = ord l := by rw [hm, tabN_len]
    have Hm := Lib.hid hm
    rw [hml] at hcell hlen hix b2 Hwb hg2 ⊢
    clear hadr hm hgr hml
    go_enter Try.func26, Try.ntmps26
    go_wp2_with fail
    rw [← Hwb.out]
    go_wp2_with (first | (go_at_call 25; refine (sIsKept_val _ _ _ _ _ (⟨_, _, rfl, hg _ hE, hg2 _ hE⟩) (hk)).mono ?_; rintro e w' ⟨rfl, hE'⟩; replace hE := hE.trans hE'; clear hE'))
    go_loopw [3, 4] (fun nv i wr => ∃ k : Nat, k ≤ ord l ∧ i = .int .i64 k ∧ nv = .int .i64 (sqTo m k) ∧ Ext wb wr) (fun _ i _ => ord l - (intOf i).toNat)
    case atStart => exact ⟨0, by omega, rfl, rfl, hE⟩
    case round =>
      clear hE
      obtain ⟨k, hkl, rfl, rfl, hE⟩ := hrel
      by_cases hlt : k < ord l
      · have hck := fun U => hcell k _ hlt (lat_ext wb U)
        have z2 := fun U => b2 _ (lat_ext wb U)
        have hsq := Lib.hid (sqTo_succ m k)
        have hb1 : 0 ≤ sqTo m k ∧ sqTo m k ≤ 331776 * k := by rw [Hm.out]; exact sqTo_bd Hgr.out a a k
        have hb2 : 0 ≤ nth m k ∧ nth m k ≤ 576 := by rw [Hm.out]; exact tabN_bd Hgr.out a a k
        obtain ⟨hb4, hb5⟩ := sq_bd hb2.1 hb2.2
        go_wp2_with fail
        (refine wp_region_lat (wb) (by kernel_rfl) (by kernel_rfl) hE ?_); (repeat (go_big_quiet_step (first | fail))); (refine wpQuiet_nil ?_); (intro W hE'); (replace hE := lat_of hE'); (clear hE')
        go_wp2_with fail
        go_roundw
        case rel => exact ⟨k + 1, by omega, by go_num, by rw [hsq.out], hE⟩
        case measure => (simp [intOf]; omega)
      · have hkl : k = ord l := by omega
        subst hkl
        go_wp2_with fail
        go_ret
        exact ⟨ret_int (by rw [Hs.out]), hE0.trans hE⟩
theorem sSumsOfKept_any (c : Value) (l m : List Int) (n : Int) (w : World) (h : IsK w c l n m) :
    Calls Try.prog 27 #[c] w fun e w' => e = .returned (.int .i64 (sukF l n m)) ∧ Ext w w' := by
  obtain ⟨v, u, rfl, hv, hu⟩ := h
  obtain ⟨wb, hwb⟩ : ∃ wb, wb = w.alloc (.cells #[v, .int .i64 n, u] 28) := ⟨_, rfl⟩
  have hE0 : Ext w wb := by rw [hwb]; exact (Ext.refl _).alloc _
  have B0 : Blk wb w.heap.size 28 #[v, .int .i64 n, u] := by rw [hwb]; exact Blk.new _ _ _
  have b0 : ∀ W, Ext wb W → W.cell? ⟨w.heap.size, 0, none⟩ = some v := fun W hW => (B0.ext hW).cell (i := 0) rfl
  have b1 : ∀ W, Ext wb W → W.cell? ⟨w.heap.size, 1, none⟩ = some (.int .i64 n) := fun W hW => (B0.ext hW).cell (i := 1) rfl
  have b2 : ∀ W, Ext wb W → W.cell? ⟨w.heap.size, 2, none⟩ = some u := fun W hW => (B0.ext hW).cell (i := 2) rfl
  have hg : ∀ W, Ext wb W → Ints W v l := fun W hW => hv.ext (hE0.trans hW)
  have hg2 : ∀ W, Ext wb W → Ints W u m := fun W hW => hu.ext (hE0.trans hW)
  have hE := Ext.refl wb
  have Hsz : Hid (w.heap.size + 1 = wb.heap.size) := Lib.hid (by rw [hwb]; simp [go_sem])
  have Hwb := Lib.hid hwb
  clear hwb hv hu B0
  cases hk : keptB l n m
  ·
    go_enter Try.func27, Try.ntmps27
    go_wp2_with fail
    rw [← Hwb.out]
    go_wp2_with (first | (go_at_call 25; refine (sIsKept_val _ _ _ _ _ (⟨_, _, rfl, hg _ hE, hg2 _ hE⟩) (hk)).mono ?_; rintro e w' ⟨rfl, hE'⟩; replace hE := hE.trans hE'; clear hE'))
    go_ret
    exact ⟨ret_int (sukF_no hk).symm, hE0.trans hE⟩
  · obtain ⟨a, rfl, -, h2, hgr, hm, -⟩ := keptB_nat hk
    have Hs : Hid (sukF l a m = (posTo m (ord l) : Int)) := Lib.hid (by rw [sukF_yes hk, hm, posTo_tab hgr])
    have hob := ord_bd hgr
    have Hgr := Lib.hid hgr
    obtain ⟨ao, cU, adr, rfl, hlen, hadr, hcell⟩ := (hg2 wb hE).op
    have hix := ints_index (c := cU) elI szI hadr
    have hml : m.length = ord l := by rw [hm, tabN_len]
    have Hm := Lib.hid hm
    rw [hml] at hcell hlen hix b2 Hwb hg2 ⊢
    clear hadr hm hgr hml
    go_enter Try.func27, Try.ntmps27
    go_wp2_with fail
    rw [← Hwb.out]
    go_wp2_with (first | (go_at_call 25; refine (sIsKept_val _ _ _ _ _ (⟨_, _, rfl, hg _ hE, hg2 _ hE⟩) (hk)).mono ?_; rintro e w' ⟨rfl, hE'⟩; replace hE := hE.trans hE'; clear hE'))
    go_loopw [3, 4] (fun nv i wr => ∃ k : Nat, k ≤ ord l ∧ i = .int .i64 k ∧ nv = .int .i64 (posTo m k : Nat) ∧ Ext wb wr) (fun _ i _ => ord l - (intOf i).toNat)
    case atStart => exact ⟨0, by omega, rfl, rfl, hE⟩
    case round =>
      clear hE
      obtain ⟨k, hkl, rfl, rfl, hE⟩ := hrel
      by_cases hlt : k < ord l
      · have hck := hcell k _ hlt hE
        have hp := posTo_lt m k
        have hp2 : posTo m k < 2 ^ 24 := Nat.lt_of_lt_of_le hp (Nat.pow_le_pow_right (by omega) (by omega))
        have hs1 := ishl_one (n := k) (by omega)
        have hs2 := ior_pw hp2 (show k < 24 by omega)
        clear hp
        by_cases hq : 0 < nth m k
        · have Hp := Lib.hid (posTo_yes hq)
          go_wp2_with fail
          go_roundw
          case rel => exact ⟨k + 1, by omega, by go_num, by rw [Hp.out], hE⟩
          case measure => (simp [intOf]; omega)
        · have Hp := Lib.hid (posTo_no hq)
          go_wp2_with fail
          go_roundw
          case rel => exact ⟨k + 1, by omega, by go_num, by rw [Hp.out], hE⟩
          case measure => (simp [intOf]; omega)
      · have hkl : k = ord l := by omega
        subst hkl
        go_wp2_with fail
        go_ret
        exact ⟨ret_int (by rw [Hs.out]), hE0.trans hE⟩
end Go.Zz

/- Results that lie in memory: the block of a result, and what is stored there. -/
namespace Go.Zz
open Go.RowKit Go.Proofs
set_option maxHeartbeats 400000

/-- what a cell holds, closed to simp -/
def At (W : World) (a : Addr) : Value := (W.cell? a).getD (.int .i64 0)
/-- the first n cells of a block are there and may be written -/
def Res (W : World) (r n : Nat) : Prop := ∀ i, i < n → W.cell? ⟨r, i, none⟩ = some (At W ⟨r, i, none⟩) ∧ W.frozen? ⟨r, i, none⟩ = false
theorem At_of {W : World} {a : Addr} {v : Value} (h : W.cell? a = some v) : At W a = v := by unfold At; rw [h]; rfl
theorem Res.ext {W W' : World} {r n : Nat} (h : Res W r n) (hE : Ext W W') : Res W' r n := fun i hi => by
  obtain ⟨h1, h2⟩ := h i hi
  have h3 := hE.cell h1
  exact ⟨by rw [At_of h3]; exact h3, by rw [Below.frozen hE (World.block_lt_of_cell? W _ h1), h2]⟩
theorem Res.drew {W : World} {r n : Nat} (h : Res W r n) : Res W.drew r n := h.ext ((Ext.refl W).drew)
theorem Blk.res {W : World} {r : Nat} {T : TypeId} {cs : Array Value} (h : Blk W r T cs) {n : Nat} (hn : n ≤ cs.size) : Res W r n := fun i hi => by
  have h1 : W.cell? ⟨r, i, none⟩ = some (cs[i]'(by omega)) := h.cell (by simp)
  exact ⟨by rw [At_of h1]; exact h1, h.free i⟩
theorem Res.setCell {W : World} {r n : Nat} (h : Res W r n) (p : Addr) (x : Value) : Res (W.setCell p x) r n := fun i hi => by
  obtain ⟨h1, h2⟩ := h i hi
  obtain ⟨v', hv⟩ := cell?_setCell_some (w := W) (p := p) (x := x) h1
  exact ⟨by rw [At_of hv]; exact hv, by rw [World.frozen?_setCell, h2]⟩
theorem Blk.new' {w : World} {T : TypeId} {cs : Array Value} {b : Nat} (h : w.heap.size = b) : Blk (w.alloc (.cells cs T)) b T cs := by subst h; exact Blk.new _ _ _
theorem Blk.free_of {W : World} {r : Nat} {T : TypeId} {cs : Array Value} (h : Blk W r T cs) : ∀ i, W.frozen? ⟨r, i, none⟩ = false := h.free
theorem Calls.sh {P : Program} {f : FuncId} {args : Array Value} {TI : TypeId} {w : World} {L : List Int} (h : Calls P f args w fun e w' => ∃ v, e = .returned v ∧ Own TI w w' v L ∧ Ext w w') :
    Calls P f args w fun e w' => ∃ ao c, e = .returned (.slice ao L.length c) ∧ Own TI w w' (.slice ao L.length c) L ∧ Ext w w' :=
  h.mono fun e w' ⟨v, he, hO, hE⟩ => by
    obtain ⟨ao, c, rfl, -⟩ := hO.shape
    exact ⟨ao, c, he, hO, hE⟩
/-- append([]int{}, xs...) as a step of a region that draws its order -/
theorem step_copy {P : Program} {ops : Array Oper} {o : Oper} {a : Act} {w : World} {K : Act → World → Prop} {Q : Exit → Act → World → Prop} {E : Prop} {T TI : TypeId} (hT : IntSl P T TI)
    (hg : o.guard = none) (s x : Operand) (hop : o.op = Op.call { callee := Callee.builtin Builtin.append, args := #[s, x], argTypes := #[T, T] })
    (g : Nat) (u : Value) (m : List Int) (hs : a.eval s = .slice (some ⟨g, 0, none⟩) 0 0) (hx : a.eval x = u) (hB : Blk w g TI #[]) (hI : Ints w u m) (w0 : World) (h0 : w0.heap.size ≤ g) (hE : Ext w0 w)
    (hK : ∀ ao c w', Own TI w0 w' (.slice ao m.length c) m → Ext w w' → K (a.put o.dst (.slice ao m.length c)) w') :
    if Region.wanted o (yielded ops a.tmps) = true then Oper.wp P o a w K Q else E := by
  have hw : Region.wanted o (yielded ops a.tmps) = true := by simp [Region.wanted, hg]
  rw [if_pos hw]
  obtain ⟨i, hi, hz, hs1, hby⟩ := hT.info
  have hown : w.ownsRow w0.heap.size TI 1 (.slice (some ⟨g, 0, none⟩) 0 0) 0 [] := by
    have hB' : w.heap[g]? = some (.cells #[] TI (0, 0)) := hB
    exact ⟨by simp, Or.inr ⟨g, 0, #[], rfl, h0, hB', Nat.le_refl _, Nat.zero_le _, by simp, by simp⟩⟩
  obtain ⟨ao, c, rfl, hmc, hml, hc⟩ := hI
  have key : m = [] → Oper.wp P o a w K Q := by
    intro hm
    subst hm
    have hrun2 : (Builtin.append_ #[T, T] o.type #[.slice (some ⟨g, 0, none⟩) 0 0, .slice ao 0 c]).run P w = .ok (.slice (some ⟨g, 0, none⟩) 0 0) w := by
      have hrun := run_append_owned_none (P := P) w w0.heap.size T o.type TI i 1 hT.und hi (.slice (some ⟨g, 0, none⟩) 0 0) 0 [] hown
      rw [← hrun]; cases ao <;> simp [Builtin.append_, run_underlying hT.und, sizeOf, typeInfo, hi, Builtin.lenOf, Builtin.firstCells, go_sem]
    unfold Oper.wp
    simp [execOp, hop, resolve, invoke, builtin, hs, hx, hrun2, Result.andThen]
    exact hK (some ⟨g, 0, none⟩) 0 _ ⟨by simpa using hown, by simp⟩ (Ext.refl w)
  by_cases hm : m = []
  · exact key hm
  · have hpos : 0 < m.length := Nat.pos_of_ne_zero (fun e => hm (List.eq_nil_of_length_eq_zero e))
    cases ao with
    | none => obtain ⟨_, h, _⟩ := hc 0 hpos; cases h
    | some ad =>
      obtain ⟨v', w', hrun, r1, r2⟩ := run_append_arg_grows (P := P) (w := w) T o.type TI i (.int .i64 0) 1 8 hT.und hi hz hs1 hby rfl (by omega) ⟨g, 0, none⟩ 0 0 [] (by simp) (by simp) ad m.length c (m.map (Value.int .i64)) (by simp) (by
        intro j u hu
        have hj : j < m.length := by have := (List.getElem?_eq_some_iff.1 hu).1; simpa using this
        obtain ⟨a', ha', hc'⟩ := hc j hj
        cases ha'
        rw [hc', ← hu, nth_get _ _ hj]; simp [hj]) (by omega) (by unfold maxLen; omega) (by omega)
      unfold Oper.wp
      simp [execOp, hop, resolve, invoke, builtin, hs, hx, hrun, Result.andThen]
      have hO' : Own TI w w' v' m := ⟨by simpa using r1, hml⟩
      obtain ⟨ao', c', rfl, -⟩ := hO'.shape
      exact hK ao' c' w' (hO'.mono hE) ((Ext.refl w).grown r2 (by simp))
end Go.Zz

/- Marks in what is owned: groups. -/
namespace Go.Zz
open Go.RowKit Go.Proofs
/-- what lies in another block stays -/
theorem Own.kept {TI : TypeId} {w0 w w' : World} {v : Value} {l : List Int} {row : Option Nat} (h : Own TI w0 w v l) (hg : w.grownBy w' row) (hne : v.ownBlock = none ∨ v.ownBlock ≠ row) : Own TI w0 w' v l :=
  ⟨h.1.kept hg hne, h.2⟩
theorem blk_ne {TI : TypeId} {a b c d : World} {u v : Value} {l m : List Int} (h : Own TI a b u l) (k : Own TI c d v m) (hs : b.heap.size ≤ c.heap.size) : u.ownBlock = none ∨ u.ownBlock ≠ v.ownBlock := by
  cases hu : u.ownBlock with
  | none => exact Or.inl rfl
  | some i =>
    refine Or.inr fun e => ?_
    have h1 := (h.blk i hu).2
    have h2 := (k.blk i e.symm).1
    omega
theorem blk_ne' {TI : TypeId} {a b c d : World} {u v : Value} {l m : List Int} (h : Own TI a b u l) (k : Own TI c d v m) (hs : d.heap.size ≤ a.heap.size) : u.ownBlock = none ∨ u.ownBlock ≠ v.ownBlock := by
  cases hu : u.ownBlock with
  | none => exact Or.inl rfl
  | some i =>
    refine Or.inr fun e => ?_
    have h1 := (h.blk i hu).1
    have h2 := (k.blk i e.symm).2
    omega
end Go.Zz

/- Kept counts that are made new. -/
namespace Go.Zz
open Go.RowKit Go.Proofs
set_option maxHeartbeats 1000000
set_option maxRecDepth 20000

/-- a value of type Kept whose slices are owned, apart from each other -/
def OwnK2 (w0 w : World) (c : Value) (l : List Int) (n : Int) (m : List Int) : Prop :=
  ∃ v u, c = .agg #[v, .int .i64 n, u] ∧ Own 3 w0 w v l ∧ Own 3 w0 w u m ∧ (v.ownBlock = none ∨ v.ownBlock ≠ u.ownBlock)
theorem OwnK2.isK {w0 w : World} {c : Value} {l m : List Int} {n : Int} (h : OwnK2 w0 w c l n m) : IsK w c l n m := by
  obtain ⟨v, u, rfl, h1, h2, _⟩ := h; exact ⟨v, u, rfl, h1.ints, h2.ints⟩
theorem OwnK2.none (w0 w : World) : OwnK2 w0 w (.agg #[.slice none 0 0, .int .i64 0, .slice none 0 0]) [] 0 [] :=
  ⟨_, _, rfl, Own.nil _ _ _, Own.nil _ _ _, Or.inl rfl⟩
theorem OwnK2.mono {w0 w1 w : World} {c : Value} {l m : List Int} {n : Int} (h : OwnK2 w1 w c l n m) (hE : Ext w0 w1) : OwnK2 w0 w c l n m := by
  obtain ⟨v, u, rfl, h1, h2, h3⟩ := h; exact ⟨v, u, rfl, h1.mono hE, h2.mono hE, h3⟩
theorem OwnK2.ext {w0 w w' : World} {c : Value} {l m : List Int} {n : Int} (h : OwnK2 w0 w c l n m) (hE : Ext w w') : OwnK2 w0 w' c l n m := by
  obtain ⟨v, u, rfl, h1, h2, h3⟩ := h; exact ⟨v, u, rfl, h1.ext hE, h2.ext hE, h3⟩
def nkL (l : List Int) (a : Int) : List Int := if isSetB l a then l else []
def nkN (l : List Int) (a : Int) : Int := if isSetB l a then a else 0
theorem nk_no {l : List Int} {a : Int} (h : isSetB l a = false) : nkL l a = [] ∧ nkN l a = 0 ∧ tabF l a a = [] := by unfold nkL nkN; rw [h]; exact ⟨rfl, rfl, tabF_no (by rw [h]; rfl)⟩
theorem nk_yes {l : List Int} {a : Int} (h : isSetB l a = true) : nkL l a = l ∧ nkN l a = a := by unfold nkL nkN; rw [h]; exact ⟨rfl, rfl⟩

theorem copyInts_any (v : Value) (l : List Int) (w : World) (h : Ints w v l) :
    Calls Try.prog 67 #[v] w fun e w' => ∃ v', e = .returned v' ∧ Own 3 w w' v' l ∧ Ext w w' := by
  have hO := own_made (TI := 3) (n := 0) (by omega) (Ext.refl w) [] rfl
  have hE := (Ext.refl w).alloc (.cells #[] 3)
  have hI := h.ext hE
  obtain ⟨ao, c, rfl, hc, hlen, -⟩ := h
  go_enter Try.func67, Try.ntmps67
  go_wp2_with (at_builtin; refine wp_appends slI rfl _ _ rfl w _ _ _ _ _ hO hI hE (by simpa using hlen) rfl rfl ?_; intro v1 w1 hO1 hE1)
  go_ret
  exact ⟨_, rfl, by simpa using hO1, hE1⟩

theorem NewKept_any (v : Value) (l : List Int) (a : Int) (w : World) (h : Ints w v l) :
    Calls Try.prog 12 #[.agg #[v], .int .i64 a] w fun e w' => ∃ c, e = .returned (.tuple #[c, .bool (isSetB l a)]) ∧ OwnK2 w w' c (nkL l a) (nkN l a) (tabF l a a) ∧ Ext w w' := by
  obtain ⟨wb, hwb⟩ : ∃ wb, wb = w.alloc (.cells #[v] 26) := ⟨_, rfl⟩
  have hE0 := (Ext.refl w).alloc (.cells #[v] 26)
  have hb := box_cell w v 26
  rw [← hwb] at hE0 hb
  have hg : ∀ W, Ext wb W → Ints W v l := fun W hW => h.ext (hE0.trans hW)
  have hE := Ext.refl wb
  have Hsz : Hid (w.heap.size + 1 = wb.heap.size) := Lib.hid (by rw [hwb]; simp [go_sem])
  have Hwb := Lib.hid hwb
  clear hwb h
  obtain ⟨wc, hwc⟩ : ∃ wc, wc = wb.alloc (.cells #[.slice none 0 0, .int .i64 0, .slice none 0 0] 28) := ⟨_, rfl⟩
  have hBc : Blk wc wb.heap.size 28 #[.slice none 0 0, .int .i64 0, .slice none 0 0] := by rw [hwc]; exact Blk.new _ _ _
  have hRc : Res wc wb.heap.size 3 := hBc.res (by simp)
  have hAc : Ext wb wc := by rw [hwc]; exact hE.alloc _
  replace hE := Ext.refl wc
  have Hsz2 : Hid (wb.heap.size + 1 = wc.heap.size) := Lib.hid (by rw [hwc]; simp [go_sem])
  have Hwc := Lib.hid hwc
  clear hwc hBc
  have hbc : ∀ W, Ext wc W → W.cell? ⟨w.heap.size, 0, none⟩ = some v := fun W hW => hb W (hAc.trans hW)
  have hgc : ∀ W, Ext wc W → Ints W v l := fun W hW => hg W (hAc.trans hW)
  cases hs : isSetB l a
  · have Hs := Lib.hid (nk_no hs)
    go_enter Try.func12, Try.ntmps12
    go_wp2_with fail
    rw [← Hwb.out, ← Hwc.out]; rw [Hsz.out]
    refine (IsSet_val _ _ _ _ (hgc _ hE) hs).mono ?_
    rintro e w1 ⟨rfl, hE1⟩
    have hr := hRc.ext hE1
    unfold Res at hr
    go_wp2_with fail
    exact bodyPost_ret (v := .tuple #[.agg #[.slice none 0 0, .int .i64 0, .slice none 0 0], .bool false]) (by simp [results, Try.results12, go_sem, hr]) rfl ⟨_, rfl, by rw [Hs.out.1, Hs.out.2.1, Hs.out.2.2]; exact OwnK2.none _ _, hE0.trans (Ext.setCell (Ext.setCell (Ext.setCell (hAc.trans hE1) (Nat.le_refl _) _) (Nat.le_refl _) _) (Nat.le_refl _) _)⟩
  · have Hs := Lib.hid (nk_yes hs)
    go_enter Try.func12, Try.ntmps12
    go_wp2_with fail
    rw [← Hwb.out, ← Hwc.out]; rw [Hsz.out]
    refine (IsSet_val _ _ _ _ (hgc _ hE) hs).mono ?_
    rintro e w1 ⟨rfl, hE1⟩
    replace hE := hE1
    have hlt : wb.heap.size < w1.heap.size := by have := Hsz2.out; have := hE1.size; omega
    clear hs hE1
    go_wp2_with fail
    have hD := hE.drew
    first | (go_region_held3 (fun W => Ext (wb) W ∧ W.cell? ⟨w.heap.size, 0, none⟩ = some v ∧ (∀ i, i < 3 → W.cell? ⟨(wb).heap.size, i, none⟩ = some (At W ⟨(wb).heap.size, i, none⟩) ∧ W.frozen? ⟨(wb).heap.size, i, none⟩ = false)) (exact ⟨(by (repeat (refine Ext.setCell ?_ (Nat.le_refl _) _)); exact Ext.trans hAc (by repeat (first | assumption | exact Ext.refl _ | (apply And.left; assumption) | apply Ext.drew | apply Ext.alloc))), hb _ (by (repeat (refine Ext.setCell ?_ (Nat.le_refl _) _)); exact Ext.trans hAc (by repeat (first | assumption | exact Ext.refl _ | (apply And.left; assumption) | apply Ext.drew | apply Ext.alloc))), (by (repeat (refine Res.setCell ?_ _ _)); exact Res.ext hRc (by repeat (first | assumption | exact Ext.refl _ | (apply And.left; assumption) | apply Ext.drew | apply Ext.alloc)))⟩) (first | (go_at_call 67; ((with_reducible refine Calls.mono (Calls.sh (copyInts_any _ _ _ (hgc _ (by repeat (first | assumption | exact Ext.refl _ | (apply And.left; assumption) | apply Ext.drew | apply Ext.alloc))))) ?_); rintro e wH0 ⟨aoC, coC, rfl, hOC, hX0⟩; have hH0 := Ext.trans (a := wc) (by repeat (first | assumption | exact Ext.refl _ | (apply And.left; assumption) | apply Ext.drew | apply Ext.alloc)) hX0)) | (go_at_call 68; ((with_reducible refine Calls.mono (Calls.sh (SumTable_any _ _ _ _ _ (hgc _ (by repeat (first | assumption | exact Ext.refl _ | (apply And.left; assumption) | apply Ext.drew | apply Ext.alloc))))) ?_); rintro e wH1 ⟨aoS, coS, rfl, hOS, hX1⟩; have hH1 := Ext.trans (a := wc) (by repeat (first | assumption | exact Ext.refl _ | (apply And.left; assumption) | apply Ext.drew | apply Ext.alloc)) hX1)))) | (fail "the region with a result")
    all_goals go_wp2_with fail
    have hr := hRc.ext hH1
    unfold Res at hr
    have hwc : wb.heap.size < wc.heap.size := by have := Hsz2.out; omega
    have hv := (hOC.ext hX1).mono (show Ext wc _ by repeat (first | assumption | exact Ext.refl _ | (apply And.left; assumption) | apply Ext.drew | apply Ext.alloc))
    have hu := hOS.mono (show Ext wc _ by repeat (first | assumption | exact Ext.refl _ | (apply And.left; assumption) | apply Ext.drew | apply Ext.alloc))
    exact bodyPost_ret (v := .tuple #[.agg #[.slice aoC l.length coC, .int .i64 a, .slice aoS (tabF l a a).length coS], .bool true]) (by simp [results, Try.results12, go_sem, hr]) rfl ⟨_, rfl, by
      rw [Hs.out.1, Hs.out.2]
      exact ⟨_, _, rfl, (((hv.setCell_below hwc _).setCell_below hwc _).setCell_below hwc _).mono (hE0.trans hAc), (((hu.setCell_below hwc _).setCell_below hwc _).setCell_below hwc _).mono (hE0.trans hAc), blk_ne hOC hOS (Nat.le_refl _)⟩,
      hE0.trans (Ext.setCell (Ext.setCell (Ext.setCell (hAc.trans hH1) (Nat.le_refl _) _) (Nat.le_refl _) _) (Nat.le_refl _) _)⟩
theorem sNewKept_any (v : Value) (l : List Int) (a : Int) (w : World) (h : Ints w v l) :
    Calls Try.prog 23 #[.agg #[v], .int .i64 a] w fun e w' => ∃ c, e = .returned (.tuple #[c, .bool (isSetB l a)]) ∧ OwnK2 w w' c (nkL l a) (nkN l a) (tabF l a a) ∧ Ext w w' := by
  obtain ⟨wb, hwb⟩ : ∃ wb, wb = w.alloc (.cells #[v] 26) := ⟨_, rfl⟩
  have hE0 := (Ext.refl w).alloc (.cells #[v] 26)
  have hb := box_cell w v 26
  rw [← hwb] at hE0 hb
  have hg : ∀ W, Ext wb W → Ints W v l := fun W hW => h.ext (hE0.trans hW)
  have hE := Ext.refl wb
  have Hsz : Hid (w.heap.size + 1 = wb.heap.size) := Lib.hid (by rw [hwb]; simp [go_sem])
  have Hwb := Lib.hid hwb
  clear hwb h
  obtain ⟨wc, hwc⟩ : ∃ wc, wc = wb.alloc (.cells #[.slice none 0 0, .int .i64 0, .slice none 0 0] 28) := ⟨_, rfl⟩
  have hBc : Blk wc wb.heap.size 28 #[.slice none 0 0, .int .i64 0, .slice none 0 0] := by rw [hwc]; exact Blk.new _ _ _
  have hRc : Res wc wb.heap.size 3 := hBc.res (by simp)
  have hAc : Ext wb wc := by rw [hwc]; exact hE.alloc _
  replace hE := Ext.refl wc
  have Hsz2 : Hid (wb.heap.size + 1 = wc.heap.size) := Lib.hid (by rw [hwc]; simp [go_sem])
  have Hwc := Lib.hid hwc
  clear hwc hBc
  have hbc : ∀ W, Ext wc W → W.cell? ⟨w.heap.size, 0, none⟩ = some v := fun W hW => hb W (hAc.trans hW)
  have hgc : ∀ W, Ext wc W → Ints W v l := fun W hW => hg W (hAc.trans hW)
  cases hs : isSetB l a
  · have Hs := Lib.hid (nk_no hs)
    go_enter Try.func23, Try.ntmps23
    go_wp2_with fail
    rw [← Hwb.out, ← Hwc.out]; rw [Hsz.out]
    refine (sIsSet_val _ _ _ _ (hgc _ hE) hs).mono ?_
    rintro e w1 ⟨rfl, hE1⟩
    have hr := hRc.ext hE1
    unfold Res at hr
    go_wp2_with fail
    exact bodyPost_ret (v := .tuple #[.agg #[.slice none 0 0, .int .i64 0, .slice none 0 0], .bool false]) (by simp [results, Try.results23, go_sem, hr]) rfl ⟨_, rfl, by rw [Hs.out.1, Hs.out.2.1, Hs.out.2.2]; exact OwnK2.none _ _, hE0.trans (Ext.setCell (Ext.setCell (Ext.setCell (hAc.trans hE1) (Nat.le_refl _) _) (Nat.le_refl _) _) (Nat.le_refl _) _)⟩
  · have Hs := Lib.hid (nk_yes hs)
    go_enter Try.func23, Try.ntmps23
    go_wp2_with fail
    rw [← Hwb.out, ← Hwc.out]; rw [Hsz.out]
    refine (sIsSet_val _ _ _ _ (hgc _ hE) hs).mono ?_
    rintro e w1 ⟨rfl, hE1⟩
    replace hE := hE1
    have hlt : wb.heap.size < w1.heap.size := by have := Hsz2.out; have := hE1.size; omega
    clear hs hE1
    go_wp2_with fail
    have hD := hE.drew
    first | (go_region_held3 (fun W => Ext (wb) W ∧ W.cell? ⟨w.heap.size, 0, none⟩ = some v ∧ (∀ i, i < 3 → W.cell? ⟨(wb).heap.size, i, none⟩ = some (At W ⟨(wb).heap.size, i, none⟩) ∧ W.frozen? ⟨(wb).heap.size, i, none⟩ = false)) (exact ⟨(by (repeat (refine Ext.setCell ?_ (Nat.le_refl _) _)); exact Ext.trans hAc (by repeat (first | assumption | exact Ext.refl _ | (apply And.left; assumption) | apply Ext.drew | apply Ext.alloc))), hb _ (by (repeat (refine Ext.setCell ?_ (Nat.le_refl _) _)); exact Ext.trans hAc (by repeat (first | assumption | exact Ext.refl _ | (apply And.left; assumption) | apply Ext.drew | apply Ext.alloc))), (by (repeat (refine Res.setCell ?_ _ _)); exact Res.ext hRc (by repeat (first | assumption | exact Ext.refl _ | (apply And.left; assumption) | apply Ext.drew | apply Ext.alloc)))⟩) (first | (refine step_copy slI rfl _ _ rfl _ _ _ rfl rfl (by first | exact Blk.new _ _ _ | exact (Blk.new _ _ _).ext (by repeat (first | assumption | exact Ext.refl _ | (apply And.left; assumption) | apply Ext.drew | apply Ext.alloc))) (hgc _ (by repeat (first | assumption | exact Ext.refl _ | (apply And.left; assumption) | apply Ext.drew | apply Ext.alloc))) (wc) (by first | exact Nat.le_refl _ | (apply Ext.size; repeat (first | assumption | exact Ext.refl _ | (apply And.left; assumption) | apply Ext.drew | apply Ext.alloc); done) | (simp; omega)) (by repeat (first | assumption | exact Ext.refl _ | (apply And.left; assumption) | apply Ext.drew | apply Ext.alloc)) ?_; intro aoC coC wC hOC hX0; have hH0 := Ext.trans (a := wc) (by repeat (first | assumption | exact Ext.refl _ | (apply And.left; assumption) | apply Ext.drew | apply Ext.alloc)) hX0) | (go_at_call 71; ((with_reducible refine Calls.mono (Calls.sh (sSumTable_any _ _ _ _ _ (hgc _ (by repeat (first | assumption | exact Ext.refl _ | (apply And.left; assumption) | apply Ext.drew | apply Ext.alloc))))) ?_); rintro e wH1 ⟨aoS, coS, rfl, hOS, hX1⟩; have hH1 := Ext.trans (a := wc) (by repeat (first | assumption | exact Ext.refl _ | (apply And.left; assumption) | apply Ext.drew | apply Ext.alloc)) hX1)))) | (fail "the region with a result")
    all_goals go_wp2_with fail
    have hr := hRc.ext hH1
    unfold Res at hr
    have hwc : wb.heap.size < wc.heap.size := by have := Hsz2.out; omega
    have hv := (hOC.ext hX1).mono (show Ext wc _ by repeat (first | assumption | exact Ext.refl _ | (apply And.left; assumption) | apply Ext.drew | apply Ext.alloc))
    have hu := hOS.mono (show Ext wc _ by repeat (first | assumption | exact Ext.refl _ | (apply And.left; assumption) | apply Ext.drew | apply Ext.alloc))
    exact bodyPost_ret (v := .tuple #[.agg #[.slice aoC l.length coC, .int .i64 a, .slice aoS (tabF l a a).length coS], .bool true]) (by simp [results, Try.results23, go_sem, hr]) rfl ⟨_, rfl, by
      rw [Hs.out.1, Hs.out.2]
      exact ⟨_, _, rfl, (((hv.setCell_below hwc _).setCell_below hwc _).setCell_below hwc _).mono (hE0.trans hAc), (((hu.setCell_below hwc _).setCell_below hwc _).setCell_below hwc _).mono (hE0.trans hAc), blk_ne hOC hOS (Nat.le_refl _)⟩,
      hE0.trans (Ext.setCell (Ext.setCell (Ext.setCell (hAc.trans hH1) (Nat.le_refl _) _) (Nat.le_refl _) _) (Nat.le_refl _) _)⟩
end Go.Zz

/- Marks in kept counts. -/
namespace Go.Zz
open Go.RowKit Go.Proofs
set_option maxHeartbeats 400000

theorem Blk.grown {w w' : World} {b : Nat} {T : TypeId} {cs : Array Value} {row : Option Nat} (h : Blk w b T cs) (hg : w.grownBy w' row) (hne : ∀ k, row = some k → k ≠ b) : Blk w' b T cs := by
  unfold Blk
  rw [hg.block b h.lt (by
    cases row with
    | none => simp
    | some k => simp; exact fun e => hne k rfl (by first | exact e | exact e.symm))]
  exact h
/-- the slices of a value of type Kept lie below a block -/
def Below2 (c : Value) (top : Nat) : Prop := ∀ v n u, c = .agg #[v, n, u] → ∀ k, (v.ownBlock = some k ∨ u.ownBlock = some k) → k < top
theorem OwnK2.below {w0 w : World} {c : Value} {l m : List Int} {n : Int} (h : OwnK2 w0 w c l n m) : Below2 c w.heap.size := by
  obtain ⟨v, u, rfl, hv, hu, -⟩ := h
  intro v' n' u' e k hk
  simp at e
  obtain ⟨rfl, rfl, rfl⟩ := e
  rcases hk with hk | hk
  · exact (hv.blk k hk).2
  · exact (hu.blk k hk).2
theorem OwnK2.kept {w0 w w' : World} {c : Value} {l m : List Int} {n : Int} {row : Option Nat} (h : OwnK2 w0 w c l n m) (hg : w.grownBy w' row) (hr : ∀ k, row = some k → k < w0.heap.size) : OwnK2 w0 w' c l n m := by
  obtain ⟨v, u, rfl, hv, hu, hd⟩ := h
  have key : ∀ {x : Value} {ll : List Int}, Own 3 w0 w x ll → Own 3 w0 w' x ll := fun {x ll} hx => hx.kept hg (by
    cases hq : x.ownBlock with
    | none => exact Or.inl rfl
    | some k => exact Or.inr fun e => by have := hr k e.symm; have := (hx.blk k hq).1; omega)
  exact ⟨v, u, rfl, key hv, key hu, hd⟩
end Go.Zz

/- Claims: equal ones, marks in what they hold. -/
namespace Go.Zz
open Go.RowKit Go.Proofs
set_option maxHeartbeats 2000000

/-- two values own no block together -/
def Apart (x y : Value) : Prop := ∀ k, x.ownBlock = some k → y.ownBlock ≠ some k
theorem Apart.symm {x y : Value} (h : Apart x y) : Apart y x := fun k hk e => h k e hk
theorem Apart.or {x y : Value} (h : Apart x y) : x.ownBlock = none ∨ x.ownBlock ≠ y.ownBlock := by
  cases hx : x.ownBlock with
  | none => exact Or.inl rfl
  | some k => exact Or.inr fun e => h k hx e.symm
theorem Apart.nil_left (y : Value) : Apart (.slice none 0 0) y := fun k hk => by cases hk
theorem Apart.nil_right (x : Value) : Apart x (.slice none 0 0) := fun k _ h => by cases h
theorem apart_of {TI : TypeId} {a b c d : World} {u v : Value} {l m : List Int} (h : Own TI a b u l) (k : Own TI c d v m) (hs : b.heap.size ≤ c.heap.size) : Apart u v := fun i hi e => by
  have h1 := (h.blk i hi).2
  have h2 := (k.blk i e).1
  omega
/-- four slices that are owned, apart from each other -/
structure Own4 (w0 w : World) (v1 v2 v3 v4 : Value) (g o t q : List Int) : Prop where
  h1 : Own 3 w0 w v1 g
  h2 : Own 3 w0 w v2 o
  h3 : Own 3 w0 w v3 t
  h4 : Own 3 w0 w v4 q
  d12 : Apart v1 v2
  d13 : Apart v1 v3
  d14 : Apart v1 v4
  d23 : Apart v2 v3
  d24 : Apart v2 v4
  d34 : Apart v3 v4
theorem Own4.ext {w0 w w' : World} {v1 v2 v3 v4 : Value} {g o t q : List Int} (h : Own4 w0 w v1 v2 v3 v4 g o t q) (hE : Ext w w') : Own4 w0 w' v1 v2 v3 v4 g o t q :=
  ⟨h.h1.ext hE, h.h2.ext hE, h.h3.ext hE, h.h4.ext hE, h.d12, h.d13, h.d14, h.d23, h.d24, h.d34⟩
theorem Own4.mono {w0 w1 w : World} {v1 v2 v3 v4 : Value} {g o t q : List Int} (h : Own4 w1 w v1 v2 v3 v4 g o t q) (hE : Ext w0 w1) : Own4 w0 w v1 v2 v3 v4 g o t q :=
  ⟨h.h1.mono hE, h.h2.mono hE, h.h3.mono hE, h.h4.mono hE, h.d12, h.d13, h.d14, h.d23, h.d24, h.d34⟩
/-- the slices of a claim read as lists -/
structure Ints4 (w : World) (v1 v2 v3 v4 : Value) (g o t q : List Int) : Prop where
  g : Ints w v1 g
  o : Ints w v2 o
  t : Ints w v3 t
  q : Ints w v4 q
theorem Ints4.ext {w w' : World} {v1 v2 v3 v4 : Value} {g o t q : List Int} (h : Ints4 w v1 v2 v3 v4 g o t q) (hE : Ext w w') : Ints4 w' v1 v2 v3 v4 g o t q :=
  ⟨h.g.ext hE, h.o.ext hE, h.t.ext hE, h.q.ext hE⟩
theorem Own4.ints {w0 w : World} {v1 v2 v3 v4 : Value} {g o t q : List Int} (h : Own4 w0 w v1 v2 v3 v4 g o t q) : Ints4 w v1 v2 v3 v4 g o t q := ⟨h.h1.ints, h.h2.ints, h.h3.ints, h.h4.ints⟩
/-- the slices lie below a block -/
def Below4 (v1 v2 v3 v4 : Value) (top : Nat) : Prop := ∀ k, (v1.ownBlock = some k ∨ v2.ownBlock = some k ∨ v3.ownBlock = some k ∨ v4.ownBlock = some k) → k < top
theorem Own4.below {w0 w : World} {v1 v2 v3 v4 : Value} {g o t q : List Int} (h : Own4 w0 w v1 v2 v3 v4 g o t q) : Below4 v1 v2 v3 v4 w.heap.size := by
  rintro k (hk | hk | hk | hk)
  · exact (h.h1.blk k hk).2
  · exact (h.h2.blk k hk).2
  · exact (h.h3.blk k hk).2
  · exact (h.h4.blk k hk).2
theorem Own.kept_low {TI : TypeId} {w0 w w' : World} {v : Value} {l : List Int} {row : Option Nat} (h : Own TI w0 w v l) (hg : w.grownBy w' row) (hr : ∀ k, row = some k → k < w0.heap.size) : Own TI w0 w' v l :=
  h.kept hg (by
    cases hq : v.ownBlock with
    | none => exact Or.inl rfl
    | some k => exact Or.inr fun e => by have := hr k e.symm; have := (h.blk k hq).1; omega)
theorem Own.kept_high {TI : TypeId} {w0 w w' : World} {v : Value} {l : List Int} {row : Option Nat} (h : Own TI w0 w v l) (hg : w.grownBy w' row) (hr : ∀ k, row = some k → v.ownBlock ≠ some k) : Own TI w0 w' v l :=
  h.kept hg (by
    cases hq : v.ownBlock with
    | none => exact Or.inl rfl
    | some k => exact Or.inr fun e => hr k e.symm hq)
theorem Own4.kept {w0 w w' : World} {v1 v2 v3 v4 : Value} {g o t q : List Int} {row : Option Nat} (h : Own4 w0 w v1 v2 v3 v4 g o t q) (hg : w.grownBy w' row) (hr : ∀ k, row = some k → k < w0.heap.size) : Own4 w0 w' v1 v2 v3 v4 g o t q :=
  ⟨h.h1.kept_low hg hr, h.h2.kept_low hg hr, h.h3.kept_low hg hr, h.h4.kept_low hg hr, h.d12, h.d13, h.d14, h.d23, h.d24, h.d34⟩
/-- a value of type Claim -/
def CV (k : Int) (v1 v2 : Value) (a b s p : Int) (v3 v4 : Value) (n : Int) : Value := .agg #[.int .i64 k, v1, v2, .int .i64 a, .int .i64 b, .int .i64 s, .int .i64 p, v3, v4, .int .i64 n]

end Go.Zz

/- Negatives of elements and of sets; differences of sets. -/
namespace Go.Zz
open Go.RowKit Go.Proofs
set_option maxHeartbeats 400000

theorem neg_val {x q s u : Nat} (hs : s < 24) (hq : 2 ≤ q) (hm : ((q - x % q) % q) * u ≤ 331776) :
    Value.int .i64 (wrap64 ((s : Int) + wrap64 ((((q : Int) - (x : Int) % (q : Int)) % (q : Int)) * (u : Int)))) = .int .i64 ((s + ((q - x % q) % q) * u : Nat) : Int) := by
  have h1 := Nat.mod_lt x (show 0 < q by omega)
  have e1 : (q : Int) - (x : Int) % (q : Int) = ((q - x % q : Nat) : Int) := by rw [← Int.natCast_emod]; omega
  have e2 : (((q - x % q : Nat) : Int) % (q : Int)) * (u : Int) = ((((q - x % q) % q) * u : Nat) : Int) := by rw [Int.natCast_mul, Int.natCast_emod]
  rw [e1, e2]
  generalize ((q - x % q) % q) * u = d at hm ⊢
  rw [wrapN d (by omega), ← Int.natCast_add, wrapN (s + d) (by omega)]
--%call negate 149 ext negate_any _ _ _ _ ({0}) ({1}) ({2})
theorem negate_any (v : Value) (l : List Int) (x : Nat) (w : World) (h : Ints w v l) (Hgr : Hid (isGrp l = true)) (hx : x < 16777216) :
    Calls Try.prog 149 #[.agg #[v], .int .i64 x] w fun e w' => e = .returned (.int .i64 (negF l x)) ∧ Ext w w' := by
  obtain ⟨ao, c, adr, rfl, hlen, hadr, hcell⟩ := h.op
  have hix := ints_index (c := c) elI szI hadr
  clear hadr h
  obtain ⟨wb, hwb⟩ : ∃ wb, wb = w.alloc (.cells #[.slice ao l.length c] 26) := ⟨_, rfl⟩
  have hE0 := (Ext.refl w).alloc (.cells #[.slice ao l.length c] 26)
  have hb := box_cell w (.slice ao l.length c) 26
  rw [← hwb] at hE0 hb
  have hE := Ext.refl wb
  have Hwb := Lib.hid hwb
  have hA := negF_bd Hgr.out x
  have h3 := isGrp_len Hgr.out
  clear hwb
  go_enter Try.func149, Try.ntmps149
  go_wp2_with fail
  rw [← Hwb.out]
  go_loopw [1, 5, 6, 12] (fun xv sv uv i wr => ∃ k x' s u : Nat, k ≤ l.length ∧ x' ≤ x ∧ s + u * negF (l.drop k) x' = negF l x ∧ (u : Int) = prodL (l.take k) ∧ xv = .int .i64 x' ∧ sv = .int .i64 s ∧ uv = .int .i64 u ∧ i = .int .i64 k ∧ Ext wb wr) (fun _ _ _ i _ => l.length - (intOf i).toNat)
  case atStart => exact ⟨0, x, 0, 1, by omega, by omega, by simp, by simp [prodL], rfl, rfl, rfl, rfl, hE⟩
  case round =>
    clear hE
    obtain ⟨k, x', s, u, hk, hx', hs, hu, rfl, rfl, rfl, rfl, hE⟩ := hrel
    have hbx := hb wr hE
    have hsb := add_inv hs hA
    obtain ⟨hu1, hu2⟩ := prodL_bd3 k l hk (by omega) (fun j hj => isGrp_nth Hgr.out (by omega))
    rw [← hu] at hu1 hu2
    have Hs := Lib.hid hs
    have Hu := Lib.hid hu
    clear hs hu hA
    by_cases hlt : k < l.length
    · have hck := hcell k _ hlt (hE0.trans hE)
      obtain ⟨hq1, hq2⟩ := isGrp_nth Hgr.out hlt
      obtain ⟨q, hq⟩ := Int.eq_ofNat_of_zero_le (show 0 ≤ nth l k by omega)
      have Hst := Lib.hid (negF_step hlt hq x')
      have Hu2 : Hid (nth l k * prodL (l.take k) = prodL (l.take (k + 1))) := Lib.hid (by rw [prodL_take l k hlt, Int.mul_comm])
      rw [hq] at hq1 hq2
      have Hq := Lib.hid hq
      have hd : (q - x' % q) % q < 24 := Nat.lt_of_lt_of_le (Nat.mod_lt _ (by omega)) (by omega)
      have hm1 : ((q - x' % q) % q) * u ≤ 24 * 13824 := Nat.mul_le_mul (by omega) (by omega)
      have hm2 : u * q ≤ 13824 * 24 := Nat.mul_le_mul (by omega) (by omega)
      have h1 := Nat.mod_lt x' (show 0 < q by omega)
      have c1 : (q : Int) - (x' : Int) % (q : Int) = ((q - x' % q : Nat) : Int) := by rw [← Int.natCast_emod]; omega
      have c2 : (((q : Int) - (x' : Int) % (q : Int)) % (q : Int)) * (u : Int) = ((((q - x' % q) % q) * u : Nat) : Int) := by rw [c1, Int.natCast_mul, Int.natCast_emod]
      have c3 : ((u * q : Nat) : Int) = (u : Int) * (q : Int) := Int.natCast_mul _ _
      have b1 : (x' : Int) % (q : Int) < 24 := by have := Int.emod_lt_of_pos (x' : Int) (show (0:Int) < q by omega); omega
      have b3 : 0 ≤ (x' : Int) % (q : Int) := Int.emod_nonneg _ (by omega)
      have b2 : 0 ≤ (q : Int) - (x' : Int) % (q : Int) := by have := Int.emod_lt_of_pos (x' : Int) (show (0:Int) < q by omega); omega
      have b5 : (((q : Int) - (x' : Int) % (q : Int)) % (q : Int)) * (u : Int) ≤ 331776 := by rw [c2]; omega
      have b6 : 0 ≤ (((q : Int) - (x' : Int) % (q : Int)) % (q : Int)) * (u : Int) := by rw [c2]; omega
      have b7 : (u : Int) * (q : Int) ≤ 331776 := by rw [← c3]; omega
      have b8 : 0 ≤ (u : Int) * (q : Int) := by rw [← c3]; omega
      have Hm1 := Lib.hid hm1
      clear c1 c2 c3 hd hm1 hm2 h1
      go_wp2_with fail
      skip
      go_roundw
      case rel =>
        refine ⟨k + 1, x' / q, s + ((q - x' % q) % q) * u, u * q, by omega, Nat.le_trans (Nat.div_le_self _ _) hx', ?_, ?_, ?_, ?_, ?_, by go_num, hE⟩
        · apply add_next
          rw [← Hst.out]; exact Hs.out
        · rw [← Hu2.out, ← Hu.out, Hq.out]; push_cast; rw [Int.mul_comm]
        · exact div_val (Nat.le_trans hx' (Nat.le_of_lt hx))
        · first | exact neg_val hsb (by omega) Hm1.out | (rw [show (-((x' : Int) % (q : Int))) % (q : Int) = ((q : Int) - (x' : Int) % (q : Int)) % (q : Int) from by simp]; exact neg_val hsb (by omega) Hm1.out)
        · exact mul_val u q
      case measure => (simp [intOf]; omega)
    · have hkl : k = l.length := by omega
      subst hkl
      go_wp2_with fail
      go_ret
      exact ⟨ret_int (by have := Hs.out; rw [List.drop_length] at this; simp [negF] at this; omega), hE0.trans hE⟩
--%call l2Negate 177 ext l2Negate_any _ _ _ _ ({0}) ({1}) ({2})
theorem l2Negate_any (v : Value) (l : List Int) (x : Nat) (w : World) (h : Ints w v l) (Hgr : Hid (isGrp l = true)) (hx : x < 16777216) :
    Calls Try.prog 177 #[.agg #[v], .int .i64 x] w fun e w' => e = .returned (.int .i64 (negF l x)) ∧ Ext w w' := by
  obtain ⟨ao, c, adr, rfl, hlen, hadr, hcell⟩ := h.op
  have hix := ints_index (c := c) elI szI hadr
  clear hadr h
  obtain ⟨wb, hwb⟩ : ∃ wb, wb = w.alloc (.cells #[.slice ao l.length c] 26) := ⟨_, rfl⟩
  have hE0 := (Ext.refl w).alloc (.cells #[.slice ao l.length c] 26)
  have hb := box_cell w (.slice ao l.length c) 26
  rw [← hwb] at hE0 hb
  have hE := Ext.refl wb
  have Hwb := Lib.hid hwb
  have hA := negF_bd Hgr.out x
  have h3 := isGrp_len Hgr.out
  clear hwb
  go_enter Try.func177, Try.ntmps177
  go_wp2_with fail
  rw [← Hwb.out]
  go_loopw [1, 5, 6, 7] (fun xv sv uv i wr => ∃ k x' s u : Nat, k ≤ l.length ∧ x' ≤ x ∧ s + u * negF (l.drop k) x' = negF l x ∧ (u : Int) = prodL (l.take k) ∧ xv = .int .i64 x' ∧ sv = .int .i64 s ∧ uv = .int .i64 u ∧ i = .int .i64 k ∧ Ext wb wr) (fun _ _ _ i _ => l.length - (intOf i).toNat)
  case atStart => exact ⟨0, x, 0, 1, by omega, by omega, by simp, by simp [prodL], rfl, rfl, rfl, rfl, hE⟩
  case round =>
    clear hE
    obtain ⟨k, x', s, u, hk, hx', hs, hu, rfl, rfl, rfl, rfl, hE⟩ := hrel
    have hbx := hb wr hE
    have hsb := add_inv hs hA
    obtain ⟨hu1, hu2⟩ := prodL_bd3 k l hk (by omega) (fun j hj => isGrp_nth Hgr.out (by omega))
    rw [← hu] at hu1 hu2
    have Hs := Lib.hid hs
    have Hu := Lib.hid hu
    clear hs hu hA
    by_cases hlt : k < l.length
    · have hck := hcell k _ hlt (hE0.trans hE)
      obtain ⟨hq1, hq2⟩ := isGrp_nth Hgr.out hlt
      obtain ⟨q, hq⟩ := Int.eq_ofNat_of_zero_le (show 0 ≤ nth l k by omega)
      have Hst := Lib.hid (negF_step hlt hq x')
      have Hu2 : Hid (nth l k * prodL (l.take k) = prodL (l.take (k + 1))) := Lib.hid (by rw [prodL_take l k hlt, Int.mul_comm])
      rw [hq] at hq1 hq2
      have Hq := Lib.hid hq
      have hd : (q - x' % q) % q < 24 := Nat.lt_of_lt_of_le (Nat.mod_lt _ (by omega)) (by omega)
      have hm1 : ((q - x' % q) % q) * u ≤ 24 * 13824 := Nat.mul_le_mul (by omega) (by omega)
      have hm2 : u * q ≤ 13824 * 24 := Nat.mul_le_mul (by omega) (by omega)
      have h1 := Nat.mod_lt x' (show 0 < q by omega)
      have c1 : (q : Int) - (x' : Int) % (q : Int) = ((q - x' % q : Nat) : Int) := by rw [← Int.natCast_emod]; omega
      have c2 : (((q : Int) - (x' : Int) % (q : Int)) % (q : Int)) * (u : Int) = ((((q - x' % q) % q) * u : Nat) : Int) := by rw [c1, Int.natCast_mul, Int.natCast_emod]
      have c3 : ((u * q : Nat) : Int) = (u : Int) * (q : Int) := Int.natCast_mul _ _
      have b1 : (x' : Int) % (q : Int) < 24 := by have := Int.emod_lt_of_pos (x' : Int) (show (0:Int) < q by omega); omega
      have b3 : 0 ≤ (x' : Int) % (q : Int) := Int.emod_nonneg _ (by omega)
      have b2 : 0 ≤ (q : Int) - (x' : Int) % (q : Int) := by have := Int.emod_lt_of_pos (x' : Int) (show (0:Int) < q by omega); omega
      have b5 : (((q : Int) - (x' : Int) % (q : Int)) % (q : Int)) * (u : Int) ≤ 331776 := by rw [c2]; omega
      have b6 : 0 ≤ (((q : Int) - (x' : Int) % (q : Int)) % (q : Int)) * (u : Int) := by rw [c2]; omega
      have b7 : (u : Int) * (q : Int) ≤ 331776 := by rw [← c3]; omega
      have b8 : 0 ≤ (u : Int) * (q : Int) := by rw [← c3]; omega
      have Hm1 := Lib.hid hm1
      clear c1 c2 c3 hd hm1 hm2 h1
      go_wp2_with fail
      skip
      go_roundw
      case rel =>
        refine ⟨k + 1, x' / q, s + ((q - x' % q) % q) * u, u * q, by omega, Nat.le_trans (Nat.div_le_self _ _) hx', ?_, ?_, ?_, ?_, ?_, by go_num, hE⟩
        · apply add_next
          rw [← Hst.out]; exact Hs.out
        · rw [← Hu2.out, ← Hu.out, Hq.out]; push_cast; rw [Int.mul_comm]
        · exact div_val (Nat.le_trans hx' (Nat.le_of_lt hx))
        · first | exact neg_val hsb (by omega) Hm1.out | (rw [show (-((x' : Int) % (q : Int))) % (q : Int) = ((q : Int) - (x' : Int) % (q : Int)) % (q : Int) from by simp]; exact neg_val hsb (by omega) Hm1.out)
        · exact mul_val u q
      case measure => (simp [intOf]; omega)
    · have hkl : k = l.length := by omega
      subst hkl
      go_wp2_with fail
      go_ret
      exact ⟨ret_int (by have := Hs.out; rw [List.drop_length] at this; simp [negF] at this; omega), hE0.trans hE⟩

--%call opposite 93 ext opposite_any _ _ _ _ ({0}) ({1}) ({2})
theorem opposite_any (v : Value) (l : List Int) (a : Nat) (w : World) (h : Ints w v l) (Hgr : Hid (isGrp l = true)) (ha : a < 2 ^ 24) :
    Calls Try.prog 93 #[.agg #[v], .int .i64 a] w fun e w' => e = .returned (.int .i64 (oppF l a)) ∧ Ext w w' := by
  obtain ⟨wb, hwb⟩ : ∃ wb, wb = w.alloc (.cells #[v] 26) := ⟨_, rfl⟩
  have hE0 := (Ext.refl w).alloc (.cells #[v] 26)
  have hb := box_cell w v 26
  rw [← hwb] at hE0 hb
  have hg : ∀ W, Ext wb W → Ints W v l := fun W hW => h.ext (hE0.trans hW)
  have hE := Ext.refl wb
  have Hsz : Hid (w.heap.size + 1 = wb.heap.size) := Lib.hid (by rw [hwb]; simp [go_sem])
  have Hwb := Lib.hid hwb
  clear hwb h
  go_enter Try.func93, Try.ntmps93
  go_wp2_with fail
  rw [← Hwb.out]
  go_wp2_with (first | (go_at_call 139; refine (members_any _ (ha) _).mono ?_; rintro e w1 ⟨v1, rfl, hL, hE1⟩; obtain ⟨aoL, cL, adrL, rfl, hadrL, hcellL⟩ := hL.ints.nats; have hixL := ints_index (c := cL) elI szI hadrL; clear hadrL))
  have hb1 : ∀ W, Ext w1 W → W.cell? ⟨w.heap.size, 0, none⟩ = some v := fun W hW => hb W (hE1.trans hW)
  have hg1 : ∀ W, Ext w1 W → Ints W v l := fun W hW => hg W (hE1.trans hW)
  replace hE := Ext.refl w1
  clear hb hg hL
  have hall : ∀ y ∈ elems a, y < 24 := fun y hy => elems_lt hy
  have hlen := elems_len a
  have Hd := Lib.hid (oppL_all l a)
  generalize elems a = L at hcellL hixL hall hlen Hd ⊢
  go_loopw [5, 11] (fun ov i wr => ∃ k : Nat, k ≤ L.length ∧ i = .int .i64 k ∧ ov = .int .i64 ((oppL l (L.take k) : Nat) : Int) ∧ Ext w1 wr) (fun _ i _ => L.length - (intOf i).toNat)
  case atStart => exact ⟨0, by omega, rfl, by simp [oppL, bset], hE⟩
  case round =>
    clear hE
    obtain ⟨k, hk, rfl, rfl, hE⟩ := hrel
    by_cases hlt : k < L.length
    · have hck := hcellL k _ hlt hE
      have hbx := hb1 _ hE
      have hby := hall _ (nthN_mem hlt)
      have Ht := Lib.hid (oppL_snoc l (L.take k) (nthN L k))
      have Ht2 := Lib.hid (take_nthN L k hlt)
      have hz := negF_bd Hgr.out (nthN L k)
      have hs1 := ishl_one (n := negF l (nthN L k)) (by omega)
      have hs2 := ior_pw (oppL_bd Hgr.out (L.take k)) hz
      go_wp2_with (first | (go_at_call 149; refine (negate_any _ _ _ _ (hg1 _ hE) (Hgr) ((by omega))).mono ?_; rintro e w' ⟨rfl, hE'⟩; replace hE := hE.trans hE'; clear hE'))
      go_roundw
      case rel => exact ⟨k + 1, by omega, by go_num, by rw [Ht2.out, Ht.out], hE⟩
      case measure => (simp [intOf]; omega)
    · have hkl : k = L.length := by omega
      subst hkl
      go_wp2_with fail
      go_ret
      exact ⟨ret_int (by rw [List.take_length, Hd.out]), hE0.trans (hE1.trans hE)⟩

end Go.Zz
