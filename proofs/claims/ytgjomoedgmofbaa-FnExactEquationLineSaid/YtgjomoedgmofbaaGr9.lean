/- Kept counts that are made new. -/
import Derived.Test.YtgjomoedgmofbaaGr8
import Derived.Test.YtgjomoedgmofbaaGr7
import Derived.Test.YtgjomoedgmofbaaGr6
import Derived.Deep.RegionHeld3
import Derived.Laws.OwnMore
namespace Go.Zz
open Go.RowKit Go.Proofs
set_option maxHeartbeats 1000000
set_option maxRecDepth 20000

/-- a value of type Kept whose slices are owned, apart from each other -/
def OwnK2 (w0 w : World) (c : Value) (l : List Int) (n : Int) (m : List Int) : Prop :=
  ∃ v u, c = .agg #[v, .int .i64 n, u] ∧ Own 3 w0 w v l ∧ Own 3 w0 w u m ∧ (v.ownBlock = none ∨ v.ownBlock ≠ u.ownBlock)
theorem OwnK2.isK {w0 w : World} {c : Value} {l m : List Int} {n : Int} (h : OwnK2 w0 w c l n m) : IsK w c l n m := by
  obtain ⟨v, u, rfl, h1, h2, _⟩ := h; exact ⟨v, u, rfl, h1.ints, h2.ints⟩
theorem OwnK2.none (w0 w : World) : OwnK2 w0 w (.agg #[.slice none 0 0, .int .i64 0, .slice none 0 0]) [] 0 [] :=
  ⟨_, _, rfl, Own.nil _ _ _, Own.nil _ _ _, Or.inl rfl⟩
theorem OwnK2.mono {w0 w1 w : World} {c : Value} {l m : List Int} {n : Int} (h : OwnK2 w1 w c l n m) (hE : Ext w0 w1) : OwnK2 w0 w c l n m := by
  obtain ⟨v, u, rfl, h1, h2, h3⟩ := h; exact ⟨v, u, rfl, h1.mono hE, h2.mono hE, h3⟩
theorem OwnK2.ext {w0 w w' : World} {c : Value} {l m : List Int} {n : Int} (h : OwnK2 w0 w c l n m) (hE : Ext w w') : OwnK2 w0 w' c l n m := by
  obtain ⟨v, u, rfl, h1, h2, h3⟩ := h; exact ⟨v, u, rfl, h1.ext hE, h2.ext hE, h3⟩
def nkL (l : List Int) (a : Int) : List Int := if isSetB l a then l else []
def nkN (l : List Int) (a : Int) : Int := if isSetB l a then a else 0
theorem nk_no {l : List Int} {a : Int} (h : isSetB l a = false) : nkL l a = [] ∧ nkN l a = 0 ∧ tabF l a a = [] := by unfold nkL nkN; rw [h]; exact ⟨rfl, rfl, tabF_no (by rw [h]; rfl)⟩
theorem nk_yes {l : List Int} {a : Int} (h : isSetB l a = true) : nkL l a = l ∧ nkN l a = a := by unfold nkL nkN; rw [h]; exact ⟨rfl, rfl⟩

theorem copyInts_any (v : Value) (l : List Int) (w : World) (h : Ints w v l) :
    Calls Try.prog 145 #[v] w fun e w' => ∃ v', e = .returned v' ∧ Own 3 w w' v' l ∧ Ext w w' := by
  have hO := own_made (TI := 3) (n := 0) (by omega) (Ext.refl w) [] rfl
  have hE := (Ext.refl w).alloc (.cells #[] 3)
  have hI := h.ext hE
  obtain ⟨ao, c, rfl, hc, hlen, -⟩ := h
  go_enter Try.func145, Try.ntmps145
  go_wp2_with (at_builtin; refine wp_appends slI rfl _ _ rfl w _ _ _ _ _ hO hI hE (by simpa using hlen) rfl rfl ?_; intro v1 w1 hO1 hE1)
  go_ret
  exact ⟨_, rfl, by simpa using hO1, hE1⟩

theorem NewKept_any (v : Value) (l : List Int) (a : Int) (w : World) (h : Ints w v l) :
    Calls Try.prog 39 #[.agg #[v], .int .i64 a] w fun e w' => ∃ c, e = .returned (.tuple #[c, .bool (isSetB l a)]) ∧ OwnK2 w w' c (nkL l a) (nkN l a) (tabF l a a) ∧ Ext w w' := by
  obtain ⟨wb, hwb⟩ : ∃ wb, wb = w.alloc (.cells #[v] 26) := ⟨_, rfl⟩
  have hE0 := (Ext.refl w).alloc (.cells #[v] 26)
  have hb := box_cell w v 26
  rw [← hwb] at hE0 hb
  have hg : ∀ W, Ext wb W → Ints W v l := fun W hW => h.ext (hE0.trans hW)
  have hE := Ext.refl wb
  have Hsz : Hid (w.heap.size + 1 = wb.heap.size) := Lib.hid (by rw [hwb]; simp [go_sem])
  have Hwb := Lib.hid hwb
  clear hwb h
  obtain ⟨wc, hwc⟩ : ∃ wc, wc = wb.alloc (.cells #[.slice none 0 0, .int .i64 0, .slice none 0 0] 48) := ⟨_, rfl⟩
  have hBc : Blk wc wb.heap.size 48 #[.slice none 0 0, .int .i64 0, .slice none 0 0] := by rw [hwc]; exact Blk.new _ _ _
  have hRc : Res wc wb.heap.size 3 := hBc.res (by simp)
  have hAc : Ext wb wc := by rw [hwc]; exact hE.alloc _
  replace hE := Ext.refl wc
  have Hsz2 : Hid (wb.heap.size + 1 = wc.heap.size) := Lib.hid (by rw [hwc]; simp [go_sem])
  have Hwc := Lib.hid hwc
  clear hwc hBc
  have hbc : ∀ W, Ext wc W → W.cell? ⟨w.heap.size, 0, none⟩ = some v := fun W hW => hb W (hAc.trans hW)
  have hgc : ∀ W, Ext wc W → Ints W v l := fun W hW => hg W (hAc.trans hW)
  cases hs : isSetB l a
  · have Hs := Lib.hid (nk_no hs)
    go_enter Try.func39, Try.ntmps39
    go_wp2_with fail
    rw [← Hwb.out, ← Hwc.out]; rw [Hsz.out]
    refine (IsSet_val _ _ _ _ (hgc _ hE) hs).mono ?_
    rintro e w1 ⟨rfl, hE1⟩
    have hr := hRc.ext hE1
    unfold Res at hr
    go_wp2_with fail
    exact bodyPost_ret (v := .tuple #[.agg #[.slice none 0 0, .int .i64 0, .slice none 0 0], .bool false]) (by simp [results, Try.results39, go_sem, hr]) rfl ⟨_, rfl, by rw [Hs.out.1, Hs.out.2.1, Hs.out.2.2]; exact OwnK2.none _ _, hE0.trans (Ext.setCell (Ext.setCell (Ext.setCell (hAc.trans hE1) (Nat.le_refl _) _) (Nat.le_refl _) _) (Nat.le_refl _) _)⟩
  · have Hs := Lib.hid (nk_yes hs)
    go_enter Try.func39, Try.ntmps39
    go_wp2_with fail
    rw [← Hwb.out, ← Hwc.out]; rw [Hsz.out]
    refine (IsSet_val _ _ _ _ (hgc _ hE) hs).mono ?_
    rintro e w1 ⟨rfl, hE1⟩
    replace hE := hE1
    have hlt : wb.heap.size < w1.heap.size := by have := Hsz2.out; have := hE1.size; omega
    clear hs hE1
    go_wp2_with fail
    have hD := hE.drew
    first | (go_region_held3 (fun W => Ext (wb) W ∧ W.cell? ⟨w.heap.size, 0, none⟩ = some v ∧ (∀ i, i < 3 → W.cell? ⟨(wb).heap.size, i, none⟩ = some (At W ⟨(wb).heap.size, i, none⟩) ∧ W.frozen? ⟨(wb).heap.size, i, none⟩ = false)) (exact ⟨(by (repeat (refine Ext.setCell ?_ (Nat.le_refl _) _)); exact Ext.trans hAc (by repeat (first | assumption | exact Ext.refl _ | (apply And.left; assumption) | apply Ext.drew | apply Ext.alloc))), hb _ (by (repeat (refine Ext.setCell ?_ (Nat.le_refl _) _)); exact Ext.trans hAc (by repeat (first | assumption | exact Ext.refl _ | (apply And.left; assumption) | apply Ext.drew | apply Ext.alloc))), (by (repeat (refine Res.setCell ?_ _ _)); exact Res.ext hRc (by repeat (first | assumption | exact Ext.refl _ | (apply And.left; assumption) | apply Ext.drew | apply Ext.alloc)))⟩) (first | (go_at_call 145; ((with_reducible refine Calls.mono (Calls.sh (copyInts_any _ _ _ (hgc _ (by repeat (first | assumption | exact Ext.refl _ | (apply And.left; assumption) | apply Ext.drew | apply Ext.alloc))))) ?_); rintro e wH0 ⟨aoC, coC, rfl, hOC, hX0⟩; have hH0 := Ext.trans (a := wc) (by repeat (first | assumption | exact Ext.refl _ | (apply And.left; assumption) | apply Ext.drew | apply Ext.alloc)) hX0)) | (go_at_call 146; ((with_reducible refine Calls.mono (Calls.sh (SumTable_any _ _ _ _ _ (hgc _ (by repeat (first | assumption | exact Ext.refl _ | (apply And.left; assumption) | apply Ext.drew | apply Ext.alloc))))) ?_); rintro e wH1 ⟨aoS, coS, rfl, hOS, hX1⟩; have hH1 := Ext.trans (a := wc) (by repeat (first | assumption | exact Ext.refl _ | (apply And.left; assumption) | apply Ext.drew | apply Ext.alloc)) hX1)))) | (fail "the region with a result")
    all_goals go_wp2_with fail
    have hr := hRc.ext hH1
    unfold Res at hr
    have hwc : wb.heap.size < wc.heap.size := by have := Hsz2.out; omega
    have hv := (hOC.ext hX1).mono (show Ext wc _ by repeat (first | assumption | exact Ext.refl _ | (apply And.left; assumption) | apply Ext.drew | apply Ext.alloc))
    have hu := hOS.mono (show Ext wc _ by repeat (first | assumption | exact Ext.refl _ | (apply And.left; assumption) | apply Ext.drew | apply Ext.alloc))
    exact bodyPost_ret (v := .tuple #[.agg #[.slice aoC l.length coC, .int .i64 a, .slice aoS (tabF l a a).length coS], .bool true]) (by simp [results, Try.results39, go_sem, hr]) rfl ⟨_, rfl, by
      rw [Hs.out.1, Hs.out.2]
      exact ⟨_, _, rfl, (((hv.setCell_below hwc _).setCell_below hwc _).setCell_below hwc _).mono (hE0.trans hAc), (((hu.setCell_below hwc _).setCell_below hwc _).setCell_below hwc _).mono (hE0.trans hAc), blk_ne hOC hOS (Nat.le_refl _)⟩,
      hE0.trans (Ext.setCell (Ext.setCell (Ext.setCell (hAc.trans hH1) (Nat.le_refl _) _) (Nat.le_refl _) _) (Nat.le_refl _) _)⟩
theorem sNewKept_any (v : Value) (l : List Int) (a : Int) (w : World) (h : Ints w v l) :
    Calls Try.prog 49 #[.agg #[v], .int .i64 a] w fun e w' => ∃ c, e = .returned (.tuple #[c, .bool (isSetB l a)]) ∧ OwnK2 w w' c (nkL l a) (nkN l a) (tabF l a a) ∧ Ext w w' := by
  obtain ⟨wb, hwb⟩ : ∃ wb, wb = w.alloc (.cells #[v] 26) := ⟨_, rfl⟩
  have hE0 := (Ext.refl w).alloc (.cells #[v] 26)
  have hb := box_cell w v 26
  rw [← hwb] at hE0 hb
  have hg : ∀ W, Ext wb W → Ints W v l := fun W hW => h.ext (hE0.trans hW)
  have hE := Ext.refl wb
  have Hsz : Hid (w.heap.size + 1 = wb.heap.size) := Lib.hid (by rw [hwb]; simp [go_sem])
  have Hwb := Lib.hid hwb
  clear hwb h
  obtain ⟨wc, hwc⟩ : ∃ wc, wc = wb.alloc (.cells #[.slice none 0 0, .int .i64 0, .slice none 0 0] 48) := ⟨_, rfl⟩
  have hBc : Blk wc wb.heap.size 48 #[.slice none 0 0, .int .i64 0, .slice none 0 0] := by rw [hwc]; exact Blk.new _ _ _
  have hRc : Res wc wb.heap.size 3 := hBc.res (by simp)
  have hAc : Ext wb wc := by rw [hwc]; exact hE.alloc _
  replace hE := Ext.refl wc
  have Hsz2 : Hid (wb.heap.size + 1 = wc.heap.size) := Lib.hid (by rw [hwc]; simp [go_sem])
  have Hwc := Lib.hid hwc
  clear hwc hBc
  have hbc : ∀ W, Ext wc W → W.cell? ⟨w.heap.size, 0, none⟩ = some v := fun W hW => hb W (hAc.trans hW)
  have hgc : ∀ W, Ext wc W → Ints W v l := fun W hW => hg W (hAc.trans hW)
  cases hs : isSetB l a
  · have Hs := Lib.hid (nk_no hs)
    go_enter Try.func49, Try.ntmps49
    go_wp2_with fail
    rw [← Hwb.out, ← Hwc.out]; rw [Hsz.out]
    refine (sIsSet_val _ _ _ _ (hgc _ hE) hs).mono ?_
    rintro e w1 ⟨rfl, hE1⟩
    have hr := hRc.ext hE1
    unfold Res at hr
    go_wp2_with fail
    exact bodyPost_ret (v := .tuple #[.agg #[.slice none 0 0, .int .i64 0, .slice none 0 0], .bool false]) (by simp [results, Try.results49, go_sem, hr]) rfl ⟨_, rfl, by rw [Hs.out.1, Hs.out.2.1, Hs.out.2.2]; exact OwnK2.none _ _, hE0.trans (Ext.setCell (Ext.setCell (Ext.setCell (hAc.trans hE1) (Nat.le_refl _) _) (Nat.le_refl _) _) (Nat.le_refl _) _)⟩
  · have Hs := Lib.hid (nk_yes hs)
    go_enter Try.func49, Try.ntmps49
    go_wp2_with fail
    rw [← Hwb.out, ← Hwc.out]; rw [Hsz.out]
    refine (sIsSet_val _ _ _ _ (hgc _ hE) hs).mono ?_
    rintro e w1 ⟨rfl, hE1⟩
    replace hE := hE1
    have hlt : wb.heap.size < w1.heap.size := by have := Hsz2.out; have := hE1.size; omega
    clear hs hE1
    go_wp2_with fail
    have hD := hE.drew
    first | (go_region_held3 (fun W => Ext (wb) W ∧ W.cell? ⟨w.heap.size, 0, none⟩ = some v ∧ (∀ i, i < 3 → W.cell? ⟨(wb).heap.size, i, none⟩ = some (At W ⟨(wb).heap.size, i, none⟩) ∧ W.frozen? ⟨(wb).heap.size, i, none⟩ = false)) (exact ⟨(by (repeat (refine Ext.setCell ?_ (Nat.le_refl _) _)); exact Ext.trans hAc (by repeat (first | assumption | exact Ext.refl _ | (apply And.left; assumption) | apply Ext.drew | apply Ext.alloc))), hb _ (by (repeat (refine Ext.setCell ?_ (Nat.le_refl _) _)); exact Ext.trans hAc (by repeat (first | assumption | exact Ext.refl _ | (apply And.left; assumption) | apply Ext.drew | apply Ext.alloc))), (by (repeat (refine Res.setCell ?_ _ _)); exact Res.ext hRc (by repeat (first | assumption | exact Ext.refl _ | (apply And.left; assumption) | apply Ext.drew | apply Ext.alloc)))⟩) (first | (refine step_copy slI rfl _ _ rfl _ _ _ rfl rfl (by first | exact Blk.new _ _ _ | exact (Blk.new _ _ _).ext (by repeat (first | assumption | exact Ext.refl _ | (apply And.left; assumption) | apply Ext.drew | apply Ext.alloc))) (hgc _ (by repeat (first | assumption | exact Ext.refl _ | (apply And.left; assumption) | apply Ext.drew | apply Ext.alloc))) (wc) (by first | exact Nat.le_refl _ | (apply Ext.size; repeat (first | assumption | exact Ext.refl _ | (apply And.left; assumption) | apply Ext.drew | apply Ext.alloc); done) | (simp; omega)) (by repeat (first | assumption | exact Ext.refl _ | (apply And.left; assumption) | apply Ext.drew | apply Ext.alloc)) ?_; intro aoC coC wC hOC hX0; have hH0 := Ext.trans (a := wc) (by repeat (first | assumption | exact Ext.refl _ | (apply And.left; assumption) | apply Ext.drew | apply Ext.alloc)) hX0) | (go_at_call 149; ((with_reducible refine Calls.mono (Calls.sh (sSumTable_any _ _ _ _ _ (hgc _ (by repeat (first | assumption | exact Ext.refl _ | (apply And.left; assumption) | apply Ext.drew | apply Ext.alloc))))) ?_); rintro e wH1 ⟨aoS, coS, rfl, hOS, hX1⟩; have hH1 := Ext.trans (a := wc) (by repeat (first | assumption | exact Ext.refl _ | (apply And.left; assumption) | apply Ext.drew | apply Ext.alloc)) hX1)))) | (fail "the region with a result")
    all_goals go_wp2_with fail
    have hr := hRc.ext hH1
    unfold Res at hr
    have hwc : wb.heap.size < wc.heap.size := by have := Hsz2.out; omega
    have hv := (hOC.ext hX1).mono (show Ext wc _ by repeat (first | assumption | exact Ext.refl _ | (apply And.left; assumption) | apply Ext.drew | apply Ext.alloc))
    have hu := hOS.mono (show Ext wc _ by repeat (first | assumption | exact Ext.refl _ | (apply And.left; assumption) | apply Ext.drew | apply Ext.alloc))
    exact bodyPost_ret (v := .tuple #[.agg #[.slice aoC l.length coC, .int .i64 a, .slice aoS (tabF l a a).length coS], .bool true]) (by simp [results, Try.results49, go_sem, hr]) rfl ⟨_, rfl, by
      rw [Hs.out.1, Hs.out.2]
      exact ⟨_, _, rfl, (((hv.setCell_below hwc _).setCell_below hwc _).setCell_below hwc _).mono (hE0.trans hAc), (((hu.setCell_below hwc _).setCell_below hwc _).setCell_below hwc _).mono (hE0.trans hAc), blk_ne hOC hOS (Nat.le_refl _)⟩,
      hE0.trans (Ext.setCell (Ext.setCell (Ext.setCell (hAc.trans hH1) (Nat.le_refl _) _) (Nat.le_refl _) _) (Nat.le_refl _) _)⟩
end Go.Zz

/- Parts of sequences and their totals, the first part of a length, the shortest part, with the sum 0. -/
namespace Go.Zz
open Go.RowKit Go.Proofs
set_option maxHeartbeats 1000000
set_option maxRecDepth 20000

theorem part_int (u : Value) (xs : List Int) (m : Nat) (w : World) (hu : Ints w u xs) (hm : m < 2 ^ 24) (hl : xs.length ≤ 24) :
    Calls Try.prog 221 #[u, .int .i64 m] w fun e w' => ∃ p, e = .returned p ∧ Own 3 w w' p (partI xs m) ∧ Ext w w' := by
  have hO := own_made (TI := 3) (n := 0) (by omega) (Ext.refl w) [] rfl
  have hE := (Ext.refl w).alloc (.cells #[] 3)
  obtain ⟨ao, c, adr, rfl, hlen, hadr, hcell⟩ := hu.op
  have hix := ints_index (c := c) elI szI hadr
  clear hadr hu
  go_enter Try.func221, Try.ntmps221
  go_wp2_with fail
  go_loopw [5, 11] (fun p i wr => ∃ k : Nat, k ≤ xs.length ∧ i = .int .i64 k ∧ Own 3 w wr p (partTo xs m k) ∧ Ext w wr) (fun _ i _ => xs.length - (intOf i).toNat)
  case atStart => exact ⟨0, by omega, rfl, by have e : partTo xs m 0 = [] := rfl; rw [e]; exact hO, hE⟩
  case round =>
    clear hE hO
    obtain ⟨k, hk, rfl, hO, hE⟩ := hrel
    by_cases hlt : k < xs.length
    · have hck := hcell k _ hlt hE
      have hpl := partTo_len xs m k
      have hsh := ishr_nat (a := m) (n := k) (by omega)
      have hbt := bit_test' (a := m) (n := k) (by omega) (by omega)
      cases hb : m.testBit k
      · rw [hb] at hbt
        have Hn := Lib.hid (partTo_no (xs := xs) hb)
        go_wp2_with (first | (go_at_call 139; refine (in_val m k hm (by omega) _ hb).mono ?_; rintro e w' ⟨rfl, rfl⟩))
        go_roundw
        case rel => exact ⟨k + 1, by omega, by go_num, by rw [Hn.out]; exact hO, hE⟩
        case measure => (simp [intOf]; omega)
      · rw [hb] at hbt
        have Hn := Lib.hid (partTo_yes (xs := xs) hb)
        go_wp2_with (first | (go_at_call 139; refine (in_val m k hm (by omega) _ hb).mono ?_; rintro e w' ⟨rfl, rfl⟩) | (at_builtin; refine wp_append1 slI rfl _ _ rfl w _ _ _ _ hO hE (by omega) rfl rfl ?_; intro v1 w1 hO1 hE1))
        go_roundw
        case rel => exact ⟨k + 1, by omega, by go_num, by rw [Hn.out]; exact hO1, hE1⟩
        case measure => (simp [intOf]; omega)
    · have hkl : k = xs.length := by omega
      subst hkl
      go_wp2_with fail
      go_ret
      exact ⟨_, rfl, hO, hE⟩
theorem part_any (u : Value) (X : List Nat) (m : Nat) (w : World) (hu : Ints w u (castL X)) (hm : m < 2 ^ 24) (hl : X.length ≤ 24) :
    Calls Try.prog 221 #[u, .int .i64 m] w fun e w' => ∃ p, e = .returned p ∧ Own 3 w w' p (castL (partL X m)) ∧ Ext w w' := by
  have := part_int u _ m w hu hm (by rw [castL_len]; exact hl)
  rwa [partI_cast] at this
theorem pw_len {n : Nat} (h : n ≤ 12) : pw n ≤ 4096 := Nat.pow_le_pow_right (n := 2) (by omega) h
end Go.Zz

/- Coefficients of equations and columns with the sum 0, of both. -/
namespace Go.Zz
open Go.RowKit Go.Proofs
set_option maxHeartbeats 1000000
set_option maxRecDepth 8000

theorem cof_zero : cofB 0 = false := by decide
theorem cof_out {x : Int} (h : inB x (-9) 9 = false) : cofB x = false := by unfold cofB; rw [h]; rfl
theorem cof_in {x : Int} (h : inB x (-9) 9 = true) (h0 : ¬ x = 0) : cofB x = true := by unfold cofB; rw [h]; simp [h0]
theorem isEquation_any (u : Value) (c : List Int) (w : World) (hu : Ints w u c) :
    Calls Try.prog 129 #[u] w fun e w' => e = .returned (.bool (eqB c)) ∧ Ext w w' := by
  obtain ⟨ao, cc, adr, rfl, hlen, hadr, hcell⟩ := hu.op
  have hix := ints_index (c := cc) elI szI hadr
  have Hcell := Lib.hid hcell
  have hE := Ext.refl w
  clear hadr hu hcell
  go_enter Try.func129, Try.ntmps129
  go_wp2_with fail
  go_loopw [7] (fun si wr => ∃ k : Nat, k ≤ c.length ∧ si = .int .i64 k ∧ Hid (∀ j, j < k → cofB (nth c j) = true) ∧ Ext w wr) (fun si _ => c.length - (intOf si).toNat)
  case atStart => exact ⟨0, by omega, rfl, Lib.hid (by omega), hE⟩
  case round =>
    clear hE
    rename World => wr
    obtain ⟨k, hk, rfl, H, hE⟩ := hrel
    by_cases hlt : k < c.length
    · have hck := Hcell.out k wr hlt hE
      obtain ⟨Y, hY⟩ : ∃ Y, Y = nth c k := ⟨_, rfl⟩
      rw [← hY] at hck
      have cW := fun W => within_any Y (-9) 9 W
      by_cases h0 : Y = 0
      · have Hs : Hid (eqB c = false) := Lib.hid (eqB_bad hlt (by rw [← hY, h0]; exact cof_zero))
        rw [h0] at hck cW
        clear hY h0
        have cW0 : ∀ W, Calls Try.prog 110 #[.int .i64 0, .int .i64 (-9), .int .i64 9] W fun e w' => e = .returned (.bool true) ∧ W = w' := cW
        clear cW
        go_wp2_with (go_at_call 110; refine (cW0 _).mono ?_; rintro e' w' ⟨rfl, rfl⟩)
        go_ret
        exact ⟨ret_bool Hs.out.symm, hE⟩
      · have hq : (Y == 0) = false := by rw [beq_eq_false_iff_ne]; exact h0
        cases hi : inB Y (-9) 9
        · have Hs : Hid (eqB c = false) := Lib.hid (eqB_bad hlt (by rw [← hY]; exact cof_out hi))
          rw [hi] at cW
          clear hY h0 hi
          go_wp2_with (go_at_call 110; refine (cW _).mono ?_; rintro e' w' ⟨rfl, rfl⟩)
          go_ret
          exact ⟨ret_bool Hs.out.symm, hE⟩
        · have Hn : Hid (cofB (nth c k) = true) := Lib.hid (by rw [← hY]; exact cof_in hi h0)
          rw [hi] at cW
          clear hY h0 hi
          go_wp2_with (go_at_call 110; refine (cW _).mono ?_; rintro e' w' ⟨rfl, rfl⟩)
          go_roundw
          case rel => exact ⟨k + 1, by omega, by go_num, Lib.hid fun j hj => by by_cases e : j = k; (subst e; exact Hn.out); exact H.out j (by omega), hE⟩
          case measure => (simp [intOf]; omega)
    · have hkl : k = c.length := by omega
      have Hs : Hid (eqB c = inB c.length 2 4) := Lib.hid (eqB_end fun j hj => H.out j (by omega))
      have cW := fun W => within_any (c.length : Nat) 2 4 W
      clear hkl
      go_wp2_with (go_at_call 110; refine (cW _).mono ?_; rintro e' w' ⟨rfl, rfl⟩)
      go_ret
      exact ⟨ret_bool Hs.out.symm, hE⟩
theorem l25Fine_any (u : Value) (c : List Int) (w : World) (hu : Ints w u c) :
    Calls Try.prog 123 #[u] w fun e w' => e = .returned (.bool (eqB c)) ∧ Ext w w' := by
  obtain ⟨ao, cc, adr, rfl, hlen, hadr, hcell⟩ := hu.op
  have hix := ints_index (c := cc) elI szI hadr
  have Hcell := Lib.hid hcell
  have hE := Ext.refl w
  clear hadr hu hcell
  go_enter Try.func123, Try.ntmps123
  go_wp2_with fail
  go_loopw [3] (fun si wr => ∃ k : Nat, k ≤ c.length ∧ si = .int .i64 k ∧ Hid (∀ j, j < k → cofB (nth c j) = true) ∧ Ext w wr) (fun si _ => c.length - (intOf si).toNat)
  case atStart => exact ⟨0, by omega, rfl, Lib.hid (by omega), hE⟩
  case round =>
    clear hE
    rename World => wr
    obtain ⟨k, hk, rfl, H, hE⟩ := hrel
    by_cases hlt : k < c.length
    · have hck := Hcell.out k wr hlt hE
      obtain ⟨Y, hY⟩ : ∃ Y, Y = nth c k := ⟨_, rfl⟩
      rw [← hY] at hck
      have cW := fun W => l1In_any Y (-9) 9 W
      by_cases h0 : Y = 0
      · have Hs : Hid (eqB c = false) := Lib.hid (eqB_bad hlt (by rw [← hY, h0]; exact cof_zero))
        rw [h0] at hck cW
        clear hY h0
        have cW0 : ∀ W, Calls Try.prog 116 #[.int .i64 0, .int .i64 (-9), .int .i64 9] W fun e w' => e = .returned (.bool true) ∧ W = w' := cW
        clear cW
        go_wp2_with (go_at_call 116; refine (cW0 _).mono ?_; rintro e' w' ⟨rfl, rfl⟩)
        go_ret
        exact ⟨ret_bool Hs.out.symm, hE⟩
      · have hq : (Y == 0) = false := by rw [beq_eq_false_iff_ne]; exact h0
        cases hi : inB Y (-9) 9
        · have Hs : Hid (eqB c = false) := Lib.hid (eqB_bad hlt (by rw [← hY]; exact cof_out hi))
          rw [hi] at cW
          clear hY h0 hi
          go_wp2_with (go_at_call 116; refine (cW _).mono ?_; rintro e' w' ⟨rfl, rfl⟩)
          go_ret
          exact ⟨ret_bool Hs.out.symm, hE⟩
        · have Hn : Hid (cofB (nth c k) = true) := Lib.hid (by rw [← hY]; exact cof_in hi h0)
          rw [hi] at cW
          clear hY h0 hi
          go_wp2_with (go_at_call 116; refine (cW _).mono ?_; rintro e' w' ⟨rfl, rfl⟩)
          go_roundw
          case rel => exact ⟨k + 1, by omega, by go_num, Lib.hid fun j hj => by by_cases e : j = k; (subst e; exact Hn.out); exact H.out j (by omega), hE⟩
          case measure => (simp [intOf]; omega)
    · have hkl : k = c.length := by omega
      have Hs : Hid (eqB c = inB c.length 2 4) := Lib.hid (eqB_end fun j hj => H.out j (by omega))
      have cW := fun W => l1In_any (c.length : Nat) 2 4 W
      clear hkl
      go_wp2_with (go_at_call 116; refine (cW _).mono ?_; rintro e' w' ⟨rfl, rfl⟩)
      go_ret
      exact ⟨ret_bool Hs.out.symm, hE⟩
theorem ZeroColumns_any (u : Value) (c : List Int) (w : World) (hu : Ints w u c) :
    Calls Try.prog 134 #[u] w fun e w' => ∃ v', e = .returned (.tuple #[v', .bool (zcB c)]) ∧ Own 3 w w' v' (castL (zcL c)) ∧ Ext w w' := by
  have cE := isEquation_any u c w hu
  have HU := Lib.hid (fun W (hW : Ext w W) => hu.ext hW)
  obtain ⟨ao, cc, rfl, -⟩ := hu
  cases he : eqB c
  · have Hz := Lib.hid (zc_no he)
    rw [he] at cE
    go_enter Try.func134, Try.ntmps134
    go_wp2_with fail
    refine cE.mono ?_
    rintro e w1 ⟨rfl, hE1⟩
    go_wp2_with fail
    rw [Hz.out.1, Hz.out.2]
    exact bodyPost_ret (v := .tuple #[.slice (some ⟨w1.heap.size, 0, none⟩) 0 0, .bool false]) (by simp [results, Try.results134, go_sem]) rfl ⟨_, rfl, own_made (TI := 3) (n := 0) (by omega) hE1 [] rfl, Ext.alloc hE1 _⟩
  have hcl := eqB_yes he
  have h4 : c.length ≤ 4 := hcl.2.1
  have hpw := pw_le (n := c.length) (by omega)
  have hpw4 : pw c.length ≤ 16 := Nat.pow_le_pow_right (n := 2) (by omega) h4
  have hpw1 := pw_pos c.length
  have hs1 := ishl_one (n := c.length) (by omega)
  have He := Lib.hid he
  rw [he] at cE
  clear he hcl
  go_enter Try.func134, Try.ntmps134
  go_wp2_with fail
  refine cE.mono ?_
  rintro e w1 ⟨rfl, hE1⟩
  go_wp2_with fail
  go_loopw [4] (fun sm wr => ∃ m : Nat, 1 ≤ m ∧ m ≤ pw c.length ∧ sm = .int .i64 m ∧ Hid (∀ j, 1 ≤ j → j < m → ¬ sumI (partI c j) = 0) ∧ Ext w wr) (fun sm _ => pw c.length - (intOf sm).toNat)
  case atStart => exact ⟨1, by omega, by omega, rfl, Lib.hid (by omega), hE1⟩
  case round =>
    clear hE1
    rename World => wr
    obtain ⟨m, hm1, hm2, rfl, H, hE⟩ := hrel
    by_cases hlt : m < pw c.length
    · have hcP := part_int _ c m wr (HU.out wr hE) (by omega) (by omega)
      go_wp2_with (go_at_call 221; refine hcP.mono ?_; rintro e w2 ⟨vP, rfl, hO, hE2⟩; obtain ⟨aP, cP, adP, rfl, hlP, hadP, hcP2⟩ := hO.ints.op)
      have hixP := ints_index (c := cP) elI szI hadP
      have HcP := Lib.hid hcP2
      have hE02 := hE.trans hE2
      have hP4 := partTo_len c m c.length
      have hPb : ∀ k, k ≤ (partI c m).length → -36 ≤ sumI ((partI c m).take k) ∧ sumI ((partI c m).take k) ≤ 36 := fun k hk => by
        have h6 := sumI_bd (partI c m) (partTo_bd He.out m c.length) k hk
        have h5 : (partI c m).length ≤ c.length := hP4
        omega
      have hPe : ∀ k, -9 ≤ nth (partI c m) k ∧ nth (partI c m) k ≤ 9 := fun k => by
        by_cases hk : k < (partI c m).length
        · exact partTo_bd He.out m c.length _ (nth_mem hk)
        · have : nth (partI c m) k = 0 := by simp [nth, List.getD, List.getElem?_eq_none (Nat.le_of_not_lt hk)]
          omega
      obtain ⟨P, hP⟩ : ∃ P, P = partI c m := ⟨_, rfl⟩
      have HP := Lib.hid hP
      rw [← hP] at hlP hadP HcP hixP hPb hPe
      have hp4 : P.length ≤ 4 := by rw [hP]; exact Nat.le_trans hP4 h4
      have HPb := Lib.hid hPb
      have HPe := Lib.hid hPe
      rw [← hP]
      clear hcP hcP2 hadP hO hP hPb hPe hP4
      go_loopw [5, 23] (fun ss sk wq => ∃ k : Nat, k ≤ P.length ∧ sk = .int .i64 k ∧ ss = .int .i64 (sumI (P.take k)) ∧ Ext w2 wq) (fun _ sk _ => P.length - (intOf sk).toNat)
      case atStart => exact ⟨0, by omega, rfl, rfl, Ext.refl _⟩
      case round =>
        rename World => wq
        obtain ⟨k, hk, rfl, rfl, hEq⟩ := hrel
        have hb := HPb.out k hk
        by_cases hkl : k < P.length
        · have hck := HcP.out k wq hkl hEq
          have hy := HPe.out k
          have hn : Hid (sumI (P.take (k + 1)) = sumI (P.take k) + nth P k) := Lib.hid (sumI_take P k hkl)
          obtain ⟨Y, hY⟩ : ∃ Y, Y = nth P k := ⟨_, rfl⟩
          obtain ⟨S, hS⟩ : ∃ S, S = sumI (P.take k) := ⟨_, rfl⟩
          rw [← hY] at hck hy hn
          rw [← hS] at hb hn
          rw [← hS]
          have hw : IntKind.i64.wrap (S + Y) = S + Y := IntWalk.i64_in _ (by omega)
          clear hY hS
          go_wp2_with fail
          go_roundw
          case rel => exact ⟨k + 1, by omega, by go_num, by rw [hn.out], hEq⟩
          case measure => (simp [intOf]; omega)
        · have hkl2 : P.take k = P := List.take_of_length_le (by omega)
          have hbz : ((P.take k).length = (P.take k).length) := rfl
          rw [hkl2] at hb
          rw [hkl2]
          have hEf := hE02.trans hEq
          by_cases hz : sumI P = 0
          · have Hz := Lib.hid (zc_at He.out hlt hm1 H.out (by rw [← HP.out]; exact hz))
            rw [hz]
            clear hz
            go_wp2_with (go_at_call 173; refine (members_any m (by omega) _).mono ?_; rintro e w3 ⟨v3, rfl, hO3, hE3⟩)
            rw [Hz.out.1, Hz.out.2]
            exact bodyPost_ret (v := .tuple #[v3, .bool true]) (by simp [results, Try.results134, go_sem]) rfl ⟨_, rfl, hO3.mono hEf, hEf.trans hE3⟩
          · have hzq : (sumI P == 0) = false := by rw [beq_eq_false_iff_ne]; exact hz
            have Hz : Hid (¬ sumI (partI c m) = 0) := Lib.hid (by rw [← HP.out]; exact hz)
            clear hz
            go_wp2_with fail
            go_roundw
            case rel => exact ⟨m + 1, by omega, by omega, by go_num, Lib.hid fun j h1 h2 => by by_cases e : j = m; (subst e; exact Hz.out); exact H.out j h1 (by omega), hEf⟩
            case measure => (simp [intOf]; omega)
    · have Hz := Lib.hid (zc_none He.out fun j h1 h2 => H.out j h1 (by omega))
      go_wp2_with fail
      rw [Hz.out.1, Hz.out.2]
      exact bodyPost_ret (v := .tuple #[.slice (some ⟨wr.heap.size, 0, none⟩) 0 0, .bool false]) (by simp [results, Try.results134, go_sem]) rfl ⟨_, rfl, own_made (TI := 3) (n := 0) (by omega) hE [] rfl, Ext.alloc hE _⟩
end Go.Zz

/- Marks in kept counts. -/
namespace Go.Zz
open Go.RowKit Go.Proofs
set_option maxHeartbeats 400000

theorem Blk.grown {w w' : World} {b : Nat} {T : TypeId} {cs : Array Value} {row : Option Nat} (h : Blk w b T cs) (hg : w.grownBy w' row) (hne : ∀ k, row = some k → k ≠ b) : Blk w' b T cs := by
  unfold Blk
  rw [hg.block b h.lt (by
    cases row with
    | none => simp
    | some k => simp; exact fun e => hne k rfl (by first | exact e | exact e.symm))]
  exact h
/-- the slices of a value of type Kept lie below a block -/
def Below2 (c : Value) (top : Nat) : Prop := ∀ v n u, c = .agg #[v, n, u] → ∀ k, (v.ownBlock = some k ∨ u.ownBlock = some k) → k < top
theorem OwnK2.below {w0 w : World} {c : Value} {l m : List Int} {n : Int} (h : OwnK2 w0 w c l n m) : Below2 c w.heap.size := by
  obtain ⟨v, u, rfl, hv, hu, -⟩ := h
  intro v' n' u' e k hk
  simp at e
  obtain ⟨rfl, rfl, rfl⟩ := e
  rcases hk with hk | hk
  · exact (hv.blk k hk).2
  · exact (hu.blk k hk).2
theorem OwnK2.kept {w0 w w' : World} {c : Value} {l m : List Int} {n : Int} {row : Option Nat} (h : OwnK2 w0 w c l n m) (hg : w.grownBy w' row) (hr : ∀ k, row = some k → k < w0.heap.size) : OwnK2 w0 w' c l n m := by
  obtain ⟨v, u, rfl, hv, hu, hd⟩ := h
  have key : ∀ {x : Value} {ll : List Int}, Own 3 w0 w x ll → Own 3 w0 w' x ll := fun {x ll} hx => hx.kept hg (by
    cases hq : x.ownBlock with
    | none => exact Or.inl rfl
    | some k => exact Or.inr fun e => by have := hr k e.symm; have := (hx.blk k hq).1; omega)
  exact ⟨v, u, rfl, key hv, key hu, hd⟩
end Go.Zz

/- append(s, xs...) and append(s, y) to a slice that is empty or owned behind a world: as a run, as a step of a region that draws, with what stays. -/
namespace Go.Zz
open Go.RowKit Go.Proofs
set_option maxHeartbeats 1000000

/-- what stays behind an append: blocks of other types -/
def Oth (TI : TypeId) (w w' : World) : Prop := ∀ b T cs, T ≠ TI → Blk w b T cs → Blk w' b T cs
theorem Oth.refl (TI : TypeId) (w : World) : Oth TI w w := fun _ _ _ _ h => h
theorem Oth.trans {TI : TypeId} {a b c : World} (h : Oth TI a b) (k : Oth TI b c) : Oth TI a c := fun b T cs hT hB => k b T cs hT (h b T cs hT hB)
theorem Ext.oth {w w' : World} (h : Ext w w') (TI : TypeId) : Oth TI w w' := fun _ _ _ _ hB => hB.ext h
theorem own_not {TI T : TypeId} {w0 w : World} {v : Value} {l : List Int} (h : Own TI w0 w v l) {g : Nat} {cs : Array Value} (hB : Blk w g T cs) (hT : T ≠ TI) : v.ownBlock ≠ some g := fun e => by
  obtain ⟨h1, h2⟩ := h
  rcases h1.2 with ⟨rfl, _⟩ | ⟨g', cap, cur, rfl, _, hh, _⟩
  · cases e
  · simp [Value.ownBlock] at e
    subst e
    have hB' : w.heap[g']? = some (.cells cs T (0, 0)) := hB
    rw [hB'] at hh
    simp at hh
    exact hT hh.2
theorem oth_grown {TI : TypeId} {w0 w w' : World} {v : Value} {l : List Int} (h : Own TI w0 w v l) (hg : w.grownBy w' v.ownBlock) : Oth TI w w' := fun b T cs hT hB =>
  hB.grown hg fun k hk e => own_not h hB hT (by rw [hk, e])
theorem run_appendsE {P : Program} {T TI : TypeId} (hT : IntSl P T TI) (ty : TypeId) (wb w0 w : World) (v u : Value) (l m : List Int) (hO : OwnE TI wb w0 w v l) (hI : Ints w u m) (hE : Ext w0 w) (hn : l.length + m.length ≤ 17592186044416) :
    ∃ v' w', (Builtin.append_ #[T, T] ty #[v, u]).run P w = .ok v' w' ∧ OwnE TI wb w0 w' v' (l ++ m) ∧ Ext w0 w' ∧ Oth TI w w' := by
  obtain ⟨i, hi, hz, hs1, hby⟩ := hT.info
  obtain ⟨ao, c, rfl, hmc, hml, hc⟩ := hI
  cases ao with
  | none =>
    have hm : m = [] := by
      cases m with
      | nil => rfl
      | cons y m => obtain ⟨_, h, _⟩ := hc 0 (by simp); cases h
    subst hm
    refine ⟨v, w, ?_, by simpa using hO, hE, Oth.refl _ _⟩
    rcases hO with ⟨g, -, rfl, rfl, hB⟩ | hO
    · simp [Builtin.append_, run_underlying hT.und, sizeOf, typeInfo, hi, Builtin.lenOf, Builtin.firstCells, storeCells, Result.andThen]
    · rcases hO.1.2 with ⟨rfl, _⟩ | ⟨g, cap, cur, rfl, _, _, hnc, _⟩
      · simp [Builtin.append_, run_underlying hT.und, sizeOf, typeInfo, hi, Builtin.lenOf, Builtin.firstCells]
      · simp [Builtin.append_, run_underlying hT.und, sizeOf, typeInfo, hi, Builtin.lenOf, Builtin.firstCells, hnc, storeCells, Result.andThen]
  | some ad =>
    have hnews : ∀ j u, (m.map (Value.int .i64))[j]? = some u → w.cell? (ad.add j) = some u := by
      intro j u hu
      have hj : j < m.length := by have := (List.getElem?_eq_some_iff.1 hu).1; simpa using this
      obtain ⟨a', ha', hc'⟩ := hc j hj
      cases ha'
      rw [hc', ← hu, nth_get _ _ hj]; simp [hj]
    rcases hO with ⟨g, h0, rfl, rfl, hB⟩ | hO
    · by_cases hm : m = []
      · subst hm
        have hown : w.ownsRow wb.heap.size TI 1 (.slice (some ⟨g, 0, none⟩) 0 0) 0 [] := by
          have hB' : w.heap[g]? = some (.cells #[] TI (0, 0)) := hB
          exact ⟨by simp, Or.inr ⟨g, 0, #[], rfl, h0, hB', Nat.le_refl _, Nat.zero_le _, by simp, by simp⟩⟩
        refine ⟨_, w, ?_, Or.inl ⟨g, h0, rfl, rfl, hB⟩, hE, Oth.refl _ _⟩
        have hrun := run_append_owned_none (P := P) w wb.heap.size T ty TI i 1 hT.und hi (.slice (some ⟨g, 0, none⟩) 0 0) 0 [] hown
        rw [← hrun]; simp [Builtin.append_, run_underlying hT.und, sizeOf, typeInfo, hi, Builtin.lenOf, Builtin.firstCells, go_sem]
      · have hpos : 0 < m.length := Nat.pos_of_ne_zero (fun e => hm (List.eq_nil_of_length_eq_zero e))
        obtain ⟨v', w', hrun, r1, r2⟩ := run_append_arg_grows (P := P) (w := w) T ty TI i (.int .i64 0) 1 8 hT.und hi hz hs1 hby rfl (by omega) ⟨g, 0, none⟩ 0 0 [] (by simp) (by simp) ad m.length c (m.map (Value.int .i64)) (by simp) hnews (by omega) (by unfold maxLen; omega) (by omega)
        have hO' : Own TI w w' v' m := ⟨by simpa using r1, hml⟩
        have hE2 : Ext w w' := (Ext.refl w).grown r2 (by simp)
        exact ⟨v', w', hrun, Or.inr (by simpa using hO'.mono hE), hE.trans hE2, hE2.oth TI⟩
    · obtain ⟨v', w', hrun, r1, r2, -⟩ := run_append_own (P := P) w w0.heap.size T ty TI i (.int .i64 0) 1 8 hT.und hi hz hs1 hby rfl (by omega) v l.length _ hO.1 ad m.length c (m.map (Value.int .i64)) (by simp) hnews (ints_oneCell _ _) (by unfold maxLen; omega) (by omega) hE.size
      exact ⟨v', w', hrun, Or.inr ⟨by simpa using r1, by simp; omega⟩, hE.grown r2 fun k hk => (hO.blk k hk).1, oth_grown hO r2⟩
/-- as a step of a region that draws its order -/
theorem step_appendsE {P : Program} {ops : Array Oper} {o : Oper} {a : Act} {w : World} {K : Act → World → Prop} {Q : Exit → Act → World → Prop} {E : Prop} {T TI : TypeId} (hT : IntSl P T TI)
    (hg : o.guard = none) (s x : Operand) (hop : o.op = Op.call { callee := Callee.builtin Builtin.append, args := #[s, x], argTypes := #[T, T] })
    (wb w0 : World) (v u : Value) (l m : List Int) (hO : OwnE TI wb w0 w v l) (hI : Ints w u m) (hE : Ext w0 w) (hn : l.length + m.length ≤ 17592186044416) (hs : a.eval s = v) (hx : a.eval x = u)
    (hK : ∀ v' w', OwnE TI wb w0 w' v' (l ++ m) → Ext w0 w' → Oth TI w w' → K (a.put o.dst v') w') :
    if Region.wanted o (yielded ops a.tmps) = true then Oper.wp P o a w K Q else E := by
  have hw : Region.wanted o (yielded ops a.tmps) = true := by simp [Region.wanted, hg]
  rw [if_pos hw]
  obtain ⟨v', w', hrun, h1, h2, h3⟩ := run_appendsE hT o.type wb w0 w v u l m hO hI hE hn
  unfold Oper.wp
  simp [execOp, hop, resolve, invoke, builtin, hs, hx, hrun, Result.andThen]
  exact hK v' w' h1 h2 h3
section
variable {P : Program} {ops : Array Oper} {rest : List Oper} {o : Oper} {a : Act} {Q : Exit → Act → World → Prop} {T TI : TypeId}
theorem wp_appendsE (hT : IntSl P T TI) (hg : o.guard = none) (s x : Operand) (hop : o.op = Op.call { callee := Callee.builtin Builtin.append, args := #[s, x], argTypes := #[T, T] })
    (wb w0 w : World) (v u : Value) (l m : List Int) (hO : OwnE TI wb w0 w v l) (hI : Ints w u m) (hE : Ext w0 w) (hn : l.length + m.length ≤ 17592186044416) (hs : a.eval s = v) (hx : a.eval x = u)
    (hK : ∀ v' w', OwnE TI wb w0 w' v' (l ++ m) → Ext w0 w' → Oth TI w w' → wpList P ops Q rest (a.put o.dst v') w') :
    wpList P ops Q (o :: rest) a w := by
  obtain ⟨v', w', hrun, h1, h2, h3⟩ := run_appendsE hT o.type wb w0 w v u l m hO hI hE hn
  refine wpList_plain hg fun K hK' => ?_
  unfold Oper.wp
  simp [execOp, hop, resolve, invoke, builtin, hs, hx, hrun, Result.andThen]
  exact hK' _ _ (hK v' w' h1 h2 h3)
theorem ints_one (W : World) (y : Int) (TI : TypeId) : Ints (W.alloc (.cells #[.int .i64 y] TI)) (.slice (some ⟨W.heap.size, 0, none⟩) 1 1) [y] := by
  refine ⟨_, 1, rfl, Nat.le_refl _, by simp, fun i hi => ⟨_, rfl, ?_⟩⟩
  match i, hi with
  | 0, _ => simp [go_sem, nth, Addr.add]
/-- append(s, y), with what stays -/
theorem wp_append1K (hT : IntSl P T TI) (hg : o.guard = none) (s x : Operand) (hop : o.op = Op.call { callee := Callee.builtin Builtin.append, args := #[s, x], argTypes := #[T, T] })
    (wb w0 W : World) (v : Value) (l : List Int) (y : Int) (hO : OwnE TI wb w0 W v l) (hE : Ext w0 W) (hn : l.length < 17592186044416) (hs : a.eval s = v) (hx : a.eval x = .slice (some ⟨W.heap.size, 0, none⟩) 1 1)
    (hK : ∀ v' w', OwnE TI wb w0 w' v' (l ++ [y]) → Ext w0 w' → Oth TI W w' → wpList P ops Q rest (a.put o.dst v') w') :
    wpList P ops Q (o :: rest) a (W.alloc (.cells #[.int .i64 y] TI)) :=
  wp_appendsE hT hg s x hop wb w0 _ v _ l [y] (hO.ext ((Ext.refl W).alloc _)) (ints_one W y TI) (hE.alloc _) (by simp; omega) hs hx fun v' w' h1 h2 h3 =>
    hK v' w' h1 h2 ((((Ext.refl W).alloc _).oth TI).trans h3)
end
end Go.Zz

/- What stays where a call writes into one box and grows the slice that lies in it. -/
namespace Go.Zz
open Go.RowKit Go.Proofs
set_option maxHeartbeats 1000000

theorem own_nb {TI : TypeId} {w0 w : World} {v : Value} {l : List Int} {b : Nat} (h : Own TI w0 w v l) (hb : b < w0.heap.size) : v.ownBlock ≠ some b := fun e => by have := (h.blk b e).1; omega
/-- w' is w with new blocks, and writes to block b and to the row o alone -/
structure Fr (b : Nat) (o : Option Nat) (w w' : World) : Prop where
  os : w'.os = w.os
  tape : w'.tape = w.tape
  output : w'.output = w.output
  size : w.heap.size ≤ w'.heap.size
  block : ∀ k, k < w.heap.size → k ≠ b → some k ≠ o → w'.heap[k]? = w.heap[k]?
/-- the row o' is the row o, or newer than w -/
def Nw (o : Option Nat) (w : World) (o' : Option Nat) : Prop := o' = o ∨ ∀ k, o' = some k → w.heap.size ≤ k
theorem Fr.refl (b : Nat) (o : Option Nat) (w : World) : Fr b o w w := ⟨rfl, rfl, rfl, Nat.le_refl _, fun _ _ _ _ => rfl⟩
theorem Nw.refl (o : Option Nat) (w : World) : Nw o w o := Or.inl rfl
theorem Fr.trans {b : Nat} {o o1 : Option Nat} {w w1 w2 : World} (h : Fr b o w w1) (hn : Nw o w o1) (k : Fr b o1 w1 w2) : Fr b o w w2 :=
  ⟨k.os.trans h.os, k.tape.trans h.tape, k.output.trans h.output, Nat.le_trans h.size k.size, fun i hi hb ho => by
    rw [k.block i (Nat.lt_of_lt_of_le hi h.size) hb fun e => ?_, h.block i hi hb ho]
    rcases hn with hn | hn
    · rw [hn] at e; exact ho e
    · have := hn i e.symm; omega⟩
theorem Nw.trans {o o1 o2 : Option Nat} {w w1 : World} (h : Nw o w o1) (hs : w.heap.size ≤ w1.heap.size) (k : Nw o1 w1 o2) : Nw o w o2 := by
  rcases k with k | k
  · rw [k]; exact h
  · exact Or.inr fun i hi => Nat.le_trans hs (k i hi)
theorem Ext.fr {w w' : World} (h : Ext w w') (b : Nat) (o : Option Nat) : Fr b o w w' := ⟨h.os, h.tape, h.output, h.size, fun k hk _ _ => h.block k hk⟩
theorem fr_grown {b : Nat} {o : Option Nat} {w w' : World} (h : w.grownBy w' o) : Fr b o w w' := ⟨h.os, h.tape, h.output, h.size, fun k hk _ ho => h.block k hk ho⟩
theorem fr_set (b : Nat) (o : Option Nat) (w : World) (i : Nat) (v : Value) : Fr b o w (w.setCell ⟨b, i, none⟩ v) :=
  ⟨rfl, rfl, rfl, by simp, fun k _ hb _ => Below.heap_setCell _ _ _ _ (fun e => hb e)⟩
theorem Fr.ext {b : Nat} {o : Option Nat} {w0 w w' : World} (h : Fr b o w w') (hE : Ext w0 w) (hb : w0.heap.size ≤ b) (ho : ∀ k, o = some k → w0.heap.size ≤ k) : Ext w0 w' := by
  have hs := hE.size
  refine ⟨h.os.trans hE.os, h.tape.trans hE.tape, h.output.trans hE.output, Nat.le_trans hs h.size, fun k hk => ?_⟩
  rw [h.block k (Nat.lt_of_lt_of_le hk hs) (by omega) fun e => by have := ho k e.symm; omega]
  exact hE.block k hk
theorem Fr.blk {b : Nat} {o : Option Nat} {w w' : World} (h : Fr b o w w') {c : Nat} {T : TypeId} {cs : Array Value} (hB : Blk w c T cs) (hc : c ≠ b) (ho : o ≠ some c) : Blk w' c T cs := by
  unfold Blk; rw [h.block c hB.lt hc fun e => ho e.symm]; exact hB
theorem Fr.own {b : Nat} {o : Option Nat} {w w' : World} (h : Fr b o w w') {TI : TypeId} {w0 : World} {v : Value} {l : List Int} (hO : Own TI w0 w v l) (h1 : v.ownBlock ≠ some b) (h2 : v.ownBlock = none ∨ v.ownBlock ≠ o) : Own TI w0 w' v l := by
  obtain ⟨⟨hl, hr⟩, hn⟩ := hO
  refine ⟨⟨hl, ?_⟩, hn⟩
  rcases hr with hr | ⟨g, cap, cur, rfl, hg, hh, rest⟩
  · exact Or.inl hr
  · refine Or.inr ⟨g, cap, cur, rfl, hg, ?_, rest⟩
    simp [Value.ownBlock] at h1 h2
    rw [h.block g (Array.getElem?_eq_some_iff.1 hh).1 h1 h2]; exact hh
theorem run_append1F {P : Program} {T TI : TypeId} (hT : IntSl P T TI) (ty : TypeId) (w0 w : World) (v : Value) (l : List Int) (y : Int) (ad : Addr) (hO : Own TI w0 w v l) (hE : Ext w0 w) (hy : ∀ j u, [Value.int .i64 y][j]? = some u → w.cell? (ad.add j) = some u) (hn : l.length < 17592186044416) :
    ∃ v' w', (Builtin.append_ #[T, T] ty #[v, .slice (some ad) 1 1]).run P w = .ok v' w' ∧ Own TI w0 w' v' (l ++ [y]) ∧ w.grownBy w' v.ownBlock ∧ Nw v.ownBlock w v'.ownBlock := by
  obtain ⟨i, hi, hz, hs1, hby⟩ := hT.info
  have h1 := hO.1
  rcases h1.2 with ⟨rfl, hl⟩ | ⟨g, cap, cur, rfl, hg, hh, hnc, hcm, hcs, htk⟩
  · have hl' : l = [] := List.eq_nil_of_length_eq_zero hl
    subst hl'
    obtain ⟨v', w', hrun, r1, r2, -⟩ := run_append_own (P := P) w w.heap.size T ty TI i (.int .i64 0) 1 8 hT.und hi hz hs1 hby rfl (by omega) (.slice none 0 0) 0 [] (World.ownsRow_nil _ _ _ _) ad 1 1 [.int .i64 y] rfl hy (by simp [Value.oneCell']) (by unfold maxLen; omega) (by omega) (Nat.le_refl _)
    have hO' : Own TI w w' v' [y] := ⟨by simpa using r1, by simp⟩
    exact ⟨v', w', hrun, by simpa using hO'.mono hE, r2, Or.inr fun k hk => (hO'.blk k hk).1⟩
  · by_cases hroom : l.length + 1 ≤ cap
    · obtain ⟨w', hrun, r1, r2⟩ := run_append_fits (P := P) w w0.heap.size T ty TI i 1 hT.und hi hs1 g l.length cap _ h1 ad 1 1 [.int .i64 y] rfl hy (by simp [Value.oneCell']) hroom
      exact ⟨_, w', hrun, ⟨by simpa using r1, by simp; omega⟩, r2, Or.inl rfl⟩
    · obtain ⟨v', w', hrun, r1, r2⟩ := run_append_arg_grows (P := P) (w := w) T ty TI i (.int .i64 0) 1 8 hT.und hi hz hs1 hby rfl (by omega) ⟨g, 0, none⟩ l.length cap (l.map (Value.int .i64)) (by simp) (by
        intro j u hu
        have hj : j < l.length := by have := (List.getElem?_eq_some_iff.1 hu).1; simpa using this
        rw [Addr.add_lit, Nat.zero_add, World.ownsRow.cellAt h1 j (by omega)]
        simpa using hu) ad 1 1 [.int .i64 y] rfl hy (by omega) (by unfold maxLen; omega) (by omega)
      have hO' : Own TI w w' v' (l ++ [y]) := ⟨by simpa using r1, by simp; omega⟩
      exact ⟨v', w', hrun, hO'.mono hE, ⟨r2.os, r2.tape, r2.output, r2.size, fun k hk _ => r2.block k hk (by simp)⟩, Or.inr fun k hk => (hO'.blk k hk).1⟩
section
variable {P : Program} {ops : Array Oper} {rest : List Oper} {o : Oper} {a : Act} {Q : Exit → Act → World → Prop} {T TI : TypeId}
/-- append(s, y), with the row that it writes -/
theorem wp_append1F (hT : IntSl P T TI) (hg : o.guard = none) (s x : Operand) (hop : o.op = Op.call { callee := Callee.builtin Builtin.append, args := #[s, x], argTypes := #[T, T] })
    (w0 W : World) (v : Value) (l : List Int) (y : Int) (hO : Own TI w0 W v l) (hE : Ext w0 W) (hn : l.length < 17592186044416) (hs : a.eval s = v) (hx : a.eval x = .slice (some ⟨W.heap.size, 0, none⟩) 1 1)
    (hK : ∀ v' w', Own TI w0 w' v' (l ++ [y]) → W.grownBy w' v.ownBlock → Nw v.ownBlock W v'.ownBlock → wpList P ops Q rest (a.put o.dst v') w') :
    wpList P ops Q (o :: rest) a (W.alloc (.cells #[.int .i64 y] TI)) := by
  obtain ⟨v', w', hrun, h1, h2, h3⟩ := run_append1F hT o.type w0 (W.alloc (.cells #[.int .i64 y] TI)) v l y ⟨W.heap.size, 0, none⟩ (hO.alloc _) (hE.alloc _) (cell_one_new _ _ _) hn
  refine wpList_plain hg fun K hK' => ?_
  unfold Oper.wp
  simp [execOp, hop, resolve, invoke, builtin, hs, hx, hrun, Result.andThen]
  have e : Ext W (W.alloc (.cells #[.int .i64 y] TI)) := (Ext.refl W).alloc _
  refine hK' _ _ (hK v' w' h1 ⟨h2.os.trans e.os, h2.tape.trans e.tape, h2.output.trans e.output, Nat.le_trans e.size h2.size, fun k hk hne => ?_⟩ ?_)
  · rw [h2.block k (Nat.lt_of_lt_of_le hk e.size) hne]; exact e.block k hk
  · rcases h3 with h3 | h3
    · exact Or.inl h3
    · exact Or.inr fun k hk => Nat.le_trans e.size (h3 k hk)
end
end Go.Zz
