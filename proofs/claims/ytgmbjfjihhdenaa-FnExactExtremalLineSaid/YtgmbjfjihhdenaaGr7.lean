/- Sequences of elements: IsSequence, parts, totals, the shortest part with the sum 0. -/
import Derived.Test.YtgmbjfjihhdenaaGr6
import Derived.Deep.RegionHeld3
import Derived.Deep.RegionWith
import Derived.Test.YtgmbjfjihhdenaaGr5
import Derived.Test.YtgmbjfjihhdenaaGr3
import Derived.Test.YtgmbjfjihhdenaaGr2
namespace Go.Zz
open Go.RowKit Go.Proofs
set_option maxHeartbeats 1000000
set_option maxRecDepth 20000

theorem Calls.ext_of_same {P : Program} {f : FuncId} {args : Array Value} {w : World} {v : Value} (h : Calls P f args w fun e w' => e = .returned v ∧ w = w') :
    Calls P f args w fun e w' => e = .returned v ∧ Ext w w' := h.mono fun _ _ ⟨he, hw⟩ => ⟨he, hw ▸ Ext.refl _⟩
theorem cmpLess_any (a b : Int) (w : World) :
    Calls Try.prog 236 #[.int .i64 a, .int .i64 b] w fun e w' => e = .returned (.bool (decide (a < b))) ∧ w = w' := by
  have hn : ∀ (x : Int) (W : World), Calls Try.prog 247 #[.int .i64 x] W fun e w' => e = .returned (.bool false) ∧ W = w' := fun x W => by
    go_enter Try.func247, Try.ntmps247
    go_wp2_with fail
    go_ret
    exact ⟨by simp, rfl⟩
  have hd : ∃ d, d = decide (a < b) := ⟨_, rfl⟩
  go_enter Try.func236, Try.ntmps236
  go_wp2_with (first | (go_at_call 247; refine (hn _ _).mono ?_; rintro e w' ⟨rfl, rfl⟩))
  go_ret
  exact ⟨rfl, rfl⟩
theorem cmpLess_val (a b : Int) (w : World) {c : Bool} (hc : decide (a < b) = c) :
    Calls Try.prog 236 #[.int .i64 a, .int .i64 b] w fun e w' => e = .returned (.bool c) ∧ w = w' := by subst hc; exact cmpLess_any a b w
theorem slicesIsSorted_any (u : Value) (xs : List Int) (w : World) (h : Ints w u xs) :
    Calls Try.prog 230 #[u] w fun e w' => e = .returned (.bool (sortB xs)) ∧ Ext w w' := by
  obtain ⟨ao, c, adr, rfl, hlen, hadr, hcell⟩ := h.op
  have hix := ints_index (c := c) elI szI hadr
  have Hit := Lib.hid (sortB_iff xs)
  have Hno : Hid (∀ j, 0 < j → j < xs.length → nth xs j < nth xs (j - 1) → sortB xs = false) := Lib.hid fun j a b c => sortB_no a b c
  have hE := Ext.refl w
  clear h hadr
  go_enter Try.func230, Try.ntmps230
  go_wp2_with fail
  go_loopw [3] (fun i wr => ∃ z : Int, z < (xs.length : Int) ∧ -1 ≤ z ∧ i = .int .i64 z ∧ (∀ j : Nat, z < (j : Int) → j < xs.length → nth xs (j - 1) ≤ nth xs j) ∧ Ext w wr) (fun i _ => (intOf i).toNat)
  case atStart => exact ⟨_, by omega, by omega, rfl, fun j h1 h2 => by omega, hE⟩
  case round =>
    clear hE
    obtain ⟨z, hz1, hz2, rfl, hall, hE⟩ := hrel
    have Hall := Lib.hid hall
    clear hall
    by_cases hp : 0 < z
    · obtain ⟨k, rfl⟩ := Int.eq_ofNat_of_zero_le (show 0 ≤ z by omega)
      have hk : k < xs.length := by omega
      have hk0 : 0 < k := by omega
      obtain ⟨q, hq⟩ : ∃ q, q + 1 = k := ⟨k - 1, by omega⟩
      have hw : IntKind.i64.wrap ((k : Int) - 1) = (q : Int) := by rw [← hq]; exact (IntWalk.i64_in _ (by omega)).trans (by omega)
      have hql : q < xs.length := by omega
      have hck := fun U => hcell k _ hk (hE.trans (lat_ext wr U))
      have hcq := fun U => hcell q _ hql (hE.trans (lat_ext wr U))
      have Hqk := Lib.hid (show q = k - 1 by omega)
      clear hq
      have hE1 := hE
      clear hE
      have hE := Ext.refl wr
      cases hd : decide (nth xs k < nth xs q)
      · have Hd := Lib.hid (of_decide_eq_false hd)
        go_wp2_with fail
        (refine wp_region_lat (wr) (by kernel_rfl) (by kernel_rfl) hE ?_); (repeat (go_big_quiet_step (first | (go_at_call 236; exact Calls.lat_same (cmpLess_val _ _ _ hd))))); (refine wpQuiet_nil ?_); (intro W hE'); (replace hE := lat_of hE'); (clear hE')
        go_wp2_with fail
        go_roundw
        case rel => exact ⟨(q : Int), by have := Hqk.out; omega, by omega, rfl, fun j h1 h2 => by by_cases e : j = k; (subst e; have := Hd.out; rw [Hqk.out] at this; omega); exact Hall.out j (by have := Hqk.out; omega) h2, hE1.trans hE⟩
        case measure => (have := Hqk.out; simp [intOf]; omega)
      · have Hd : Hid (sortB xs = false) := Lib.hid (Hno.out k hk0 hk (by rw [← Hqk.out]; exact of_decide_eq_true hd))
        go_wp2_with fail
        (refine wp_region_lat (wr) (by kernel_rfl) (by kernel_rfl) hE ?_); (repeat (go_big_quiet_step (first | (go_at_call 236; exact Calls.lat_same (cmpLess_val _ _ _ hd))))); (refine wpQuiet_nil ?_); (intro W hE'); (replace hE := lat_of hE'); (clear hE')
        go_wp2_with fail
        go_ret
        exact ⟨ret_bool Hd.out.symm, hE1.trans hE⟩
    · have Hz : Hid (sortB xs = true) := Lib.hid (Hit.out.2 fun j h0 hj => Hall.out j (by omega) hj)
      go_wp2_with fail
      go_ret
      exact ⟨ret_bool Hz.out.symm, hE⟩
theorem slicesIsSorted_val (u : Value) (xs : List Int) (w : World) (h : Ints w u xs) {c : Bool} (hc : sortB xs = c) :
    Calls Try.prog 230 #[u] w fun e w' => e = .returned (.bool c) ∧ Ext w w' := by subst hc; exact slicesIsSorted_any u xs w h
theorem IsGroup_val (v : Value) (l : List Int) (w : World) (h : Ints w v l) {c : Bool} (hc : isGrp l = c) :
    Calls Try.prog 113 #[.agg #[v]] w fun e w' => e = .returned (.bool c) ∧ Ext w w' := by subst hc; exact IsGroup_any v l w h
theorem IsSequence_any (v u : Value) (l xs : List Int) (w : World) (h : Ints w v l) (hu : Ints w u xs) :
    Calls Try.prog 201 #[.agg #[v], u] w fun e w' => e = .returned (.bool (seqB l xs)) ∧ Ext w w' := by
  obtain ⟨wb, hwb⟩ : ∃ wb, wb = w.alloc (.cells #[v] 31) := ⟨_, rfl⟩
  have hE0 := (Ext.refl w).alloc (.cells #[v] 31)
  have hb := box_cell w v 31
  rw [← hwb] at hE0 hb
  have hg : ∀ W, Ext wb W → Ints W v l := fun W hW => h.ext (hE0.trans hW)
  have hgu : Hid (∀ W, Ext wb W → Ints W u xs) := Lib.hid fun W hW => hu.ext (hE0.trans hW)
  have hE := Ext.refl wb
  have Hwb := Lib.hid hwb
  clear hwb h
  obtain ⟨ao, c, adr, rfl, hlen, hadr, hcell⟩ := (hgu.out wb hE).op
  have hix := ints_index (c := c) elI szI hadr
  have Hhas : Hid (∀ k, k < xs.length → hasB l (nth xs k) = false → seqB l xs = false) := Lib.hid fun k a b => seqB_has a b
  have Hend := Lib.hid (fun h => seqB_end (l := l) (xs := xs) h)
  clear hadr hu
  go_enter Try.func201, Try.ntmps201
  go_wp2_with fail
  rw [← Hwb.out]
  go_loopw [9] (fun i wr => ∃ k : Nat, k ≤ xs.length ∧ i = .int .i64 k ∧ (∀ j, j < k → hasB l (nth xs j) = true) ∧ Ext wb wr) (fun i _ => xs.length - (intOf i).toNat)
  case atStart => exact ⟨0, by omega, rfl, by omega, hE⟩
  case round =>
    clear hE
    obtain ⟨k, hk, rfl, hall, hE⟩ := hrel
    have Hall := Lib.hid hall
    clear hall
    have hbx := hb _ hE
    by_cases hlt : k < xs.length
    · have hck := hcell k _ hlt hE
      cases hh : hasB l (nth xs k)
      · have Hz := Lib.hid (Hhas.out k hlt hh)
        go_wp2_with (first | (go_at_call 128; refine (has_val _ _ _ _ (hg _ hE) (hh)).mono ?_; rintro e w' ⟨rfl, hE'⟩; replace hE := hE.trans hE'; clear hE'))
        go_ret
        exact ⟨ret_bool Hz.out.symm, hE0.trans hE⟩
      · have Hk := Lib.hid hh
        go_wp2_with (first | (go_at_call 128; refine (has_val _ _ _ _ (hg _ hE) (hh)).mono ?_; rintro e w' ⟨rfl, hE'⟩; replace hE := hE.trans hE'; clear hE'))
        go_roundw
        case rel => exact ⟨k + 1, by omega, by go_num, fun j hj => by by_cases e : j = k; (subst e; exact Hk.out); exact Hall.out j (by omega), hE⟩
        case measure => (simp [intOf]; omega)
    · have hkl : k = xs.length := by omega
      subst hkl
      have He := Lib.hid (Hend.out Hall.out)
      cases hgr : isGrp l
      · have Hz : Hid (seqB l xs = false) := Lib.hid (by rw [He.out, hgr]; rfl)
        go_wp2_with (first | (go_at_call 113; refine (IsGroup_val _ _ _ (hg _ hE) hgr).mono ?_; rintro e w' ⟨rfl, hE'⟩; replace hE := hE.trans hE'; clear hE'))
        go_ret
        exact ⟨ret_bool Hz.out.symm, hE0.trans hE⟩
      · by_cases h12 : xs.length ≤ 12
        · have Hz : Hid (seqB l xs = sortB xs) := Lib.hid (by rw [He.out, hgr, decide_eq_true h12]; rfl)
          go_wp2_with (first | (go_at_call 113; refine (IsGroup_val _ _ _ (hg _ hE) hgr).mono ?_; rintro e w' ⟨rfl, hE'⟩; replace hE := hE.trans hE'; clear hE') | (go_at_call 230; refine (slicesIsSorted_any _ _ _ (hgu.out _ hE)).mono ?_; rintro e w' ⟨rfl, hE'⟩; replace hE := hE.trans hE'; clear hE'))
          go_ret
          exact ⟨ret_bool Hz.out.symm, hE0.trans hE⟩
        · have Hz : Hid (seqB l xs = false) := Lib.hid (by rw [He.out, hgr, decide_eq_false h12]; rfl)
          have h12' : ¬ (xs.length : Int) ≤ 12 := by omega
          go_wp2_with (first | (go_at_call 113; refine (IsGroup_val _ _ _ (hg _ hE) hgr).mono ?_; rintro e w' ⟨rfl, hE'⟩; replace hE := hE.trans hE'; clear hE'))
          go_ret
          exact ⟨ret_bool Hz.out.symm, hE0.trans hE⟩
theorem IsSequence_val (v u : Value) (l xs : List Int) (w : World) (h : Ints w v l) (hu : Ints w u xs) {c : Bool} (hc : seqB l xs = c) :
    Calls Try.prog 201 #[.agg #[v], u] w fun e w' => e = .returned (.bool c) ∧ Ext w w' := by subst hc; exact IsSequence_any v u l xs w h hu
theorem sIsGroup_val (v : Value) (l : List Int) (w : World) (h : Ints w v l) {c : Bool} (hc : isGrp l = c) :
    Calls Try.prog 105 #[.agg #[v]] w fun e w' => e = .returned (.bool c) ∧ Ext w w' := by subst hc; exact sIsGroup_any v l w h
theorem sIsSequence_any (v u : Value) (l xs : List Int) (w : World) (h : Ints w v l) (hu : Ints w u xs) :
    Calls Try.prog 190 #[.agg #[v], u] w fun e w' => e = .returned (.bool (seqB l xs)) ∧ Ext w w' := by
  obtain ⟨wb, hwb⟩ : ∃ wb, wb = w.alloc (.cells #[v] 31) := ⟨_, rfl⟩
  have hE0 := (Ext.refl w).alloc (.cells #[v] 31)
  have hb := box_cell w v 31
  rw [← hwb] at hE0 hb
  have hg : ∀ W, Ext wb W → Ints W v l := fun W hW => h.ext (hE0.trans hW)
  have hgu : Hid (∀ W, Ext wb W → Ints W u xs) := Lib.hid fun W hW => hu.ext (hE0.trans hW)
  have hE := Ext.refl wb
  have Hwb := Lib.hid hwb
  clear hwb h
  obtain ⟨ao, c, adr, rfl, hlen, hadr, hcell⟩ := (hgu.out wb hE).op
  have hix := ints_index (c := c) elI szI hadr
  have Hhas : Hid (∀ k, k < xs.length → hasB l (nth xs k) = false → seqB l xs = false) := Lib.hid fun k a b => seqB_has a b
  have Hdown : Hid (∀ k, 0 < k → k < xs.length → nth xs k < nth xs (k - 1) → seqB l xs = false) := Lib.hid fun k a b c => seqB_down a b c
  have Hend := Lib.hid (fun h => seqB_end (l := l) (xs := xs) h)
  have Hit := Lib.hid (sortB_iff xs)
  clear hadr hu
  go_enter Try.func190, Try.ntmps190
  go_wp2_with fail
  rw [← Hwb.out]
  go_loopw [5] (fun i wr => ∃ k : Nat, k ≤ xs.length ∧ i = .int .i64 k ∧ (∀ j, j < k → hasB l (nth xs j) = true ∧ (0 < j → nth xs (j - 1) ≤ nth xs j)) ∧ Ext wb wr) (fun i _ => xs.length - (intOf i).toNat)
  case atStart => exact ⟨0, by omega, rfl, by omega, hE⟩
  case round =>
    clear hE
    obtain ⟨k, hk, rfl, hall, hE⟩ := hrel
    have Hall := Lib.hid hall
    clear hall
    by_cases hlt : k < xs.length
    · have hck := fun U => hcell k _ hlt (hE.trans (lat_ext wr U))
      have hbu := fun U => hb _ (hE.trans (lat_ext wr U))
      have hgr' : ∀ W, Ext wr W → Ints W v l := fun W hW => hg W (hE.trans hW)
      have hE1 := hE
      clear hE
      have hE := Ext.refl wr
      cases hh : hasB l (nth xs k)
      · have Hz := Lib.hid (Hhas.out k hlt hh)
        go_wp2_with fail
        (refine wp_region_lat (wr) (by kernel_rfl) (by kernel_rfl) hE ?_); (repeat (go_big_quiet_step (first | (go_at_call 130; exact Calls.lat (l2Is_val _ _ _ _ (hgr' _ (lat_ext wr _)) (hh)))))); (refine wpQuiet_nil ?_); (intro W hE'); (replace hE := lat_of hE'); (clear hE')
        go_wp2_with fail
        go_ret
        exact ⟨ret_bool Hz.out.symm, hE0.trans (hE1.trans hE)⟩
      · have Hk := Lib.hid hh
        by_cases h0 : k = 0
        · have Hk0 := Lib.hid h0
          have hd0 : ¬ (0 : Int) < (k : Int) := by omega
          have hdn : ¬ 0 < k := by omega
          clear h0
          go_wp2_with fail
          (refine wp_region_lat (wr) (by kernel_rfl) (by kernel_rfl) hE ?_); (repeat (go_big_quiet_step (first | (go_at_call 130; exact Calls.lat (l2Is_val _ _ _ _ (hgr' _ (lat_ext wr _)) (hh)))))); (refine wpQuiet_nil ?_); (intro W hE'); (replace hE := lat_of hE'); (clear hE')
          go_wp2_with fail
          go_roundw
          case rel => exact ⟨k + 1, by omega, by go_num, fun j hj => by by_cases e : j = k; (subst e; exact ⟨Hk.out, fun h => by have := Hk0.out; omega⟩); exact Hall.out j (by omega), hE1.trans hE⟩
          case measure => (simp [intOf]; omega)
        · have hd0 : (0 : Int) < (k : Int) := by omega
          have hk0 : 0 < k := by omega
          clear h0
          obtain ⟨q, hq⟩ : ∃ q, q + 1 = k := ⟨k - 1, by omega⟩
          have hw : IntKind.i64.wrap ((k : Int) - 1) = (q : Int) := by rw [← hq]; exact (IntWalk.i64_in _ (by omega)).trans (by omega)
          have hql : q < xs.length := by omega
          have hcq := fun U => hcell q _ hql (hE1.trans (lat_ext wr U))
          have Hqk := Lib.hid (show q = k - 1 by omega)
          clear hq
          cases hd : decide (nth xs k < nth xs q)
          · have Hd := Lib.hid (of_decide_eq_false hd)
            go_wp2_with fail
            (refine wp_region_lat (wr) (by kernel_rfl) (by kernel_rfl) hE ?_); (repeat (go_big_quiet_step (first | (go_at_call 130; exact Calls.lat (l2Is_val _ _ _ _ (hgr' _ (lat_ext wr _)) (hh)))))); (refine wpQuiet_nil ?_); (intro W hE'); (replace hE := lat_of hE'); (clear hE')
            go_wp2_with fail
            go_roundw
            case rel => exact ⟨k + 1, by omega, by go_num, fun j hj => by by_cases e : j = k; (subst e; exact ⟨Hk.out, fun _ => by have := Hd.out; rw [Hqk.out] at this; omega⟩); exact Hall.out j (by omega), hE1.trans hE⟩
            case measure => (simp [intOf]; omega)
          · have Hz := Lib.hid (Hdown.out k hk0 hlt (by rw [← Hqk.out]; exact of_decide_eq_true hd))
            go_wp2_with fail
            (refine wp_region_lat (wr) (by kernel_rfl) (by kernel_rfl) hE ?_); (repeat (go_big_quiet_step (first | (go_at_call 130; exact Calls.lat (l2Is_val _ _ _ _ (hgr' _ (lat_ext wr _)) (hh)))))); (refine wpQuiet_nil ?_); (intro W hE'); (replace hE := lat_of hE'); (clear hE')
            go_wp2_with fail
            go_ret
            exact ⟨ret_bool Hz.out.symm, hE0.trans (hE1.trans hE)⟩
    · have hkl : k = xs.length := by omega
      subst hkl
      have hbx := hb _ hE
      have He := Lib.hid (Hend.out fun j hj => (Hall.out j hj).1)
      have Hs : Hid (sortB xs = true) := Lib.hid (Hit.out.2 fun j h0 hj => (Hall.out j hj).2 h0)
      cases hgr : isGrp l
      · have Hz : Hid (seqB l xs = false) := Lib.hid (by rw [He.out, hgr]; rfl)
        go_wp2_with (first | (go_at_call 105; refine (sIsGroup_val _ _ _ (hg _ hE) hgr).mono ?_; rintro e w' ⟨rfl, hE'⟩; replace hE := hE.trans hE'; clear hE'))
        go_ret
        exact ⟨ret_bool Hz.out.symm, hE0.trans hE⟩
      · by_cases h12 : xs.length ≤ 12
        · have Hz : Hid (seqB l xs = true) := Lib.hid (by rw [He.out, hgr, decide_eq_true h12, Hs.out]; rfl)
          go_wp2_with (first | (go_at_call 105; refine (sIsGroup_val _ _ _ (hg _ hE) hgr).mono ?_; rintro e w' ⟨rfl, hE'⟩; replace hE := hE.trans hE'; clear hE'))
          go_ret
          exact ⟨ret_bool (by rw [Hz.out]; exact decide_eq_true (by omega)), hE0.trans hE⟩
        · have Hz : Hid (seqB l xs = false) := Lib.hid (by rw [He.out, hgr, decide_eq_false h12]; rfl)
          go_wp2_with (first | (go_at_call 105; refine (sIsGroup_val _ _ _ (hg _ hE) hgr).mono ?_; rintro e w' ⟨rfl, hE'⟩; replace hE := hE.trans hE'; clear hE'))
          go_ret
          exact ⟨ret_bool (by rw [Hz.out]; exact decide_eq_false (by omega)), hE0.trans hE⟩
theorem sIsSequence_val (v u : Value) (l xs : List Int) (w : World) (h : Ints w v l) (hu : Ints w u xs) {c : Bool} (hc : seqB l xs = c) :
    Calls Try.prog 190 #[.agg #[v], u] w fun e w' => e = .returned (.bool c) ∧ Ext w w' := by subst hc; exact sIsSequence_any v u l xs w h hu
end Go.Zz

/- The table of sums: how often each element is a sum. Plain laws. -/
namespace Go.Zz
open Go.RowKit Go.Proofs
set_option maxHeartbeats 400000

/-- one more at a place -/
def bump (t : List Int) (z : Nat) : List Int := t.set z (nth t z + 1)
theorem bump_len (t : List Int) (z : Nat) : (bump t z).length = t.length := by simp [bump]
def tabIn (l : List Int) (x : Nat) (t : List Int) (L : List Nat) : List Int := L.foldl (fun t y => bump t (addF l x y)) t
def tabOut (l : List Int) (b : Nat) (t : List Int) (L : List Nat) : List Int := L.foldl (fun t x => tabIn l x t (elems b)) t
theorem tabIn_snoc (l : List Int) (x : Nat) (t : List Int) (L : List Nat) (y : Nat) : tabIn l x t (L ++ [y]) = bump (tabIn l x t L) (addF l x y) := by
  unfold tabIn; rw [List.foldl_append]; rfl
theorem tabOut_snoc (l : List Int) (b : Nat) (t : List Int) (L : List Nat) (x : Nat) : tabOut l b t (L ++ [x]) = tabIn l x (tabOut l b t L) (elems b) := by
  unfold tabOut; rw [List.foldl_append]; rfl
theorem nth_bump (t : List Int) (z i : Nat) (hz : z < t.length) : nth (bump t z) i = if i = z then nth t z + 1 else nth t i := by
  unfold bump nth
  simp only [List.getD_eq_getElem?_getD, List.getElem?_set]
  by_cases h : i = z
  · subst h; simp [hz]
  · have h' : ¬ z = i := fun e => h e.symm
    simp [h, h']
/-- every count lies between 0 and B -/
def Upto (t : List Int) (B : Int) : Prop := ∀ i, 0 ≤ nth t i ∧ nth t i ≤ B
theorem Upto.bump {t : List Int} {B : Int} (h : Upto t B) {z : Nat} (hz : z < t.length) : Upto (bump t z) (B + 1) := fun i => by
  rw [nth_bump t z i hz]
  have h1 := h z
  have h2 := h i
  split <;> omega
theorem Upto.zeros (n : Nat) : Upto (List.replicate n 0) 0 := fun i => by
  unfold nth
  simp only [List.getD_eq_getElem?_getD, List.getElem?_replicate]
  split <;> simp
def tabF (l : List Int) (a b : Int) : List Int := if isSetB l a && isSetB l b then tabOut l b.toNat (List.replicate (ord l) 0) (elems a.toNat) else []
theorem tabF_no {l : List Int} {a b : Int} (h : (isSetB l a && isSetB l b) = false) : tabF l a b = [] := by unfold tabF; rw [h]; rfl
theorem tabF_yes {l : List Int} {a b : Nat} (h : (isSetB l a && isSetB l b) = true) : tabF l a b = tabOut l b (List.replicate (ord l) 0) (elems a) := by unfold tabF; rw [h]; rfl
end Go.Zz

/- The table of sums. -/
namespace Go.Zz
open Go.RowKit Go.Proofs
set_option maxHeartbeats 400000

theorem Own.cellAt {TI : TypeId} {w0 w : World} {g n c : Nat} {l : List Int} (h : Own TI w0 w (.slice (some ⟨g, 0, none⟩) n c) l) (hn : l.length = n) {i : Nat} (hi : i < n) :
    w.cell? ⟨g, i, none⟩ = some (.int .i64 (nth l i)) ∧ w.frozen? ⟨g, i, none⟩ = false := by
  obtain ⟨ao', c', hv, -, -, hs⟩ := h.shape
  obtain ⟨g', hg1, hc1, hf1⟩ := hs i (by omega)
  simp only [Value.slice.injEq] at hv
  obtain ⟨hv1, -, -⟩ := hv
  rw [← hv1] at hg1
  simp only [Option.some.injEq, Addr.mk.injEq, and_true] at hg1
  obtain rfl := hg1
  exact ⟨hc1, hf1⟩
theorem Own.row {TI : TypeId} {w0 w : World} {ao : Option Addr} {n c : Nat} {l : List Int} (h : Own TI w0 w (.slice ao n c) l) (hn : l.length = n) (hp : 0 < n) :
    ∃ g, ao = some ⟨g, 0, none⟩ ∧ w0.heap.size ≤ g ∧ g < w.heap.size := by
  obtain ⟨ao', c', hv, -, hb, hs⟩ := h.shape
  obtain ⟨g', hg1, hc1, hf1⟩ := hs 0 (by omega)
  simp only [Value.slice.injEq] at hv
  obtain ⟨hv1, -, -⟩ := hv
  subst hv1
  obtain ⟨g, e, h1, h2⟩ := hb _ hg1
  exact ⟨g, by rw [hg1, e], h1, h2⟩
theorem Own.nshape {TI : TypeId} {w0 w : World} {v : Value} {L : List Nat} (h : Own TI w0 w v (castL L)) : ∃ (ao : Option Addr) (c : Nat), v = .slice ao L.length c := by
  obtain ⟨ao, c, e, -, -, -⟩ := h.shape
  exact ⟨ao, c, by rw [e, castL_len]⟩
theorem row_index (g n c : Nat) : ∀ (i : Nat) W, i < n → (Instr.indexAt 22 (.slice (some ⟨g, 0, none⟩) n c) (.int .i64 (i : Int))).run Try.prog W = .ok (.pointer (some ⟨g, i, none⟩)) W := by
  intro i W hi
  rw [run_indexAt_slice (h := elI), if_pos (by omega), szI]
  simp [Result.andThen, Addr.add_lit]
theorem castL_nth {L : List Nat} {i : Nat} : nth (castL L) i = (nthN L i : Int) := nth_castL L i
theorem tabIn_len (l : List Int) (x : Nat) : ∀ (L : List Nat) (t : List Int), (tabIn l x t L).length = t.length
  | [], t => rfl
  | y :: L, t => by
    show (tabIn l x (bump t (addF l x y)) L).length = t.length
    rw [tabIn_len l x L, bump_len]
theorem tabOut_len (l : List Int) (b : Nat) : ∀ (L : List Nat) (t : List Int), (tabOut l b t L).length = t.length
  | [], t => rfl
  | x :: L, t => by
    show (tabOut l b (tabIn l x t (elems b)) L).length = t.length
    rw [tabOut_len l b L, tabIn_len]
theorem tabIn_upto {l : List Int} (hg : isGrp l = true) (x : Nat) : ∀ (L : List Nat) (t : List Int) (B : Int), t.length = ord l → Upto t B → Upto (tabIn l x t L) (B + L.length)
  | [], t, B, _, h => by simpa [tabIn] using h
  | y :: L, t, B, hl, h => by
    have hz : addF l x y < t.length := by rw [hl]; exact addF_lt l (isGrp_ords hg) x y
    have := tabIn_upto hg x L (bump t (addF l x y)) (B + 1) (by rw [bump_len]; exact hl) (h.bump hz)
    show Upto (tabIn l x (bump t (addF l x y)) L) _
    rw [List.length_cons]
    intro i; have := this i; push_cast at this ⊢; omega
theorem tabOut_upto {l : List Int} (hg : isGrp l = true) (b : Nat) : ∀ (L : List Nat) (t : List Int) (B : Int), t.length = ord l → Upto t B → Upto (tabOut l b t L) (B + 24 * L.length)
  | [], t, B, _, h => by simpa [tabOut] using h
  | x :: L, t, B, hl, h => by
    have h1 := tabIn_upto hg x (elems b) t B hl h
    have h2 := tabOut_upto hg b L (tabIn l x t (elems b)) (B + (elems b).length) (by rw [tabIn_len]; exact hl) h1
    have h3 := elems_len b
    show Upto (tabOut l b (tabIn l x t (elems b)) L) _
    rw [List.length_cons]
    intro i; have := h2 i; push_cast at this ⊢; omega
/-- the count that is to be raised fits -/
theorem tab_fits {l : List Int} (hg : isGrp l = true) {b x : Nat} {L M : List Nat} (hL : L.length ≤ 24) (hM : M.length ≤ 24) (i : Nat) :
    0 ≤ nth (tabIn l x (tabOut l b (List.replicate (ord l) 0) L) M) i ∧ nth (tabIn l x (tabOut l b (List.replicate (ord l) 0) L) M) i ≤ 1000 := by
  have h1 := tabOut_upto hg b L _ 0 (by simp) (Upto.zeros (ord l))
  have h2 := tabIn_upto hg x M _ _ (by rw [tabOut_len]; simp) h1
  have := h2 i
  omega

theorem SumTable_any (v : Value) (l : List Int) (a b : Int) (w : World) (h : Ints w v l) :
    Calls Try.prog 136 #[.agg #[v], .int .i64 a, .int .i64 b] w fun e w' => ∃ u, e = .returned u ∧ Own 3 w w' u (tabF l a b) ∧ Ext w w' := by
  obtain ⟨wb, hwb⟩ : ∃ wb, wb = w.alloc (.cells #[v] 31) := ⟨_, rfl⟩
  have hE0 := (Ext.refl w).alloc (.cells #[v] 31)
  have hb := box_cell w v 31
  rw [← hwb] at hE0 hb
  have hg : ∀ W, Ext wb W → Ints W v l := fun W hW => h.ext (hE0.trans hW)
  have hE := Ext.refl wb
  have Hsz : Hid (w.heap.size + 1 = wb.heap.size) := Lib.hid (by rw [hwb]; simp [go_sem])
  have Hwb := Lib.hid hwb
  clear hwb h
  have hbx := hb wb hE
  have har := areF_two l a b
  cases hs : (isSetB l a && isSetB l b)
  · have Hs := Lib.hid (tabF_no hs)
    rw [hs] at har
    clear hs
    go_enter Try.func136, Try.ntmps136
    go_wp2_with fail
    rw [← Hwb.out]; rw [Hsz.out]
    go_wp2_with (first | (go_at_call 154; refine Calls.mono (areSets_val _ _ _ _ _ (hg _ (by repeat (first | assumption | exact Ext.refl _ | (apply And.left; assumption) | apply Ext.drew | apply Ext.alloc))) (ints_two _ _ _ _) har) ?_; rintro e w' ⟨rfl, hE'⟩; replace hE := hE.trans (Ext.trans (by repeat (first | assumption | exact Ext.refl _ | (apply And.left; assumption) | apply Ext.drew | apply Ext.alloc)) hE'); clear hE'))
    go_ret
    exact ⟨_, rfl, by rw [Hs.out]; exact own_made (by omega) (hE0.trans hE) [] rfl, (hE0.trans hE).alloc _⟩
  · obtain ⟨h1, h2⟩ := Bool.and_eq_true_iff.1 hs
    obtain ⟨a, rfl, -, ha, hgr⟩ := isSetB_nat h1
    obtain ⟨b, rfl, -, hb', -⟩ := isSetB_nat h2
    have Hs := Lib.hid (tabF_yes hs)
    rw [hs] at har
    have Hgr := Lib.hid hgr
    have hob := ord_bd hgr
    clear hs hgr h1 h2
    go_enter Try.func136, Try.ntmps136
    go_wp2_with fail
    rw [← Hwb.out]; rw [Hsz.out]
    go_wp2_with (first | (go_at_call 154; refine Calls.mono (areSets_val _ _ _ _ _ (hg _ (by repeat (first | assumption | exact Ext.refl _ | (apply And.left; assumption) | apply Ext.drew | apply Ext.alloc))) (ints_two _ _ _ _) har) ?_; rintro e w' ⟨rfl, hE'⟩; replace hE := hE.trans (Ext.trans (by repeat (first | assumption | exact Ext.refl _ | (apply And.left; assumption) | apply Ext.drew | apply Ext.alloc)) hE'); clear hE') | (go_at_call 114; refine (OrderOf_grp _ _ _ (hg _ hE) (Hgr)).mono ?_; rintro e w' ⟨rfl, hE'⟩; replace hE := hE.trans hE'; clear hE') | (at_make; refine wp_make_ints slI rfl _ _ rfl wb _ (ord l) rfl rfl (by omega) hE ?_; intro w2 hO hE2) | (go_at_call 169; refine (members_any a ha _).mono ?_; rintro e w1 ⟨v1, rfl, hL, hE1⟩; obtain ⟨aoL, cL, rfl⟩ := hL.nshape))
    obtain ⟨g, hgd⟩ : ∃ g, g = w'.heap.size := ⟨_, rfl⟩
    rw [← hgd] at hO ⊢
    clear hgd
    obtain ⟨_, _, hg1, hg2⟩ := hO.row (by simp) (by omega)
    rename_i hge
    simp only [Option.some.injEq, Addr.mk.injEq, and_true] at hge
    subst hge
    replace hO := hO.ext hE1
    replace hE := hE2.trans hE1
    have hixO := row_index g (ord l) (ord l)
    have hall : ∀ y ∈ elems a, y < 24 := fun y hy => elems_lt hy
    have hlen := elems_len a
    clear hE1 hE2
    generalize elems a = L at hL hall hlen Hs ⊢
    go_loopw [25] (fun i wr => ∃ k : Nat, k ≤ L.length ∧ i = .int .i64 k ∧ Own 3 wb wr (.slice (some ⟨g, 0, none⟩) (ord l) (ord l)) (tabOut l b (List.replicate (ord l) 0) (L.take k)) ∧ Own 3 w2 wr (.slice aoL L.length cL) (castL L) ∧ Ext wb wr) (fun i _ => L.length - (intOf i).toNat)
    case atStart => exact ⟨0, by omega, rfl, hO, hL, hE⟩
    case round =>
      clear hE hO hL
      obtain ⟨k, hk, rfl, hO, hL, hE⟩ := hrel
      have hbx := hb _ hE
      by_cases hlt : k < L.length
      · obtain ⟨gL, rfl, -, -⟩ := hL.row (castL_len L) (by omega)
        have hck := (hL.cellAt (castL_len L) hlt).1
        rw [castL_nth] at hck
        have hixL := row_index gL L.length cL
        have hgw : g < wr.heap.size := (hO.blk g rfl).2
        have hx24 := hall _ (nthN_mem hlt)
        have Hsn := Lib.hid (tabOut_snoc l b (List.replicate (ord l) 0) (L.take k) (nthN L k))
        have Htk := Lib.hid (take_nthN L k hlt)
        have hLk : (L.take k).length ≤ 24 := by rw [List.length_take]; omega
        go_wp2_with (first | (go_at_call 169; refine (members_any b hb' _).mono ?_; rintro e w3 ⟨v3, rfl, hM, hE3⟩; obtain ⟨aoM, cM, rfl⟩ := hM.nshape))
        replace hO := hO.ext hE3
        replace hL := hL.ext hE3
        replace hE := hE.trans hE3
        have hallM : ∀ y ∈ elems b, y < 24 := fun y hy => elems_lt hy
        have hlenM := elems_len b
        obtain ⟨M, hMd⟩ : ∃ M, M = elems b := ⟨_, rfl⟩
        rw [← hMd] at hM hallM hlenM ⊢
        have HMd := Lib.hid hMd
        clear hMd hck hixL
        go_loopw [32] (fun i wq => ∃ j : Nat, j ≤ M.length ∧ i = .int .i64 j ∧ Own 3 wb wq (.slice (some ⟨g, 0, none⟩) (ord l) (ord l)) (tabIn l (nthN L k) (tabOut l b (List.replicate (ord l) 0) (L.take k)) (M.take j)) ∧ Own 3 w2 wq (.slice (some ⟨gL, 0, none⟩) L.length cL) (castL L) ∧ Own 3 wr wq (.slice aoM M.length cM) (castL M) ∧ Ext wb wq) (fun i _ => M.length - (intOf i).toNat)
        case atStart => exact ⟨0, by omega, rfl, hO, hL, hM, hE⟩
        case round =>
          clear hE hO hL hM hbx
          obtain ⟨j, hj, rfl, hO, hL, hM, hE⟩ := hrel
          have hbx := hb _ hE
          by_cases hlt2 : j < M.length
          · obtain ⟨gM, rfl, -, -⟩ := hM.row (castL_len M) (by omega)
            have hck := (hM.cellAt (castL_len M) hlt2).1
            rw [castL_nth] at hck
            have hixM := row_index gM M.length cM
            have hy24 := hallM _ (nthN_mem hlt2)
            have Hsn2 := Lib.hid (tabIn_snoc l (nthN L k) (tabOut l b (List.replicate (ord l) 0) (L.take k)) (M.take j) (nthN M j))
            have Htk2 := Lib.hid (take_nthN M j hlt2)
            have hMj : (M.take j).length ≤ 24 := by rw [List.length_take]; omega
            have hfit := tab_fits Hgr.out (b := b) (x := nthN L k) hLk hMj (addF l (nthN L k) (nthN M j))
            have hzo := addF_lt l (isGrp_ords Hgr.out) (nthN L k) (nthN M j)
            have hT : Hid ((tabIn l (nthN L k) (tabOut l b (List.replicate (ord l) 0) (L.take k)) (M.take j)).length = ord l) := Lib.hid (by rw [tabIn_len, tabOut_len]; simp)
            generalize tabIn l (nthN L k) (tabOut l b (List.replicate (ord l) 0) (L.take k)) (M.take j) = T at hO hfit Hsn2 hT
            go_wp2_with (first | (go_at_call 210; refine (add_any _ _ _ _ _ (hg _ hE) Hgr (by omega) (by omega)).mono ?_; rintro e w4 ⟨rfl, hE'⟩; replace hO := hO.ext hE'; replace hL := hL.ext hE'; replace hM := hM.ext hE'; replace hE := hE.trans hE'; obtain ⟨hzc, hzf⟩ := hO.cellAt hT.out hzo; clear hE'))
            go_roundw
            case rel =>
              refine ⟨j + 1, by omega, by go_num, ?_, hL.setCell_below hg2 _, hM.setCell_below hgw _, hE.setCell hg1 _⟩
              rw [Htk2.out, Hsn2.out]
              exact (hO.stored_grown hT.out _ _).1
            case measure => (simp [intOf]; omega)
          · have hkl : j = M.length := by omega
            subst hkl
            have hO' : Own 3 wb wr (.slice (some ⟨g, 0, none⟩) (ord l) (ord l)) (tabOut l b (List.replicate (ord l) 0) (L.take (k + 1))) := by
              rw [Htk.out, Hsn.out, ← HMd.out]; rw [List.take_length] at hO; exact hO
            go_wp2_with fail
            go_roundw
            case rel => exact ⟨k + 1, by omega, by go_num, hO', hL, hE⟩
            case measure => (simp [intOf]; omega)
      · have hkl : k = L.length := by omega
        subst hkl
        rw [List.take_length, ← Hs.out] at hO
        go_wp2_with fail
        go_ret
        exact ⟨_, rfl, hO.mono hE0, hE0.trans hE⟩
end Go.Zz

/- EqualGroups, MeetingBound. -/
namespace Go.Zz
open Go.RowKit Go.Proofs
set_option maxHeartbeats 400000

--%call EqualGroups 147 ext EqualGroups_any _ _ _ _ _ ({0}) ({1})
theorem EqualGroups_any (v u : Value) (l m : List Int) (w : World) (h : Ints w v l) (k : Ints w u m) :
    Calls Try.prog 147 #[.agg #[v], .agg #[u]] w fun e w' => e = .returned (.bool (decide (l = m))) ∧ Ext w w' := by
  have hE0 := ((Ext.refl w).alloc (.cells #[v] 31)).alloc (.cells #[u] 31)
  have hE := Ext.refl ((w.alloc (.cells #[v] 31)).alloc (.cells #[u] 31))
  have hI1 := h.ext hE0
  have hI2 := k.ext hE0
  clear h k
  go_enter Try.func147, Try.ntmps147
  go_wp2_with (first | (go_at_call 137; refine (slicesEqual_any _ _ _ _ _ (hI1) (hI2)).mono ?_; rintro e w' ⟨rfl, hE'⟩; replace hE := hE.trans hE'; clear hE'))
  go_ret
  exact ⟨ret_bool rfl, hE0.trans hE⟩

--%call sEqualGroups 132 ext sEqualGroups_any _ _ _ _ _ ({0}) ({1})
theorem sEqualGroups_any (v u : Value) (l m : List Int) (w : World) (h : Ints w v l) (k : Ints w u m) :
    Calls Try.prog 132 #[.agg #[v], .agg #[u]] w fun e w' => e = .returned (.bool (decide (l = m))) ∧ Ext w w' := by
  obtain ⟨ao, c, adr, rfl, hlen, hadr, hcell⟩ := h.op
  have hix := ints_index (c := c) elI szI hadr
  obtain ⟨ao2, c2, adr2, rfl, hlen2, hadr2, hcell2⟩ := k.op
  have hix2 := ints_index (c := c2) elI szI hadr2
  clear hadr hadr2 h k
  obtain ⟨wb, hwb⟩ : ∃ wb, wb = (w.alloc (.cells #[.slice ao l.length c] 31)).alloc (.cells #[.slice ao2 m.length c2] 31) := ⟨_, rfl⟩
  have hE0 := ((Ext.refl w).alloc (.cells #[.slice ao l.length c] 31)).alloc (.cells #[.slice ao2 m.length c2] 31)
  have k1 := cell_in (show wb.cell? ⟨w.heap.size, 0, none⟩ = some (.slice ao l.length c) by rw [hwb]; simp [go_sem])
  have k2 := cell_in (show wb.cell? ⟨w.heap.size + 1, 0, none⟩ = some (.slice ao2 m.length c2) by rw [hwb]; simp [go_sem])
  have k1L := fun U => k1 _ (lat_ext wb U)
  have k2L := fun U => k2 _ (lat_ext wb U)
  rw [← hwb] at hE0
  have hE := Ext.refl wb
  have Hwb := Lib.hid hwb
  clear hwb
  by_cases hl : l.length = m.length
  · have hl1 : ((l.length : Int) != (m.length : Int)) = false := by simp [hl]
    have Hl := Lib.hid hl
    clear hl
    go_enter Try.func132, Try.ntmps132
    go_wp2_with fail
    rw [← Hwb.out]
    go_loopw [5] (fun i wr => ∃ k : Nat, k ≤ l.length ∧ (∀ j, j < k → nth l j = nth m j) ∧ i = .int .i64 k ∧ Ext wb wr) (fun i _ => l.length - (intOf i).toNat)
    case atStart => exact ⟨0, by omega, by omega, rfl, hE⟩
    case round =>
      clear hE
      obtain ⟨k, hk, hall, rfl, hE⟩ := hrel
      have Hall := Lib.hid hall
      clear hall
      have k1' := k1 _ hE
      have k2' := k2 _ hE
      by_cases hlt : k < l.length
      · have hlt2 : k < m.length := by have := Hl.out; omega
        have hck := fun U => hcell k _ hlt (hE0.trans (lat_ext wb U))
        have hck2 := fun U => hcell2 k _ hlt2 (hE0.trans (lat_ext wb U))
        by_cases he : nth l k = nth m k
        · have he1 : (nth l k != nth m k) = false := by simp [he]
          have He := Lib.hid he
          clear he
          go_wp2_with fail
          (refine wp_region_lat (wb) (by kernel_rfl) (by kernel_rfl) hE ?_); (repeat (go_big_quiet_step (first | fail))); (refine wpQuiet_nil ?_); (intro W hE'); (replace hE := lat_of hE'); (clear hE')
          go_wp2_with fail
          go_roundw
          case rel => exact ⟨k + 1, by omega, fun j hj => by by_cases e : j = k; (subst e; exact He.out); exact Hall.out j (by omega), by go_num, hE⟩
          case measure => (simp [intOf]; omega)
        · have he1 : (nth l k != nth m k) = true := by simp [he]
          have He := Lib.hid he
          clear he
          go_wp2_with fail
          (refine wp_region_lat (wb) (by kernel_rfl) (by kernel_rfl) hE ?_); (repeat (go_big_quiet_step (first | fail))); (refine wpQuiet_nil ?_); (intro W hE'); (replace hE := lat_of hE'); (clear hE')
          go_wp2_with fail
          go_ret
          exact ⟨ret_bool (by symm; rw [decide_eq_false_iff_not]; intro e; exact He.out (by rw [e])), hE0.trans hE⟩
      · have hkl : k = l.length := by omega
        subst hkl
        go_wp2_with fail
        go_ret
        exact ⟨ret_bool (by symm; rw [decide_eq_true_iff]; exact ext_nth Hl.out Hall.out), hE0.trans hE⟩
  · have hl1 : ((l.length : Int) != (m.length : Int)) = true := by simp; omega
    have Hl := Lib.hid hl
    clear hl
    go_enter Try.func132, Try.ntmps132
    go_wp2_with fail
    rw [← Hwb.out]
    go_ret
    exact ⟨ret_bool (by symm; rw [decide_eq_false_iff_not]; intro e; exact Hl.out (by rw [e])), hE0⟩

/-- the bound of MeetingBound -/
def meetF (l : List Int) (a : Int) : Int := if isSetB l a && !(a == 0) then ((ord l : Int) + cnt a.toNat - 1) / cnt a.toNat else -1
theorem meetF_no {l : List Int} {a : Int} (h : isSetB l a = false) : meetF l a = -1 := by unfold meetF; rw [h]; rfl
theorem meetF_zero (l : List Int) : meetF l 0 = -1 := by unfold meetF; simp
theorem meetF_yes {l : List Int} {n : Nat} (h : isSetB l n = true) (h0 : 0 < n) : meetF l n = ((ord l : Int) + cnt n - 1) / cnt n := by
  unfold meetF
  have : ((n : Int) == 0) = false := by simp; omega
  rw [h, this]; simp
--%call MeetingBound 47 ext MeetingBound_any _ _ _ _ ({0})
theorem MeetingBound_any (v : Value) (l : List Int) (a : Int) (w : World) (h : Ints w v l) :
    Calls Try.prog 47 #[.agg #[v], .int .i64 a] w fun e w' => e = .returned (.int .i64 (meetF l a)) ∧ Ext w w' := by
  have hE0 := (Ext.refl w).alloc (.cells #[v] 31)
  have hE := Ext.refl (w.alloc (.cells #[v] 31))
  have hb := box_cell w v 31
  have hg : ∀ W, Ext (w.alloc (.cells #[v] 31)) W → Ints W v l := fun W hW => h.ext (hE0.trans hW)
  clear h
  cases hs : isSetB l a
  · have Hs := Lib.hid hs
    go_enter Try.func47, Try.ntmps47
    go_wp2_with (first | (go_at_call 134; refine (IsSet_any _ _ _ _ (hg _ hE)).mono ?_; rintro e w' ⟨rfl, hE'⟩; replace hE := hE.trans hE'; clear hE'))
    go_ret
    exact ⟨ret_int (meetF_no Hs.out).symm, hE0.trans hE⟩
  · obtain ⟨n, rfl, h1, h2, h3⟩ := isSetB_nat hs
    by_cases h0 : n = 0
    · subst h0
      go_enter Try.func47, Try.ntmps47
      go_wp2_with (first | (go_at_call 134; refine (IsSet_any _ _ _ _ (hg _ hE)).mono ?_; rintro e w' ⟨rfl, hE'⟩; replace hE := hE.trans hE'; clear hE'))
      go_ret
      exact ⟨ret_int (meetF_zero l).symm, hE0.trans hE⟩
    · have h0' : ((n : Int) == 0) = false := by simp; omega
      have hm := Lib.hid (meetF_yes hs (by omega))
      have hb1 := ord_bd h3
      have hb2 := cnt_pos (by omega) h2
      have hb3 := cnt_le n
      have ho := ordF_t h3
      have h3' := Lib.hid h3
      clear h3
      have hq1 : 0 ≤ (ord l : Int) + cnt n - 1 := by omega
      go_enter Try.func47, Try.ntmps47
      go_wp2_with (first | (go_at_call 134; refine (IsSet_any _ _ _ _ (hg _ hE)).mono ?_; rintro e w' ⟨rfl, hE'⟩; replace hE := hE.trans hE'; clear hE') | (go_at_call 114; refine (OrderOf_any _ _ _ (hg _ hE)).mono ?_; rintro e w' ⟨rfl, hE'⟩; replace hE := hE.trans hE'; clear hE') | (go_at_call 150; refine (bits_any _ (h2) _).mono ?_; rintro e w' ⟨rfl, rfl⟩))
      go_ret
      exact ⟨ret_int hm.out.symm, hE0.trans hE⟩
--%call sMeetingBound 48 ext sMeetingBound_any _ _ _ _ ({0})
theorem sMeetingBound_any (v : Value) (l : List Int) (a : Int) (w : World) (h : Ints w v l) :
    Calls Try.prog 48 #[.agg #[v], .int .i64 a] w fun e w' => e = .returned (.int .i64 (meetF l a)) ∧ Ext w w' := by
  have hE0 := (Ext.refl w).alloc (.cells #[v] 31)
  have hE := Ext.refl (w.alloc (.cells #[v] 31))
  have hb := box_cell w v 31
  have hg : ∀ W, Ext (w.alloc (.cells #[v] 31)) W → Ints W v l := fun W hW => h.ext (hE0.trans hW)
  clear h
  cases hs : isSetB l a
  · have Hs := Lib.hid hs
    go_enter Try.func48, Try.ntmps48
    go_wp2_with (first | (go_at_call 141; refine (sIsSet_any _ _ _ _ (hg _ hE)).mono ?_; rintro e w' ⟨rfl, hE'⟩; replace hE := hE.trans hE'; clear hE'))
    go_ret
    exact ⟨ret_int (meetF_no Hs.out).symm, hE0.trans hE⟩
  · obtain ⟨n, rfl, h1, h2, h3⟩ := isSetB_nat hs
    by_cases h0 : n = 0
    · subst h0
      go_enter Try.func48, Try.ntmps48
      go_wp2_with (first | (go_at_call 141; refine (sIsSet_any _ _ _ _ (hg _ hE)).mono ?_; rintro e w' ⟨rfl, hE'⟩; replace hE := hE.trans hE'; clear hE'))
      go_ret
      exact ⟨ret_int (meetF_zero l).symm, hE0.trans hE⟩
    · have h0' : ((n : Int) == 0) = false := by simp; omega
      have hm := Lib.hid (meetF_yes hs (by omega))
      have hb1 := ord_bd h3
      have hb2 := cnt_pos (by omega) h2
      have hb3 := cnt_le n
      have ho := trivial
      have h3' := Lib.hid h3
      clear h3
      have hq1 : 0 ≤ (ord l : Int) + cnt n - 1 := by omega
      go_enter Try.func48, Try.ntmps48
      go_wp2_with (first | (go_at_call 141; refine (sIsSet_any _ _ _ _ (hg _ hE)).mono ?_; rintro e w' ⟨rfl, hE'⟩; replace hE := hE.trans hE'; clear hE') | (go_at_call 106; refine (l2Order_any _ _ _ (hg _ hE) (h3')).mono ?_; rintro e w' ⟨rfl, hE'⟩; replace hE := hE.trans hE'; clear hE') | (go_at_call 151; refine (l3Bits_any _ (h2) _).mono ?_; rintro e w' ⟨rfl, rfl⟩))
      go_ret
      exact ⟨ret_int hm.out.symm, hE0.trans hE⟩
end Go.Zz

/- Kept: the laws' helpers, EqualKept. -/
namespace Go.Zz
open Go.RowKit Go.Proofs
set_option maxHeartbeats 400000

/-- a value of type Kept -/
def IsK (w : World) (c : Value) (l : List Int) (n : Int) (m : List Int) : Prop := ∃ v u, c = .agg #[v, .int .i64 n, u] ∧ Ints w v l ∧ Ints w u m
theorem IsK.ext {w w' : World} {c : Value} {l m : List Int} {n : Int} (h : IsK w c l n m) (hE : Ext w w') : IsK w' c l n m := by
  obtain ⟨v, u, rfl, h1, h2⟩ := h; exact ⟨v, u, rfl, h1.ext hE, h2.ext hE⟩
def szK (l m : List Int) (left : Int) : Int := if szL l left < 0 then -1 else szL m (szL l left)
theorem szL_cases (l : List Int) {left : Int} (h : 0 ≤ left) : szL l left = -1 ∨ (0 ≤ szL l left ∧ szL l left ≤ left) := by unfold szL; split <;> omega


def eqK (l m : List Int) (n : Int) (l' m' : List Int) (n' : Int) : Bool := decide (l = l' ∧ n = n' ∧ m = m')
--%call EqualKept 41 ext EqualKept_any _ _ _ _ _ _ _ _ _ ({0}) ({1})
theorem EqualKept_any (c d : Value) (l m : List Int) (n : Int) (l' m' : List Int) (n' : Int) (w : World) (h : IsK w c l n m) (k : IsK w d l' n' m') :
    Calls Try.prog 41 #[c, d] w fun e w' => e = .returned (.bool (eqK l m n l' m' n')) ∧ Ext w w' := by
  obtain ⟨v, u, rfl, hv, hu⟩ := h
  obtain ⟨v', u', rfl, hv', hu'⟩ := k
  obtain ⟨wb, hwb⟩ : ∃ wb, wb = (w.alloc (.cells #[v, .int .i64 n, u] 40)).alloc (.cells #[v', .int .i64 n', u'] 40) := ⟨_, rfl⟩
  have e0 : Ext w wb := by rw [hwb]; exact ((Ext.refl _).alloc _).alloc _
  have B0 : Blk wb w.heap.size 40 #[v, .int .i64 n, u] := by rw [hwb]; exact (Blk.new _ _ _).alloc _
  have B1 : Blk wb (w.heap.size + 1) 40 #[v', .int .i64 n', u'] := by rw [hwb]; simpa using Blk.new (w.alloc (.cells #[v, .int .i64 n, u] 40)) 40 #[v', .int .i64 n', u']
  have a1 := fun W (hW : Ext wb W) => (B0.ext hW).cell (i := 1) (v := .int .i64 n) rfl
  have a2 := fun W (hW : Ext wb W) => (B0.ext hW).cell (i := 2) (v := u) rfl
  have b1 := fun W (hW : Ext wb W) => (B1.ext hW).cell (i := 1) (v := .int .i64 n') rfl
  have b2 := fun W (hW : Ext wb W) => (B1.ext hW).cell (i := 2) (v := u') rfl
  have i1 := hv.ext e0
  have i2 := hv'.ext e0
  have i3 := hu.ext e0
  have i4 := hu'.ext e0
  have Hwb := Lib.hid hwb
  clear hwb hv hu hv' hu' B0 B1
  by_cases c1 : l = l'
  · have d1 : decide (l = l') = true := by simp [c1]
    have C1 := Lib.hid c1
    by_cases c2 : n = n'
    · have d2 : (n == n') = true := by simp [c2]
      have d2' : (n != n') = false := by simp [c2]
      have C2 := Lib.hid c2
      by_cases c3 : m = m'
      · have d3 : decide (m = m') = true := by simp [c3]
        have C3 := Lib.hid c3
        clear c1 c2 c3
        go_enter Try.func41, Try.ntmps41
        go_wp2_with fail
        rw [← Hwb.out]
        refine (EqualGroups_any _ _ _ _ _ i1 i2).mono ?_
        rintro e w1 ⟨rfl, hE⟩
        go_wp2_with fail
        refine (slicesEqual_any _ _ _ _ _ (i3.ext hE) (i4.ext hE)).mono ?_
        rintro e w2 ⟨rfl, hE2⟩
        go_wp2_with fail
        go_ret
        exact ⟨ret_bool (by unfold eqK; symm; rw [decide_eq_true_iff]; exact ⟨C1.out, C2.out, C3.out⟩), e0.trans (hE.trans hE2)⟩
      · have d3 : decide (m = m') = false := by simp [c3]
        have C3 := Lib.hid c3
        clear c1 c2 c3
        go_enter Try.func41, Try.ntmps41
        go_wp2_with fail
        rw [← Hwb.out]
        refine (EqualGroups_any _ _ _ _ _ i1 i2).mono ?_
        rintro e w1 ⟨rfl, hE⟩
        go_wp2_with fail
        refine (slicesEqual_any _ _ _ _ _ (i3.ext hE) (i4.ext hE)).mono ?_
        rintro e w2 ⟨rfl, hE2⟩
        go_wp2_with fail
        go_ret
        exact ⟨ret_bool (by unfold eqK; symm; rw [decide_eq_false_iff_not]; exact fun h => C3.out h.2.2), e0.trans (hE.trans hE2)⟩
    · have d2 : (n == n') = false := by simp [c2]
      have d2' : (n != n') = true := by simp [c2]
      have C2 := Lib.hid c2
      clear c1 c2
      go_enter Try.func41, Try.ntmps41
      go_wp2_with fail
      rw [← Hwb.out]
      refine (EqualGroups_any _ _ _ _ _ i1 i2).mono ?_
      rintro e w1 ⟨rfl, hE⟩
      go_wp2_with fail
      go_ret
      exact ⟨ret_bool (by unfold eqK; symm; rw [decide_eq_false_iff_not]; exact fun h => C2.out h.2.1), e0.trans hE⟩
  · have d1 : decide (l = l') = false := by simp [c1]
    have C1 := Lib.hid c1
    clear c1
    go_enter Try.func41, Try.ntmps41
    go_wp2_with fail
    rw [← Hwb.out]
    refine (EqualGroups_any _ _ _ _ _ i1 i2).mono ?_
    rintro e w1 ⟨rfl, hE⟩
    go_wp2_with fail
    go_ret
    exact ⟨ret_bool (by unfold eqK; symm; rw [decide_eq_false_iff_not]; exact fun h => C1.out h.1), e0.trans hE⟩
--%call sEqualKept 24 ext sEqualKept_any _ _ _ _ _ _ _ _ _ ({0}) ({1})
theorem sEqualKept_any (c d : Value) (l m : List Int) (n : Int) (l' m' : List Int) (n' : Int) (w : World) (h : IsK w c l n m) (k : IsK w d l' n' m') :
    Calls Try.prog 24 #[c, d] w fun e w' => e = .returned (.bool (eqK l m n l' m' n')) ∧ Ext w w' := by
  obtain ⟨v, u, rfl, hv, hu⟩ := h
  obtain ⟨v', u', rfl, hv', hu'⟩ := k
  obtain ⟨wb, hwb⟩ : ∃ wb, wb = (w.alloc (.cells #[v, .int .i64 n, u] 40)).alloc (.cells #[v', .int .i64 n', u'] 40) := ⟨_, rfl⟩
  have e0 : Ext w wb := by rw [hwb]; exact ((Ext.refl _).alloc _).alloc _
  have B0 : Blk wb w.heap.size 40 #[v, .int .i64 n, u] := by rw [hwb]; exact (Blk.new _ _ _).alloc _
  have B1 : Blk wb (w.heap.size + 1) 40 #[v', .int .i64 n', u'] := by rw [hwb]; simpa using Blk.new (w.alloc (.cells #[v, .int .i64 n, u] 40)) 40 #[v', .int .i64 n', u']
  have a1 := fun W (hW : Ext wb W) => (B0.ext hW).cell (i := 1) (v := .int .i64 n) rfl
  have a2 := fun W (hW : Ext wb W) => (B0.ext hW).cell (i := 2) (v := u) rfl
  have b1 := fun W (hW : Ext wb W) => (B1.ext hW).cell (i := 1) (v := .int .i64 n') rfl
  have b2 := fun W (hW : Ext wb W) => (B1.ext hW).cell (i := 2) (v := u') rfl
  have i1 := hv.ext e0
  have i2 := hv'.ext e0
  have i3 := hu.ext e0
  have i4 := hu'.ext e0
  have Hwb := Lib.hid hwb
  clear hwb hv hu hv' hu' B0 B1
  by_cases c1 : l = l'
  · have d1 : decide (l = l') = true := by simp [c1]
    have C1 := Lib.hid c1
    by_cases c2 : n = n'
    · have d2 : (n == n') = true := by simp [c2]
      have d2' : (n != n') = false := by simp [c2]
      have C2 := Lib.hid c2
      by_cases c3 : m = m'
      · have d3 : decide (m = m') = true := by simp [c3]
        have C3 := Lib.hid c3
        clear c1 c2 c3
        go_enter Try.func24, Try.ntmps24
        go_wp2_with fail
        rw [← Hwb.out]
        refine (sEqualGroups_any _ _ _ _ _ i1 i2).mono ?_
        rintro e w1 ⟨rfl, hE⟩
        go_wp2_with fail
        refine (l30Same_any _ _ _ _ _ (i3.ext hE) (i4.ext hE)).mono ?_
        rintro e w2 ⟨rfl, hE2⟩
        go_wp2_with fail
        go_ret
        exact ⟨ret_bool (by unfold eqK; symm; rw [decide_eq_true_iff]; exact ⟨C1.out, C2.out, C3.out⟩), e0.trans (hE.trans hE2)⟩
      · have d3 : decide (m = m') = false := by simp [c3]
        have C3 := Lib.hid c3
        clear c1 c2 c3
        go_enter Try.func24, Try.ntmps24
        go_wp2_with fail
        rw [← Hwb.out]
        refine (sEqualGroups_any _ _ _ _ _ i1 i2).mono ?_
        rintro e w1 ⟨rfl, hE⟩
        go_wp2_with fail
        refine (l30Same_any _ _ _ _ _ (i3.ext hE) (i4.ext hE)).mono ?_
        rintro e w2 ⟨rfl, hE2⟩
        go_wp2_with fail
        go_ret
        exact ⟨ret_bool (by unfold eqK; symm; rw [decide_eq_false_iff_not]; exact fun h => C3.out h.2.2), e0.trans (hE.trans hE2)⟩
    · have d2 : (n == n') = false := by simp [c2]
      have d2' : (n != n') = true := by simp [c2]
      have C2 := Lib.hid c2
      clear c1 c2
      go_enter Try.func24, Try.ntmps24
      go_wp2_with fail
      rw [← Hwb.out]
      refine (sEqualGroups_any _ _ _ _ _ i1 i2).mono ?_
      rintro e w1 ⟨rfl, hE⟩
      go_wp2_with fail
      go_ret
      exact ⟨ret_bool (by unfold eqK; symm; rw [decide_eq_false_iff_not]; exact fun h => C2.out h.2.1), e0.trans hE⟩
  · have d1 : decide (l = l') = false := by simp [c1]
    have C1 := Lib.hid c1
    clear c1
    go_enter Try.func24, Try.ntmps24
    go_wp2_with fail
    rw [← Hwb.out]
    refine (sEqualGroups_any _ _ _ _ _ i1 i2).mono ?_
    rintro e w1 ⟨rfl, hE⟩
    go_wp2_with fail
    go_ret
    exact ⟨ret_bool (by unfold eqK; symm; rw [decide_eq_false_iff_not]; exact fun h => C1.out h.1), e0.trans hE⟩
end Go.Zz
