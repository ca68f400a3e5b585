/- Generated subgroups, hulls, covers. -/
import Derived.Test.YtdlbbpeahicakaaGreatGr4
import Derived.Test.YtdlbbpeahicakaaGreatGr2
import Derived.Deep.RegionHeld3
import Derived.Deep.RegionWith
import Derived.Deep.RegionLaw
namespace Go.Zz
open Go.RowKit Go.Proofs
set_option maxHeartbeats 400000

--%call generated 174 ext generated_any _ _ _ _ ({0}) ({1}) ({2})
theorem generated_any (v : Value) (l : List Int) (a : Nat) (w : World) (h : Ints w v l) (Hgr : Hid (isGrp l = true)) (ha : a < 2 ^ 24) :
    Calls Tryz.prog 174 #[.agg #[v], .int .i64 a] w fun e w' => e = .returned (.int .i64 (genF l a)) ∧ Ext w w' := by
  obtain ⟨wb, hwb⟩ : ∃ wb, wb = w.alloc (.cells #[v] 27) := ⟨_, rfl⟩
  have hE0 := (Ext.refl w).alloc (.cells #[v] 27)
  have hb := box_cell w v 27
  rw [← hwb] at hE0 hb
  have hg : ∀ W, Ext wb W → Ints W v l := fun W hW => h.ext (hE0.trans hW)
  have hE := Ext.refl wb
  have Hsz : Hid (w.heap.size + 1 = wb.heap.size) := Lib.hid (by rw [hwb]; simp [go_sem])
  have Hwb := Lib.hid hwb
  clear hwb h
  have hgb := genF_bd Hgr.out a
  have ho := oppF_bd Hgr.out a
  have Hone := Lib.hid (genF_one l a)
  go_enter Tryz.func174, Tryz.ntmps174
  go_wp2_with fail
  rw [← Hwb.out]
  go_loopw [5] (fun hv wr => ∃ h : Nat, Sub 1 h ∧ Sub h (genF l a) ∧ hv = .int .i64 h ∧ Ext wb wr) (fun hv _ => 16777216 - (intOf hv).toNat)
  case atStart => exact ⟨1, Sub.refl 1, Hone.out, rfl, hE⟩
  case round =>
    clear hE
    obtain ⟨h, h1, h2, rfl, hE⟩ := hrel
    have hbx := fun U => hb _ (lat_ext wb U)
    have hh := sub_bd hgb h2
    have hs1 := sumF_bd Hgr.out h a
    have hs2 := sumF_bd Hgr.out h (oppF l a)
    have i1 := ior_nat (a := h) (b := sumF l h a) (by omega) (by omega)
    have ho1 : h ||| sumF l h a < 2 ^ 24 := Nat.or_lt_two_pow hh hs1
    have i2 := ior_nat (a := h ||| sumF l h a) (b := sumF l h (oppF l a)) (by omega) (by omega)
    have hN2 := grow2_sub Hgr.out h2
    have hN1 := grow2_le l a h
    have hend := grow2_end h1 h2
    have hNb := sub_bd hgb hN2
    rw [show h ||| sumF l h a ||| sumF l h (oppF l a) = grow2 l a h from rfl] at i2
    generalize grow2 l a h = N at i2 hN2 hN1 hend hNb
    have H1 := Lib.hid h1
    have H2 := Lib.hid h2
    have HN1 := Lib.hid hN1
    have HN2 := Lib.hid hN2
    have He := Lib.hid hend
    clear h1 h2 hN1 hN2 hend
    by_cases hq : N = h
    · have hq' : ((N : Int) == (h : Int)) = true := by simp [hq]
      have Hq := Lib.hid hq
      clear hq
      go_wp2_with fail
      (refine wp_region_lat (wb) (by kernel_rfl) (by kernel_rfl) hE ?_); (repeat (go_big_quiet_step (first | (go_at_call 79; exact Calls.lat (sum_any _ _ _ _ _ (hg _ (lat_ext wb _)) (Hgr) (hh) (ha))) | (go_at_call 79; exact Calls.lat (sum_any _ _ _ _ _ (hg _ (lat_ext wb _)) (Hgr) (hh) (ho))) | (go_at_call 173; exact Calls.lat (opposite_any _ _ _ _ (hg _ (lat_ext wb _)) (Hgr) (ha)))))); (refine wpQuiet_nil ?_); (intro W hE'); (replace hE := lat_of hE'); (clear hE')
      go_wp2_with fail
      go_ret
      exact ⟨ret_int (by rw [← He.out Hq.out]), hE0.trans hE⟩
    · have hq' : ((N : Int) == (h : Int)) = false := by simp; omega
      have Hlt := Lib.hid (sub_lt hNb HN1.out (fun e => hq e.symm)).1
      clear hq
      go_wp2_with fail
      (refine wp_region_lat (wb) (by kernel_rfl) (by kernel_rfl) hE ?_); (repeat (go_big_quiet_step (first | (go_at_call 79; exact Calls.lat (sum_any _ _ _ _ _ (hg _ (lat_ext wb _)) (Hgr) (hh) (ha))) | (go_at_call 79; exact Calls.lat (sum_any _ _ _ _ _ (hg _ (lat_ext wb _)) (Hgr) (hh) (ho))) | (go_at_call 173; exact Calls.lat (opposite_any _ _ _ _ (hg _ (lat_ext wb _)) (Hgr) (ha)))))); (refine wpQuiet_nil ?_); (intro W hE'); (replace hE := lat_of hE'); (clear hE')
      go_wp2_with fail
      go_roundw
      case rel => exact ⟨N, H1.out.trans HN1.out, HN2.out, rfl, hE⟩
      case measure => (simp [intOf]; have := Hlt.out; omega)
--%call l5Closure 190 ext l5Closure_any _ _ _ _ ({0}) ({1}) ({2})
theorem l5Closure_any (v : Value) (l : List Int) (a : Nat) (w : World) (h : Ints w v l) (Hgr : Hid (isGrp l = true)) (ha : a < 2 ^ 24) :
    Calls Tryz.prog 190 #[.agg #[v], .int .i64 a] w fun e w' => e = .returned (.int .i64 (genF l a)) ∧ Ext w w' := by
  obtain ⟨wb, hwb⟩ : ∃ wb, wb = w.alloc (.cells #[v] 27) := ⟨_, rfl⟩
  have hE0 := (Ext.refl w).alloc (.cells #[v] 27)
  have hb := box_cell w v 27
  rw [← hwb] at hE0 hb
  have hg : ∀ W, Ext wb W → Ints W v l := fun W hW => h.ext (hE0.trans hW)
  have hE := Ext.refl wb
  have Hsz : Hid (w.heap.size + 1 = wb.heap.size) := Lib.hid (by rw [hwb]; simp [go_sem])
  have Hwb := Lib.hid hwb
  clear hwb h
  have hbx := hb wb hE
  have hgb := genF_bd Hgr.out a
  have Hone := Lib.hid (genF_one l a)
  have h1b : (1 : Nat) < 2 ^ 24 := by omega
  have hs1 := sumF_bd Hgr.out 1 a
  have i1 := ior_nat (a := 1) (b := sumF l 1 a) (by omega) (by omega)
  go_enter Tryz.func190, Tryz.ntmps190
  go_wp2_with fail
  rw [← Hwb.out]
  go_wp2_with (first | (go_at_call 84; refine (l4Sum_any _ _ _ _ _ (hg _ hE) (Hgr) (h1b) (ha)).mono ?_; rintro e w' ⟨rfl, hE'⟩; replace hE := hE.trans hE'; clear hE'))
  clear hbx hs1
  go_loopw [5, 6] (fun hv nv wr => ∃ h : Nat, Sub 1 h ∧ Sub h (genF l a) ∧ hv = .int .i64 h ∧ nv = .int .i64 (grow l a h : Nat) ∧ Ext wb wr) (fun hv _ _ => 16777216 - (intOf hv).toNat)
  case atStart => exact ⟨1, Sub.refl 1, Hone.out, rfl, by unfold grow; rw [← i1]; rfl, hE⟩
  case round =>
    clear hE i1
    obtain ⟨h, h1, h2, rfl, rfl, hE⟩ := hrel
    have hbx := hb _ hE
    have hh := sub_bd hgb h2
    have hN2 := grow_sub Hgr.out h2
    have hN1 : Sub h (grow l a h) := Sub.or_left _ _
    have hend := grow_end h1 h2
    have hNb := sub_bd hgb hN2
    generalize grow l a h = N at hN2 hN1 hend hNb ⊢
    have hs1 := sumF_bd Hgr.out N a
    have i1 := ior_nat (a := N) (b := sumF l N a) (by omega) (by omega)
    have Hi : Hid (N ||| sumF l N a = grow l a N) := Lib.hid rfl
    have H1 := Lib.hid h1
    have H2 := Lib.hid h2
    have HN1 := Lib.hid hN1
    have HN2 := Lib.hid hN2
    have He := Lib.hid hend
    clear h1 h2 hN1 hN2 hend
    by_cases hq : N = h
    · have hq' : ((N : Int) != (h : Int)) = false := by simp [hq]
      have Hq := Lib.hid hq
      clear hq
      go_wp2_with fail
      go_ret
      exact ⟨ret_int (by rw [← He.out Hq.out]), hE0.trans hE⟩
    · have hq' : ((N : Int) != (h : Int)) = true := by simp; omega
      have Hlt := Lib.hid (sub_lt hNb HN1.out (fun e => hq e.symm)).1
      clear hq
      go_wp2_with (first | (go_at_call 84; refine (l4Sum_any _ _ _ _ _ (hg _ hE) (Hgr) (hNb) (ha)).mono ?_; rintro e w' ⟨rfl, hE'⟩; replace hE := hE.trans hE'; clear hE'))
      go_roundw
      case rel => exact ⟨N, H1.out.trans HN1.out, HN2.out, rfl, by rw [Hi.out], hE⟩
      case measure => (simp [intOf]; have := Hlt.out; omega)

end Go.Zz

/- Graphs: connection sets, distances, diameters. -/
namespace Go.Zz
open Go.RowKit Go.Proofs
set_option maxHeartbeats 400000

--%call in 163 same in_any _ _ ({0}) ({1}) _
theorem in_any (a x : Nat) (ha : a < 2 ^ 24) (hx : x ≤ 64) (w : World) :
    Calls Tryz.prog 163 #[.int .i64 a, .int .i64 x] w fun e w' => e = .returned (.bool (a.testBit x)) ∧ w = w' := by
  have hsh := ishr_nat (a := a) (n := x) hx
  have hbt := bit_test' (a := a) (n := x) (by omega) hx
  go_enter Tryz.func163, Tryz.ntmps163
  go_wp2_with fail
  go_ret
  exact ⟨rfl, rfl⟩
theorem in_val (a x : Nat) (ha : a < 2 ^ 24) (hx : x ≤ 64) (w : World) {b : Bool} (hb : a.testBit x = b) :
    Calls Tryz.prog 163 #[.int .i64 a, .int .i64 x] w fun e w' => e = .returned (.bool b) ∧ w = w' := by
  subst hb; exact in_any a x ha hx w
--%call hasV 148 ext has_val _ _ _ _ ({0}) ({1})
theorem has_any (v : Value) (l : List Int) (x : Int) (w : World) (h : Ints w v l) :
    Calls Tryz.prog 148 #[.agg #[v], .int .i64 x] w fun e w' => e = .returned (.bool (hasB l x)) ∧ Ext w w' := by
  obtain ⟨wb, hwb⟩ : ∃ wb, wb = w.alloc (.cells #[v] 27) := ⟨_, rfl⟩
  have hE0 := (Ext.refl w).alloc (.cells #[v] 27)
  have hb := box_cell w v 27
  rw [← hwb] at hE0 hb
  have hg : ∀ W, Ext wb W → Ints W v l := fun W hW => h.ext (hE0.trans hW)
  have hE := Ext.refl wb
  have Hsz : Hid (w.heap.size + 1 = wb.heap.size) := Lib.hid (by rw [hwb]; simp [go_sem])
  have Hwb := Lib.hid hwb
  clear hwb h
  have ho := ordF_bd l
  go_enter Tryz.func148, Tryz.ntmps148
  go_wp2_with fail
  rw [← Hwb.out]
  go_wp2_with (first | (go_at_call 157; refine (OrderOf_any _ _ _ (hg _ hE)).mono ?_; rintro e w' ⟨rfl, hE'⟩; replace hE := hE.trans hE'; clear hE') | (go_at_call 138; refine (within_any _ _ _ _).mono ?_; rintro e w' ⟨rfl, rfl⟩))
  go_ret
  exact ⟨rfl, hE0.trans hE⟩
theorem has_val (v : Value) (l : List Int) (x : Int) (w : World) (h : Ints w v l) {b : Bool} (hb : hasB l x = b) :
    Calls Tryz.prog 148 #[.agg #[v], .int .i64 x] w fun e w' => e = .returned (.bool b) ∧ Ext w w' := by
  subst hb; exact has_any v l x w h
--%call sOrderOf 39 ext sOrderOf_any _ _ _ ({0})
theorem sOrderOf_any (v : Value) (l : List Int) (w : World) (h : Ints w v l) :
    Calls Tryz.prog 39 #[.agg #[v]] w fun e w' => e = .returned (.int .i64 (ordF l)) ∧ Ext w w' := by
  obtain ⟨wb, hwb⟩ : ∃ wb, wb = w.alloc (.cells #[v] 27) := ⟨_, rfl⟩
  have hE0 := (Ext.refl w).alloc (.cells #[v] 27)
  have hb := box_cell w v 27
  rw [← hwb] at hE0 hb
  have hg : ∀ W, Ext wb W → Ints W v l := fun W hW => h.ext (hE0.trans hW)
  have hE := Ext.refl wb
  have Hsz : Hid (w.heap.size + 1 = wb.heap.size) := Lib.hid (by rw [hwb]; simp [go_sem])
  have Hwb := Lib.hid hwb
  clear hwb h
  cases hgr : isGrp l
  · have Ho := Lib.hid (ordF_f hgr)
    go_enter Tryz.func39, Tryz.ntmps39
    go_wp2_with fail
    rw [← Hwb.out]
    go_wp2_with (first | (go_at_call 100; refine (sIsGroup_any _ _ _ (hg _ hE)).mono ?_; rintro e w' ⟨rfl, hE'⟩; replace hE := hE.trans hE'; clear hE'))
    go_ret
    exact ⟨ret_int Ho.out.symm, hE0.trans hE⟩
  · have Ho := Lib.hid (ordF_t hgr)
    have Hgr := Lib.hid hgr
    go_enter Tryz.func39, Tryz.ntmps39
    go_wp2_with fail
    rw [← Hwb.out]
    go_wp2_with (first | (go_at_call 100; refine (sIsGroup_any _ _ _ (hg _ hE)).mono ?_; rintro e w' ⟨rfl, hE'⟩; replace hE := hE.trans hE'; clear hE') | (go_at_call 59; refine (l2Order_any _ _ _ (hg _ hE) (Hgr)).mono ?_; rintro e w' ⟨rfl, hE'⟩; replace hE := hE.trans hE'; clear hE'))
    go_ret
    exact ⟨ret_int Ho.out.symm, hE0.trans hE⟩
--%call l2IsV 99 ext l2Is_val _ _ _ _ ({0}) ({1})
theorem l2Is_any (v : Value) (l : List Int) (x : Int) (w : World) (h : Ints w v l) :
    Calls Tryz.prog 99 #[.agg #[v], .int .i64 x] w fun e w' => e = .returned (.bool (hasB l x)) ∧ Ext w w' := by
  obtain ⟨wb, hwb⟩ : ∃ wb, wb = w.alloc (.cells #[v] 27) := ⟨_, rfl⟩
  have hE0 := (Ext.refl w).alloc (.cells #[v] 27)
  have hb := box_cell w v 27
  rw [← hwb] at hE0 hb
  have hg : ∀ W, Ext wb W → Ints W v l := fun W hW => h.ext (hE0.trans hW)
  have hE := Ext.refl wb
  have Hsz : Hid (w.heap.size + 1 = wb.heap.size) := Lib.hid (by rw [hwb]; simp [go_sem])
  have Hwb := Lib.hid hwb
  clear hwb h
  have ho := ordF_bd l
  by_cases h0 : 0 ≤ x
  · by_cases h1 : x < ordF l
    · have Hh : Hid (hasB l x = true) := Lib.hid (inB_t.2 (by omega))
      go_enter Tryz.func99, Tryz.ntmps99
      go_wp2_with fail
      rw [← Hwb.out]
      go_wp2_with (first | (go_at_call 39; refine (sOrderOf_any _ _ _ (hg _ hE)).mono ?_; rintro e w' ⟨rfl, hE'⟩; replace hE := hE.trans hE'; clear hE'))
      go_ret
      exact ⟨ret_bool (by rw [Hh.out]), hE0.trans hE⟩
    · have Hh : Hid (hasB l x = false) := Lib.hid (inB_f.2 (by omega))
      have h1' : decide (x < ordF l) = false := by simp; omega
      go_enter Tryz.func99, Tryz.ntmps99
      go_wp2_with fail
      rw [← Hwb.out]
      go_wp2_with (first | (go_at_call 39; refine (sOrderOf_any _ _ _ (hg _ hE)).mono ?_; rintro e w' ⟨rfl, hE'⟩; replace hE := hE.trans hE'; clear hE'))
      go_ret
      exact ⟨ret_bool (by rw [Hh.out]), hE0.trans hE⟩
  · have Hh : Hid (hasB l x = false) := Lib.hid (inB_f.2 (by omega))
    have h0' : decide (0 ≤ x) = false := by simp; omega
    go_enter Tryz.func99, Tryz.ntmps99
    go_wp2_with fail
    rw [← Hwb.out]
    go_wp2_with (first | (go_at_call 39; refine (sOrderOf_any _ _ _ (hg _ hE)).mono ?_; rintro e w' ⟨rfl, hE'⟩; replace hE := hE.trans hE'; clear hE'))
    go_ret
    exact ⟨ret_bool (by rw [Hh.out]), hE0.trans hE⟩
theorem l2Is_val (v : Value) (l : List Int) (x : Int) (w : World) (h : Ints w v l) {b : Bool} (hb : hasB l x = b) :
    Calls Tryz.prog 99 #[.agg #[v], .int .i64 x] w fun e w' => e = .returned (.bool b) ∧ Ext w w' := by
  subst hb; exact l2Is_any v l x w h

theorem bit_zero_t {n : Nat} (h2 : n < 2 ^ 24) (h : n.testBit 0 = true) : iand (n : Int) 1 = 1 := by
  rw [Nat.testBit_zero] at h; rw [iand_one (by omega), of_decide_eq_true h]; rfl
theorem bit_zero_f {n : Nat} (h2 : n < 2 ^ 24) (h : n.testBit 0 = false) : iand (n : Int) 1 = 0 := by
  rw [Nat.testBit_zero] at h; rw [iand_one (by omega)]; have := of_decide_eq_false h; have h3 : n % 2 = 0 := by omega
  rw [h3]; rfl

end Go.Zz

/- Sequences of elements: sorted lists, parts, totals, shortest parts with the sum 0. No program is named here. -/
namespace Go.Zz

/-- whether a list ascends -/
def sortB (xs : List Int) : Bool := (List.range xs.length).all (fun j => decide (j = 0) || decide (nth xs (j - 1) ≤ nth xs j))
theorem sortB_iff (xs : List Int) : sortB xs = true ↔ ∀ j, 0 < j → j < xs.length → nth xs (j - 1) ≤ nth xs j := by
  unfold sortB
  simp only [List.all_eq_true, List.mem_range, Bool.or_eq_true, decide_eq_true_eq]
  constructor
  · intro h j h0 hj
    rcases h j hj with e | e
    · omega
    · exact e
  · intro h j hj
    by_cases e : j = 0
    · exact Or.inl e
    · exact Or.inr (h j (by omega) hj)
theorem sortB_no {xs : List Int} {j : Nat} (h0 : 0 < j) (hj : j < xs.length) (h : nth xs j < nth xs (j - 1)) : sortB xs = false := by
  rw [← Bool.not_eq_true, sortB_iff]
  intro hall; have := hall j h0 hj; omega
def seqB (l xs : List Int) : Bool := xs.all (hasB l) && isGrp l && decide (xs.length ≤ 12) && sortB xs
theorem seqB_has {l xs : List Int} {k : Nat} (hk : k < xs.length) (h : hasB l (nth xs k) = false) : seqB l xs = false := by
  have : xs.all (hasB l) = false := by
    rw [← Bool.not_eq_true, List.all_eq_true]
    intro hall; rw [hall _ (nth_mem hk)] at h; cases h
  unfold seqB; rw [this]; rfl
theorem seqB_down {l xs : List Int} {k : Nat} (h0 : 0 < k) (hk : k < xs.length) (h : nth xs k < nth xs (k - 1)) : seqB l xs = false := by
  unfold seqB; rw [sortB_no h0 hk h]; simp
theorem seqB_end {l xs : List Int} (h : ∀ j, j < xs.length → hasB l (nth xs j) = true) : seqB l xs = (isGrp l && decide (xs.length ≤ 12) && sortB xs) := by
  have : xs.all (hasB l) = true := by
    rw [List.all_eq_true]
    intro x hx; obtain ⟨k, hk, rfl⟩ := mem_nth hx; exact h k hk
  unfold seqB; rw [this]; simp
theorem nat_list : ∀ (xs : List Int), (∀ x ∈ xs, ∃ n : Nat, x = n) → ∃ X : List Nat, xs = castL X
  | [], _ => ⟨[], rfl⟩
  | x :: xs, h => by
    obtain ⟨n, hn⟩ := h x (by simp)
    obtain ⟨X, hX⟩ := nat_list xs (fun y hy => h y (by simp [hy]))
    exact ⟨n :: X, by rw [hn, hX]; simp [castL]⟩
theorem seqB_nat {l xs : List Int} (h : seqB l xs = true) : ∃ X : List Nat, xs = castL X ∧ (∀ x ∈ X, x < ord l) ∧ X.length ≤ 12 ∧ isGrp l = true ∧ ∀ x ∈ X, x < 24 := by
  simp only [seqB, Bool.and_eq_true, List.all_eq_true, decide_eq_true_eq] at h
  obtain ⟨⟨⟨h1, h2⟩, h3⟩, _⟩ := h
  obtain ⟨X, rfl⟩ := nat_list xs (fun x hx => by obtain ⟨n, hn, _⟩ := hasB_nat (h1 x hx); exact ⟨n, hn⟩)
  have hx : ∀ x ∈ X, x < ord l := fun x hx => by
    obtain ⟨n, hn, hlt, _⟩ := hasB_nat (h1 (x : Int) (by simp [castL]; exact ⟨x, hx, rfl⟩))
    have : x = n := by omega
    omega
  exact ⟨X, rfl, hx, by simpa [castL_len] using h3, h2, fun x hx' => Nat.lt_of_lt_of_le (hx x hx') (ord_bd h2).2⟩
/-- the terms of a mask -/
def partTo (xs : List Int) (m k : Nat) : List Int := ((List.range k).filter (fun i => m.testBit i)).map (nth xs)
def partI (xs : List Int) (m : Nat) : List Int := partTo xs m xs.length
theorem partTo_yes {xs : List Int} {m k : Nat} (h : m.testBit k = true) : partTo xs m (k + 1) = partTo xs m k ++ [nth xs k] := by
  unfold partTo; rw [List.range_succ, List.filter_append, List.map_append]; simp [h]
theorem partTo_no {xs : List Int} {m k : Nat} (h : m.testBit k = false) : partTo xs m (k + 1) = partTo xs m k := by
  unfold partTo; rw [List.range_succ, List.filter_append, List.map_append]; simp [h]
theorem partTo_len (xs : List Int) (m k : Nat) : (partTo xs m k).length ≤ k := by
  unfold partTo; rw [List.length_map]; exact Nat.le_trans (List.length_filter_le _ _) (by simp)
def partL (X : List Nat) (m : Nat) : List Nat := ((List.range X.length).filter (fun i => m.testBit i)).map (nthN X)
theorem partI_cast (X : List Nat) (m : Nat) : partI (castL X) m = castL (partL X m) := by
  unfold partI partTo partL castL
  rw [List.length_map, List.map_map]
  apply List.map_congr_left
  intro i _
  exact nth_castL X i
theorem partL_mem {X : List Nat} {m x : Nat} (h : x ∈ partL X m) : x ∈ X := by
  unfold partL at h
  rw [List.mem_map] at h
  obtain ⟨i, hi, rfl⟩ := h
  exact nthN_mem (List.mem_range.1 (List.mem_filter.1 hi).1)
theorem partL_le (X : List Nat) (m : Nat) : (partL X m).length ≤ X.length := by
  unfold partL; rw [List.length_map]; exact Nat.le_trans (List.length_filter_le _ _) (by simp)
theorem partL_len {X : List Nat} {m : Nat} (hX : X.length ≤ 24) (hm : m < 2 ^ X.length) : (partL X m).length = cnt m := by
  unfold partL; rw [List.length_map]
  have := elemsTo_all hX hm
  unfold elemsTo at this
  rw [this]; rfl
/-- the sum of all terms -/
def tot (l : List Int) (X : List Nat) : Nat := X.foldl (fun s x => addF l s x) 0
theorem tot_snoc (l : List Int) (X : List Nat) (x : Nat) : tot l (X ++ [x]) = addF l (tot l X) x := by unfold tot; rw [List.foldl_append]; rfl
theorem tot_bd {l : List Int} (h : isGrp l = true) (X : List Nat) : tot l X < 24 := by
  rcases List.eq_nil_or_concat X with rfl | ⟨Y, y, rfl⟩
  · show (0:Nat) < 24; omega
  · rw [List.concat_eq_append, tot_snoc]; exact addF_bd h _ _
theorem take_snocN (L : List Nat) (k : Nat) (h : k < L.length) : L.take (k + 1) = L.take k ++ [nthN L k] := take_nthN L k h
/-- the first mask of so many terms with the sum 0 -/
def zol (l : List Int) (X : List Nat) (k : Nat) : Option Nat := (List.range (pw X.length)).find? (fun m => decide (cnt m = k) && decide (tot l (partL X m) = 0))
def zolL (l : List Int) (X : List Nat) (k : Nat) : List Nat := match zol l X k with | some m => partL X m | none => []
def zolB (l : List Int) (X : List Nat) (k : Nat) : Bool := (zol l X k).isSome
theorem zol_at {l : List Int} {X : List Nat} {k m : Nat} (hm : m < pw X.length) (h : ∀ j, j < m → ¬ (cnt j = k ∧ tot l (partL X j) = 0)) (e1 : cnt m = k) (e2 : tot l (partL X m) = 0) : zolL l X k = partL X m ∧ zolB l X k = true ∧ zol l X k = some m := by
  have : zol l X k = some m := find_at hm (fun j hj => by
    have := h j hj
    by_cases a : cnt j = k
    · have b : ¬ tot l (partL X j) = 0 := fun b => this ⟨a, b⟩
      simp [b]
    · simp [a]) (by simp [e1, e2])
  unfold zolL zolB; rw [this]; exact ⟨rfl, rfl, rfl⟩
theorem zol_none {l : List Int} {X : List Nat} {k : Nat} (h : ∀ j, j < pw X.length → ¬ (cnt j = k ∧ tot l (partL X j) = 0)) : zolL l X k = [] ∧ zolB l X k = false ∧ zol l X k = none := by
  have : zol l X k = none := find_none (fun j hj => by
    have := h j hj
    by_cases a : cnt j = k
    · have b : ¬ tot l (partL X j) = 0 := fun b => this ⟨a, b⟩
      simp [b]
    · simp [a])
  unfold zolL zolB; rw [this]; exact ⟨rfl, rfl, rfl⟩
/-- the best mask below c, 0 if there is none -/
def szTo (l : List Int) (X : List Nat) : Nat → Nat
  | 0 => 0
  | c + 1 => if c ≠ 0 ∧ tot l (partL X c) = 0 ∧ (szTo l X c = 0 ∨ cnt c < cnt (szTo l X c)) then c else szTo l X c
theorem szTo_yes {l : List Int} {X : List Nat} {c : Nat} (h0 : c ≠ 0) (h1 : tot l (partL X c) = 0) (h2 : szTo l X c = 0 ∨ cnt c < cnt (szTo l X c)) : szTo l X (c + 1) = c := by rw [szTo, if_pos ⟨h0, h1, h2⟩]
theorem szTo_no {l : List Int} {X : List Nat} {c : Nat} (h : ¬ (tot l (partL X c) = 0 ∧ (szTo l X c = 0 ∨ cnt c < cnt (szTo l X c)))) : szTo l X (c + 1) = szTo l X c := by rw [szTo, if_neg (fun e => h e.2)]
theorem szTo_one (l : List Int) (X : List Nat) : szTo l X 1 = 0 := by rw [szTo, if_neg (fun e => e.1 rfl)]; rfl
theorem szTo_spec (l : List Int) (X : List Nat) : ∀ c, (szTo l X c = 0 ∧ ∀ m, m < c → m ≠ 0 → tot l (partL X m) ≠ 0) ∨
    (szTo l X c ≠ 0 ∧ szTo l X c < c ∧ tot l (partL X (szTo l X c)) = 0 ∧ ∀ m, m < c → m ≠ 0 → tot l (partL X m) = 0 → cnt (szTo l X c) < cnt m ∨ (cnt (szTo l X c) = cnt m ∧ szTo l X c ≤ m))
  | 0 => Or.inl ⟨rfl, fun m hm => by omega⟩
  | c + 1 => by
    have ih := szTo_spec l X c
    by_cases h : c ≠ 0 ∧ tot l (partL X c) = 0 ∧ (szTo l X c = 0 ∨ cnt c < cnt (szTo l X c))
    · rw [szTo_yes h.1 h.2.1 h.2.2]
      refine Or.inr ⟨h.1, by omega, h.2.1, fun m hm h0 ht => ?_⟩
      by_cases e : m = c
      · subst e; exact Or.inr ⟨rfl, Nat.le_refl _⟩
      · rcases ih with ⟨i1, i2⟩ | ⟨i1, i2, i3, i4⟩
        · exact absurd ht (i2 m (by omega) h0)
        · rcases h.2.2 with e2 | e2
          · exact absurd e2 i1
          · rcases i4 m (by omega) h0 ht with q | q <;> omega
    · have e : szTo l X (c + 1) = szTo l X c := by rw [szTo, if_neg h]
      rw [e]
      rcases ih with ⟨i1, i2⟩ | ⟨i1, i2, i3, i4⟩
      · refine Or.inl ⟨i1, fun m hm h0 => ?_⟩
        by_cases e : m = c
        · subst e; exact fun ht => h ⟨h0, ht, Or.inl i1⟩
        · exact i2 m (by omega) h0
      · refine Or.inr ⟨i1, by omega, i3, fun m hm h0 ht => ?_⟩
        by_cases e : m = c
        · subst e
          have : ¬ cnt m < cnt (szTo l X m) := fun q => h ⟨h0, ht, Or.inr q⟩
          omega
        · exact i4 m (by omega) h0 ht
theorem szTo_lt (l : List Int) (X : List Nat) (c : Nat) : szTo l X c ≤ c := by
  rcases szTo_spec l X c with ⟨h, _⟩ | ⟨_, h, _⟩ <;> omega
def szN (l : List Int) (X : List Nat) : Nat := szTo l X (pw X.length)
def szL' (X : List Nat) (b : Nat) : List Nat := if b = 0 then [] else partL X b
def szR (l : List Int) (X : List Nat) : List Nat := szL' X (szN l X)
def szB (l : List Int) (X : List Nat) : Bool := decide (szN l X ≠ 0)
theorem szL'_len {X : List Nat} {b : Nat} (hX : X.length ≤ 12) (hb : b < 2 ^ X.length) : (szL' X b).length = cnt b := by
  unfold szL'
  by_cases h : b = 0
  · rw [if_pos h, h, cnt_zero]; rfl
  · rw [if_neg h, partL_len (by omega) hb]
theorem cnt_mask {n m : Nat} (hn : n ≤ 24) (hm : m < 2 ^ n) : cnt m ≤ n := by
  have := elemsTo_all hn hm
  unfold cnt; rw [← this]; exact elemsTo_len m n
/-- the first length at which a part is found tells the best one -/
theorem sz_at {l : List Int} {X : List Nat} (hX : X.length ≤ 12) {k : Nat} (hk : 1 ≤ k) (h : ∀ j, 1 ≤ j → j < k → zolB l X j = false) (hz : zolB l X k = true) : szR l X = zolL l X k ∧ szB l X = true := by
  unfold zolB at hz
  cases hq : zol l X k with
  | none => rw [hq] at hz; cases hz
  | some m =>
    have hm := List.find?_some hq
    have hmr := List.mem_of_find?_eq_some hq
    rw [List.mem_range] at hmr
    simp only [Bool.and_eq_true, decide_eq_true_eq] at hm
    have h0 : m ≠ 0 := fun e => by rw [e, cnt_zero] at hm; omega
    have key : szN l X = m := by
      rcases szTo_spec l X (pw X.length) with ⟨_, i2⟩ | ⟨i1, i2, i3, i4⟩
      · exact absurd hm.2 (i2 m hmr h0)
      · have hb : szN l X = szTo l X (pw X.length) := rfl
        rw [← hb] at i1 i2 i3 i4
        have c1 := cnt_pos (a := szN l X) (by omega) (by have := cnt_mask (n := X.length) (m := szN l X) (by omega) i2; exact Nat.lt_of_lt_of_le i2 (Nat.pow_le_pow_right (by omega) (by omega)))
        rcases i4 m hmr h0 hm.2 with q | q
        · have hj := h (cnt (szN l X)) c1 (by omega)
          unfold zolB zol at hj
          have : ((List.range (pw X.length)).find? (fun m => decide (cnt m = cnt (szN l X)) && decide (tot l (partL X m) = 0))).isSome = true := by
            rw [List.find?_isSome]
            exact ⟨szN l X, List.mem_range.2 i2, by simp [i3]⟩
          rw [this] at hj; cases hj
        · have hle : m ≤ szN l X := by
            rcases Nat.lt_or_ge (szN l X) m with hlt | hge
            · exfalso
              unfold zol at hq
              rw [List.find?_range_eq_some] at hq
              have := hq.2.2 (szN l X) hlt
              simp [i3] at this
              omega
            · exact hge
          omega
    unfold szR szL' szB zolL
    rw [key, if_neg h0, hq]
    exact ⟨rfl, decide_eq_true h0⟩
theorem sz_none {l : List Int} {X : List Nat} (hX : X.length ≤ 12) (h : ∀ j, 1 ≤ j → j ≤ X.length → zolB l X j = false) : szR l X = [] ∧ szB l X = false := by
  have key : szN l X = 0 := by
    rcases szTo_spec l X (pw X.length) with ⟨i1, _⟩ | ⟨i1, i2, i3, i4⟩
    · exact i1
    · exfalso
      have hb : szN l X = szTo l X (pw X.length) := rfl
      rw [← hb] at i1 i2 i3
      have c2 := cnt_mask (n := X.length) (m := szN l X) (by omega) i2
      have c1 := cnt_pos (a := szN l X) (by omega) (Nat.lt_of_lt_of_le i2 (Nat.pow_le_pow_right (by omega) (by omega)))
      have hj := h (cnt (szN l X)) c1 c2
      unfold zolB zol at hj
      have : ((List.range (pw X.length)).find? (fun m => decide (cnt m = cnt (szN l X)) && decide (tot l (partL X m) = 0))).isSome = true := by
        rw [List.find?_isSome]
        exact ⟨szN l X, List.mem_range.2 i2, by simp [i3]⟩
      rw [this] at hj; cases hj
  unfold szR szL' szB
  rw [key]; exact ⟨rfl, rfl⟩
end Go.Zz

/- Results that lie in memory: the block of a result, and what is stored there. -/
namespace Go.Zz
open Go.RowKit Go.Proofs
set_option maxHeartbeats 400000

/-- what a cell holds, closed to simp -/
def At (W : World) (a : Addr) : Value := (W.cell? a).getD (.int .i64 0)
/-- the first n cells of a block are there and may be written -/
def Res (W : World) (r n : Nat) : Prop := ∀ i, i < n → W.cell? ⟨r, i, none⟩ = some (At W ⟨r, i, none⟩) ∧ W.frozen? ⟨r, i, none⟩ = false
theorem At_of {W : World} {a : Addr} {v : Value} (h : W.cell? a = some v) : At W a = v := by unfold At; rw [h]; rfl
theorem Res.ext {W W' : World} {r n : Nat} (h : Res W r n) (hE : Ext W W') : Res W' r n := fun i hi => by
  obtain ⟨h1, h2⟩ := h i hi
  have h3 := hE.cell h1
  exact ⟨by rw [At_of h3]; exact h3, by rw [Below.frozen hE (World.block_lt_of_cell? W _ h1), h2]⟩
theorem Res.drew {W : World} {r n : Nat} (h : Res W r n) : Res W.drew r n := h.ext ((Ext.refl W).drew)
theorem Blk.res {W : World} {r : Nat} {T : TypeId} {cs : Array Value} (h : Blk W r T cs) {n : Nat} (hn : n ≤ cs.size) : Res W r n := fun i hi => by
  have h1 : W.cell? ⟨r, i, none⟩ = some (cs[i]'(by omega)) := h.cell (by simp)
  exact ⟨by rw [At_of h1]; exact h1, h.free i⟩
theorem Res.setCell {W : World} {r n : Nat} (h : Res W r n) (p : Addr) (x : Value) : Res (W.setCell p x) r n := fun i hi => by
  obtain ⟨h1, h2⟩ := h i hi
  obtain ⟨v', hv⟩ := cell?_setCell_some (w := W) (p := p) (x := x) h1
  exact ⟨by rw [At_of hv]; exact hv, by rw [World.frozen?_setCell, h2]⟩
theorem Blk.new' {w : World} {T : TypeId} {cs : Array Value} {b : Nat} (h : w.heap.size = b) : Blk (w.alloc (.cells cs T)) b T cs := by subst h; exact Blk.new _ _ _
theorem Blk.free_of {W : World} {r : Nat} {T : TypeId} {cs : Array Value} (h : Blk W r T cs) : ∀ i, W.frozen? ⟨r, i, none⟩ = false := h.free
theorem Calls.sh {P : Program} {f : FuncId} {args : Array Value} {TI : TypeId} {w : World} {L : List Int} (h : Calls P f args w fun e w' => ∃ v, e = .returned v ∧ Own TI w w' v L ∧ Ext w w') :
    Calls P f args w fun e w' => ∃ ao c, e = .returned (.slice ao L.length c) ∧ Own TI w w' (.slice ao L.length c) L ∧ Ext w w' :=
  h.mono fun e w' ⟨v, he, hO, hE⟩ => by
    obtain ⟨ao, c, rfl, -⟩ := hO.shape
    exact ⟨ao, c, he, hO, hE⟩
/-- append([]int{}, xs...) as a step of a region that draws its order -/
theorem step_copy {P : Program} {ops : Array Oper} {o : Oper} {a : Act} {w : World} {K : Act → World → Prop} {Q : Exit → Act → World → Prop} {E : Prop} {T TI : TypeId} (hT : IntSl P T TI)
    (hg : o.guard = none) (s x : Operand) (hop : o.op = Op.call { callee := Callee.builtin Builtin.append, args := #[s, x], argTypes := #[T, T] })
    (g : Nat) (u : Value) (m : List Int) (hs : a.eval s = .slice (some ⟨g, 0, none⟩) 0 0) (hx : a.eval x = u) (hB : Blk w g TI #[]) (hI : Ints w u m) (w0 : World) (h0 : w0.heap.size ≤ g) (hE : Ext w0 w)
    (hK : ∀ ao c w', Own TI w0 w' (.slice ao m.length c) m → Ext w w' → K (a.put o.dst (.slice ao m.length c)) w') :
    if Region.wanted o (yielded ops a.tmps) = true then Oper.wp P o a w K Q else E := by
  have hw : Region.wanted o (yielded ops a.tmps) = true := by simp [Region.wanted, hg]
  rw [if_pos hw]
  obtain ⟨i, hi, hz, hs1, hby⟩ := hT.info
  have hown : w.ownsRow w0.heap.size TI 1 (.slice (some ⟨g, 0, none⟩) 0 0) 0 [] := by
    have hB' : w.heap[g]? = some (.cells #[] TI (0, 0)) := hB
    exact ⟨by simp, Or.inr ⟨g, 0, #[], rfl, h0, hB', Nat.le_refl _, Nat.zero_le _, by simp, by simp⟩⟩
  obtain ⟨ao, c, rfl, hmc, hml, hc⟩ := hI
  have key : m = [] → Oper.wp P o a w K Q := by
    intro hm
    subst hm
    have hrun2 : (Builtin.append_ #[T, T] o.type #[.slice (some ⟨g, 0, none⟩) 0 0, .slice ao 0 c]).run P w = .ok (.slice (some ⟨g, 0, none⟩) 0 0) w := by
      have hrun := run_append_owned_none (P := P) w w0.heap.size T o.type TI i 1 hT.und hi (.slice (some ⟨g, 0, none⟩) 0 0) 0 [] hown
      rw [← hrun]; cases ao <;> simp [Builtin.append_, run_underlying hT.und, sizeOf, typeInfo, hi, Builtin.lenOf, Builtin.firstCells, go_sem]
    unfold Oper.wp
    simp [execOp, hop, resolve, invoke, builtin, hs, hx, hrun2, Result.andThen]
    exact hK (some ⟨g, 0, none⟩) 0 _ ⟨by simpa using hown, by simp⟩ (Ext.refl w)
  by_cases hm : m = []
  · exact key hm
  · have hpos : 0 < m.length := Nat.pos_of_ne_zero (fun e => hm (List.eq_nil_of_length_eq_zero e))
    cases ao with
    | none => obtain ⟨_, h, _⟩ := hc 0 hpos; cases h
    | some ad =>
      obtain ⟨v', w', hrun, r1, r2⟩ := run_append_arg_grows (P := P) (w := w) T o.type TI i (.int .i64 0) 1 8 hT.und hi hz hs1 hby rfl (by omega) ⟨g, 0, none⟩ 0 0 [] (by simp) (by simp) ad m.length c (m.map (Value.int .i64)) (by simp) (by
        intro j u hu
        have hj : j < m.length := by have := (List.getElem?_eq_some_iff.1 hu).1; simpa using this
        obtain ⟨a', ha', hc'⟩ := hc j hj
        cases ha'
        rw [hc', ← hu, nth_get _ _ hj]; simp [hj]) (by omega) (by unfold maxLen; omega) (by omega)
      unfold Oper.wp
      simp [execOp, hop, resolve, invoke, builtin, hs, hx, hrun, Result.andThen]
      have hO' : Own TI w w' v' m := ⟨by simpa using r1, hml⟩
      obtain ⟨ao', c', rfl, -⟩ := hO'.shape
      exact hK ao' c' w' (hO'.mono hE) ((Ext.refl w).grown r2 (by simp))
end Go.Zz

/- append to a slice that is empty without room, or owned behind a world. -/
namespace Go.Zz
open Go.RowKit Go.Proofs
set_option maxHeartbeats 400000

/-- v is the empty slice []int{} that reads as [], or it is owned in a block from w0 on -/
def OwnE (TI : TypeId) (wb w0 w : World) (v : Value) (l : List Int) : Prop :=
  (∃ g, wb.heap.size ≤ g ∧ v = .slice (some ⟨g, 0, none⟩) 0 0 ∧ l = [] ∧ Blk w g TI #[]) ∨ Own TI w0 w v l
theorem OwnE.ext {TI : TypeId} {wb w0 w w' : World} {v : Value} {l : List Int} (h : OwnE TI wb w0 w v l) (hE : Ext w w') : OwnE TI wb w0 w' v l := by
  rcases h with ⟨g, h0, h1, h2, h3⟩ | h
  · exact Or.inl ⟨g, h0, h1, h2, h3.ext hE⟩
  · exact Or.inr (h.ext hE)
theorem OwnE.own {TI : TypeId} {wb w0 w : World} {v : Value} {l : List Int} (h : OwnE TI wb w0 w v l) (hE : Ext wb w0) : Own TI wb w v l := by
  rcases h with ⟨g, h0, rfl, rfl, h3⟩ | h
  · exact ⟨⟨by simp, Or.inr ⟨g, 0, #[], rfl, h0, h3, Nat.le_refl _, Nat.zero_le _, by simp, by simp⟩⟩, by simp⟩
  · exact h.mono hE
theorem OwnE.start {TI : TypeId} {wb w1 w : World} (w0 : World) (hB : Blk w1 wb.heap.size TI #[]) (hE : Ext w1 w) : OwnE TI wb w0 w (.slice (some ⟨wb.heap.size, 0, none⟩) 0 0) [] := Or.inl ⟨_, Nat.le_refl _, rfl, rfl, hB.ext hE⟩
section
variable {P : Program} {ops : Array Oper} {rest : List Oper} {o : Oper} {a : Act} {Q : Exit → Act → World → Prop} {T TI : TypeId}
theorem wp_append1e (hT : IntSl P T TI) (hg : o.guard = none) (s x : Operand) (hop : o.op = Op.call { callee := Callee.builtin Builtin.append, args := #[s, x], argTypes := #[T, T] })
    (wb w0 W : World) (v : Value) (l : List Int) (y : Int) (hO : OwnE TI wb w0 W v l) (hE : Ext w0 W) (hn : l.length < 17592186044416) (hs : a.eval s = v) (hx : a.eval x = .slice (some ⟨W.heap.size, 0, none⟩) 1 1)
    (hK : ∀ v' w', Own TI w0 w' v' (l ++ [y]) → Ext w0 w' → wpList P ops Q rest (a.put o.dst v') w') :
    wpList P ops Q (o :: rest) a (W.alloc (.cells #[.int .i64 y] TI)) := by
  rcases hO with ⟨g, -, rfl, rfl, hB⟩ | hO
  · obtain ⟨i, hi, hz, hs1, hby⟩ := hT.info
    have hE1 := hE.alloc (.cells #[.int .i64 y] TI)
    obtain ⟨v', w', hrun, r1, r2⟩ := run_append_arg_grows (P := P) (w := W.alloc (.cells #[.int .i64 y] TI)) T o.type TI i (.int .i64 0) 1 8 hT.und hi hz hs1 hby rfl (by omega) ⟨g, 0, none⟩ 0 0 [] (by simp) (by simp) ⟨W.heap.size, 0, none⟩ 1 1 [.int .i64 y] rfl (cell_one_new _ _ _) (by omega) (by unfold maxLen; omega) (by omega)
    refine wpList_plain hg fun K hK' => ?_
    unfold Oper.wp
    simp [execOp, hop, resolve, invoke, builtin, hs, hx, hrun, Result.andThen]
    have hO' : Own TI (W.alloc (.cells #[.int .i64 y] TI)) w' v' [y] := ⟨by simpa using r1, by simp⟩
    exact hK' _ _ (hK _ _ (by simpa using hO'.mono hE1) (hE1.grown r2 (by simp)))
  · exact wp_append1 hT hg s x hop w0 W v l y hO hE hn hs hx hK
end
end Go.Zz

/- Sequences of elements: IsSequence, parts, totals, the shortest part with the sum 0. -/
namespace Go.Zz
open Go.RowKit Go.Proofs
set_option maxHeartbeats 1000000
set_option maxRecDepth 20000

theorem Calls.ext_of_same {P : Program} {f : FuncId} {args : Array Value} {w : World} {v : Value} (h : Calls P f args w fun e w' => e = .returned v ∧ w = w') :
    Calls P f args w fun e w' => e = .returned v ∧ Ext w w' := h.mono fun _ _ ⟨he, hw⟩ => ⟨he, hw ▸ Ext.refl _⟩
theorem cmpLess_any (a b : Int) (w : World) :
    Calls Tryz.prog 193 #[.int .i64 a, .int .i64 b] w fun e w' => e = .returned (.bool (decide (a < b))) ∧ w = w' := by
  have hn : ∀ (x : Int) (W : World), Calls Tryz.prog 218 #[.int .i64 x] W fun e w' => e = .returned (.bool false) ∧ W = w' := fun x W => by
    go_enter Tryz.func218, Tryz.ntmps218
    go_wp2_with fail
    go_ret
    exact ⟨by simp, rfl⟩
  have hd : ∃ d, d = decide (a < b) := ⟨_, rfl⟩
  go_enter Tryz.func193, Tryz.ntmps193
  go_wp2_with (first | (go_at_call 218; refine (hn _ _).mono ?_; rintro e w' ⟨rfl, rfl⟩))
  go_ret
  exact ⟨rfl, rfl⟩
theorem cmpLess_val (a b : Int) (w : World) {c : Bool} (hc : decide (a < b) = c) :
    Calls Tryz.prog 193 #[.int .i64 a, .int .i64 b] w fun e w' => e = .returned (.bool c) ∧ w = w' := by subst hc; exact cmpLess_any a b w
theorem slicesIsSorted_any (u : Value) (xs : List Int) (w : World) (h : Ints w u xs) :
    Calls Tryz.prog 149 #[u] w fun e w' => e = .returned (.bool (sortB xs)) ∧ Ext w w' := by
  obtain ⟨ao, c, adr, rfl, hlen, hadr, hcell⟩ := h.op
  have hix := ints_index (c := c) elI szI hadr
  have Hit := Lib.hid (sortB_iff xs)
  have Hno : Hid (∀ j, 0 < j → j < xs.length → nth xs j < nth xs (j - 1) → sortB xs = false) := Lib.hid fun j a b c => sortB_no a b c
  have hE := Ext.refl w
  clear h hadr
  go_enter Tryz.func149, Tryz.ntmps149
  go_wp2_with fail
  go_loopw [3] (fun i wr => ∃ z : Int, z < (xs.length : Int) ∧ -1 ≤ z ∧ i = .int .i64 z ∧ (∀ j : Nat, z < (j : Int) → j < xs.length → nth xs (j - 1) ≤ nth xs j) ∧ Ext w wr) (fun i _ => (intOf i).toNat)
  case atStart => exact ⟨_, by omega, by omega, rfl, fun j h1 h2 => by omega, hE⟩
  case round =>
    clear hE
    obtain ⟨z, hz1, hz2, rfl, hall, hE⟩ := hrel
    have Hall := Lib.hid hall
    clear hall
    by_cases hp : 0 < z
    · obtain ⟨k, rfl⟩ := Int.eq_ofNat_of_zero_le (show 0 ≤ z by omega)
      have hk : k < xs.length := by omega
      have hk0 : 0 < k := by omega
      obtain ⟨q, hq⟩ : ∃ q, q + 1 = k := ⟨k - 1, by omega⟩
      have hw : IntKind.i64.wrap ((k : Int) - 1) = (q : Int) := by rw [← hq]; exact (IntWalk.i64_in _ (by omega)).trans (by omega)
      have hql : q < xs.length := by omega
      have hck := fun U => hcell k _ hk (hE.trans (lat_ext wr U))
      have hcq := fun U => hcell q _ hql (hE.trans (lat_ext wr U))
      have Hqk := Lib.hid (show q = k - 1 by omega)
      clear hq
      have hE1 := hE
      clear hE
      have hE := Ext.refl wr
      cases hd : decide (nth xs k < nth xs q)
      · have Hd := Lib.hid (of_decide_eq_false hd)
        go_wp2_with fail
        (refine wp_region_lat (wr) (by kernel_rfl) (by kernel_rfl) hE ?_); (repeat (go_big_quiet_step (first | (go_at_call 193; exact Calls.lat_same (cmpLess_val _ _ _ hd))))); (refine wpQuiet_nil ?_); (intro W hE'); (replace hE := lat_of hE'); (clear hE')
        go_wp2_with fail
        go_roundw
        case rel => exact ⟨(q : Int), by have := Hqk.out; omega, by omega, rfl, fun j h1 h2 => by by_cases e : j = k; (subst e; have := Hd.out; rw [Hqk.out] at this; omega); exact Hall.out j (by have := Hqk.out; omega) h2, hE1.trans hE⟩
        case measure => (have := Hqk.out; simp [intOf]; omega)
      · have Hd : Hid (sortB xs = false) := Lib.hid (Hno.out k hk0 hk (by rw [← Hqk.out]; exact of_decide_eq_true hd))
        go_wp2_with fail
        (refine wp_region_lat (wr) (by kernel_rfl) (by kernel_rfl) hE ?_); (repeat (go_big_quiet_step (first | (go_at_call 193; exact Calls.lat_same (cmpLess_val _ _ _ hd))))); (refine wpQuiet_nil ?_); (intro W hE'); (replace hE := lat_of hE'); (clear hE')
        go_wp2_with fail
        go_ret
        exact ⟨ret_bool Hd.out.symm, hE1.trans hE⟩
    · have Hz : Hid (sortB xs = true) := Lib.hid (Hit.out.2 fun j h0 hj => Hall.out j (by omega) hj)
      go_wp2_with fail
      go_ret
      exact ⟨ret_bool Hz.out.symm, hE⟩
theorem slicesIsSorted_val (u : Value) (xs : List Int) (w : World) (h : Ints w u xs) {c : Bool} (hc : sortB xs = c) :
    Calls Tryz.prog 149 #[u] w fun e w' => e = .returned (.bool c) ∧ Ext w w' := by subst hc; exact slicesIsSorted_any u xs w h
theorem IsGroup_val (v : Value) (l : List Int) (w : World) (h : Ints w v l) {c : Bool} (hc : isGrp l = c) :
    Calls Tryz.prog 131 #[.agg #[v]] w fun e w' => e = .returned (.bool c) ∧ Ext w w' := by subst hc; exact IsGroup_any v l w h
theorem IsSequence_any (v u : Value) (l xs : List Int) (w : World) (h : Ints w v l) (hu : Ints w u xs) :
    Calls Tryz.prog 63 #[.agg #[v], u] w fun e w' => e = .returned (.bool (seqB l xs)) ∧ Ext w w' := by
  obtain ⟨wb, hwb⟩ : ∃ wb, wb = w.alloc (.cells #[v] 27) := ⟨_, rfl⟩
  have hE0 := (Ext.refl w).alloc (.cells #[v] 27)
  have hb := box_cell w v 27
  rw [← hwb] at hE0 hb
  have hg : ∀ W, Ext wb W → Ints W v l := fun W hW => h.ext (hE0.trans hW)
  have hgu : Hid (∀ W, Ext wb W → Ints W u xs) := Lib.hid fun W hW => hu.ext (hE0.trans hW)
  have hE := Ext.refl wb
  have Hwb := Lib.hid hwb
  clear hwb h
  obtain ⟨ao, c, adr, rfl, hlen, hadr, hcell⟩ := (hgu.out wb hE).op
  have hix := ints_index (c := c) elI szI hadr
  have Hhas : Hid (∀ k, k < xs.length → hasB l (nth xs k) = false → seqB l xs = false) := Lib.hid fun k a b => seqB_has a b
  have Hend := Lib.hid (fun h => seqB_end (l := l) (xs := xs) h)
  clear hadr hu
  go_enter Tryz.func63, Tryz.ntmps63
  go_wp2_with fail
  rw [← Hwb.out]
  go_loopw [9] (fun i wr => ∃ k : Nat, k ≤ xs.length ∧ i = .int .i64 k ∧ (∀ j, j < k → hasB l (nth xs j) = true) ∧ Ext wb wr) (fun i _ => xs.length - (intOf i).toNat)
  case atStart => exact ⟨0, by omega, rfl, by omega, hE⟩
  case round =>
    clear hE
    obtain ⟨k, hk, rfl, hall, hE⟩ := hrel
    have Hall := Lib.hid hall
    clear hall
    have hbx := hb _ hE
    by_cases hlt : k < xs.length
    · have hck := hcell k _ hlt hE
      cases hh : hasB l (nth xs k)
      · have Hz := Lib.hid (Hhas.out k hlt hh)
        go_wp2_with (first | (go_at_call 148; refine (has_val _ _ _ _ (hg _ hE) (hh)).mono ?_; rintro e w' ⟨rfl, hE'⟩; replace hE := hE.trans hE'; clear hE'))
        go_ret
        exact ⟨ret_bool Hz.out.symm, hE0.trans hE⟩
      · have Hk := Lib.hid hh
        go_wp2_with (first | (go_at_call 148; refine (has_val _ _ _ _ (hg _ hE) (hh)).mono ?_; rintro e w' ⟨rfl, hE'⟩; replace hE := hE.trans hE'; clear hE'))
        go_roundw
        case rel => exact ⟨k + 1, by omega, by go_num, fun j hj => by by_cases e : j = k; (subst e; exact Hk.out); exact Hall.out j (by omega), hE⟩
        case measure => (simp [intOf]; omega)
    · have hkl : k = xs.length := by omega
      subst hkl
      have He := Lib.hid (Hend.out Hall.out)
      cases hgr : isGrp l
      · have Hz : Hid (seqB l xs = false) := Lib.hid (by rw [He.out, hgr]; rfl)
        go_wp2_with (first | (go_at_call 131; refine (IsGroup_val _ _ _ (hg _ hE) hgr).mono ?_; rintro e w' ⟨rfl, hE'⟩; replace hE := hE.trans hE'; clear hE'))
        go_ret
        exact ⟨ret_bool Hz.out.symm, hE0.trans hE⟩
      · by_cases h12 : xs.length ≤ 12
        · have Hz : Hid (seqB l xs = sortB xs) := Lib.hid (by rw [He.out, hgr, decide_eq_true h12]; rfl)
          go_wp2_with (first | (go_at_call 131; refine (IsGroup_val _ _ _ (hg _ hE) hgr).mono ?_; rintro e w' ⟨rfl, hE'⟩; replace hE := hE.trans hE'; clear hE') | (go_at_call 149; refine (slicesIsSorted_any _ _ _ (hgu.out _ hE)).mono ?_; rintro e w' ⟨rfl, hE'⟩; replace hE := hE.trans hE'; clear hE'))
          go_ret
          exact ⟨ret_bool Hz.out.symm, hE0.trans hE⟩
        · have Hz : Hid (seqB l xs = false) := Lib.hid (by rw [He.out, hgr, decide_eq_false h12]; rfl)
          have h12' : ¬ (xs.length : Int) ≤ 12 := by omega
          go_wp2_with (first | (go_at_call 131; refine (IsGroup_val _ _ _ (hg _ hE) hgr).mono ?_; rintro e w' ⟨rfl, hE'⟩; replace hE := hE.trans hE'; clear hE'))
          go_ret
          exact ⟨ret_bool Hz.out.symm, hE0.trans hE⟩
theorem IsSequence_val (v u : Value) (l xs : List Int) (w : World) (h : Ints w v l) (hu : Ints w u xs) {c : Bool} (hc : seqB l xs = c) :
    Calls Tryz.prog 63 #[.agg #[v], u] w fun e w' => e = .returned (.bool c) ∧ Ext w w' := by subst hc; exact IsSequence_any v u l xs w h hu
theorem sIsGroup_val (v : Value) (l : List Int) (w : World) (h : Ints w v l) {c : Bool} (hc : isGrp l = c) :
    Calls Tryz.prog 100 #[.agg #[v]] w fun e w' => e = .returned (.bool c) ∧ Ext w w' := by subst hc; exact sIsGroup_any v l w h
theorem sIsSequence_any (v u : Value) (l xs : List Int) (w : World) (h : Ints w v l) (hu : Ints w u xs) :
    Calls Tryz.prog 21 #[.agg #[v], u] w fun e w' => e = .returned (.bool (seqB l xs)) ∧ Ext w w' := by
  obtain ⟨wb, hwb⟩ : ∃ wb, wb = w.alloc (.cells #[v] 27) := ⟨_, rfl⟩
  have hE0 := (Ext.refl w).alloc (.cells #[v] 27)
  have hb := box_cell w v 27
  rw [← hwb] at hE0 hb
  have hg : ∀ W, Ext wb W → Ints W v l := fun W hW => h.ext (hE0.trans hW)
  have hgu : Hid (∀ W, Ext wb W → Ints W u xs) := Lib.hid fun W hW => hu.ext (hE0.trans hW)
  have hE := Ext.refl wb
  have Hwb := Lib.hid hwb
  clear hwb h
  obtain ⟨ao, c, adr, rfl, hlen, hadr, hcell⟩ := (hgu.out wb hE).op
  have hix := ints_index (c := c) elI szI hadr
  have Hhas : Hid (∀ k, k < xs.length → hasB l (nth xs k) = false → seqB l xs = false) := Lib.hid fun k a b => seqB_has a b
  have Hdown : Hid (∀ k, 0 < k → k < xs.length → nth xs k < nth xs (k - 1) → seqB l xs = false) := Lib.hid fun k a b c => seqB_down a b c
  have Hend := Lib.hid (fun h => seqB_end (l := l) (xs := xs) h)
  have Hit := Lib.hid (sortB_iff xs)
  clear hadr hu
  go_enter Tryz.func21, Tryz.ntmps21
  go_wp2_with fail
  rw [← Hwb.out]
  go_loopw [5] (fun i wr => ∃ k : Nat, k ≤ xs.length ∧ i = .int .i64 k ∧ (∀ j, j < k → hasB l (nth xs j) = true ∧ (0 < j → nth xs (j - 1) ≤ nth xs j)) ∧ Ext wb wr) (fun i _ => xs.length - (intOf i).toNat)
  case atStart => exact ⟨0, by omega, rfl, by omega, hE⟩
  case round =>
    clear hE
    obtain ⟨k, hk, rfl, hall, hE⟩ := hrel
    have Hall := Lib.hid hall
    clear hall
    by_cases hlt : k < xs.length
    · have hck := fun U => hcell k _ hlt (hE.trans (lat_ext wr U))
      have hbu := fun U => hb _ (hE.trans (lat_ext wr U))
      have hgr' : ∀ W, Ext wr W → Ints W v l := fun W hW => hg W (hE.trans hW)
      have hE1 := hE
      clear hE
      have hE := Ext.refl wr
      cases hh : hasB l (nth xs k)
      · have Hz := Lib.hid (Hhas.out k hlt hh)
        go_wp2_with fail
        (refine wp_region_lat (wr) (by kernel_rfl) (by kernel_rfl) hE ?_); (repeat (go_big_quiet_step (first | (go_at_call 99; exact Calls.lat (l2Is_val _ _ _ _ (hgr' _ (lat_ext wr _)) (hh)))))); (refine wpQuiet_nil ?_); (intro W hE'); (replace hE := lat_of hE'); (clear hE')
        go_wp2_with fail
        go_ret
        exact ⟨ret_bool Hz.out.symm, hE0.trans (hE1.trans hE)⟩
      · have Hk := Lib.hid hh
        by_cases h0 : k = 0
        · have Hk0 := Lib.hid h0
          have hd0 : ¬ (0 : Int) < (k : Int) := by omega
          have hdn : ¬ 0 < k := by omega
          clear h0
          go_wp2_with fail
          (refine wp_region_lat (wr) (by kernel_rfl) (by kernel_rfl) hE ?_); (repeat (go_big_quiet_step (first | (go_at_call 99; exact Calls.lat (l2Is_val _ _ _ _ (hgr' _ (lat_ext wr _)) (hh)))))); (refine wpQuiet_nil ?_); (intro W hE'); (replace hE := lat_of hE'); (clear hE')
          go_wp2_with fail
          go_roundw
          case rel => exact ⟨k + 1, by omega, by go_num, fun j hj => by by_cases e : j = k; (subst e; exact ⟨Hk.out, fun h => by have := Hk0.out; omega⟩); exact Hall.out j (by omega), hE1.trans hE⟩
          case measure => (simp [intOf]; omega)
        · have hd0 : (0 : Int) < (k : Int) := by omega
          have hk0 : 0 < k := by omega
          clear h0
          obtain ⟨q, hq⟩ : ∃ q, q + 1 = k := ⟨k - 1, by omega⟩
          have hw : IntKind.i64.wrap ((k : Int) - 1) = (q : Int) := by rw [← hq]; exact (IntWalk.i64_in _ (by omega)).trans (by omega)
          have hql : q < xs.length := by omega
          have hcq := fun U => hcell q _ hql (hE1.trans (lat_ext wr U))
          have Hqk := Lib.hid (show q = k - 1 by omega)
          clear hq
          cases hd : decide (nth xs k < nth xs q)
          · have Hd := Lib.hid (of_decide_eq_false hd)
            go_wp2_with fail
            (refine wp_region_lat (wr) (by kernel_rfl) (by kernel_rfl) hE ?_); (repeat (go_big_quiet_step (first | (go_at_call 99; exact Calls.lat (l2Is_val _ _ _ _ (hgr' _ (lat_ext wr _)) (hh)))))); (refine wpQuiet_nil ?_); (intro W hE'); (replace hE := lat_of hE'); (clear hE')
            go_wp2_with fail
            go_roundw
            case rel => exact ⟨k + 1, by omega, by go_num, fun j hj => by by_cases e : j = k; (subst e; exact ⟨Hk.out, fun _ => by have := Hd.out; rw [Hqk.out] at this; omega⟩); exact Hall.out j (by omega), hE1.trans hE⟩
            case measure => (simp [intOf]; omega)
          · have Hz := Lib.hid (Hdown.out k hk0 hlt (by rw [← Hqk.out]; exact of_decide_eq_true hd))
            go_wp2_with fail
            (refine wp_region_lat (wr) (by kernel_rfl) (by kernel_rfl) hE ?_); (repeat (go_big_quiet_step (first | (go_at_call 99; exact Calls.lat (l2Is_val _ _ _ _ (hgr' _ (lat_ext wr _)) (hh)))))); (refine wpQuiet_nil ?_); (intro W hE'); (replace hE := lat_of hE'); (clear hE')
            go_wp2_with fail
            go_ret
            exact ⟨ret_bool Hz.out.symm, hE0.trans (hE1.trans hE)⟩
    · have hkl : k = xs.length := by omega
      subst hkl
      have hbx := hb _ hE
      have He := Lib.hid (Hend.out fun j hj => (Hall.out j hj).1)
      have Hs : Hid (sortB xs = true) := Lib.hid (Hit.out.2 fun j h0 hj => (Hall.out j hj).2 h0)
      cases hgr : isGrp l
      · have Hz : Hid (seqB l xs = false) := Lib.hid (by rw [He.out, hgr]; rfl)
        go_wp2_with (first | (go_at_call 100; refine (sIsGroup_val _ _ _ (hg _ hE) hgr).mono ?_; rintro e w' ⟨rfl, hE'⟩; replace hE := hE.trans hE'; clear hE'))
        go_ret
        exact ⟨ret_bool Hz.out.symm, hE0.trans hE⟩
      · by_cases h12 : xs.length ≤ 12
        · have Hz : Hid (seqB l xs = true) := Lib.hid (by rw [He.out, hgr, decide_eq_true h12, Hs.out]; rfl)
          go_wp2_with (first | (go_at_call 100; refine (sIsGroup_val _ _ _ (hg _ hE) hgr).mono ?_; rintro e w' ⟨rfl, hE'⟩; replace hE := hE.trans hE'; clear hE'))
          go_ret
          exact ⟨ret_bool (by rw [Hz.out]; exact decide_eq_true (by omega)), hE0.trans hE⟩
        · have Hz : Hid (seqB l xs = false) := Lib.hid (by rw [He.out, hgr, decide_eq_false h12]; rfl)
          go_wp2_with (first | (go_at_call 100; refine (sIsGroup_val _ _ _ (hg _ hE) hgr).mono ?_; rintro e w' ⟨rfl, hE'⟩; replace hE := hE.trans hE'; clear hE'))
          go_ret
          exact ⟨ret_bool (by rw [Hz.out]; exact decide_eq_false (by omega)), hE0.trans hE⟩
theorem sIsSequence_val (v u : Value) (l xs : List Int) (w : World) (h : Ints w v l) (hu : Ints w u xs) {c : Bool} (hc : seqB l xs = c) :
    Calls Tryz.prog 21 #[.agg #[v], u] w fun e w' => e = .returned (.bool c) ∧ Ext w w' := by subst hc; exact sIsSequence_any v u l xs w h hu
end Go.Zz

/- The table of sums: how often each element is a sum. Plain laws. -/
namespace Go.Zz
open Go.RowKit Go.Proofs
set_option maxHeartbeats 400000

/-- one more at a place -/
def bump (t : List Int) (z : Nat) : List Int := t.set z (nth t z + 1)
theorem bump_len (t : List Int) (z : Nat) : (bump t z).length = t.length := by simp [bump]
def tabIn (l : List Int) (x : Nat) (t : List Int) (L : List Nat) : List Int := L.foldl (fun t y => bump t (addF l x y)) t
def tabOut (l : List Int) (b : Nat) (t : List Int) (L : List Nat) : List Int := L.foldl (fun t x => tabIn l x t (elems b)) t
theorem tabIn_snoc (l : List Int) (x : Nat) (t : List Int) (L : List Nat) (y : Nat) : tabIn l x t (L ++ [y]) = bump (tabIn l x t L) (addF l x y) := by
  unfold tabIn; rw [List.foldl_append]; rfl
theorem tabOut_snoc (l : List Int) (b : Nat) (t : List Int) (L : List Nat) (x : Nat) : tabOut l b t (L ++ [x]) = tabIn l x (tabOut l b t L) (elems b) := by
  unfold tabOut; rw [List.foldl_append]; rfl
theorem nth_bump (t : List Int) (z i : Nat) (hz : z < t.length) : nth (bump t z) i = if i = z then nth t z + 1 else nth t i := by
  unfold bump nth
  simp only [List.getD_eq_getElem?_getD, List.getElem?_set]
  by_cases h : i = z
  · subst h; simp [hz]
  · have h' : ¬ z = i := fun e => h e.symm
    simp [h, h']
/-- every count lies between 0 and B -/
def Upto (t : List Int) (B : Int) : Prop := ∀ i, 0 ≤ nth t i ∧ nth t i ≤ B
theorem Upto.bump {t : List Int} {B : Int} (h : Upto t B) {z : Nat} (hz : z < t.length) : Upto (bump t z) (B + 1) := fun i => by
  rw [nth_bump t z i hz]
  have h1 := h z
  have h2 := h i
  split <;> omega
theorem Upto.zeros (n : Nat) : Upto (List.replicate n 0) 0 := fun i => by
  unfold nth
  simp only [List.getD_eq_getElem?_getD, List.getElem?_replicate]
  split <;> simp
def tabF (l : List Int) (a b : Int) : List Int := if isSetB l a && isSetB l b then tabOut l b.toNat (List.replicate (ord l) 0) (elems a.toNat) else []
theorem tabF_no {l : List Int} {a b : Int} (h : (isSetB l a && isSetB l b) = false) : tabF l a b = [] := by unfold tabF; rw [h]; rfl
theorem tabF_yes {l : List Int} {a b : Nat} (h : (isSetB l a && isSetB l b) = true) : tabF l a b = tabOut l b (List.replicate (ord l) 0) (elems a) := by unfold tabF; rw [h]; rfl
end Go.Zz

/- The table of sums. -/
namespace Go.Zz
open Go.RowKit Go.Proofs
set_option maxHeartbeats 400000

theorem Own.cellAt {TI : TypeId} {w0 w : World} {g n c : Nat} {l : List Int} (h : Own TI w0 w (.slice (some ⟨g, 0, none⟩) n c) l) (hn : l.length = n) {i : Nat} (hi : i < n) :
    w.cell? ⟨g, i, none⟩ = some (.int .i64 (nth l i)) ∧ w.frozen? ⟨g, i, none⟩ = false := by
  obtain ⟨ao', c', hv, -, -, hs⟩ := h.shape
  obtain ⟨g', hg1, hc1, hf1⟩ := hs i (by omega)
  simp only [Value.slice.injEq] at hv
  obtain ⟨hv1, -, -⟩ := hv
  rw [← hv1] at hg1
  simp only [Option.some.injEq, Addr.mk.injEq, and_true] at hg1
  obtain rfl := hg1
  exact ⟨hc1, hf1⟩
theorem Own.row {TI : TypeId} {w0 w : World} {ao : Option Addr} {n c : Nat} {l : List Int} (h : Own TI w0 w (.slice ao n c) l) (hn : l.length = n) (hp : 0 < n) :
    ∃ g, ao = some ⟨g, 0, none⟩ ∧ w0.heap.size ≤ g ∧ g < w.heap.size := by
  obtain ⟨ao', c', hv, -, hb, hs⟩ := h.shape
  obtain ⟨g', hg1, hc1, hf1⟩ := hs 0 (by omega)
  simp only [Value.slice.injEq] at hv
  obtain ⟨hv1, -, -⟩ := hv
  subst hv1
  obtain ⟨g, e, h1, h2⟩ := hb _ hg1
  exact ⟨g, by rw [hg1, e], h1, h2⟩
theorem Own.nshape {TI : TypeId} {w0 w : World} {v : Value} {L : List Nat} (h : Own TI w0 w v (castL L)) : ∃ (ao : Option Addr) (c : Nat), v = .slice ao L.length c := by
  obtain ⟨ao, c, e, -, -, -⟩ := h.shape
  exact ⟨ao, c, by rw [e, castL_len]⟩
theorem row_index (g n c : Nat) : ∀ (i : Nat) W, i < n → (Instr.indexAt 22 (.slice (some ⟨g, 0, none⟩) n c) (.int .i64 (i : Int))).run Tryz.prog W = .ok (.pointer (some ⟨g, i, none⟩)) W := by
  intro i W hi
  rw [run_indexAt_slice (h := elI), if_pos (by omega), szI]
  simp [Result.andThen, Addr.add_lit]
theorem castL_nth {L : List Nat} {i : Nat} : nth (castL L) i = (nthN L i : Int) := nth_castL L i
theorem tabIn_len (l : List Int) (x : Nat) : ∀ (L : List Nat) (t : List Int), (tabIn l x t L).length = t.length
  | [], t => rfl
  | y :: L, t => by
    show (tabIn l x (bump t (addF l x y)) L).length = t.length
    rw [tabIn_len l x L, bump_len]
theorem tabOut_len (l : List Int) (b : Nat) : ∀ (L : List Nat) (t : List Int), (tabOut l b t L).length = t.length
  | [], t => rfl
  | x :: L, t => by
    show (tabOut l b (tabIn l x t (elems b)) L).length = t.length
    rw [tabOut_len l b L, tabIn_len]
theorem tabIn_upto {l : List Int} (hg : isGrp l = true) (x : Nat) : ∀ (L : List Nat) (t : List Int) (B : Int), t.length = ord l → Upto t B → Upto (tabIn l x t L) (B + L.length)
  | [], t, B, _, h => by simpa [tabIn] using h
  | y :: L, t, B, hl, h => by
    have hz : addF l x y < t.length := by rw [hl]; exact addF_lt l (isGrp_ords hg) x y
    have := tabIn_upto hg x L (bump t (addF l x y)) (B + 1) (by rw [bump_len]; exact hl) (h.bump hz)
    show Upto (tabIn l x (bump t (addF l x y)) L) _
    rw [List.length_cons]
    intro i; have := this i; push_cast at this ⊢; omega
theorem tabOut_upto {l : List Int} (hg : isGrp l = true) (b : Nat) : ∀ (L : List Nat) (t : List Int) (B : Int), t.length = ord l → Upto t B → Upto (tabOut l b t L) (B + 24 * L.length)
  | [], t, B, _, h => by simpa [tabOut] using h
  | x :: L, t, B, hl, h => by
    have h1 := tabIn_upto hg x (elems b) t B hl h
    have h2 := tabOut_upto hg b L (tabIn l x t (elems b)) (B + (elems b).length) (by rw [tabIn_len]; exact hl) h1
    have h3 := elems_len b
    show Upto (tabOut l b (tabIn l x t (elems b)) L) _
    rw [List.length_cons]
    intro i; have := h2 i; push_cast at this ⊢; omega
/-- the count that is to be raised fits -/
theorem tab_fits {l : List Int} (hg : isGrp l = true) {b x : Nat} {L M : List Nat} (hL : L.length ≤ 24) (hM : M.length ≤ 24) (i : Nat) :
    0 ≤ nth (tabIn l x (tabOut l b (List.replicate (ord l) 0) L) M) i ∧ nth (tabIn l x (tabOut l b (List.replicate (ord l) 0) L) M) i ≤ 1000 := by
  have h1 := tabOut_upto hg b L _ 0 (by simp) (Upto.zeros (ord l))
  have h2 := tabIn_upto hg x M _ _ (by rw [tabOut_len]; simp) h1
  have := h2 i
  omega

end Go.Zz
