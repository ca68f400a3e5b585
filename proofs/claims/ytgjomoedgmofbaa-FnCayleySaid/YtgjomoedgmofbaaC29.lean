/- Graphs: connection sets, distances, diameters. -/
import Derived.Test.YtgjomoedgmofbaaC23
namespace Go.Zz
open Go.RowKit Go.Proofs
set_option maxHeartbeats 400000

--%call in 139 same in_any _ _ ({0}) ({1}) _
theorem in_any (a x : Nat) (ha : a < 2 ^ 24) (hx : x ≤ 64) (w : World) :
    Calls Try.prog 139 #[.int .i64 a, .int .i64 x] w fun e w' => e = .returned (.bool (a.testBit x)) ∧ w = w' := by
  have hsh := ishr_nat (a := a) (n := x) hx
  have hbt := bit_test' (a := a) (n := x) (by omega) hx
  go_enter Try.func139, Try.ntmps139
  go_wp2_with fail
  go_ret
  exact ⟨rfl, rfl⟩
theorem in_val (a x : Nat) (ha : a < 2 ^ 24) (hx : x ≤ 64) (w : World) {b : Bool} (hb : a.testBit x = b) :
    Calls Try.prog 139 #[.int .i64 a, .int .i64 x] w fun e w' => e = .returned (.bool b) ∧ w = w' := by
  subst hb; exact in_any a x ha hx w
--%call hasV 138 ext has_val _ _ _ _ ({0}) ({1})
theorem has_any (v : Value) (l : List Int) (x : Int) (w : World) (h : Ints w v l) :
    Calls Try.prog 138 #[.agg #[v], .int .i64 x] w fun e w' => e = .returned (.bool (hasB l x)) ∧ Ext w w' := by
  obtain ⟨wb, hwb⟩ : ∃ wb, wb = w.alloc (.cells #[v] 26) := ⟨_, rfl⟩
  have hE0 := (Ext.refl w).alloc (.cells #[v] 26)
  have hb := box_cell w v 26
  rw [← hwb] at hE0 hb
  have hg : ∀ W, Ext wb W → Ints W v l := fun W hW => h.ext (hE0.trans hW)
  have hE := Ext.refl wb
  have Hsz : Hid (w.heap.size + 1 = wb.heap.size) := Lib.hid (by rw [hwb]; simp [go_sem])
  have Hwb := Lib.hid hwb
  clear hwb h
  have ho := ordF_bd l
  go_enter Try.func138, Try.ntmps138
  go_wp2_with fail
  rw [← Hwb.out]
  go_wp2_with (first | (go_at_call 108; refine (OrderOf_any _ _ _ (hg _ hE)).mono ?_; rintro e w' ⟨rfl, hE'⟩; replace hE := hE.trans hE'; clear hE') | (go_at_call 110; refine (within_any _ _ _ _).mono ?_; rintro e w' ⟨rfl, rfl⟩))
  go_ret
  exact ⟨rfl, hE0.trans hE⟩
theorem has_val (v : Value) (l : List Int) (x : Int) (w : World) (h : Ints w v l) {b : Bool} (hb : hasB l x = b) :
    Calls Try.prog 138 #[.agg #[v], .int .i64 x] w fun e w' => e = .returned (.bool b) ∧ Ext w w' := by
  subst hb; exact has_any v l x w h
--%call sOrderOf 19 ext sOrderOf_any _ _ _ ({0})
theorem sOrderOf_any (v : Value) (l : List Int) (w : World) (h : Ints w v l) :
    Calls Try.prog 19 #[.agg #[v]] w fun e w' => e = .returned (.int .i64 (ordF l)) ∧ Ext w w' := by
  obtain ⟨wb, hwb⟩ : ∃ wb, wb = w.alloc (.cells #[v] 26) := ⟨_, rfl⟩
  have hE0 := (Ext.refl w).alloc (.cells #[v] 26)
  have hb := box_cell w v 26
  rw [← hwb] at hE0 hb
  have hg : ∀ W, Ext wb W → Ints W v l := fun W hW => h.ext (hE0.trans hW)
  have hE := Ext.refl wb
  have Hsz : Hid (w.heap.size + 1 = wb.heap.size) := Lib.hid (by rw [hwb]; simp [go_sem])
  have Hwb := Lib.hid hwb
  clear hwb h
  cases hgr : isGrp l
  · have Ho := Lib.hid (ordF_f hgr)
    go_enter Try.func19, Try.ntmps19
    go_wp2_with fail
    rw [← Hwb.out]
    go_wp2_with (first | (go_at_call 114; refine (sIsGroup_any _ _ _ (hg _ hE)).mono ?_; rintro e w' ⟨rfl, hE'⟩; replace hE := hE.trans hE'; clear hE'))
    go_ret
    exact ⟨ret_int Ho.out.symm, hE0.trans hE⟩
  · have Ho := Lib.hid (ordF_t hgr)
    have Hgr := Lib.hid hgr
    go_enter Try.func19, Try.ntmps19
    go_wp2_with fail
    rw [← Hwb.out]
    go_wp2_with (first | (go_at_call 114; refine (sIsGroup_any _ _ _ (hg _ hE)).mono ?_; rintro e w' ⟨rfl, hE'⟩; replace hE := hE.trans hE'; clear hE') | (go_at_call 115; refine (l2Order_any _ _ _ (hg _ hE) (Hgr)).mono ?_; rintro e w' ⟨rfl, hE'⟩; replace hE := hE.trans hE'; clear hE'))
    go_ret
    exact ⟨ret_int Ho.out.symm, hE0.trans hE⟩
--%call l2IsV 140 ext l2Is_val _ _ _ _ ({0}) ({1})
theorem l2Is_any (v : Value) (l : List Int) (x : Int) (w : World) (h : Ints w v l) :
    Calls Try.prog 140 #[.agg #[v], .int .i64 x] w fun e w' => e = .returned (.bool (hasB l x)) ∧ Ext w w' := by
  obtain ⟨wb, hwb⟩ : ∃ wb, wb = w.alloc (.cells #[v] 26) := ⟨_, rfl⟩
  have hE0 := (Ext.refl w).alloc (.cells #[v] 26)
  have hb := box_cell w v 26
  rw [← hwb] at hE0 hb
  have hg : ∀ W, Ext wb W → Ints W v l := fun W hW => h.ext (hE0.trans hW)
  have hE := Ext.refl wb
  have Hsz : Hid (w.heap.size + 1 = wb.heap.size) := Lib.hid (by rw [hwb]; simp [go_sem])
  have Hwb := Lib.hid hwb
  clear hwb h
  have ho := ordF_bd l
  by_cases h0 : 0 ≤ x
  · by_cases h1 : x < ordF l
    · have Hh : Hid (hasB l x = true) := Lib.hid (inB_t.2 (by omega))
      go_enter Try.func140, Try.ntmps140
      go_wp2_with fail
      rw [← Hwb.out]
      go_wp2_with (first | (go_at_call 19; refine (sOrderOf_any _ _ _ (hg _ hE)).mono ?_; rintro e w' ⟨rfl, hE'⟩; replace hE := hE.trans hE'; clear hE'))
      go_ret
      exact ⟨ret_bool (by rw [Hh.out]), hE0.trans hE⟩
    · have Hh : Hid (hasB l x = false) := Lib.hid (inB_f.2 (by omega))
      have h1' : decide (x < ordF l) = false := by simp; omega
      go_enter Try.func140, Try.ntmps140
      go_wp2_with fail
      rw [← Hwb.out]
      go_wp2_with (first | (go_at_call 19; refine (sOrderOf_any _ _ _ (hg _ hE)).mono ?_; rintro e w' ⟨rfl, hE'⟩; replace hE := hE.trans hE'; clear hE'))
      go_ret
      exact ⟨ret_bool (by rw [Hh.out]), hE0.trans hE⟩
  · have Hh : Hid (hasB l x = false) := Lib.hid (inB_f.2 (by omega))
    have h0' : decide (0 ≤ x) = false := by simp; omega
    go_enter Try.func140, Try.ntmps140
    go_wp2_with fail
    rw [← Hwb.out]
    go_wp2_with (first | (go_at_call 19; refine (sOrderOf_any _ _ _ (hg _ hE)).mono ?_; rintro e w' ⟨rfl, hE'⟩; replace hE := hE.trans hE'; clear hE'))
    go_ret
    exact ⟨ret_bool (by rw [Hh.out]), hE0.trans hE⟩
theorem l2Is_val (v : Value) (l : List Int) (x : Int) (w : World) (h : Ints w v l) {b : Bool} (hb : hasB l x = b) :
    Calls Try.prog 140 #[.agg #[v], .int .i64 x] w fun e w' => e = .returned (.bool b) ∧ Ext w w' := by
  subst hb; exact l2Is_any v l x w h

--%call IsConnV 92 ext IsConnection_val _ _ _ _ ({0}) ({1})
theorem IsConnection_any (v : Value) (l : List Int) (a : Int) (w : World) (h : Ints w v l) :
    Calls Try.prog 92 #[.agg #[v], .int .i64 a] w fun e w' => e = .returned (.bool (connB l a)) ∧ Ext w w' := by
  obtain ⟨wb, hwb⟩ : ∃ wb, wb = w.alloc (.cells #[v] 26) := ⟨_, rfl⟩
  have hE0 := (Ext.refl w).alloc (.cells #[v] 26)
  have hb := box_cell w v 26
  rw [← hwb] at hE0 hb
  have hg : ∀ W, Ext wb W → Ints W v l := fun W hW => h.ext (hE0.trans hW)
  have hE := Ext.refl wb
  have Hsz : Hid (w.heap.size + 1 = wb.heap.size) := Lib.hid (by rw [hwb]; simp [go_sem])
  have Hwb := Lib.hid hwb
  clear hwb h
  have hbx := hb wb hE
  cases hs : isSetB l a
  · have Hs := Lib.hid (connB_set hs)
    go_enter Try.func92, Try.ntmps92
    go_wp2_with fail
    rw [← Hwb.out]
    go_wp2_with (first | (go_at_call 144; refine (IsSet_val _ _ _ _ (hg _ hE) (hs)).mono ?_; rintro e w' ⟨rfl, hE'⟩; replace hE := hE.trans hE'; clear hE'))
    go_ret
    exact ⟨ret_bool Hs.out.symm, hE0.trans hE⟩
  · obtain ⟨n, rfl, h1, h2, hgr⟩ := isSetB_nat hs
    have Hgr := Lib.hid hgr
    cases h0 : n.testBit 0
    · have Hs := Lib.hid (connB_yes hs h0)
      clear hgr
      go_enter Try.func92, Try.ntmps92
      go_wp2_with fail
      rw [← Hwb.out]
      go_wp2_with (first | (go_at_call 144; refine (IsSet_val _ _ _ _ (hg _ hE) (hs)).mono ?_; rintro e w' ⟨rfl, hE'⟩; replace hE := hE.trans hE'; clear hE') | (go_at_call 139; refine (in_val n 0 h2 (by omega) _ h0).mono ?_; rintro e w' ⟨rfl, rfl⟩) | (go_at_call 162; refine (opposite_any _ _ _ _ (hg _ hE) (Hgr) (h2)).mono ?_; rintro e w' ⟨rfl, hE'⟩; replace hE := hE.trans hE'; clear hE'))
      go_ret
      exact ⟨ret_bool (by rw [Hs.out]), hE0.trans hE⟩
    · have Hs := Lib.hid (connB_zero (l := l) h0)
      clear hgr
      go_enter Try.func92, Try.ntmps92
      go_wp2_with fail
      rw [← Hwb.out]
      go_wp2_with (first | (go_at_call 144; refine (IsSet_val _ _ _ _ (hg _ hE) (hs)).mono ?_; rintro e w' ⟨rfl, hE'⟩; replace hE := hE.trans hE'; clear hE') | (go_at_call 139; refine (in_val n 0 h2 (by omega) _ h0).mono ?_; rintro e w' ⟨rfl, rfl⟩))
      go_ret
      exact ⟨ret_bool (by rw [Hs.out]), hE0.trans hE⟩
theorem IsConnection_val (v : Value) (l : List Int) (a : Int) (w : World) (h : Ints w v l) {b : Bool} (hb : connB l a = b) :
    Calls Try.prog 92 #[.agg #[v], .int .i64 a] w fun e w' => e = .returned (.bool b) ∧ Ext w w' := by
  subst hb; exact IsConnection_any v l a w h
theorem bit_zero_t {n : Nat} (h2 : n < 2 ^ 24) (h : n.testBit 0 = true) : iand (n : Int) 1 = 1 := by
  rw [Nat.testBit_zero] at h; rw [iand_one (by omega), of_decide_eq_true h]; rfl
theorem bit_zero_f {n : Nat} (h2 : n < 2 ^ 24) (h : n.testBit 0 = false) : iand (n : Int) 1 = 0 := by
  rw [Nat.testBit_zero] at h; rw [iand_one (by omega)]; have := of_decide_eq_false h; have h3 : n % 2 = 0 := by omega
  rw [h3]; rfl
--%call sIsConnV 165 ext sIsConnection_val _ _ _ _ ({0}) ({1})
theorem sIsConnection_any (v : Value) (l : List Int) (a : Int) (w : World) (h : Ints w v l) :
    Calls Try.prog 165 #[.agg #[v], .int .i64 a] w fun e w' => e = .returned (.bool (connB l a)) ∧ Ext w w' := by
  obtain ⟨wb, hwb⟩ : ∃ wb, wb = w.alloc (.cells #[v] 26) := ⟨_, rfl⟩
  have hE0 := (Ext.refl w).alloc (.cells #[v] 26)
  have hb := box_cell w v 26
  rw [← hwb] at hE0 hb
  have hg : ∀ W, Ext wb W → Ints W v l := fun W hW => h.ext (hE0.trans hW)
  have hE := Ext.refl wb
  have Hsz : Hid (w.heap.size + 1 = wb.heap.size) := Lib.hid (by rw [hwb]; simp [go_sem])
  have Hwb := Lib.hid hwb
  clear hwb h
  have hbx := hb wb hE
  cases hs : isSetB l a
  · have Hs := Lib.hid (connB_set hs)
    go_enter Try.func165, Try.ntmps165
    go_wp2_with fail
    rw [← Hwb.out]
    go_wp2_with (first | (go_at_call 119; refine (sIsSet_val _ _ _ _ (hg _ hE) (hs)).mono ?_; rintro e w' ⟨rfl, hE'⟩; replace hE := hE.trans hE'; clear hE'))
    go_ret
    exact ⟨ret_bool Hs.out.symm, hE0.trans hE⟩
  · obtain ⟨n, rfl, h1, h2, hgr⟩ := isSetB_nat hs
    have Hgr := Lib.hid hgr
    cases h0 : n.testBit 0
    · have Hs := Lib.hid (connB_yes hs h0)
      have hi := bit_zero_f h2 h0
      clear hgr
      go_enter Try.func165, Try.ntmps165
      go_wp2_with fail
      rw [← Hwb.out]
      go_wp2_with (first | (go_at_call 119; refine (sIsSet_val _ _ _ _ (hg _ hE) (hs)).mono ?_; rintro e w' ⟨rfl, hE'⟩; replace hE := hE.trans hE'; clear hE') | (go_at_call 171; refine (l3Negate_any _ _ _ _ (hg _ hE) (Hgr) (h2)).mono ?_; rintro e w' ⟨rfl, hE'⟩; replace hE := hE.trans hE'; clear hE'))
      go_ret
      exact ⟨ret_bool (by rw [Hs.out]), hE0.trans hE⟩
    · have Hs := Lib.hid (connB_zero (l := l) h0)
      have hi := bit_zero_t h2 h0
      clear hgr
      go_enter Try.func165, Try.ntmps165
      go_wp2_with fail
      rw [← Hwb.out]
      go_wp2_with (first | (go_at_call 119; refine (sIsSet_val _ _ _ _ (hg _ hE) (hs)).mono ?_; rintro e w' ⟨rfl, hE'⟩; replace hE := hE.trans hE'; clear hE'))
      go_ret
      exact ⟨ret_bool (by rw [Hs.out]), hE0.trans hE⟩
theorem sIsConnection_val (v : Value) (l : List Int) (a : Int) (w : World) (h : Ints w v l) {b : Bool} (hb : connB l a = b) :
    Calls Try.prog 165 #[.agg #[v], .int .i64 a] w fun e w' => e = .returned (.bool b) ∧ Ext w w' := by
  subst hb; exact sIsConnection_any v l a w h

theorem DistanceInCayley_any (v : Value) (l : List Int) (a x y : Int) (w : World) (h : Ints w v l) :
    Calls Try.prog 76 #[.agg #[v], .int .i64 a, .int .i64 x, .int .i64 y] w fun e w' => e = .returned (.int .i64 (distF l a x y)) ∧ Ext w w' := by
  obtain ⟨wb, hwb⟩ : ∃ wb, wb = w.alloc (.cells #[v] 26) := ⟨_, rfl⟩
  have hE0 := (Ext.refl w).alloc (.cells #[v] 26)
  have hb := box_cell w v 26
  rw [← hwb] at hE0 hb
  have hg : ∀ W, Ext wb W → Ints W v l := fun W hW => h.ext (hE0.trans hW)
  have hE := Ext.refl wb
  have Hsz : Hid (w.heap.size + 1 = wb.heap.size) := Lib.hid (by rw [hwb]; simp [go_sem])
  have Hwb := Lib.hid hwb
  clear hwb h
  have hbx := hb wb hE
  cases hc : connB l a
  · have Hs := Lib.hid (distF_no (l := l) (a := a) (x := x) (y := y) (by rw [hc]; rfl))
    go_enter Try.func76, Try.ntmps76
    go_wp2_with fail
    rw [← Hwb.out]
    go_wp2_with (first | (go_at_call 92; refine (IsConnection_val _ _ _ _ (hg _ hE) (hc)).mono ?_; rintro e w' ⟨rfl, hE'⟩; replace hE := hE.trans hE'; clear hE'))
    go_ret
    exact ⟨ret_int Hs.out.symm, hE0.trans hE⟩
  · cases hx : hasB l x
    · have Hs := Lib.hid (distF_no (l := l) (a := a) (x := x) (y := y) (by rw [hx]; simp))
      go_enter Try.func76, Try.ntmps76
      go_wp2_with fail
      rw [← Hwb.out]
      go_wp2_with (first | (go_at_call 92; refine (IsConnection_val _ _ _ _ (hg _ hE) (hc)).mono ?_; rintro e w' ⟨rfl, hE'⟩; replace hE := hE.trans hE'; clear hE') | (go_at_call 138; refine (has_val _ _ _ _ (hg _ hE) (hx)).mono ?_; rintro e w' ⟨rfl, hE'⟩; replace hE := hE.trans hE'; clear hE'))
      go_ret
      exact ⟨ret_int Hs.out.symm, hE0.trans hE⟩
    · cases hy : hasB l y
      ·
        have Hs := Lib.hid (distF_no (l := l) (a := a) (x := x) (y := y) (by rw [hy]; simp))
        go_enter Try.func76, Try.ntmps76
        go_wp2_with fail
        rw [← Hwb.out]
        go_wp2_with (first | (go_at_call 92; refine (IsConnection_val _ _ _ _ (hg _ hE) (hc)).mono ?_; rintro e w' ⟨rfl, hE'⟩; replace hE := hE.trans hE'; clear hE') | (go_at_call 138; (first | (with_reducible refine Calls.mono (has_val _ _ x _ (hg _ hE) hx) ?_) | (with_reducible refine Calls.mono (has_val _ _ y _ (hg _ hE) hy) ?_)); rintro e w' ⟨rfl, hE'⟩; replace hE := hE.trans hE'; clear hE'))
        go_ret
        exact ⟨ret_int Hs.out.symm, hE0.trans hE⟩
      · have Hv : Hid ((connB l a && hasB l x && hasB l y) = true) := Lib.hid (by rw [hc, hx, hy]; rfl)
        obtain ⟨a, rfl, ha1, ha2, hgr⟩ := connB_nat hc
        obtain ⟨x, rfl, hx2, -⟩ := hasB_nat hx
        obtain ⟨y, rfl, hy2, -⟩ := hasB_nat hy
        have Hs := Lib.hid (distF_yes Hv.out)
        have Hgr := Lib.hid hgr
        have hob := ord_bd hgr
        have hs1 := ishl_one (n := x) (by omega)
        have hp1 : 2 ^ x < 2 ^ ord l := Nat.pow_lt_pow_right (by omega) hx2
        have hgb := fun n => growTo_bd (a := a) hgr hp1 n
        clear hgr hp1
        go_enter Try.func76, Try.ntmps76
        go_wp2_with fail
        rw [← Hwb.out]
        go_wp2_with (first | (go_at_call 92; refine (IsConnection_val _ _ _ _ (hg _ hE) (hc)).mono ?_; rintro e w' ⟨rfl, hE'⟩; replace hE := hE.trans hE'; clear hE') | (go_at_call 138; (first | (with_reducible refine Calls.mono (has_val _ _ (x : Int) _ (hg _ hE) hx) ?_) | (with_reducible refine Calls.mono (has_val _ _ (y : Int) _ (hg _ hE) hy) ?_)); rintro e w' ⟨rfl, hE'⟩; replace hE := hE.trans hE'; clear hE'))
        clear hc hx hy hs1 hbx
        go_loopw [9, 10] (fun rv nv wr => ∃ n : Nat, n ≤ 24 ∧ (∀ j, j < n → growTo l a (2 ^ x) (j + 1) ≠ growTo l a (2 ^ x) j) ∧ (∀ j, j < n → (growTo l a (2 ^ x) j).testBit y = false) ∧ rv = .int .i64 (growTo l a (2 ^ x) n : Nat) ∧ nv = .int .i64 n ∧ Ext wb wr) (fun _ nv _ => 25 - (intOf nv).toNat)
        case atStart => exact ⟨0, by omega, by omega, by omega, rfl, rfl, hE⟩
        case round =>
          clear hE
          obtain ⟨n, hn24, hne, hall, rfl, rfl, hE⟩ := hrel
          have hbx := hb _ hE
          have hn := dist_bound Hgr.out hx2 hne
          have hr := hgb n
          have hr1 := hgb (n + 1)
          have Hne := Lib.hid hne
          have Hall := Lib.hid hall
          clear hne hall
          cases hb' : (growTo l a (2 ^ x) n).testBit y
          · have Hb := Lib.hid hb'
            have hsum := sumF_bd Hgr.out (growTo l a (2 ^ x) n) a
            have hi := ior_nat (a := growTo l a (2 ^ x) n) (b := sumF l (growTo l a (2 ^ x) n) a) (by omega) (by omega)
            rw [← growTo_succ] at hi
            by_cases hq : growTo l a (2 ^ x) (n + 1) = growTo l a (2 ^ x) n
            · have hq' : ((growTo l a (2 ^ x) (n + 1) : Int) == (growTo l a (2 ^ x) n : Int)) = true := by rw [hq]; simp
              have Hz := Lib.hid (distN_stop (y := y) (fun j hj => by by_cases e : j = n; (subst e; exact Hb.out); exact Hall.out j (by omega)) hq)
              clear hq
              go_wp2_with (first | (go_at_call 139; refine (in_val _ y hr (by omega) _ hb').mono ?_; rintro e w' ⟨rfl, rfl⟩) | (go_at_call 113; refine (sum_any _ _ _ _ _ (hg _ hE) (Hgr) (hr) (ha2)).mono ?_; rintro e w' ⟨rfl, hE'⟩; replace hE := hE.trans hE'; clear hE'))
              go_ret
              exact ⟨ret_int (by rw [Hs.out, Hz.out]), hE0.trans hE⟩
            · have hq' : ((growTo l a (2 ^ x) (n + 1) : Int) == (growTo l a (2 ^ x) n : Int)) = false := by simp; omega
              have Hq := Lib.hid hq
              clear hq
              go_wp2_with (first | (go_at_call 139; refine (in_val _ y hr (by omega) _ hb').mono ?_; rintro e w' ⟨rfl, rfl⟩) | (go_at_call 113; refine (sum_any _ _ _ _ _ (hg _ hE) (Hgr) (hr) (ha2)).mono ?_; rintro e w' ⟨rfl, hE'⟩; replace hE := hE.trans hE'; clear hE'))
              go_roundw
              case rel => exact ⟨n + 1, by omega, fun j hj => by by_cases e : j = n; (subst e; exact Hq.out); exact Hne.out j (by omega), fun j hj => by by_cases e : j = n; (subst e; exact Hb.out); exact Hall.out j (by omega), rfl, by go_num, hE⟩
              case measure => (simp [intOf]; omega)
          · have Hz := Lib.hid (distN_at (a := a) (x := x) (by omega) Hall.out hb')
            go_wp2_with (first | (go_at_call 139; refine (in_val _ y hr (by omega) _ hb').mono ?_; rintro e w' ⟨rfl, rfl⟩))
            go_ret
            exact ⟨ret_int (by rw [Hs.out, Hz.out]), hE0.trans hE⟩
theorem sDistanceInCayley_any (v : Value) (l : List Int) (a x y : Int) (w : World) (h : Ints w v l) :
    Calls Try.prog 77 #[.agg #[v], .int .i64 a, .int .i64 x, .int .i64 y] w fun e w' => e = .returned (.int .i64 (distF l a x y)) ∧ Ext w w' := by
  obtain ⟨wb, hwb⟩ : ∃ wb, wb = w.alloc (.cells #[v] 26) := ⟨_, rfl⟩
  have hE0 := (Ext.refl w).alloc (.cells #[v] 26)
  have hb := box_cell w v 26
  rw [← hwb] at hE0 hb
  have hg : ∀ W, Ext wb W → Ints W v l := fun W hW => h.ext (hE0.trans hW)
  have hE := Ext.refl wb
  have Hsz : Hid (w.heap.size + 1 = wb.heap.size) := Lib.hid (by rw [hwb]; simp [go_sem])
  have Hwb := Lib.hid hwb
  clear hwb h
  have hbx := hb wb hE
  cases hc : connB l a
  · have Hs := Lib.hid (distF_no (l := l) (a := a) (x := x) (y := y) (by rw [hc]; rfl))
    go_enter Try.func77, Try.ntmps77
    go_wp2_with fail
    rw [← Hwb.out]
    go_wp2_with (first | (go_at_call 165; refine (sIsConnection_val _ _ _ _ (hg _ hE) (hc)).mono ?_; rintro e w' ⟨rfl, hE'⟩; replace hE := hE.trans hE'; clear hE'))
    go_ret
    exact ⟨ret_int Hs.out.symm, hE0.trans hE⟩
  · cases hx : hasB l x
    · have Hs := Lib.hid (distF_no (l := l) (a := a) (x := x) (y := y) (by rw [hx]; simp))
      go_enter Try.func77, Try.ntmps77
      go_wp2_with fail
      rw [← Hwb.out]
      go_wp2_with (first | (go_at_call 165; refine (sIsConnection_val _ _ _ _ (hg _ hE) (hc)).mono ?_; rintro e w' ⟨rfl, hE'⟩; replace hE := hE.trans hE'; clear hE') | (go_at_call 140; refine (l2Is_val _ _ _ _ (hg _ hE) (hx)).mono ?_; rintro e w' ⟨rfl, hE'⟩; replace hE := hE.trans hE'; clear hE'))
      go_ret
      exact ⟨ret_int Hs.out.symm, hE0.trans hE⟩
    · cases hy : hasB l y
      ·
        have Hs := Lib.hid (distF_no (l := l) (a := a) (x := x) (y := y) (by rw [hy]; simp))
        go_enter Try.func77, Try.ntmps77
        go_wp2_with fail
        rw [← Hwb.out]
        go_wp2_with (first | (go_at_call 165; refine (sIsConnection_val _ _ _ _ (hg _ hE) (hc)).mono ?_; rintro e w' ⟨rfl, hE'⟩; replace hE := hE.trans hE'; clear hE') | (go_at_call 140; (first | (with_reducible refine Calls.mono (l2Is_val _ _ x _ (hg _ hE) hx) ?_) | (with_reducible refine Calls.mono (l2Is_val _ _ y _ (hg _ hE) hy) ?_)); rintro e w' ⟨rfl, hE'⟩; replace hE := hE.trans hE'; clear hE'))
        go_ret
        exact ⟨ret_int Hs.out.symm, hE0.trans hE⟩
      · have Hv : Hid ((connB l a && hasB l x && hasB l y) = true) := Lib.hid (by rw [hc, hx, hy]; rfl)
        obtain ⟨a, rfl, ha1, ha2, hgr⟩ := connB_nat hc
        obtain ⟨x, rfl, hx2, -⟩ := hasB_nat hx
        obtain ⟨y, rfl, hy2, -⟩ := hasB_nat hy
        have Hs := Lib.hid (distF_yes Hv.out)
        have Hgr := Lib.hid hgr
        have hob := ord_bd hgr
        have hs1 := ishl_one (n := x) (by omega)
        have hp1 : 2 ^ x < 2 ^ ord l := Nat.pow_lt_pow_right (by omega) hx2
        have hgb := fun n => growTo_bd (a := a) hgr hp1 n
        clear hgr hp1
        go_enter Try.func77, Try.ntmps77
        go_wp2_with fail
        rw [← Hwb.out]
        go_wp2_with (first | (go_at_call 165; refine (sIsConnection_val _ _ _ _ (hg _ hE) (hc)).mono ?_; rintro e w' ⟨rfl, hE'⟩; replace hE := hE.trans hE'; clear hE') | (go_at_call 140; (first | (with_reducible refine Calls.mono (l2Is_val _ _ (x : Int) _ (hg _ hE) hx) ?_) | (with_reducible refine Calls.mono (l2Is_val _ _ (y : Int) _ (hg _ hE) hy) ?_)); rintro e w' ⟨rfl, hE'⟩; replace hE := hE.trans hE'; clear hE'))
        clear hc hx hy hs1 hbx
        go_loopw [9, 10] (fun rv nv wr => ∃ n : Nat, n ≤ ord l + 1 ∧ (∀ j, j < n → (growTo l a (2 ^ x) j).testBit y = false) ∧ rv = .int .i64 (growTo l a (2 ^ x) n : Nat) ∧ nv = .int .i64 n ∧ Ext wb wr) (fun _ nv _ => ord l + 1 - (intOf nv).toNat)
        case atStart => exact ⟨0, by omega, by omega, rfl, rfl, hE⟩
        case round =>
          clear hE
          obtain ⟨n, hn24, hall, rfl, rfl, hE⟩ := hrel
          have hbx := hb _ hE
          have hr := hgb n
          have hr1 := hgb (n + 1)
          have Hall := Lib.hid hall
          clear hall
          by_cases hlt : n ≤ ord l
          · have hsh := ishr_nat (a := growTo l a (2 ^ x) n) (n := y) (by omega)
            have hbt := bit_test' (a := growTo l a (2 ^ x) n) (n := y) (by omega) (by omega)
            cases hb' : (growTo l a (2 ^ x) n).testBit y
            · rw [hb'] at hbt
              have Hb := Lib.hid hb'
              have hsum := sumF_bd Hgr.out (growTo l a (2 ^ x) n) a
              have hi := ior_nat (a := growTo l a (2 ^ x) n) (b := sumF l (growTo l a (2 ^ x) n) a) (by omega) (by omega)
              rw [← growTo_succ] at hi
              go_wp2_with (first | (go_at_call 115; refine (l2Order_any _ _ _ (hg _ hE) (Hgr)).mono ?_; rintro e w' ⟨rfl, hE'⟩; replace hE := hE.trans hE'; clear hE') | (go_at_call 118; refine (l4Sum_any _ _ _ _ _ (hg _ hE) (Hgr) (hr) (ha2)).mono ?_; rintro e w' ⟨rfl, hE'⟩; replace hE := hE.trans hE'; clear hE'))
              go_roundw
              case rel => exact ⟨n + 1, by omega, fun j hj => by by_cases e : j = n; (subst e; exact Hb.out); exact Hall.out j (by omega), rfl, by go_num, hE⟩
              case measure => (simp [intOf]; omega)
            · rw [hb'] at hbt
              have Hz := Lib.hid (distN_at (a := a) (x := x) (by omega) Hall.out hb')
              go_wp2_with (first | (go_at_call 115; refine (l2Order_any _ _ _ (hg _ hE) (Hgr)).mono ?_; rintro e w' ⟨rfl, hE'⟩; replace hE := hE.trans hE'; clear hE'))
              go_ret
              exact ⟨ret_int (by rw [Hs.out, Hz.out]), hE0.trans hE⟩
          · have Hz := Lib.hid (distN_over Hgr.out (a := a) (y := y) (n := ord l) hx2 (fun j hj => Hall.out j (by omega)) (by omega))
            go_wp2_with (first | (go_at_call 115; refine (l2Order_any _ _ _ (hg _ hE) (Hgr)).mono ?_; rintro e w' ⟨rfl, hE'⟩; replace hE := hE.trans hE'; clear hE'))
            go_ret
            exact ⟨ret_int (by rw [Hs.out, Hz.out]), hE0.trans hE⟩
end Go.Zz
