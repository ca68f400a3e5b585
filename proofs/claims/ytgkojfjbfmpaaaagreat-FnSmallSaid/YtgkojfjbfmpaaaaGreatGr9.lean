/- Defects of sums, periods, common differences, the case of Kemperman. -/
import Derived.Test.YtgkojfjbfmpaaaaGreatGr8
import Derived.Test.YtgkojfjbfmpaaaaGreatGr7
import Derived.Deep.RegionHeld3
import Derived.Deep.RegionWith
namespace Go.Zz
open Go.RowKit Go.Proofs
set_option maxHeartbeats 1000000
set_option maxRecDepth 20000

def sdF (l : List Int) (a b : Int) : Int := if fullB l a b then (cnt (sumF l a.toNat b.toNat) : Int) - cnt a.toNat - cnt b.toNat + 1 else -100
theorem sdF_no {l : List Int} {a b : Int} (h : fullB l a b = false) : sdF l a b = -100 := by unfold sdF; rw [h]; rfl
theorem sdF_yes {l : List Int} {a b : Nat} (h : fullB l a b = true) : sdF l a b = (cnt (sumF l a b) : Int) - cnt a - cnt b + 1 := by unfold sdF; rw [if_pos h]; rfl
theorem sdF_bd (l : List Int) (a b : Int) (h : fullB l a b = true) : -47 ≤ sdF l a b ∧ sdF l a b ≤ 25 := by
  obtain ⟨m, n, rfl, rfl, -⟩ := fullB_nat h
  rw [sdF_yes h]
  have := cnt_le (sumF l m n); have := cnt_le m; have := cnt_le n
  omega
theorem shiftF_zero {l : List Int} (h : isGrp l = true) {a : Nat} (ha : a < 2 ^ ord l) : shiftF l a 0 = a := by
  apply Nat.eq_of_testBit_eq
  intro i
  apply bool_eq_of
  rw [testBit_shiftF]
  constructor
  · rintro ⟨y, _, hy, e⟩
    rw [addF_zero l (isGrp_ords h) y (bit_lt ha hy)] at e
    subst e; exact hy
  · intro hi
    have := bit_lt ha hi
    exact ⟨i, Nat.lt_of_lt_of_le this (ord_bd h).2, hi, addF_zero l (isGrp_ords h) i this⟩
theorem testBit_stabTo {l : List Int} {a k x : Nat} : (stabTo l a k).testBit x = true ↔ x < k ∧ shiftF l a x = a := by
  unfold stabTo; rw [testBit_bset]; simp
theorem stabF_zero {l : List Int} (h : isGrp l = true) {a : Nat} (ha : a < 2 ^ ord l) : (stabF l a).testBit 0 = true :=
  testBit_stabTo.2 ⟨(ord_bd h).1, shiftF_zero h ha⟩
theorem cnt_gt_one {n : Nat} (h : n.testBit 0 = true) (hn : n < 2 ^ 24) : 1 < cnt n ↔ 1 < n := by
  rw [Nat.testBit_zero] at h
  have h1 : n % 2 = 1 := of_decide_eq_true h
  have h2 := cnt_half n hn
  by_cases h3 : 1 < n
  · have := cnt_pos (a := n / 2) (by omega) (by omega)
    omega
  · have e : n / 2 = 0 := by omega
    rw [e, cnt_zero] at h2
    omega
def perF (l : List Int) (a : Int) : Bool := isSetB l a && decide (1 < stabF l a.toNat)
theorem perF_no {l : List Int} {a : Int} (h : isSetB l a = false) : perF l a = false := by unfold perF; rw [h]; rfl
theorem perF_yes {l : List Int} {n : Nat} (h : isSetB l n = true) : perF l n = decide (1 < stabF l n) := by unfold perF; rw [h]; rfl
/-- where a list has a number first -/
def idxF (M : List Int) (x : Int) : Int := match (List.range M.length).find? (fun k => decide (nth M k = x)) with | some k => (k : Int) | none => -1
theorem idxF_at {M : List Int} {x : Int} {k : Nat} (hk : k < M.length) (h : ∀ j, j < k → nth M j ≠ x) (e : nth M k = x) : idxF M x = k := by
  unfold idxF; rw [find_at hk (fun j hj => decide_eq_false (h j hj)) (decide_eq_true e)]
theorem idxF_none {M : List Int} {x : Int} (h : ∀ j, j < M.length → nth M j ≠ x) : idxF M x = -1 := by
  unfold idxF; rw [find_none (fun j hj => decide_eq_false (h j hj))]
theorem nmem_of {M : List Int} {x : Int} (h : ∀ j, j < M.length → nth M j ≠ x) : x ∉ M := fun hx => by
  obtain ⟨k, hk, e⟩ := mem_nth hx; exact h k hk e
def memB (M : List Int) (x : Int) : Bool := decide (x ∈ M)
theorem memB_idx (M : List Int) (x : Int) : decide (0 ≤ idxF M x) = memB M x := by
  by_cases h : ∃ k, k < M.length ∧ nth M k = x
  · have : x ∈ M := by obtain ⟨k, hk, e⟩ := h; rw [← e]; exact nth_mem hk
    have hm : memB M x = true := decide_eq_true this
    rw [hm, decide_eq_true_eq]
    unfold idxF
    cases hf : (List.range M.length).find? (fun k => decide (nth M k = x)) with
    | some k => simp only []; omega
    | none =>
      rw [List.find?_eq_none] at hf
      obtain ⟨k, hk, e⟩ := h
      exact absurd (decide_eq_true e) (hf k (List.mem_range.2 hk))
  · have h' : ∀ j, j < M.length → nth M j ≠ x := fun j hj e => h ⟨j, hj, e⟩
    rw [idxF_none h']
    have hm : memB M x = false := decide_eq_false (nmem_of h')
    rw [hm]; rfl
def comK (L M : List Int) : Option Nat := (List.range L.length).find? (fun k => memB M (nth L k))
def comD (L M : List Int) : Int := match comK L M with | some k => nth L k | none => 0
def comB (L M : List Int) : Bool := (comK L M).isSome
theorem com_at {L M : List Int} {k : Nat} (hk : k < L.length) (h : ∀ j, j < k → memB M (nth L j) = false) (e : memB M (nth L k) = true) : comD L M = nth L k ∧ comB L M = true := by
  unfold comD comB comK; rw [find_at hk h e]; exact ⟨rfl, rfl⟩
theorem com_none {L M : List Int} (h : ∀ j, j < L.length → memB M (nth L j) = false) : comD L M = 0 ∧ comB L M = false := by
  unfold comD comB comK; rw [find_none h]; exact ⟨rfl, rfl⟩

theorem areFull_val (v : Value) (l : List Int) (a b : Int) (w : World) (h : Ints w v l) {c : Bool} (hc : fullB l a b = c) :
    Calls Tryz.prog 56 #[.agg #[v], .int .i64 a, .int .i64 b] w fun e w' => e = .returned (.bool c) ∧ Ext w w' := by subst hc; exact areFull_any v l a b w h
theorem SumDefect_any (v : Value) (l : List Int) (a b : Int) (w : World) (h : Ints w v l) :
    Calls Tryz.prog 58 #[.agg #[v], .int .i64 a, .int .i64 b] w fun e w' => e = .returned (.int .i64 (sdF l a b)) ∧ Ext w w' := by
  obtain ⟨wb, hwb⟩ : ∃ wb, wb = w.alloc (.cells #[v] 26) := ⟨_, rfl⟩
  have hE0 := (Ext.refl w).alloc (.cells #[v] 26)
  have hb := box_cell w v 26
  rw [← hwb] at hE0 hb
  have hg : ∀ W, Ext wb W → Ints W v l := fun W hW => h.ext (hE0.trans hW)
  have hE := Ext.refl wb
  have Hsz : Hid (w.heap.size + 1 = wb.heap.size) := Lib.hid (by rw [hwb]; simp [go_sem])
  have Hwb := Lib.hid hwb
  clear hwb h
  have hbx := hb wb hE
  cases hf : fullB l a b
  · have Hs := Lib.hid (sdF_no hf)
    go_enter Tryz.func58, Tryz.ntmps58
    go_wp2_with fail
    rw [← Hwb.out]
    go_wp2_with (first | (go_at_call 56; refine (areFull_val _ _ _ _ _ (hg _ hE) hf).mono ?_; rintro e w' ⟨rfl, hE'⟩; replace hE := hE.trans hE'; clear hE'))
    go_ret
    exact ⟨ret_int Hs.out.symm, hE0.trans hE⟩
  · have hf' := hf
    obtain ⟨m, n, rfl, rfl, -, -, -, -, ha, hb', hgr, -, -⟩ := fullB_nat hf
    have Hs := Lib.hid (sdF_yes hf')
    have Hgr := Lib.hid hgr
    have q := sumF_bd hgr m n
    have q1 := cnt_le (sumF l m n)
    have q2 := cnt_le m
    have q3 := cnt_le n
    clear hgr hf'
    go_enter Tryz.func58, Tryz.ntmps58
    go_wp2_with fail
    rw [← Hwb.out]
    go_wp2_with (first | (go_at_call 56; refine (areFull_val _ _ _ _ _ (hg _ hE) hf).mono ?_; rintro e w' ⟨rfl, hE'⟩; replace hE := hE.trans hE'; clear hE') | (go_at_call 28; refine (sum_any _ _ _ _ _ (hg _ hE) (Hgr) (ha) (hb')).mono ?_; rintro e w' ⟨rfl, hE'⟩; replace hE := hE.trans hE'; clear hE') | (go_at_call 33; (first | (with_reducible refine Calls.mono (bits_any _ q _) ?_) | (with_reducible refine Calls.mono (bits_any _ ha _) ?_) | (with_reducible refine Calls.mono (bits_any _ hb' _) ?_)); rintro e w' ⟨rfl, rfl⟩))
    go_ret
    exact ⟨ret_int Hs.out.symm, hE0.trans hE⟩
theorem sSumDefect_any (v : Value) (l : List Int) (a b : Int) (w : World) (h : Ints w v l) :
    Calls Tryz.prog 21 #[.agg #[v], .int .i64 a, .int .i64 b] w fun e w' => e = .returned (.int .i64 (sdF l a b)) ∧ Ext w w' := by
  obtain ⟨wb, hwb⟩ : ∃ wb, wb = w.alloc (.cells #[v] 26) := ⟨_, rfl⟩
  have hE0 := (Ext.refl w).alloc (.cells #[v] 26)
  have hb := box_cell w v 26
  rw [← hwb] at hE0 hb
  have hg : ∀ W, Ext wb W → Ints W v l := fun W hW => h.ext (hE0.trans hW)
  have hE := Ext.refl wb
  have Hsz : Hid (w.heap.size + 1 = wb.heap.size) := Lib.hid (by rw [hwb]; simp [go_sem])
  have Hwb := Lib.hid hwb
  clear hwb h
  have hbx := hb wb hE
  cases hf : fullB l a b
  · have Hs := Lib.hid (sdF_no hf)
    cases h1 : isSetB l a
    ·
      go_enter Tryz.func21, Tryz.ntmps21
      go_wp2_with fail
      rw [← Hwb.out]
      go_wp2_with (first | (go_at_call 16; refine (sIsSet_val _ _ _ _ (hg _ hE) (h1)).mono ?_; rintro e w' ⟨rfl, hE'⟩; replace hE := hE.trans hE'; clear hE'))
      go_ret
      exact ⟨ret_int Hs.out.symm, hE0.trans hE⟩
    · cases h2 : isSetB l b
      ·
        go_enter Tryz.func21, Tryz.ntmps21
        go_wp2_with fail
        rw [← Hwb.out]
        go_wp2_with (first | (go_at_call 16; (first | (with_reducible refine Calls.mono (sIsSet_val _ _ a _ (hg _ hE) h1) ?_) | (with_reducible refine Calls.mono (sIsSet_val _ _ b _ (hg _ hE) h2) ?_)); rintro e w' ⟨rfl, hE'⟩; replace hE := hE.trans hE'; clear hE'))
        go_ret
        exact ⟨ret_int Hs.out.symm, hE0.trans hE⟩
      · cases h3 : (a == 0)
        · have h4 : (b == 0) = true := by unfold fullB at hf; rw [h1, h2, h3] at hf; simpa using hf
          clear hf
          ·
            go_enter Tryz.func21, Tryz.ntmps21
            go_wp2_with fail
            rw [← Hwb.out]
            go_wp2_with (first | (go_at_call 16; (first | (with_reducible refine Calls.mono (sIsSet_val _ _ a _ (hg _ hE) h1) ?_) | (with_reducible refine Calls.mono (sIsSet_val _ _ b _ (hg _ hE) h2) ?_)); rintro e w' ⟨rfl, hE'⟩; replace hE := hE.trans hE'; clear hE'))
            go_ret
            exact ⟨ret_int Hs.out.symm, hE0.trans hE⟩
        · clear hf
          ·
            go_enter Tryz.func21, Tryz.ntmps21
            go_wp2_with fail
            rw [← Hwb.out]
            go_wp2_with (first | (go_at_call 16; (first | (with_reducible refine Calls.mono (sIsSet_val _ _ a _ (hg _ hE) h1) ?_) | (with_reducible refine Calls.mono (sIsSet_val _ _ b _ (hg _ hE) h2) ?_)); rintro e w' ⟨rfl, hE'⟩; replace hE := hE.trans hE'; clear hE'))
            go_ret
            exact ⟨ret_int Hs.out.symm, hE0.trans hE⟩
  · have hf' := hf
    obtain ⟨m, n, rfl, rfl, h3, h4, -, -, ha, hb', hgr, h1, h2⟩ := fullB_nat hf
    have Hs := Lib.hid (sdF_yes hf')
    have Hgr := Lib.hid hgr
    have q := sumF_bd hgr m n
    have q1 := cnt_le (sumF l m n)
    have q2 := cnt_le m
    have q3 := cnt_le n
    have h3' : ((m : Int) == 0) = false := by simp; omega
    have h4' : ((n : Int) == 0) = false := by simp; omega
    clear hgr hf' hf h3 h4
    go_enter Tryz.func21, Tryz.ntmps21
    go_wp2_with fail
    rw [← Hwb.out]
    go_wp2_with (first | (go_at_call 16; (first | (with_reducible refine Calls.mono (sIsSet_val _ _ (m : Int) _ (hg _ hE) h1) ?_) | (with_reducible refine Calls.mono (sIsSet_val _ _ (n : Int) _ (hg _ hE) h2) ?_)); rintro e w' ⟨rfl, hE'⟩; replace hE := hE.trans hE'; clear hE') | (go_at_call 31; refine (l4Sum_any _ _ _ _ _ (hg _ hE) (Hgr) (ha) (hb')).mono ?_; rintro e w' ⟨rfl, hE'⟩; replace hE := hE.trans hE'; clear hE') | (go_at_call 36; (first | (with_reducible refine Calls.mono (l3Bits_any _ q _) ?_) | (with_reducible refine Calls.mono (l3Bits_any _ ha _) ?_) | (with_reducible refine Calls.mono (l3Bits_any _ hb' _) ?_)); rintro e w' ⟨rfl, rfl⟩))
    go_ret
    exact ⟨ret_int Hs.out.symm, hE0.trans hE⟩
theorem IsPeriodic_any (v : Value) (l : List Int) (a : Int) (w : World) (h : Ints w v l) :
    Calls Tryz.prog 42 #[.agg #[v], .int .i64 a] w fun e w' => e = .returned (.bool (perF l a)) ∧ Ext w w' := by
  obtain ⟨wb, hwb⟩ : ∃ wb, wb = w.alloc (.cells #[v] 26) := ⟨_, rfl⟩
  have hE0 := (Ext.refl w).alloc (.cells #[v] 26)
  have hb := box_cell w v 26
  rw [← hwb] at hE0 hb
  have hg : ∀ W, Ext wb W → Ints W v l := fun W hW => h.ext (hE0.trans hW)
  have hE := Ext.refl wb
  have Hsz : Hid (w.heap.size + 1 = wb.heap.size) := Lib.hid (by rw [hwb]; simp [go_sem])
  have Hwb := Lib.hid hwb
  clear hwb h
  have hbx := hb wb hE
  cases hs : isSetB l a
  · have Hs := Lib.hid (perF_no hs)
    go_enter Tryz.func42, Tryz.ntmps42
    go_wp2_with fail
    rw [← Hwb.out]
    go_wp2_with (first | (go_at_call 32; refine (IsSet_val _ _ _ _ (hg _ hE) (hs)).mono ?_; rintro e w' ⟨rfl, hE'⟩; replace hE := hE.trans hE'; clear hE'))
    go_ret
    exact ⟨ret_bool Hs.out.symm, hE0.trans hE⟩
  · obtain ⟨n, rfl, h1, h2, hgr⟩ := isSetB_nat hs
    have hst : stabF l n < 2 ^ 24 := Nat.lt_of_lt_of_le (stabF_lt l _) (pow_ord hgr)
    have Hs : Hid (perF l n = decide ((1 : Int) < (cnt (stabF l n) : Int))) := Lib.hid (by
      rw [perF_yes hs]
      have := cnt_gt_one (stabF_zero hgr h1) hst
      by_cases e : 1 < stabF l n
      · rw [decide_eq_true e, decide_eq_true (by omega)]
      · rw [decide_eq_false e, decide_eq_false (by omega)])
    clear hgr h1
    go_enter Tryz.func42, Tryz.ntmps42
    go_wp2_with fail
    rw [← Hwb.out]
    go_wp2_with (first | (go_at_call 32; refine (IsSet_val _ _ _ _ (hg _ hE) (hs)).mono ?_; rintro e w' ⟨rfl, hE'⟩; replace hE := hE.trans hE'; clear hE') | (go_at_call 80; refine (StabilizerOf_nat _ _ _ _ (hg _ hE) hs).mono ?_; rintro e w' ⟨rfl, hE'⟩; replace hE := hE.trans hE'; clear hE') | (go_at_call 33; refine (bits_any _ (hst) _).mono ?_; rintro e w' ⟨rfl, rfl⟩))
    go_ret
    exact ⟨ret_bool (by rw [Hs.out]), hE0.trans hE⟩
theorem IsPeriodic_val (v : Value) (l : List Int) (a : Int) (w : World) (h : Ints w v l) {c : Bool} (hc : perF l a = c) :
    Calls Tryz.prog 42 #[.agg #[v], .int .i64 a] w fun e w' => e = .returned (.bool c) ∧ Ext w w' := by subst hc; exact IsPeriodic_any v l a w h
theorem sIsPeriodic_any (v : Value) (l : List Int) (a : Int) (w : World) (h : Ints w v l) :
    Calls Tryz.prog 47 #[.agg #[v], .int .i64 a] w fun e w' => e = .returned (.bool (perF l a)) ∧ Ext w w' := by
  obtain ⟨wb, hwb⟩ : ∃ wb, wb = w.alloc (.cells #[v] 26) := ⟨_, rfl⟩
  have hE0 := (Ext.refl w).alloc (.cells #[v] 26)
  have hb := box_cell w v 26
  rw [← hwb] at hE0 hb
  have hg : ∀ W, Ext wb W → Ints W v l := fun W hW => h.ext (hE0.trans hW)
  have hE := Ext.refl wb
  have Hsz : Hid (w.heap.size + 1 = wb.heap.size) := Lib.hid (by rw [hwb]; simp [go_sem])
  have Hwb := Lib.hid hwb
  clear hwb h
  have hbx := hb wb hE
  cases hs : isSetB l a
  · have Hs := Lib.hid (perF_no hs)
    go_enter Tryz.func47, Tryz.ntmps47
    go_wp2_with fail
    rw [← Hwb.out]
    go_wp2_with (first | (go_at_call 16; refine (sIsSet_val _ _ _ _ (hg _ hE) (hs)).mono ?_; rintro e w' ⟨rfl, hE'⟩; replace hE := hE.trans hE'; clear hE'))
    go_ret
    exact ⟨ret_bool Hs.out.symm, hE0.trans hE⟩
  · obtain ⟨n, rfl, h1, h2, hgr⟩ := isSetB_nat hs
    have Hgr := Lib.hid hgr
    have Hs : Hid (perF l n = decide ((1 : Int) < (stabF l n : Int))) := Lib.hid (by
      rw [perF_yes hs]
      by_cases e : 1 < stabF l n
      · rw [decide_eq_true e, decide_eq_true (by omega)]
      · rw [decide_eq_false e, decide_eq_false (by omega)])
    clear hgr h1
    go_enter Tryz.func47, Tryz.ntmps47
    go_wp2_with fail
    rw [← Hwb.out]
    go_wp2_with (first | (go_at_call 16; refine (sIsSet_val _ _ _ _ (hg _ hE) (hs)).mono ?_; rintro e w' ⟨rfl, hE'⟩; replace hE := hE.trans hE'; clear hE') | (go_at_call 84; refine (l6Stabilizer_any _ _ _ _ (hg _ hE) (Hgr) (h2)).mono ?_; rintro e w' ⟨rfl, hE'⟩; replace hE := hE.trans hE'; clear hE'))
    go_ret
    exact ⟨ret_bool (by rw [Hs.out]), hE0.trans hE⟩
theorem sIsPeriodic_val (v : Value) (l : List Int) (a : Int) (w : World) (h : Ints w v l) {c : Bool} (hc : perF l a = c) :
    Calls Tryz.prog 47 #[.agg #[v], .int .i64 a] w fun e w' => e = .returned (.bool c) ∧ Ext w w' := by subst hc; exact sIsPeriodic_any v l a w h
theorem slicesIndex_any (u : Value) (M : List Int) (x : Int) (w : World) (h : Ints w u M) :
    Calls Tryz.prog 104 #[u, .int .i64 x] w fun e w' => e = .returned (.int .i64 (idxF M x)) ∧ w = w' := by
  obtain ⟨ao, c, adr, rfl, hlen, hadr, hcell⟩ := h.op
  have hix := ints_index (c := c) elI szI hadr
  have HD : Hid (∀ k, k < M.length → (∀ j, j < k → nth M j ≠ x) → nth M k = x → idxF M x = k) := Lib.hid fun k hk h e => idxF_at hk h e
  clear h hadr
  go_enter Tryz.func104, Tryz.ntmps104
  go_wp2_with fail
  go_loop [8] (fun i => ∃ k : Nat, k ≤ M.length ∧ i = .int .i64 k ∧ ∀ j, j < k → nth M j ≠ x) (fun i => M.length - (intOf i).toNat)
  case atStart => exact ⟨0, by omega, rfl, by omega⟩
  case round =>
    obtain ⟨k, hk, rfl, hno⟩ := hrel
    have Hno := Lib.hid hno
    clear hno
    by_cases hlt : k < M.length
    · have hck := hcell k w hlt (Ext.refl w)
      by_cases e : nth M k = x
      · have He := Lib.hid (HD.out k hlt Hno.out e)
        have hq : (x == nth M k) = true := by rw [e]; simp
        clear e
        go_wp2_with fail
        go_ret
        exact ⟨ret_int He.out.symm, rfl⟩
      · have Hq := Lib.hid e
        have hq : (x == nth M k) = false := by simp; exact fun h => e h.symm
        clear e
        go_wp2_with fail
        go_round
        case rel => exact ⟨k + 1, by omega, by go_num, fun j hj => by by_cases e : j = k; (subst e; exact Hq.out); exact Hno.out j (by omega)⟩
        case measure => (simp [intOf]; omega)
    · have hkl : k = M.length := by omega
      subst hkl
      have He := Lib.hid (idxF_none Hno.out)
      go_wp2_with fail
      go_ret
      exact ⟨ret_int He.out.symm, rfl⟩
theorem slicesContains_any (u : Value) (M : List Int) (x : Int) (w : World) (h : Ints w u M) :
    Calls Tryz.prog 92 #[u, .int .i64 x] w fun e w' => e = .returned (.bool (memB M x)) ∧ w = w' := by
  have Hm := Lib.hid (memB_idx M x)
  go_enter Tryz.func92, Tryz.ntmps92
  go_wp2_with (first | (go_at_call 104; refine (slicesIndex_any _ _ _ _ h).mono ?_; rintro e w' ⟨rfl, rfl⟩))
  go_ret
  exact ⟨ret_bool (by rw [Hm.out]), rfl⟩
theorem slicesContains_val (u : Value) (M : List Int) (x : Int) (w : World) (h : Ints w u M) {c : Bool} (hc : memB M x = c) :
    Calls Tryz.prog 92 #[u, .int .i64 x] w fun e w' => e = .returned (.bool c) ∧ w = w' := by subst hc; exact slicesContains_any u M x w h
theorem CommonDifference_any (v : Value) (l : List Int) (a b : Int) (w : World) (h : Ints w v l) :
    Calls Tryz.prog 57 #[.agg #[v], .int .i64 a, .int .i64 b] w fun e w' => e = .returned (.tuple #[.int .i64 (comD (difF l a) (difF l b)), .bool (comB (difF l a) (difF l b))]) ∧ Ext w w' := by
  obtain ⟨wb, hwb⟩ : ∃ wb, wb = w.alloc (.cells #[v] 26) := ⟨_, rfl⟩
  have hE0 := (Ext.refl w).alloc (.cells #[v] 26)
  have hb := box_cell w v 26
  rw [← hwb] at hE0 hb
  have hg : ∀ W, Ext wb W → Ints W v l := fun W hW => h.ext (hE0.trans hW)
  have hE := Ext.refl wb
  have Hsz : Hid (w.heap.size + 1 = wb.heap.size) := Lib.hid (by rw [hwb]; simp [go_sem])
  have Hwb := Lib.hid hwb
  clear hwb h
  have hbx := hb wb hE
  go_enter Tryz.func57, Tryz.ntmps57
  go_wp2_with fail
  rw [← Hwb.out]
  refine (DifferencesOf_any _ _ _ _ (hg _ hE)).mono ?_
  rintro e w1 ⟨u1, rfl, hO1, hE1⟩
  have hbx1 := hb _ hE1
  go_wp2_with fail
  refine (DifferencesOf_any _ _ _ _ (hg _ hE1)).mono ?_
  rintro e w2 ⟨u2, rfl, hO2, hE2⟩
  have hM := fun W (hW : Ext w2 W) => (hO1.ints.ext hE2).ext hW
  have hL := hO2.ints
  obtain ⟨M, HM⟩ : ∃ M, Hid (M = difF l b) := ⟨_, Lib.hid rfl⟩
  obtain ⟨L, HL⟩ : ∃ L, Hid (L = difF l a) := ⟨_, Lib.hid rfl⟩
  have hEa := hE1.trans hE2
  rw [← HM.out] at hM
  rw [← HL.out] at hL
  clear hO1 hO2 hE1 hE2 hE hbx hbx1
  obtain ⟨aoL, cL, adrL, rfl, hlenL, hadrL, hcellL⟩ := hL.op
  have hixL := ints_index (c := cL) elI szI hadrL
  have hMw := hM w2 (Ext.refl w2)
  clear hadrL hL hM
  go_wp2_with fail
  go_loop [18] (fun i => ∃ k : Nat, k ≤ L.length ∧ i = .int .i64 k ∧ ∀ j, j < k → memB M (nth L j) = false) (fun i => L.length - (intOf i).toNat)
  case atStart => exact ⟨0, by omega, rfl, by omega⟩
  case round =>
    obtain ⟨k, hk, rfl, hno⟩ := hrel
    have Hno := Lib.hid hno
    clear hno
    by_cases hlt : k < L.length
    · have hck := hcellL k w2 hlt (Ext.refl w2)
      cases hm : memB M (nth L k)
      · have Hm := Lib.hid hm
        go_wp2_with (first | (go_at_call 92; refine (slicesContains_val _ _ _ _ hMw hm).mono ?_; rintro e w' ⟨rfl, rfl⟩))
        go_round
        case rel => exact ⟨k + 1, by omega, by go_num, fun j hj => by by_cases e : j = k; (subst e; exact Hm.out); exact Hno.out j (by omega)⟩
        case measure => (simp [intOf]; omega)
      · have Hc := Lib.hid (com_at hlt Hno.out hm)
        go_wp2_with (first | (go_at_call 92; refine (slicesContains_val _ _ _ _ hMw hm).mono ?_; rintro e w' ⟨rfl, rfl⟩))
        exact bodyPost_ret (v := .tuple #[.int .i64 (nth L k), .bool true]) (by simp [results, Tryz.results57, go_sem]) rfl ⟨by rw [← HL.out, ← HM.out, Hc.out.1, Hc.out.2], hE0.trans hEa⟩
    · have hkl : k = L.length := by omega
      subst hkl
      have Hc := Lib.hid (com_none Hno.out)
      go_wp2_with fail
      exact bodyPost_ret (v := .tuple #[.int .i64 0, .bool false]) (by simp [results, Tryz.results57, go_sem]) rfl ⟨by rw [← HL.out, ← HM.out, Hc.out.1, Hc.out.2], hE0.trans hEa⟩
theorem sCommonDifference_any (v : Value) (l : List Int) (a b : Int) (w : World) (h : Ints w v l) :
    Calls Tryz.prog 59 #[.agg #[v], .int .i64 a, .int .i64 b] w fun e w' => e = .returned (.tuple #[.int .i64 (comD (difF l a) (difF l b)), .bool (comB (difF l a) (difF l b))]) ∧ Ext w w' := by
  obtain ⟨wb, hwb⟩ : ∃ wb, wb = w.alloc (.cells #[v] 26) := ⟨_, rfl⟩
  have hE0 := (Ext.refl w).alloc (.cells #[v] 26)
  have hb := box_cell w v 26
  rw [← hwb] at hE0 hb
  have hg : ∀ W, Ext wb W → Ints W v l := fun W hW => h.ext (hE0.trans hW)
  have hE := Ext.refl wb
  have Hsz : Hid (w.heap.size + 1 = wb.heap.size) := Lib.hid (by rw [hwb]; simp [go_sem])
  have Hwb := Lib.hid hwb
  clear hwb h
  have hbx := hb wb hE
  go_enter Tryz.func59, Tryz.ntmps59
  go_wp2_with fail
  rw [← Hwb.out]
  refine (sDifferencesOf_any _ _ _ _ (hg _ hE)).mono ?_
  rintro e w1 ⟨u1, rfl, hO1, hE1⟩
  have hbx1 := hb _ hE1
  go_wp2_with fail
  refine (sDifferencesOf_any _ _ _ _ (hg _ hE1)).mono ?_
  rintro e w2 ⟨u2, rfl, hO2, hE2⟩
  have hL := hO1.ints.ext hE2
  have hM := hO2.ints
  obtain ⟨M, HM⟩ : ∃ M, Hid (M = difF l b) := ⟨_, Lib.hid rfl⟩
  obtain ⟨L, HL⟩ : ∃ L, Hid (L = difF l a) := ⟨_, Lib.hid rfl⟩
  have hEa := hE1.trans hE2
  rw [← HM.out] at hM
  rw [← HL.out] at hL
  clear hO1 hO2 hE1 hE2 hE hbx hbx1
  obtain ⟨aoL, cL, adrL, rfl, hlenL, hadrL, hcellL⟩ := hL.op
  have hixL := ints_index (c := cL) elI szI hadrL
  obtain ⟨aoM, cM, adrM, rfl, hlenM, hadrM, hcellM⟩ := hM.op
  have hixM := ints_index (c := cM) elI szI hadrM
  clear hadrL hL hM hadrM
  have hE := Ext.refl w2
  go_wp2_with fail
  go_loopw [10] (fun i wr => ∃ k : Nat, k ≤ L.length ∧ i = .int .i64 k ∧ (∀ j, j < k → memB M (nth L j) = false) ∧ Ext w2 wr) (fun i _ => L.length - (intOf i).toNat)
  case atStart => exact ⟨0, by omega, rfl, by omega, hE⟩
  case round =>
    clear hE
    obtain ⟨k, hk, rfl, hno, hE⟩ := hrel
    have Hno := Lib.hid hno
    clear hno
    by_cases hlt : k < L.length
    · go_wp2_with fail
      go_loopw [11] (fun i wr => ∃ q : Nat, q ≤ M.length ∧ i = .int .i64 q ∧ (∀ j, j < q → nth M j ≠ nth L k) ∧ Ext w2 wr) (fun i _ => M.length - (intOf i).toNat)
      case atStart => exact ⟨0, by omega, rfl, by omega, hE⟩
      case round =>
        clear hE
        obtain ⟨q, hq, rfl, hno2, hE⟩ := hrel
        have Hno2 := Lib.hid hno2
        clear hno2
        by_cases hlt2 : q < M.length
        · have hck := fun U => hcellL k _ hlt (lat_ext w2 U)
          have hcq := fun U => hcellM q _ hlt2 (lat_ext w2 U)
          by_cases e : nth L k = nth M q
          · have Hc := Lib.hid (com_at hlt Hno.out (show memB M (nth L k) = true from decide_eq_true (by rw [e]; exact nth_mem hlt2)))
            have hqe : (nth L k == nth M q) = true := by rw [e]; simp
            clear e
            go_wp2_with fail
            (refine wp_region_lat (w2) (by kernel_rfl) (by kernel_rfl) hE ?_); (repeat (go_big_quiet_step (first | fail))); (refine wpQuiet_nil ?_); (intro W hE'); (replace hE := lat_of hE'); (clear hE')
            have hck2 := hcellL k _ hlt hE
            go_wp2_with fail
            exact bodyPost_ret (v := .tuple #[.int .i64 (nth L k), .bool true]) (by simp [results, Tryz.results59, go_sem]) rfl ⟨by rw [← HL.out, ← HM.out, Hc.out.1, Hc.out.2], hE0.trans (hEa.trans hE)⟩
          · have Hq := Lib.hid e
            have hqe : (nth L k == nth M q) = false := by simp; exact e
            clear e
            go_wp2_with fail
            (refine wp_region_lat (w2) (by kernel_rfl) (by kernel_rfl) hE ?_); (repeat (go_big_quiet_step (first | fail))); (refine wpQuiet_nil ?_); (intro W hE'); (replace hE := lat_of hE'); (clear hE')
            go_wp2_with fail
            go_roundw
            case rel => exact ⟨q + 1, by omega, by go_num, fun j hj => by by_cases e : j = q; (subst e; exact fun e => Hq.out e.symm); exact Hno2.out j (by omega), hE⟩
            case measure => (simp [intOf]; omega)
        · have hql : q = M.length := by omega
          subst hql
          have Hm : Hid (memB M (nth L k) = false) := Lib.hid (decide_eq_false (nmem_of Hno2.out))
          go_wp2_with fail
          go_roundw
          case rel => exact ⟨k + 1, by omega, by go_num, fun j hj => by by_cases e : j = k; (subst e; exact Hm.out); exact Hno.out j (by omega), hE⟩
          case measure => (simp [intOf]; omega)
    · have hkl : k = L.length := by omega
      subst hkl
      have Hc := Lib.hid (com_none Hno.out)
      go_wp2_with fail
      exact bodyPost_ret (v := .tuple #[.int .i64 0, .bool false]) (by simp [results, Tryz.results59, go_sem]) rfl ⟨by rw [← HL.out, ← HM.out, Hc.out.1, Hc.out.2], hE0.trans (hEa.trans hE)⟩
def kcF (l : List Int) (a b : Int) : ByteArray :=
  if fullB l a b then
    if 0 < sdF l a b then ⟨#[108, 97, 114, 103, 101]⟩ else if perF l (sumF l a.toNat b.toNat : Nat) then ⟨#[112, 101, 114, 105, 111, 100, 105, 99]⟩
    else if cnt a.toNat = 1 ∨ cnt b.toNat = 1 then ⟨#[111, 110, 101]⟩ else if comB (difF l a) (difF l b) then ⟨#[115, 116, 101, 112, 115]⟩ else ⟨#[111, 116, 104, 101, 114]⟩
  else ⟨#[]⟩
theorem kc_no {l : List Int} {a b : Int} (h : fullB l a b = false) : kcF l a b = ⟨#[]⟩ := by unfold kcF; rw [h]; rfl
theorem kc_1 {l : List Int} {a b : Nat} (h : fullB l a b = true) (h1 : 0 < sdF l a b) : kcF l a b = ⟨#[108, 97, 114, 103, 101]⟩ := by unfold kcF; rw [if_pos h, if_pos h1]
theorem kc_2 {l : List Int} {a b : Nat} (h : fullB l a b = true) (h1 : ¬ 0 < sdF l a b) (h2 : perF l (sumF l a b : Nat) = true) : kcF l a b = ⟨#[112, 101, 114, 105, 111, 100, 105, 99]⟩ := by
  unfold kcF; rw [if_pos h, if_neg h1]; exact if_pos h2
theorem kc_3 {l : List Int} {a b : Nat} (h : fullB l a b = true) (h1 : ¬ 0 < sdF l a b) (h2 : perF l (sumF l a b : Nat) = false) (h3 : cnt a = 1 ∨ cnt b = 1) : kcF l a b = ⟨#[111, 110, 101]⟩ := by
  unfold kcF; rw [if_pos h, if_neg h1, if_neg (by simp only [Int.toNat_natCast]; rw [h2]; decide)]; exact if_pos h3
theorem kc_4 {l : List Int} {a b : Nat} (h : fullB l a b = true) (h1 : ¬ 0 < sdF l a b) (h2 : perF l (sumF l a b : Nat) = false) (h3 : ¬ (cnt a = 1 ∨ cnt b = 1)) (h4 : comB (difF l a) (difF l b) = true) : kcF l a b = ⟨#[115, 116, 101, 112, 115]⟩ := by
  unfold kcF; rw [if_pos h, if_neg h1, if_neg (by simp only [Int.toNat_natCast]; rw [h2]; decide), if_neg (by simpa using h3)]; exact if_pos h4
theorem kc_5 {l : List Int} {a b : Nat} (h : fullB l a b = true) (h1 : ¬ 0 < sdF l a b) (h2 : perF l (sumF l a b : Nat) = false) (h3 : ¬ (cnt a = 1 ∨ cnt b = 1)) (h4 : comB (difF l a) (difF l b) = false) : kcF l a b = ⟨#[111, 116, 104, 101, 114]⟩ := by
  unfold kcF; rw [if_pos h, if_neg h1, if_neg (by simp only [Int.toNat_natCast]; rw [h2]; decide), if_neg (by simpa using h3), if_neg (by rw [h4]; decide)]
theorem KempermanCase_any (v : Value) (l : List Int) (a b : Int) (w : World) (h : Ints w v l) :
    Calls Tryz.prog 19 #[.agg #[v], .int .i64 a, .int .i64 b] w fun e w' => e = .returned (.string (kcF l a b)) ∧ Ext w w' := by
  obtain ⟨wb, hwb⟩ : ∃ wb, wb = w.alloc (.cells #[v] 26) := ⟨_, rfl⟩
  have hE0 := (Ext.refl w).alloc (.cells #[v] 26)
  have hb := box_cell w v 26
  rw [← hwb] at hE0 hb
  have hg : ∀ W, Ext wb W → Ints W v l := fun W hW => h.ext (hE0.trans hW)
  have hE := Ext.refl wb
  have Hsz : Hid (w.heap.size + 1 = wb.heap.size) := Lib.hid (by rw [hwb]; simp [go_sem])
  have Hwb := Lib.hid hwb
  clear hwb h
  have hbx := hb wb hE
  cases hf : fullB l a b
  · have Hs := Lib.hid (kc_no hf)
 
    go_enter Tryz.func19, Tryz.ntmps19
    go_wp2_with fail
    rw [← Hwb.out]
    go_wp2_with (first | (go_at_call 56; refine (areFull_val _ _ _ _ _ (hg _ hE) hf).mono ?_; rintro e w' ⟨rfl, hE'⟩; replace hE := hE.trans hE'; clear hE') | (go_at_call 58; refine (SumDefect_any _ _ _ _ _ (hg _ hE)).mono ?_; try rw [hsd]; rintro e w' ⟨rfl, hE'⟩; replace hE := hE.trans hE'; clear hE'))
    go_ret
    exact ⟨ret_str Hs.out.symm, hE0.trans hE⟩
  · have hf' := hf
    obtain ⟨m, n, rfl, rfl, h3, h4, -, -, ha, hb', hgr, h1, h2⟩ := fullB_nat hf
    obtain ⟨D, HD⟩ : ∃ D, Hid (D = comD (difF l m) (difF l n)) := ⟨_, Lib.hid rfl⟩
    obtain ⟨C, HC⟩ : ∃ C, Hid (C = comB (difF l m) (difF l n)) := ⟨_, Lib.hid rfl⟩
    have Hgr := Lib.hid hgr
    have hsb := sdF_bd l m n hf'
    have hsum := sumF_bd hgr m n
    have hbu := fun U => hb _ (lat_ext wb U)
    have hne : (sdF l m n == -100) = false := by simp; omega
    have cCom : ∀ W, Ext wb W → Calls Tryz.prog 57 #[.agg #[v], .int .i64 m, .int .i64 n] W fun e w' => e = .returned (.tuple #[.int .i64 D, .bool C]) ∧ Ext W w' := fun W hW => by rw [HD.out, HC.out]; exact CommonDifference_any _ _ _ _ _ (hg _ hW)
    have Hf := Lib.hid hf'
    have w1 : ((cnt m : Int) == 1) = decide (cnt m = 1) := by rw [Bool.eq_iff_iff]; simp; omega
    have w2 : ((cnt n : Int) == 1) = decide (cnt n = 1) := by rw [Bool.eq_iff_iff]; simp; omega
    clear hgr h3 h4 h1 h2 hf'
    by_cases c1 : 0 < sdF l m n
    · have Hz := Lib.hid (kc_1 Hf.out c1)
      clear w1 w2
      go_enter Tryz.func19, Tryz.ntmps19
      go_wp2_with fail
      rw [← Hwb.out]
      go_wp2_with (first | (go_at_call 56; refine (areFull_val _ _ _ _ _ (hg _ hE) hf).mono ?_; rintro e w' ⟨rfl, hE'⟩; replace hE := hE.trans hE'; clear hE') | (go_at_call 57; refine (cCom _ hE).mono ?_; rintro e w' ⟨rfl, hE'⟩; replace hE := hE.trans hE'; clear hE') | (go_at_call 58; refine (SumDefect_any _ _ _ _ _ (hg _ hE)).mono ?_; rintro e w' ⟨rfl, hE'⟩; replace hE := hE.trans hE'; clear hE'))
      go_ret
      exact ⟨ret_str Hz.out.symm, hE0.trans hE⟩
    · have C1 := Lib.hid c1
      have c1' : sdF l m n ≤ 0 := by omega
      clear c1
      cases c2 : perF l (sumF l m n : Nat)
      · have C2 := Lib.hid c2
        by_cases c3 : cnt m = 1 ∨ cnt n = 1
        · have Hz := Lib.hid (kc_3 Hf.out C1.out c2 c3)
          rcases (by omega : cnt m = 1 ∨ (¬ cnt m = 1 ∧ cnt n = 1)) with d | ⟨d, d2⟩
          · have k1 : ((cnt m : Int) == 1) = true := by rw [w1, decide_eq_true d]
            clear w1 w2 c3 d
            go_enter Tryz.func19, Tryz.ntmps19
            go_wp2_with fail
            rw [← Hwb.out]
            go_wp2_with (first | (go_at_call 56; refine (areFull_val _ _ _ _ _ (hg _ hE) hf).mono ?_; rintro e w' ⟨rfl, hE'⟩; replace hE := hE.trans hE'; clear hE') | (go_at_call 57; refine (cCom _ hE).mono ?_; rintro e w' ⟨rfl, hE'⟩; replace hE := hE.trans hE'; clear hE') | (go_at_call 58; refine (SumDefect_any _ _ _ _ _ (hg _ hE)).mono ?_; rintro e w' ⟨rfl, hE'⟩; replace hE := hE.trans hE'; clear hE'))
            (refine wp_region_lat (wb) (by kernel_rfl) (by kernel_rfl) hE ?_); (repeat (go_big_quiet_step (first | (go_at_call 28; exact Calls.lat (sum_any _ _ _ _ _ (hg _ (lat_ext wb _)) Hgr ha hb')) | (go_at_call 42; exact Calls.lat (IsPeriodic_val _ _ _ _ (hg _ (lat_ext wb _)) c2))))); (refine wpQuiet_nil ?_); (intro W hE'); (replace hE := lat_of hE'); (clear hE')
            go_wp2_with (first | (go_at_call 33; (first | (with_reducible refine Calls.mono (bits_any _ ha _) ?_) | (with_reducible refine Calls.mono (bits_any _ hb' _) ?_)); rintro e w' ⟨rfl, rfl⟩))
            go_ret
            exact ⟨ret_str Hz.out.symm, hE0.trans hE⟩
          · have k1 : ((cnt m : Int) == 1) = false := by rw [w1, decide_eq_false d]
            have k2 : ((cnt n : Int) == 1) = true := by rw [w2, decide_eq_true d2]
            clear w1 w2 c3 d d2
            go_enter Tryz.func19, Tryz.ntmps19
            go_wp2_with fail
            rw [← Hwb.out]
            go_wp2_with (first | (go_at_call 56; refine (areFull_val _ _ _ _ _ (hg _ hE) hf).mono ?_; rintro e w' ⟨rfl, hE'⟩; replace hE := hE.trans hE'; clear hE') | (go_at_call 57; refine (cCom _ hE).mono ?_; rintro e w' ⟨rfl, hE'⟩; replace hE := hE.trans hE'; clear hE') | (go_at_call 58; refine (SumDefect_any _ _ _ _ _ (hg _ hE)).mono ?_; rintro e w' ⟨rfl, hE'⟩; replace hE := hE.trans hE'; clear hE'))
            (refine wp_region_lat (wb) (by kernel_rfl) (by kernel_rfl) hE ?_); (repeat (go_big_quiet_step (first | (go_at_call 28; exact Calls.lat (sum_any _ _ _ _ _ (hg _ (lat_ext wb _)) Hgr ha hb')) | (go_at_call 42; exact Calls.lat (IsPeriodic_val _ _ _ _ (hg _ (lat_ext wb _)) c2))))); (refine wpQuiet_nil ?_); (intro W hE'); (replace hE := lat_of hE'); (clear hE')
            go_wp2_with (first | (go_at_call 33; (first | (with_reducible refine Calls.mono (bits_any _ ha _) ?_) | (with_reducible refine Calls.mono (bits_any _ hb' _) ?_)); rintro e w' ⟨rfl, rfl⟩))
            go_ret
            exact ⟨ret_str Hz.out.symm, hE0.trans hE⟩
        · have C3 := Lib.hid c3
          have k1 : ((cnt m : Int) == 1) = false := by rw [w1, decide_eq_false (fun e => c3 (Or.inl e))]
          have k2 : ((cnt n : Int) == 1) = false := by rw [w2, decide_eq_false (fun e => c3 (Or.inr e))]
          clear w1 w2 c3
          cases C
          · have Hz := Lib.hid (kc_5 Hf.out C1.out C2.out C3.out HC.out.symm)
            go_enter Tryz.func19, Tryz.ntmps19
            go_wp2_with fail
            rw [← Hwb.out]
            go_wp2_with (first | (go_at_call 56; refine (areFull_val _ _ _ _ _ (hg _ hE) hf).mono ?_; rintro e w' ⟨rfl, hE'⟩; replace hE := hE.trans hE'; clear hE') | (go_at_call 57; refine (cCom _ hE).mono ?_; rintro e w' ⟨rfl, hE'⟩; replace hE := hE.trans hE'; clear hE') | (go_at_call 58; refine (SumDefect_any _ _ _ _ _ (hg _ hE)).mono ?_; rintro e w' ⟨rfl, hE'⟩; replace hE := hE.trans hE'; clear hE'))
            (refine wp_region_lat (wb) (by kernel_rfl) (by kernel_rfl) hE ?_); (repeat (go_big_quiet_step (first | (go_at_call 28; exact Calls.lat (sum_any _ _ _ _ _ (hg _ (lat_ext wb _)) Hgr ha hb')) | (go_at_call 42; exact Calls.lat (IsPeriodic_val _ _ _ _ (hg _ (lat_ext wb _)) c2))))); (refine wpQuiet_nil ?_); (intro W hE'); (replace hE := lat_of hE'); (clear hE')
            go_wp2_with (first | (go_at_call 33; (first | (with_reducible refine Calls.mono (bits_any _ ha _) ?_) | (with_reducible refine Calls.mono (bits_any _ hb' _) ?_)); rintro e w' ⟨rfl, rfl⟩))
            go_ret
            exact ⟨ret_str Hz.out.symm, hE0.trans hE⟩
          · have Hz := Lib.hid (kc_4 Hf.out C1.out C2.out C3.out HC.out.symm)
            go_enter Tryz.func19, Tryz.ntmps19
            go_wp2_with fail
            rw [← Hwb.out]
            go_wp2_with (first | (go_at_call 56; refine (areFull_val _ _ _ _ _ (hg _ hE) hf).mono ?_; rintro e w' ⟨rfl, hE'⟩; replace hE := hE.trans hE'; clear hE') | (go_at_call 57; refine (cCom _ hE).mono ?_; rintro e w' ⟨rfl, hE'⟩; replace hE := hE.trans hE'; clear hE') | (go_at_call 58; refine (SumDefect_any _ _ _ _ _ (hg _ hE)).mono ?_; rintro e w' ⟨rfl, hE'⟩; replace hE := hE.trans hE'; clear hE'))
            (refine wp_region_lat (wb) (by kernel_rfl) (by kernel_rfl) hE ?_); (repeat (go_big_quiet_step (first | (go_at_call 28; exact Calls.lat (sum_any _ _ _ _ _ (hg _ (lat_ext wb _)) Hgr ha hb')) | (go_at_call 42; exact Calls.lat (IsPeriodic_val _ _ _ _ (hg _ (lat_ext wb _)) c2))))); (refine wpQuiet_nil ?_); (intro W hE'); (replace hE := lat_of hE'); (clear hE')
            go_wp2_with (first | (go_at_call 33; (first | (with_reducible refine Calls.mono (bits_any _ ha _) ?_) | (with_reducible refine Calls.mono (bits_any _ hb' _) ?_)); rintro e w' ⟨rfl, rfl⟩))
            go_ret
            exact ⟨ret_str Hz.out.symm, hE0.trans hE⟩
      · have Hz := Lib.hid (kc_2 Hf.out C1.out c2)
        clear w1 w2
        go_enter Tryz.func19, Tryz.ntmps19
        go_wp2_with fail
        rw [← Hwb.out]
        go_wp2_with (first | (go_at_call 56; refine (areFull_val _ _ _ _ _ (hg _ hE) hf).mono ?_; rintro e w' ⟨rfl, hE'⟩; replace hE := hE.trans hE'; clear hE') | (go_at_call 57; refine (cCom _ hE).mono ?_; rintro e w' ⟨rfl, hE'⟩; replace hE := hE.trans hE'; clear hE') | (go_at_call 58; refine (SumDefect_any _ _ _ _ _ (hg _ hE)).mono ?_; rintro e w' ⟨rfl, hE'⟩; replace hE := hE.trans hE'; clear hE'))
        (refine wp_region_lat (wb) (by kernel_rfl) (by kernel_rfl) hE ?_); (repeat (go_big_quiet_step (first | (go_at_call 28; exact Calls.lat (sum_any _ _ _ _ _ (hg _ (lat_ext wb _)) Hgr ha hb')) | (go_at_call 42; exact Calls.lat (IsPeriodic_val _ _ _ _ (hg _ (lat_ext wb _)) c2))))); (refine wpQuiet_nil ?_); (intro W hE'); (replace hE := lat_of hE'); (clear hE')
        go_wp2_with fail
        go_ret
        exact ⟨ret_str Hz.out.symm, hE0.trans hE⟩
theorem sKempermanCase_any (v : Value) (l : List Int) (a b : Int) (w : World) (h : Ints w v l) :
    Calls Tryz.prog 20 #[.agg #[v], .int .i64 a, .int .i64 b] w fun e w' => e = .returned (.string (kcF l a b)) ∧ Ext w w' := by
  obtain ⟨wb, hwb⟩ : ∃ wb, wb = w.alloc (.cells #[v] 26) := ⟨_, rfl⟩
  have hE0 := (Ext.refl w).alloc (.cells #[v] 26)
  have hb := box_cell w v 26
  rw [← hwb] at hE0 hb
  have hg : ∀ W, Ext wb W → Ints W v l := fun W hW => h.ext (hE0.trans hW)
  have hE := Ext.refl wb
  have Hsz : Hid (w.heap.size + 1 = wb.heap.size) := Lib.hid (by rw [hwb]; simp [go_sem])
  have Hwb := Lib.hid hwb
  clear hwb h
  have hbx := hb wb hE
  cases hf : fullB l a b
  · have Hs := Lib.hid (kc_no hf)
    have hsd := sdF_no hf
    go_enter Tryz.func20, Tryz.ntmps20
    go_wp2_with fail
    rw [← Hwb.out]
    go_wp2_with (first | (fail) | (go_at_call 21; refine (sSumDefect_any _ _ _ _ _ (hg _ hE)).mono ?_; try rw [hsd]; rintro e w' ⟨rfl, hE'⟩; replace hE := hE.trans hE'; clear hE'))
    go_ret
    exact ⟨ret_str Hs.out.symm, hE0.trans hE⟩
  · have hf' := hf
    obtain ⟨m, n, rfl, rfl, h3, h4, -, -, ha, hb', hgr, h1, h2⟩ := fullB_nat hf
    obtain ⟨D, HD⟩ : ∃ D, Hid (D = comD (difF l m) (difF l n)) := ⟨_, Lib.hid rfl⟩
    obtain ⟨C, HC⟩ : ∃ C, Hid (C = comB (difF l m) (difF l n)) := ⟨_, Lib.hid rfl⟩
    have Hgr := Lib.hid hgr
    have hsb := sdF_bd l m n hf'
    have hsum := sumF_bd hgr m n
    have hbu := fun U => hb _ (lat_ext wb U)
    have hne : (sdF l m n == -100) = false := by simp; omega
    have cCom : ∀ W, Ext wb W → Calls Tryz.prog 59 #[.agg #[v], .int .i64 m, .int .i64 n] W fun e w' => e = .returned (.tuple #[.int .i64 D, .bool C]) ∧ Ext W w' := fun W hW => by rw [HD.out, HC.out]; exact sCommonDifference_any _ _ _ _ _ (hg _ hW)
    have Hf := Lib.hid hf'
    have w1 : ((cnt m : Int) == 1) = decide (cnt m = 1) := by rw [Bool.eq_iff_iff]; simp; omega
    have w2 : ((cnt n : Int) == 1) = decide (cnt n = 1) := by rw [Bool.eq_iff_iff]; simp; omega
    clear hgr h3 h4 h1 h2 hf'
    by_cases c1 : 0 < sdF l m n
    · have Hz := Lib.hid (kc_1 Hf.out c1)
      clear w1 w2
      go_enter Tryz.func20, Tryz.ntmps20
      go_wp2_with fail
      rw [← Hwb.out]
      go_wp2_with (first | (fail) | (go_at_call 59; refine (cCom _ hE).mono ?_; rintro e w' ⟨rfl, hE'⟩; replace hE := hE.trans hE'; clear hE') | (go_at_call 21; refine (sSumDefect_any _ _ _ _ _ (hg _ hE)).mono ?_; rintro e w' ⟨rfl, hE'⟩; replace hE := hE.trans hE'; clear hE'))
      go_ret
      exact ⟨ret_str Hz.out.symm, hE0.trans hE⟩
    · have C1 := Lib.hid c1
      have c1' : sdF l m n ≤ 0 := by omega
      clear c1
      cases c2 : perF l (sumF l m n : Nat)
      · have C2 := Lib.hid c2
        by_cases c3 : cnt m = 1 ∨ cnt n = 1
        · have Hz := Lib.hid (kc_3 Hf.out C1.out c2 c3)
          rcases (by omega : cnt m = 1 ∨ (¬ cnt m = 1 ∧ cnt n = 1)) with d | ⟨d, d2⟩
          · have k1 : ((cnt m : Int) == 1) = true := by rw [w1, decide_eq_true d]
            clear w1 w2 c3 d
            go_enter Tryz.func20, Tryz.ntmps20
            go_wp2_with fail
            rw [← Hwb.out]
            go_wp2_with (first | (fail) | (go_at_call 59; refine (cCom _ hE).mono ?_; rintro e w' ⟨rfl, hE'⟩; replace hE := hE.trans hE'; clear hE') | (go_at_call 21; refine (sSumDefect_any _ _ _ _ _ (hg _ hE)).mono ?_; rintro e w' ⟨rfl, hE'⟩; replace hE := hE.trans hE'; clear hE'))
            (refine wp_region_lat (wb) (by kernel_rfl) (by kernel_rfl) hE ?_); (repeat (go_big_quiet_step (first | (go_at_call 31; exact Calls.lat (l4Sum_any _ _ _ _ _ (hg _ (lat_ext wb _)) Hgr ha hb')) | (go_at_call 47; exact Calls.lat (sIsPeriodic_val _ _ _ _ (hg _ (lat_ext wb _)) c2))))); (refine wpQuiet_nil ?_); (intro W hE'); (replace hE := lat_of hE'); (clear hE')
            go_wp2_with (first | (go_at_call 36; (first | (with_reducible refine Calls.mono (l3Bits_any _ ha _) ?_) | (with_reducible refine Calls.mono (l3Bits_any _ hb' _) ?_)); rintro e w' ⟨rfl, rfl⟩))
            go_ret
            exact ⟨ret_str Hz.out.symm, hE0.trans hE⟩
          · have k1 : ((cnt m : Int) == 1) = false := by rw [w1, decide_eq_false d]
            have k2 : ((cnt n : Int) == 1) = true := by rw [w2, decide_eq_true d2]
            clear w1 w2 c3 d d2
            go_enter Tryz.func20, Tryz.ntmps20
            go_wp2_with fail
            rw [← Hwb.out]
            go_wp2_with (first | (fail) | (go_at_call 59; refine (cCom _ hE).mono ?_; rintro e w' ⟨rfl, hE'⟩; replace hE := hE.trans hE'; clear hE') | (go_at_call 21; refine (sSumDefect_any _ _ _ _ _ (hg _ hE)).mono ?_; rintro e w' ⟨rfl, hE'⟩; replace hE := hE.trans hE'; clear hE'))
            (refine wp_region_lat (wb) (by kernel_rfl) (by kernel_rfl) hE ?_); (repeat (go_big_quiet_step (first | (go_at_call 31; exact Calls.lat (l4Sum_any _ _ _ _ _ (hg _ (lat_ext wb _)) Hgr ha hb')) | (go_at_call 47; exact Calls.lat (sIsPeriodic_val _ _ _ _ (hg _ (lat_ext wb _)) c2))))); (refine wpQuiet_nil ?_); (intro W hE'); (replace hE := lat_of hE'); (clear hE')
            go_wp2_with (first | (go_at_call 36; (first | (with_reducible refine Calls.mono (l3Bits_any _ ha _) ?_) | (with_reducible refine Calls.mono (l3Bits_any _ hb' _) ?_)); rintro e w' ⟨rfl, rfl⟩))
            go_ret
            exact ⟨ret_str Hz.out.symm, hE0.trans hE⟩
        · have C3 := Lib.hid c3
          have k1 : ((cnt m : Int) == 1) = false := by rw [w1, decide_eq_false (fun e => c3 (Or.inl e))]
          have k2 : ((cnt n : Int) == 1) = false := by rw [w2, decide_eq_false (fun e => c3 (Or.inr e))]
          clear w1 w2 c3
          cases C
          · have Hz := Lib.hid (kc_5 Hf.out C1.out C2.out C3.out HC.out.symm)
            go_enter Tryz.func20, Tryz.ntmps20
            go_wp2_with fail
            rw [← Hwb.out]
            go_wp2_with (first | (fail) | (go_at_call 59; refine (cCom _ hE).mono ?_; rintro e w' ⟨rfl, hE'⟩; replace hE := hE.trans hE'; clear hE') | (go_at_call 21; refine (sSumDefect_any _ _ _ _ _ (hg _ hE)).mono ?_; rintro e w' ⟨rfl, hE'⟩; replace hE := hE.trans hE'; clear hE'))
            (refine wp_region_lat (wb) (by kernel_rfl) (by kernel_rfl) hE ?_); (repeat (go_big_quiet_step (first | (go_at_call 31; exact Calls.lat (l4Sum_any _ _ _ _ _ (hg _ (lat_ext wb _)) Hgr ha hb')) | (go_at_call 47; exact Calls.lat (sIsPeriodic_val _ _ _ _ (hg _ (lat_ext wb _)) c2))))); (refine wpQuiet_nil ?_); (intro W hE'); (replace hE := lat_of hE'); (clear hE')
            go_wp2_with (first | (go_at_call 36; (first | (with_reducible refine Calls.mono (l3Bits_any _ ha _) ?_) | (with_reducible refine Calls.mono (l3Bits_any _ hb' _) ?_)); rintro e w' ⟨rfl, rfl⟩))
            go_ret
            exact ⟨ret_str Hz.out.symm, hE0.trans hE⟩
          · have Hz := Lib.hid (kc_4 Hf.out C1.out C2.out C3.out HC.out.symm)
            go_enter Tryz.func20, Tryz.ntmps20
            go_wp2_with fail
            rw [← Hwb.out]
            go_wp2_with (first | (fail) | (go_at_call 59; refine (cCom _ hE).mono ?_; rintro e w' ⟨rfl, hE'⟩; replace hE := hE.trans hE'; clear hE') | (go_at_call 21; refine (sSumDefect_any _ _ _ _ _ (hg _ hE)).mono ?_; rintro e w' ⟨rfl, hE'⟩; replace hE := hE.trans hE'; clear hE'))
            (refine wp_region_lat (wb) (by kernel_rfl) (by kernel_rfl) hE ?_); (repeat (go_big_quiet_step (first | (go_at_call 31; exact Calls.lat (l4Sum_any _ _ _ _ _ (hg _ (lat_ext wb _)) Hgr ha hb')) | (go_at_call 47; exact Calls.lat (sIsPeriodic_val _ _ _ _ (hg _ (lat_ext wb _)) c2))))); (refine wpQuiet_nil ?_); (intro W hE'); (replace hE := lat_of hE'); (clear hE')
            go_wp2_with (first | (go_at_call 36; (first | (with_reducible refine Calls.mono (l3Bits_any _ ha _) ?_) | (with_reducible refine Calls.mono (l3Bits_any _ hb' _) ?_)); rintro e w' ⟨rfl, rfl⟩))
            go_ret
            exact ⟨ret_str Hz.out.symm, hE0.trans hE⟩
      · have Hz := Lib.hid (kc_2 Hf.out C1.out c2)
        clear w1 w2
        go_enter Tryz.func20, Tryz.ntmps20
        go_wp2_with fail
        rw [← Hwb.out]
        go_wp2_with (first | (fail) | (go_at_call 59; refine (cCom _ hE).mono ?_; rintro e w' ⟨rfl, hE'⟩; replace hE := hE.trans hE'; clear hE') | (go_at_call 21; refine (sSumDefect_any _ _ _ _ _ (hg _ hE)).mono ?_; rintro e w' ⟨rfl, hE'⟩; replace hE := hE.trans hE'; clear hE'))
        (refine wp_region_lat (wb) (by kernel_rfl) (by kernel_rfl) hE ?_); (repeat (go_big_quiet_step (first | (go_at_call 31; exact Calls.lat (l4Sum_any _ _ _ _ _ (hg _ (lat_ext wb _)) Hgr ha hb')) | (go_at_call 47; exact Calls.lat (sIsPeriodic_val _ _ _ _ (hg _ (lat_ext wb _)) c2))))); (refine wpQuiet_nil ?_); (intro W hE'); (replace hE := lat_of hE'); (clear hE')
        go_wp2_with fail
        go_ret
        exact ⟨ret_str Hz.out.symm, hE0.trans hE⟩
end Go.Zz

/- Cosets, and the parts of a graph. -/
namespace Go.Zz
open Go.RowKit Go.Proofs
set_option maxHeartbeats 400000

--%call IsSubgroupV 9 ext IsSubgroup_val _ _ _ _ ({0}) ({1})
theorem IsSubgroup_any (v : Value) (l : List Int) (a : Int) (w : World) (h : Ints w v l) :
    Calls Tryz.prog 9 #[.agg #[v], .int .i64 a] w fun e w' => e = .returned (.bool (subB l a)) ∧ Ext w w' := by
  obtain ⟨wb, hwb⟩ : ∃ wb, wb = w.alloc (.cells #[v] 26) := ⟨_, rfl⟩
  have hE0 := (Ext.refl w).alloc (.cells #[v] 26)
  have hb := box_cell w v 26
  rw [← hwb] at hE0 hb
  have hg : ∀ W, Ext wb W → Ints W v l := fun W hW => h.ext (hE0.trans hW)
  have hE := Ext.refl wb
  have Hsz : Hid (w.heap.size + 1 = wb.heap.size) := Lib.hid (by rw [hwb]; simp [go_sem])
  have Hwb := Lib.hid hwb
  clear hwb h
  have hbx := hb wb hE
  cases hs : isSetB l a
  · have Hs := Lib.hid (subB_no hs)
    go_enter Tryz.func9, Tryz.ntmps9
    go_wp2_with fail
    rw [← Hwb.out]
    go_wp2_with (first | (go_at_call 32; refine (IsSet_val _ _ _ _ (hg _ hE) (hs)).mono ?_; rintro e w' ⟨rfl, hE'⟩; replace hE := hE.trans hE'; clear hE'))
    go_ret
    exact ⟨ret_bool Hs.out.symm, hE0.trans hE⟩
  · have Hs : Hid (∀ n : Nat, a = n → subB l a = ((genF l n : Int) == (n : Int))) := Lib.hid (fun n e => by subst e; exact subB_yes hs)
    obtain ⟨n, hn, h1, h2, hgr⟩ := isSetB_nat hs
    subst hn
    have Hgr := Lib.hid hgr
    clear hgr
    go_enter Tryz.func9, Tryz.ntmps9
    go_wp2_with fail
    rw [← Hwb.out]
    go_wp2_with (first | (go_at_call 32; refine (IsSet_val _ _ _ _ (hg _ hE) (hs)).mono ?_; rintro e w' ⟨rfl, hE'⟩; replace hE := hE.trans hE'; clear hE') | (go_at_call 34; refine (generated_any _ _ _ _ (hg _ hE) (Hgr) (h2)).mono ?_; rintro e w' ⟨rfl, hE'⟩; replace hE := hE.trans hE'; clear hE'))
    go_ret
    exact ⟨ret_bool (by rw [Hs.out n rfl]), hE0.trans hE⟩
theorem IsSubgroup_val (v : Value) (l : List Int) (a : Int) (w : World) (h : Ints w v l) {b : Bool} (hb : subB l a = b) :
    Calls Tryz.prog 9 #[.agg #[v], .int .i64 a] w fun e w' => e = .returned (.bool b) ∧ Ext w w' := by
  subst hb; exact IsSubgroup_any v l a w h
--%call sIsSubgroupV 79 ext sIsSubgroup_val _ _ _ _ ({0}) ({1})
theorem sIsSubgroup_any (v : Value) (l : List Int) (a : Int) (w : World) (h : Ints w v l) :
    Calls Tryz.prog 79 #[.agg #[v], .int .i64 a] w fun e w' => e = .returned (.bool (subB l a)) ∧ Ext w w' := by
  obtain ⟨wb, hwb⟩ : ∃ wb, wb = w.alloc (.cells #[v] 26) := ⟨_, rfl⟩
  have hE0 := (Ext.refl w).alloc (.cells #[v] 26)
  have hb := box_cell w v 26
  rw [← hwb] at hE0 hb
  have hg : ∀ W, Ext wb W → Ints W v l := fun W hW => h.ext (hE0.trans hW)
  have hE := Ext.refl wb
  have Hsz : Hid (w.heap.size + 1 = wb.heap.size) := Lib.hid (by rw [hwb]; simp [go_sem])
  have Hwb := Lib.hid hwb
  clear hwb h
  have hbx := hb wb hE
  cases hs : isSetB l a
  · have Hs := Lib.hid (subB_no hs)
    go_enter Tryz.func79, Tryz.ntmps79
    go_wp2_with fail
    rw [← Hwb.out]
    go_wp2_with (first | (go_at_call 16; refine (sIsSet_val _ _ _ _ (hg _ hE) (hs)).mono ?_; rintro e w' ⟨rfl, hE'⟩; replace hE := hE.trans hE'; clear hE'))
    go_ret
    exact ⟨ret_bool Hs.out.symm, hE0.trans hE⟩
  · have Hs : Hid (∀ n : Nat, a = n → subB l a = ((genF l n : Int) == (n : Int))) := Lib.hid (fun n e => by subst e; exact subB_yes hs)
    obtain ⟨n, hn, h1, h2, hgr⟩ := isSetB_nat hs
    subst hn
    have Hgr := Lib.hid hgr
    clear hgr
    go_enter Tryz.func79, Tryz.ntmps79
    go_wp2_with fail
    rw [← Hwb.out]
    go_wp2_with (first | (go_at_call 16; refine (sIsSet_val _ _ _ _ (hg _ hE) (hs)).mono ?_; rintro e w' ⟨rfl, hE'⟩; replace hE := hE.trans hE'; clear hE') | (go_at_call 60; refine (l5Closure_any _ _ _ _ (hg _ hE) (Hgr) (h2)).mono ?_; rintro e w' ⟨rfl, hE'⟩; replace hE := hE.trans hE'; clear hE'))
    go_ret
    exact ⟨ret_bool (by rw [Hs.out n rfl]), hE0.trans hE⟩
theorem sIsSubgroup_val (v : Value) (l : List Int) (a : Int) (w : World) (h : Ints w v l) {b : Bool} (hb : subB l a = b) :
    Calls Tryz.prog 79 #[.agg #[v], .int .i64 a] w fun e w' => e = .returned (.bool b) ∧ Ext w w' := by
  subst hb; exact sIsSubgroup_any v l a w h
theorem subB_nat {l : List Int} {a : Int} (h : subB l a = true) : ∃ n : Nat, a = n ∧ n < 2 ^ ord l ∧ n < 2 ^ 24 ∧ isGrp l = true := by
  unfold subB at h
  exact isSetB_nat (Bool.and_eq_true_iff.1 h).1
end Go.Zz

/- Cosets, progressions, sets of Sidon, boxes: of both. -/
namespace Go.Zz
open Go.RowKit Go.Proofs
set_option maxHeartbeats 2000000
set_option maxRecDepth 20000

theorem IsCoset_any (v : Value) (l : List Int) (a : Int) (w : World) (h : Ints w v l) :
    Calls Tryz.prog 10 #[.agg #[v], .int .i64 a] w fun e w' => e = .returned (.bool (cstB l a)) ∧ Ext w w' := by
  obtain ⟨wb, hwb⟩ : ∃ wb, wb = w.alloc (.cells #[v] 26) := ⟨_, rfl⟩
  have hE0 := (Ext.refl w).alloc (.cells #[v] 26)
  have hb := box_cell w v 26
  rw [← hwb] at hE0 hb
  have hg : ∀ W, Ext wb W → Ints W v l := fun W hW => h.ext (hE0.trans hW)
  have hE := Ext.refl wb
  have Hsz : Hid (w.heap.size + 1 = wb.heap.size) := Lib.hid (by rw [hwb]; simp [go_sem])
  have Hwb := Lib.hid hwb
  clear hwb h
  have hbx := hb wb hE
  cases hs : isSetB l a
  · have Hs := Lib.hid (cstB_no (isOneB_no hs))
    go_enter Tryz.func10, Tryz.ntmps10
    go_wp2_with fail
    rw [← Hwb.out]
    go_wp2_with (first | (go_at_call 32; refine (IsSet_val _ _ _ _ (hg _ hE) (hs)).mono ?_; rintro e w' ⟨rfl, hE'⟩; replace hE := hE.trans hE'; clear hE'))
    go_ret
    exact ⟨ret_bool Hs.out.symm, hE0.trans hE⟩
  · obtain ⟨n, rfl, h1, h2, hgr⟩ := isSetB_nat hs
    by_cases h0 : n = 0
    · subst h0
      have Hs := Lib.hid (cstB_no (isOneB_zero l))
      go_enter Tryz.func10, Tryz.ntmps10
      go_wp2_with fail
      rw [← Hwb.out]
      go_wp2_with (first | (go_at_call 32; refine (IsSet_val _ _ _ _ (hg _ hE) (hs)).mono ?_; rintro e w' ⟨rfl, hE'⟩; replace hE := hE.trans hE'; clear hE'))
      go_ret
      exact ⟨ret_bool (by have := Hs.out; simp_all), hE0.trans hE⟩
    · have Hs := Lib.hid (cstB_hull (isOneB_yes hs (by omega)))
      have h0' : ((n : Int) != 0) = true := by simp; omega
      clear hgr h0
      go_enter Tryz.func10, Tryz.ntmps10
      go_wp2_with fail
      rw [← Hwb.out]
      go_wp2_with (first | (go_at_call 32; refine (IsSet_val _ _ _ _ (hg _ hE) (hs)).mono ?_; rintro e w' ⟨rfl, hE'⟩; replace hE := hE.trans hE'; clear hE') | (go_at_call 35; refine (AffineHull_any _ _ _ _ (hg _ hE)).mono ?_; rintro e w' ⟨rfl, hE'⟩; replace hE := hE.trans hE'; clear hE'))
      go_ret
      exact ⟨ret_bool Hs.out.symm, hE0.trans hE⟩
theorem IsCoset_val (v : Value) (l : List Int) (a : Int) (w : World) (h : Ints w v l) {c : Bool} (hc : cstB l a = c) :
    Calls Tryz.prog 10 #[.agg #[v], .int .i64 a] w fun e w' => e = .returned (.bool c) ∧ Ext w w' := by subst hc; exact IsCoset_any v l a w h
theorem sIsCoset_any (v : Value) (l : List Int) (a : Int) (w : World) (h : Ints w v l) :
    Calls Tryz.prog 46 #[.agg #[v], .int .i64 a] w fun e w' => e = .returned (.bool (cstB l a)) ∧ Ext w w' := by
  obtain ⟨wb, hwb⟩ : ∃ wb, wb = w.alloc (.cells #[v] 26) := ⟨_, rfl⟩
  have hE0 := (Ext.refl w).alloc (.cells #[v] 26)
  have hb := box_cell w v 26
  rw [← hwb] at hE0 hb
  have hg : ∀ W, Ext wb W → Ints W v l := fun W hW => h.ext (hE0.trans hW)
  have hE := Ext.refl wb
  have Hsz : Hid (w.heap.size + 1 = wb.heap.size) := Lib.hid (by rw [hwb]; simp [go_sem])
  have Hwb := Lib.hid hwb
  clear hwb h
  have hbx := fun U => hb _ (lat_ext wb U)
  cases hs : isSetB l a
  · have Hs := Lib.hid (cstB_no (isOneB_no hs))
    go_enter Tryz.func46, Tryz.ntmps46
    go_wp2_with fail
    rw [← Hwb.out]
    (refine wp_region_lat (wb) (by kernel_rfl) (by kernel_rfl) hE ?_); (repeat (go_big_quiet_step (first | (go_at_call 16; exact Calls.lat (sIsSet_val _ _ _ _ (hg _ (lat_ext wb _)) (hs)))))); (refine wpQuiet_nil ?_); (intro W hE'); (replace hE := lat_of hE'); (clear hE')
    go_wp2_with fail
    go_ret
    exact ⟨ret_bool Hs.out.symm, hE0.trans hE⟩
  · obtain ⟨n, rfl, h1, h2, hgr⟩ := isSetB_nat hs
    by_cases h0 : n = 0
    · subst h0
      have Hs := Lib.hid (cstB_no (isOneB_zero l))
      go_enter Tryz.func46, Tryz.ntmps46
      go_wp2_with fail
      rw [← Hwb.out]
      (refine wp_region_lat (wb) (by kernel_rfl) (by kernel_rfl) hE ?_); (repeat (go_big_quiet_step (first | (go_at_call 16; exact Calls.lat (sIsSet_val _ _ _ _ (hg _ (lat_ext wb _)) (hs)))))); (refine wpQuiet_nil ?_); (intro W hE'); (replace hE := lat_of hE'); (clear hE')
      go_wp2_with fail
      go_ret
      exact ⟨ret_bool (by have := Hs.out; simp_all), hE0.trans hE⟩
    · have Hs := Lib.hid (cstB_sub (isOneB_yes hs (by omega)))
      have h0' : (0 : Int) < (n : Int) := by omega
      have h0n : 0 < n := by omega
      have Hgr := Lib.hid hgr
      obtain ⟨-, -, -, l4⟩ := lowN_first h0 h2
      have hn := negF_bd hgr (lowN n)
      clear hgr
      go_enter Tryz.func46, Tryz.ntmps46
      go_wp2_with fail
      rw [← Hwb.out]
      (refine wp_region_lat (wb) (by kernel_rfl) (by kernel_rfl) hE ?_); (repeat (go_big_quiet_step (first | (go_at_call 16; exact Calls.lat (sIsSet_val _ _ _ _ (hg _ (lat_ext wb _)) (hs))) | (go_at_call 63; exact Calls.lat_same (l5Low_any _ (h0) (h2) _)) | (go_at_call 62; exact Calls.lat (l2Negate_any _ _ _ _ (hg _ (lat_ext wb _)) Hgr (by omega))) | (go_at_call 61; exact Calls.lat (l3Shift_any _ _ _ _ _ (hg _ (lat_ext wb _)) (Hgr) (h2) (hn))) | (go_at_call 79; exact Calls.lat (sIsSubgroup_any _ _ _ _ (hg _ (lat_ext wb _))))))); (refine wpQuiet_nil ?_); (intro W hE'); (replace hE := lat_of hE'); (clear hE')
      go_wp2_with fail
      go_ret
      exact ⟨ret_bool (by rw [Hs.out]), hE0.trans hE⟩
theorem sIsCoset_val (v : Value) (l : List Int) (a : Int) (w : World) (h : Ints w v l) {c : Bool} (hc : cstB l a = c) :
    Calls Tryz.prog 46 #[.agg #[v], .int .i64 a] w fun e w' => e = .returned (.bool c) ∧ Ext w w' := by subst hc; exact sIsCoset_any v l a w h
def proB (l : List Int) (a : Int) : Bool := decide (0 < (difF l a).length)
theorem IsProgression_any (v : Value) (l : List Int) (a : Int) (w : World) (h : Ints w v l) :
    Calls Tryz.prog 17 #[.agg #[v], .int .i64 a] w fun e w' => e = .returned (.bool (proB l a)) ∧ Ext w w' := by
  obtain ⟨wb, hwb⟩ : ∃ wb, wb = w.alloc (.cells #[v] 26) := ⟨_, rfl⟩
  have hE0 := (Ext.refl w).alloc (.cells #[v] 26)
  have hb := box_cell w v 26
  rw [← hwb] at hE0 hb
  have hg : ∀ W, Ext wb W → Ints W v l := fun W hW => h.ext (hE0.trans hW)
  have hE := Ext.refl wb
  have Hsz : Hid (w.heap.size + 1 = wb.heap.size) := Lib.hid (by rw [hwb]; simp [go_sem])
  have Hwb := Lib.hid hwb
  clear hwb h
  have hbx := hb wb hE
  go_enter Tryz.func17, Tryz.ntmps17
  go_wp2_with fail
  rw [← Hwb.out]
  go_wp2_with (first | (go_at_call 53; refine (Calls.sh (DifferencesOf_any _ _ _ _ (hg _ hE))).mono ?_; rintro e w1 ⟨ao, c, rfl, hO, hE'⟩; replace hE := hE.trans hE'; clear hE'))
  go_ret
  exact ⟨ret_bool (by unfold proB; rw [Bool.eq_iff_iff]; try simp), hE0.trans hE⟩
theorem IsProgression_val (v : Value) (l : List Int) (a : Int) (w : World) (h : Ints w v l) {c : Bool} (hc : proB l a = c) :
    Calls Tryz.prog 17 #[.agg #[v], .int .i64 a] w fun e w' => e = .returned (.bool c) ∧ Ext w w' := by subst hc; exact IsProgression_any v l a w h
theorem sIsProgression_any (v : Value) (l : List Int) (a : Int) (w : World) (h : Ints w v l) :
    Calls Tryz.prog 48 #[.agg #[v], .int .i64 a] w fun e w' => e = .returned (.bool (proB l a)) ∧ Ext w w' := by
  obtain ⟨wb, hwb⟩ : ∃ wb, wb = w.alloc (.cells #[v] 26) := ⟨_, rfl⟩
  have hE0 := (Ext.refl w).alloc (.cells #[v] 26)
  have hb := box_cell w v 26
  rw [← hwb] at hE0 hb
  have hg : ∀ W, Ext wb W → Ints W v l := fun W hW => h.ext (hE0.trans hW)
  have hE := Ext.refl wb
  have Hsz : Hid (w.heap.size + 1 = wb.heap.size) := Lib.hid (by rw [hwb]; simp [go_sem])
  have Hwb := Lib.hid hwb
  clear hwb h
  have hbx := hb wb hE
  go_enter Tryz.func48, Tryz.ntmps48
  go_wp2_with fail
  rw [← Hwb.out]
  go_wp2_with (first | (go_at_call 85; refine (Calls.sh (sDifferencesOf_any _ _ _ _ (hg _ hE))).mono ?_; rintro e w1 ⟨ao, c, rfl, hO, hE'⟩; replace hE := hE.trans hE'; clear hE'))
  go_ret
  exact ⟨ret_bool (by unfold proB; rw [Bool.eq_iff_iff]; try simp), hE0.trans hE⟩
theorem sIsProgression_val (v : Value) (l : List Int) (a : Int) (w : World) (h : Ints w v l) {c : Bool} (hc : proB l a = c) :
    Calls Tryz.prog 48 #[.agg #[v], .int .i64 a] w fun e w' => e = .returned (.bool c) ∧ Ext w w' := by subst hc; exact sIsProgression_any v l a w h
end Go.Zz
