/- Defects of sums, periods, common differences, the case of Kemperman. -/
import Derived.Test.YtgkojfjbfmpaaaaGr8
import Derived.Test.YtgkojfjbfmpaaaaGr7
import Derived.Test.YtgkojfjbfmpaaaaGr3
import Derived.Test.YtgkojfjbfmpaaaaGr4
import Derived.Deep.RegionHeld3
import Derived.Deep.RegionWith
namespace Go.Zz
open Go.RowKit Go.Proofs
set_option maxHeartbeats 1000000
set_option maxRecDepth 20000

def sdF (l : List Int) (a b : Int) : Int := if fullB l a b then (cnt (sumF l a.toNat b.toNat) : Int) - cnt a.toNat - cnt b.toNat + 1 else -100
theorem sdF_no {l : List Int} {a b : Int} (h : fullB l a b = false) : sdF l a b = -100 := by unfold sdF; rw [h]; rfl
theorem sdF_yes {l : List Int} {a b : Nat} (h : fullB l a b = true) : sdF l a b = (cnt (sumF l a b) : Int) - cnt a - cnt b + 1 := by unfold sdF; rw [if_pos h]; rfl
theorem sdF_bd (l : List Int) (a b : Int) (h : fullB l a b = true) : -47 ≤ sdF l a b ∧ sdF l a b ≤ 25 := by
  obtain ⟨m, n, rfl, rfl, -⟩ := fullB_nat h
  rw [sdF_yes h]
  have := cnt_le (sumF l m n); have := cnt_le m; have := cnt_le n
  omega
theorem shiftF_zero {l : List Int} (h : isGrp l = true) {a : Nat} (ha : a < 2 ^ ord l) : shiftF l a 0 = a := by
  apply Nat.eq_of_testBit_eq
  intro i
  apply bool_eq_of
  rw [testBit_shiftF]
  constructor
  · rintro ⟨y, _, hy, e⟩
    rw [addF_zero l (isGrp_ords h) y (bit_lt ha hy)] at e
    subst e; exact hy
  · intro hi
    have := bit_lt ha hi
    exact ⟨i, Nat.lt_of_lt_of_le this (ord_bd h).2, hi, addF_zero l (isGrp_ords h) i this⟩
theorem testBit_stabTo {l : List Int} {a k x : Nat} : (stabTo l a k).testBit x = true ↔ x < k ∧ shiftF l a x = a := by
  unfold stabTo; rw [testBit_bset]; simp
theorem stabF_zero {l : List Int} (h : isGrp l = true) {a : Nat} (ha : a < 2 ^ ord l) : (stabF l a).testBit 0 = true :=
  testBit_stabTo.2 ⟨(ord_bd h).1, shiftF_zero h ha⟩
theorem cnt_gt_one {n : Nat} (h : n.testBit 0 = true) (hn : n < 2 ^ 24) : 1 < cnt n ↔ 1 < n := by
  rw [Nat.testBit_zero] at h
  have h1 : n % 2 = 1 := of_decide_eq_true h
  have h2 := cnt_half n hn
  by_cases h3 : 1 < n
  · have := cnt_pos (a := n / 2) (by omega) (by omega)
    omega
  · have e : n / 2 = 0 := by omega
    rw [e, cnt_zero] at h2
    omega
def perF (l : List Int) (a : Int) : Bool := isSetB l a && decide (1 < stabF l a.toNat)
theorem perF_no {l : List Int} {a : Int} (h : isSetB l a = false) : perF l a = false := by unfold perF; rw [h]; rfl
theorem perF_yes {l : List Int} {n : Nat} (h : isSetB l n = true) : perF l n = decide (1 < stabF l n) := by unfold perF; rw [h]; rfl
/-- where a list has a number first -/
def idxF (M : List Int) (x : Int) : Int := match (List.range M.length).find? (fun k => decide (nth M k = x)) with | some k => (k : Int) | none => -1
theorem idxF_at {M : List Int} {x : Int} {k : Nat} (hk : k < M.length) (h : ∀ j, j < k → nth M j ≠ x) (e : nth M k = x) : idxF M x = k := by
  unfold idxF; rw [find_at hk (fun j hj => decide_eq_false (h j hj)) (decide_eq_true e)]
theorem idxF_none {M : List Int} {x : Int} (h : ∀ j, j < M.length → nth M j ≠ x) : idxF M x = -1 := by
  unfold idxF; rw [find_none (fun j hj => decide_eq_false (h j hj))]
theorem nmem_of {M : List Int} {x : Int} (h : ∀ j, j < M.length → nth M j ≠ x) : x ∉ M := fun hx => by
  obtain ⟨k, hk, e⟩ := mem_nth hx; exact h k hk e
def memB (M : List Int) (x : Int) : Bool := decide (x ∈ M)
theorem memB_idx (M : List Int) (x : Int) : decide (0 ≤ idxF M x) = memB M x := by
  by_cases h : ∃ k, k < M.length ∧ nth M k = x
  · have : x ∈ M := by obtain ⟨k, hk, e⟩ := h; rw [← e]; exact nth_mem hk
    have hm : memB M x = true := decide_eq_true this
    rw [hm, decide_eq_true_eq]
    unfold idxF
    cases hf : (List.range M.length).find? (fun k => decide (nth M k = x)) with
    | some k => simp only []; omega
    | none =>
      rw [List.find?_eq_none] at hf
      obtain ⟨k, hk, e⟩ := h
      exact absurd (decide_eq_true e) (hf k (List.mem_range.2 hk))
  · have h' : ∀ j, j < M.length → nth M j ≠ x := fun j hj e => h ⟨j, hj, e⟩
    rw [idxF_none h']
    have hm : memB M x = false := decide_eq_false (nmem_of h')
    rw [hm]; rfl
def comK (L M : List Int) : Option Nat := (List.range L.length).find? (fun k => memB M (nth L k))
def comD (L M : List Int) : Int := match comK L M with | some k => nth L k | none => 0
def comB (L M : List Int) : Bool := (comK L M).isSome
theorem com_at {L M : List Int} {k : Nat} (hk : k < L.length) (h : ∀ j, j < k → memB M (nth L j) = false) (e : memB M (nth L k) = true) : comD L M = nth L k ∧ comB L M = true := by
  unfold comD comB comK; rw [find_at hk h e]; exact ⟨rfl, rfl⟩
theorem com_none {L M : List Int} (h : ∀ j, j < L.length → memB M (nth L j) = false) : comD L M = 0 ∧ comB L M = false := by
  unfold comD comB comK; rw [find_none h]; exact ⟨rfl, rfl⟩

theorem IsPeriodic_any (v : Value) (l : List Int) (a : Int) (w : World) (h : Ints w v l) :
    Calls Try.prog 160 #[.agg #[v], .int .i64 a] w fun e w' => e = .returned (.bool (perF l a)) ∧ Ext w w' := by
  obtain ⟨wb, hwb⟩ : ∃ wb, wb = w.alloc (.cells #[v] 26) := ⟨_, rfl⟩
  have hE0 := (Ext.refl w).alloc (.cells #[v] 26)
  have hb := box_cell w v 26
  rw [← hwb] at hE0 hb
  have hg : ∀ W, Ext wb W → Ints W v l := fun W hW => h.ext (hE0.trans hW)
  have hE := Ext.refl wb
  have Hsz : Hid (w.heap.size + 1 = wb.heap.size) := Lib.hid (by rw [hwb]; simp [go_sem])
  have Hwb := Lib.hid hwb
  clear hwb h
  have hbx := hb wb hE
  cases hs : isSetB l a
  · have Hs := Lib.hid (perF_no hs)
    go_enter Try.func160, Try.ntmps160
    go_wp2_with fail
    rw [← Hwb.out]
    go_wp2_with (first | (go_at_call 66; refine (IsSet_val _ _ _ _ (hg _ hE) (hs)).mono ?_; rintro e w' ⟨rfl, hE'⟩; replace hE := hE.trans hE'; clear hE'))
    go_ret
    exact ⟨ret_bool Hs.out.symm, hE0.trans hE⟩
  · obtain ⟨n, rfl, h1, h2, hgr⟩ := isSetB_nat hs
    have hst : stabF l n < 2 ^ 24 := Nat.lt_of_lt_of_le (stabF_lt l _) (pow_ord hgr)
    have Hs : Hid (perF l n = decide ((1 : Int) < (cnt (stabF l n) : Int))) := Lib.hid (by
      rw [perF_yes hs]
      have := cnt_gt_one (stabF_zero hgr h1) hst
      by_cases e : 1 < stabF l n
      · rw [decide_eq_true e, decide_eq_true (by omega)]
      · rw [decide_eq_false e, decide_eq_false (by omega)])
    clear hgr h1
    go_enter Try.func160, Try.ntmps160
    go_wp2_with fail
    rw [← Hwb.out]
    go_wp2_with (first | (go_at_call 66; refine (IsSet_val _ _ _ _ (hg _ hE) (hs)).mono ?_; rintro e w' ⟨rfl, hE'⟩; replace hE := hE.trans hE'; clear hE') | (go_at_call 112; refine (StabilizerOf_nat _ _ _ _ (hg _ hE) hs).mono ?_; rintro e w' ⟨rfl, hE'⟩; replace hE := hE.trans hE'; clear hE') | (go_at_call 83; refine (bits_any _ (hst) _).mono ?_; rintro e w' ⟨rfl, rfl⟩))
    go_ret
    exact ⟨ret_bool (by rw [Hs.out]), hE0.trans hE⟩
theorem IsPeriodic_val (v : Value) (l : List Int) (a : Int) (w : World) (h : Ints w v l) {c : Bool} (hc : perF l a = c) :
    Calls Try.prog 160 #[.agg #[v], .int .i64 a] w fun e w' => e = .returned (.bool c) ∧ Ext w w' := by subst hc; exact IsPeriodic_any v l a w h
theorem sIsPeriodic_any (v : Value) (l : List Int) (a : Int) (w : World) (h : Ints w v l) :
    Calls Try.prog 152 #[.agg #[v], .int .i64 a] w fun e w' => e = .returned (.bool (perF l a)) ∧ Ext w w' := by
  obtain ⟨wb, hwb⟩ : ∃ wb, wb = w.alloc (.cells #[v] 26) := ⟨_, rfl⟩
  have hE0 := (Ext.refl w).alloc (.cells #[v] 26)
  have hb := box_cell w v 26
  rw [← hwb] at hE0 hb
  have hg : ∀ W, Ext wb W → Ints W v l := fun W hW => h.ext (hE0.trans hW)
  have hE := Ext.refl wb
  have Hsz : Hid (w.heap.size + 1 = wb.heap.size) := Lib.hid (by rw [hwb]; simp [go_sem])
  have Hwb := Lib.hid hwb
  clear hwb h
  have hbx := hb wb hE
  cases hs : isSetB l a
  · have Hs := Lib.hid (perF_no hs)
    go_enter Try.func152, Try.ntmps152
    go_wp2_with fail
    rw [← Hwb.out]
    go_wp2_with (first | (go_at_call 73; refine (sIsSet_val _ _ _ _ (hg _ hE) (hs)).mono ?_; rintro e w' ⟨rfl, hE'⟩; replace hE := hE.trans hE'; clear hE'))
    go_ret
    exact ⟨ret_bool Hs.out.symm, hE0.trans hE⟩
  · obtain ⟨n, rfl, h1, h2, hgr⟩ := isSetB_nat hs
    have Hgr := Lib.hid hgr
    have Hs : Hid (perF l n = decide ((1 : Int) < (stabF l n : Int))) := Lib.hid (by
      rw [perF_yes hs]
      by_cases e : 1 < stabF l n
      · rw [decide_eq_true e, decide_eq_true (by omega)]
      · rw [decide_eq_false e, decide_eq_false (by omega)])
    clear hgr h1
    go_enter Try.func152, Try.ntmps152
    go_wp2_with fail
    rw [← Hwb.out]
    go_wp2_with (first | (go_at_call 73; refine (sIsSet_val _ _ _ _ (hg _ hE) (hs)).mono ?_; rintro e w' ⟨rfl, hE'⟩; replace hE := hE.trans hE'; clear hE') | (go_at_call 98; refine (l6Stabilizer_any _ _ _ _ (hg _ hE) (Hgr) (h2)).mono ?_; rintro e w' ⟨rfl, hE'⟩; replace hE := hE.trans hE'; clear hE'))
    go_ret
    exact ⟨ret_bool (by rw [Hs.out]), hE0.trans hE⟩
theorem sIsPeriodic_val (v : Value) (l : List Int) (a : Int) (w : World) (h : Ints w v l) {c : Bool} (hc : perF l a = c) :
    Calls Try.prog 152 #[.agg #[v], .int .i64 a] w fun e w' => e = .returned (.bool c) ∧ Ext w w' := by subst hc; exact sIsPeriodic_any v l a w h
theorem slicesIndex_any (u : Value) (M : List Int) (x : Int) (w : World) (h : Ints w u M) :
    Calls Try.prog 187 #[u, .int .i64 x] w fun e w' => e = .returned (.int .i64 (idxF M x)) ∧ w = w' := by
  obtain ⟨ao, c, adr, rfl, hlen, hadr, hcell⟩ := h.op
  have hix := ints_index (c := c) elI szI hadr
  have HD : Hid (∀ k, k < M.length → (∀ j, j < k → nth M j ≠ x) → nth M k = x → idxF M x = k) := Lib.hid fun k hk h e => idxF_at hk h e
  clear h hadr
  go_enter Try.func187, Try.ntmps187
  go_wp2_with fail
  go_loop [8] (fun i => ∃ k : Nat, k ≤ M.length ∧ i = .int .i64 k ∧ ∀ j, j < k → nth M j ≠ x) (fun i => M.length - (intOf i).toNat)
  case atStart => exact ⟨0, by omega, rfl, by omega⟩
  case round =>
    obtain ⟨k, hk, rfl, hno⟩ := hrel
    have Hno := Lib.hid hno
    clear hno
    by_cases hlt : k < M.length
    · have hck := hcell k w hlt (Ext.refl w)
      by_cases e : nth M k = x
      · have He := Lib.hid (HD.out k hlt Hno.out e)
        have hq : (x == nth M k) = true := by rw [e]; simp
        clear e
        go_wp2_with fail
        go_ret
        exact ⟨ret_int He.out.symm, rfl⟩
      · have Hq := Lib.hid e
        have hq : (x == nth M k) = false := by simp; exact fun h => e h.symm
        clear e
        go_wp2_with fail
        go_round
        case rel => exact ⟨k + 1, by omega, by go_num, fun j hj => by by_cases e : j = k; (subst e; exact Hq.out); exact Hno.out j (by omega)⟩
        case measure => (simp [intOf]; omega)
    · have hkl : k = M.length := by omega
      subst hkl
      have He := Lib.hid (idxF_none Hno.out)
      go_wp2_with fail
      go_ret
      exact ⟨ret_int He.out.symm, rfl⟩
theorem slicesContains_any (u : Value) (M : List Int) (x : Int) (w : World) (h : Ints w u M) :
    Calls Try.prog 171 #[u, .int .i64 x] w fun e w' => e = .returned (.bool (memB M x)) ∧ w = w' := by
  have Hm := Lib.hid (memB_idx M x)
  go_enter Try.func171, Try.ntmps171
  go_wp2_with (first | (go_at_call 187; refine (slicesIndex_any _ _ _ _ h).mono ?_; rintro e w' ⟨rfl, rfl⟩))
  go_ret
  exact ⟨ret_bool (by rw [Hm.out]), rfl⟩
theorem slicesContains_val (u : Value) (M : List Int) (x : Int) (w : World) (h : Ints w u M) {c : Bool} (hc : memB M x = c) :
    Calls Try.prog 171 #[u, .int .i64 x] w fun e w' => e = .returned (.bool c) ∧ w = w' := by subst hc; exact slicesContains_any u M x w h
def kcF (l : List Int) (a b : Int) : ByteArray :=
  if fullB l a b then
    if 0 < sdF l a b then ⟨#[108, 97, 114, 103, 101]⟩ else if perF l (sumF l a.toNat b.toNat : Nat) then ⟨#[112, 101, 114, 105, 111, 100, 105, 99]⟩
    else if cnt a.toNat = 1 ∨ cnt b.toNat = 1 then ⟨#[111, 110, 101]⟩ else if comB (difF l a) (difF l b) then ⟨#[115, 116, 101, 112, 115]⟩ else ⟨#[111, 116, 104, 101, 114]⟩
  else ⟨#[]⟩
theorem kc_no {l : List Int} {a b : Int} (h : fullB l a b = false) : kcF l a b = ⟨#[]⟩ := by unfold kcF; rw [h]; rfl
theorem kc_1 {l : List Int} {a b : Nat} (h : fullB l a b = true) (h1 : 0 < sdF l a b) : kcF l a b = ⟨#[108, 97, 114, 103, 101]⟩ := by unfold kcF; rw [if_pos h, if_pos h1]
theorem kc_2 {l : List Int} {a b : Nat} (h : fullB l a b = true) (h1 : ¬ 0 < sdF l a b) (h2 : perF l (sumF l a b : Nat) = true) : kcF l a b = ⟨#[112, 101, 114, 105, 111, 100, 105, 99]⟩ := by
  unfold kcF; rw [if_pos h, if_neg h1]; exact if_pos h2
theorem kc_3 {l : List Int} {a b : Nat} (h : fullB l a b = true) (h1 : ¬ 0 < sdF l a b) (h2 : perF l (sumF l a b : Nat) = false) (h3 : cnt a = 1 ∨ cnt b = 1) : kcF l a b = ⟨#[111, 110, 101]⟩ := by
  unfold kcF; rw [if_pos h, if_neg h1, if_neg (by simp only [Int.toNat_natCast]; rw [h2]; decide)]; exact if_pos h3
theorem kc_4 {l : List Int} {a b : Nat} (h : fullB l a b = true) (h1 : ¬ 0 < sdF l a b) (h2 : perF l (sumF l a b : Nat) = false) (h3 : ¬ (cnt a = 1 ∨ cnt b = 1)) (h4 : comB (difF l a) (difF l b) = true) : kcF l a b = ⟨#[115, 116, 101, 112, 115]⟩ := by
  unfold kcF; rw [if_pos h, if_neg h1, if_neg (by simp only [Int.toNat_natCast]; rw [h2]; decide), if_neg (by simpa using h3)]; exact if_pos h4
theorem kc_5 {l : List Int} {a b : Nat} (h : fullB l a b = true) (h1 : ¬ 0 < sdF l a b) (h2 : perF l (sumF l a b : Nat) = false) (h3 : ¬ (cnt a = 1 ∨ cnt b = 1)) (h4 : comB (difF l a) (difF l b) = false) : kcF l a b = ⟨#[111, 116, 104, 101, 114]⟩ := by
  unfold kcF; rw [if_pos h, if_neg h1, if_neg (by simp only [Int.toNat_natCast]; rw [h2]; decide), if_neg (by simpa using h3), if_neg (by rw [h4]; decide)]
end Go.Zz

/- Direct sums, tilings, the bound of Kneser of the program, energies of the reference. -/
namespace Go.Zz
open Go.RowKit Go.Proofs
set_option maxHeartbeats 1000000
set_option maxRecDepth 4000

def drF (l : List Int) (a b : Int) : Bool := (isSetB l a && isSetB l b) && decide (cnt (sumF l a.toNat b.toNat) = cnt a.toNat * cnt b.toNat)
theorem drF_no {l : List Int} {a b : Int} (h : (isSetB l a && isSetB l b) = false) : drF l a b = false := by unfold drF; rw [h]; rfl
theorem drF_yes {l : List Int} {a b : Nat} (h : (isSetB l a && isSetB l b) = true) : drF l a b = (((cnt (sumF l a b) : Nat) : Int) == (cnt a : Int) * (cnt b : Int)) := by
  unfold drF; rw [h, Bool.true_and, Bool.eq_iff_iff, decide_eq_true_iff, beq_iff_eq]
  show cnt (sumF l a b) = cnt a * cnt b ↔ _
  constructor
  · intro e; rw [e]; simp
  · intro e; rw [← Int.natCast_mul] at e; exact Int.ofNat_inj.1 e
theorem cnt_mul (a b : Nat) : 0 ≤ (cnt a : Int) * (cnt b : Int) ∧ (cnt a : Int) * (cnt b : Int) ≤ 576 := by
  have h1 := cnt_le a
  have h2 := cnt_le b
  have := Nat.mul_le_mul h1 h2
  rw [← Int.natCast_mul]; omega
def tilF (l : List Int) (a b : Int) : Bool := drF l a b && decide (sumF l a.toNat b.toNat = fullN l)
theorem tilF_no {l : List Int} {a b : Int} (h : drF l a b = false) : tilF l a b = false := by unfold tilF; rw [h]; rfl
theorem tilF_yes {l : List Int} {a b : Nat} (h : drF l a b = true) : tilF l a b = (((sumF l a b : Nat) : Int) == (fullN l : Int)) := by
  unfold tilF; rw [h, Bool.true_and, Bool.eq_iff_iff, decide_eq_true_iff, beq_iff_eq]
  show sumF l a b = fullN l ↔ _
  omega
theorem drF_sets {l : List Int} {a b : Int} (h : drF l a b = true) : (isSetB l a && isSetB l b) = true := by unfold drF at h; rw [Bool.and_eq_true] at h; exact h.1

theorem IsDirect_any (v : Value) (l : List Int) (a b : Int) (w : World) (h : Ints w v l) :
    Calls Try.prog 39 #[.agg #[v], .int .i64 a, .int .i64 b] w fun e w' => e = .returned (.bool (drF l a b)) ∧ Ext w w' := by
  obtain ⟨wb, hwb⟩ : ∃ wb, wb = w.alloc (.cells #[v] 26) := ⟨_, rfl⟩
  have hE0 := (Ext.refl w).alloc (.cells #[v] 26)
  have hb := box_cell w v 26
  rw [← hwb] at hE0 hb
  have hg : ∀ W, Ext wb W → Ints W v l := fun W hW => h.ext (hE0.trans hW)
  have hE := Ext.refl wb
  have Hsz : Hid (w.heap.size + 1 = wb.heap.size) := Lib.hid (by rw [hwb]; simp [go_sem])
  have Hwb := Lib.hid hwb
  clear hwb h
  have hbx := hb wb hE
  have har := areF_two l a b
  cases hs : (isSetB l a && isSetB l b)
  · have Hs := Lib.hid (drF_no hs)
    rw [hs] at har
    clear hs
    go_enter Try.func39, Try.ntmps39
    go_wp2_with fail
    rw [← Hwb.out]; try rw [Hsz.out]
    go_wp2_with (first | (go_at_call 88; refine Calls.mono (areSets_val _ _ _ _ _ (hg _ (by repeat (first | assumption | exact Ext.refl _ | (apply And.left; assumption) | apply Ext.drew | apply Ext.alloc))) (ints_two _ _ _ _) har) ?_; rintro e w' ⟨rfl, hE'⟩; replace hE := hE.trans (Ext.trans (by repeat (first | assumption | exact Ext.refl _ | (apply And.left; assumption) | apply Ext.drew | apply Ext.alloc)) hE'); clear hE'))
    go_ret
    exact ⟨ret_bool Hs.out.symm, hE0.trans hE⟩
  · obtain ⟨h1, h2⟩ := Bool.and_eq_true_iff.1 hs
    obtain ⟨a, rfl, -, ha, hgr⟩ := isSetB_nat h1
    obtain ⟨b, rfl, -, hb', -⟩ := isSetB_nat h2
    have Hs := Lib.hid (drF_yes hs)
    rw [hs] at har
    have Hgr := Lib.hid hgr
    have hsum := sumF_bd hgr a b
    obtain ⟨hm1, hm2⟩ := cnt_mul a b
    have q1 := fun W => bits_any (sumF l a b) hsum W
    have q2 := fun W => bits_any a ha W
    have q3 := fun W => bits_any b hb' W
    clear hs hgr h1 h2
    go_enter Try.func39, Try.ntmps39
    go_wp2_with fail
    rw [← Hwb.out]; try rw [Hsz.out]
    go_wp2_with (first | (go_at_call 88; refine Calls.mono (areSets_val _ _ _ _ _ (hg _ (by repeat (first | assumption | exact Ext.refl _ | (apply And.left; assumption) | apply Ext.drew | apply Ext.alloc))) (ints_two _ _ _ _) har) ?_; rintro e w' ⟨rfl, hE'⟩; replace hE := hE.trans (Ext.trans (by repeat (first | assumption | exact Ext.refl _ | (apply And.left; assumption) | apply Ext.drew | apply Ext.alloc)) hE'); clear hE') | (go_at_call 72; refine (sum_any _ _ _ _ _ (hg _ hE) (Hgr) (ha) (hb')).mono ?_; rintro e w' ⟨rfl, hE'⟩; replace hE := hE.trans hE'; clear hE') | (go_at_call 83; (first | (with_reducible refine Calls.mono (q1 _) ?_) | (with_reducible refine Calls.mono (q2 _) ?_) | (with_reducible refine Calls.mono (q3 _) ?_)); rintro e w' ⟨rfl, rfl⟩))
    go_ret
    exact ⟨ret_bool Hs.out.symm, hE0.trans hE⟩
theorem sIsDirect_any (v : Value) (l : List Int) (a b : Int) (w : World) (h : Ints w v l) :
    Calls Try.prog 86 #[.agg #[v], .int .i64 a, .int .i64 b] w fun e w' => e = .returned (.bool (drF l a b)) ∧ Ext w w' := by
  obtain ⟨wb, hwb⟩ : ∃ wb, wb = w.alloc (.cells #[v] 26) := ⟨_, rfl⟩
  have hE0 := (Ext.refl w).alloc (.cells #[v] 26)
  have hb := box_cell w v 26
  rw [← hwb] at hE0 hb
  have hg : ∀ W, Ext wb W → Ints W v l := fun W hW => h.ext (hE0.trans hW)
  have hE := Ext.refl wb
  have Hsz : Hid (w.heap.size + 1 = wb.heap.size) := Lib.hid (by rw [hwb]; simp [go_sem])
  have Hwb := Lib.hid hwb
  clear hwb h
  have hbx := hb wb hE
  cases h1 : isSetB l a
  · have Hs := Lib.hid (drF_no (l := l) (a := a) (b := b) (by rw [h1]; rfl))
    go_enter Try.func86, Try.ntmps86
    go_wp2_with fail
    rw [← Hwb.out]
    go_wp2_with (first | (go_at_call 73; refine (sIsSet_val _ _ _ _ (hg _ hE) (h1)).mono ?_; rintro e w' ⟨rfl, hE'⟩; replace hE := hE.trans hE'; clear hE'))
    go_ret
    exact ⟨ret_bool Hs.out.symm, hE0.trans hE⟩
  · cases h2 : isSetB l b
    · have Hs := Lib.hid (drF_no (l := l) (a := a) (b := b) (by rw [h1, h2]; rfl))
      have c1 := fun W (hW : Ext wb W) => sIsSet_val v l a W (hg W hW) h1
      have c2 := fun W (hW : Ext wb W) => sIsSet_val v l b W (hg W hW) h2
      go_enter Try.func86, Try.ntmps86
      go_wp2_with fail
      rw [← Hwb.out]
      go_wp2_with (first | (go_at_call 73; (first | (with_reducible refine Calls.mono (c1 _ hE) ?_) | (with_reducible refine Calls.mono (c2 _ hE) ?_)); rintro e w' ⟨rfl, hE'⟩; replace hE := hE.trans hE'; clear hE'))
      go_ret
      exact ⟨ret_bool Hs.out.symm, hE0.trans hE⟩
    · have c1 := fun W (hW : Ext wb W) => sIsSet_val v l a W (hg W hW) h1
      have c2 := fun W (hW : Ext wb W) => sIsSet_val v l b W (hg W hW) h2
      have hs : (isSetB l a && isSetB l b) = true := by rw [h1, h2]; rfl
      obtain ⟨a, rfl, -, ha, hgr⟩ := isSetB_nat h1
      obtain ⟨b, rfl, -, hb', -⟩ := isSetB_nat h2
      have Hs := Lib.hid (drF_yes hs)
      have Hgr := Lib.hid hgr
      have hsum := sumF_bd hgr a b
      obtain ⟨hm1, hm2⟩ := cnt_mul a b
      have q1 := fun W => l3Bits_any (sumF l a b) hsum W
      have q2 := fun W => l3Bits_any a ha W
      have q3 := fun W => l3Bits_any b hb' W
      clear hs hgr h1 h2
      go_enter Try.func86, Try.ntmps86
      go_wp2_with fail
      rw [← Hwb.out]
      go_wp2_with (first | (go_at_call 73; (first | (with_reducible refine Calls.mono (c1 _ hE) ?_) | (with_reducible refine Calls.mono (c2 _ hE) ?_)); rintro e w' ⟨rfl, hE'⟩; replace hE := hE.trans hE'; clear hE') | (go_at_call 74; refine (l4Sum_any _ _ _ _ _ (hg _ hE) (Hgr) (ha) (hb')).mono ?_; rintro e w' ⟨rfl, hE'⟩; replace hE := hE.trans hE'; clear hE') | (go_at_call 85; (first | (with_reducible refine Calls.mono (q1 _) ?_) | (with_reducible refine Calls.mono (q2 _) ?_) | (with_reducible refine Calls.mono (q3 _) ?_)); rintro e w' ⟨rfl, rfl⟩))
      go_ret
      exact ⟨ret_bool Hs.out.symm, hE0.trans hE⟩
def knI (l : List Int) (a b : Int) : Int := if fullB l a b then knF l a.toNat b.toNat else -1
theorem knI_no {l : List Int} {a b : Int} (h : fullB l a b = false) : knI l a b = -1 := by unfold knI; rw [h]; rfl
theorem knI_yes {l : List Int} {a b : Nat} (h : fullB l a b = true) : knI l a b = knF l a b := by unfold knI; rw [h]; rfl
theorem sEnergyOf_any (v : Value) (l : List Int) (a b : Int) (w : World) (h : Ints w v l) :
    Calls Try.prog 16 #[.agg #[v], .int .i64 a, .int .i64 b] w fun e w' => e = .returned (.int .i64 (enF l a b)) ∧ Ext w w' := by
  obtain ⟨wb, hwb⟩ : ∃ wb, wb = w.alloc (.cells #[v] 26) := ⟨_, rfl⟩
  have hE0 := (Ext.refl w).alloc (.cells #[v] 26)
  have hb := box_cell w v 26
  rw [← hwb] at hE0 hb
  have hg : ∀ W, Ext wb W → Ints W v l := fun W hW => h.ext (hE0.trans hW)
  have hE := Ext.refl wb
  have Hsz : Hid (w.heap.size + 1 = wb.heap.size) := Lib.hid (by rw [hwb]; simp [go_sem])
  have Hwb := Lib.hid hwb
  clear hwb h
  cases hs : (isSetB l a && isSetB l b)
  · have Hs := Lib.hid (enF_no hs)
    have Ht : Hid (tabF l a b = []) := Lib.hid (by unfold tabF; rw [hs]; rfl)
    clear hs
    go_enter Try.func16, Try.ntmps16
    go_wp2_with fail
    rw [← Hwb.out]
    refine (sSumTable_any _ _ _ _ _ (hg _ hE)).mono ?_
    rw [Ht.out]
    rintro e w1 ⟨v1, rfl, hL, hE1⟩
    obtain ⟨ao, c, rfl, -⟩ := hL.shape
    rw [show ([] : List Int).length = 0 from rfl] at hL ⊢
    go_wp2_with fail
    go_ret
    exact ⟨ret_int Hs.out.symm, hE0.trans (hE.trans hE1)⟩
  · obtain ⟨h1, h2⟩ := Bool.and_eq_true_iff.1 hs
    obtain ⟨a, rfl, -, ha, hgr⟩ := isSetB_nat h1
    obtain ⟨b, rfl, -, hb', -⟩ := isSetB_nat h2
    have Hs := Lib.hid (enF_yes hs)
    have Ht := Lib.hid (tabF_N hs)
    have Hgr := Lib.hid hgr
    have hob := ord_bd hgr
    have hne : (((ord l : Nat) : Int) == 0) = false := by rw [beq_eq_false_iff_ne]; omega
    clear hs hgr h1 h2
    go_enter Try.func16, Try.ntmps16
    go_wp2_with fail
    rw [← Hwb.out]
    refine (sSumTable_any _ _ _ _ _ (hg _ hE)).mono ?_
    rw [Ht.out]
    rintro e w1 ⟨v1, rfl, hL, hE1⟩
    have hLs := hL.ints
    obtain ⟨ao, c, adr, rfl, hlen, hadr, hcell⟩ := hLs.op
    have hix := ints_index (c := c) elI szI hadr
    rw [tabN_len] at hcell hlen hix ⊢
    clear hadr hL hLs
    have hEb := hE.trans hE1
    clear hE hE1
    have hE := Ext.refl w1
    go_wp2_with fail
    go_loopw [8, 9] (fun nv i wr => ∃ k : Nat, k ≤ ord l ∧ i = .int .i64 k ∧ nv = .int .i64 (sqTo (tabN l a b) k) ∧ Ext w1 wr) (fun _ i _ => ord l - (intOf i).toNat)
    case atStart => exact ⟨0, by omega, rfl, rfl, hE⟩
    case round =>
      clear hE
      obtain ⟨k, hk, rfl, rfl, hE⟩ := hrel
      by_cases hlt : k < ord l
      · have hck := fun U => hcell k _ hlt (lat_ext w1 U)
        have hsq := Lib.hid (sqTo_succ (tabN l a b) k)
        have hb1 := sqTo_bd Hgr.out a b k
        obtain ⟨hb2, hb3⟩ := tabN_bd Hgr.out a b k
        obtain ⟨hb4, hb5⟩ := sq_bd hb2 hb3
        go_wp2_with fail
        (refine wp_region_lat (w1) (by kernel_rfl) (by kernel_rfl) hE ?_); (repeat (go_big_quiet_step (first | fail))); (refine wpQuiet_nil ?_); (intro W hE'); (replace hE := lat_of hE'); (clear hE')
        go_wp2_with fail
        go_roundw
        case rel => exact ⟨k + 1, by omega, by go_num, by rw [hsq.out], hE⟩
        case measure => (simp [intOf]; omega)
      · have hkl : k = ord l := by omega
        subst hkl
        go_wp2_with fail
        go_ret
        exact ⟨ret_int (by rw [Hs.out]), hE0.trans (hEb.trans hE)⟩
end Go.Zz

/- numbers and short of the program. -/
namespace Go.Zz
open Go.RowKit Go.Proofs
set_option maxHeartbeats 400000
set_option maxRecDepth 4000

theorem jn_congr (s : ByteArray) (f g : Nat → ByteArray) : ∀ k, (∀ i, i < k → f i = g i) → jn s f k = jn s g k := by
  intro k
  induction k with
  | zero => intro _; rfl
  | succ k ih => intro h; unfold jn; rw [ih fun i hi => h i (by omega), h k (by omega)]
theorem nthS_map (l : List Int) (i : Nat) (h : i < l.length) : nthS (l.map fmtB) i = fmtB (nth l i) := by
  simp [nthS, nth, List.getD, h]
def numF (l : List Int) : ByteArray := if l.length = 0 then ⟨#[110, 111, 110, 101]⟩ else jn comma (fun i => fmtB (nth l i)) l.length
theorem take_fmt (l : List Int) (k : Nat) (h : k < l.length) : (l.take (k + 1)).map fmtB = (l.take k).map fmtB ++ [fmtB (nth l k)] := by
  rw [List.take_add_one, List.map_append]
  simp [nth, List.getD, h]
theorem numbers_any (v : Value) (l : List Int) (w : World) (h : Ints w v l) (hr : ∀ i, i < l.length → -1 ≤ nth l i ∧ nth l i < 1000000000000) (hl : l.length ≤ 1000) :
    Calls Try.prog 113 #[v] w fun e w' => e = .returned (.string (numF l)) ∧ Ext w w' := by
  obtain ⟨ao, c, adr, rfl, hlen, hadr, hcell⟩ := h.op
  have hix := ints_index (c := c) elI szI hadr
  clear hadr h
  have Hr := Lib.hid hr
  clear hr
  have hO0 := ownS_made (Ext.refl w)
  have hE0 := (Ext.refl w).alloc (.cells #[] 9)
  by_cases h0 : l.length = 0
  · have He : Hid (numF l = ⟨#[110, 111, 110, 101]⟩) := Lib.hid (by unfold numF; rw [if_pos h0])
    go_enter Try.func113, Try.ntmps113
    go_wp2_with fail
    go_ret
    exact ⟨ret_str He.out.symm, Ext.refl _⟩
  · have h00 : ((l.length : Int) == 0) = false := by rw [beq_eq_false_iff_ne]; omega
    have He : Hid (numF l = jn comma (nthS (l.map fmtB)) (l.map fmtB).length) := Lib.hid (by
      unfold numF; rw [if_neg h0, List.length_map]
      exact jn_congr _ _ _ _ fun i hi => (nthS_map l i hi).symm)
    go_enter Try.func113, Try.ntmps113
    go_wp2_with fail
    go_loopw [3, 12] (fun v i wr => ∃ k : Nat, k ≤ l.length ∧ i = .int .i64 k ∧ OwnS w wr v ((l.take k).map fmtB) ∧ Ext w wr) (fun _ i _ => l.length - (intOf i).toNat)
    case atStart => exact ⟨0, by omega, rfl, hO0, hE0⟩
    case round =>
      obtain ⟨k, hk, rfl, hO, hE⟩ := hrel
      by_cases hlt : k < l.length
      · have hck := hcell k _ hlt hE
        have hrk := Hr.out k hlt
        have hcI := FormatInt_any (nth l k) hrk
        have hlk : ((l.take k).map fmtB).length < 1000000 := by rw [List.length_map, List.length_take]; omega
        go_wp2_with (first | (go_at_call 110; with_reducible refine (hcI _).mono ?_; rintro e wc ⟨rfl, hEc⟩) | (at_builtin; refine wp_append1S rfl _ _ rfl w _ _ _ _ (hO.ext hEc) (hE.trans hEc) hlk rfl rfl ?_; intro v1 w1 hO1 hE1))
        go_roundw
        case rel => exact ⟨k + 1, by omega, by go_num, by rw [take_fmt _ _ hlt]; exact hO1, hE1⟩
        case measure => (simp [intOf]; omega)
      · have hkl : k = l.length := by omega
        subst hkl
        rw [List.take_length] at hO
        have hS := hO.strs
        have hc := glued_any _ (l.map fmtB) comma _ hS (by decide) (fun i hi => by
          rw [List.length_map] at hi
          rw [nthS_map l i hi]; exact fmtB_size (Hr.out i hi))
        go_wp2_with (refine hc.mono ?_; rintro e w1 ⟨rfl, rfl⟩)
        go_ret
        exact ⟨ret_str (by rw [He.out, List.length_map]), hE⟩
theorem shortF_eq (l : List Int) (h : l.length ≤ 40) : shortF l = numF (l.map clampF) := by
  unfold shortF numF
  rw [List.length_map]
  by_cases h0 : l.length = 0
  · rw [if_pos (Or.inl h0), if_pos h0]
  · rw [if_neg (by omega), if_neg h0]
    exact jn_congr _ _ _ _ fun i hi => by simp [clS, nth, List.getD, hi]
theorem take_clamp (l : List Int) (k : Nat) (h : k < l.length) : (l.take (k + 1)).map clampF = (l.take k).map clampF ++ [clampF (nth l k)] := by
  rw [List.take_add_one, List.map_append]
  simp [nth, List.getD, h]
theorem nth_map_clamp (l : List Int) (i : Nat) (h : i < (l.map clampF).length) : -1 ≤ nth (l.map clampF) i ∧ nth (l.map clampF) i < 1000000000000 := by
  rw [List.length_map] at h
  have e : nth (l.map clampF) i = clampF (nth l i) := by simp [nth, List.getD, h]
  rw [e]; exact clampF_in _
end Go.Zz

/- FormatSet of the program. -/
namespace Go.Zz
open Go.RowKit Go.Proofs
set_option maxHeartbeats 400000
set_option maxRecDepth 4000

def fsF (l : List Int) (a : Int) : ByteArray := if isSetB l a then numF (castL (elems a.toNat)) else ⟨#[]⟩
theorem fsF_no {l : List Int} {a : Int} (h : isSetB l a = false) : fsF l a = ⟨#[]⟩ := by unfold fsF; rw [h]; rfl
theorem fsF_nat {l : List Int} {n : Nat} (h : isSetB l n = true) : fsF l n = numF (castL (elems n)) := by unfold fsF; rw [h]; rfl
theorem elems_in (n i : Nat) (h : i < (castL (elems n)).length) : -1 ≤ nth (castL (elems n)) i ∧ nth (castL (elems n)) i < 1000000000000 := by
  rw [castL_len] at h
  have e : nth (castL (elems n)) i = ((elems n)[i] : Int) := by simp [nth, castL, List.getD, h]
  have := elems_lt (List.getElem_mem h)
  rw [e]; omega
--%call FormatSet 109 ext FormatSet_any _ _ _ _ ({0})
theorem FormatSet_any (v : Value) (l : List Int) (a : Int) (w : World) (h : Ints w v l) :
    Calls Try.prog 109 #[.agg #[v], .int .i64 a] w fun e w' => e = .returned (.string (fsF l a)) ∧ Ext w w' := by
  have hE0 := (Ext.refl w).alloc (.cells #[v] 26)
  have hE := Ext.refl (w.alloc (.cells #[v] 26))
  have hb := box_cell w v 26
  have hg : ∀ W, Ext (w.alloc (.cells #[v] 26)) W → Ints W v l := fun W hW => h.ext (hE0.trans hW)
  clear h
  cases hs : isSetB l a
  · have He := Lib.hid (fsF_no hs)
    go_enter Try.func109, Try.ntmps109
    go_wp2_with (first | (go_at_call 66; refine (IsSet_any _ _ _ _ (hg _ hE)).mono ?_; rintro e w' ⟨rfl, hE'⟩; replace hE := hE.trans hE'; clear hE'))
    go_ret
    exact ⟨ret_str He.out.symm, hE0.trans hE⟩
  · obtain ⟨n, rfl, -, hn, -⟩ := isSetB_nat hs
    have He := Lib.hid (fsF_nat hs)
    have hc := fun v W (hI : Ints W v (castL (elems n))) => numbers_any v (castL (elems n)) W hI (elems_in n) (by rw [castL_len]; have := elems_len n; omega)
    go_enter Try.func109, Try.ntmps109
    go_wp2_with (first | (go_at_call 66; refine (IsSet_any _ _ _ _ (hg _ hE)).mono ?_; rintro e w' ⟨rfl, hE'⟩; replace hE := hE.trans hE'; clear hE') | (go_at_call 139; refine (members_any _ (hn) _).mono ?_; rintro e w1 ⟨v1, rfl, hL, hE1⟩; obtain ⟨aoL, cL, adrL, rfl, hadrL, hcellL⟩ := hL.ints.nats; have hixL := ints_index (c := cL) elI szI hadrL; clear hadrL) | (go_at_call 113; refine (hc _ _ hL.ints).mono ?_; rintro e w2 ⟨rfl, hE2⟩))
    go_ret
    exact ⟨ret_str He.out.symm, ((hE0.trans hE).trans hE1).trans hE2⟩
end Go.Zz

/- ListOf of both. -/
namespace Go.Zz
open Go.RowKit Go.Proofs
set_option maxHeartbeats 400000
set_option maxRecDepth 4000

def loF (l : List Int) (a : Int) : List Int := if isSetB l a then castL (elems a.toNat) else []
theorem loF_no {l : List Int} {a : Int} (h : isSetB l a = false) : loF l a = [] := by unfold loF; rw [h]; rfl
theorem loF_nat {l : List Int} {n : Nat} (h : isSetB l n = true) : loF l n = castL (elems n) := by unfold loF; rw [h]; rfl
theorem sListOf_any (v : Value) (l : List Int) (a : Int) (w : World) (h : Ints w v l) :
    Calls Try.prog 150 #[.agg #[v], .int .i64 a] w fun e w' => ∃ u, e = .returned u ∧ Own 3 w w' u (loF l a) ∧ Ext w w' := by
  have hE0 := (Ext.refl w).alloc (.cells #[v] 26)
  have hE := Ext.refl (w.alloc (.cells #[v] 26))
  have hb := box_cell w v 26
  have hg : ∀ W, Ext (w.alloc (.cells #[v] 26)) W → Ints W v l := fun W hW => h.ext (hE0.trans hW)
  clear h
  cases hs : isSetB l a
  · have He := Lib.hid (loF_no hs)
    go_enter Try.func150, Try.ntmps150
    go_wp2_with (first | (go_at_call 73; refine (sIsSet_any _ _ _ _ (hg _ hE)).mono ?_; rintro e w' ⟨rfl, hE'⟩; replace hE := hE.trans hE'; clear hE'))
    go_ret
    have hE2 := hE0.trans hE
    exact ⟨_, rfl, by rw [He.out]; exact own_made (TI := 3) (n := 0) (by omega) hE2 [] rfl, hE2.alloc _⟩
  · obtain ⟨n, rfl, -, hn, -⟩ := isSetB_nat hs
    have He := Lib.hid (loF_nat hs)
    go_enter Try.func150, Try.ntmps150
    go_wp2_with (first | (go_at_call 73; refine (sIsSet_any _ _ _ _ (hg _ hE)).mono ?_; rintro e w' ⟨rfl, hE'⟩; replace hE := hE.trans hE'; clear hE') | (go_at_call 137; refine (l3List_any _ (hn) _).mono ?_; rintro e w1 ⟨v1, rfl, hL, hE1⟩; obtain ⟨aoL, cL, adrL, rfl, hadrL, hcellL⟩ := hL.ints.nats; have hixL := ints_index (c := cL) elI szI hadrL; clear hadrL))
    go_ret
    have hE2 := hE0.trans hE
    exact ⟨_, rfl, by rw [He.out]; simpa [castL_len] using hL.mono hE2, hE2.trans hE1⟩
end Go.Zz

/- ListOf and FormatSet of the reference. -/
namespace Go.Zz
open Go.RowKit Go.Proofs
set_option maxHeartbeats 400000
set_option maxRecDepth 4000

theorem loF_in (l : List Int) (a : Int) (i : Nat) (h : i < (loF l a).length) : -1 ≤ nth (loF l a) i ∧ nth (loF l a) i < 1000000000000 := by
  cases hs : isSetB l a
  · rw [loF_no hs] at h; simp at h
  · obtain ⟨n, rfl, -, hn, -⟩ := isSetB_nat hs
    rw [loF_nat hs] at h ⊢
    exact elems_in n i h
theorem loF_len (l : List Int) (a : Int) : (loF l a).length ≤ 24 := by
  unfold loF
  split
  · rw [castL_len]; exact elems_len _
  · simp
theorem fsF_lo (l : List Int) (a : Int) : fsF l a = if (loF l a).length = 0 then (if isSetB l a then ⟨#[110, 111, 110, 101]⟩ else ⟨#[]⟩) else jn comma (fun i => fmtB (nth (loF l a) i)) (loF l a).length := by
  cases hs : isSetB l a
  · rw [fsF_no hs, loF_no hs]; rfl
  · unfold fsF loF
    rw [hs]
    show numF _ = _
    unfold numF
    rfl
theorem sFormatSet_any (v : Value) (l : List Int) (a : Int) (w : World) (h : Ints w v l) :
    Calls Try.prog 95 #[.agg #[v], .int .i64 a] w fun e w' => e = .returned (.string (fsF l a)) ∧ Ext w w' := by
  have hE0 := (Ext.refl w).alloc (.cells #[v] 26)
  have hE := Ext.refl (w.alloc (.cells #[v] 26))
  have hb := box_cell w v 26
  have hg : ∀ W, Ext (w.alloc (.cells #[v] 26)) W → Ints W v l := fun W hW => h.ext (hE0.trans hW)
  clear h
  have hin := loF_in l a
  have hlen := loF_len l a
  have Hf := Lib.hid (fsF_lo l a)
  have Hin := Lib.hid hin
  clear hin
  have hc := fun W (hI : Ints W v l) => sListOf_any v l a W hI
  go_enter Try.func95, Try.ntmps95
  go_wp2_with (go_at_call 150; refine (hc _ (hg _ hE)).mono ?_; rintro e w1 ⟨u, rfl, hO, hE1⟩; obtain ⟨aoL, cL, adrL, rfl, hlenL, hadrL, hcellL⟩ := hO.ints.op; have hixL := ints_index (c := cL) elI szI hadrL)
  clear hadrL hO
  obtain ⟨m, hm⟩ : ∃ m, m = loF l a := ⟨_, rfl⟩
  rw [← hm] at hlen hlenL hcellL hixL Hf Hin ⊢
  clear hm
  go_loopw [5, 7] (fun s i wr => ∃ (k : Nat) (t : ByteArray), k ≤ m.length ∧ i = .int .i64 k ∧ s = .string t ∧ Hid (t = jn comma (fun i => fmtB (nth m i)) k) ∧ Ext w1 wr) (fun _ i _ => m.length - (intOf i).toNat)
  case atStart => exact ⟨0, _, by omega, rfl, rfl, Lib.hid rfl, Ext.refl _⟩
  case round =>
    obtain ⟨k, t, hk, rfl, rfl, Ht, hEr⟩ := hrel
    have hts : t.size ≤ 14 * k := by rw [Ht.out]; exact jn_size _ _ (by decide) k fun i hi => fmtB_size (Hin.out i (by omega))
    by_cases hlt : k < m.length
    · have hck := hcellL k _ hlt hEr
      have hcF := sFormatInt_any (nth m k) (Hin.out k hlt)
      have hsz : (fmtB (nth m k)).size ≤ 13 := fmtB_size (Hin.out k hlt)
      obtain ⟨u, hu⟩ : ∃ u, u = fmtB (nth m k) := ⟨_, rfl⟩
      rw [← hu] at hsz hcF
      have He := Lib.hid hu
      clear hu
      by_cases hk0 : 0 < k
      · have hk1 : (0:Int) < k := by omega
        go_wp2_with (refine (hcF _).mono ?_; rintro e w2 ⟨rfl, hE2⟩)
        go_roundw
        case rel => exact ⟨k + 1, _, by omega, by go_num, rfl, Lib.hid (by rw [jn_next _ _ hk0, ← Ht.out, He.out]; rfl), hEr.trans hE2⟩
        case measure => (simp [intOf]; omega)
      · have hk1 : k = 0 := by omega
        subst hk1
        have hix0 : ∀ W, (Instr.indexAt 24 (.slice aoL m.length cL) (.int .i64 0)).run Try.prog W = .ok (.pointer (some (adrL 0))) W := fun W => by simpa using hixL 0 W hlt
        go_wp2_with (refine (hcF _).mono ?_; rintro e w2 ⟨rfl, hE2⟩)
        go_roundw
        case rel => exact ⟨1, _, by omega, rfl, rfl, Lib.hid (by rw [jn_first, He.out, Ht.out]; rfl), hEr.trans hE2⟩
        case measure => (simp [intOf]; omega)
    · have hkl : k = m.length := by omega
      subst hkl
      have hER := (hE0.trans hE1).trans hEr
      have hEb := hE1.trans hEr
      by_cases h0 : m.length = 0
      · have ht0 : t = ⟨#[]⟩ := by rw [Ht.out, h0]; rfl
        subst ht0
        have Hf2 : Hid (fsF l a = if isSetB l a then ⟨#[110, 111, 110, 101]⟩ else ⟨#[]⟩) := Lib.hid (by rw [Hf.out, if_pos h0])
        have hcS := sIsSet_any v l a _ (hg _ hEb)
        clear h0 hts Hf
        cases hs : isSetB l a
        all_goals
          rw [hs] at Hf2 hcS
          go_wp2_with (refine hcS.mono ?_; rintro e w3 ⟨rfl, hE3⟩)
          go_ret
          exact ⟨ret_str Hf2.out.symm, hER.trans hE3⟩
      · have He : Hid (fsF l a = t) := Lib.hid (by rw [Hf.out, if_neg h0, Ht.out])
        have h1 := jn_some comma (fun i => fmtB (nth m i)) m.length (by omega) fun i hi => fmtB_some (Hin.out i hi)
        rw [← Ht.out] at h1
        have ht1 := str_some h1
        go_wp2_with fail
        go_ret
        exact ⟨ret_str He.out.symm, hER⟩
end Go.Zz

/- Graphs: connection sets, distances, diameters. -/
namespace Go.Zz
open Go.RowKit Go.Proofs
set_option maxHeartbeats 400000

--%call in 61 same in_any _ _ ({0}) ({1}) _
theorem in_any (a x : Nat) (ha : a < 2 ^ 24) (hx : x ≤ 64) (w : World) :
    Calls Try.prog 61 #[.int .i64 a, .int .i64 x] w fun e w' => e = .returned (.bool (a.testBit x)) ∧ w = w' := by
  have hsh := ishr_nat (a := a) (n := x) hx
  have hbt := bit_test' (a := a) (n := x) (by omega) hx
  go_enter Try.func61, Try.ntmps61
  go_wp2_with fail
  go_ret
  exact ⟨rfl, rfl⟩
theorem in_val (a x : Nat) (ha : a < 2 ^ 24) (hx : x ≤ 64) (w : World) {b : Bool} (hb : a.testBit x = b) :
    Calls Try.prog 61 #[.int .i64 a, .int .i64 x] w fun e w' => e = .returned (.bool b) ∧ w = w' := by
  subst hb; exact in_any a x ha hx w
--%call hasV 60 ext has_val _ _ _ _ ({0}) ({1})
theorem has_any (v : Value) (l : List Int) (x : Int) (w : World) (h : Ints w v l) :
    Calls Try.prog 60 #[.agg #[v], .int .i64 x] w fun e w' => e = .returned (.bool (hasB l x)) ∧ Ext w w' := by
  obtain ⟨wb, hwb⟩ : ∃ wb, wb = w.alloc (.cells #[v] 26) := ⟨_, rfl⟩
  have hE0 := (Ext.refl w).alloc (.cells #[v] 26)
  have hb := box_cell w v 26
  rw [← hwb] at hE0 hb
  have hg : ∀ W, Ext wb W → Ints W v l := fun W hW => h.ext (hE0.trans hW)
  have hE := Ext.refl wb
  have Hsz : Hid (w.heap.size + 1 = wb.heap.size) := Lib.hid (by rw [hwb]; simp [go_sem])
  have Hwb := Lib.hid hwb
  clear hwb h
  have ho := ordF_bd l
  go_enter Try.func60, Try.ntmps60
  go_wp2_with fail
  rw [← Hwb.out]
  go_wp2_with (first | (go_at_call 81; refine (OrderOf_any _ _ _ (hg _ hE)).mono ?_; rintro e w' ⟨rfl, hE'⟩; replace hE := hE.trans hE'; clear hE') | (go_at_call 136; refine (within_any _ _ _ _).mono ?_; rintro e w' ⟨rfl, rfl⟩))
  go_ret
  exact ⟨rfl, hE0.trans hE⟩
theorem has_val (v : Value) (l : List Int) (x : Int) (w : World) (h : Ints w v l) {b : Bool} (hb : hasB l x = b) :
    Calls Try.prog 60 #[.agg #[v], .int .i64 x] w fun e w' => e = .returned (.bool b) ∧ Ext w w' := by
  subst hb; exact has_any v l x w h
--%call sOrderOf 41 ext sOrderOf_any _ _ _ ({0})
theorem sOrderOf_any (v : Value) (l : List Int) (w : World) (h : Ints w v l) :
    Calls Try.prog 41 #[.agg #[v]] w fun e w' => e = .returned (.int .i64 (ordF l)) ∧ Ext w w' := by
  obtain ⟨wb, hwb⟩ : ∃ wb, wb = w.alloc (.cells #[v] 26) := ⟨_, rfl⟩
  have hE0 := (Ext.refl w).alloc (.cells #[v] 26)
  have hb := box_cell w v 26
  rw [← hwb] at hE0 hb
  have hg : ∀ W, Ext wb W → Ints W v l := fun W hW => h.ext (hE0.trans hW)
  have hE := Ext.refl wb
  have Hsz : Hid (w.heap.size + 1 = wb.heap.size) := Lib.hid (by rw [hwb]; simp [go_sem])
  have Hwb := Lib.hid hwb
  clear hwb h
  cases hgr : isGrp l
  · have Ho := Lib.hid (ordF_f hgr)
    go_enter Try.func41, Try.ntmps41
    go_wp2_with fail
    rw [← Hwb.out]
    go_wp2_with (first | (go_at_call 90; refine (sIsGroup_any _ _ _ (hg _ hE)).mono ?_; rintro e w' ⟨rfl, hE'⟩; replace hE := hE.trans hE'; clear hE'))
    go_ret
    exact ⟨ret_int Ho.out.symm, hE0.trans hE⟩
  · have Ho := Lib.hid (ordF_t hgr)
    have Hgr := Lib.hid hgr
    go_enter Try.func41, Try.ntmps41
    go_wp2_with fail
    rw [← Hwb.out]
    go_wp2_with (first | (go_at_call 90; refine (sIsGroup_any _ _ _ (hg _ hE)).mono ?_; rintro e w' ⟨rfl, hE'⟩; replace hE := hE.trans hE'; clear hE') | (go_at_call 84; refine (l2Order_any _ _ _ (hg _ hE) (Hgr)).mono ?_; rintro e w' ⟨rfl, hE'⟩; replace hE := hE.trans hE'; clear hE'))
    go_ret
    exact ⟨ret_int Ho.out.symm, hE0.trans hE⟩
--%call l2IsV 62 ext l2Is_val _ _ _ _ ({0}) ({1})
theorem l2Is_any (v : Value) (l : List Int) (x : Int) (w : World) (h : Ints w v l) :
    Calls Try.prog 62 #[.agg #[v], .int .i64 x] w fun e w' => e = .returned (.bool (hasB l x)) ∧ Ext w w' := by
  obtain ⟨wb, hwb⟩ : ∃ wb, wb = w.alloc (.cells #[v] 26) := ⟨_, rfl⟩
  have hE0 := (Ext.refl w).alloc (.cells #[v] 26)
  have hb := box_cell w v 26
  rw [← hwb] at hE0 hb
  have hg : ∀ W, Ext wb W → Ints W v l := fun W hW => h.ext (hE0.trans hW)
  have hE := Ext.refl wb
  have Hsz : Hid (w.heap.size + 1 = wb.heap.size) := Lib.hid (by rw [hwb]; simp [go_sem])
  have Hwb := Lib.hid hwb
  clear hwb h
  have ho := ordF_bd l
  by_cases h0 : 0 ≤ x
  · by_cases h1 : x < ordF l
    · have Hh : Hid (hasB l x = true) := Lib.hid (inB_t.2 (by omega))
      go_enter Try.func62, Try.ntmps62
      go_wp2_with fail
      rw [← Hwb.out]
      go_wp2_with (first | (go_at_call 41; refine (sOrderOf_any _ _ _ (hg _ hE)).mono ?_; rintro e w' ⟨rfl, hE'⟩; replace hE := hE.trans hE'; clear hE'))
      go_ret
      exact ⟨ret_bool (by rw [Hh.out]), hE0.trans hE⟩
    · have Hh : Hid (hasB l x = false) := Lib.hid (inB_f.2 (by omega))
      have h1' : decide (x < ordF l) = false := by simp; omega
      go_enter Try.func62, Try.ntmps62
      go_wp2_with fail
      rw [← Hwb.out]
      go_wp2_with (first | (go_at_call 41; refine (sOrderOf_any _ _ _ (hg _ hE)).mono ?_; rintro e w' ⟨rfl, hE'⟩; replace hE := hE.trans hE'; clear hE'))
      go_ret
      exact ⟨ret_bool (by rw [Hh.out]), hE0.trans hE⟩
  · have Hh : Hid (hasB l x = false) := Lib.hid (inB_f.2 (by omega))
    have h0' : decide (0 ≤ x) = false := by simp; omega
    go_enter Try.func62, Try.ntmps62
    go_wp2_with fail
    rw [← Hwb.out]
    go_wp2_with (first | (go_at_call 41; refine (sOrderOf_any _ _ _ (hg _ hE)).mono ?_; rintro e w' ⟨rfl, hE'⟩; replace hE := hE.trans hE'; clear hE'))
    go_ret
    exact ⟨ret_bool (by rw [Hh.out]), hE0.trans hE⟩
theorem l2Is_val (v : Value) (l : List Int) (x : Int) (w : World) (h : Ints w v l) {b : Bool} (hb : hasB l x = b) :
    Calls Try.prog 62 #[.agg #[v], .int .i64 x] w fun e w' => e = .returned (.bool b) ∧ Ext w w' := by
  subst hb; exact l2Is_any v l x w h

theorem bit_zero_t {n : Nat} (h2 : n < 2 ^ 24) (h : n.testBit 0 = true) : iand (n : Int) 1 = 1 := by
  rw [Nat.testBit_zero] at h; rw [iand_one (by omega), of_decide_eq_true h]; rfl
theorem bit_zero_f {n : Nat} (h2 : n < 2 ^ 24) (h : n.testBit 0 = false) : iand (n : Int) 1 = 0 := by
  rw [Nat.testBit_zero] at h; rw [iand_one (by omega)]; have := of_decide_eq_false h; have h3 : n % 2 = 0 := by omega
  rw [h3]; rfl

end Go.Zz

/- Cosets, and the parts of a graph. -/
namespace Go.Zz
open Go.RowKit Go.Proofs
set_option maxHeartbeats 400000

--%call sIsSubgroupV 176 ext sIsSubgroup_val _ _ _ _ ({0}) ({1})
theorem sIsSubgroup_any (v : Value) (l : List Int) (a : Int) (w : World) (h : Ints w v l) :
    Calls Try.prog 176 #[.agg #[v], .int .i64 a] w fun e w' => e = .returned (.bool (subB l a)) ∧ Ext w w' := by
  obtain ⟨wb, hwb⟩ : ∃ wb, wb = w.alloc (.cells #[v] 26) := ⟨_, rfl⟩
  have hE0 := (Ext.refl w).alloc (.cells #[v] 26)
  have hb := box_cell w v 26
  rw [← hwb] at hE0 hb
  have hg : ∀ W, Ext wb W → Ints W v l := fun W hW => h.ext (hE0.trans hW)
  have hE := Ext.refl wb
  have Hsz : Hid (w.heap.size + 1 = wb.heap.size) := Lib.hid (by rw [hwb]; simp [go_sem])
  have Hwb := Lib.hid hwb
  clear hwb h
  have hbx := hb wb hE
  cases hs : isSetB l a
  · have Hs := Lib.hid (subB_no hs)
    go_enter Try.func176, Try.ntmps176
    go_wp2_with fail
    rw [← Hwb.out]
    go_wp2_with (first | (go_at_call 73; refine (sIsSet_val _ _ _ _ (hg _ hE) (hs)).mono ?_; rintro e w' ⟨rfl, hE'⟩; replace hE := hE.trans hE'; clear hE'))
    go_ret
    exact ⟨ret_bool Hs.out.symm, hE0.trans hE⟩
  · have Hs : Hid (∀ n : Nat, a = n → subB l a = ((genF l n : Int) == (n : Int))) := Lib.hid (fun n e => by subst e; exact subB_yes hs)
    obtain ⟨n, hn, h1, h2, hgr⟩ := isSetB_nat hs
    subst hn
    have Hgr := Lib.hid hgr
    clear hgr
    go_enter Try.func176, Try.ntmps176
    go_wp2_with fail
    rw [← Hwb.out]
    go_wp2_with (first | (go_at_call 73; refine (sIsSet_val _ _ _ _ (hg _ hE) (hs)).mono ?_; rintro e w' ⟨rfl, hE'⟩; replace hE := hE.trans hE'; clear hE') | (go_at_call 167; refine (l5Closure_any _ _ _ _ (hg _ hE) (Hgr) (h2)).mono ?_; rintro e w' ⟨rfl, hE'⟩; replace hE := hE.trans hE'; clear hE'))
    go_ret
    exact ⟨ret_bool (by rw [Hs.out n rfl]), hE0.trans hE⟩
theorem sIsSubgroup_val (v : Value) (l : List Int) (a : Int) (w : World) (h : Ints w v l) {b : Bool} (hb : subB l a = b) :
    Calls Try.prog 176 #[.agg #[v], .int .i64 a] w fun e w' => e = .returned (.bool b) ∧ Ext w w' := by
  subst hb; exact sIsSubgroup_any v l a w h
theorem subB_nat {l : List Int} {a : Int} (h : subB l a = true) : ∃ n : Nat, a = n ∧ n < 2 ^ ord l ∧ n < 2 ^ 24 ∧ isGrp l = true := by
  unfold subB at h
  exact isSetB_nat (Bool.and_eq_true_iff.1 h).1
end Go.Zz

/- Cosets, boxes, sets of Sidon. No program is named here. -/
namespace Go.Zz

theorem shiftF_shift {l : List Int} (h : isGrp l = true) (a x y : Nat) : shiftF l (shiftF l a x) y = shiftF l a (addF l y x) := by
  have ho := isGrp_ords h
  apply Nat.eq_of_testBit_eq
  intro z
  apply bool_eq_of
  rw [testBit_shiftF, testBit_shiftF]
  constructor
  · rintro ⟨u, _, hu, rfl⟩
    obtain ⟨t, ht, hb, rfl⟩ := testBit_shiftF.1 hu
    exact ⟨t, ht, hb, addF_assoc l ho y x t⟩
  · rintro ⟨t, ht, hb, rfl⟩
    exact ⟨addF l x t, addF_bd h x t, testBit_shiftF.2 ⟨t, ht, hb, rfl⟩, (addF_assoc l ho y x t).symm⟩
theorem shiftF_none {l : List Int} (h : isGrp l = true) {a : Nat} (ha : a < 2 ^ ord l) : shiftF l a 0 = a := by
  apply Nat.eq_of_testBit_eq
  intro i
  apply bool_eq_of
  rw [testBit_shiftF]
  constructor
  · rintro ⟨y, _, hy, e⟩
    rw [addF_zero l (isGrp_ords h) y (bit_lt ha hy)] at e
    subst e; exact hy
  · intro hi
    have := bit_lt ha hi
    exact ⟨i, Nat.lt_of_lt_of_le this (ord_bd h).2, hi, addF_zero l (isGrp_ords h) i this⟩
/-- a coset is a shift of a subgroup, by its lowest element -/
theorem coset_iff {l : List Int} (h : isGrp l = true) {n : Nat} (hn : n < 2 ^ ord l) : shiftF l (baseF l n) (lowN n) = n ↔ baseF l n = shiftF l n (negF l (lowN n)) := by
  have ho := isGrp_ords h
  have e1 : addF l (negF l (lowN n)) (lowN n) = 0 := by rw [addF_comm]; exact addF_neg l ho _
  constructor
  · intro e
    have : shiftF l (shiftF l (baseF l n) (lowN n)) (negF l (lowN n)) = shiftF l n (negF l (lowN n)) := by rw [e]
    rw [shiftF_shift h, e1, shiftF_none h (show baseF l n < 2 ^ ord l from genF_lt h _)] at this
    exact this
  · intro e
    rw [e, shiftF_shift h, addF_neg l ho, shiftF_none h hn]
def cstB (l : List Int) (a : Int) : Bool := isOneB l a && decide (hullF l a = a)
theorem cstB_no {l : List Int} {a : Int} (h : isOneB l a = false) : cstB l a = false := by unfold cstB; rw [h]; rfl
theorem cstB_hull {l : List Int} {n : Nat} (h : isOneB l n = true) : cstB l n = (hullF l n == (n : Int)) := by unfold cstB; rw [h]; rfl
theorem cstB_sub {l : List Int} {n : Nat} (h : isOneB l n = true) : cstB l n = subB l (shiftF l n (negF l (lowN n)) : Nat) := by
  obtain ⟨n', e, h0, h1, h2, hg⟩ := isOneB_nat h
  obtain rfl : n = n' := by omega
  have hs : isSetB l (shiftF l n (negF l (lowN n)) : Nat) = true := isSetB_of hg (shiftF_lt (isGrp_ords hg) _ _)
  rw [cstB_hull h, hullF_yes h, subB_yes hs]
  have := coset_iff hg h1
  unfold baseF at this ⊢
  by_cases e : genF l (shiftF l n (negF l (lowN n))) = shiftF l n (negF l (lowN n))
  · rw [this.2 e, e]; simp
  · have e' : ¬ shiftF l (genF l (shiftF l n (negF l (lowN n)))) (lowN n) = n := fun q => e (this.1 q)
    have i1 : ((shiftF l (genF l (shiftF l n (negF l (lowN n)))) (lowN n) : Int) == (n : Int)) = false := by simp; omega
    have i2 : ((genF l (shiftF l n (negF l (lowN n))) : Int) == (shiftF l n (negF l (lowN n)) : Int)) = false := by simp; omega
    rw [i1, i2]

/-! ### boxes -/
def bxS (l : List Int) (n m d e : Nat) : Nat := sumF l (prSet l 0 d m) (prSet l 0 e (cnt n / m))
def bxAt (l : List Int) (n m d e : Nat) : Bool := decide (cnt (bxS l n m d e) = cnt n) && (List.range (ord l)).any (fun x => decide (shiftF l (bxS l n m d e) x = n))
def bxM (l : List Int) (n m : Nat) : Bool := decide (cnt n % m = 0) && (List.range (ord l)).any (fun d => (List.range (ord l)).any (fun e => bxAt l n m d e))
def bxN (l : List Int) (n : Nat) : Bool := (List.range (cnt n + 1)).any (fun m => decide (1 ≤ m ∧ m * m ≤ cnt n) && bxM l n m)
def boxB (l : List Int) (a : Int) : Bool := isOneB l a && bxN l a.toNat
theorem boxB_no {l : List Int} {a : Int} (h : isOneB l a = false) : boxB l a = false := by unfold boxB; rw [h]; rfl
theorem boxB_yes {l : List Int} {n : Nat} (h : isOneB l n = true) : boxB l n = bxN l n := by unfold boxB; rw [h]; rfl
theorem bxAt_cnt {l : List Int} {n m d e : Nat} (h : ¬ cnt (bxS l n m d e) = cnt n) : bxAt l n m d e = false := by unfold bxAt; simp [h]
theorem bxAt_no {l : List Int} {n m d e : Nat} (h : ∀ x, x < ord l → ¬ shiftF l (bxS l n m d e) x = n) : bxAt l n m d e = false := by
  unfold bxAt
  have : (List.range (ord l)).any (fun x => decide (shiftF l (bxS l n m d e) x = n)) = false := by
    rw [← Bool.not_eq_true, List.any_eq_true]
    rintro ⟨x, hx, hd⟩
    exact h x (List.mem_range.1 hx) (of_decide_eq_true hd)
  rw [this]; simp
theorem bxM_mod {l : List Int} {n m : Nat} (h : ¬ cnt n % m = 0) : bxM l n m = false := by unfold bxM; simp [h]
theorem bxM_no {l : List Int} {n m : Nat} (h : ∀ d, d < ord l → ∀ e, e < ord l → bxAt l n m d e = false) : bxM l n m = false := by
  unfold bxM
  have : (List.range (ord l)).any (fun d => (List.range (ord l)).any (fun e => bxAt l n m d e)) = false := by
    rw [← Bool.not_eq_true, List.any_eq_true]
    rintro ⟨d, hd, hx⟩
    rw [List.any_eq_true] at hx
    obtain ⟨e, he, hy⟩ := hx
    rw [h d (List.mem_range.1 hd) e (List.mem_range.1 he)] at hy; cases hy
  rw [this]; simp
theorem bxN_no {l : List Int} {n k : Nat} (h : ∀ m, 1 ≤ m → m < k → bxM l n m = false) (hk : ¬ k * k ≤ cnt n) : bxN l n = false := by
  unfold bxN
  rw [← Bool.not_eq_true, List.any_eq_true]
  rintro ⟨m, _, hx⟩
  rw [Bool.and_eq_true, decide_eq_true_eq] at hx
  obtain ⟨⟨h1, h2⟩, h3⟩ := hx
  rcases Nat.lt_or_ge m k with hlt | hge
  · rw [h m h1 hlt] at h3; cases h3
  · have := Nat.mul_le_mul hge hge; omega
theorem bxN_hit {l : List Int} {n m d e x : Nat} (h1 : 1 ≤ m) (h2 : m * m ≤ cnt n) (h3 : cnt n % m = 0) (hd : d < ord l) (he : e < ord l) (hx : x < ord l) (h4 : cnt (bxS l n m d e) = cnt n) (h5 : shiftF l (bxS l n m d e) x = n) : bxN l n = true := by
  unfold bxN bxM bxAt
  rw [List.any_eq_true]
  refine ⟨m, List.mem_range.2 (by have := Nat.le_mul_of_pos_left m h1; omega), ?_⟩
  rw [Bool.and_eq_true, Bool.and_eq_true, decide_eq_true_eq, decide_eq_true_eq]
  refine ⟨⟨h1, h2⟩, h3, ?_⟩
  rw [List.any_eq_true]
  refine ⟨d, List.mem_range.2 hd, ?_⟩
  rw [List.any_eq_true]
  refine ⟨e, List.mem_range.2 he, ?_⟩
  rw [Bool.and_eq_true, decide_eq_true_eq, List.any_eq_true]
  exact ⟨h4, x, List.mem_range.2 hx, decide_eq_true h5⟩

/-! ### sets of Sidon -/
def Sid (l : List Int) (L : List Nat) : Prop := ∀ i j k m, i ≤ j → j < L.length → k ≤ m → m < L.length → addF l (nthN L i) (nthN L j) = addF l (nthN L k) (nthN L m) → i = k ∧ j = m
open Classical in
noncomputable def sidL (l : List Int) (L : List Nat) : Bool := decide (Sid l L)
noncomputable def sidB (l : List Int) (a : Int) : Bool := isSetB l a && sidL l (elems a.toNat)
theorem sidB_no {l : List Int} {a : Int} (h : isSetB l a = false) : sidB l a = false := by unfold sidB; rw [h]; rfl
theorem sidB_yes {l : List Int} {n : Nat} (h : isSetB l n = true) : sidB l n = sidL l (elems n) := by unfold sidB; rw [h]; rfl
open Classical in
theorem sidL_t {l : List Int} {L : List Nat} (h : Sid l L) : sidL l L = true := by unfold sidL; exact decide_eq_true h
open Classical in
theorem sidL_f {l : List Int} {L : List Nat} (h : ¬ Sid l L) : sidL l L = false := by unfold sidL; exact decide_eq_false h
/-- the pair (p, q) comes before (i, j) -/
def Bef (i j p q : Nat) : Prop := p < i ∨ (p = i ∧ q < j)
/-- the sums of the pairs before (i, j) are apart, and they are the bits of a number -/
def SidTo (l : List Int) (L : List Nat) (i j seen : Nat) : Prop :=
  (∀ p q r t, p ≤ q → q < L.length → r ≤ t → t < L.length → Bef i j p q → Bef i j r t → addF l (nthN L p) (nthN L q) = addF l (nthN L r) (nthN L t) → p = r ∧ q = t) ∧
    (∀ z, seen.testBit z = true ↔ ∃ p q, p ≤ q ∧ q < L.length ∧ Bef i j p q ∧ addF l (nthN L p) (nthN L q) = z)
theorem SidTo.start (l : List Int) (L : List Nat) : SidTo l L 0 0 0 := by
  refine ⟨fun p q r t _ _ _ _ h => ?_, fun z => ?_⟩
  · rcases h with h | ⟨_, h⟩ <;> omega
  · rw [Nat.zero_testBit]
    constructor
    · intro h; cases h
    · rintro ⟨p, q, _, _, h, _⟩
      rcases h with h | ⟨_, h⟩ <;> omega
theorem SidTo.hit {l : List Int} {L : List Nat} {i j seen : Nat} (h : SidTo l L i j seen) (hij : i ≤ j) (hj : j < L.length) (hs : seen.testBit (addF l (nthN L i) (nthN L j)) = true) : ¬ Sid l L := by
  intro hS
  obtain ⟨p, q, hpq, hq, hb, e⟩ := (h.2 _).1 hs
  obtain ⟨rfl, rfl⟩ := hS p q i j hpq hq hij hj e
  rcases hb with hb | ⟨_, hb⟩ <;> omega
theorem SidTo.next {l : List Int} {L : List Nat} {i j seen : Nat} (h : SidTo l L i j seen) (hij : i ≤ j) (hj : j < L.length) (hs : seen.testBit (addF l (nthN L i) (nthN L j)) = false) :
    SidTo l L i (j + 1) (seen ||| 2 ^ addF l (nthN L i) (nthN L j)) := by
  have hb : ∀ p q, Bef i (j + 1) p q ↔ (Bef i j p q ∨ (p = i ∧ q = j)) := fun p q => by unfold Bef; omega
  refine ⟨fun p q r t h1 h2 h3 h4 h5 h6 e => ?_, fun z => ?_⟩
  · rcases (hb p q).1 h5 with a | ⟨rfl, rfl⟩ <;> rcases (hb r t).1 h6 with b | ⟨rfl, rfl⟩
    · exact h.1 p q r t h1 h2 h3 h4 a b e
    · have := (h.2 _).2 ⟨p, q, h1, h2, a, e⟩; rw [hs] at this; cases this
    · have := (h.2 _).2 ⟨r, t, h3, h4, b, e.symm⟩; rw [hs] at this; cases this
    · exact ⟨rfl, rfl⟩
  · rw [Nat.testBit_or, Nat.testBit_two_pow, Bool.or_eq_true, decide_eq_true_eq, h.2 z]
    constructor
    · rintro (⟨p, q, h1, h2, h3, h4⟩ | e)
      · exact ⟨p, q, h1, h2, (hb p q).2 (Or.inl h3), h4⟩
      · exact ⟨i, j, hij, hj, (hb i j).2 (Or.inr ⟨rfl, rfl⟩), e⟩
    · rintro ⟨p, q, h1, h2, h3, h4⟩
      rcases (hb p q).1 h3 with a | ⟨rfl, rfl⟩
      · exact Or.inl ⟨p, q, h1, h2, a, h4⟩
      · exact Or.inr h4
theorem SidTo.row {l : List Int} {L : List Nat} {i j seen : Nat} (h : SidTo l L i j seen) (hj : j = L.length) : SidTo l L (i + 1) (i + 1) seen := by
  have hb : ∀ p q, p ≤ q → q < L.length → (Bef (i + 1) (i + 1) p q ↔ Bef i j p q) := fun p q h1 h2 => by unfold Bef; omega
  refine ⟨fun p q r t h1 h2 h3 h4 h5 h6 e => h.1 p q r t h1 h2 h3 h4 ((hb p q h1 h2).1 h5) ((hb r t h3 h4).1 h6) e, fun z => ?_⟩
  rw [h.2 z]
  constructor
  · rintro ⟨p, q, h1, h2, h3, h4⟩; exact ⟨p, q, h1, h2, (hb p q h1 h2).2 h3, h4⟩
  · rintro ⟨p, q, h1, h2, h3, h4⟩; exact ⟨p, q, h1, h2, (hb p q h1 h2).1 h3, h4⟩
theorem SidTo.all {l : List Int} {L : List Nat} {i seen : Nat} (h : SidTo l L i i seen) (hi : i = L.length) : Sid l L := fun p q r t h1 h2 h3 h4 e =>
  h.1 p q r t h1 h2 h3 h4 (by unfold Bef; omega) (by unfold Bef; omega) e
end Go.Zz
