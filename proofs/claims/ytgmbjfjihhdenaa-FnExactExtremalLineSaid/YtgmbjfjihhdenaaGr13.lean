/- Progressions and their differences. -/
import Derived.Test.YtgmbjfjihhdenaaGr12
import Derived.Test.YtgmbjfjihhdenaaGr6
import Derived.Deep.RegionHeld3
import Derived.Deep.RegionWith
namespace Go.Zz
open Go.RowKit Go.Proofs
set_option maxHeartbeats 1000000

/-- the terms of a progression -/
def prCur (l : List Int) (s d : Nat) : Nat → Nat
  | 0 => s
  | k + 1 => addF l (prCur l s d k) d
def prSet (l : List Int) (s d n : Nat) : Nat := bset ((List.range n).map (prCur l s d))
theorem prSet_succ (l : List Int) (s d k : Nat) : prSet l s d (k + 1) = prSet l s d k ||| 2 ^ prCur l s d k := by
  unfold prSet; rw [List.range_succ, List.map_append]; exact bset_snoc _ _
theorem prCur_bd {l : List Int} (h : isGrp l = true) {s : Nat} (hs : s < 24) (d : Nat) : ∀ k, prCur l s d k < 24
  | 0 => hs
  | _ + 1 => addF_bd h _ _
theorem prSet_bd {l : List Int} (h : isGrp l = true) {s : Nat} (hs : s < 24) (d n : Nat) : prSet l s d n < 2 ^ 24 := by
  refine bset_lt fun x hx => ?_
  obtain ⟨k, _, rfl⟩ := List.mem_map.1 hx
  exact prCur_bd h hs d k
/-- whether a set is a progression by a step, from one of the elements of a list on -/
def diffL (l : List Int) (a d : Nat) (L : List Nat) : Bool := L.any (fun x => decide (prSet l x d (cnt a) = a))
def diffB (l : List Int) (a d : Nat) : Bool := diffL l a d (elems a)
def difTo (l : List Int) (a k : Nat) : List Nat := (List.range k).filter (diffB l a)
theorem difTo_yes {l : List Int} {a k : Nat} (h : diffB l a k = true) : difTo l a (k + 1) = difTo l a k ++ [k] := by
  unfold difTo; rw [List.range_succ, List.filter_append]; simp [h]
theorem difTo_no {l : List Int} {a k : Nat} (h : diffB l a k = false) : difTo l a (k + 1) = difTo l a k := by
  unfold difTo; rw [List.range_succ, List.filter_append]; simp [h]
theorem difTo_len (l : List Int) (a k : Nat) : (difTo l a k).length ≤ k := by
  unfold difTo; exact Nat.le_trans (List.length_filter_le _ _) (by simp)
def difF (l : List Int) (a : Int) : List Int := if isOneB l a then castL (difTo l a.toNat (ord l)) else []
theorem difF_no {l : List Int} {a : Int} (h : isOneB l a = false) : difF l a = [] := by unfold difF; rw [h]; rfl
theorem difF_yes {l : List Int} {n : Nat} (h : isOneB l n = true) : difF l n = castL (difTo l n (ord l)) := by unfold difF; rw [if_pos h]; rfl
theorem diffL_take {l : List Int} {a d : Nat} {L : List Nat} (h : ∀ j, j < L.length → prSet l (nthN L j) d (cnt a) ≠ a) : diffL l a d L = false := by
  unfold diffL
  rw [← Bool.not_eq_true, List.any_eq_true]
  rintro ⟨x, hx, hd⟩
  obtain ⟨j, hj, rfl⟩ := List.getElem_of_mem hx
  have := h j hj
  unfold nthN at this
  rw [List.getD_eq_getElem?_getD, List.getElem?_eq_getElem hj] at this
  exact this (of_decide_eq_true hd)
theorem diffL_at {l : List Int} {a d : Nat} {L : List Nat} {j : Nat} (hj : j < L.length) (h : prSet l (nthN L j) d (cnt a) = a) : diffL l a d L = true := by
  unfold diffL; rw [List.any_eq_true]; exact ⟨_, nthN_mem hj, decide_eq_true h⟩
end Go.Zz

/- Differences of progressions. -/
namespace Go.Zz
open Go.RowKit Go.Proofs
set_option maxHeartbeats 1000000
set_option maxRecDepth 20000

end Go.Zz

/- Differences of progressions: the reference. -/
namespace Go.Zz
open Go.RowKit Go.Proofs
set_option maxHeartbeats 1000000
set_option maxRecDepth 20000

end Go.Zz

/- Defects of sums, periods, common differences, the case of Kemperman. -/
namespace Go.Zz
open Go.RowKit Go.Proofs
set_option maxHeartbeats 1000000
set_option maxRecDepth 20000

def sdF (l : List Int) (a b : Int) : Int := if fullB l a b then (cnt (sumF l a.toNat b.toNat) : Int) - cnt a.toNat - cnt b.toNat + 1 else -100
theorem sdF_no {l : List Int} {a b : Int} (h : fullB l a b = false) : sdF l a b = -100 := by unfold sdF; rw [h]; rfl
theorem sdF_yes {l : List Int} {a b : Nat} (h : fullB l a b = true) : sdF l a b = (cnt (sumF l a b) : Int) - cnt a - cnt b + 1 := by unfold sdF; rw [if_pos h]; rfl
theorem sdF_bd (l : List Int) (a b : Int) (h : fullB l a b = true) : -47 ≤ sdF l a b ∧ sdF l a b ≤ 25 := by
  obtain ⟨m, n, rfl, rfl, -⟩ := fullB_nat h
  rw [sdF_yes h]
  have := cnt_le (sumF l m n); have := cnt_le m; have := cnt_le n
  omega
theorem shiftF_zero {l : List Int} (h : isGrp l = true) {a : Nat} (ha : a < 2 ^ ord l) : shiftF l a 0 = a := by
  apply Nat.eq_of_testBit_eq
  intro i
  apply bool_eq_of
  rw [testBit_shiftF]
  constructor
  · rintro ⟨y, _, hy, e⟩
    rw [addF_zero l (isGrp_ords h) y (bit_lt ha hy)] at e
    subst e; exact hy
  · intro hi
    have := bit_lt ha hi
    exact ⟨i, Nat.lt_of_lt_of_le this (ord_bd h).2, hi, addF_zero l (isGrp_ords h) i this⟩
theorem testBit_stabTo {l : List Int} {a k x : Nat} : (stabTo l a k).testBit x = true ↔ x < k ∧ shiftF l a x = a := by
  unfold stabTo; rw [testBit_bset]; simp
theorem stabF_zero {l : List Int} (h : isGrp l = true) {a : Nat} (ha : a < 2 ^ ord l) : (stabF l a).testBit 0 = true :=
  testBit_stabTo.2 ⟨(ord_bd h).1, shiftF_zero h ha⟩
theorem cnt_gt_one {n : Nat} (h : n.testBit 0 = true) (hn : n < 2 ^ 24) : 1 < cnt n ↔ 1 < n := by
  rw [Nat.testBit_zero] at h
  have h1 : n % 2 = 1 := of_decide_eq_true h
  have h2 := cnt_half n hn
  by_cases h3 : 1 < n
  · have := cnt_pos (a := n / 2) (by omega) (by omega)
    omega
  · have e : n / 2 = 0 := by omega
    rw [e, cnt_zero] at h2
    omega
def perF (l : List Int) (a : Int) : Bool := isSetB l a && decide (1 < stabF l a.toNat)
theorem perF_no {l : List Int} {a : Int} (h : isSetB l a = false) : perF l a = false := by unfold perF; rw [h]; rfl
theorem perF_yes {l : List Int} {n : Nat} (h : isSetB l n = true) : perF l n = decide (1 < stabF l n) := by unfold perF; rw [h]; rfl
/-- where a list has a number first -/
def idxF (M : List Int) (x : Int) : Int := match (List.range M.length).find? (fun k => decide (nth M k = x)) with | some k => (k : Int) | none => -1
theorem idxF_at {M : List Int} {x : Int} {k : Nat} (hk : k < M.length) (h : ∀ j, j < k → nth M j ≠ x) (e : nth M k = x) : idxF M x = k := by
  unfold idxF; rw [find_at hk (fun j hj => decide_eq_false (h j hj)) (decide_eq_true e)]
theorem idxF_none {M : List Int} {x : Int} (h : ∀ j, j < M.length → nth M j ≠ x) : idxF M x = -1 := by
  unfold idxF; rw [find_none (fun j hj => decide_eq_false (h j hj))]
theorem nmem_of {M : List Int} {x : Int} (h : ∀ j, j < M.length → nth M j ≠ x) : x ∉ M := fun hx => by
  obtain ⟨k, hk, e⟩ := mem_nth hx; exact h k hk e
def memB (M : List Int) (x : Int) : Bool := decide (x ∈ M)
theorem memB_idx (M : List Int) (x : Int) : decide (0 ≤ idxF M x) = memB M x := by
  by_cases h : ∃ k, k < M.length ∧ nth M k = x
  · have : x ∈ M := by obtain ⟨k, hk, e⟩ := h; rw [← e]; exact nth_mem hk
    have hm : memB M x = true := decide_eq_true this
    rw [hm, decide_eq_true_eq]
    unfold idxF
    cases hf : (List.range M.length).find? (fun k => decide (nth M k = x)) with
    | some k => simp only []; omega
    | none =>
      rw [List.find?_eq_none] at hf
      obtain ⟨k, hk, e⟩ := h
      exact absurd (decide_eq_true e) (hf k (List.mem_range.2 hk))
  · have h' : ∀ j, j < M.length → nth M j ≠ x := fun j hj e => h ⟨j, hj, e⟩
    rw [idxF_none h']
    have hm : memB M x = false := decide_eq_false (nmem_of h')
    rw [hm]; rfl
def comK (L M : List Int) : Option Nat := (List.range L.length).find? (fun k => memB M (nth L k))
def comD (L M : List Int) : Int := match comK L M with | some k => nth L k | none => 0
def comB (L M : List Int) : Bool := (comK L M).isSome
theorem com_at {L M : List Int} {k : Nat} (hk : k < L.length) (h : ∀ j, j < k → memB M (nth L j) = false) (e : memB M (nth L k) = true) : comD L M = nth L k ∧ comB L M = true := by
  unfold comD comB comK; rw [find_at hk h e]; exact ⟨rfl, rfl⟩
theorem com_none {L M : List Int} (h : ∀ j, j < L.length → memB M (nth L j) = false) : comD L M = 0 ∧ comB L M = false := by
  unfold comD comB comK; rw [find_none h]; exact ⟨rfl, rfl⟩

theorem IsPeriodic_any (v : Value) (l : List Int) (a : Int) (w : World) (h : Ints w v l) :
    Calls Try.prog 209 #[.agg #[v], .int .i64 a] w fun e w' => e = .returned (.bool (perF l a)) ∧ Ext w w' := by
  obtain ⟨wb, hwb⟩ : ∃ wb, wb = w.alloc (.cells #[v] 31) := ⟨_, rfl⟩
  have hE0 := (Ext.refl w).alloc (.cells #[v] 31)
  have hb := box_cell w v 31
  rw [← hwb] at hE0 hb
  have hg : ∀ W, Ext wb W → Ints W v l := fun W hW => h.ext (hE0.trans hW)
  have hE := Ext.refl wb
  have Hsz : Hid (w.heap.size + 1 = wb.heap.size) := Lib.hid (by rw [hwb]; simp [go_sem])
  have Hwb := Lib.hid hwb
  clear hwb h
  have hbx := hb wb hE
  cases hs : isSetB l a
  · have Hs := Lib.hid (perF_no hs)
    go_enter Try.func209, Try.ntmps209
    go_wp2_with fail
    rw [← Hwb.out]
    go_wp2_with (first | (go_at_call 134; refine (IsSet_val _ _ _ _ (hg _ hE) (hs)).mono ?_; rintro e w' ⟨rfl, hE'⟩; replace hE := hE.trans hE'; clear hE'))
    go_ret
    exact ⟨ret_bool Hs.out.symm, hE0.trans hE⟩
  · obtain ⟨n, rfl, h1, h2, hgr⟩ := isSetB_nat hs
    have hst : stabF l n < 2 ^ 24 := Nat.lt_of_lt_of_le (stabF_lt l _) (pow_ord hgr)
    have Hs : Hid (perF l n = decide ((1 : Int) < (cnt (stabF l n) : Int))) := Lib.hid (by
      rw [perF_yes hs]
      have := cnt_gt_one (stabF_zero hgr h1) hst
      by_cases e : 1 < stabF l n
      · rw [decide_eq_true e, decide_eq_true (by omega)]
      · rw [decide_eq_false e, decide_eq_false (by omega)])
    clear hgr h1
    go_enter Try.func209, Try.ntmps209
    go_wp2_with fail
    rw [← Hwb.out]
    go_wp2_with (first | (go_at_call 134; refine (IsSet_val _ _ _ _ (hg _ hE) (hs)).mono ?_; rintro e w' ⟨rfl, hE'⟩; replace hE := hE.trans hE'; clear hE') | (go_at_call 234; refine (StabilizerOf_nat _ _ _ _ (hg _ hE) hs).mono ?_; rintro e w' ⟨rfl, hE'⟩; replace hE := hE.trans hE'; clear hE') | (go_at_call 150; refine (bits_any _ (hst) _).mono ?_; rintro e w' ⟨rfl, rfl⟩))
    go_ret
    exact ⟨ret_bool (by rw [Hs.out]), hE0.trans hE⟩
theorem IsPeriodic_val (v : Value) (l : List Int) (a : Int) (w : World) (h : Ints w v l) {c : Bool} (hc : perF l a = c) :
    Calls Try.prog 209 #[.agg #[v], .int .i64 a] w fun e w' => e = .returned (.bool c) ∧ Ext w w' := by subst hc; exact IsPeriodic_any v l a w h
theorem sIsPeriodic_any (v : Value) (l : List Int) (a : Int) (w : World) (h : Ints w v l) :
    Calls Try.prog 206 #[.agg #[v], .int .i64 a] w fun e w' => e = .returned (.bool (perF l a)) ∧ Ext w w' := by
  obtain ⟨wb, hwb⟩ : ∃ wb, wb = w.alloc (.cells #[v] 31) := ⟨_, rfl⟩
  have hE0 := (Ext.refl w).alloc (.cells #[v] 31)
  have hb := box_cell w v 31
  rw [← hwb] at hE0 hb
  have hg : ∀ W, Ext wb W → Ints W v l := fun W hW => h.ext (hE0.trans hW)
  have hE := Ext.refl wb
  have Hsz : Hid (w.heap.size + 1 = wb.heap.size) := Lib.hid (by rw [hwb]; simp [go_sem])
  have Hwb := Lib.hid hwb
  clear hwb h
  have hbx := hb wb hE
  cases hs : isSetB l a
  · have Hs := Lib.hid (perF_no hs)
    go_enter Try.func206, Try.ntmps206
    go_wp2_with fail
    rw [← Hwb.out]
    go_wp2_with (first | (go_at_call 141; refine (sIsSet_val _ _ _ _ (hg _ hE) (hs)).mono ?_; rintro e w' ⟨rfl, hE'⟩; replace hE := hE.trans hE'; clear hE'))
    go_ret
    exact ⟨ret_bool Hs.out.symm, hE0.trans hE⟩
  · obtain ⟨n, rfl, h1, h2, hgr⟩ := isSetB_nat hs
    have Hgr := Lib.hid hgr
    have Hs : Hid (perF l n = decide ((1 : Int) < (stabF l n : Int))) := Lib.hid (by
      rw [perF_yes hs]
      by_cases e : 1 < stabF l n
      · rw [decide_eq_true e, decide_eq_true (by omega)]
      · rw [decide_eq_false e, decide_eq_false (by omega)])
    clear hgr h1
    go_enter Try.func206, Try.ntmps206
    go_wp2_with fail
    rw [← Hwb.out]
    go_wp2_with (first | (go_at_call 141; refine (sIsSet_val _ _ _ _ (hg _ hE) (hs)).mono ?_; rintro e w' ⟨rfl, hE'⟩; replace hE := hE.trans hE'; clear hE') | (go_at_call 231; refine (l6Stabilizer_any _ _ _ _ (hg _ hE) (Hgr) (h2)).mono ?_; rintro e w' ⟨rfl, hE'⟩; replace hE := hE.trans hE'; clear hE'))
    go_ret
    exact ⟨ret_bool (by rw [Hs.out]), hE0.trans hE⟩
theorem sIsPeriodic_val (v : Value) (l : List Int) (a : Int) (w : World) (h : Ints w v l) {c : Bool} (hc : perF l a = c) :
    Calls Try.prog 206 #[.agg #[v], .int .i64 a] w fun e w' => e = .returned (.bool c) ∧ Ext w w' := by subst hc; exact sIsPeriodic_any v l a w h
def kcF (l : List Int) (a b : Int) : ByteArray :=
  if fullB l a b then
    if 0 < sdF l a b then ⟨#[108, 97, 114, 103, 101]⟩ else if perF l (sumF l a.toNat b.toNat : Nat) then ⟨#[112, 101, 114, 105, 111, 100, 105, 99]⟩
    else if cnt a.toNat = 1 ∨ cnt b.toNat = 1 then ⟨#[111, 110, 101]⟩ else if comB (difF l a) (difF l b) then ⟨#[115, 116, 101, 112, 115]⟩ else ⟨#[111, 116, 104, 101, 114]⟩
  else ⟨#[]⟩
theorem kc_no {l : List Int} {a b : Int} (h : fullB l a b = false) : kcF l a b = ⟨#[]⟩ := by unfold kcF; rw [h]; rfl
theorem kc_1 {l : List Int} {a b : Nat} (h : fullB l a b = true) (h1 : 0 < sdF l a b) : kcF l a b = ⟨#[108, 97, 114, 103, 101]⟩ := by unfold kcF; rw [if_pos h, if_pos h1]
theorem kc_2 {l : List Int} {a b : Nat} (h : fullB l a b = true) (h1 : ¬ 0 < sdF l a b) (h2 : perF l (sumF l a b : Nat) = true) : kcF l a b = ⟨#[112, 101, 114, 105, 111, 100, 105, 99]⟩ := by
  unfold kcF; rw [if_pos h, if_neg h1]; exact if_pos h2
theorem kc_3 {l : List Int} {a b : Nat} (h : fullB l a b = true) (h1 : ¬ 0 < sdF l a b) (h2 : perF l (sumF l a b : Nat) = false) (h3 : cnt a = 1 ∨ cnt b = 1) : kcF l a b = ⟨#[111, 110, 101]⟩ := by
  unfold kcF; rw [if_pos h, if_neg h1, if_neg (by simp only [Int.toNat_natCast]; rw [h2]; decide)]; exact if_pos h3
theorem kc_4 {l : List Int} {a b : Nat} (h : fullB l a b = true) (h1 : ¬ 0 < sdF l a b) (h2 : perF l (sumF l a b : Nat) = false) (h3 : ¬ (cnt a = 1 ∨ cnt b = 1)) (h4 : comB (difF l a) (difF l b) = true) : kcF l a b = ⟨#[115, 116, 101, 112, 115]⟩ := by
  unfold kcF; rw [if_pos h, if_neg h1, if_neg (by simp only [Int.toNat_natCast]; rw [h2]; decide), if_neg (by simpa using h3)]; exact if_pos h4
theorem kc_5 {l : List Int} {a b : Nat} (h : fullB l a b = true) (h1 : ¬ 0 < sdF l a b) (h2 : perF l (sumF l a b : Nat) = false) (h3 : ¬ (cnt a = 1 ∨ cnt b = 1)) (h4 : comB (difF l a) (difF l b) = false) : kcF l a b = ⟨#[111, 116, 104, 101, 114]⟩ := by
  unfold kcF; rw [if_pos h, if_neg h1, if_neg (by simp only [Int.toNat_natCast]; rw [h2]; decide), if_neg (by simpa using h3), if_neg (by rw [h4]; decide)]
end Go.Zz

/- Cosets, and the parts of a graph. -/
namespace Go.Zz
open Go.RowKit Go.Proofs
set_option maxHeartbeats 400000

--%call IsSubgroupV 220 ext IsSubgroup_val _ _ _ _ ({0}) ({1})
theorem IsSubgroup_any (v : Value) (l : List Int) (a : Int) (w : World) (h : Ints w v l) :
    Calls Try.prog 220 #[.agg #[v], .int .i64 a] w fun e w' => e = .returned (.bool (subB l a)) ∧ Ext w w' := by
  obtain ⟨wb, hwb⟩ : ∃ wb, wb = w.alloc (.cells #[v] 31) := ⟨_, rfl⟩
  have hE0 := (Ext.refl w).alloc (.cells #[v] 31)
  have hb := box_cell w v 31
  rw [← hwb] at hE0 hb
  have hg : ∀ W, Ext wb W → Ints W v l := fun W hW => h.ext (hE0.trans hW)
  have hE := Ext.refl wb
  have Hsz : Hid (w.heap.size + 1 = wb.heap.size) := Lib.hid (by rw [hwb]; simp [go_sem])
  have Hwb := Lib.hid hwb
  clear hwb h
  have hbx := hb wb hE
  cases hs : isSetB l a
  · have Hs := Lib.hid (subB_no hs)
    go_enter Try.func220, Try.ntmps220
    go_wp2_with fail
    rw [← Hwb.out]
    go_wp2_with (first | (go_at_call 134; refine (IsSet_val _ _ _ _ (hg _ hE) (hs)).mono ?_; rintro e w' ⟨rfl, hE'⟩; replace hE := hE.trans hE'; clear hE'))
    go_ret
    exact ⟨ret_bool Hs.out.symm, hE0.trans hE⟩
  · have Hs : Hid (∀ n : Nat, a = n → subB l a = ((genF l n : Int) == (n : Int))) := Lib.hid (fun n e => by subst e; exact subB_yes hs)
    obtain ⟨n, hn, h1, h2, hgr⟩ := isSetB_nat hs
    subst hn
    have Hgr := Lib.hid hgr
    clear hgr
    go_enter Try.func220, Try.ntmps220
    go_wp2_with fail
    rw [← Hwb.out]
    go_wp2_with (first | (go_at_call 134; refine (IsSet_val _ _ _ _ (hg _ hE) (hs)).mono ?_; rintro e w' ⟨rfl, hE'⟩; replace hE := hE.trans hE'; clear hE') | (go_at_call 172; refine (generated_any _ _ _ _ (hg _ hE) (Hgr) (h2)).mono ?_; rintro e w' ⟨rfl, hE'⟩; replace hE := hE.trans hE'; clear hE'))
    go_ret
    exact ⟨ret_bool (by rw [Hs.out n rfl]), hE0.trans hE⟩
theorem IsSubgroup_val (v : Value) (l : List Int) (a : Int) (w : World) (h : Ints w v l) {b : Bool} (hb : subB l a = b) :
    Calls Try.prog 220 #[.agg #[v], .int .i64 a] w fun e w' => e = .returned (.bool b) ∧ Ext w w' := by
  subst hb; exact IsSubgroup_any v l a w h
--%call sIsSubgroupV 221 ext sIsSubgroup_val _ _ _ _ ({0}) ({1})
theorem sIsSubgroup_any (v : Value) (l : List Int) (a : Int) (w : World) (h : Ints w v l) :
    Calls Try.prog 221 #[.agg #[v], .int .i64 a] w fun e w' => e = .returned (.bool (subB l a)) ∧ Ext w w' := by
  obtain ⟨wb, hwb⟩ : ∃ wb, wb = w.alloc (.cells #[v] 31) := ⟨_, rfl⟩
  have hE0 := (Ext.refl w).alloc (.cells #[v] 31)
  have hb := box_cell w v 31
  rw [← hwb] at hE0 hb
  have hg : ∀ W, Ext wb W → Ints W v l := fun W hW => h.ext (hE0.trans hW)
  have hE := Ext.refl wb
  have Hsz : Hid (w.heap.size + 1 = wb.heap.size) := Lib.hid (by rw [hwb]; simp [go_sem])
  have Hwb := Lib.hid hwb
  clear hwb h
  have hbx := hb wb hE
  cases hs : isSetB l a
  · have Hs := Lib.hid (subB_no hs)
    go_enter Try.func221, Try.ntmps221
    go_wp2_with fail
    rw [← Hwb.out]
    go_wp2_with (first | (go_at_call 141; refine (sIsSet_val _ _ _ _ (hg _ hE) (hs)).mono ?_; rintro e w' ⟨rfl, hE'⟩; replace hE := hE.trans hE'; clear hE'))
    go_ret
    exact ⟨ret_bool Hs.out.symm, hE0.trans hE⟩
  · have Hs : Hid (∀ n : Nat, a = n → subB l a = ((genF l n : Int) == (n : Int))) := Lib.hid (fun n e => by subst e; exact subB_yes hs)
    obtain ⟨n, hn, h1, h2, hgr⟩ := isSetB_nat hs
    subst hn
    have Hgr := Lib.hid hgr
    clear hgr
    go_enter Try.func221, Try.ntmps221
    go_wp2_with fail
    rw [← Hwb.out]
    go_wp2_with (first | (go_at_call 141; refine (sIsSet_val _ _ _ _ (hg _ hE) (hs)).mono ?_; rintro e w' ⟨rfl, hE'⟩; replace hE := hE.trans hE'; clear hE') | (go_at_call 174; refine (l5Closure_any _ _ _ _ (hg _ hE) (Hgr) (h2)).mono ?_; rintro e w' ⟨rfl, hE'⟩; replace hE := hE.trans hE'; clear hE'))
    go_ret
    exact ⟨ret_bool (by rw [Hs.out n rfl]), hE0.trans hE⟩
theorem sIsSubgroup_val (v : Value) (l : List Int) (a : Int) (w : World) (h : Ints w v l) {b : Bool} (hb : subB l a = b) :
    Calls Try.prog 221 #[.agg #[v], .int .i64 a] w fun e w' => e = .returned (.bool b) ∧ Ext w w' := by
  subst hb; exact sIsSubgroup_any v l a w h
theorem subB_nat {l : List Int} {a : Int} (h : subB l a = true) : ∃ n : Nat, a = n ∧ n < 2 ^ ord l ∧ n < 2 ^ 24 ∧ isGrp l = true := by
  unfold subB at h
  exact isSetB_nat (Bool.and_eq_true_iff.1 h).1
theorem CosetsOf_any (v : Value) (l : List Int) (a : Int) (w : World) (h : Ints w v l) :
    Calls Try.prog 171 #[.agg #[v], .int .i64 a] w fun e w' => ∃ u, e = .returned (.tuple #[u, .bool (subB l a)]) ∧ Own 3 w w' u (cosF l a) ∧ Ext w w' := by
  obtain ⟨wb, hwb⟩ : ∃ wb, wb = w.alloc (.cells #[v] 31) := ⟨_, rfl⟩
  have hE0 := (Ext.refl w).alloc (.cells #[v] 31)
  have hb := box_cell w v 31
  rw [← hwb] at hE0 hb
  have hg : ∀ W, Ext wb W → Ints W v l := fun W hW => h.ext (hE0.trans hW)
  have hE := Ext.refl wb
  have Hsz : Hid (w.heap.size + 1 = wb.heap.size) := Lib.hid (by rw [hwb]; simp [go_sem])
  have Hwb := Lib.hid hwb
  clear hwb h
  obtain ⟨wc, hwc⟩ : ∃ wc, wc = wb.alloc (.cells #[] 3) := ⟨_, rfl⟩
  have hO : Own 3 wb wc (.slice (some ⟨wb.heap.size, 0, none⟩) 0 0) [] := by rw [hwc]; exact own_made (by omega) hE [] rfl
  replace hE : Ext wb wc := by rw [hwc]; exact hE.alloc _
  have Hsz2 : Hid (wb.heap.size + 1 = wc.heap.size) := Lib.hid (by rw [hwc]; simp [go_sem])
  have Hwc := Lib.hid hwc
  clear hwc
  cases hs : subB l a
  · have Hs := Lib.hid (cosF_no hs)
    go_enter Try.func171, Try.ntmps171
    go_wp2_with fail
    rw [← Hwb.out, ← Hwc.out]; rw [Hsz.out]; try rw [Hsz2.out]
    go_wp2_with (first | (go_at_call 220; refine Calls.mono (IsSubgroup_val _ _ _ _ (hg _ (by repeat (first | assumption | exact Ext.refl _ | (apply And.left; assumption) | apply Ext.drew | apply Ext.alloc))) hs) ?_; rintro e w' ⟨rfl, hE'⟩; replace hO := hO.ext (Ext.trans (by repeat (first | assumption | exact Ext.refl _ | (apply And.left; assumption) | apply Ext.drew | apply Ext.alloc)) hE'); replace hE := hE.trans (Ext.trans (by repeat (first | assumption | exact Ext.refl _ | (apply And.left; assumption) | apply Ext.drew | apply Ext.alloc)) hE'); clear hE'))
    exact bodyPost_ret (v := .tuple #[.slice (some ⟨wb.heap.size, 0, none⟩) 0 0, .bool false]) (by simp [results, Try.results171, go_sem]) rfl ⟨_, rfl, by rw [Hs.out]; exact hO.mono hE0, hE0.trans hE⟩
  · have Hs : Hid (∀ n : Nat, a = n → cosF l a = castL (cosTo l n (ord l)).1) := Lib.hid (fun n e => by subst e; exact cosF_yes hs)
    obtain ⟨n, hn, h1, h2, hgr⟩ := subB_nat hs
    subst hn
    have Hgr := Lib.hid hgr
    have hob := ord_bd hgr
    clear hgr
    go_enter Try.func171, Try.ntmps171
    go_wp2_with fail
    rw [← Hwb.out, ← Hwc.out]; rw [Hsz.out]; try rw [Hsz2.out]
    go_wp2_with (first | (go_at_call 220; refine Calls.mono (IsSubgroup_val _ _ _ _ (hg _ (by repeat (first | assumption | exact Ext.refl _ | (apply And.left; assumption) | apply Ext.drew | apply Ext.alloc))) hs) ?_; rintro e w' ⟨rfl, hE'⟩; replace hO := hO.ext (Ext.trans (by repeat (first | assumption | exact Ext.refl _ | (apply And.left; assumption) | apply Ext.drew | apply Ext.alloc)) hE'); replace hE := hE.trans (Ext.trans (by repeat (first | assumption | exact Ext.refl _ | (apply And.left; assumption) | apply Ext.drew | apply Ext.alloc)) hE'); clear hE') | (go_at_call 114; refine (OrderOf_grp _ _ _ (hg _ hE) Hgr).mono ?_; rintro e w' ⟨rfl, hE'⟩; replace hO := hO.ext hE'; replace hE := hE.trans hE'; clear hE'))
    go_loopw [6, 7, 18] (fun u sv x wr => ∃ k : Nat, k ≤ ord l ∧ x = .int .i64 k ∧ sv = .int .i64 ((cosTo l n k).2 : Nat) ∧ Own 3 wb wr u (castL (cosTo l n k).1) ∧ Ext wb wr) (fun _ _ x _ => ord l - (intOf x).toNat)
    case atStart => exact ⟨0, by omega, rfl, rfl, hO, hE⟩
    case round =>
      clear hE hO
      obtain ⟨k, hk, rfl, rfl, hO, hE⟩ := hrel
      have hbx := hb _ hE
      by_cases hlt : k < ord l
      · have hln : (castL (cosTo l n k).1).length ≤ 24 := by rw [castL_len]; have := cosTo_len l n k; omega
        have hsb := shiftF_bd Hgr.out n k
        have hcb : (cosTo l n k).2 < 2 ^ 24 := Nat.lt_of_lt_of_le (cosTo_bd Hgr.out n k).1 (pow_ord Hgr.out)
        have hi := ior_nat (a := (cosTo l n k).2) (b := shiftF l n k) (by omega) (by omega)
        cases hb' : (cosTo l n k).2.testBit k
        · have Hn := Lib.hid (cosTo_no hb')
          go_wp2_with (first | (go_at_call 129; refine (in_val _ k hcb (by omega) _ hb').mono ?_; rintro e w' ⟨rfl, rfl⟩) | (go_at_call 153; refine (shift_any _ _ _ _ _ (hg _ hE) (Hgr) (h2) ((by omega))).mono ?_; rintro e w' ⟨rfl, hE'⟩; replace hO := hO.ext (Ext.trans (by repeat (first | assumption | exact Ext.refl _ | (apply And.left; assumption) | apply Ext.drew | apply Ext.alloc)) hE'); replace hE := hE.trans (Ext.trans (by repeat (first | assumption | exact Ext.refl _ | (apply And.left; assumption) | apply Ext.drew | apply Ext.alloc)) hE'); clear hE') | (at_builtin; refine wp_append1 slI rfl _ _ rfl wb _ _ _ _ hO hE (by omega) rfl rfl ?_; intro v1 w1 hO1 hE1))
          go_roundw
          case rel => exact ⟨k + 1, by omega, by go_num, by rw [Hn.out], by rw [Hn.out]; simpa [castL_snoc] using hO1, hE1⟩
          case measure => (simp [intOf]; omega)
        · have Hn := Lib.hid (cosTo_yes hb')
          go_wp2_with (first | (go_at_call 129; refine (in_val _ k hcb (by omega) _ hb').mono ?_; rintro e w' ⟨rfl, rfl⟩))
          go_roundw
          case rel => exact ⟨k + 1, by omega, by go_num, by rw [Hn.out], by rw [Hn.out]; exact hO, hE⟩
          case measure => (simp [intOf]; omega)
      · have hkl : k = ord l := by omega
        subst hkl
        go_wp2_with fail
        exact bodyPost_ret (v := .tuple #[u6, .bool true]) (by simp [results, Try.results171, go_sem]) rfl ⟨_, rfl, by rw [Hs.out n rfl]; exact hO.mono hE0, hE0.trans hE⟩
theorem sCosetsOf_any (v : Value) (l : List Int) (a : Int) (w : World) (h : Ints w v l) :
    Calls Try.prog 173 #[.agg #[v], .int .i64 a] w fun e w' => ∃ u, e = .returned (.tuple #[u, .bool (subB l a)]) ∧ Own 3 w w' u (cosF l a) ∧ Ext w w' := by
  obtain ⟨wb, hwb⟩ : ∃ wb, wb = w.alloc (.cells #[v] 31) := ⟨_, rfl⟩
  have hE0 := (Ext.refl w).alloc (.cells #[v] 31)
  have hb := box_cell w v 31
  rw [← hwb] at hE0 hb
  have hg : ∀ W, Ext wb W → Ints W v l := fun W hW => h.ext (hE0.trans hW)
  have hE := Ext.refl wb
  have Hsz : Hid (w.heap.size + 1 = wb.heap.size) := Lib.hid (by rw [hwb]; simp [go_sem])
  have Hwb := Lib.hid hwb
  clear hwb h
  obtain ⟨wc, hwc⟩ : ∃ wc, wc = wb.alloc (.cells #[] 3) := ⟨_, rfl⟩
  have hO : Own 3 wb wc (.slice (some ⟨wb.heap.size, 0, none⟩) 0 0) [] := by rw [hwc]; exact own_made (by omega) hE [] rfl
  replace hE : Ext wb wc := by rw [hwc]; exact hE.alloc _
  have Hsz2 : Hid (wb.heap.size + 1 = wc.heap.size) := Lib.hid (by rw [hwc]; simp [go_sem])
  have Hwc := Lib.hid hwc
  clear hwc
  cases hs : subB l a
  · have Hs := Lib.hid (cosF_no hs)
    go_enter Try.func173, Try.ntmps173
    go_wp2_with fail
    rw [← Hwb.out, ← Hwc.out]; rw [Hsz.out]; try rw [Hsz2.out]
    go_wp2_with (first | (go_at_call 221; refine Calls.mono (sIsSubgroup_val _ _ _ _ (hg _ (by repeat (first | assumption | exact Ext.refl _ | (apply And.left; assumption) | apply Ext.drew | apply Ext.alloc))) hs) ?_; rintro e w' ⟨rfl, hE'⟩; replace hO := hO.ext (Ext.trans (by repeat (first | assumption | exact Ext.refl _ | (apply And.left; assumption) | apply Ext.drew | apply Ext.alloc)) hE'); replace hE := hE.trans (Ext.trans (by repeat (first | assumption | exact Ext.refl _ | (apply And.left; assumption) | apply Ext.drew | apply Ext.alloc)) hE'); clear hE'))
    exact bodyPost_ret (v := .tuple #[.slice (some ⟨wb.heap.size, 0, none⟩) 0 0, .bool false]) (by simp [results, Try.results173, go_sem]) rfl ⟨_, rfl, by rw [Hs.out]; exact hO.mono hE0, hE0.trans hE⟩
  · have Hs : Hid (∀ n : Nat, a = n → cosF l a = castL (cosTo l n (ord l)).1) := Lib.hid (fun n e => by subst e; exact cosF_yes hs)
    obtain ⟨n, hn, h1, h2, hgr⟩ := subB_nat hs
    subst hn
    have Hgr := Lib.hid hgr
    have hob := ord_bd hgr
    clear hgr
    go_enter Try.func173, Try.ntmps173
    go_wp2_with fail
    rw [← Hwb.out, ← Hwc.out]; rw [Hsz.out]; try rw [Hsz2.out]
    go_wp2_with (first | (go_at_call 221; refine Calls.mono (sIsSubgroup_val _ _ _ _ (hg _ (by repeat (first | assumption | exact Ext.refl _ | (apply And.left; assumption) | apply Ext.drew | apply Ext.alloc))) hs) ?_; rintro e w' ⟨rfl, hE'⟩; replace hO := hO.ext (Ext.trans (by repeat (first | assumption | exact Ext.refl _ | (apply And.left; assumption) | apply Ext.drew | apply Ext.alloc)) hE'); replace hE := hE.trans (Ext.trans (by repeat (first | assumption | exact Ext.refl _ | (apply And.left; assumption) | apply Ext.drew | apply Ext.alloc)) hE'); clear hE'))
    go_loopw [6, 7, 8] (fun u sv x wr => ∃ k : Nat, k ≤ ord l ∧ x = .int .i64 k ∧ sv = .int .i64 ((cosTo l n k).2 : Nat) ∧ Own 3 wb wr u (castL (cosTo l n k).1) ∧ Ext wb wr) (fun _ _ x _ => ord l - (intOf x).toNat)
    case atStart => exact ⟨0, by omega, rfl, rfl, hO, hE⟩
    case round =>
      clear hE hO
      obtain ⟨k, hk, rfl, rfl, hO, hE⟩ := hrel
      have hbx := hb _ hE
      by_cases hlt : k < ord l
      · have hln : (castL (cosTo l n k).1).length ≤ 24 := by rw [castL_len]; have := cosTo_len l n k; omega
        have hsb := shiftF_bd Hgr.out n k
        have hcb : (cosTo l n k).2 < 2 ^ 24 := Nat.lt_of_lt_of_le (cosTo_bd Hgr.out n k).1 (pow_ord Hgr.out)
        have hi := ior_nat (a := (cosTo l n k).2) (b := shiftF l n k) (by omega) (by omega)
        have hsh := ishr_nat (a := (cosTo l n k).2) (n := k) (by omega)
        have hle := shr_le (cosTo l n k).2 k
        cases hb' : (cosTo l n k).2.testBit k
        · have hm : shr (cosTo l n k).2 k % 2 = 0 := by
            rw [Nat.testBit_eq_decide_div_mod_eq, ← Nat.shiftRight_eq_div_pow] at hb'
            have := of_decide_eq_false hb'
            unfold shr; omega
          have hand : iand ((shr (cosTo l n k).2 k : Nat) : Int) 1 = 0 := by rw [iand_one (by omega), hm]; rfl
          have Hn := Lib.hid (cosTo_no hb')
          clear hm
          go_wp2_with (first | (go_at_call 106; refine (l2Order_any _ _ _ (hg _ hE) (Hgr)).mono ?_; rintro e w' ⟨rfl, hE'⟩; replace hO := hO.ext (Ext.trans (by repeat (first | assumption | exact Ext.refl _ | (apply And.left; assumption) | apply Ext.drew | apply Ext.alloc)) hE'); replace hE := hE.trans (Ext.trans (by repeat (first | assumption | exact Ext.refl _ | (apply And.left; assumption) | apply Ext.drew | apply Ext.alloc)) hE'); clear hE') | (go_at_call 156; refine (l3Shift_any _ _ _ _ _ (hg _ hE) (Hgr) (h2) ((by omega))).mono ?_; rintro e w' ⟨rfl, hE'⟩; replace hO := hO.ext (Ext.trans (by repeat (first | assumption | exact Ext.refl _ | (apply And.left; assumption) | apply Ext.drew | apply Ext.alloc)) hE'); replace hE := hE.trans (Ext.trans (by repeat (first | assumption | exact Ext.refl _ | (apply And.left; assumption) | apply Ext.drew | apply Ext.alloc)) hE'); clear hE') | (at_builtin; refine wp_append1 slI rfl _ _ rfl wb _ _ _ _ hO hE (by omega) rfl rfl ?_; intro v1 w1 hO1 hE1))
          go_roundw
          case rel => exact ⟨k + 1, by omega, by go_num, by rw [Hn.out], by rw [Hn.out]; simpa [castL_snoc] using hO1, hE1⟩
          case measure => (simp [intOf]; omega)
        · have hm : shr (cosTo l n k).2 k % 2 = 1 := by
            rw [Nat.testBit_eq_decide_div_mod_eq, ← Nat.shiftRight_eq_div_pow] at hb'
            exact of_decide_eq_true hb'
          have hand : iand ((shr (cosTo l n k).2 k : Nat) : Int) 1 = 1 := by rw [iand_one (by omega), hm]; rfl
          have Hn := Lib.hid (cosTo_yes hb')
          clear hm
          go_wp2_with (first | (go_at_call 106; refine (l2Order_any _ _ _ (hg _ hE) (Hgr)).mono ?_; rintro e w' ⟨rfl, hE'⟩; replace hO := hO.ext (Ext.trans (by repeat (first | assumption | exact Ext.refl _ | (apply And.left; assumption) | apply Ext.drew | apply Ext.alloc)) hE'); replace hE := hE.trans (Ext.trans (by repeat (first | assumption | exact Ext.refl _ | (apply And.left; assumption) | apply Ext.drew | apply Ext.alloc)) hE'); clear hE'))
          go_roundw
          case rel => exact ⟨k + 1, by omega, by go_num, by rw [Hn.out], by rw [Hn.out]; exact hO, hE⟩
          case measure => (simp [intOf]; omega)
      · have hkl : k = ord l := by omega
        subst hkl
        go_wp2_with (first | (go_at_call 106; refine (l2Order_any _ _ _ (hg _ hE) (Hgr)).mono ?_; rintro e w' ⟨rfl, hE'⟩; replace hO := hO.ext (Ext.trans (by repeat (first | assumption | exact Ext.refl _ | (apply And.left; assumption) | apply Ext.drew | apply Ext.alloc)) hE'); replace hE := hE.trans (Ext.trans (by repeat (first | assumption | exact Ext.refl _ | (apply And.left; assumption) | apply Ext.drew | apply Ext.alloc)) hE'); clear hE'))
        exact bodyPost_ret (v := .tuple #[u6, .bool true]) (by simp [results, Try.results173, go_sem]) rfl ⟨_, rfl, by rw [Hs.out n rfl]; exact hO.mono hE0, hE0.trans hE⟩
theorem PartsOfCayley_any (v : Value) (l : List Int) (a : Int) (w : World) (h : Ints w v l) :
    Calls Try.prog 79 #[.agg #[v], .int .i64 a] w fun e w' => ∃ u, e = .returned (.tuple #[u, .bool (connB l a)]) ∧ Own 3 w w' u (partsF l a) ∧ Ext w w' := by
  obtain ⟨wb, hwb⟩ : ∃ wb, wb = w.alloc (.cells #[v] 31) := ⟨_, rfl⟩
  have hE0 := (Ext.refl w).alloc (.cells #[v] 31)
  have hb := box_cell w v 31
  rw [← hwb] at hE0 hb
  have hg : ∀ W, Ext wb W → Ints W v l := fun W hW => h.ext (hE0.trans hW)
  have hE := Ext.refl wb
  have Hsz : Hid (w.heap.size + 1 = wb.heap.size) := Lib.hid (by rw [hwb]; simp [go_sem])
  have Hwb := Lib.hid hwb
  clear hwb h
  have hbx := hb wb hE
  cases hs : connB l a
  · have Hs := Lib.hid (partsF_no hs)
    go_enter Try.func79, Try.ntmps79
    go_wp2_with fail
    rw [← Hwb.out]; try rw [Hsz.out]
    go_wp2_with (first | (go_at_call 82; refine (IsConnection_val _ _ _ _ (hg _ hE) (hs)).mono ?_; rintro e w' ⟨rfl, hE'⟩; replace hE := hE.trans hE'; clear hE'))
    exact bodyPost_ret (v := .tuple #[_, .bool false]) (by simp [results, Try.results79, go_sem]; rfl) rfl ⟨_, rfl, by rw [Hs.out]; exact own_made (by omega) (hE0.trans hE) [] rfl, (hE0.trans hE).alloc _⟩
  · have Hs : Hid (∀ n : Nat, a = n → partsF l a = cosF l (genF l n : Int)) := Lib.hid (fun n e => by subst e; exact partsF_yes hs)
    obtain ⟨n, hn, h1, h2, hgr⟩ := connB_nat hs
    subst hn
    have Hgr := Lib.hid hgr
    have Hsub := Lib.hid (subB_gen hgr n)
    clear hgr
    go_enter Try.func79, Try.ntmps79
    go_wp2_with fail
    rw [← Hwb.out]; try rw [Hsz.out]
    go_wp2_with (first | (go_at_call 82; refine (IsConnection_val _ _ _ _ (hg _ hE) (hs)).mono ?_; rintro e w' ⟨rfl, hE'⟩; replace hE := hE.trans hE'; clear hE'))
    have hb2 : ∀ W, Ext w' W → W.cell? ⟨w.heap.size, 0, none⟩ = some v := fun W hW => hb W (hE.trans hW)
    have hg2 : ∀ W, Ext w' W → Ints W v l := fun W hW => hg W (hE.trans hW)
    have eW := hE0.trans hE
    clear hE hbx hb hg hs
    have hD := (Ext.refl (w')).drew
    first | (go_region_held3 (fun W => Ext (w') W ∧ W.cell? ⟨w.heap.size, 0, none⟩ = some v) (exact ⟨(by repeat (first | assumption | exact Ext.refl _ | (apply And.left; assumption) | apply Ext.drew | apply Ext.alloc)), hb2 _ (by repeat (first | assumption | exact Ext.refl _ | (apply And.left; assumption) | apply Ext.drew | apply Ext.alloc))⟩) (first | (go_at_call 172; ((with_reducible refine Calls.mono (generated_any _ _ _ _ (hg2 _ (by repeat (first | assumption | exact Ext.refl _ | (apply And.left; assumption) | apply Ext.drew | apply Ext.alloc))) Hgr h2) ?_); rintro e wH0 ⟨rfl, hX0⟩; have hH0 := Ext.trans (a := w') (by repeat (first | assumption | exact Ext.refl _ | (apply And.left; assumption) | apply Ext.drew | apply Ext.alloc)) hX0)) | (go_at_call 171; ((with_reducible refine Calls.mono (CosetsOf_any _ _ _ _ (hg2 _ (by repeat (first | assumption | exact Ext.refl _ | (apply And.left; assumption) | apply Ext.drew | apply Ext.alloc)))) ?_); rintro e wH1 ⟨u1, rfl, hO1, hX1⟩; have hH1 := Ext.trans (a := w') (by repeat (first | assumption | exact Ext.refl _ | (apply And.left; assumption) | apply Ext.drew | apply Ext.alloc)) hX1)))) | (fail "the region with calls")
    all_goals (go_wp2_with fail; exact bodyPost_ret (v := .tuple #[u1, .bool true]) (by simp [results, Try.results79, go_sem, Hsub.out]) rfl ⟨_, rfl, by rw [Hs.out n rfl]; exact (hO1.ext (by repeat (first | assumption | exact Ext.refl _ | (apply And.left; assumption) | apply Ext.drew | apply Ext.alloc))).mono (eW.trans (by repeat (first | assumption | exact Ext.refl _ | (apply And.left; assumption) | apply Ext.drew | apply Ext.alloc))), eW.trans (by repeat (first | assumption | exact Ext.refl _ | (apply And.left; assumption) | apply Ext.drew | apply Ext.alloc))⟩)
theorem sPartsOfCayley_any (v : Value) (l : List Int) (a : Int) (w : World) (h : Ints w v l) :
    Calls Try.prog 80 #[.agg #[v], .int .i64 a] w fun e w' => ∃ u, e = .returned (.tuple #[u, .bool (connB l a)]) ∧ Own 3 w w' u (partsF l a) ∧ Ext w w' := by
  obtain ⟨wb, hwb⟩ : ∃ wb, wb = w.alloc (.cells #[v] 31) := ⟨_, rfl⟩
  have hE0 := (Ext.refl w).alloc (.cells #[v] 31)
  have hb := box_cell w v 31
  rw [← hwb] at hE0 hb
  have hg : ∀ W, Ext wb W → Ints W v l := fun W hW => h.ext (hE0.trans hW)
  have hE := Ext.refl wb
  have Hsz : Hid (w.heap.size + 1 = wb.heap.size) := Lib.hid (by rw [hwb]; simp [go_sem])
  have Hwb := Lib.hid hwb
  clear hwb h
  have hbx := hb wb hE
  cases hs : connB l a
  · have Hs := Lib.hid (partsF_no hs)
    go_enter Try.func80, Try.ntmps80
    go_wp2_with fail
    rw [← Hwb.out]; try rw [Hsz.out]
    go_wp2_with (first | (go_at_call 161; refine (sIsConnection_val _ _ _ _ (hg _ hE) (hs)).mono ?_; rintro e w' ⟨rfl, hE'⟩; replace hE := hE.trans hE'; clear hE'))
    exact bodyPost_ret (v := .tuple #[_, .bool false]) (by simp [results, Try.results80, go_sem]; rfl) rfl ⟨_, rfl, by rw [Hs.out]; exact own_made (by omega) (hE0.trans hE) [] rfl, (hE0.trans hE).alloc _⟩
  · have Hs : Hid (∀ n : Nat, a = n → partsF l a = cosF l (genF l n : Int)) := Lib.hid (fun n e => by subst e; exact partsF_yes hs)
    obtain ⟨n, hn, h1, h2, hgr⟩ := connB_nat hs
    subst hn
    have Hgr := Lib.hid hgr
    have Hsub := Lib.hid (subB_gen hgr n)
    clear hgr
    go_enter Try.func80, Try.ntmps80
    go_wp2_with fail
    rw [← Hwb.out]; try rw [Hsz.out]
    go_wp2_with (first | (go_at_call 161; refine (sIsConnection_val _ _ _ _ (hg _ hE) (hs)).mono ?_; rintro e w' ⟨rfl, hE'⟩; replace hE := hE.trans hE'; clear hE'))
    have hb2 : ∀ W, Ext w' W → W.cell? ⟨w.heap.size, 0, none⟩ = some v := fun W hW => hb W (hE.trans hW)
    have hg2 : ∀ W, Ext w' W → Ints W v l := fun W hW => hg W (hE.trans hW)
    have eW := hE0.trans hE
    clear hE hbx hb hg hs
    have hD := (Ext.refl (w')).drew
    first | (go_region_held3 (fun W => Ext (w') W ∧ W.cell? ⟨w.heap.size, 0, none⟩ = some v) (exact ⟨(by repeat (first | assumption | exact Ext.refl _ | (apply And.left; assumption) | apply Ext.drew | apply Ext.alloc)), hb2 _ (by repeat (first | assumption | exact Ext.refl _ | (apply And.left; assumption) | apply Ext.drew | apply Ext.alloc))⟩) (first | (go_at_call 174; ((with_reducible refine Calls.mono (l5Closure_any _ _ _ _ (hg2 _ (by repeat (first | assumption | exact Ext.refl _ | (apply And.left; assumption) | apply Ext.drew | apply Ext.alloc))) Hgr h2) ?_); rintro e wH0 ⟨rfl, hX0⟩; have hH0 := Ext.trans (a := w') (by repeat (first | assumption | exact Ext.refl _ | (apply And.left; assumption) | apply Ext.drew | apply Ext.alloc)) hX0)) | (go_at_call 173; ((with_reducible refine Calls.mono (sCosetsOf_any _ _ _ _ (hg2 _ (by repeat (first | assumption | exact Ext.refl _ | (apply And.left; assumption) | apply Ext.drew | apply Ext.alloc)))) ?_); rintro e wH1 ⟨u1, rfl, hO1, hX1⟩; have hH1 := Ext.trans (a := w') (by repeat (first | assumption | exact Ext.refl _ | (apply And.left; assumption) | apply Ext.drew | apply Ext.alloc)) hX1)))) | (fail "the region with calls")
    all_goals (go_wp2_with fail; exact bodyPost_ret (v := .tuple #[u1, .bool true]) (by simp [results, Try.results80, go_sem, Hsub.out]) rfl ⟨_, rfl, by rw [Hs.out n rfl]; exact (hO1.ext (by repeat (first | assumption | exact Ext.refl _ | (apply And.left; assumption) | apply Ext.drew | apply Ext.alloc))).mono (eW.trans (by repeat (first | assumption | exact Ext.refl _ | (apply And.left; assumption) | apply Ext.drew | apply Ext.alloc))), eW.trans (by repeat (first | assumption | exact Ext.refl _ | (apply And.left; assumption) | apply Ext.drew | apply Ext.alloc))⟩)
end Go.Zz

/- Cosets, boxes, sets of Sidon. No program is named here. -/
namespace Go.Zz

theorem shiftF_shift {l : List Int} (h : isGrp l = true) (a x y : Nat) : shiftF l (shiftF l a x) y = shiftF l a (addF l y x) := by
  have ho := isGrp_ords h
  apply Nat.eq_of_testBit_eq
  intro z
  apply bool_eq_of
  rw [testBit_shiftF, testBit_shiftF]
  constructor
  · rintro ⟨u, _, hu, rfl⟩
    obtain ⟨t, ht, hb, rfl⟩ := testBit_shiftF.1 hu
    exact ⟨t, ht, hb, addF_assoc l ho y x t⟩
  · rintro ⟨t, ht, hb, rfl⟩
    exact ⟨addF l x t, addF_bd h x t, testBit_shiftF.2 ⟨t, ht, hb, rfl⟩, (addF_assoc l ho y x t).symm⟩
theorem shiftF_none {l : List Int} (h : isGrp l = true) {a : Nat} (ha : a < 2 ^ ord l) : shiftF l a 0 = a := by
  apply Nat.eq_of_testBit_eq
  intro i
  apply bool_eq_of
  rw [testBit_shiftF]
  constructor
  · rintro ⟨y, _, hy, e⟩
    rw [addF_zero l (isGrp_ords h) y (bit_lt ha hy)] at e
    subst e; exact hy
  · intro hi
    have := bit_lt ha hi
    exact ⟨i, Nat.lt_of_lt_of_le this (ord_bd h).2, hi, addF_zero l (isGrp_ords h) i this⟩
/-- a coset is a shift of a subgroup, by its lowest element -/
theorem coset_iff {l : List Int} (h : isGrp l = true) {n : Nat} (hn : n < 2 ^ ord l) : shiftF l (baseF l n) (lowN n) = n ↔ baseF l n = shiftF l n (negF l (lowN n)) := by
  have ho := isGrp_ords h
  have e1 : addF l (negF l (lowN n)) (lowN n) = 0 := by rw [addF_comm]; exact addF_neg l ho _
  constructor
  · intro e
    have : shiftF l (shiftF l (baseF l n) (lowN n)) (negF l (lowN n)) = shiftF l n (negF l (lowN n)) := by rw [e]
    rw [shiftF_shift h, e1, shiftF_none h (show baseF l n < 2 ^ ord l from genF_lt h _)] at this
    exact this
  · intro e
    rw [e, shiftF_shift h, addF_neg l ho, shiftF_none h hn]
def cstB (l : List Int) (a : Int) : Bool := isOneB l a && decide (hullF l a = a)
theorem cstB_no {l : List Int} {a : Int} (h : isOneB l a = false) : cstB l a = false := by unfold cstB; rw [h]; rfl
theorem cstB_hull {l : List Int} {n : Nat} (h : isOneB l n = true) : cstB l n = (hullF l n == (n : Int)) := by unfold cstB; rw [h]; rfl
theorem cstB_sub {l : List Int} {n : Nat} (h : isOneB l n = true) : cstB l n = subB l (shiftF l n (negF l (lowN n)) : Nat) := by
  obtain ⟨n', e, h0, h1, h2, hg⟩ := isOneB_nat h
  obtain rfl : n = n' := by omega
  have hs : isSetB l (shiftF l n (negF l (lowN n)) : Nat) = true := isSetB_of hg (shiftF_lt (isGrp_ords hg) _ _)
  rw [cstB_hull h, hullF_yes h, subB_yes hs]
  have := coset_iff hg h1
  unfold baseF at this ⊢
  by_cases e : genF l (shiftF l n (negF l (lowN n))) = shiftF l n (negF l (lowN n))
  · rw [this.2 e, e]; simp
  · have e' : ¬ shiftF l (genF l (shiftF l n (negF l (lowN n)))) (lowN n) = n := fun q => e (this.1 q)
    have i1 : ((shiftF l (genF l (shiftF l n (negF l (lowN n)))) (lowN n) : Int) == (n : Int)) = false := by simp; omega
    have i2 : ((genF l (shiftF l n (negF l (lowN n))) : Int) == (shiftF l n (negF l (lowN n)) : Int)) = false := by simp; omega
    rw [i1, i2]

/-! ### boxes -/
def bxS (l : List Int) (n m d e : Nat) : Nat := sumF l (prSet l 0 d m) (prSet l 0 e (cnt n / m))
def bxAt (l : List Int) (n m d e : Nat) : Bool := decide (cnt (bxS l n m d e) = cnt n) && (List.range (ord l)).any (fun x => decide (shiftF l (bxS l n m d e) x = n))
def bxM (l : List Int) (n m : Nat) : Bool := decide (cnt n % m = 0) && (List.range (ord l)).any (fun d => (List.range (ord l)).any (fun e => bxAt l n m d e))
def bxN (l : List Int) (n : Nat) : Bool := (List.range (cnt n + 1)).any (fun m => decide (1 ≤ m ∧ m * m ≤ cnt n) && bxM l n m)
def boxB (l : List Int) (a : Int) : Bool := isOneB l a && bxN l a.toNat
theorem boxB_no {l : List Int} {a : Int} (h : isOneB l a = false) : boxB l a = false := by unfold boxB; rw [h]; rfl
theorem boxB_yes {l : List Int} {n : Nat} (h : isOneB l n = true) : boxB l n = bxN l n := by unfold boxB; rw [h]; rfl
theorem bxAt_cnt {l : List Int} {n m d e : Nat} (h : ¬ cnt (bxS l n m d e) = cnt n) : bxAt l n m d e = false := by unfold bxAt; simp [h]
theorem bxAt_no {l : List Int} {n m d e : Nat} (h : ∀ x, x < ord l → ¬ shiftF l (bxS l n m d e) x = n) : bxAt l n m d e = false := by
  unfold bxAt
  have : (List.range (ord l)).any (fun x => decide (shiftF l (bxS l n m d e) x = n)) = false := by
    rw [← Bool.not_eq_true, List.any_eq_true]
    rintro ⟨x, hx, hd⟩
    exact h x (List.mem_range.1 hx) (of_decide_eq_true hd)
  rw [this]; simp
theorem bxM_mod {l : List Int} {n m : Nat} (h : ¬ cnt n % m = 0) : bxM l n m = false := by unfold bxM; simp [h]
theorem bxM_no {l : List Int} {n m : Nat} (h : ∀ d, d < ord l → ∀ e, e < ord l → bxAt l n m d e = false) : bxM l n m = false := by
  unfold bxM
  have : (List.range (ord l)).any (fun d => (List.range (ord l)).any (fun e => bxAt l n m d e)) = false := by
    rw [← Bool.not_eq_true, List.any_eq_true]
    rintro ⟨d, hd, hx⟩
    rw [List.any_eq_true] at hx
    obtain ⟨e, he, hy⟩ := hx
    rw [h d (List.mem_range.1 hd) e (List.mem_range.1 he)] at hy; cases hy
  rw [this]; simp
theorem bxN_no {l : List Int} {n k : Nat} (h : ∀ m, 1 ≤ m → m < k → bxM l n m = false) (hk : ¬ k * k ≤ cnt n) : bxN l n = false := by
  unfold bxN
  rw [← Bool.not_eq_true, List.any_eq_true]
  rintro ⟨m, _, hx⟩
  rw [Bool.and_eq_true, decide_eq_true_eq] at hx
  obtain ⟨⟨h1, h2⟩, h3⟩ := hx
  rcases Nat.lt_or_ge m k with hlt | hge
  · rw [h m h1 hlt] at h3; cases h3
  · have := Nat.mul_le_mul hge hge; omega
theorem bxN_hit {l : List Int} {n m d e x : Nat} (h1 : 1 ≤ m) (h2 : m * m ≤ cnt n) (h3 : cnt n % m = 0) (hd : d < ord l) (he : e < ord l) (hx : x < ord l) (h4 : cnt (bxS l n m d e) = cnt n) (h5 : shiftF l (bxS l n m d e) x = n) : bxN l n = true := by
  unfold bxN bxM bxAt
  rw [List.any_eq_true]
  refine ⟨m, List.mem_range.2 (by have := Nat.le_mul_of_pos_left m h1; omega), ?_⟩
  rw [Bool.and_eq_true, Bool.and_eq_true, decide_eq_true_eq, decide_eq_true_eq]
  refine ⟨⟨h1, h2⟩, h3, ?_⟩
  rw [List.any_eq_true]
  refine ⟨d, List.mem_range.2 hd, ?_⟩
  rw [List.any_eq_true]
  refine ⟨e, List.mem_range.2 he, ?_⟩
  rw [Bool.and_eq_true, decide_eq_true_eq, List.any_eq_true]
  exact ⟨h4, x, List.mem_range.2 hx, decide_eq_true h5⟩

/-! ### sets of Sidon -/
def Sid (l : List Int) (L : List Nat) : Prop := ∀ i j k m, i ≤ j → j < L.length → k ≤ m → m < L.length → addF l (nthN L i) (nthN L j) = addF l (nthN L k) (nthN L m) → i = k ∧ j = m
open Classical in
noncomputable def sidL (l : List Int) (L : List Nat) : Bool := decide (Sid l L)
noncomputable def sidB (l : List Int) (a : Int) : Bool := isSetB l a && sidL l (elems a.toNat)
theorem sidB_no {l : List Int} {a : Int} (h : isSetB l a = false) : sidB l a = false := by unfold sidB; rw [h]; rfl
theorem sidB_yes {l : List Int} {n : Nat} (h : isSetB l n = true) : sidB l n = sidL l (elems n) := by unfold sidB; rw [h]; rfl
open Classical in
theorem sidL_t {l : List Int} {L : List Nat} (h : Sid l L) : sidL l L = true := by unfold sidL; exact decide_eq_true h
open Classical in
theorem sidL_f {l : List Int} {L : List Nat} (h : ¬ Sid l L) : sidL l L = false := by unfold sidL; exact decide_eq_false h
/-- the pair (p, q) comes before (i, j) -/
def Bef (i j p q : Nat) : Prop := p < i ∨ (p = i ∧ q < j)
/-- the sums of the pairs before (i, j) are apart, and they are the bits of a number -/
def SidTo (l : List Int) (L : List Nat) (i j seen : Nat) : Prop :=
  (∀ p q r t, p ≤ q → q < L.length → r ≤ t → t < L.length → Bef i j p q → Bef i j r t → addF l (nthN L p) (nthN L q) = addF l (nthN L r) (nthN L t) → p = r ∧ q = t) ∧
    (∀ z, seen.testBit z = true ↔ ∃ p q, p ≤ q ∧ q < L.length ∧ Bef i j p q ∧ addF l (nthN L p) (nthN L q) = z)
theorem SidTo.start (l : List Int) (L : List Nat) : SidTo l L 0 0 0 := by
  refine ⟨fun p q r t _ _ _ _ h => ?_, fun z => ?_⟩
  · rcases h with h | ⟨_, h⟩ <;> omega
  · rw [Nat.zero_testBit]
    constructor
    · intro h; cases h
    · rintro ⟨p, q, _, _, h, _⟩
      rcases h with h | ⟨_, h⟩ <;> omega
theorem SidTo.hit {l : List Int} {L : List Nat} {i j seen : Nat} (h : SidTo l L i j seen) (hij : i ≤ j) (hj : j < L.length) (hs : seen.testBit (addF l (nthN L i) (nthN L j)) = true) : ¬ Sid l L := by
  intro hS
  obtain ⟨p, q, hpq, hq, hb, e⟩ := (h.2 _).1 hs
  obtain ⟨rfl, rfl⟩ := hS p q i j hpq hq hij hj e
  rcases hb with hb | ⟨_, hb⟩ <;> omega
theorem SidTo.next {l : List Int} {L : List Nat} {i j seen : Nat} (h : SidTo l L i j seen) (hij : i ≤ j) (hj : j < L.length) (hs : seen.testBit (addF l (nthN L i) (nthN L j)) = false) :
    SidTo l L i (j + 1) (seen ||| 2 ^ addF l (nthN L i) (nthN L j)) := by
  have hb : ∀ p q, Bef i (j + 1) p q ↔ (Bef i j p q ∨ (p = i ∧ q = j)) := fun p q => by unfold Bef; omega
  refine ⟨fun p q r t h1 h2 h3 h4 h5 h6 e => ?_, fun z => ?_⟩
  · rcases (hb p q).1 h5 with a | ⟨rfl, rfl⟩ <;> rcases (hb r t).1 h6 with b | ⟨rfl, rfl⟩
    · exact h.1 p q r t h1 h2 h3 h4 a b e
    · have := (h.2 _).2 ⟨p, q, h1, h2, a, e⟩; rw [hs] at this; cases this
    · have := (h.2 _).2 ⟨r, t, h3, h4, b, e.symm⟩; rw [hs] at this; cases this
    · exact ⟨rfl, rfl⟩
  · rw [Nat.testBit_or, Nat.testBit_two_pow, Bool.or_eq_true, decide_eq_true_eq, h.2 z]
    constructor
    · rintro (⟨p, q, h1, h2, h3, h4⟩ | e)
      · exact ⟨p, q, h1, h2, (hb p q).2 (Or.inl h3), h4⟩
      · exact ⟨i, j, hij, hj, (hb i j).2 (Or.inr ⟨rfl, rfl⟩), e⟩
    · rintro ⟨p, q, h1, h2, h3, h4⟩
      rcases (hb p q).1 h3 with a | ⟨rfl, rfl⟩
      · exact Or.inl ⟨p, q, h1, h2, a, h4⟩
      · exact Or.inr h4
theorem SidTo.row {l : List Int} {L : List Nat} {i j seen : Nat} (h : SidTo l L i j seen) (hj : j = L.length) : SidTo l L (i + 1) (i + 1) seen := by
  have hb : ∀ p q, p ≤ q → q < L.length → (Bef (i + 1) (i + 1) p q ↔ Bef i j p q) := fun p q h1 h2 => by unfold Bef; omega
  refine ⟨fun p q r t h1 h2 h3 h4 h5 h6 e => h.1 p q r t h1 h2 h3 h4 ((hb p q h1 h2).1 h5) ((hb r t h3 h4).1 h6) e, fun z => ?_⟩
  rw [h.2 z]
  constructor
  · rintro ⟨p, q, h1, h2, h3, h4⟩; exact ⟨p, q, h1, h2, (hb p q h1 h2).2 h3, h4⟩
  · rintro ⟨p, q, h1, h2, h3, h4⟩; exact ⟨p, q, h1, h2, (hb p q h1 h2).1 h3, h4⟩
theorem SidTo.all {l : List Int} {L : List Nat} {i seen : Nat} (h : SidTo l L i i seen) (hi : i = L.length) : Sid l L := fun p q r t h1 h2 h3 h4 e =>
  h.1 p q r t h1 h2 h3 h4 (by unfold Bef; omega) (by unfold Bef; omega) e
end Go.Zz

/- Cosets, progressions, sets of Sidon, boxes: of both. -/
namespace Go.Zz
open Go.RowKit Go.Proofs
set_option maxHeartbeats 2000000
set_option maxRecDepth 20000

def proB (l : List Int) (a : Int) : Bool := decide (0 < (difF l a).length)
end Go.Zz
