/- Differences of progressions. -/
import Derived.Test.YtpjpfpmapdjnaaaGr8
import Derived.Test.YtpjpfpmapdjnaaaGr9
import Derived.Test.YtpjpfpmapdjnaaaGr5
import Derived.Deep.RegionHeld3
import Derived.Deep.RegionWith
import Derived.Test.YtpjpfpmapdjnaaaGr12
import Derived.Test.YtpjpfpmapdjnaaaGr6
namespace Go.Zz
open Go.RowKit Go.Proofs
set_option maxHeartbeats 1000000
set_option maxRecDepth 20000

end Go.Zz

/- Differences of progressions: the reference. -/
namespace Go.Zz
open Go.RowKit Go.Proofs
set_option maxHeartbeats 1000000
set_option maxRecDepth 20000

end Go.Zz

/- Defects of sums, periods, common differences, the case of Kemperman. -/
namespace Go.Zz
open Go.RowKit Go.Proofs
set_option maxHeartbeats 1000000
set_option maxRecDepth 20000

def sdF (l : List Int) (a b : Int) : Int := if fullB l a b then (cnt (sumF l a.toNat b.toNat) : Int) - cnt a.toNat - cnt b.toNat + 1 else -100
theorem sdF_no {l : List Int} {a b : Int} (h : fullB l a b = false) : sdF l a b = -100 := by unfold sdF; rw [h]; rfl
theorem sdF_yes {l : List Int} {a b : Nat} (h : fullB l a b = true) : sdF l a b = (cnt (sumF l a b) : Int) - cnt a - cnt b + 1 := by unfold sdF; rw [if_pos h]; rfl
theorem sdF_bd (l : List Int) (a b : Int) (h : fullB l a b = true) : -47 ≤ sdF l a b ∧ sdF l a b ≤ 25 := by
  obtain ⟨m, n, rfl, rfl, -⟩ := fullB_nat h
  rw [sdF_yes h]
  have := cnt_le (sumF l m n); have := cnt_le m; have := cnt_le n
  omega
theorem shiftF_zero {l : List Int} (h : isGrp l = true) {a : Nat} (ha : a < 2 ^ ord l) : shiftF l a 0 = a := by
  apply Nat.eq_of_testBit_eq
  intro i
  apply bool_eq_of
  rw [testBit_shiftF]
  constructor
  · rintro ⟨y, _, hy, e⟩
    rw [addF_zero l (isGrp_ords h) y (bit_lt ha hy)] at e
    subst e; exact hy
  · intro hi
    have := bit_lt ha hi
    exact ⟨i, Nat.lt_of_lt_of_le this (ord_bd h).2, hi, addF_zero l (isGrp_ords h) i this⟩
theorem testBit_stabTo {l : List Int} {a k x : Nat} : (stabTo l a k).testBit x = true ↔ x < k ∧ shiftF l a x = a := by
  unfold stabTo; rw [testBit_bset]; simp
theorem stabF_zero {l : List Int} (h : isGrp l = true) {a : Nat} (ha : a < 2 ^ ord l) : (stabF l a).testBit 0 = true :=
  testBit_stabTo.2 ⟨(ord_bd h).1, shiftF_zero h ha⟩
theorem cnt_gt_one {n : Nat} (h : n.testBit 0 = true) (hn : n < 2 ^ 24) : 1 < cnt n ↔ 1 < n := by
  rw [Nat.testBit_zero] at h
  have h1 : n % 2 = 1 := of_decide_eq_true h
  have h2 := cnt_half n hn
  by_cases h3 : 1 < n
  · have := cnt_pos (a := n / 2) (by omega) (by omega)
    omega
  · have e : n / 2 = 0 := by omega
    rw [e, cnt_zero] at h2
    omega
def perF (l : List Int) (a : Int) : Bool := isSetB l a && decide (1 < stabF l a.toNat)
theorem perF_no {l : List Int} {a : Int} (h : isSetB l a = false) : perF l a = false := by unfold perF; rw [h]; rfl
theorem perF_yes {l : List Int} {n : Nat} (h : isSetB l n = true) : perF l n = decide (1 < stabF l n) := by unfold perF; rw [h]; rfl
/-- where a list has a number first -/
def idxF (M : List Int) (x : Int) : Int := match (List.range M.length).find? (fun k => decide (nth M k = x)) with | some k => (k : Int) | none => -1
theorem idxF_at {M : List Int} {x : Int} {k : Nat} (hk : k < M.length) (h : ∀ j, j < k → nth M j ≠ x) (e : nth M k = x) : idxF M x = k := by
  unfold idxF; rw [find_at hk (fun j hj => decide_eq_false (h j hj)) (decide_eq_true e)]
theorem idxF_none {M : List Int} {x : Int} (h : ∀ j, j < M.length → nth M j ≠ x) : idxF M x = -1 := by
  unfold idxF; rw [find_none (fun j hj => decide_eq_false (h j hj))]
theorem nmem_of {M : List Int} {x : Int} (h : ∀ j, j < M.length → nth M j ≠ x) : x ∉ M := fun hx => by
  obtain ⟨k, hk, e⟩ := mem_nth hx; exact h k hk e
def memB (M : List Int) (x : Int) : Bool := decide (x ∈ M)
theorem memB_idx (M : List Int) (x : Int) : decide (0 ≤ idxF M x) = memB M x := by
  by_cases h : ∃ k, k < M.length ∧ nth M k = x
  · have : x ∈ M := by obtain ⟨k, hk, e⟩ := h; rw [← e]; exact nth_mem hk
    have hm : memB M x = true := decide_eq_true this
    rw [hm, decide_eq_true_eq]
    unfold idxF
    cases hf : (List.range M.length).find? (fun k => decide (nth M k = x)) with
    | some k => simp only []; omega
    | none =>
      rw [List.find?_eq_none] at hf
      obtain ⟨k, hk, e⟩ := h
      exact absurd (decide_eq_true e) (hf k (List.mem_range.2 hk))
  · have h' : ∀ j, j < M.length → nth M j ≠ x := fun j hj e => h ⟨j, hj, e⟩
    rw [idxF_none h']
    have hm : memB M x = false := decide_eq_false (nmem_of h')
    rw [hm]; rfl
def comK (L M : List Int) : Option Nat := (List.range L.length).find? (fun k => memB M (nth L k))
def comD (L M : List Int) : Int := match comK L M with | some k => nth L k | none => 0
def comB (L M : List Int) : Bool := (comK L M).isSome
theorem com_at {L M : List Int} {k : Nat} (hk : k < L.length) (h : ∀ j, j < k → memB M (nth L j) = false) (e : memB M (nth L k) = true) : comD L M = nth L k ∧ comB L M = true := by
  unfold comD comB comK; rw [find_at hk h e]; exact ⟨rfl, rfl⟩
theorem com_none {L M : List Int} (h : ∀ j, j < L.length → memB M (nth L j) = false) : comD L M = 0 ∧ comB L M = false := by
  unfold comD comB comK; rw [find_none h]; exact ⟨rfl, rfl⟩

theorem slicesIndex_any (u : Value) (M : List Int) (x : Int) (w : World) (h : Ints w u M) :
    Calls Try.prog 55 #[u, .int .i64 x] w fun e w' => e = .returned (.int .i64 (idxF M x)) ∧ w = w' := by
  obtain ⟨ao, c, adr, rfl, hlen, hadr, hcell⟩ := h.op
  have hix := ints_index (c := c) elI szI hadr
  have HD : Hid (∀ k, k < M.length → (∀ j, j < k → nth M j ≠ x) → nth M k = x → idxF M x = k) := Lib.hid fun k hk h e => idxF_at hk h e
  clear h hadr
  go_enter Try.func55, Try.ntmps55
  go_wp2_with fail
  go_loop [8] (fun i => ∃ k : Nat, k ≤ M.length ∧ i = .int .i64 k ∧ ∀ j, j < k → nth M j ≠ x) (fun i => M.length - (intOf i).toNat)
  case atStart => exact ⟨0, by omega, rfl, by omega⟩
  case round =>
    obtain ⟨k, hk, rfl, hno⟩ := hrel
    have Hno := Lib.hid hno
    clear hno
    by_cases hlt : k < M.length
    · have hck := hcell k w hlt (Ext.refl w)
      by_cases e : nth M k = x
      · have He := Lib.hid (HD.out k hlt Hno.out e)
        have hq : (x == nth M k) = true := by rw [e]; simp
        clear e
        go_wp2_with fail
        go_ret
        exact ⟨ret_int He.out.symm, rfl⟩
      · have Hq := Lib.hid e
        have hq : (x == nth M k) = false := by simp; exact fun h => e h.symm
        clear e
        go_wp2_with fail
        go_round
        case rel => exact ⟨k + 1, by omega, by go_num, fun j hj => by by_cases e : j = k; (subst e; exact Hq.out); exact Hno.out j (by omega)⟩
        case measure => (simp [intOf]; omega)
    · have hkl : k = M.length := by omega
      subst hkl
      have He := Lib.hid (idxF_none Hno.out)
      go_wp2_with fail
      go_ret
      exact ⟨ret_int He.out.symm, rfl⟩
theorem slicesContains_any (u : Value) (M : List Int) (x : Int) (w : World) (h : Ints w u M) :
    Calls Try.prog 42 #[u, .int .i64 x] w fun e w' => e = .returned (.bool (memB M x)) ∧ w = w' := by
  have Hm := Lib.hid (memB_idx M x)
  go_enter Try.func42, Try.ntmps42
  go_wp2_with (first | (go_at_call 55; refine (slicesIndex_any _ _ _ _ h).mono ?_; rintro e w' ⟨rfl, rfl⟩))
  go_ret
  exact ⟨ret_bool (by rw [Hm.out]), rfl⟩
theorem slicesContains_val (u : Value) (M : List Int) (x : Int) (w : World) (h : Ints w u M) {c : Bool} (hc : memB M x = c) :
    Calls Try.prog 42 #[u, .int .i64 x] w fun e w' => e = .returned (.bool c) ∧ w = w' := by subst hc; exact slicesContains_any u M x w h
def kcF (l : List Int) (a b : Int) : ByteArray :=
  if fullB l a b then
    if 0 < sdF l a b then ⟨#[108, 97, 114, 103, 101]⟩ else if perF l (sumF l a.toNat b.toNat : Nat) then ⟨#[112, 101, 114, 105, 111, 100, 105, 99]⟩
    else if cnt a.toNat = 1 ∨ cnt b.toNat = 1 then ⟨#[111, 110, 101]⟩ else if comB (difF l a) (difF l b) then ⟨#[115, 116, 101, 112, 115]⟩ else ⟨#[111, 116, 104, 101, 114]⟩
  else ⟨#[]⟩
theorem kc_no {l : List Int} {a b : Int} (h : fullB l a b = false) : kcF l a b = ⟨#[]⟩ := by unfold kcF; rw [h]; rfl
theorem kc_1 {l : List Int} {a b : Nat} (h : fullB l a b = true) (h1 : 0 < sdF l a b) : kcF l a b = ⟨#[108, 97, 114, 103, 101]⟩ := by unfold kcF; rw [if_pos h, if_pos h1]
theorem kc_2 {l : List Int} {a b : Nat} (h : fullB l a b = true) (h1 : ¬ 0 < sdF l a b) (h2 : perF l (sumF l a b : Nat) = true) : kcF l a b = ⟨#[112, 101, 114, 105, 111, 100, 105, 99]⟩ := by
  unfold kcF; rw [if_pos h, if_neg h1]; exact if_pos h2
theorem kc_3 {l : List Int} {a b : Nat} (h : fullB l a b = true) (h1 : ¬ 0 < sdF l a b) (h2 : perF l (sumF l a b : Nat) = false) (h3 : cnt a = 1 ∨ cnt b = 1) : kcF l a b = ⟨#[111, 110, 101]⟩ := by
  unfold kcF; rw [if_pos h, if_neg h1, if_neg (by simp only [Int.toNat_natCast]; rw [h2]; decide)]; exact if_pos h3
theorem kc_4 {l : List Int} {a b : Nat} (h : fullB l a b = true) (h1 : ¬ 0 < sdF l a b) (h2 : perF l (sumF l a b : Nat) = false) (h3 : ¬ (cnt a = 1 ∨ cnt b = 1)) (h4 : comB (difF l a) (difF l b) = true) : kcF l a b = ⟨#[115, 116, 101, 112, 115]⟩ := by
  unfold kcF; rw [if_pos h, if_neg h1, if_neg (by simp only [Int.toNat_natCast]; rw [h2]; decide), if_neg (by simpa using h3)]; exact if_pos h4
theorem kc_5 {l : List Int} {a b : Nat} (h : fullB l a b = true) (h1 : ¬ 0 < sdF l a b) (h2 : perF l (sumF l a b : Nat) = false) (h3 : ¬ (cnt a = 1 ∨ cnt b = 1)) (h4 : comB (difF l a) (difF l b) = false) : kcF l a b = ⟨#[111, 116, 104, 101, 114]⟩ := by
  unfold kcF; rw [if_pos h, if_neg h1, if_neg (by simp only [Int.toNat_natCast]; rw [h2]; decide), if_neg (by simpa using h3), if_neg (by rw [h4]; decide)]
end Go.Zz

/- Extremal sums: the sets of a size, the greatest and the least double. -/
namespace Go.Zz
open Go.RowKit Go.Proofs
set_option maxHeartbeats 400000

/-- the sets with 0 of n elements among the first j odd numbers -/
def oddTo (n j : Nat) : List Nat := ((List.range j).map (fun i => 2 * i + 1)).filter (fun a => decide (cnt a = n))
def halfN (l : List Int) : Nat := pw (ord l - 1)
theorem oddTo_zero (n : Nat) : oddTo n 0 = [] := rfl
theorem oddTo_yes {n j : Nat} (h : cnt (2 * j + 1) = n) : oddTo n (j + 1) = oddTo n j ++ [2 * j + 1] := by
  unfold oddTo; rw [List.range_succ, List.map_append, List.filter_append]; simp [h]
theorem oddTo_no {n j : Nat} (h : ¬ cnt (2 * j + 1) = n) : oddTo n (j + 1) = oddTo n j := by
  unfold oddTo; rw [List.range_succ, List.map_append, List.filter_append]; simp [h]
theorem oddTo_len (n j : Nat) : (oddTo n j).length ≤ j := by
  unfold oddTo; refine Nat.le_trans (List.length_filter_le _ _) (by simp)
theorem oddTo_mem {n j a : Nat} (h : a ∈ oddTo n j) : a < 2 * j ∧ 0 < a := by
  unfold oddTo at h
  obtain ⟨h1, _⟩ := List.mem_filter.1 h
  obtain ⟨i, hi, rfl⟩ := List.mem_map.1 h1
  have := List.mem_range.1 hi
  omega
theorem halfN_two {l : List Int} (h : isGrp l = true) : 2 * halfN l = if ord l = 1 then 2 else pw (ord l) := by
  have h1 := (ord_bd h).1
  unfold halfN pw
  by_cases e : ord l = 1
  · rw [if_pos e, e]
  · rw [if_neg e]
    obtain ⟨m, hm⟩ : ∃ m, ord l = m + 1 := ⟨ord l - 1, by omega⟩
    rw [hm, Nat.add_sub_cancel, Nat.pow_succ]; omega
/-- the odd numbers below 2 ^ order -/
theorem halfN_lt {l : List Int} (h : isGrp l = true) (j : Nat) : 2 * j + 1 < pw (ord l) ↔ j < halfN l := by
  have h1 := (ord_bd h).1
  obtain ⟨m, hm⟩ : ∃ m, ord l = m + 1 := ⟨ord l - 1, by omega⟩
  unfold halfN pw
  rw [hm, Nat.add_sub_cancel, Nat.pow_succ]; omega
theorem halfN_bd {l : List Int} (h : isGrp l = true) : halfN l ≤ 8388608 := by
  unfold halfN pw
  exact Nat.le_trans (Nat.pow_le_pow_right (n := 2) (by omega) (show ord l - 1 ≤ 23 by have := (ord_bd h).2; omega)) (by decide)
theorem oddTo_bd {l : List Int} (h : isGrp l = true) {n a : Nat} (ha : a ∈ oddTo n (halfN l)) : a < 2 ^ 24 := by
  have := (oddTo_mem ha).1; have := halfN_bd h; omega


/-- arguments that the extremal doubles take -/
def dblB (l : List Int) (n : Int) : Bool := isGrp l && decide (ord l ≤ 12) && inB n 1 (ord l)
theorem dblB_grp {l : List Int} {n : Int} (h : isGrp l = false) : dblB l n = false := by unfold dblB; rw [h]; rfl
theorem dblB_ord {l : List Int} {n : Int} (h : ¬ ord l ≤ 12) : dblB l n = false := by unfold dblB; simp [h]
theorem dblB_n {l : List Int} {n : Int} (h : inB n 1 (ord l) = false) : dblB l n = false := by unfold dblB; rw [h]; simp
theorem dblB_yes {l : List Int} {n : Int} (h : isGrp l = true) (h2 : ord l ≤ 12) (h3 : inB n 1 (ord l) = true) : dblB l n = true := by unfold dblB; rw [h, h3]; simp [h2]
/-- the size of a + a -/
def dblC (l : List Int) (a : Nat) : Nat := cnt (sumF l a a)
def mdF (l : List Int) (L : List Nat) : Int := L.foldl (fun b a => if b < (dblC l a : Int) then (dblC l a : Int) else b) 0
theorem mdF_nil (l : List Int) : mdF l [] = 0 := rfl
theorem mdF_snoc (l : List Int) (L : List Nat) (a : Nat) : mdF l (L ++ [a]) = if mdF l L < (dblC l a : Int) then (dblC l a : Int) else mdF l L := by unfold mdF; rw [List.foldl_append]; rfl
def mostF (l : List Int) (n : Int) : Int := if dblB l n then mdF l (oddTo n.toNat (halfN l)) else -1
theorem mostF_no {l : List Int} {n : Int} (h : dblB l n = false) : mostF l n = -1 := by unfold mostF; rw [h]; rfl
theorem mostF_yes {l : List Int} {n : Nat} (h : dblB l n = true) : mostF l n = mdF l (oddTo n (halfN l)) := by unfold mostF; rw [if_pos h]; rfl
theorem in_nat {n : Int} {o : Nat} (h : inB n 1 o = true) : ∃ m : Nat, n = m ∧ 1 ≤ m ∧ m ≤ o := by
  obtain ⟨h1, h2⟩ := inB_t.1 h
  exact ⟨n.toNat, by omega, by omega, by omega⟩


/-- the first least double, with the size that it has, from a size on -/
def ldF (l : List Int) (M : Nat) (L : List Nat) : Nat × Nat := L.foldl (fun p a => if dblC l a < p.2 then (a, dblC l a) else p) (0, M)
theorem ldF_nil (l : List Int) (M : Nat) : ldF l M [] = (0, M) := rfl
theorem ldF_yes {l : List Int} {M : Nat} {L : List Nat} {a : Nat} (h : dblC l a < (ldF l M L).2) : ldF l M (L ++ [a]) = (a, dblC l a) := by
  unfold ldF at h ⊢; rw [List.foldl_append]; simp only [List.foldl_cons, List.foldl_nil]; rw [if_pos h]
theorem ldF_no {l : List Int} {M : Nat} {L : List Nat} {a : Nat} (h : ¬ dblC l a < (ldF l M L).2) : ldF l M (L ++ [a]) = ldF l M L := by
  unfold ldF at h ⊢; rw [List.foldl_append]; simp only [List.foldl_cons, List.foldl_nil]; rw [if_neg h]
theorem ldF_any (l : List Int) {M N : Nat} (hM : ∀ a, dblC l a < M) (hN : ∀ a, dblC l a < N) : ∀ L, (ldF l M L).1 = (ldF l N L).1
  | [] => rfl
  | a :: L => by unfold ldF; simp only [List.foldl_cons, hM a, hN a, if_true]
theorem ldF_le (l : List Int) (M : Nat) (L : List Nat) : (ldF l M L).2 ≤ M := by
  unfold ldF
  suffices h : ∀ (L : List Nat) (p : Nat × Nat), (L.foldl (fun p a => if dblC l a < p.2 then (a, dblC l a) else p) p).2 ≤ p.2 from h L (0, M)
  intro L
  induction L with
  | nil => intro p; exact Nat.le_refl _
  | cons a L ih =>
    intro p
    rw [List.foldl_cons]
    refine Nat.le_trans (ih _) ?_
    by_cases h : dblC l a < p.2
    · rw [if_pos h]; exact Nat.le_of_lt h
    · rw [if_neg h]; exact Nat.le_refl _
theorem dblC_le {l : List Int} (h : isGrp l = true) (a : Nat) : dblC l a ≤ ord l := by
  unfold dblC cnt elems
  have hb := sumF_lt (isGrp_ords h) a a
  have e : (List.range 24).filter (fun i => (sumF l a a).testBit i) = (List.range (ord l)).filter (fun i => (sumF l a a).testBit i) := (elemsTo_all (ord_bd h).2 hb).symm
  rw [e]; exact Nat.le_trans (List.length_filter_le _ _) (by simp)
def leastF (l : List Int) (n : Int) : Int := if dblB l n then ((ldF l 100 (oddTo n.toNat (halfN l))).1 : Int) else 0
theorem leastF_no {l : List Int} {n : Int} (h : dblB l n = false) : leastF l n = 0 := by unfold leastF; rw [h]; rfl
theorem leastF_yes {l : List Int} {n : Nat} (h : dblB l n = true) : leastF l n = ((ldF l 100 (oddTo n (halfN l))).1 : Int) := by unfold leastF; rw [if_pos h]; rfl
end Go.Zz

/- Direct sums; fewest and most translates. -/
namespace Go.Zz
open Go.RowKit Go.Proofs
set_option maxHeartbeats 400000

/-- whether all sums of two sets are different -/
def directF (l : List Int) (a x : Int) : Bool := isSetB l a && isSetB l x && decide (cnt (sumF l a.toNat x.toNat) = cnt a.toNat * cnt x.toNat)
theorem directF_no {l : List Int} {a x : Int} (h : (isSetB l a && isSetB l x) = false) : directF l a x = false := by unfold directF; rw [h]; rfl
theorem directF_yes {l : List Int} {a x : Nat} (h : (isSetB l a && isSetB l x) = true) : directF l a x = ((cnt (sumF l a x) : Int) == (cnt a : Int) * (cnt x : Int)) := by
  unfold directF; rw [h, Bool.eq_iff_iff]; simp; norm_cast
theorem prod_bd (a x : Nat) : 0 ≤ (cnt a : Int) * (cnt x : Int) ∧ (cnt a : Int) * (cnt x : Int) ≤ 576 := by
  have := Nat.mul_le_mul (cnt_le a) (cnt_le x)
  have e : ((cnt a * cnt x : Nat) : Int) = (cnt a : Int) * (cnt x : Int) := Int.natCast_mul _ _
  omega
theorem prod_wrap (a x : Nat) : IntKind.i64.wrap ((cnt a : Int) * (cnt x : Int)) = (cnt a : Int) * (cnt x : Int) := by
  have := prod_bd a x; exact IntWalk.i64_in _ (by omega)
end Go.Zz

/- Fewest and most translates. -/
namespace Go.Zz
open Go.RowKit Go.Proofs
set_option maxHeartbeats 400000

def trB (l : List Int) (a : Int) : Bool := isOneB l a && decide (ord l ≤ 10)
theorem trB_set {l : List Int} {a : Int} (h : isSetB l a = false) : trB l a = false := by unfold trB; rw [isOneB_no h]; rfl
theorem trB_zero (l : List Int) : trB l 0 = false := by unfold trB; rw [isOneB_zero]; rfl
theorem trB_ord {l : List Int} {a : Int} (h : ¬ ord l ≤ 10) : trB l a = false := by unfold trB; simp [h]
theorem trB_yes {l : List Int} {n : Nat} (h : isSetB l n = true) (h0 : 0 < n) (h2 : ord l ≤ 10) : trB l n = true := by unfold trB; rw [isOneB_yes h h0]; simp [h2]
/-- the first cover of fewest elements below k -/
def fewTo (l : List Int) (a : Int) : Nat → Nat
  | 0 => fullN l
  | k + 1 => if cnt k < cnt (fewTo l a k) ∧ covF l a k = true then k else fewTo l a k
theorem fewTo_yes {l : List Int} {a : Int} {k : Nat} (h : cnt k < cnt (fewTo l a k)) (h2 : covF l a k = true) : fewTo l a (k + 1) = k := by rw [fewTo, if_pos ⟨h, h2⟩]
theorem fewTo_no {l : List Int} {a : Int} {k : Nat} (h : ¬ cnt k < cnt (fewTo l a k)) : fewTo l a (k + 1) = fewTo l a k := by rw [fewTo, if_neg (fun e => h e.1)]
theorem fewTo_no' {l : List Int} {a : Int} {k : Nat} (h : covF l a k = false) : fewTo l a (k + 1) = fewTo l a k := by rw [fewTo, if_neg (fun e => by rw [h] at e; cases e.2)]
theorem fewTo_lt (l : List Int) (a : Int) : ∀ k, k ≤ pw (ord l) → fewTo l a k < pw (ord l)
  | 0, _ => fullN_lt l
  | k + 1, h => by
    rw [fewTo]; split
    · omega
    · exact fewTo_lt l a k (by omega)
theorem sumF_none (l : List Int) (a : Nat) : sumF l a 0 = 0 := by
  have e : elems 0 = [] := by decide
  unfold sumF; rw [e]
  have h : ∀ L : List Nat, L.flatMap (fun _ => ([] : List Nat)) = [] := fun L => by simp
  show bset ((elems a).flatMap (fun _ => [])) = 0
  rw [h]; rfl
theorem cov_none {l : List Int} (h : isGrp l = true) (a : Int) : covF l a 0 = false := by
  unfold covF
  have h1 : (sumF l a.toNat (0 : Int).toNat) = 0 := sumF_none l a.toNat
  rw [h1, fullF_n h]
  have h2 : 1 ≤ fullN l := by
    unfold fullN pw
    have : 2 ^ 1 ≤ 2 ^ ord l := Nat.pow_le_pow_right (by omega) (ord_bd h).1
    omega
  have h3 : decide (((0 : Nat) : Int) = (fullN l : Int)) = false := by simp; omega
  rw [h3]; simp
theorem fewTo_one {l : List Int} (h : isGrp l = true) (a : Int) : fewTo l a 1 = fullN l := fewTo_no' (k := 0) (cov_none h a)
/-- the first of most elements below k whose shifts do not meet -/
def mostTo (l : List Int) (a : Int) : Nat → Nat
  | 0 => 0
  | k + 1 => if cnt (mostTo l a k) < cnt k ∧ directF l a k = true then k else mostTo l a k
theorem mostTo_yes {l : List Int} {a : Int} {k : Nat} (h : cnt (mostTo l a k) < cnt k) (h2 : directF l a k = true) : mostTo l a (k + 1) = k := by rw [mostTo, if_pos ⟨h, h2⟩]
theorem mostTo_no {l : List Int} {a : Int} {k : Nat} (h : ¬ cnt (mostTo l a k) < cnt k) : mostTo l a (k + 1) = mostTo l a k := by rw [mostTo, if_neg (fun e => h e.1)]
theorem mostTo_no' {l : List Int} {a : Int} {k : Nat} (h : directF l a k = false) : mostTo l a (k + 1) = mostTo l a k := by rw [mostTo, if_neg (fun e => by rw [h] at e; cases e.2)]
theorem mostTo_lt (l : List Int) (a : Int) : ∀ k, k ≤ pw (ord l) → mostTo l a k < pw (ord l)
  | 0, _ => pw_pos _
  | k + 1, h => by
    rw [mostTo]; split
    · omega
    · exact mostTo_lt l a k (by omega)
theorem mostTo_one (l : List Int) (a : Int) : mostTo l a 1 = 0 := mostTo_no (k := 0) (by simp [mostTo])
def fewF (l : List Int) (a : Int) : Int := if trB l a then (fewTo l a (pw (ord l)) : Int) else 0
theorem fewF_no {l : List Int} {a : Int} (h : trB l a = false) : fewF l a = 0 := by unfold fewF; rw [h]; rfl
theorem fewF_yes {l : List Int} {a : Int} (h : trB l a = true) : fewF l a = (fewTo l a (pw (ord l)) : Int) := by unfold fewF; rw [if_pos h]
def mostTF (l : List Int) (a : Int) : Int := if trB l a then (mostTo l a (pw (ord l)) : Int) else 0
theorem mostTF_no {l : List Int} {a : Int} (h : trB l a = false) : mostTF l a = 0 := by unfold mostTF; rw [h]; rfl
theorem mostTF_yes {l : List Int} {a : Int} (h : trB l a = true) : mostTF l a = (mostTo l a (pw (ord l)) : Int) := by unfold mostTF; rw [if_pos h]

end Go.Zz

/- Plain facts on translates: least covers, greedy covers, packings, tiles; sizes of intersections are counts of differences. -/
namespace Go.Zz
open Go.RowKit Go.Proofs
set_option linter.unusedVariables false

/-! ### sizes -/
theorem and_z {a b : Nat} : a &&& b = 0 ↔ ∀ i, a.testBit i = true → b.testBit i = false := by
  constructor
  · intro h i hi
    have := congrArg (fun n => n.testBit i) h
    simp only [Nat.testBit_and, Nat.zero_testBit, hi, Bool.true_and] at this
    exact this
  · intro h
    refine Nat.eq_of_testBit_eq fun i => ?_
    rw [Nat.testBit_and, Nat.zero_testBit]
    cases ha : a.testBit i
    · rfl
    · rw [h i ha]; rfl
theorem filt_or (p q : Nat → Bool) : ∀ L : List Nat, (L.filter (fun x => p x || q x)).length + (L.filter (fun x => p x && q x)).length = (L.filter p).length + (L.filter q).length
  | [] => rfl
  | x :: L => by
    have ih := filt_or p q L
    simp only [List.filter_cons]
    cases p x <;> cases q x <;> simp <;> omega
theorem cnt_or_and (a b : Nat) : cnt (a ||| b) + cnt (a &&& b) = cnt a + cnt b := by
  have h := filt_or (fun i => a.testBit i) (fun i => b.testBit i) (List.range 24)
  unfold cnt elems
  have e1 : (fun i => (a ||| b).testBit i) = (fun i => a.testBit i || b.testBit i) := by funext i; exact Nat.testBit_or _ _ _
  have e2 : (fun i => (a &&& b).testBit i) = (fun i => a.testBit i && b.testBit i) := by funext i; exact Nat.testBit_and _ _ _
  rw [e1, e2]; exact h
theorem cnt_pow (z : Nat) : cnt (2 ^ z) ≤ 1 := by
  by_cases hz : z < 24
  · have := cnt_or_new (b := 0) (by omega) hz (by simp)
    rw [Nat.zero_or, cnt_zero] at this; omega
  · have e : elems (2 ^ z) = [] := by
      unfold elems; rw [List.filter_eq_nil_iff]; intro i hi
      have := List.mem_range.1 hi
      rw [bit_two]; simp; omega
    unfold cnt; rw [e]; simp
theorem cnt_fold : ∀ (L : List Nat) (a : Nat), cnt (L.foldl (fun a z => a ||| 2 ^ z) a) ≤ cnt a + L.length
  | [], a => Nat.le_refl _
  | z :: L, a => by
    rw [List.foldl_cons]
    have h1 := cnt_fold L (a ||| 2 ^ z)
    have h2 := cnt_or_and a (2 ^ z)
    have h3 := cnt_pow z
    rw [List.length_cons]; omega
theorem cnt_sum_le (l : List Int) (a b : Nat) : cnt (sumF l a b) ≤ cnt a * cnt b := by
  have h1 := cnt_fold (sumsL l (elems a) (elems b)) 0
  rw [cnt_zero, sums_len] at h1
  have e : sumF l a b = (sumsL l (elems a) (elems b)).foldl (fun a z => a ||| 2 ^ z) 0 := rfl
  rw [e]; unfold cnt at h1 ⊢; omega
theorem cnt_full {l : List Int} (hg : isGrp l = true) : cnt (fullN l) = ord l := by
  have hb := ord_bd hg
  have e : elems (fullN l) = elemsTo (fullN l) (ord l) := (elemsTo_all hb.2 (fullN_lt l)).symm
  unfold cnt; rw [e]; unfold elemsTo
  rw [List.filter_eq_self.2 fun i hi => by rw [fullN_bit]; simpa using hi]; simp
theorem sum_or_one {l : List Int} {a b z : Nat} (hz : z < 24) : sumF l a (b ||| 2 ^ z) = sumF l a b ||| shiftF l a z := by
  refine Nat.eq_of_testBit_eq fun i => bool_eq_of ?_
  rw [Nat.testBit_or, Bool.or_eq_true, testBit_sumF, testBit_sumF, testBit_shiftF]
  constructor
  · rintro ⟨u, v, hu, hu2, hv, hv2, e⟩
    rw [Nat.testBit_or, bit_two, Bool.or_eq_true, decide_eq_true_iff] at hv2
    rcases hv2 with q | q
    · exact Or.inl ⟨u, v, hu, hu2, hv, q, e⟩
    · subst q; exact Or.inr ⟨u, hu, hu2, by rw [addF_comm]; exact e⟩
  · rintro (⟨u, v, hu, hu2, hv, hv2, e⟩ | ⟨u, hu, hu2, e⟩)
    · exact ⟨u, v, hu, hu2, hv, by rw [Nat.testBit_or, hv2]; rfl, e⟩
    · exact ⟨u, z, hu, hu2, hz, by rw [Nat.testBit_or, bit_two]; simp, by rw [addF_comm]; exact e⟩
theorem shift_sub {l : List Int} {a b z : Nat} (hz : z < 24) (h : b.testBit z = true) : Sub (shiftF l a z) (sumF l a b) := fun i hi => by
  obtain ⟨u, hu, hu2, e⟩ := testBit_shiftF.1 hi
  exact testBit_sumF.2 ⟨u, z, hu, hu2, hz, h, by rw [addF_comm]; exact e⟩

/-! ### covers -/
theorem cov_iff {l : List Int} (hg : isGrp l = true) {a x : Nat} (ha : isSetB l a = true) (hx : isSetB l x = true) : covF l a x = true ↔ sumF l a x = fullN l := by
  rw [covF_yes (by rw [ha, hx]; rfl), beq_iff_eq, fullF_n hg]; omega
theorem cov_set {l : List Int} {a x : Int} (h : covF l a x = true) : isSetB l x = true := by
  unfold covF at h; simp only [Bool.and_eq_true] at h; exact h.1.2
theorem few_min (l : List Int) (a : Int) : ∀ k (x : Nat), x < k → covF l a x = true → cnt (fewTo l a k) ≤ cnt x
  | 0, x, hx, _ => by omega
  | k + 1, x, hx, hc => by
    by_cases e : cnt k < cnt (fewTo l a k)
    · cases q : covF l a k
      · rw [fewTo_no' q]
        by_cases hk : x = k
        · subst hk; rw [q] at hc; cases hc
        · exact few_min l a k x (by omega) hc
      · rw [fewTo_yes e q]
        by_cases hk : x = k
        · subst hk; exact Nat.le_refl _
        · have := few_min l a k x (by omega) hc; omega
    · rw [fewTo_no e]
      by_cases hk : x = k
      · subst hk; omega
      · exact few_min l a k x (by omega) hc
theorem few_cov {l : List Int} {a : Int} (h : covF l a (fullN l) = true) : ∀ k, covF l a (fewTo l a k) = true
  | 0 => h
  | k + 1 => by
    rw [fewTo]
    split
    · next e => exact e.2
    · exact few_cov h k
theorem cov_full {l : List Int} (hg : isGrp l = true) {a : Nat} (ha : a ≠ 0) (ha2 : a < 2 ^ ord l) : sumF l a (fullN l) = fullN l := by
  have hb := ord_bd hg
  obtain ⟨y, hy⟩ := bit_of_pos ha
  have hy2 := bit_lt ha2 hy
  refine Nat.eq_of_testBit_eq fun i => bool_eq_of ⟨fun h => ?_, fun h => ?_⟩
  · rw [fullN_bit]; exact decide_eq_true (bit_lt (sumF_lt (isGrp_ords hg) a _) h)
  · rw [fullN_bit, decide_eq_true_iff] at h
    exact testBit_sumF.2 ⟨y, addF l i (negF l y), by omega, hy, addF_bd hg _ _, by rw [fullN_bit]; exact decide_eq_true (addF_lt l (isGrp_ords hg) _ _), add_sub (isGrp_ords hg) h⟩
theorem greedy_cov {l : List Int} (hg : isGrp l = true) {a : Nat} (ha : a ≠ 0) (ha2 : a < 2 ^ ord l) : ∀ n out left, left = andN (fullN l) (sumF l a out) → out < 2 ^ ord l → left ≤ n → sumF l a (greedyN l a n out left) = fullN l ∧ greedyN l a n out left < 2 ^ ord l
  | 0, out, left, h, ho, hl => by
    have h0 : left = 0 := by omega
    subst h0
    exact ⟨(left_zero (sumF_lt (isGrp_ords hg) a out)).1 h.symm, ho⟩
  | n + 1, out, left, h, ho, hl => by
    by_cases h0 : left = 0
    · subst h0
      rw [greedyN_end]
      exact ⟨(left_zero (sumF_lt (isGrp_ords hg) a out)).1 h.symm, ho⟩
    · rw [greedyN_step h0]
      have hb := bestAt_lt hg a left
      have ho2 := ord_bd hg
      have hl2 : left < 2 ^ ord l := by rw [h]; exact andN_lt (fullN_lt l)
      have hless := greedy_less hg ha ha2 h0 hl2
      refine greedy_cov hg ha ha2 n _ _ ?_ (Nat.or_lt_two_pow ho (Nat.pow_lt_pow_right (by omega) hb)) (by omega)
      rw [sum_or_one (by omega), left_next, ← h]

/-! ### packings -/
theorem dir_iff {l : List Int} {a x : Nat} (ha : isSetB l a = true) (hx : isSetB l x = true) : directF l a x = true ↔ cnt (sumF l a x) = cnt a * cnt x := by
  rw [directF_yes (by rw [ha, hx]; rfl), beq_iff_eq, ← Int.natCast_mul]; omega
theorem dir_set {l : List Int} {a x : Int} (h : directF l a x = true) : isSetB l x = true := by
  unfold directF at h; simp only [Bool.and_eq_true] at h; exact h.1.2
theorem most_max (l : List Int) (a : Int) : ∀ k (x : Nat), x < k → directF l a x = true → cnt x ≤ cnt (mostTo l a k)
  | 0, x, hx, _ => by omega
  | k + 1, x, hx, hc => by
    by_cases e : cnt (mostTo l a k) < cnt k
    · cases q : directF l a k
      · rw [mostTo_no' q]
        by_cases hk : x = k
        · subst hk; rw [q] at hc; cases hc
        · exact most_max l a k x (by omega) hc
      · rw [mostTo_yes e q]
        by_cases hk : x = k
        · subst hk; exact Nat.le_refl _
        · have := most_max l a k x (by omega) hc; omega
    · rw [mostTo_no e]
      by_cases hk : x = k
      · subst hk; omega
      · exact most_max l a k x (by omega) hc
theorem most_dir {l : List Int} {a : Int} (h : directF l a (0 : Nat) = true) : ∀ k, directF l a (mostTo l a k) = true
  | 0 => h
  | k + 1 => by
    rw [mostTo]
    split
    · next e => exact e.2
    · exact most_dir h k

/-! ### tiles -/
def Til (l : List Int) (a Y : Nat) : Prop := Y < 2 ^ ord l ∧ sumF l a Y = fullN l ∧ cnt a * cnt Y = ord l
/-- a shift by an element of a tile meets no other shifts -/
theorem til_apart {l : List Int} (hg : isGrp l = true) {a Y d : Nat} (h : Til l a Y) (ha2 : a < 2 ^ ord l) (hd : Y.testBit d = true) : shiftF l a d &&& sumF l a (andN Y (2 ^ d)) = 0 := by
  obtain ⟨hY, hs, hc⟩ := h
  have hob := ord_bd hg
  have hd2 := bit_lt hY hd
  refine Classical.byContradiction fun hne => ?_
  have hlt : shiftF l a d &&& sumF l a (andN Y (2 ^ d)) < 2 ^ 24 := Nat.lt_of_le_of_lt Nat.and_le_left (shiftF_bd hg a d)
  have hp := cnt_pos (Nat.pos_of_ne_zero hne) hlt
  have h1 := cnt_or_and (shiftF l a d) (sumF l a (andN Y (2 ^ d)))
  have h2 := cnt_sum_le l a (andN Y (2 ^ d))
  have h3 : andN Y (2 ^ d) ||| 2 ^ d = Y := put_back hd
  have h4 := sum_or_one (l := l) (a := a) (b := andN Y (2 ^ d)) (z := d) (by omega)
  rw [h3, hs] at h4
  have h5 : cnt Y = cnt (andN Y (2 ^ d)) + 1 := by
    have := cnt_or_new (b := andN Y (2 ^ d)) (x := d) (Nat.lt_of_lt_of_le (andN_lt hY) (pow_ord hg)) (by omega) (andN_self_bit Y d)
    rw [h3] at this; exact this
  rw [Nat.or_comm, ← h4, cnt_full hg, cnt_shift hg ha2] at h1
  rw [h5, Nat.mul_add, Nat.mul_one] at hc
  omega
theorem fold_find {P : Nat → Prop} [DecidablePred P] (F : Nat → Nat → List Nat) : ∀ (L : List Nat) (out : List Nat), (out ≠ [] ∨ ∃ x ∈ L, P x ∧ F x 1 ≠ []) → L.foldl (fun (out : List Nat) (x : Nat) => if out.length < 1 ∧ P x then out ++ F x (1 - out.length) else out) out ≠ []
  | [], out, h => by
    rcases h with h | ⟨x, hx, _⟩
    · exact h
    · cases hx
  | y :: L, out, h => by
    rw [List.foldl_cons]
    refine fold_find F L _ ?_
    by_cases ho : out = []
    · subst ho
      rcases h with h | ⟨x, hx, hp, hf⟩
      · exact absurd rfl h
      · rw [List.mem_cons] at hx
        rcases hx with rfl | hx
        · left; rw [if_pos ⟨by simp, hp⟩]; simpa using hf
        · right; exact ⟨x, hx, hp, hf⟩
    · left
      have : ¬ (out.length < 1 ∧ P y) := fun e => ho (List.eq_nil_of_length_eq_zero (by omega))
      rw [if_neg this]; exact ho
theorem fold_all {P : Nat → Prop} [DecidablePred P] {Q : Nat → Prop} (m : Nat) (F : Nat → Nat → List Nat) : ∀ (L : List Nat) (out : List Nat), (∀ z ∈ out, Q z) → (∀ x ∈ L, P x → ∀ k, ∀ z ∈ F x k, Q z) → ∀ z ∈ L.foldl (fun (out : List Nat) (x : Nat) => if out.length < m ∧ P x then out ++ F x (m - out.length) else out) out, Q z
  | [], out, h, _ => h
  | y :: L, out, h, hF => by
    rw [List.foldl_cons]
    refine fold_all m F L _ ?_ (fun x hx => hF x (by simp [hx]))
    split
    · next e =>
      intro z hz
      rw [List.mem_append] at hz
      rcases hz with hz | hz
      · exact h z hz
      · exact hF y (by simp) e.2 _ z hz
    · exact h
theorem low_first {l : List Int} (hg : isGrp l = true) {u : Nat} (hu : u < 2 ^ ord l) (hne : u ≠ fullN l) : lowZ u < ord l ∧ u.testBit (lowZ u) = false := by
  have hb := ord_bd hg
  have : ∃ j, j < ord l ∧ u.testBit j = false ∧ ∀ i, i < j → u.testBit i = true := by
    refine Classical.byContradiction fun hq => hne (not_full hu (e := ord l) ?_ (Nat.le_refl _))
    intro j
    induction j using Nat.strongRecOn with
    | ind j ih =>
      intro hj
      refine Classical.byContradiction fun hb => hq ⟨j, hj, by simpa using hb, fun i hi => ih i hi (by omega)⟩
  obtain ⟨j, hj, h1, h2⟩ := this
  rw [lowZ_is h2 h1 (by omega)]
  exact ⟨hj, h1⟩
theorem tl_find {l : List Int} (hg : isGrp l = true) {a Y : Nat} (ha : a ≠ 0) (ha2 : a < 2 ^ ord l) (hY : Til l a Y) : ∀ f u b, u < 2 ^ ord l → Sub b Y → u = sumF l a b → ord l < f + cnt u → tlS l a f u b 1 ≠ []
  | 0, u, b, hu, _, _, hf => by have := cnt_ord hg hu; omega
  | f + 1, u, b, hu, hb, hs, hf => by
    have hob := ord_bd hg
    have hO := isGrp_ords hg
    by_cases hfull : u = fullN l
    · rw [tlS_full hfull]; simp
    · obtain ⟨he, hbit⟩ := low_first hg hu hfull
      unfold tlS
      rw [if_neg hfull]
      have hin : (fullN l).testBit (lowZ u) = true := by rw [fullN_bit]; exact decide_eq_true he
      rw [← hY.2.1] at hin
      obtain ⟨x, d, hx, hx2, hd, hd2, e⟩ := testBit_sumF.1 hin
      have hdF : dF l u x = d := by
        unfold dF
        rw [← e, addF_comm l x d, addF_assoc l hO, addF_neg l hO, addF_zero' hO (bit_lt hY.1 hd2)]
      have hdb : b.testBit d = false := by
        refine Classical.byContradiction fun q => ?_
        have q' : b.testBit d = true := by simpa using q
        have : u.testBit (lowZ u) = true := by rw [hs]; exact testBit_sumF.2 ⟨x, d, hx, hx2, hd, q', by rw [← hs]; exact e⟩
        rw [hbit] at this; cases this
      have hap : shiftF l a d &&& u = 0 := by
        have h1 := til_apart hg hY ha2 hd2
        rw [and_z] at h1 ⊢
        intro i hi
        have h2 := h1 i hi
        refine Classical.byContradiction fun q => ?_
        have q' : u.testBit i = true := by simpa using q
        rw [hs] at q'
        have := sumF_mono (l := l) (a := a) (b := a) (Sub.refl a) (c := b) (d := andN Y (2 ^ d)) (fun j hj => by
          rw [andN_bit, hb j hj, bit_two]
          have : ¬ d = j := fun q => by subst q; rw [hdb] at hj; cases hj
          simp [this]) i q'
        rw [h2] at this; cases this
      refine fold_find (P := fun x => shiftF l a (dF l u x) &&& u = 0) (fun x k => tlS l a f (u ||| shiftF l a (dF l u x)) (b ||| 2 ^ dF l u x) k) _ _ (Or.inr ⟨x, mem_elems.2 ⟨hx, hx2⟩, by rw [hdF]; exact hap, ?_⟩)
      have hm := tl_more hg ha ha2 hu d hap
      show tlS l a f (u ||| shiftF l a (dF l u x)) (b ||| 2 ^ dF l u x) 1 ≠ []
      rw [hdF]
      refine tl_find hg ha ha2 hY f _ _ hm.1 ?_ ?_ (by omega)
      · intro i hi
        rw [Nat.testBit_or, Bool.or_eq_true, bit_two, decide_eq_true_iff] at hi
        rcases hi with q | q
        · exact hb i q
        · subst q; exact hd2
      · rw [sum_or_one hd, ← hs]
theorem tl_sound {l : List Int} (hg : isGrp l = true) {a : Nat} (ha : a ≠ 0) (ha2 : a < 2 ^ ord l) : ∀ f u b m, u < 2 ^ ord l → b < 2 ^ ord l → u = sumF l a b → cnt u = cnt a * cnt b → ∀ z ∈ tlS l a f u b m, Til l a z
  | 0, _, _, _, _, _, _, _, z, hz => by simp [tlS] at hz
  | f + 1, u, b, m, hu, hb, hs, hc, z, hz => by
    have hob := ord_bd hg
    by_cases hfull : u = fullN l
    · rw [tlS_full hfull, List.mem_singleton] at hz
      subst hz
      exact ⟨hb, by rw [← hs, hfull], by rw [← hc, hfull, cnt_full hg]⟩
    · unfold tlS at hz
      rw [if_neg hfull] at hz
      refine fold_all (P := fun x => shiftF l a (dF l u x) &&& u = 0) (Q := Til l a) m (fun x k => tlS l a f (u ||| shiftF l a (dF l u x)) (b ||| 2 ^ dF l u x) k) (elems a) [] (by simp) ?_ z hz
      intro x hx hap k z hz
      have hdl := dF_lt hg u x
      obtain ⟨d, hd⟩ : ∃ d, d = dF l u x := ⟨_, rfl⟩
      have hz' : z ∈ tlS l a f (u ||| shiftF l a (dF l u x)) (b ||| 2 ^ dF l u x) k := hz
      rw [← hd] at hz' hap hdl
      have hm := tl_more hg ha ha2 hu d hap
      have hdb : b.testBit d = false := by
        refine Classical.byContradiction fun q => ?_
        have q' : b.testBit d = true := by simpa using q
        have h1 := shift_sub (l := l) (a := a) (by omega : d < 24) q'
        have h2 : u ||| shiftF l a d = u := by
          refine Nat.eq_of_testBit_eq fun i => bool_eq_of ?_
          rw [Nat.testBit_or, Bool.or_eq_true]
          exact ⟨fun e => e.elim id fun e => by rw [hs]; exact h1 i e, Or.inl⟩
        rw [h2] at hm; omega
      refine tl_sound hg ha ha2 f _ _ k hm.1 (Nat.or_lt_two_pow hb (Nat.pow_lt_pow_right (by omega) hdl)) (by rw [sum_or_one (by omega), ← hs]) ?_ z hz'
      have h3 := cnt_or_and u (shiftF l a d)
      rw [Nat.and_comm] at h3
      rw [hap, cnt_zero, cnt_shift hg ha2] at h3
      have h4 := cnt_or_new (Nat.lt_of_lt_of_le hb (pow_ord hg)) (by omega : d < 24) hdb
      rw [h4, Nat.mul_add, Nat.mul_one]; omega
theorem sum_one {l : List Int} (hg : isGrp l = true) {a : Nat} (ha2 : a < 2 ^ ord l) : sumF l a 1 = a := by
  have hob := ord_bd hg
  refine Nat.eq_of_testBit_eq fun i => bool_eq_of ?_
  rw [testBit_sumF]
  constructor
  · rintro ⟨u, v, hu, hu2, hv, hv2, e⟩
    rw [one_bit, decide_eq_true_iff] at hv2
    subst hv2
    rw [← e, addF_zero' (isGrp_ords hg) (bit_lt ha2 hu2)]; exact hu2
  · intro hi
    have := bit_lt ha2 hi
    exact ⟨i, 0, by omega, hi, by omega, by decide, addF_zero' (isGrp_ords hg) this⟩
/-- the search finds a tile where there is one, and nothing else -/
theorem ft_iff {l : List Int} (hg : isGrp l = true) {a : Nat} (ha : a ≠ 0) (ha2 : a < 2 ^ ord l) : ftB l a = true ↔ ∃ Y, Til l a Y := by
  have hob := ord_bd hg
  have hO := isGrp_ords hg
  have h1 : isOneB l a = true := isOneB_yes (isSetB_of hg ha2) (Nat.pos_of_ne_zero ha)
  have c1 : cnt 1 = 1 := by decide
  constructor
  · intro h
    cases hL : tileL l a 1 with
    | nil => rw [(ft_nil hL).1] at h; cases h
    | cons x L => exact ⟨x, tl_sound hg ha ha2 (ord l + 1) a 1 1 ha2 (one_lt hg) (sum_one hg ha2).symm (by rw [c1, Nat.mul_one]) x (by show x ∈ tileL l a 1; rw [hL]; simp)⟩
  · rintro ⟨Y, hY, hs, hc⟩
    have hY0 : Y ≠ 0 := fun e => by rw [e, cnt_zero] at hc; omega
    obtain ⟨y, hy⟩ := bit_of_pos hY0
    have hyo := bit_lt hY hy
    have hT : Til l a (shiftF l Y (negF l y)) := by
      refine ⟨shiftF_lt hO _ _, ?_, by rw [cnt_shift hg hY]; exact hc⟩
      refine Nat.eq_of_testBit_eq fun i => bool_eq_of ⟨fun h => ?_, fun h => ?_⟩
      · rw [fullN_bit]; exact decide_eq_true (bit_lt (sumF_lt hO a _) h)
      · rw [fullN_bit, decide_eq_true_iff] at h
        have hin : (fullN l).testBit (addF l i y) = true := by rw [fullN_bit]; exact decide_eq_true (addF_lt l hO _ _)
        rw [← hs] at hin
        obtain ⟨x, d, hx, hx2, hd, hd2, e⟩ := testBit_sumF.1 hin
        refine testBit_sumF.2 ⟨x, addF l (negF l y) d, hx, hx2, addF_bd hg _ _, testBit_shiftF.2 ⟨d, hd, hd2, rfl⟩, ?_⟩
        rw [addF_comm l (negF l y) d, ← addF_assoc l hO, e, addF_assoc l hO, addF_neg l hO, addF_zero' hO h]
    have hne := tl_find hg ha ha2 hT (ord l + 1) a 1 ha2 (fun i hi => by
      rw [one_bit, decide_eq_true_iff] at hi
      subst hi
      exact testBit_shiftF.2 ⟨y, by omega, hy, by rw [addF_comm]; exact addF_neg l hO y⟩) (sum_one hg ha2).symm (by
      have := cnt_pos (Nat.pos_of_ne_zero ha) (Nat.lt_of_lt_of_le ha2 (pow_ord hg)); omega)
    cases hL : tileL l a 1 with
    | nil => exact absurd hL hne
    | cons x L => exact (ft_yes h1 hL).1

/-! ### all together -/

/-! ### sizes of intersections -/
def corF (l : List Int) (a b : Int) : List Int := if isSetB l a && isSetB l b then tabN l a.toNat (oppF l b.toNat) else []
theorem corF_no {l : List Int} {a b : Int} (h : (isSetB l a && isSetB l b) = false) : corF l a b = [] := by unfold corF; rw [h]; rfl
theorem corF_yes {l : List Int} {a b : Nat} (h : (isSetB l a && isSetB l b) = true) : corF l a b = tabN l a (oppF l b) := by unfold corF; rw [if_pos h]; rfl
theorem cnt_opp {l : List Int} (hg : isGrp l = true) {a : Nat} (ha : a < 2 ^ ord l) : cnt (oppF l a) = cnt a := by
  have hO := isGrp_ords hg
  unfold oppF
  rw [cnt_bset]
  · simp [cnt]
  · refine List.Pairwise.map _ ?_ (List.Pairwise.and_mem.1 (elems_nodup a))
    rintro y z ⟨hy, hz, hne⟩ e
    have h1 := neg_neg hO (bit_lt ha (mem_elems.1 hy).2)
    rw [e, neg_neg hO (bit_lt ha (mem_elems.1 hz).2)] at h1
    exact hne h1.symm
  · intro y hy
    obtain ⟨z, _, rfl⟩ := List.mem_map.1 hy
    exact negF_bd hg _
theorem count_row {l : List Int} (hg : isGrp l = true) {b u x : Nat} (hb : b < 2 ^ ord l) (hu : u < ord l) (hx : x < ord l) :
    ((elems (oppF l b)).map (fun y => addF l u y)).count x = ((shiftF l b x).testBit u).toNat := by
  have hob := ord_bd hg
  have hO := isGrp_ords hg
  have hnd : ((elems (oppF l b)).map (fun y => addF l u y)).Nodup := by
    refine List.Pairwise.map _ ?_ (List.Pairwise.and_mem.1 (elems_nodup _))
    rintro y z ⟨hy, hz, hne⟩ e
    exact hne (addF_cancel hO (bit_lt (oppF_lt hO b) (mem_elems.1 hy).2) (bit_lt (oppF_lt hO b) (mem_elems.1 hz).2) e)
  have h1 := List.nodup_iff_count.1 hnd x
  have hm : x ∈ (elems (oppF l b)).map (fun y => addF l u y) ↔ (shiftF l b x).testBit u = true := by
    rw [List.mem_map, testBit_shiftF]
    constructor
    · rintro ⟨y, hy, e⟩
      obtain ⟨z, hz, hz2, rfl⟩ := testBit_oppF.1 (mem_elems.1 hy).2
      refine ⟨z, hz, hz2, ?_⟩
      rw [← e, addF_assoc l hO, addF_comm l (negF l z) z, addF_neg l hO, addF_zero' hO hu]
    · rintro ⟨z, hz, hz2, e⟩
      refine ⟨negF l z, mem_elems.2 ⟨negF_bd hg z, testBit_oppF.2 ⟨z, hz, hz2, rfl⟩⟩, ?_⟩
      rw [← e, addF_assoc l hO, addF_neg l hO, addF_zero' hO hx]
  cases hs : (shiftF l b x).testBit u
  · have : x ∉ (elems (oppF l b)).map (fun y => addF l u y) := fun q => by rw [hm, hs] at q; cases q
    rw [List.count_eq_zero.2 this]; rfl
  · have := List.count_pos_iff.2 (hm.2 hs)
    show _ = 1
    omega
theorem sum_toNat' (q : Nat → Bool) : ∀ L : List Nat, (L.map (fun x => (q x).toNat)).sum = (L.filter q).length
  | [] => rfl
  | x :: L => by
    simp only [List.map_cons, List.sum_cons]
    rw [sum_toNat' q L]
    cases h : q x <;> simp [h]; omega
theorem inter_tab {l : List Int} (hg : isGrp l = true) {a b : Nat} (ha : a < 2 ^ ord l) (hb : b < 2 ^ ord l) : interTo l a b (ord l) = tabN l a (oppF l b) := by
  refine ext_nth (by rw [interTo_len, tabN_len]) fun x hx => ?_
  rw [interTo_len] at hx
  rw [nth_tabN hg]
  have e1 : nth (interTo l a b (ord l)) x = (cnt (a &&& shiftF l b x) : Int) := by
    unfold interTo
    rw [nth_castL]
    simp [nthN, List.getD, hx]
  rw [e1]
  congr 1
  unfold sumsL
  rw [List.count_flatMap]
  have e2 : (elems a).map (List.count x ∘ fun u => (elems (oppF l b)).map (fun y => addF l u y)) = (elems a).map (fun u => ((shiftF l b x).testBit u).toNat) := by
    refine List.map_congr_left fun u hu => ?_
    exact count_row hg hb (bit_lt ha (mem_elems.1 hu).2) hx
  rw [e2, sum_toNat']
  unfold cnt elems
  rw [List.filter_filter]
  congr 1
  refine List.filter_congr fun u _ => ?_
  rw [Nat.testBit_and, Bool.and_comm]
theorem inter_cor (l : List Int) (a b : Int) : interF l a b = corF l a b := by
  cases h : (isSetB l a && isSetB l b)
  · rw [corF_no h]; unfold interF; rw [h]; rfl
  · have hp := h
    rw [Bool.and_eq_true] at hp
    obtain ⟨a, rfl, ha, -, hg⟩ := isSetB_nat hp.1
    obtain ⟨b, rfl, hb, -⟩ := isSetB_nat hp.2
    rw [corF_yes h]; unfold interF; rw [if_pos h]
    exact inter_tab hg ha hb
def totTo (t : List Int) : Nat → Int
  | 0 => 0
  | k + 1 => totTo t k + nth t k
theorem totTo_succ (t : List Int) (k : Nat) : totTo t (k + 1) = totTo t k + nth t k := rfl
theorem totTo_bd {t : List Int} {B : Int} (h : ∀ i, 0 ≤ nth t i ∧ nth t i ≤ B) : ∀ k, 0 ≤ totTo t k ∧ totTo t k ≤ B * (k : Int)
  | 0 => by simp [totTo]
  | k + 1 => by
    have ih := totTo_bd h k
    have := h k
    have e : B * ((k + 1 : Nat) : Int) = B * (k : Int) + B := by rw [Int.natCast_add, Int.mul_add]; simp
    rw [totTo_succ, e]; omega
theorem filt_lt (k : Nat) : ∀ L : List Nat, (L.filter (fun x => decide (x < k + 1))).length = (L.filter (fun x => decide (x < k))).length + L.count k
  | [] => rfl
  | x :: L => by
    have ih := filt_lt k L
    rw [List.count_cons]
    by_cases h1 : x < k
    · rw [List.filter_cons_of_pos (by simp; omega), List.filter_cons_of_pos (by simpa using h1), List.length_cons, List.length_cons, ih]
      have : (x == k) = false := by simp; omega
      rw [this]; simp; omega
    · by_cases h2 : x = k
      · rw [List.filter_cons_of_pos (by simp; omega), List.filter_cons_of_neg (by simpa using h1), List.length_cons, ih]
        have : (x == k) = true := by simp [h2]
        rw [this]; simp; omega
      · rw [List.filter_cons_of_neg (by simp; omega), List.filter_cons_of_neg (by simpa using h1), ih]
        have : (x == k) = false := by simp [h2]
        rw [this]; simp
theorem tot_tab {l : List Int} (hg : isGrp l = true) (a b : Nat) : totTo (tabN l a b) (ord l) = ((cnt a * cnt b : Nat) : Int) := by
  have key : ∀ k, totTo (tabN l a b) k = (((sumsL l (elems a) (elems b)).filter (fun x => decide (x < k))).length : Int) := by
    intro k
    induction k with
    | zero => rw [List.filter_eq_nil_iff.2 (by simp)]; rfl
    | succ k ih => rw [totTo_succ, ih, nth_tabN hg, filt_lt]; omega
  rw [key, List.filter_eq_self.2 fun x hx => decide_eq_true (sumsL_lt hg x hx), sums_len]; rfl
theorem cor_tot {l : List Int} {a b : Nat} (h : (isSetB l a && isSetB l b) = true) : totTo (corF l a b) (corF l a b).length = (cnt a : Int) * (cnt b : Int) := by
  have hp := h
  rw [Bool.and_eq_true] at hp
  obtain ⟨b', e, hb, -, hg⟩ := isSetB_nat hp.2
  have e' : b' = b := by omega
  subst e'
  rw [corF_yes h, tabN_len, tot_tab hg, cnt_opp hg hb]; simp
end Go.Zz

/- Sets of small doubling fill a coset. No program is named here. -/
namespace Go.Zz

theorem sum_in {l : List Int} {a b x y : Nat} (hx : x < 24) (hy : y < 24) (h1 : a.testBit x = true) (h2 : b.testBit y = true) : (sumF l a b).testBit (addF l x y) = true := testBit_sumF.2 ⟨x, y, hx, h1, hy, h2, rfl⟩
/-- differences of members -/
def difN (l : List Int) (x y : Nat) : Nat := addF l x (negF l y)
def dS (l : List Int) (n : Nat) : Nat := sumF l n (oppF l n)
theorem dS_in {l : List Int} (hg : isGrp l = true) {n x y : Nat} (hn : n < 2 ^ ord l) (hx : n.testBit x = true) (hy : n.testBit y = true) : (dS l n).testBit (difN l x y) = true := by
  have hb := ord_bd hg
  have h1 := bit_lt hn hx
  have h2 := bit_lt hn hy
  exact sum_in (by omega) (negF_bd hg y) hx (testBit_oppF.2 ⟨y, by omega, hy, rfl⟩)
theorem dS_out {l : List Int} {n z : Nat} (h : (dS l n).testBit z = true) : ∃ x y, n.testBit x = true ∧ n.testBit y = true ∧ difN l x y = z := by
  obtain ⟨x, y, _, h1, _, h2, rfl⟩ := testBit_sumF.1 h
  obtain ⟨t, _, h3, rfl⟩ := testBit_oppF.1 h2
  exact ⟨x, t, h1, h3, rfl⟩
section
variable {l : List Int} (hO : Ords l)
include hO
theorem lc (x y z : Nat) : addF l x (addF l y z) = addF l y (addF l x z) := by rw [← addF_assoc l hO, addF_comm l x y, addF_assoc l hO]
theorem back {x y : Nat} (hx : x < ord l) : addF l y (difN l x y) = x := by
  unfold difN
  rw [lc hO, addF_neg l hO, addF_comm, addF_zero l hO _ hx]
theorem neg_add (x y : Nat) : negF l (addF l x y) = addF l (negF l x) (negF l y) := by
  refine addF_cancel hO (x := addF l x y) (negF_lt l hO _) (addF_lt l hO _ _) ?_
  rw [addF_neg l hO, addF_assoc l hO, lc hO y, addF_neg l hO, ← addF_assoc l hO, addF_neg l hO, addF_zero l hO 0 (by have := addF_lt l hO 0 0; omega)]
theorem dif_dif {x y p q : Nat} (h : addF l x p = addF l y q) : difN l x y = difN l q p := by
  refine addF_cancel hO (x := addF l y p) (addF_lt l hO _ _) (addF_lt l hO _ _) ?_
  unfold difN
  have e1 : addF l (addF l y p) (addF l x (negF l y)) = addF l (addF l x p) (addF l y (negF l y)) := by simp only [addF_assoc l hO, addF_comm l, lc hO]
  have e2 : addF l (addF l y p) (addF l q (negF l p)) = addF l (addF l y q) (addF l p (negF l p)) := by simp only [addF_assoc l hO, addF_comm l, lc hO]
  rw [e1, e2, addF_neg l hO, addF_neg l hO, h]
theorem dif_shift (a x y : Nat) : difN l (addF l a x) (addF l a y) = difN l x y := dif_dif hO (by simp only [addF_assoc l hO, addF_comm l, lc hO])
theorem dif_self (x : Nat) : difN l x x = 0 := addF_neg l hO x
theorem dif_lt (x y : Nat) : difN l x y < ord l := addF_lt l hO _ _
end

/-- a difference of a small set is had in many ways -/
theorem meet_big {l : List Int} (hg : isGrp l = true) {n x : Nat} (hn : n < 2 ^ ord l) (hs : 2 * cnt (sumF l n n) < 3 * cnt n) (hx : (dS l n).testBit x = true) : cnt n < 2 * cnt (n &&& shiftF l n x) := by
  have hO := isGrp_ords hg
  have hob := ord_bd hg
  obtain ⟨a, b, ha, hb, rfl⟩ := dS_out hx
  have hal := bit_lt hn ha
  have hbl := bit_lt hn hb
  have s1 : Sub (shiftF l n a) (sumF l n n) := shift_sub (by omega) ha
  have s2 : Sub (shiftF l n b) (sumF l n n) := shift_sub (by omega) hb
  have h1 := cnt_mono (Sub.or s1 s2)
  have h2 := cnt_or_and (shiftF l n a) (shiftF l n b)
  rw [cnt_shift hg hn, cnt_shift hg hn] at h2
  have h3 : Sub (shiftF l n a &&& shiftF l n b) (shiftF l (n &&& shiftF l n (difN l a b)) b) := fun z hz => by
    rw [Nat.testBit_and, Bool.and_eq_true] at hz
    obtain ⟨q, hq, hq2, e1⟩ := testBit_shiftF.1 hz.1
    obtain ⟨p, hp, hp2, e2⟩ := testBit_shiftF.1 hz.2
    refine testBit_shiftF.2 ⟨p, hp, ?_, e2⟩
    rw [Nat.testBit_and, hp2]
    refine testBit_shiftF.2 ⟨q, hq, hq2, ?_⟩
    refine addF_cancel hO (x := b) (addF_lt l hO _ _) (bit_lt hn hp2) ?_
    rw [e2, ← e1, ← addF_assoc l hO, back hO hal]
  have h4 := cnt_mono h3
  rw [cnt_shift hg (Nat.lt_of_le_of_lt Nat.and_le_left hn)] at h4
  omega
theorem common {p q n : Nat} (hn : n < 2 ^ 24) (h1 : Sub p n) (h2 : Sub q n) (h : cnt n < cnt p + cnt q) : ∃ z, p.testBit z = true ∧ q.testBit z = true := by
  have e1 := cnt_mono (Sub.or h1 h2)
  have e2 := cnt_or_and p q
  obtain ⟨z, hz⟩ := bit_of_pos (cnt_ne (a := p &&& q) (by omega))
  rw [Nat.testBit_and, Bool.and_eq_true] at hz
  exact ⟨z, hz⟩
theorem sub_and_l (a b : Nat) : Sub (a &&& b) a := fun i h => by rw [Nat.testBit_and, Bool.and_eq_true] at h; exact h.1
theorem sub_and_r (a b : Nat) : Sub (a &&& b) b := fun i h => by rw [Nat.testBit_and, Bool.and_eq_true] at h; exact h.2
theorem dS_dif {l : List Int} (hg : isGrp l = true) {n x y : Nat} (hn : n < 2 ^ ord l) (hs : 2 * cnt (sumF l n n) < 3 * cnt n) (hx : (dS l n).testBit x = true) (hy : (dS l n).testBit y = true) : (dS l n).testBit (difN l x y) = true := by
  have hO := isGrp_ords hg
  have h1 := meet_big hg hn hs hx
  have h2 := meet_big hg hn hs hy
  obtain ⟨z, hz1, hz2⟩ := common (Nat.lt_of_lt_of_le hn (pow_ord hg)) (sub_and_l n (shiftF l n x)) (sub_and_l n (shiftF l n y)) (by omega)
  obtain ⟨p, _, hp, e1⟩ := testBit_shiftF.1 (sub_and_r _ _ z hz1)
  obtain ⟨q, _, hq, e2⟩ := testBit_shiftF.1 (sub_and_r _ _ z hz2)
  rw [dif_dif hO (show addF l x p = addF l y q by rw [e1, e2])]
  exact dS_in hg hn hq hp
/-- closed under differences -/
def Cl (l : List Int) (h : Nat) : Prop := h < 2 ^ ord l ∧ h.testBit 0 = true ∧ ∀ x y, h.testBit x = true → h.testBit y = true → h.testBit (difN l x y) = true
theorem Cl.neg {l : List Int} (hg : isGrp l = true) {h y : Nat} (hc : Cl l h) (hy : h.testBit y = true) : h.testBit (negF l y) = true := by
  have := hc.2.2 0 y hc.2.1 hy
  unfold difN at this
  rwa [addF_zero l (isGrp_ords hg) _ (negF_lt l (isGrp_ords hg) y)] at this
theorem neg_negN {l : List Int} (hO : Ords l) {y : Nat} (hy : y < ord l) : negF l (negF l y) = y :=
  addF_cancel hO (x := negF l y) (negF_lt l hO _) hy (by rw [addF_neg l hO, addF_comm, addF_neg l hO])
theorem Cl.add {l : List Int} (hg : isGrp l = true) {h x y : Nat} (hc : Cl l h) (hx : h.testBit x = true) (hy : h.testBit y = true) : h.testBit (addF l x y) = true := by
  have := hc.2.2 x (negF l y) hx (hc.neg hg hy)
  unfold difN at this
  rwa [neg_negN (isGrp_ords hg) (bit_lt hc.1 hy)] at this
theorem Cl.gen {l : List Int} (hg : isGrp l = true) {h : Nat} (hc : Cl l h) : genF l h = h := by
  refine Sub.antisymm (genF_least (fun i hi => ?_) (fun i hi => ?_)) (fun i hi => ?_)
  · have : i = 0 := by
      cases i with
      | zero => rfl
      | succ i => rw [Nat.testBit_succ] at hi; simp at hi
    subst this; exact hc.2.1
  · obtain ⟨x, y, _, h1, _, h2, rfl⟩ := testBit_sumF.1 hi
    exact hc.add hg h1 h2
  · have hib := bit_lt hc.1 hi
    have hob := ord_bd hg
    refine genF_sum hg h i ?_
    refine testBit_sumF.2 ⟨0, i, by omega, genF_zero l h, by omega, hi, addF_zero l (isGrp_ords hg) i hib⟩
theorem Cl.sub {l : List Int} (hg : isGrp l = true) {h : Nat} (hc : Cl l h) : subB l (h : Nat) = true := by
  rw [subB_yes (isSetB_of hg hc.1), hc.gen hg]; simp
/-- a shift by a member is the subgroup itself -/
theorem Cl.shift {l : List Int} (hg : isGrp l = true) {h y : Nat} (hc : Cl l h) (hy : h.testBit y = true) : shiftF l h y = h := by
  have hob := ord_bd hg
  have := genF_shift hg (a := h) hy (by have := bit_lt hc.1 hy; omega)
  rwa [hc.gen hg] at this
/-- a shift of a subgroup is a coset -/
theorem Cl.coset {l : List Int} (hg : isGrp l = true) {h x : Nat} (hc : Cl l h) (hx : x < ord l) : cstB l (shiftF l h x : Nat) = true := by
  have hO := isGrp_ords hg
  have hob := ord_bd hg
  have hlt := shiftF_lt hO h x
  have h0 : (shiftF l h x).testBit x = true := testBit_shiftF.2 ⟨0, by omega, hc.2.1, by rw [addF_comm]; exact addF_zero l hO x hx⟩
  have hne := pos_of_bit h0
  have h1 : isOneB l (shiftF l h x : Nat) = true := isOneB_yes (isSetB_of hg hlt) (by omega)
  rw [cstB_sub h1]
  obtain ⟨-, -, hlow, -⟩ := lowN_first hne (Nat.lt_of_lt_of_le hlt (pow_ord hg))
  generalize lowN (shiftF l h x) = y at hlow ⊢
  obtain ⟨z, _, hz, rfl⟩ := testBit_shiftF.1 hlow
  rw [shiftF_shift hg, neg_add hO, addF_assoc l hO, lc hO, addF_comm l (negF l x) x, addF_neg l hO, addF_comm l (negF l z) 0, addF_zero l hO _ (negF_lt l hO z), hc.shift hg (hc.neg hg hz)]
  exact hc.sub hg
theorem row_sum {l : List Int} {n c : Nat} {h : Nat} (hc : ∀ x, h.testBit x = true → c < 2 * cnt (n &&& shiftF l n x)) : ∀ k (m : Nat), k ≤ m → (((c + 1) * (elemsTo h k).length : Nat) : Int) ≤ 2 * totTo (interTo l n n m) k
  | 0, _, _ => by simp [elemsTo, totTo]
  | k + 1, m, hm => by
    have ih := row_sum hc k m (by omega)
    rw [totTo_succ, elemsTo_succ]
    have e : nth (interTo l n n m) k = (cnt (n &&& shiftF l n k) : Int) := by
      unfold interTo
      rw [nth_castL]
      simp [nthN, List.getD, show k < m by omega]
    rw [e]
    cases hb : h.testBit k
    · simp; simp at ih; omega
    · have := hc k hb
      rw [if_pos rfl, List.length_append, Nat.mul_add]
      simp only [List.length_cons, List.length_nil, Nat.zero_add, Nat.mul_one]
      omega
theorem dS_small {l : List Int} (hg : isGrp l = true) {n : Nat} (hn : n < 2 ^ ord l) (h0 : n ≠ 0) (hs : 2 * cnt (sumF l n n) < 3 * cnt n) : cnt (dS l n) < 2 * cnt n := by
  have h1 := row_sum (l := l) (n := n) (c := cnt n) (h := dS l n) (fun x hx => meet_big hg hn hs hx) (ord l) (ord l) (Nat.le_refl _)
  rw [inter_tab hg hn hn, tot_tab hg, cnt_opp hg hn, elemsTo_all (a := dS l n) (ord_bd hg).2 (sumF_lt (isGrp_ords hg) _ _)] at h1
  have h2 : (cnt n + 1) * cnt (dS l n) ≤ 2 * (cnt n * cnt n) := by
    have : (elems (dS l n)).length = cnt (dS l n) := rfl
    rw [this] at h1
    omega
  have hp := cnt_pos (Nat.pos_of_ne_zero h0) (Nat.lt_of_lt_of_le hn (pow_ord hg))
  false_or_by_contra
  rename_i hx
  have h3 : (cnt n + 1) * (2 * cnt n) ≤ (cnt n + 1) * cnt (dS l n) := Nat.mul_le_mul_left _ (by omega)
  have e : (cnt n + 1) * (2 * cnt n) = 2 * (cnt n * cnt n) + 2 * cnt n := by rw [Nat.add_mul, Nat.mul_left_comm, Nat.one_mul]
  omega
theorem small_fact {l : List Int} (hg : isGrp l = true) {n : Nat} (hn : n < 2 ^ ord l) (h0 : n ≠ 0) (hs : 2 * cnt (sumF l n n) < 3 * cnt n) :
    subB l (dS l n : Nat) = true ∧ cstB l (sumF l n (dS l n) : Nat) = true ∧ sumF l n (dS l n) &&& n = n ∧ cnt (sumF l n (dS l n)) = cnt (dS l n) ∧ 2 * cnt (dS l n) < 3 * cnt n ∧ cnt (sumF l n n) = cnt (dS l n) := by
  have hO := isGrp_ords hg
  have hob := ord_bd hg
  obtain ⟨a, ha⟩ := bit_of_pos h0
  have hal := bit_lt hn ha
  have hc : Cl l (dS l n) := ⟨sumF_lt hO _ _, by have := dS_in hg hn ha ha; rwa [dif_self hO] at this, fun x y hx hy => dS_dif hg hn hs hx hy⟩
  -- the coset
  have hd : sumF l n (dS l n) = shiftF l (dS l n) a := by
    refine Sub.antisymm (fun z hz => ?_) (fun z hz => ?_)
    · obtain ⟨p, x, _, hp, _, hx, rfl⟩ := testBit_sumF.1 hz
      refine testBit_shiftF.2 ⟨addF l (difN l p a) x, addF_bd hg _ _, hc.add hg (dS_in hg hn hp ha) hx, ?_⟩
      rw [← addF_assoc l hO, back hO (bit_lt hn hp)]
    · obtain ⟨x, hx, hx2, rfl⟩ := testBit_shiftF.1 hz
      exact sum_in (by omega) hx ha hx2
  have hsubn : Sub n (sumF l n (dS l n)) := fun p hp => by
    have hpl := bit_lt hn hp
    have := sum_in (l := l) (b := dS l n) (y := 0) (by omega) (by omega) hp hc.2.1
    rwa [addF_comm, addF_zero l hO p hpl] at this
  have hcd : cnt (sumF l n (dS l n)) = cnt (dS l n) := by rw [hd, cnt_shift hg hc.1]
  have hbig := dS_small hg hn h0 hs
  -- the sum fills its coset
  have hS : sumF l n n = shiftF l (dS l n) (addF l a a) := by
    refine Sub.antisymm (fun z hz => ?_) (fun z hz => ?_)
    · obtain ⟨p, q, _, hp, _, hq, rfl⟩ := testBit_sumF.1 hz
      refine testBit_shiftF.2 ⟨addF l (difN l p a) (difN l q a), addF_bd hg _ _, hc.add hg (dS_in hg hn hp ha) (dS_in hg hn hq ha), ?_⟩
      have e : addF l (addF l a a) (addF l (difN l p a) (difN l q a)) = addF l (addF l a (difN l p a)) (addF l a (difN l q a)) := by simp only [addF_assoc l hO, addF_comm l, lc hO]
      rw [e, back hO (bit_lt hn hp), back hO (bit_lt hn hq)]
    · have hzl := bit_lt (shiftF_lt hO _ _) hz
      obtain ⟨h, hh, hh2, e⟩ := testBit_shiftF.1 hz
      have hsub2 : Sub (shiftF l (oppF l n) z) (sumF l n (dS l n)) := fun y hy => by
        obtain ⟨u, _, hu, rfl⟩ := testBit_shiftF.1 hy
        obtain ⟨p, _, hp, rfl⟩ := testBit_oppF.1 hu
        rw [hd]
        refine testBit_shiftF.2 ⟨addF l h (difN l a p), addF_bd hg _ _, hc.add hg hh2 (dS_in hg hn ha hp), ?_⟩
        unfold difN
        rw [← e]
        simp only [addF_assoc l hO, addF_comm l, lc hO]
      obtain ⟨y, hy1, hy2⟩ := common (Nat.lt_of_lt_of_le (sumF_lt hO _ _) (pow_ord hg)) hsubn hsub2 (by rw [hcd, cnt_shift hg (oppF_lt hO n), cnt_opp hg hn]; omega)
      obtain ⟨u, _, hu, e2⟩ := testBit_shiftF.1 hy2
      obtain ⟨p, hp24, hp, rfl⟩ := testBit_oppF.1 hu
      have hz2 : addF l p y = z := by
        rw [← e2]
        exact back hO hzl
      rw [← hz2]
      have hyl := bit_lt hn hy1
      exact sum_in hp24 (by omega) hp hy1
  have hcS : cnt (sumF l n n) = cnt (dS l n) := by rw [hS, cnt_shift hg hc.1]
  refine ⟨hc.sub hg, by rw [hd]; exact hc.coset hg hal, ?_, hcd, by omega, hcS⟩
  refine Nat.eq_of_testBit_eq fun i => bool_eq_of ?_
  rw [Nat.testBit_and, Bool.and_eq_true]
  exact ⟨fun h => h.2, fun h => ⟨hsubn i h, h⟩⟩
end Go.Zz
