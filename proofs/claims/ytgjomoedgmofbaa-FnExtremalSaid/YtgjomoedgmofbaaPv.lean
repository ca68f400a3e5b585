/- Plain facts on extremal sums in small groups: the least sums of all pairs of sets of given sizes are those of the formula. No program is named here. -/
import Derived.Test.YtgjomoedgmofbaaPh
namespace Go.Zz

/-! ### a quick count of bits -/
def pc (v : Nat) : Nat := ((v * 0x200040008001) &&& 0x111111111111111) % 15
theorem pc_all : (List.range 4096).all (fun v => pc v == cnt v) = true := by decide +kernel
theorem pc_cnt {v : Nat} (h : v < 4096) : pc v = cnt v := by
  have := List.all_eq_true.1 pc_all v (List.mem_range.2 h)
  exact eq_of_beq this

/-! ### unions by bits -/
def orRow : Nat → List Nat → Nat
  | _, [] => 0
  | a, r :: R => (a % 2 * r) ||| orRow (a / 2) R
theorem testBit_orRow : ∀ (R : List Nat) (a z : Nat), (orRow a R).testBit z = true ↔ ∃ y, y < R.length ∧ a.testBit y = true ∧ (nthN R y).testBit z = true
  | [], a, z => by simp [orRow]
  | r :: R, a, z => by
    unfold orRow
    rw [Nat.testBit_or, Bool.or_eq_true, testBit_orRow R (a / 2) z]
    constructor
    · rintro (h | ⟨y, h1, h2, h3⟩)
      · have : a % 2 = 1 := by
          by_cases e : a % 2 = 0
          · rw [e] at h; simp at h
          · omega
        rw [this, Nat.one_mul] at h
        exact ⟨0, by simp, by rw [Nat.testBit_zero]; simp [this], by simpa [nthN, List.getD] using h⟩
      · exact ⟨y + 1, by simp; omega, by rw [Nat.testBit_succ]; exact h2, by simpa [nthN, List.getD] using h3⟩
    · rintro ⟨y, h1, h2, h3⟩
      cases y with
      | zero =>
        rw [Nat.testBit_zero] at h2
        have : a % 2 = 1 := by simpa using h2
        rw [this, Nat.one_mul]
        exact Or.inl (by simpa [nthN, List.getD] using h3)
      | succ y =>
        exact Or.inr ⟨y, by simpa using h1, by rw [← Nat.testBit_succ]; exact h2, by simpa [nthN, List.getD] using h3⟩
def rowOf (l : List Int) (n x : Nat) : List Nat := (List.range n).map (fun y => 2 ^ addF l x y)
theorem rowOf_len (l : List Int) (n x : Nat) : (rowOf l n x).length = n := by simp [rowOf]
theorem nthN_map_range (f : Nat → Nat) {n y : Nat} (h : y < n) : nthN ((List.range n).map f) y = f y := by simp [nthN, List.getD, h]
theorem orRow_shift {l : List Int} {a x n : Nat} (hn : n ≤ 24) (ha : a < 2 ^ n) : orRow a (rowOf l n x) = shiftF l a x := by
  refine Nat.eq_of_testBit_eq fun z => bool_eq_of ?_
  rw [testBit_orRow, testBit_shiftF, rowOf_len]
  constructor
  · rintro ⟨y, h1, h2, h3⟩
    unfold rowOf at h3
    rw [nthN_map_range _ h1, Nat.testBit_two_pow] at h3
    exact ⟨y, by omega, h2, of_decide_eq_true h3⟩
  · rintro ⟨y, h1, h2, h3⟩
    have hy : y < n := by
      refine Classical.byContradiction fun e => ?_
      rw [testBit_ge ha (by omega)] at h2; cases h2
    refine ⟨y, hy, h2, ?_⟩
    unfold rowOf
    rw [nthN_map_range _ hy, Nat.testBit_two_pow]
    exact decide_eq_true h3

/-! ### all sets of a group, one element more at a time -/
def dfs (chk : Nat → Nat → Bool) : List (List Nat) → Nat → Nat → Nat → Nat → Bool
  | [], _, _, k, s => chk k s
  | R :: T, p, a, k, s => dfs chk T (2 * p) a k s && dfs chk T (2 * p) (a + p) (k + 1) (s ||| orRow (a + p) R)
theorem bit_add {a x : Nat} (h : a < 2 ^ x) (y : Nat) : (a + 2 ^ x).testBit y = (a.testBit y || decide (y = x)) := by
  have e : a + 2 ^ x = 2 ^ x ||| a := by rw [Nat.add_comm]; exact (Nat.two_pow_add_eq_or_of_lt h 1 |> fun e => by simpa using e)
  rw [e, Nat.testBit_or, Nat.testBit_two_pow, Bool.or_comm]
  congr 1
  by_cases q : x = y
  · subst q; simp
  · have : ¬ y = x := fun e => q e.symm
    simp [q, this]
theorem cnt_add {a x : Nat} (h : a < 2 ^ x) (hx : x < 24) : cnt (a + 2 ^ x) = cnt a + 1 := by
  have h1 : cnt (a + 2 ^ x) = (elemsTo (a + 2 ^ x) (x + 1)).length := by
    unfold cnt; rw [elemsTo_all (by omega) (by rw [Nat.pow_succ]; omega)]
  have h2 : cnt a = (elemsTo a x).length := by unfold cnt; rw [elemsTo_all (by omega) h]
  have h3 : elemsTo (a + 2 ^ x) x = elemsTo a x := by
    unfold elemsTo
    refine List.filter_congr fun y hy => ?_
    rw [bit_add h]
    have := List.mem_range.1 hy
    simp [show ¬ y = x by omega]
  rw [h1, h2, elemsTo_succ, h3, bit_add h]; simp
theorem sum_add {l : List Int} {a x : Nat} (h : a < 2 ^ x) (hx : x < 24) : sumF l (a + 2 ^ x) (a + 2 ^ x) = sumF l a a ||| orRow (a + 2 ^ x) (rowOf l (x + 1) x) := by
  have hb : a + 2 ^ x < 2 ^ (x + 1) := by rw [Nat.pow_succ]; omega
  rw [orRow_shift (by omega) hb]
  refine Nat.eq_of_testBit_eq fun z => bool_eq_of ?_
  rw [Nat.testBit_or, Bool.or_eq_true, testBit_sumF, testBit_sumF, testBit_shiftF]
  constructor
  · rintro ⟨u, v, hu, hu2, hv, hv2, e⟩
    have hu3 := hu2
    have hv3 := hv2
    rw [bit_add h, Bool.or_eq_true, decide_eq_true_iff] at hu3 hv3
    rcases hu3 with hu3 | hu3
    · rcases hv3 with hv3 | hv3
      · exact Or.inl ⟨u, v, hu, hu3, hv, hv3, e⟩
      · subst hv3
        exact Or.inr ⟨u, hu, hu2, by rw [addF_comm]; exact e⟩
    · subst hu3
      exact Or.inr ⟨v, hv, hv2, e⟩
  · rintro (⟨u, v, hu, hu2, hv, hv2, e⟩ | ⟨y, hy, hy2, e⟩)
    · exact ⟨u, v, hu, by rw [bit_add h, hu2]; rfl, hv, by rw [bit_add h, hv2]; rfl, e⟩
    · exact ⟨x, y, hx, by rw [bit_add h]; simp, hy, hy2, e⟩
theorem dfs_all {l : List Int} {chk : Nat → Nat → Bool} : ∀ (n x a : Nat), x + n ≤ 24 → a < 2 ^ x → dfs chk ((List.range' x n).map (fun x => rowOf l (x + 1) x)) (2 ^ x) a (cnt a) (sumF l a a) = true →
    ∀ A, A < 2 ^ (x + n) → A % 2 ^ x = a → chk (cnt A) (sumF l A A) = true
  | 0, x, a, _, ha, h, A, hA, e => by
    rw [Nat.mod_eq_of_lt (by simpa using hA)] at e
    subst e
    exact h
  | n + 1, x, a, hx, ha, h, A, hA, e => by
    rw [List.range'_succ, List.map_cons] at h
    unfold dfs at h
    rw [Bool.and_eq_true, ← Nat.pow_succ', ← sum_add ha (by omega), ← cnt_add ha (by omega)] at h
    have hm : A % 2 ^ (x + 1) = a ∨ A % 2 ^ (x + 1) = a + 2 ^ x := by
      rw [Nat.pow_succ, Nat.mod_mul, e]
      have := Nat.mod_lt (A / 2 ^ x) (show 0 < 2 by omega)
      rcases (show A / 2 ^ x % 2 = 0 ∨ A / 2 ^ x % 2 = 1 by omega) with q | q
      · exact Or.inl (by rw [q]; simp)
      · exact Or.inr (by rw [q]; simp)
    have hA' : A < 2 ^ (x + 1 + n) := by rw [show x + 1 + n = x + (n + 1) by omega]; exact hA
    rcases hm with q | q
    · exact dfs_all n (x + 1) a (by omega) (by rw [Nat.pow_succ]; omega) h.1 A hA' q
    · exact dfs_all n (x + 1) (a + 2 ^ x) (by omega) (by rw [Nat.pow_succ]; omega) h.2 A hA' q
def rowsD (l : List Int) (n : Nat) : List (List Nat) := (List.range' 0 n).map (fun x => rowOf l (x + 1) x)
theorem dfs_sound {l : List Int} {chk : Nat → Nat → Bool} {n : Nat} (hn : n ≤ 24) (h : dfs chk (rowsD l n) 1 0 0 0 = true) {A : Nat} (hA : A < 2 ^ n) : chk (cnt A) (sumF l A A) = true := by
  refine dfs_all (l := l) n 0 0 (by omega) (by simp) ?_ A (by rw [Nat.zero_add]; exact hA) (Nat.mod_one _)
  have e1 : cnt 0 = 0 := cnt_zero
  have e2 : sumF l 0 0 = 0 := by unfold sumF; rfl
  rw [e1, e2]; exact h

/-! ### all second sets -/
def dfsB (chk : Nat → Nat → Bool) : List Nat → Nat → Nat → Bool
  | [], k, s => chk k s
  | r :: S, k, s => dfsB chk S k s && dfsB chk S (k + 1) (s ||| r)
theorem dfsB_all {chk : Nat → Nat → Bool} : ∀ (S : List Nat) (k s : Nat), S.length ≤ 24 → dfsB chk S k s = true → ∀ b, b < 2 ^ S.length → chk (k + cnt b) (s ||| orRow b S) = true
  | [], k, s, _, h, b, hb => by
    have : b = 0 := by simpa using hb
    subst this
    rw [cnt_zero]; simpa [orRow, dfsB] using h
  | r :: S, k, s, hl, h, b, hb => by
    unfold dfsB at h
    rw [Bool.and_eq_true] at h
    rw [List.length_cons] at hl hb
    have hb2 : b / 2 < 2 ^ S.length := by rw [Nat.pow_succ] at hb; omega
    have hb24 : b < 2 ^ 24 := Nat.lt_of_lt_of_le hb (Nat.pow_le_pow_right (by omega) (by omega))
    have hc := cnt_half b hb24
    unfold orRow
    rcases (show b % 2 = 0 ∨ b % 2 = 1 by omega) with q | q
    · rw [q] at hc ⊢
      have := dfsB_all S k s (by omega) h.1 (b / 2) hb2
      rw [Nat.zero_mul, Nat.zero_or, hc, Nat.zero_add]; exact this
    · rw [q] at hc ⊢
      have := dfsB_all S (k + 1) (s ||| r) (by omega) h.2 (b / 2) hb2
      rw [Nat.one_mul, hc, ← Nat.or_assoc, ← Nat.add_assoc]; exact this
def shiftsR (l : List Int) (n a : Nat) : List Nat := (List.range n).map (fun y => orRow a (rowOf l n y))
theorem orRow_sum {l : List Int} {a b n : Nat} (hn : n ≤ 24) (ha : a < 2 ^ n) (hb : b < 2 ^ n) : orRow b (shiftsR l n a) = sumF l a b := by
  refine Nat.eq_of_testBit_eq fun z => bool_eq_of ?_
  rw [testBit_orRow, testBit_sumF]
  have hlen : (shiftsR l n a).length = n := by simp [shiftsR]
  rw [hlen]
  constructor
  · rintro ⟨y, h1, h2, h3⟩
    unfold shiftsR at h3
    rw [nthN_map_range _ h1, orRow_shift hn ha, testBit_shiftF] at h3
    obtain ⟨x, h4, h5, h6⟩ := h3
    exact ⟨x, y, h4, h5, by omega, h2, by rw [addF_comm]; exact h6⟩
  · rintro ⟨x, y, hx, hx2, hy, hy2, e⟩
    have h1 : y < n := by
      refine Classical.byContradiction fun q => ?_
      rw [testBit_ge hb (by omega)] at hy2; cases hy2
    refine ⟨y, h1, hy2, ?_⟩
    unfold shiftsR
    rw [nthN_map_range _ h1, orRow_shift hn ha, testBit_shiftF]
    exact ⟨x, hx, hx2, by rw [addF_comm]; exact e⟩
theorem dfsB_sound {l : List Int} {chk : Nat → Nat → Bool} {n a : Nat} (hn : n ≤ 24) (ha : a < 2 ^ n) (h : dfsB chk (shiftsR l n a) 0 0 = true) {b : Nat} (hb : b < 2 ^ n) : chk (cnt b) (sumF l a b) = true := by
  have hlen : (shiftsR l n a).length = n := by simp [shiftsR]
  have := dfsB_all _ 0 0 (by rw [hlen]; exact hn) h b (by rw [hlen]; exact hb)
  rw [orRow_sum hn ha hb, Nat.zero_add, Nat.zero_or] at this
  exact this
end Go.Zz
