/- Plain facts on extremal sums in small groups: the groups, tables and witnesses; printed by gen/small.py. -/
import Derived.Test.YtgjomoedgmofbaaPv
namespace Go.Zz

def small : List (List Nat) := [[], [2], [3], [4], [5], [6], [7], [8], [9], [10], [11], [12], [2, 2], [2, 3], [2, 4], [2, 5], [2, 6], [3, 2], [3, 3], [3, 4], [4, 2], [4, 3], [5, 2], [6, 2], [2, 2, 2], [2, 2, 3], [2, 3, 2], [3, 2, 2]]
theorem small1 : (List.range 25).all (fun a => Nat.blt a 2 || Nat.blt 12 a || small.contains [a]) = true := by decide +kernel
theorem small2 : (List.range 25).all (fun a => Nat.blt a 2 || (List.range 25).all (fun b => Nat.blt b 2 || Nat.blt 12 (a * b) || small.contains [a, b])) = true := by decide +kernel
theorem small3 : (List.range 25).all (fun a => Nat.blt a 2 || (List.range 25).all (fun b => Nat.blt b 2 || Nat.blt 12 (a * b) || (List.range 25).all (fun c => Nat.blt c 2 || Nat.blt 12 (a * b * c) || small.contains [a, b, c]))) = true := by decide +kernel
theorem blt_no {a b : Nat} (h : b ≤ a) : Nat.blt a b = false := by
  unfold Nat.blt
  cases e : Nat.ble (a + 1) b
  · rfl
  · have := Nat.le_of_ble_eq_true e; omega
theorem small_has {l : List Int} (h : isGrp l = true) (h12 : ord l ≤ 12) : ∃ L, L ∈ small ∧ l = castL L := by
  have h1 := isGrp_len h
  have h2 := fun j hj => isGrp_nth h (j := j) hj
  match l, h1 with
  | [], _ => exact ⟨[], by decide, rfl⟩
  | [a], _ =>
    have ha := h2 0 (by simp)
    rw [nth_cons_zero] at ha
    obtain ⟨x, rfl⟩ := Int.eq_ofNat_of_zero_le (show 0 ≤ a by omega)
    have ho : ord [(x : Int)] = x := by simp [ord, prodL]
    rw [ho] at h12
    have := List.all_eq_true.1 small1 x (List.mem_range.2 (by omega))
    rw [blt_no (by omega), blt_no (by omega), Bool.false_or, Bool.false_or, List.contains_iff_mem] at this
    exact ⟨[x], this, rfl⟩
  | [a, b], _ =>
    have ha := h2 0 (by simp)
    have hb := h2 1 (by simp)
    rw [nth_cons_zero] at ha
    rw [nth_cons_succ, nth_cons_zero] at hb
    obtain ⟨x, rfl⟩ := Int.eq_ofNat_of_zero_le (show 0 ≤ a by omega)
    obtain ⟨y, rfl⟩ := Int.eq_ofNat_of_zero_le (show 0 ≤ b by omega)
    have ho : ord [(x : Int), (y : Int)] = x * y := by
      simp [ord, prodL]
      rw [show ((x : Int) * (y : Int)) = ((x * y : Nat) : Int) by simp, Int.toNat_natCast]
    rw [ho] at h12
    have := List.all_eq_true.1 small2 x (List.mem_range.2 (by omega))
    rw [blt_no (by omega), Bool.false_or] at this
    have := List.all_eq_true.1 this y (List.mem_range.2 (by omega))
    rw [blt_no (by omega), blt_no h12, Bool.false_or, Bool.false_or, List.contains_iff_mem] at this
    exact ⟨[x, y], this, rfl⟩
  | [a, b, c], _ =>
    have ha := h2 0 (by simp)
    have hb := h2 1 (by simp)
    have hc := h2 2 (by simp)
    rw [nth_cons_zero] at ha
    rw [nth_cons_succ, nth_cons_zero] at hb
    rw [nth_cons_succ, nth_cons_succ, nth_cons_zero] at hc
    obtain ⟨x, rfl⟩ := Int.eq_ofNat_of_zero_le (show 0 ≤ a by omega)
    obtain ⟨y, rfl⟩ := Int.eq_ofNat_of_zero_le (show 0 ≤ b by omega)
    obtain ⟨z, rfl⟩ := Int.eq_ofNat_of_zero_le (show 0 ≤ c by omega)
    have ho : ord [(x : Int), (y : Int), (z : Int)] = x * y * z := by
      simp [ord, prodL]
      rw [show ((x : Int) * ((y : Int) * (z : Int))) = ((x * y * z : Nat) : Int) by simp [Int.mul_assoc], Int.toNat_natCast]
    rw [ho] at h12
    have hxy : x * y ≤ 12 := Nat.le_trans (Nat.le_mul_of_pos_right _ (by omega)) h12
    have := List.all_eq_true.1 small3 x (List.mem_range.2 (by omega))
    rw [blt_no (by omega), Bool.false_or] at this
    have := List.all_eq_true.1 this y (List.mem_range.2 (by omega))
    rw [blt_no (by omega), blt_no hxy, Bool.false_or, Bool.false_or] at this
    have := List.all_eq_true.1 this z (List.mem_range.2 (by omega))
    rw [blt_no (by omega), blt_no h12, Bool.false_or, Bool.false_or, List.contains_iff_mem] at this
    exact ⟨[x, y, z], this, rfl⟩
  | _ :: _ :: _ :: _ :: _, h => simp at h

/-- the sizes of the formula: row n, place m -/
def thr : Nat → List (List Nat)
  | 1 => [[0, 0], [0, 1]]
  | 2 => [[0, 0, 0], [0, 1, 2], [0, 2, 2]]
  | 3 => [[0, 0, 0, 0], [0, 1, 2, 3], [0, 2, 3, 3], [0, 3, 3, 3]]
  | 4 => [[0, 0, 0, 0, 0], [0, 1, 2, 3, 4], [0, 2, 2, 4, 4], [0, 3, 4, 4, 4], [0, 4, 4, 4, 4]]
  | 5 => [[0, 0, 0, 0, 0, 0], [0, 1, 2, 3, 4, 5], [0, 2, 3, 4, 5, 5], [0, 3, 4, 5, 5, 5], [0, 4, 5, 5, 5, 5], [0, 5, 5, 5, 5, 5]]
  | 6 => [[0, 0, 0, 0, 0, 0, 0], [0, 1, 2, 3, 4, 5, 6], [0, 2, 2, 3, 4, 6, 6], [0, 3, 3, 3, 6, 6, 6], [0, 4, 4, 6, 6, 6, 6], [0, 5, 6, 6, 6, 6, 6], [0, 6, 6, 6, 6, 6, 6]]
  | 7 => [[0, 0, 0, 0, 0, 0, 0, 0], [0, 1, 2, 3, 4, 5, 6, 7], [0, 2, 3, 4, 5, 6, 7, 7], [0, 3, 4, 5, 6, 7, 7, 7], [0, 4, 5, 6, 7, 7, 7, 7], [0, 5, 6, 7, 7, 7, 7, 7], [0, 6, 7, 7, 7, 7, 7, 7], [0, 7, 7, 7, 7, 7, 7, 7]]
  | 8 => [[0, 0, 0, 0, 0, 0, 0, 0, 0], [0, 1, 2, 3, 4, 5, 6, 7, 8], [0, 2, 2, 4, 4, 6, 6, 8, 8], [0, 3, 4, 4, 4, 7, 8, 8, 8], [0, 4, 4, 4, 4, 8, 8, 8, 8], [0, 5, 6, 7, 8, 8, 8, 8, 8], [0, 6, 6, 8, 8, 8, 8, 8, 8], [0, 7, 8, 8, 8, 8, 8, 8, 8], [0, 8, 8, 8, 8, 8, 8, 8, 8]]
  | 9 => [[0, 0, 0, 0, 0, 0, 0, 0, 0, 0], [0, 1, 2, 3, 4, 5, 6, 7, 8, 9], [0, 2, 3, 3, 5, 6, 6, 8, 9, 9], [0, 3, 3, 3, 6, 6, 6, 9, 9, 9], [0, 4, 5, 6, 7, 8, 9, 9, 9, 9], [0, 5, 6, 6, 8, 9, 9, 9, 9, 9], [0, 6, 6, 6, 9, 9, 9, 9, 9, 9], [0, 7, 8, 9, 9, 9, 9, 9, 9, 9], [0, 8, 9, 9, 9, 9, 9, 9, 9, 9], [0, 9, 9, 9, 9, 9, 9, 9, 9, 9]]
  | 10 => [[0, 0, 0, 0, 0, 0, 0, 0, 0, 0, 0], [0, 1, 2, 3, 4, 5, 6, 7, 8, 9, 10], [0, 2, 2, 4, 4, 5, 6, 8, 8, 10, 10], [0, 3, 4, 5, 5, 5, 8, 9, 10, 10, 10], [0, 4, 4, 5, 5, 5, 8, 10, 10, 10, 10], [0, 5, 5, 5, 5, 5, 10, 10, 10, 10, 10], [0, 6, 6, 8, 8, 10, 10, 10, 10, 10, 10], [0, 7, 8, 9, 10, 10, 10, 10, 10, 10, 10], [0, 8, 8, 10, 10, 10, 10, 10, 10, 10, 10], [0, 9, 10, 10, 10, 10, 10, 10, 10, 10, 10], [0, 10, 10, 10, 10, 10, 10, 10, 10, 10, 10]]
  | 11 => [[0, 0, 0, 0, 0, 0, 0, 0, 0, 0, 0, 0], [0, 1, 2, 3, 4, 5, 6, 7, 8, 9, 10, 11], [0, 2, 3, 4, 5, 6, 7, 8, 9, 10, 11, 11], [0, 3, 4, 5, 6, 7, 8, 9, 10, 11, 11, 11], [0, 4, 5, 6, 7, 8, 9, 10, 11, 11, 11, 11], [0, 5, 6, 7, 8, 9, 10, 11, 11, 11, 11, 11], [0, 6, 7, 8, 9, 10, 11, 11, 11, 11, 11, 11], [0, 7, 8, 9, 10, 11, 11, 11, 11, 11, 11, 11], [0, 8, 9, 10, 11, 11, 11, 11, 11, 11, 11, 11], [0, 9, 10, 11, 11, 11, 11, 11, 11, 11, 11, 11], [0, 10, 11, 11, 11, 11, 11, 11, 11, 11, 11, 11], [0, 11, 11, 11, 11, 11, 11, 11, 11, 11, 11, 11]]
  | 12 => [[0, 0, 0, 0, 0, 0, 0, 0, 0, 0, 0, 0, 0], [0, 1, 2, 3, 4, 5, 6, 7, 8, 9, 10, 11, 12], [0, 2, 2, 3, 4, 6, 6, 8, 8, 9, 10, 12, 12], [0, 3, 3, 3, 4, 6, 6, 8, 8, 9, 12, 12, 12], [0, 4, 4, 4, 4, 6, 6, 8, 8, 12, 12, 12, 12], [0, 5, 6, 6, 6, 6, 6, 11, 12, 12, 12, 12, 12], [0, 6, 6, 6, 6, 6, 6, 12, 12, 12, 12, 12, 12], [0, 7, 8, 8, 8, 11, 12, 12, 12, 12, 12, 12, 12], [0, 8, 8, 8, 8, 12, 12, 12, 12, 12, 12, 12, 12], [0, 9, 9, 9, 12, 12, 12, 12, 12, 12, 12, 12, 12], [0, 10, 10, 12, 12, 12, 12, 12, 12, 12, 12, 12, 12], [0, 11, 12, 12, 12, 12, 12, 12, 12, 12, 12, 12, 12], [0, 12, 12, 12, 12, 12, 12, 12, 12, 12, 12, 12, 12]]
  | _ => []
def chkD (t : List (List Nat)) (k s : Nat) : Bool := Nat.ble ((t.getD k []).getD k 0) (pc s) && Nat.ble (2 * pc s) (k * (k + 1))
def okD (L : List Nat) (o : Nat) : Bool := dfs (chkD (thr o)) (rowsD (castL L) o) 1 0 0 0
def chkB (t : List Nat) (k s : Nat) : Bool := Nat.ble (t.getD k 0) (pc s)
def okB (L : List Nat) (o : Nat) : Bool := (List.range (2 ^ (o - 1))).all (fun j => dfsB (chkB ((thr o).getD (pc (2 * j + 1)) [])) (shiftsR (castL L) o (2 * j + 1)) 0 0)
def witB (L : List Nat) (o n m : Nat) (w : Nat × Nat) : Bool := (pc w.1 == n) && (pc w.2 == m) && (w.1 % 2 == 1) && (w.2 % 2 == 1) && Nat.blt w.1 (2 ^ o) && Nat.blt w.2 (2 ^ o) && Nat.ble (pc (orRow w.2 (shiftsR (castL L) o w.1))) (((thr o).getD n []).getD m 0)
def okW (L : List Nat) (o : Nat) (W : List (Nat × Nat)) : Bool := (List.range' 1 o).all (fun n => (List.range' 1 o).all (fun m => W.any (witB L o n m)))

theorem okD_G1 : okD [] 1 = true := by decide +kernel
theorem okD_G2 : okD [2] 2 = true := by decide +kernel
theorem okD_G3 : okD [3] 3 = true := by decide +kernel
theorem okD_G4 : okD [4] 4 = true := by decide +kernel
theorem okD_G5 : okD [5] 5 = true := by decide +kernel
theorem okD_G6 : okD [6] 6 = true := by decide +kernel
theorem okD_G7 : okD [7] 7 = true := by decide +kernel
theorem okD_G8 : okD [8] 8 = true := by decide +kernel
theorem okD_G9 : okD [9] 9 = true := by decide +kernel
theorem okD_G10 : okD [10] 10 = true := by decide +kernel
theorem okD_G11 : okD [11] 11 = true := by decide +kernel
theorem okD_G12 : okD [12] 12 = true := by decide +kernel
theorem okD_G2_2 : okD [2, 2] 4 = true := by decide +kernel
theorem okD_G2_3 : okD [2, 3] 6 = true := by decide +kernel
theorem okD_G2_4 : okD [2, 4] 8 = true := by decide +kernel
theorem okD_G2_5 : okD [2, 5] 10 = true := by decide +kernel
theorem okD_G2_6 : okD [2, 6] 12 = true := by decide +kernel
theorem okD_G3_2 : okD [3, 2] 6 = true := by decide +kernel
theorem okD_G3_3 : okD [3, 3] 9 = true := by decide +kernel
theorem okD_G3_4 : okD [3, 4] 12 = true := by decide +kernel
theorem okD_G4_2 : okD [4, 2] 8 = true := by decide +kernel
theorem okD_G4_3 : okD [4, 3] 12 = true := by decide +kernel
theorem okD_G5_2 : okD [5, 2] 10 = true := by decide +kernel
theorem okD_G6_2 : okD [6, 2] 12 = true := by decide +kernel
theorem okD_G2_2_2 : okD [2, 2, 2] 8 = true := by decide +kernel
theorem okD_G2_2_3 : okD [2, 2, 3] 12 = true := by decide +kernel
theorem okD_G2_3_2 : okD [2, 3, 2] 12 = true := by decide +kernel
theorem okD_G3_2_2 : okD [3, 2, 2] 12 = true := by decide +kernel
theorem okB_G1 : okB [] 1 = true := by decide +kernel
theorem okW_G1 : okW [] 1 [(1, 1)] = true := by decide +kernel
theorem okB_G2 : okB [2] 2 = true := by decide +kernel
theorem okW_G2 : okW [2] 2 [(1, 1), (1, 3), (3, 1), (3, 3)] = true := by decide +kernel
theorem okB_G3 : okB [3] 3 = true := by decide +kernel
theorem okW_G3 : okW [3] 3 [(1, 1), (1, 3), (1, 7), (3, 1), (3, 3), (3, 7), (7, 1), (7, 3), (7, 7)] = true := by decide +kernel
theorem okB_G4 : okB [4] 4 = true := by decide +kernel
theorem okW_G4 : okW [4] 4 [(1, 1), (1, 3), (1, 7), (1, 15), (3, 1), (5, 5), (3, 7), (3, 15), (7, 1), (7, 3), (7, 7), (7, 15), (15, 1), (15, 3), (15, 7), (15, 15)] = true := by decide +kernel
theorem okB_G5 : okB [5] 5 = true := by decide +kernel
theorem okW_G5 : okW [5] 5 [(1, 1), (1, 3), (1, 7), (1, 15), (1, 31), (3, 1), (3, 3), (3, 7), (3, 15), (3, 31), (7, 1), (7, 3), (7, 7), (7, 15), (7, 31), (15, 1), (15, 3), (15, 7), (15, 15), (15, 31), (31, 1), (31, 3), (31, 7), (31, 15), (31, 31)] = true := by decide +kernel
theorem okB_G6 : okB [6] 6 = true := by decide +kernel
theorem okW_G6 : okW [6] 6 [(1, 1), (1, 3), (1, 7), (1, 15), (1, 31), (1, 63), (3, 1), (9, 9), (5, 21), (9, 27), (3, 31), (3, 63), (7, 1), (21, 5), (21, 21), (7, 15), (7, 31), (7, 63), (15, 1), (27, 9), (15, 7), (15, 15), (15, 31), (15, 63), (31, 1), (31, 3), (31, 7), (31, 15), (31, 31), (31, 63), (63, 1), (63, 3), (63, 7), (63, 15), (63, 31), (63, 63)] = true := by decide +kernel
theorem okB_G7 : okB [7] 7 = true := by decide +kernel
theorem okW_G7 : okW [7] 7 [(1, 1), (1, 3), (1, 7), (1, 15), (1, 31), (1, 63), (1, 127), (3, 1), (3, 3), (3, 7), (3, 15), (3, 31), (3, 63), (3, 127), (7, 1), (7, 3), (7, 7), (7, 15), (7, 31), (7, 63), (7, 127), (15, 1), (15, 3), (15, 7), (15, 15), (15, 31), (15, 63), (15, 127), (31, 1), (31, 3), (31, 7), (31, 15), (31, 31), (31, 63), (31, 127), (63, 1), (63, 3), (63, 7), (63, 15), (63, 31), (63, 63), (63, 127), (127, 1), (127, 3), (127, 7), (127, 15), (127, 31), (127, 63), (127, 127)] = true := by decide +kernel
theorem okB_G8 : okB [8] 8 = true := by decide +kernel
theorem okW_G8 : okW [8] 8 [(1, 1), (1, 3), (1, 7), (1, 15), (1, 31), (1, 63), (1, 127), (1, 255), (3, 1), (17, 17), (3, 7), (5, 85), (3, 31), (17, 119), (3, 127), (3, 255), (7, 1), (7, 3), (21, 21), (21, 85), (7, 31), (7, 63), (7, 127), (7, 255), (15, 1), (51, 17), (85, 21), (85, 85), (15, 31), (15, 63), (15, 127), (15, 255), (31, 1), (31, 3), (31, 7), (31, 15), (31, 31), (31, 63), (31, 127), (31, 255), (63, 1), (119, 17), (63, 7), (63, 15), (63, 31), (63, 63), (63, 127), (63, 255), (127, 1), (127, 3), (127, 7), (127, 15), (127, 31), (127, 63), (127, 127), (127, 255), (255, 1), (255, 3), (255, 7), (255, 15), (255, 31), (255, 63), (255, 127), (255, 255)] = true := by decide +kernel
theorem okB_G2_2 : okB [2, 2] 4 = true := by decide +kernel
theorem okW_G2_2 : okW [2, 2] 4 [(1, 1), (1, 3), (1, 7), (1, 15), (3, 1), (3, 3), (3, 7), (3, 15), (7, 1), (7, 3), (7, 7), (7, 15), (15, 1), (15, 3), (15, 7), (15, 15)] = true := by decide +kernel
theorem okB_G2_3 : okB [2, 3] 6 = true := by decide +kernel
theorem okW_G2_3 : okW [2, 3] 6 [(1, 1), (1, 3), (1, 7), (1, 15), (1, 31), (1, 63), (3, 1), (3, 3), (5, 21), (3, 15), (3, 31), (3, 63), (7, 1), (21, 5), (21, 21), (7, 15), (7, 31), (7, 63), (15, 1), (15, 3), (15, 7), (15, 15), (15, 31), (15, 63), (31, 1), (31, 3), (31, 7), (31, 15), (31, 31), (31, 63), (63, 1), (63, 3), (63, 7), (63, 15), (63, 31), (63, 63)] = true := by decide +kernel
theorem okB_G2_4 : okB [2, 4] 8 = true := by decide +kernel
theorem okW_G2_4 : okW [2, 4] 8 [(1, 1), (1, 3), (1, 7), (1, 15), (1, 31), (1, 63), (1, 127), (1, 255), (3, 1), (3, 3), (3, 7), (3, 15), (3, 31), (3, 63), (3, 127), (3, 255), (7, 1), (7, 3), (19, 19), (19, 51), (7, 31), (7, 63), (7, 127), (7, 255), (15, 1), (15, 3), (51, 19), (51, 51), (15, 31), (15, 63), (15, 127), (15, 255), (31, 1), (31, 3), (31, 7), (31, 15), (31, 31), (31, 63), (31, 127), (31, 255), (63, 1), (63, 3), (63, 7), (63, 15), (63, 31), (63, 63), (63, 127), (63, 255), (127, 1), (127, 3), (127, 7), (127, 15), (127, 31), (127, 63), (127, 127), (127, 255), (255, 1), (255, 3), (255, 7), (255, 15), (255, 31), (255, 63), (255, 127), (255, 255)] = true := by decide +kernel
theorem okB_G3_2 : okB [3, 2] 6 = true := by decide +kernel
theorem okW_G3_2 : okW [3, 2] 6 [(1, 1), (1, 3), (1, 7), (1, 15), (1, 31), (1, 63), (3, 1), (9, 9), (3, 7), (9, 27), (3, 31), (3, 63), (7, 1), (7, 3), (7, 7), (7, 15), (7, 31), (7, 63), (15, 1), (27, 9), (15, 7), (15, 15), (15, 31), (15, 63), (31, 1), (31, 3), (31, 7), (31, 15), (31, 31), (31, 63), (63, 1), (63, 3), (63, 7), (63, 15), (63, 31), (63, 63)] = true := by decide +kernel
theorem okB_G4_2 : okB [4, 2] 8 = true := by decide +kernel
theorem okW_G4_2 : okW [4, 2] 8 [(1, 1), (1, 3), (1, 7), (1, 15), (1, 31), (1, 63), (1, 127), (1, 255), (3, 1), (5, 5), (3, 7), (3, 15), (3, 31), (5, 95), (3, 127), (3, 255), (7, 1), (7, 3), (7, 7), (7, 15), (7, 31), (7, 63), (7, 127), (7, 255), (15, 1), (15, 3), (15, 7), (15, 15), (15, 31), (15, 63), (15, 127), (15, 255), (31, 1), (31, 3), (31, 7), (31, 15), (31, 31), (31, 63), (31, 127), (31, 255), (63, 1), (95, 5), (63, 7), (63, 15), (63, 31), (63, 63), (63, 127), (63, 255), (127, 1), (127, 3), (127, 7), (127, 15), (127, 31), (127, 63), (127, 127), (127, 255), (255, 1), (255, 3), (255, 7), (255, 15), (255, 31), (255, 63), (255, 127), (255, 255)] = true := by decide +kernel
theorem okB_G2_2_2 : okB [2, 2, 2] 8 = true := by decide +kernel
theorem okW_G2_2_2 : okW [2, 2, 2] 8 [(1, 1), (1, 3), (1, 7), (1, 15), (1, 31), (1, 63), (1, 127), (1, 255), (3, 1), (3, 3), (3, 7), (3, 15), (3, 31), (3, 63), (3, 127), (3, 255), (7, 1), (7, 3), (7, 7), (7, 15), (7, 31), (7, 63), (7, 127), (7, 255), (15, 1), (15, 3), (15, 7), (15, 15), (15, 31), (15, 63), (15, 127), (15, 255), (31, 1), (31, 3), (31, 7), (31, 15), (31, 31), (31, 63), (31, 127), (31, 255), (63, 1), (63, 3), (63, 7), (63, 15), (63, 31), (63, 63), (63, 127), (63, 255), (127, 1), (127, 3), (127, 7), (127, 15), (127, 31), (127, 63), (127, 127), (127, 255), (255, 1), (255, 3), (255, 7), (255, 15), (255, 31), (255, 63), (255, 127), (255, 255)] = true := by decide +kernel
theorem okD_all {L : List Nat} (h : L ∈ small) : okD L (ord (castL L)) = true := by
  simp only [small, List.mem_cons, List.mem_nil_iff, or_false] at h
  rcases h with rfl | rfl | rfl | rfl | rfl | rfl | rfl | rfl | rfl | rfl | rfl | rfl | rfl | rfl | rfl | rfl | rfl | rfl | rfl | rfl | rfl | rfl | rfl | rfl | rfl | rfl | rfl | rfl
  · exact okD_G1
  · exact okD_G2
  · exact okD_G3
  · exact okD_G4
  · exact okD_G5
  · exact okD_G6
  · exact okD_G7
  · exact okD_G8
  · exact okD_G9
  · exact okD_G10
  · exact okD_G11
  · exact okD_G12
  · exact okD_G2_2
  · exact okD_G2_3
  · exact okD_G2_4
  · exact okD_G2_5
  · exact okD_G2_6
  · exact okD_G3_2
  · exact okD_G3_3
  · exact okD_G3_4
  · exact okD_G4_2
  · exact okD_G4_3
  · exact okD_G5_2
  · exact okD_G6_2
  · exact okD_G2_2_2
  · exact okD_G2_2_3
  · exact okD_G2_3_2
  · exact okD_G3_2_2
theorem okB_all {L : List Nat} (h : L ∈ small) (h8 : ord (castL L) ≤ 8) : okB L (ord (castL L)) = true ∧ ∃ W, okW L (ord (castL L)) W = true := by
  simp only [small, List.mem_cons, List.mem_nil_iff, or_false] at h
  rcases h with rfl | rfl | rfl | rfl | rfl | rfl | rfl | rfl | rfl | rfl | rfl | rfl | rfl | rfl | rfl | rfl | rfl | rfl | rfl | rfl | rfl | rfl | rfl | rfl | rfl | rfl | rfl | rfl
  · exact ⟨okB_G1, _, okW_G1⟩
  · exact ⟨okB_G2, _, okW_G2⟩
  · exact ⟨okB_G3, _, okW_G3⟩
  · exact ⟨okB_G4, _, okW_G4⟩
  · exact ⟨okB_G5, _, okW_G5⟩
  · exact ⟨okB_G6, _, okW_G6⟩
  · exact ⟨okB_G7, _, okW_G7⟩
  · exact ⟨okB_G8, _, okW_G8⟩
  · exact absurd h8 (by decide)
  · exact absurd h8 (by decide)
  · exact absurd h8 (by decide)
  · exact absurd h8 (by decide)
  · exact ⟨okB_G2_2, _, okW_G2_2⟩
  · exact ⟨okB_G2_3, _, okW_G2_3⟩
  · exact ⟨okB_G2_4, _, okW_G2_4⟩
  · exact absurd h8 (by decide)
  · exact absurd h8 (by decide)
  · exact ⟨okB_G3_2, _, okW_G3_2⟩
  · exact absurd h8 (by decide)
  · exact absurd h8 (by decide)
  · exact ⟨okB_G4_2, _, okW_G4_2⟩
  · exact absurd h8 (by decide)
  · exact absurd h8 (by decide)
  · exact absurd h8 (by decide)
  · exact ⟨okB_G2_2_2, _, okW_G2_2_2⟩
  · exact absurd h8 (by decide)
  · exact absurd h8 (by decide)
  · exact absurd h8 (by decide)
end Go.Zz
