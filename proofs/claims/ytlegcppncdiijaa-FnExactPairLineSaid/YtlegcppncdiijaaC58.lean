/- Numbers that are glued: plain; narrow; numbers of the reference. -/
import Derived.Test.YtlegcppncdiijaaC57
namespace Go.Zz
open Go.RowKit Go.Proofs
set_option maxHeartbeats 400000
set_option maxRecDepth 4000

theorem rd_len (k : Nat) : ∀ m, m < 10 ^ k → (rd m).length ≤ k := by
  induction k with
  | zero => intro m h; have : m = 0 := by omega
            subst this; rw [rd_zero]; simp
  | succ k ih =>
    intro m h
    by_cases hm : m = 0
    · subst hm; rw [rd_zero]; simp
    · rw [rd_pos hm]
      have := ih (m / 10) (by rw [Nat.pow_succ] at h; omega)
      simp; omega
theorem digs_size {m : Nat} (h : m < 1000000000000) : (digs m ⟨#[]⟩).size ≤ 12 := by
  rw [digs_rd, ByteArray.size_append, strOfNums_size, List.length_reverse]
  have := rd_len 12 m (by omega)
  have e : (⟨#[]⟩ : ByteArray).size = 0 := rfl
  omega
theorem digs_some {m : Nat} (h : 0 < m) : 1 ≤ (digs m ⟨#[]⟩).size := by
  rw [digs_rd, ByteArray.size_append, strOfNums_size, List.length_reverse, rd_pos (by omega)]
  simp; omega
theorem fmtB_size {n : Int} (h : -1 ≤ n ∧ n < 1000000000000) : (fmtB n).size ≤ 13 := by
  unfold fmtB
  split
  · decide
  · split
    · have := digs_size (m := n.natAbs) (by omega)
      rw [ByteArray.size_append]
      have e : (⟨#[45]⟩ : ByteArray).size = 1 := rfl
      omega
    · have := digs_size (m := n.natAbs) (by omega)
      omega
theorem fmtB_some {n : Int} (h : -1 ≤ n ∧ n < 1000000000000) : 1 ≤ (fmtB n).size := by
  unfold fmtB
  split
  · decide
  · split
    · rw [ByteArray.size_append]
      have e : (⟨#[45]⟩ : ByteArray).size = 1 := rfl
      omega
    · exact digs_some (by omega)
/-- the first k texts of f, with s between them -/
def jn (s : ByteArray) (f : Nat → ByteArray) : Nat → ByteArray
  | 0 => ⟨#[]⟩
  | k + 1 => (if 0 < k then jn s f k ++ s else jn s f k) ++ f k
theorem jn_first (s : ByteArray) (f : Nat → ByteArray) : jn s f 1 = ⟨#[]⟩ ++ f 0 := rfl
theorem jn_next (s : ByteArray) (f : Nat → ByteArray) {k : Nat} (h : 0 < k) : jn s f (k + 1) = (jn s f k ++ s) ++ f k := by
  show (if 0 < k then _ else _) ++ _ = _
  rw [if_pos h]
theorem jn_size (s : ByteArray) (f : Nat → ByteArray) (hs : s.size ≤ 1) : ∀ k, (∀ i, i < k → (f i).size ≤ 13) → (jn s f k).size ≤ 14 * k := by
  intro k
  induction k with
  | zero => intro _; exact Nat.le_refl _
  | succ k ih =>
    intro h
    have h1 := ih (fun i hi => h i (by omega))
    have h2 := h k (by omega)
    unfold jn
    split <;> simp only [ByteArray.size_append] <;> omega
theorem jn_some (s : ByteArray) (f : Nat → ByteArray) (k : Nat) (h : 0 < k) (hf : ∀ i, i < k → 1 ≤ (f i).size) : 1 ≤ (jn s f k).size := by
  obtain ⟨j, rfl⟩ : ∃ j, k = j + 1 := ⟨k - 1, by omega⟩
  have := hf j (by omega)
  unfold jn
  rw [ByteArray.size_append]; omega
theorem str_some {t : ByteArray} (h : 1 ≤ t.size) : t.toList.isEmpty = false := by
  rw [ByteArray.toList_eq, List.isEmpty_eq_false_iff]
  intro h2
  have h3 : t.data.toList.length = 0 := by rw [h2]; rfl
  rw [Array.length_toList] at h3
  have h4 : t.size = t.data.size := rfl
  omega
def clampF (x : Int) : Int := min (max x (-1)) 99
theorem clampF_in (x : Int) : -1 ≤ clampF x ∧ clampF x < 1000000000000 := by unfold clampF; omega
def comma : ByteArray := ⟨#[44]⟩
def clS (l : List Int) (k : Nat) : ByteArray := fmtB (clampF (nth l k))
theorem clS_size (l : List Int) (k : Nat) : (clS l k).size ≤ 13 := fmtB_size (clampF_in _)
theorem clS_some (l : List Int) (k : Nat) : 1 ≤ (clS l k).size := fmtB_some (clampF_in _)
def shortF (l : List Int) : ByteArray := if l.length = 0 ∨ 40 < l.length then ⟨#[110, 111, 110, 101]⟩ else jn comma (clS l) l.length
end Go.Zz
