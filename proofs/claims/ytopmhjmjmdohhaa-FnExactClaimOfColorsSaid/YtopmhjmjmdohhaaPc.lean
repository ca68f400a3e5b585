/- Plain facts on colorings without sums of one color. No program is named here. -/
import Derived.Test.YtopmhjmjmdohhaaPl
namespace Go.Zz

/-- x and the rest have the color of the last one -/
def eqAt (c : List Int) (x : Nat) : Bool := (nth c (x - 1) == nth c (c.length - 1)) && (nth c (c.length - x - 1) == nth c (c.length - 1))
def badTo (c : List Int) (k : Nat) : Bool := (List.range k).any (fun j => decide (2 * (j + 1) ≤ c.length) && eqAt c (j + 1))
def badF (c : List Int) : Bool := badTo c c.length
theorem badF_yes {c : List Int} {x : Nat} (h1 : 1 ≤ x) (h2 : 2 * x ≤ c.length) (h : eqAt c x = true) : badF c = true := by
  unfold badF badTo
  rw [List.any_eq_true]
  refine ⟨x - 1, List.mem_range.2 (by omega), ?_⟩
  rw [show x - 1 + 1 = x from by omega, h]; simpa using h2
theorem badF_no {c : List Int} {n : Nat} (hn : c.length < 2 * n) (h : ∀ x, 1 ≤ x → x < n → eqAt c x = false) : badF c = false := by
  unfold badF badTo
  rw [List.any_eq_false]
  intro j hj
  by_cases h2 : 2 * (j + 1) ≤ c.length
  · rw [h (j + 1) (by omega) (by omega)]; simp
  · simp [h2]
theorem eqAt_no1 {c : List Int} {x : Nat} (h : (nth c (x - 1) == nth c (c.length - 1)) = false) : eqAt c x = false := by unfold eqAt; rw [h]; rfl
theorem eqAt_yes1 {c : List Int} {x : Nat} (h : (nth c (x - 1) == nth c (c.length - 1)) = true) : eqAt c x = (nth c (c.length - x - 1) == nth c (c.length - 1)) := by unfold eqAt; rw [h]; rfl

/-- the search ends: all ways on from c end within f steps -/
def colT : Nat → Nat → List Int → Nat → Bool
  | 0, _, _, _ => false
  | f + 1, k, c, u => (List.range (min k (u + 1))).all (fun (x : Nat) => badF (c ++ [(x : Int)]) || colT f k (c ++ [(x : Int)]) (max u (x + 1)))
theorem colT_next {f k u x : Nat} {c : List Int} (h : colT (f + 1) k c u = true) (hx : x < k) (hu : x ≤ u) (hb : badF (c ++ [(x : Int)]) = false) : colT f k (c ++ [(x : Int)]) (max u (x + 1)) = true := by
  unfold colT at h
  have := List.all_eq_true.1 h x (List.mem_range.2 (by omega))
  rw [hb] at this
  simpa using this
/-- the longest one that goes on from c, as the reference searches -/
def colS : Nat → Nat → List Int → Nat → List Int
  | 0, _, c, _ => c
  | f + 1, k, c, u => (List.range (min k (u + 1))).foldl (fun (b : List Int) (x : Nat) => if badF (c ++ [(x : Int)]) then b else if b.length < (colS f k (c ++ [(x : Int)]) (max u (x + 1))).length then colS f k (c ++ [(x : Int)]) (max u (x + 1)) else b) c
/-- after the first n colors -/
def colSto (f k : Nat) (c : List Int) (u n : Nat) : List Int := (List.range n).foldl (fun (b : List Int) (x : Nat) => if badF (c ++ [(x : Int)]) then b else if b.length < (colS f k (c ++ [(x : Int)]) (max u (x + 1))).length then colS f k (c ++ [(x : Int)]) (max u (x + 1)) else b) c
theorem colS_succ (f k : Nat) (c : List Int) (u : Nat) : colS (f + 1) k c u = colSto f k c u (min k (u + 1)) := rfl
theorem colSto_zero (f k : Nat) (c : List Int) (u : Nat) : colSto f k c u 0 = c := rfl
theorem colSto_bad {f k u n : Nat} {c : List Int} (h : badF (c ++ [(n : Int)]) = true) : colSto f k c u (n + 1) = colSto f k c u n := by
  unfold colSto; rw [List.range_succ, List.foldl_append]; simp only [List.foldl_cons, List.foldl_nil]; rw [h]; rfl
theorem colSto_more {f k u n : Nat} {c : List Int} (h : badF (c ++ [(n : Int)]) = false) (hl : (colSto f k c u n).length < (colS f k (c ++ [(n : Int)]) (max u (n + 1))).length) : colSto f k c u (n + 1) = colS f k (c ++ [(n : Int)]) (max u (n + 1)) := by
  unfold colSto at hl ⊢; rw [List.range_succ, List.foldl_append]; simp only [List.foldl_cons, List.foldl_nil]; rw [h, if_pos hl]; rfl
theorem colSto_less {f k u n : Nat} {c : List Int} (h : badF (c ++ [(n : Int)]) = false) (hl : ¬ (colSto f k c u n).length < (colS f k (c ++ [(n : Int)]) (max u (n + 1))).length) : colSto f k c u (n + 1) = colSto f k c u n := by
  unfold colSto at hl ⊢; rw [List.range_succ, List.foldl_append]; simp only [List.foldl_cons, List.foldl_nil]; rw [h, if_neg hl]; rfl
/-- the best one behind the call, as the program searches -/
def colI : Nat → Nat → List Int → Nat → List Int → List Int
  | 0, _, _, _, b => b
  | f + 1, k, c, u, b => (List.range (min k (u + 1))).foldl (fun (b : List Int) (x : Nat) => if badF (c ++ [(x : Int)]) then b else colI f k (c ++ [(x : Int)]) (max u (x + 1)) b) (if b.length < c.length then c else b)
def colIto (f k : Nat) (c : List Int) (u : Nat) (b : List Int) (n : Nat) : List Int := (List.range n).foldl (fun (b : List Int) (x : Nat) => if badF (c ++ [(x : Int)]) then b else colI f k (c ++ [(x : Int)]) (max u (x + 1)) b) (if b.length < c.length then c else b)
theorem colI_succ (f k : Nat) (c : List Int) (u : Nat) (b : List Int) : colI (f + 1) k c u b = colIto f k c u b (min k (u + 1)) := rfl
theorem colIto_zero_t {f k u : Nat} {c b : List Int} (h : b.length < c.length) : colIto f k c u b 0 = c := by unfold colIto; simp [h]
theorem colIto_zero_f {f k u : Nat} {c b : List Int} (h : ¬ b.length < c.length) : colIto f k c u b 0 = b := by unfold colIto; simp [h]
theorem colIto_bad {f k u n : Nat} {c b : List Int} (h : badF (c ++ [(n : Int)]) = true) : colIto f k c u b (n + 1) = colIto f k c u b n := by
  unfold colIto; rw [List.range_succ, List.foldl_append]; simp only [List.foldl_cons, List.foldl_nil]; rw [h]; rfl
theorem colIto_next {f k u n : Nat} {c b : List Int} (h : badF (c ++ [(n : Int)]) = false) : colIto f k c u b (n + 1) = colI f k (c ++ [(n : Int)]) (max u (n + 1)) (colIto f k c u b n) := by
  unfold colIto; rw [List.range_succ, List.foldl_append]; simp only [List.foldl_cons, List.foldl_nil]; rw [h]; rfl
def colF (k : Int) : List Int := if inB k 1 3 then colS 15 k.toNat [] 0 else []
theorem colF_no {k : Int} (h : inB k 1 3 = false) : colF k = [] := by unfold colF; rw [h]; rfl
theorem colF_nat {k : Nat} (h : inB k 1 3 = true) : colF k = colS 15 k [] 0 := by unfold colF; rw [h]; rfl
theorem colT_all {k : Nat} (h1 : 1 ≤ k) (h3 : k ≤ 3) : colT 15 k [] 0 = true := by
  rcases (by omega : k = 1 ∨ k = 2 ∨ k = 3) with rfl | rfl | rfl <;> decide +kernel
theorem colI_all {k : Nat} (h1 : 1 ≤ k) (h3 : k ≤ 3) : colI 15 k [] 0 [] = colS 15 k [] 0 := by
  rcases (by omega : k = 1 ∨ k = 2 ∨ k = 3) with rfl | rfl | rfl <;> decide +kernel
theorem colF_len (k : Int) : (colF k).length ≤ 24 := by
  cases h : inB k 1 3
  · rw [colF_no h]; simp
  · have := inB_t.1 h
    rcases (by omega : k = 1 ∨ k = 2 ∨ k = 3) with rfl | rfl | rfl <;> decide +kernel
end Go.Zz
