/- Plain facts on linear equations: solutions in numbers from 1 to n, counted, of one color; colorings without one. No program is named here. -/
import Derived.Test.YtgjomoedgmofbaaGr5
import Derived.Test.YtgjomoedgmofbaaGr4
namespace Go.Zz

def cofB (x : Int) : Bool := inB x (-9) 9 && decide (x ≠ 0)
def eqB (c : List Int) : Bool := c.all cofB && inB c.length 2 4
theorem eqB_bad {c : List Int} {k : Nat} (hk : k < c.length) (h : cofB (nth c k) = false) : eqB c = false := by
  unfold eqB
  rw [Bool.and_eq_false_iff]
  refine Or.inl (Bool.not_eq_true _ ▸ fun e => ?_)
  rw [List.all_eq_true] at e
  rw [e _ (nth_mem hk)] at h; cases h
theorem eqB_end {c : List Int} (h : ∀ j, j < c.length → cofB (nth c j) = true) : eqB c = inB c.length 2 4 := by
  unfold eqB
  have : c.all cofB = true := by
    rw [List.all_eq_true]; intro x hx
    obtain ⟨k, hk, rfl⟩ := mem_nth hx
    exact h k hk
  rw [this]; rfl
theorem eqB_yes {c : List Int} (h : eqB c = true) : 2 ≤ c.length ∧ c.length ≤ 4 ∧ ∀ j, j < c.length → -9 ≤ nth c j ∧ nth c j ≤ 9 ∧ nth c j ≠ 0 := by
  unfold eqB at h
  rw [Bool.and_eq_true, inB_t] at h
  refine ⟨by omega, by omega, fun j hj => ?_⟩
  have := List.all_eq_true.1 h.1 _ (nth_mem hj)
  unfold cofB at this
  rw [Bool.and_eq_true, inB_t, decide_eq_true_iff] at this
  exact ⟨this.1.1, this.1.2, this.2⟩
theorem cof_bd {c : List Int} (h : eqB c = true) (j : Nat) : -9 ≤ nth c j ∧ nth c j ≤ 9 := by
  by_cases hj : j < c.length
  · have := (eqB_yes h).2.2 j hj; omega
  · have : nth c j = 0 := by simp [nth, List.getD, List.getElem?_eq_none (Nat.le_of_not_lt hj)]
    omega

/-! ### columns with the sum 0 -/
def sumI (l : List Int) : Int := l.foldl (fun s x => s + x) 0
theorem sumI_snoc (l : List Int) (x : Int) : sumI (l ++ [x]) = sumI l + x := by unfold sumI; rw [List.foldl_append]; rfl
theorem sumI_take (l : List Int) (k : Nat) (hk : k < l.length) : sumI (l.take (k + 1)) = sumI (l.take k) + nth l k := by rw [take_nth l k hk, sumI_snoc]
theorem sumI_bd (l : List Int) (h : ∀ x ∈ l, -9 ≤ x ∧ x ≤ 9) : ∀ k, k ≤ l.length → -9 * (k : Int) ≤ sumI (l.take k) ∧ sumI (l.take k) ≤ 9 * (k : Int)
  | 0, _ => by simp [sumI]
  | k + 1, hk => by
    have ih := sumI_bd l h k (by omega)
    have := h _ (nth_mem (l := l) (k := k) (by omega))
    rw [sumI_take l k (by omega)]; omega
theorem partTo_bd {c : List Int} (h : eqB c = true) (m k : Nat) : ∀ x ∈ partTo c m k, -9 ≤ x ∧ x ≤ 9 := fun x hx => by
  unfold partTo at hx
  rw [List.mem_map] at hx
  obtain ⟨j, -, rfl⟩ := hx
  exact cof_bd h j
theorem sumP_bd {c : List Int} (h : eqB c = true) (m k : Nat) (hk : k ≤ 4) : -36 ≤ sumI (partTo c m k) ∧ sumI (partTo c m k) ≤ 36 := by
  have h1 := sumI_bd _ (partTo_bd h m k) (partTo c m k).length (Nat.le_refl _)
  rw [List.take_length] at h1
  have := partTo_len c m k
  omega
def zcF (c : List Int) : Option Nat := if eqB c then (List.range (pw c.length)).find? (fun m => decide (1 ≤ m) && decide (sumI (partI c m) = 0)) else none
def zcB (c : List Int) : Bool := (zcF c).isSome
def zcL (c : List Int) : List Nat := match zcF c with | some m => elems m | none => []
theorem zc_no {c : List Int} (h : eqB c = false) : zcB c = false ∧ zcL c = [] := by
  have : zcF c = none := by unfold zcF; rw [h]; rfl
  unfold zcB zcL; rw [this]; exact ⟨rfl, rfl⟩
theorem zc_at {c : List Int} (h : eqB c = true) {m : Nat} (hm : m < pw c.length) (h1 : 1 ≤ m) (h0 : ∀ j, 1 ≤ j → j < m → ¬ sumI (partI c j) = 0) (hz : sumI (partI c m) = 0) : zcB c = true ∧ zcL c = elems m := by
  have : zcF c = some m := by
    unfold zcF; rw [if_pos h]
    exact find_at hm (fun j hj => by
      by_cases e : 1 ≤ j
      · rw [decide_eq_false (h0 j e hj)]; simp
      · rw [decide_eq_false e]; rfl) (by rw [decide_eq_true h1, decide_eq_true hz]; rfl)
  unfold zcB zcL; rw [this]; exact ⟨rfl, rfl⟩
theorem zc_none {c : List Int} (h : eqB c = true) (h0 : ∀ j, 1 ≤ j → j < pw c.length → ¬ sumI (partI c j) = 0) : zcB c = false ∧ zcL c = [] := by
  have : zcF c = none := by
    unfold zcF; rw [if_pos h]
    exact find_none (fun j hj => by
      by_cases e : 1 ≤ j
      · rw [decide_eq_false (h0 j e hj)]; simp
      · rw [decide_eq_false e]; rfl)
  unfold zcB zcL; rw [this]; exact ⟨rfl, rfl⟩

/-! ### solutions -/
def dotTo (c : List Int) (X : List Nat) : Nat → Int
  | 0 => 0
  | k + 1 => dotTo c X k + nth c k * (nthN X k : Int)
theorem dotTo_succ (c : List Int) (X : List Nat) (k : Nat) : dotTo c X (k + 1) = dotTo c X k + nth c k * (nthN X k : Int) := rfl
theorem nthN_app {X : List Nat} {y k : Nat} (hk : k < X.length) : nthN (X ++ [y]) k = nthN X k := by simp [nthN, List.getD, hk, List.getElem?_append_left hk]
theorem nthN_new (X : List Nat) (y : Nat) : nthN (X ++ [y]) X.length = y := by simp [nthN, List.getD]
theorem dotTo_app (c : List Int) (X : List Nat) (y : Nat) : ∀ k, k ≤ X.length → dotTo c (X ++ [y]) k = dotTo c X k
  | 0, _ => rfl
  | k + 1, h => by rw [dotTo_succ, dotTo_succ, dotTo_app c X y k (by omega), nthN_app (by omega)]
def dotL (c : List Int) (X : List Nat) : Int := dotTo c X X.length
theorem dotL_nil (c : List Int) : dotL c [] = 0 := rfl
theorem dotL_snoc (c : List Int) (X : List Nat) (y : Nat) : dotL c (X ++ [y]) = dotL c X + nth c X.length * (y : Int) := by
  unfold dotL
  rw [List.length_append, List.length_singleton, dotTo_succ, dotTo_app c X y X.length (Nat.le_refl _), nthN_new]
theorem mul_bd {a : Int} {y : Nat} (h1 : -9 ≤ a) (h2 : a ≤ 9) (hy : y ≤ 12) : -108 ≤ a * (y : Int) ∧ a * (y : Int) ≤ 108 := by
  have h3 : (0 : Int) ≤ y := by omega
  have h4 : a * (y : Int) ≤ 9 * (y : Int) := Int.mul_le_mul_of_nonneg_right h2 h3
  have h5 : -9 * (y : Int) ≤ a * (y : Int) := Int.mul_le_mul_of_nonneg_right h1 h3
  omega
theorem dotTo_bd {c : List Int} (h : eqB c = true) {X : List Nat} (hX : ∀ x ∈ X, x ≤ 12) : ∀ k, k ≤ X.length → -108 * (k : Int) ≤ dotTo c X k ∧ dotTo c X k ≤ 108 * (k : Int)
  | 0, _ => by simp [dotTo]
  | k + 1, hk => by
    have ih := dotTo_bd h hX k (by omega)
    have h1 := cof_bd h k
    have h2 := mul_bd h1.1 h1.2 (hX _ (nthN_mem (L := X) (k := k) (by omega)))
    rw [dotTo_succ]; omega

/-- whether the next number may be y -/
def okC (cs : List Int) (X : List Nat) (y : Nat) : Bool := cs.isEmpty || X.isEmpty || decide (nth cs (y - 1) = nth cs (nthN X 0 - 1))
def cntF (c : List Int) (n : Nat) (cs : List Int) : Nat → List Nat → Nat
  | 0, X => if dotL c X = 0 then 1 else 0
  | r + 1, X => (List.range n).foldl (fun s y => s + if okC cs X (y + 1) then cntF c n cs r (X ++ [y + 1]) else 0) 0
def cntK (c : List Int) (n : Nat) (cs : List Int) (r : Nat) (X : List Nat) (k : Nat) : Nat := (List.range k).foldl (fun s y => s + if okC cs X (y + 1) then cntF c n cs r (X ++ [y + 1]) else 0) 0
theorem cntK_zero (c : List Int) (n : Nat) (cs : List Int) (r : Nat) (X : List Nat) : cntK c n cs r X 0 = 0 := rfl
theorem cntK_succ (c : List Int) (n : Nat) (cs : List Int) (r : Nat) (X : List Nat) (k : Nat) : cntK c n cs r X (k + 1) = cntK c n cs r X k + if okC cs X (k + 1) then cntF c n cs r (X ++ [k + 1]) else 0 := by
  unfold cntK; rw [List.range_succ, List.foldl_append]; rfl
theorem cntK_no {c : List Int} {n : Nat} {cs : List Int} {r : Nat} {X : List Nat} {k : Nat} (h : okC cs X (k + 1) = false) : cntK c n cs r X (k + 1) = cntK c n cs r X k := by rw [cntK_succ, h]; rfl
theorem cntK_yes {c : List Int} {n : Nat} {cs : List Int} {r : Nat} {X : List Nat} {k : Nat} (h : okC cs X (k + 1) = true) : cntK c n cs r X (k + 1) = cntK c n cs r X k + cntF c n cs r (X ++ [k + 1]) := by rw [cntK_succ, h]; rfl
theorem cntK_mono (c : List Int) (n : Nat) (cs : List Int) (r : Nat) (X : List Nat) (k : Nat) : ∀ d, cntK c n cs r X k ≤ cntK c n cs r X (k + d)
  | 0 => Nat.le_refl _
  | d + 1 => by have := cntK_mono c n cs r X k d; rw [← Nat.add_assoc, cntK_succ]; omega
theorem cntF_all (c : List Int) (n : Nat) (cs : List Int) (r : Nat) (X : List Nat) : cntF c n cs (r + 1) X = cntK c n cs r X n := rfl
theorem cntF_yes {c : List Int} {n : Nat} {cs : List Int} {X : List Nat} (h : dotL c X = 0) : cntF c n cs 0 X = 1 := by unfold cntF; rw [if_pos h]
theorem cntF_no {c : List Int} {n : Nat} {cs : List Int} {X : List Nat} (h : ¬ dotL c X = 0) : cntF c n cs 0 X = 0 := by unfold cntF; rw [if_neg h]
theorem cntF_le (c : List Int) (n : Nat) (cs : List Int) : ∀ r X, cntF c n cs r X ≤ n ^ r := by
  intro r
  induction r with
  | zero => intro X; unfold cntF; split <;> simp
  | succ r ih =>
    intro X
    rw [cntF_all, Nat.pow_succ, Nat.mul_comm]
    have : ∀ k, cntK c n cs r X k ≤ k * n ^ r := by
      intro k
      induction k with
      | zero => simp [cntK]
      | succ k ik =>
        rw [cntK_succ, Nat.succ_mul]
        have := ih (X ++ [k + 1])
        split <;> omega
    exact this n
/-- whether some solution with the property is reached -/
def anyF (stop : List Nat → Bool) (c : List Int) (n : Nat) : Nat → List Nat → Bool
  | 0, X => decide (dotL c X = 0) && stop X
  | r + 1, X => (List.range n).any (fun y => anyF stop c n r (X ++ [y + 1]))
theorem anyF_leaf {stop : List Nat → Bool} {c : List Int} {n : Nat} {X : List Nat} : anyF stop c n 0 X = (decide (dotL c X = 0) && stop X) := rfl
theorem anyF_hit {stop : List Nat → Bool} {c : List Int} {n r k : Nat} {X : List Nat} (hk : k < n) (h : anyF stop c n r (X ++ [k + 1]) = true) : anyF stop c n (r + 1) X = true := by
  unfold anyF; rw [List.any_eq_true]; exact ⟨k, List.mem_range.2 hk, h⟩
theorem anyF_none {stop : List Nat → Bool} {c : List Int} {n r : Nat} {X : List Nat} (h : ∀ k, k < n → anyF stop c n r (X ++ [k + 1]) = false) : anyF stop c n (r + 1) X = false := by
  unfold anyF; rw [List.any_eq_false]; intro k hk; rw [h k (List.mem_range.1 hk)]; simp
theorem anyF_iff (stop : List Nat → Bool) (c : List Int) (n : Nat) : ∀ r X, anyF stop c n r X = true ↔ ∃ Y : List Nat, Y.length = r ∧ (∀ y ∈ Y, 1 ≤ y ∧ y ≤ n) ∧ dotL c (X ++ Y) = 0 ∧ stop (X ++ Y) = true := by
  intro r
  induction r with
  | zero =>
    intro X
    rw [anyF_leaf, Bool.and_eq_true, decide_eq_true_iff]
    constructor
    · rintro ⟨h1, h2⟩; exact ⟨[], rfl, by simp, by simpa using h1, by simpa using h2⟩
    · rintro ⟨Y, hY, -, h1, h2⟩
      have := List.eq_nil_of_length_eq_zero hY
      subst this
      rw [List.append_nil] at h1 h2; exact ⟨h1, h2⟩
  | succ r ih =>
    intro X
    unfold anyF
    rw [List.any_eq_true]
    constructor
    · rintro ⟨k, hk, h⟩
      obtain ⟨Y, h1, h2, h3, h4⟩ := (ih _).1 h
      have := List.mem_range.1 hk
      refine ⟨(k + 1) :: Y, by simp [h1], fun y hy => ?_, by simpa using h3, by simpa using h4⟩
      rw [List.mem_cons] at hy
      rcases hy with rfl | hy
      · omega
      · exact h2 y hy
    · rintro ⟨Y, h1, h2, h3, h4⟩
      cases Y with
      | nil => simp at h1
      | cons y Y =>
        have hy := h2 y (by simp)
        refine ⟨y - 1, List.mem_range.2 (by omega), (ih _).2 ⟨Y, by simpa using h1, fun z hz => h2 z (by simp [hz]), ?_, ?_⟩⟩
        · rw [show y - 1 + 1 = y by omega]; simpa using h3
        · rw [show y - 1 + 1 = y by omega]; simpa using h4
/-- all numbers have the color of the first -/
def sameB (cs : List Int) (X : List Nat) : Bool := X.all (fun x => decide (nth cs (x - 1) = nth cs (nthN X 0 - 1)))
def sameTo (cs : List Int) (X : List Nat) (k : Nat) : Prop := ∀ j, j < k → nth cs (nthN X j - 1) = nth cs (nthN X 0 - 1)
theorem memN_nth {X : List Nat} {x : Nat} (h : x ∈ X) : ∃ k, k < X.length ∧ nthN X k = x := by
  obtain ⟨k, hk, rfl⟩ := List.getElem_of_mem h
  exact ⟨k, hk, by simp [nthN, List.getD, hk]⟩
theorem sameB_yes {cs : List Int} {X : List Nat} (h : sameTo cs X X.length) : sameB cs X = true := by
  unfold sameB; rw [List.all_eq_true]; intro x hx
  obtain ⟨k, hk, rfl⟩ := memN_nth hx
  exact decide_eq_true (h k hk)
theorem sameB_no {cs : List Int} {X : List Nat} {k : Nat} (hk : k < X.length) (h : ¬ nth cs (nthN X k - 1) = nth cs (nthN X 0 - 1)) : sameB cs X = false := by
  rw [← Bool.not_eq_true]; intro e
  unfold sameB at e
  rw [List.all_eq_true] at e
  exact h (of_decide_eq_true (e _ (nthN_mem hk)))
theorem sameB_iff {cs : List Int} {X : List Nat} : sameB cs X = true ↔ sameTo cs X X.length := by
  constructor
  · intro h j hj
    refine Classical.byContradiction fun hn => ?_
    rw [sameB_no hj hn] at h; cases h
  · exact sameB_yes
/-- with colors the count is that of the solutions of one color -/
theorem cntF_color (c : List Int) (n : Nat) (cs : List Int) (hcs : cs ≠ []) : ∀ r X, sameTo cs X X.length → (0 < cntF c n cs r X ↔ anyF (sameB cs) c n r X = true) := by
  have he : cs.isEmpty = false := by cases cs with | nil => exact absurd rfl hcs | cons => rfl
  intro r
  induction r with
  | zero =>
    intro X hX
    rw [anyF_leaf, sameB_yes hX]
    by_cases h : dotL c X = 0
    · rw [cntF_yes h, decide_eq_true h]; simp
    · rw [cntF_no h, decide_eq_false h]; simp
  | succ r ih =>
    intro X hX
    have hok : ∀ y, okC cs X y = true → sameTo cs (X ++ [y]) (X ++ [y]).length := fun y hy j hj => by
      unfold okC at hy
      rw [he, Bool.false_or, Bool.or_eq_true, decide_eq_true_iff] at hy
      rw [List.length_append, List.length_singleton] at hj
      cases X with
      | nil => have : j = 0 := by simpa using hj
               subst this; rfl
      | cons x X =>
        rcases hy with hy | hy
        · cases hy
        · have e0 : nthN ((x :: X) ++ [y]) 0 = nthN (x :: X) 0 := nthN_app (by simp)
          by_cases hj2 : j < (x :: X).length
          · rw [nthN_app hj2, e0]; exact hX j hj2
          · have : j = (x :: X).length := by omega
            subst this
            rw [nthN_new, e0]; exact hy
    have hno : ∀ y, okC cs X y = false → anyF (sameB cs) c n r (X ++ [y]) = false := fun y hy => by
      rw [← Bool.not_eq_true, anyF_iff]
      rintro ⟨Y, -, -, -, h4⟩
      rw [sameB_iff] at h4
      unfold okC at hy
      rw [he, Bool.false_or, Bool.or_eq_false_iff, decide_eq_false_iff_not] at hy
      cases X with
      | nil => simp at hy
      | cons x X =>
        have := h4 (x :: X).length (by simp)
        apply hy.2
        have e1 : nthN ((x :: X) ++ [y] ++ Y) (x :: X).length = y := by simp [nthN, List.getD]
        have e2 : nthN ((x :: X) ++ [y] ++ Y) 0 = nthN (x :: X) 0 := by simp [nthN, List.getD]
        rw [e1, e2] at this; exact this
    rw [cntF_all]
    have key : ∀ k, 0 < cntK c n cs r X k ↔ ∃ y, y < k ∧ anyF (sameB cs) c n r (X ++ [y + 1]) = true := by
      intro k
      induction k with
      | zero => rw [cntK_zero]; exact ⟨fun h => absurd h (by omega), fun ⟨y, h, _⟩ => absurd h (by omega)⟩
      | succ k ik =>
        cases ho : okC cs X (k + 1)
        · rw [cntK_no ho, ik]
          constructor
          · rintro ⟨y, h1, h2⟩; exact ⟨y, by omega, h2⟩
          · rintro ⟨y, h1, h2⟩
            by_cases e : y = k
            · subst e; rw [hno _ ho] at h2; cases h2
            · exact ⟨y, by omega, h2⟩
        · rw [cntK_yes ho]
          have h3 := ih _ (hok _ ho)
          constructor
          · intro h
            by_cases h4 : 0 < cntK c n cs r X k
            · obtain ⟨y, h1, h2⟩ := ik.1 h4; exact ⟨y, by omega, h2⟩
            · exact ⟨k, by omega, h3.1 (by omega)⟩
          · rintro ⟨y, h1, h2⟩
            by_cases e : y = k
            · subst e; have := h3.2 h2; omega
            · have := ik.2 ⟨y, by omega, h2⟩; omega
    rw [key n]
    constructor
    · rintro ⟨y, h1, h2⟩; exact anyF_hit h1 h2
    · intro h
      unfold anyF at h
      rw [List.any_eq_true] at h
      obtain ⟨y, h1, h2⟩ := h
      exact ⟨y, List.mem_range.1 h1, h2⟩
/-- some solution has one color -/
def monoB (c cs : List Int) : Bool := anyF (sameB cs) c cs.length c.length []
theorem mono_cnt {c cs : List Int} (hcs : cs ≠ []) : (0 < cntF c cs.length cs c.length []) ↔ monoB c cs = true := cntF_color c cs.length cs hcs _ [] (fun j hj => absurd hj (by simp))
theorem mono_ext {c cs : List Int} (ds : List Int) (hc : 0 < c.length) (h : monoB c cs = true) : monoB c (cs ++ ds) = true := by
  unfold monoB at h ⊢
  rw [anyF_iff] at h ⊢
  obtain ⟨Y, h1, h2, h3, h4⟩ := h
  refine ⟨Y, h1, fun y hy => ?_, h3, ?_⟩
  · have := h2 y hy; rw [List.length_append]; omega
  · rw [List.nil_append] at h4 ⊢
    rw [sameB_iff] at h4 ⊢
    intro j hj
    have e : ∀ j, j < Y.length → nth (cs ++ ds) (nthN Y j - 1) = nth cs (nthN Y j - 1) := fun j hj => by
      have := h2 _ (nthN_mem hj)
      simp only [nth, List.getD]
      rw [List.getElem?_append_left (by omega)]
    rw [e j hj, e 0 (by omega)]; exact h4 j hj

/-! ### colorings -/
/-- colors go on without a solution of one color, up to n -/
def avF (c : List Int) (k n : Nat) : Nat → List Int → Bool
  | 0, _ => false
  | f + 1, cs => if decide (cs ≠ []) && monoB c cs then false else if cs.length = n then true else (List.range k).any (fun x => avF c k n f (cs ++ [(x : Int)]))
theorem avF_mono {c : List Int} {k n f : Nat} {cs : List Int} (h0 : cs ≠ []) (h : monoB c cs = true) : avF c k n (f + 1) cs = false := by unfold avF; rw [h, decide_eq_true h0]; rfl
theorem avF_full {c : List Int} {k n f : Nat} {cs : List Int} (h : (decide (cs ≠ []) && monoB c cs) = false) (hn : cs.length = n) : avF c k n (f + 1) cs = true := by unfold avF; rw [h, if_pos hn]; rfl
theorem avF_part {c : List Int} {k n f : Nat} {cs : List Int} (h : (decide (cs ≠ []) && monoB c cs) = false) (hn : ¬ cs.length = n) : avF c k n (f + 1) cs = (List.range k).any (fun x => avF c k n f (cs ++ [(x : Int)])) := by
  conv => lhs; unfold avF
  rw [h, if_neg hn]; rfl
/-- a number's digits base 2, as colors -/
def bitsI (n m : Nat) : List Int := (List.range n).map (fun i => ((m.testBit i).toNat : Int))
theorem bitsI_len (n m : Nat) : (bitsI n m).length = n := by simp [bitsI]
theorem avF_iff {c : List Int} (hc : 0 < c.length) {n : Nat} (hn : 1 ≤ n) : ∀ f cs, cs.length ≤ n → n < cs.length + f → (avF c 2 n f cs = true ↔ ∃ ds : List Int, cs.length + ds.length = n ∧ (∀ d ∈ ds, d = 0 ∨ d = 1) ∧ monoB c (cs ++ ds) = false) := by
  intro f
  induction f with
  | zero => intro cs h1 h2; omega
  | succ f ih =>
    intro cs h1 h2
    cases hm : (decide (cs ≠ []) && monoB c cs)
    · by_cases hl : cs.length = n
      · rw [avF_full hm hl]
        have h0 : cs ≠ [] := by intro e; subst e; simp at hl; omega
        rw [decide_eq_true h0, Bool.true_and] at hm
        exact ⟨fun _ => ⟨[], by simpa using hl, by simp, by simpa using hm⟩, fun _ => rfl⟩
      · rw [avF_part hm hl, List.any_eq_true]
        constructor
        · rintro ⟨x, hx, h⟩
          have hx2 := List.mem_range.1 hx
          obtain ⟨ds, e1, e2, e3⟩ := (ih _ (by simp; omega) (by simp; omega)).1 h
          refine ⟨(x : Int) :: ds, by simp at e1 ⊢; omega, fun d hd => ?_, by simpa using e3⟩
          rw [List.mem_cons] at hd
          rcases hd with rfl | hd
          · omega
          · exact e2 d hd
        · rintro ⟨ds, e1, e2, e3⟩
          cases ds with
          | nil => simp at e1; omega
          | cons d ds =>
            have hd := e2 d (by simp)
            refine ⟨d.toNat, List.mem_range.2 (by omega), (ih _ (by simp; omega) (by simp; omega)).2 ⟨ds, by simp at e1 ⊢; omega, fun z hz => e2 z (by simp [hz]), ?_⟩⟩
            rw [show ((d.toNat : Nat) : Int) = d by omega]
            simpa using e3
    · rw [Bool.and_eq_true, decide_eq_true_iff] at hm
      rw [avF_mono hm.1 hm.2]
      constructor
      · intro h; cases h
      · rintro ⟨ds, -, -, e3⟩
        rw [mono_ext ds hc hm.2] at e3; cases e3
theorem bits_list : ∀ (ds : List Int), (∀ d ∈ ds, d = 0 ∨ d = 1) → ∃ m, m < 2 ^ ds.length ∧ bitsI ds.length m = ds := by
  intro ds
  induction ds with
  | nil => intro _; exact ⟨0, by simp, rfl⟩
  | cons d ds ih =>
    intro h
    obtain ⟨m, h1, h2⟩ := ih (fun x hx => h x (by simp [hx]))
    have hd := h d (by simp)
    refine ⟨d.toNat + 2 * m, by rw [List.length_cons, Nat.pow_succ]; omega, ?_⟩
    unfold bitsI at h2 ⊢
    rw [List.length_cons, List.range_succ_eq_map, List.map_cons, List.map_map]
    congr 1
    · rw [Nat.testBit_zero]
      rcases hd with rfl | rfl
      · simp
      · have : (Int.toNat 1 + 2 * m) % 2 = 1 := by simp
        rw [this]; rfl
    · conv => rhs; rw [← h2]
      apply List.map_congr_left
      intro i _
      show (((d.toNat + 2 * m).testBit (i + 1)).toNat : Int) = _
      rw [Nat.testBit_succ, show (d.toNat + 2 * m) / 2 = m by omega]
theorem avF_masks {c : List Int} (hc : 0 < c.length) {n : Nat} (hn : 1 ≤ n) : avF c 2 n (n + 1) [] = true ↔ ∃ m, m < 2 ^ n ∧ monoB c (bitsI n m) = false := by
  rw [avF_iff hc hn _ _ (by simp) (by simp)]
  constructor
  · rintro ⟨ds, h1, h2, h3⟩
    simp at h1
    obtain ⟨m, e1, e2⟩ := bits_list ds h2
    rw [h1] at e1 e2
    exact ⟨m, e1, by rw [e2]; simpa using h3⟩
  · rintro ⟨m, h1, h2⟩
    refine ⟨bitsI n m, by simp [bitsI_len], fun d hd => ?_, by simpa using h2⟩
    unfold bitsI at hd
    rw [List.mem_map] at hd
    obtain ⟨i, -, rfl⟩ := hd
    cases m.testBit i
    · exact Or.inl rfl
    · exact Or.inr rfl
/-- each coloring of n numbers has a solution of one color -/
def allB (c : List Int) (n : Nat) : Bool := (List.range (pw n)).all (fun m => monoB c (bitsI n m))
theorem allB_no {c : List Int} {n m : Nat} (hm : m < pw n) (h : monoB c (bitsI n m) = false) : allB c n = false := by
  rw [← Bool.not_eq_true]; intro e
  unfold allB at e; rw [List.all_eq_true] at e
  rw [e m (List.mem_range.2 hm)] at h; cases h
theorem allB_yes {c : List Int} {n : Nat} (h : ∀ m, m < pw n → monoB c (bitsI n m) = true) : allB c n = true := by
  unfold allB; rw [List.all_eq_true]; intro m hm; exact h m (List.mem_range.1 hm)
theorem allB_av {c : List Int} (hc : 0 < c.length) {n : Nat} (hn : 1 ≤ n) : avF c 2 n (n + 1) [] = !allB c n := by
  cases h : allB c n
  · rw [Bool.not_false, avF_masks hc hn]
    unfold allB at h
    rw [List.all_eq_false] at h
    obtain ⟨m, h1, h2⟩ := h
    exact ⟨m, List.mem_range.1 h1, by simpa using h2⟩
  · rw [Bool.not_true, ← Bool.not_eq_true, avF_masks hc hn]
    rintro ⟨m, h1, h2⟩
    rw [allB_no h1 h2] at h; cases h
def radF (c : List Int) : Option Nat := (List.range 9).find? (fun n => allB c (n + 1))
def radN (c : List Int) : Int := if eqB c && decide (c.length ≤ 3) then (match radF c with | some n => (n : Int) + 1 | none => 0) else -1
theorem rad_at {c : List Int} (h : eqB c = true) (h3 : c.length ≤ 3) {n : Nat} (hn : n < 9) (h0 : ∀ j, j < n → allB c (j + 1) = false) (h1 : allB c (n + 1) = true) : radN c = (n : Int) + 1 := by
  unfold radN radF; rw [h, decide_eq_true h3, find_at hn h0 h1]; rfl
theorem rad_none {c : List Int} (h : eqB c = true) (h3 : c.length ≤ 3) (h0 : ∀ j, j < 9 → allB c (j + 1) = false) : radN c = 0 := by
  unfold radN radF; rw [h, decide_eq_true h3, find_none h0]; rfl
theorem rad_no {c : List Int} (h : eqB c = false ∨ ¬ c.length ≤ 3) : radN c = -1 := by
  unfold radN
  rcases h with h | h
  · rw [h]; rfl
  · rw [decide_eq_false h, Bool.and_false]; rfl
end Go.Zz

/- The greedy translates. -/
namespace Go.Zz
open Go.RowKit Go.Proofs
set_option maxHeartbeats 400000

theorem fullF_n {l : List Int} (h : isGrp l = true) : fullF l = (fullN l : Int) := by
  rw [fullF_t h]; unfold fullN; have := pw_pos (ord l); omega
--%call FullSetN 155 ext FullSet_grp _ _ _ ({0}) ({1})
theorem FullSet_grp (v : Value) (l : List Int) (w : World) (h : Ints w v l) (Hgr : Hid (isGrp l = true)) :
    Calls Try.prog 155 #[.agg #[v]] w fun e w' => e = .returned (.int .i64 (fullN l)) ∧ Ext w w' := by
  rw [← fullF_n Hgr.out]; exact FullSet_any v l w h
--%call OrderOfN 108 ext OrderOf_grp _ _ _ ({0}) ({1})
theorem OrderOf_grp (v : Value) (l : List Int) (w : World) (h : Ints w v l) (Hgr : Hid (isGrp l = true)) :
    Calls Try.prog 108 #[.agg #[v]] w fun e w' => e = .returned (.int .i64 (ord l : Int)) ∧ Ext w w' := by
  rw [← ordF_t Hgr.out]; exact OrderOf_any v l w h

theorem GreedyTranslates_any (v : Value) (l : List Int) (a : Int) (w : World) (h : Ints w v l) :
    Calls Try.prog 62 #[.agg #[v], .int .i64 a] w fun e w' => e = .returned (.tuple #[.int .i64 (greedyF l a), .bool (isOneB l a)]) ∧ Ext w w' := by
  obtain ⟨wb, hwb⟩ : ∃ wb, wb = w.alloc (.cells #[v] 26) := ⟨_, rfl⟩
  have hE0 := (Ext.refl w).alloc (.cells #[v] 26)
  have hb := box_cell w v 26
  rw [← hwb] at hE0 hb
  have hg : ∀ W, Ext wb W → Ints W v l := fun W hW => h.ext (hE0.trans hW)
  have hE := Ext.refl wb
  have Hsz : Hid (w.heap.size + 1 = wb.heap.size) := Lib.hid (by rw [hwb]; simp [go_sem])
  have Hwb := Lib.hid hwb
  clear hwb h
  have hbx := hb wb hE
  cases hs : isSetB l a
  · have Hs := Lib.hid (isOneB_no hs)
    have Hs2 := Lib.hid (greedyF_no (isOneB_no hs))
    go_enter Try.func62, Try.ntmps62
    go_wp2_with fail
    rw [← Hwb.out]
    go_wp2_with (first | (go_at_call 144; refine (IsSet_any _ _ _ _ (hg _ hE)).mono ?_; rintro e w' ⟨rfl, hE'⟩; replace hE := hE.trans hE'; clear hE'))
    refine bodyPost_ret (v := .tuple #[.int .i64 0, .bool false]) (by simp [results, Try.results62, go_sem]) rfl ⟨by rw [Hs.out, Hs2.out], hE0.trans hE⟩
  · obtain ⟨n, rfl, h1, h2, hgr⟩ := isSetB_nat hs
    by_cases h0 : n = 0
    · subst h0
      have Hs := Lib.hid (isOneB_zero l)
      have Hs2 := Lib.hid (greedyF_no (isOneB_zero l))
      go_enter Try.func62, Try.ntmps62
      go_wp2_with fail
      rw [← Hwb.out]
      go_wp2_with (first | (go_at_call 144; refine (IsSet_any _ _ _ _ (hg _ hE)).mono ?_; rintro e w' ⟨rfl, hE'⟩; replace hE := hE.trans hE'; clear hE'))
      refine bodyPost_ret (v := .tuple #[.int .i64 0, .bool false]) (by simp [results, Try.results62, go_sem]) rfl ⟨by have := Hs.out; have := Hs2.out; simp_all, hE0.trans hE⟩
    · have Hs := Lib.hid (isOneB_yes hs (by omega))
      have Hs2 := Lib.hid (greedyF_yes Hs.out)
      have hne := Lib.hid h0
      have hn1 := Lib.hid h1
      have h0' : ((n : Int) == 0) = false := by simp; omega
      have Hgr := Lib.hid hgr
      have hob := ord_bd hgr
      have hfl := fullN_lt l
      have hpo := pow_ord hgr
      clear hgr h0 h1
      go_enter Try.func62, Try.ntmps62
      go_wp2_with fail
      rw [← Hwb.out]
      go_wp2_with (first | (go_at_call 144; refine (IsSet_any _ _ _ _ (hg _ hE)).mono ?_; rintro e w' ⟨rfl, hE'⟩; replace hE := hE.trans hE'; clear hE'))
      clear hs h0'
      go_loopw [6, 7] (fun ov cv wr => ∃ out c N : Nat, out < 2 ^ 24 ∧ c < 2 ^ ord l ∧ andN (fullN l) c ≤ N ∧ greedyN l n N out (andN (fullN l) c) = greedyN l n (fullN l) 0 (fullN l) ∧ ov = .int .i64 out ∧ cv = .int .i64 c ∧ Ext wb wr) (fun _ c _ => andN (fullN l) (intOf c).toNat)
      case atStart => exact ⟨0, 0, fullN l, by omega, by omega, by rw [left_start]; omega, by rw [left_start], rfl, rfl, hE⟩
      case round =>
        clear hE
        obtain ⟨out, c, N, ho, hc, hN, hG, rfl, rfl, hE⟩ := hrel
        have hbx := hb _ hE
        have HG := Lib.hid hG
        clear hG
        by_cases hend : c = fullN l
        · have hz := Lib.hid ((left_zero hc).2 hend)
          have hq : ((c : Int) != (fullN l : Int)) = false := by simp [hend]
          clear hend
          go_wp2_with (first | (go_at_call 155; refine (FullSet_grp _ _ _ (hg _ hE) (Hgr)).mono ?_; rintro e w' ⟨rfl, hE'⟩; replace hE := hE.trans hE'; clear hE'))
          have hres : Hid (greedyN l n (fullN l) 0 (fullN l) = out) := Lib.hid (by have := HG.out; rw [hz.out, greedyN_end] at this; exact this.symm)
          refine bodyPost_ret (v := .tuple #[.int .i64 out, .bool true]) (by simp [results, Try.results62, go_sem]) rfl ⟨by rw [Hs.out, Hs2.out, hres.out], hE0.trans hE⟩
        · have hq : ((c : Int) != (fullN l : Int)) = true := by simp; omega
          have Hnz : Hid (andN (fullN l) c ≠ 0) := Lib.hid fun e => hend ((left_zero hc).1 e)
          have hal := andN_lt (b := c) hfl
          clear hend
          go_wp2_with (first | (go_at_call 155; refine (FullSet_grp _ _ _ (hg _ hE) (Hgr)).mono ?_; rintro e w' ⟨rfl, hE'⟩; replace hE := hE.trans hE'; clear hE') | (go_at_call 108; refine (OrderOf_grp _ _ _ (hg _ hE) (Hgr)).mono ?_; rintro e w' ⟨rfl, hE'⟩; replace hE := hE.trans hE'; clear hE'))
          clear hq
          go_loopw [8, 9, 26] (fun bv mv xv wr => ∃ k : Nat, k ≤ ord l ∧ xv = .int .i64 k ∧ bv = .int .i64 ((bmI (gain l n (andN (fullN l) c)) k).1 : Int) ∧ mv = .int .i64 (bmI (gain l n (andN (fullN l) c)) k).2 ∧ Ext wb wr) (fun _ _ x _ => ord l - (intOf x).toNat)
          case atStart => exact ⟨0, by omega, rfl, rfl, rfl, hE⟩
          case round =>
            clear hE hbx
            obtain ⟨k, hk, rfl, rfl, rfl, hE⟩ := hrel
            have hbx := hb _ hE
            by_cases hlt : k < ord l
            · have hsb := shiftF_bd Hgr.out n k
              have hand : iandn (shiftF l n k : Int) (c : Int) = ((andN (shiftF l n k) c : Nat) : Int) := iandn_nat (by omega) (by omega)
              have hcb : andN (shiftF l n k) c < 2 ^ 24 := andN_lt hsb
              have Hcg : Hid (cnt (andN (shiftF l n k) c) = gain l n (andN (fullN l) c) k) := Lib.hid (by rw [left_gain Hgr.out]; rfl)
              have hbb := bmI_bd (gain_le l n (andN (fullN l) c)) k
              have hg24 := gain_le l n (andN (fullN l) c) k
              have hsh : Hid (k < 24) := Lib.hid (by omega)
              by_cases hgt : (bmI (gain l n (andN (fullN l) c)) k).2 < (gain l n (andN (fullN l) c) k : Int)
              · have Hb := Lib.hid (bmI_yes hgt)
                go_wp2_with (first | (go_at_call 157; refine (shift_any _ _ _ _ _ (hg _ hE) (Hgr) (h2) (hsh.out)).mono ?_; rintro e w' ⟨rfl, hE'⟩; replace hE := hE.trans hE'; clear hE') | (go_at_call 112; refine (bits_any _ hcb _).mono ?_; rintro e w' ⟨rfl, rfl⟩; rw [Hcg.out]))
                go_roundw
                case rel => exact ⟨k + 1, by omega, by go_num, by rw [Hb.out], by rw [Hb.out], hE⟩
                case measure => (simp [intOf]; omega)
              · have Hb := Lib.hid (bmI_no hgt)
                go_wp2_with (first | (go_at_call 157; refine (shift_any _ _ _ _ _ (hg _ hE) (Hgr) (h2) (hsh.out)).mono ?_; rintro e w' ⟨rfl, hE'⟩; replace hE := hE.trans hE'; clear hE') | (go_at_call 112; refine (bits_any _ hcb _).mono ?_; rintro e w' ⟨rfl, rfl⟩; rw [Hcg.out]))
                go_roundw
                case rel => exact ⟨k + 1, by omega, by go_num, by rw [Hb.out], by rw [Hb.out], hE⟩
                case measure => (simp [intOf]; omega)
            · have hkl : k = ord l := by omega
              subst hkl
              rw [bestAt_I Hgr.out]
              have hbl := bestAt_lt Hgr.out n (andN (fullN l) c)
              have hs1 := ishl_one (n := bestAt l n (andN (fullN l) c)) (by omega)
              have hs2 := ior_pw ho (show bestAt l n (andN (fullN l) c) < 24 by omega)
              have hsb := shiftF_lt (isGrp_ords Hgr.out) n (bestAt l n (andN (fullN l) c))
              have hs3 := ior_nat (a := c) (b := shiftF l n (bestAt l n (andN (fullN l) c))) (by omega) (by omega)
              have hless := greedy_less Hgr.out hne.out hn1.out Hnz.out hal
              have Hst := Lib.hid (greedyN_step (l := l) (a := n) (n := N - 1) (out := out) Hnz.out)
              have hNp : Hid (N - 1 + 1 = N) := Lib.hid (by have := Hnz.out; omega)
              have hln := Lib.hid (left_next l (shiftF l n (bestAt l n (andN (fullN l) c))) c)
              have hsh : Hid (bestAt l n (andN (fullN l) c) < 24) := Lib.hid (by omega)
              go_wp2_with (first | (go_at_call 157; refine (shift_any _ _ _ _ _ (hg _ hE) (Hgr) (h2) (hsh.out)).mono ?_; rintro e w' ⟨rfl, hE'⟩; replace hE := hE.trans hE'; clear hE'))
              go_roundw
              case rel =>
                refine ⟨out ||| 2 ^ bestAt l n (andN (fullN l) c), c ||| shiftF l n (bestAt l n (andN (fullN l) c)), N - 1, Nat.or_lt_two_pow ho (Nat.pow_lt_pow_right (by omega) hsh.out), Nat.or_lt_two_pow hc hsb, ?_, ?_, rfl, rfl, hE⟩
                · rw [hln.out]; omega
                · rw [hln.out, ← Hst.out, hNp.out]; exact HG.out
              case measure => (simp only [intOf, Int.toNat_natCast]; rw [hln.out]; exact hless)

theorem andN_int {l : List Int} {a b : Nat} (h : a < 2 ^ ord l) : (a : Int) - ((a &&& b : Nat) : Int) = ((andN a b : Nat) : Int) := by
  have := andN_sub (ord l) a b h; omega
theorem sGreedyTranslates_any (v : Value) (l : List Int) (a : Int) (w : World) (h : Ints w v l) :
    Calls Try.prog 67 #[.agg #[v], .int .i64 a] w fun e w' => e = .returned (.tuple #[.int .i64 (greedyF l a), .bool (isOneB l a)]) ∧ Ext w w' := by
  obtain ⟨wb, hwb⟩ : ∃ wb, wb = w.alloc (.cells #[v] 26) := ⟨_, rfl⟩
  have hE0 := (Ext.refl w).alloc (.cells #[v] 26)
  have hb := box_cell w v 26
  rw [← hwb] at hE0 hb
  have hg : ∀ W, Ext wb W → Ints W v l := fun W hW => h.ext (hE0.trans hW)
  have hE := Ext.refl wb
  have Hsz : Hid (w.heap.size + 1 = wb.heap.size) := Lib.hid (by rw [hwb]; simp [go_sem])
  have Hwb := Lib.hid hwb
  clear hwb h
  have hbx := hb wb hE
  cases hs : isSetB l a
  · have Hs := Lib.hid (isOneB_no hs)
    have Hs2 := Lib.hid (greedyF_no (isOneB_no hs))
    go_enter Try.func67, Try.ntmps67
    go_wp2_with fail
    rw [← Hwb.out]
    go_wp2_with (first | (go_at_call 119; refine (sIsSet_any _ _ _ _ (hg _ hE)).mono ?_; rintro e w' ⟨rfl, hE'⟩; replace hE := hE.trans hE'; clear hE'))
    refine bodyPost_ret (v := .tuple #[.int .i64 0, .bool false]) (by simp [results, Try.results67, go_sem]) rfl ⟨by rw [Hs.out, Hs2.out], hE0.trans hE⟩
  · obtain ⟨n, rfl, h1, h2, hgr⟩ := isSetB_nat hs
    by_cases h0 : n = 0
    · subst h0
      have Hs := Lib.hid (isOneB_zero l)
      have Hs2 := Lib.hid (greedyF_no (isOneB_zero l))
      go_enter Try.func67, Try.ntmps67
      go_wp2_with fail
      rw [← Hwb.out]
      go_wp2_with (first | (go_at_call 119; refine (sIsSet_any _ _ _ _ (hg _ hE)).mono ?_; rintro e w' ⟨rfl, hE'⟩; replace hE := hE.trans hE'; clear hE'))
      refine bodyPost_ret (v := .tuple #[.int .i64 0, .bool false]) (by simp [results, Try.results67, go_sem]) rfl ⟨by have := Hs.out; have := Hs2.out; simp_all, hE0.trans hE⟩
    · have Hs := Lib.hid (isOneB_yes hs (by omega))
      have Hs2 := Lib.hid (greedyF_yes Hs.out)
      have hne := Lib.hid h0
      have hn1 := Lib.hid h1
      have h0' : ((n : Int) == 0) = false := by simp; omega
      have Hgr := Lib.hid hgr
      have hob := ord_bd hgr
      have hfl := fullN_lt l
      have hpo := pow_ord hgr
      have hp1 := pw_pos (ord l)
      have hp2 := pw_le hob.2
      have hs0 := ishl_one (n := ord l) (by omega)
      have Hful : Hid (((pw (ord l) : Nat) : Int) - 1 = (fullN l : Int)) := Lib.hid (by unfold fullN; omega)
      clear hgr h0 h1
      go_enter Try.func67, Try.ntmps67
      go_wp2_with fail
      rw [← Hwb.out]
      go_wp2_with (first | (go_at_call 119; refine (sIsSet_any _ _ _ _ (hg _ hE)).mono ?_; rintro e w' ⟨rfl, hE'⟩; replace hE := hE.trans hE'; clear hE') | (go_at_call 115; refine (l2Order_any _ _ _ (hg _ hE) (Hgr)).mono ?_; rintro e w' ⟨rfl, hE'⟩; replace hE := hE.trans hE'; clear hE'))
      rw [Hful.out]
      clear hs h0' hs0 hp1 hp2
      go_loopw [6, 7] (fun ov cv wr => ∃ out c N : Nat, out < 2 ^ 24 ∧ c < 2 ^ ord l ∧ c ≤ N ∧ greedyN l n N out c = greedyN l n (fullN l) 0 (fullN l) ∧ ov = .int .i64 out ∧ cv = .int .i64 c ∧ Ext wb wr) (fun _ c _ => (intOf c).toNat)
      case atStart => exact ⟨0, fullN l, fullN l, by omega, hfl, by omega, rfl, rfl, rfl, hE⟩
      case round =>
        clear hE
        obtain ⟨out, c, N, ho, hc, hN, hG, rfl, rfl, hE⟩ := hrel
        have hbx := hb _ hE
        have HG := Lib.hid hG
        clear hG
        by_cases hend : c = 0
        · subst hend
          go_wp2_with fail
          have hres : Hid (greedyN l n (fullN l) 0 (fullN l) = out) := Lib.hid (by have := HG.out; rw [greedyN_end] at this; exact this.symm)
          refine bodyPost_ret (v := .tuple #[.int .i64 out, .bool true]) (by simp [results, Try.results67, go_sem]) rfl ⟨by rw [Hs.out, Hs2.out, hres.out], hE0.trans hE⟩
        · have Hnz : Hid (c ≠ 0) := Lib.hid hend
          have hcp : 0 < (c : Int) := by omega
          have hcn : 0 < c := by omega
          clear hend
          go_wp2_with fail
          go_loopw [8, 9, 10] (fun bv mv xv wr => ∃ k : Nat, k ≤ ord l ∧ xv = .int .i64 k ∧ bv = .int .i64 ((bm (gain l n c) k).1 : Int) ∧ mv = .int .i64 ((bm (gain l n c) k).2 : Int) ∧ Ext wb wr) (fun _ _ x _ => ord l - (intOf x).toNat)
          case atStart => exact ⟨0, by omega, rfl, rfl, rfl, hE⟩
          case round =>
            clear hE hbx
            obtain ⟨k, hk, rfl, rfl, rfl, hE⟩ := hrel
            have hbx := hb _ hE
            by_cases hlt : k < ord l
            · have hsb := shiftF_bd Hgr.out n k
              have hand : iand (shiftF l n k : Int) (c : Int) = ((shiftF l n k &&& c : Nat) : Int) := iand_nat (by omega) (by omega)
              have hcb : shiftF l n k &&& c < 2 ^ 24 := Nat.lt_of_le_of_lt Nat.and_le_left hsb
              have Hcg : Hid (cnt (shiftF l n k &&& c) = gain l n c k) := Lib.hid rfl
              have hbb := bm_le (gain_le l n c) k
              have hg24 := gain_le l n c k
              have hsh : Hid (k < 24) := Lib.hid (by omega)
              by_cases hgt : (bm (gain l n c) k).2 < gain l n c k
              · have Hb := Lib.hid (bm_yes hgt)
                go_wp2_with (first | (go_at_call 115; refine (l2Order_any _ _ _ (hg _ hE) (Hgr)).mono ?_; rintro e w' ⟨rfl, hE'⟩; replace hE := hE.trans hE'; clear hE') | (go_at_call 160; refine (l3Shift_any _ _ _ _ _ (hg _ hE) (Hgr) (h2) (hsh.out)).mono ?_; rintro e w' ⟨rfl, hE'⟩; replace hE := hE.trans hE'; clear hE') | (go_at_call 117; refine (l3Bits_any _ hcb _).mono ?_; rintro e w' ⟨rfl, rfl⟩; rw [Hcg.out]))
                go_roundw
                case rel => exact ⟨k + 1, by omega, by go_num, by rw [Hb.out], by rw [Hb.out], hE⟩
                case measure => (simp [intOf]; omega)
              · have Hb := Lib.hid (bm_no hgt)
                go_wp2_with (first | (go_at_call 115; refine (l2Order_any _ _ _ (hg _ hE) (Hgr)).mono ?_; rintro e w' ⟨rfl, hE'⟩; replace hE := hE.trans hE'; clear hE') | (go_at_call 160; refine (l3Shift_any _ _ _ _ _ (hg _ hE) (Hgr) (h2) (hsh.out)).mono ?_; rintro e w' ⟨rfl, hE'⟩; replace hE := hE.trans hE'; clear hE') | (go_at_call 117; refine (l3Bits_any _ hcb _).mono ?_; rintro e w' ⟨rfl, rfl⟩; rw [Hcg.out]))
                go_roundw
                case rel => exact ⟨k + 1, by omega, by go_num, by rw [Hb.out], by rw [Hb.out], hE⟩
                case measure => (simp [intOf]; omega)
            · have hkl : k = ord l := by omega
              subst hkl
              rw [show (bm (gain l n c) (ord l)).1 = bestAt l n c from rfl]
              have hbl := bestAt_lt Hgr.out n c
              have hs1 := ishl_one (n := bestAt l n c) (by omega)
              have hs2 := ior_pw ho (show bestAt l n c < 24 by omega)
              have hsb := shiftF_lt (isGrp_ords Hgr.out) n (bestAt l n c)
              have hs3 := iand_nat (a := c) (b := shiftF l n (bestAt l n c)) (by omega) (by omega)
              have hless := greedy_less Hgr.out hne.out hn1.out Hnz.out hc
              have Hst := Lib.hid (greedyN_step (l := l) (a := n) (n := N - 1) (out := out) Hnz.out)
              have hNp : Hid (N - 1 + 1 = N) := Lib.hid (by have := Hnz.out; omega)
              have hsh : Hid (bestAt l n c < 24) := Lib.hid (by omega)
              have hle : c &&& shiftF l n (bestAt l n c) ≤ c := Nat.and_le_left
              have Hsub := Lib.hid (andN_int (b := shiftF l n (bestAt l n c)) hc)
              have Hal := Lib.hid (andN_lt (b := shiftF l n (bestAt l n c)) hc)
              go_wp2_with (first | (go_at_call 115; refine (l2Order_any _ _ _ (hg _ hE) (Hgr)).mono ?_; rintro e w' ⟨rfl, hE'⟩; replace hE := hE.trans hE'; clear hE') | (go_at_call 160; refine (l3Shift_any _ _ _ _ _ (hg _ hE) (Hgr) (h2) (hsh.out)).mono ?_; rintro e w' ⟨rfl, hE'⟩; replace hE := hE.trans hE'; clear hE'))
              go_roundw
              case rel =>
                refine ⟨out ||| 2 ^ bestAt l n c, andN c (shiftF l n (bestAt l n c)), N - 1, Nat.or_lt_two_pow ho (Nat.pow_lt_pow_right (by omega) hsh.out), Hal.out, ?_, ?_, rfl, by rw [Hsub.out], hE⟩
                · omega
                · rw [← Hst.out, hNp.out]; exact HG.out
              case measure => (simp only [intOf]; rw [Hsub.out, Int.toNat_natCast, Int.toNat_natCast]; exact hless)
end Go.Zz

/- Negatives of elements and of sets; differences of sets. -/
namespace Go.Zz
open Go.RowKit Go.Proofs
set_option maxHeartbeats 400000

theorem neg_val {x q s u : Nat} (hs : s < 24) (hq : 2 ≤ q) (hm : ((q - x % q) % q) * u ≤ 331776) :
    Value.int .i64 (wrap64 ((s : Int) + wrap64 ((((q : Int) - (x : Int) % (q : Int)) % (q : Int)) * (u : Int)))) = .int .i64 ((s + ((q - x % q) % q) * u : Nat) : Int) := by
  have h1 := Nat.mod_lt x (show 0 < q by omega)
  have e1 : (q : Int) - (x : Int) % (q : Int) = ((q - x % q : Nat) : Int) := by rw [← Int.natCast_emod]; omega
  have e2 : (((q - x % q : Nat) : Int) % (q : Int)) * (u : Int) = ((((q - x % q) % q) * u : Nat) : Int) := by rw [Int.natCast_mul, Int.natCast_emod]
  rw [e1, e2]
  generalize ((q - x % q) % q) * u = d at hm ⊢
  rw [wrapN d (by omega), ← Int.natCast_add, wrapN (s + d) (by omega)]
--%call negate 226 ext negate_any _ _ _ _ ({0}) ({1}) ({2})
theorem negate_any (v : Value) (l : List Int) (x : Nat) (w : World) (h : Ints w v l) (Hgr : Hid (isGrp l = true)) (hx : x < 16777216) :
    Calls Try.prog 226 #[.agg #[v], .int .i64 x] w fun e w' => e = .returned (.int .i64 (negF l x)) ∧ Ext w w' := by
  obtain ⟨ao, c, adr, rfl, hlen, hadr, hcell⟩ := h.op
  have hix := ints_index (c := c) elI szI hadr
  clear hadr h
  obtain ⟨wb, hwb⟩ : ∃ wb, wb = w.alloc (.cells #[.slice ao l.length c] 26) := ⟨_, rfl⟩
  have hE0 := (Ext.refl w).alloc (.cells #[.slice ao l.length c] 26)
  have hb := box_cell w (.slice ao l.length c) 26
  rw [← hwb] at hE0 hb
  have hE := Ext.refl wb
  have Hwb := Lib.hid hwb
  have hA := negF_bd Hgr.out x
  have h3 := isGrp_len Hgr.out
  clear hwb
  go_enter Try.func226, Try.ntmps226
  go_wp2_with fail
  rw [← Hwb.out]
  go_loopw [1, 5, 6, 12] (fun xv sv uv i wr => ∃ k x' s u : Nat, k ≤ l.length ∧ x' ≤ x ∧ s + u * negF (l.drop k) x' = negF l x ∧ (u : Int) = prodL (l.take k) ∧ xv = .int .i64 x' ∧ sv = .int .i64 s ∧ uv = .int .i64 u ∧ i = .int .i64 k ∧ Ext wb wr) (fun _ _ _ i _ => l.length - (intOf i).toNat)
  case atStart => exact ⟨0, x, 0, 1, by omega, by omega, by simp, by simp [prodL], rfl, rfl, rfl, rfl, hE⟩
  case round =>
    clear hE
    obtain ⟨k, x', s, u, hk, hx', hs, hu, rfl, rfl, rfl, rfl, hE⟩ := hrel
    have hbx := hb wr hE
    have hsb := add_inv hs hA
    obtain ⟨hu1, hu2⟩ := prodL_bd3 k l hk (by omega) (fun j hj => isGrp_nth Hgr.out (by omega))
    rw [← hu] at hu1 hu2
    have Hs := Lib.hid hs
    have Hu := Lib.hid hu
    clear hs hu hA
    by_cases hlt : k < l.length
    · have hck := hcell k _ hlt (hE0.trans hE)
      obtain ⟨hq1, hq2⟩ := isGrp_nth Hgr.out hlt
      obtain ⟨q, hq⟩ := Int.eq_ofNat_of_zero_le (show 0 ≤ nth l k by omega)
      have Hst := Lib.hid (negF_step hlt hq x')
      have Hu2 : Hid (nth l k * prodL (l.take k) = prodL (l.take (k + 1))) := Lib.hid (by rw [prodL_take l k hlt, Int.mul_comm])
      rw [hq] at hq1 hq2
      have Hq := Lib.hid hq
      have hd : (q - x' % q) % q < 24 := Nat.lt_of_lt_of_le (Nat.mod_lt _ (by omega)) (by omega)
      have hm1 : ((q - x' % q) % q) * u ≤ 24 * 13824 := Nat.mul_le_mul (by omega) (by omega)
      have hm2 : u * q ≤ 13824 * 24 := Nat.mul_le_mul (by omega) (by omega)
      have h1 := Nat.mod_lt x' (show 0 < q by omega)
      have c1 : (q : Int) - (x' : Int) % (q : Int) = ((q - x' % q : Nat) : Int) := by rw [← Int.natCast_emod]; omega
      have c2 : (((q : Int) - (x' : Int) % (q : Int)) % (q : Int)) * (u : Int) = ((((q - x' % q) % q) * u : Nat) : Int) := by rw [c1, Int.natCast_mul, Int.natCast_emod]
      have c3 : ((u * q : Nat) : Int) = (u : Int) * (q : Int) := Int.natCast_mul _ _
      have b1 : (x' : Int) % (q : Int) < 24 := by have := Int.emod_lt_of_pos (x' : Int) (show (0:Int) < q by omega); omega
      have b3 : 0 ≤ (x' : Int) % (q : Int) := Int.emod_nonneg _ (by omega)
      have b2 : 0 ≤ (q : Int) - (x' : Int) % (q : Int) := by have := Int.emod_lt_of_pos (x' : Int) (show (0:Int) < q by omega); omega
      have b5 : (((q : Int) - (x' : Int) % (q : Int)) % (q : Int)) * (u : Int) ≤ 331776 := by rw [c2]; omega
      have b6 : 0 ≤ (((q : Int) - (x' : Int) % (q : Int)) % (q : Int)) * (u : Int) := by rw [c2]; omega
      have b7 : (u : Int) * (q : Int) ≤ 331776 := by rw [← c3]; omega
      have b8 : 0 ≤ (u : Int) * (q : Int) := by rw [← c3]; omega
      have Hm1 := Lib.hid hm1
      clear c1 c2 c3 hd hm1 hm2 h1
      go_wp2_with fail
      skip
      go_roundw
      case rel =>
        refine ⟨k + 1, x' / q, s + ((q - x' % q) % q) * u, u * q, by omega, Nat.le_trans (Nat.div_le_self _ _) hx', ?_, ?_, ?_, ?_, ?_, by go_num, hE⟩
        · apply add_next
          rw [← Hst.out]; exact Hs.out
        · rw [← Hu2.out, ← Hu.out, Hq.out]; push_cast; rw [Int.mul_comm]
        · exact div_val (Nat.le_trans hx' (Nat.le_of_lt hx))
        · first | exact neg_val hsb (by omega) Hm1.out | (rw [show (-((x' : Int) % (q : Int))) % (q : Int) = ((q : Int) - (x' : Int) % (q : Int)) % (q : Int) from by simp]; exact neg_val hsb (by omega) Hm1.out)
        · exact mul_val u q
      case measure => (simp [intOf]; omega)
    · have hkl : k = l.length := by omega
      subst hkl
      go_wp2_with fail
      go_ret
      exact ⟨ret_int (by have := Hs.out; rw [List.drop_length] at this; simp [negF] at this; omega), hE0.trans hE⟩
--%call l2Negate 228 ext l2Negate_any _ _ _ _ ({0}) ({1}) ({2})
theorem l2Negate_any (v : Value) (l : List Int) (x : Nat) (w : World) (h : Ints w v l) (Hgr : Hid (isGrp l = true)) (hx : x < 16777216) :
    Calls Try.prog 228 #[.agg #[v], .int .i64 x] w fun e w' => e = .returned (.int .i64 (negF l x)) ∧ Ext w w' := by
  obtain ⟨ao, c, adr, rfl, hlen, hadr, hcell⟩ := h.op
  have hix := ints_index (c := c) elI szI hadr
  clear hadr h
  obtain ⟨wb, hwb⟩ : ∃ wb, wb = w.alloc (.cells #[.slice ao l.length c] 26) := ⟨_, rfl⟩
  have hE0 := (Ext.refl w).alloc (.cells #[.slice ao l.length c] 26)
  have hb := box_cell w (.slice ao l.length c) 26
  rw [← hwb] at hE0 hb
  have hE := Ext.refl wb
  have Hwb := Lib.hid hwb
  have hA := negF_bd Hgr.out x
  have h3 := isGrp_len Hgr.out
  clear hwb
  go_enter Try.func228, Try.ntmps228
  go_wp2_with fail
  rw [← Hwb.out]
  go_loopw [1, 5, 6, 7] (fun xv sv uv i wr => ∃ k x' s u : Nat, k ≤ l.length ∧ x' ≤ x ∧ s + u * negF (l.drop k) x' = negF l x ∧ (u : Int) = prodL (l.take k) ∧ xv = .int .i64 x' ∧ sv = .int .i64 s ∧ uv = .int .i64 u ∧ i = .int .i64 k ∧ Ext wb wr) (fun _ _ _ i _ => l.length - (intOf i).toNat)
  case atStart => exact ⟨0, x, 0, 1, by omega, by omega, by simp, by simp [prodL], rfl, rfl, rfl, rfl, hE⟩
  case round =>
    clear hE
    obtain ⟨k, x', s, u, hk, hx', hs, hu, rfl, rfl, rfl, rfl, hE⟩ := hrel
    have hbx := hb wr hE
    have hsb := add_inv hs hA
    obtain ⟨hu1, hu2⟩ := prodL_bd3 k l hk (by omega) (fun j hj => isGrp_nth Hgr.out (by omega))
    rw [← hu] at hu1 hu2
    have Hs := Lib.hid hs
    have Hu := Lib.hid hu
    clear hs hu hA
    by_cases hlt : k < l.length
    · have hck := hcell k _ hlt (hE0.trans hE)
      obtain ⟨hq1, hq2⟩ := isGrp_nth Hgr.out hlt
      obtain ⟨q, hq⟩ := Int.eq_ofNat_of_zero_le (show 0 ≤ nth l k by omega)
      have Hst := Lib.hid (negF_step hlt hq x')
      have Hu2 : Hid (nth l k * prodL (l.take k) = prodL (l.take (k + 1))) := Lib.hid (by rw [prodL_take l k hlt, Int.mul_comm])
      rw [hq] at hq1 hq2
      have Hq := Lib.hid hq
      have hd : (q - x' % q) % q < 24 := Nat.lt_of_lt_of_le (Nat.mod_lt _ (by omega)) (by omega)
      have hm1 : ((q - x' % q) % q) * u ≤ 24 * 13824 := Nat.mul_le_mul (by omega) (by omega)
      have hm2 : u * q ≤ 13824 * 24 := Nat.mul_le_mul (by omega) (by omega)
      have h1 := Nat.mod_lt x' (show 0 < q by omega)
      have c1 : (q : Int) - (x' : Int) % (q : Int) = ((q - x' % q : Nat) : Int) := by rw [← Int.natCast_emod]; omega
      have c2 : (((q : Int) - (x' : Int) % (q : Int)) % (q : Int)) * (u : Int) = ((((q - x' % q) % q) * u : Nat) : Int) := by rw [c1, Int.natCast_mul, Int.natCast_emod]
      have c3 : ((u * q : Nat) : Int) = (u : Int) * (q : Int) := Int.natCast_mul _ _
      have b1 : (x' : Int) % (q : Int) < 24 := by have := Int.emod_lt_of_pos (x' : Int) (show (0:Int) < q by omega); omega
      have b3 : 0 ≤ (x' : Int) % (q : Int) := Int.emod_nonneg _ (by omega)
      have b2 : 0 ≤ (q : Int) - (x' : Int) % (q : Int) := by have := Int.emod_lt_of_pos (x' : Int) (show (0:Int) < q by omega); omega
      have b5 : (((q : Int) - (x' : Int) % (q : Int)) % (q : Int)) * (u : Int) ≤ 331776 := by rw [c2]; omega
      have b6 : 0 ≤ (((q : Int) - (x' : Int) % (q : Int)) % (q : Int)) * (u : Int) := by rw [c2]; omega
      have b7 : (u : Int) * (q : Int) ≤ 331776 := by rw [← c3]; omega
      have b8 : 0 ≤ (u : Int) * (q : Int) := by rw [← c3]; omega
      have Hm1 := Lib.hid hm1
      clear c1 c2 c3 hd hm1 hm2 h1
      go_wp2_with fail
      skip
      go_roundw
      case rel =>
        refine ⟨k + 1, x' / q, s + ((q - x' % q) % q) * u, u * q, by omega, Nat.le_trans (Nat.div_le_self _ _) hx', ?_, ?_, ?_, ?_, ?_, by go_num, hE⟩
        · apply add_next
          rw [← Hst.out]; exact Hs.out
        · rw [← Hu2.out, ← Hu.out, Hq.out]; push_cast; rw [Int.mul_comm]
        · exact div_val (Nat.le_trans hx' (Nat.le_of_lt hx))
        · first | exact neg_val hsb (by omega) Hm1.out | (rw [show (-((x' : Int) % (q : Int))) % (q : Int) = ((q : Int) - (x' : Int) % (q : Int)) % (q : Int) from by simp]; exact neg_val hsb (by omega) Hm1.out)
        · exact mul_val u q
      case measure => (simp [intOf]; omega)
    · have hkl : k = l.length := by omega
      subst hkl
      go_wp2_with fail
      go_ret
      exact ⟨ret_int (by have := Hs.out; rw [List.drop_length] at this; simp [negF] at this; omega), hE0.trans hE⟩

--%call opposite 162 ext opposite_any _ _ _ _ ({0}) ({1}) ({2})
theorem opposite_any (v : Value) (l : List Int) (a : Nat) (w : World) (h : Ints w v l) (Hgr : Hid (isGrp l = true)) (ha : a < 2 ^ 24) :
    Calls Try.prog 162 #[.agg #[v], .int .i64 a] w fun e w' => e = .returned (.int .i64 (oppF l a)) ∧ Ext w w' := by
  obtain ⟨wb, hwb⟩ : ∃ wb, wb = w.alloc (.cells #[v] 26) := ⟨_, rfl⟩
  have hE0 := (Ext.refl w).alloc (.cells #[v] 26)
  have hb := box_cell w v 26
  rw [← hwb] at hE0 hb
  have hg : ∀ W, Ext wb W → Ints W v l := fun W hW => h.ext (hE0.trans hW)
  have hE := Ext.refl wb
  have Hsz : Hid (w.heap.size + 1 = wb.heap.size) := Lib.hid (by rw [hwb]; simp [go_sem])
  have Hwb := Lib.hid hwb
  clear hwb h
  go_enter Try.func162, Try.ntmps162
  go_wp2_with fail
  rw [← Hwb.out]
  go_wp2_with (first | (go_at_call 173; refine (members_any _ (ha) _).mono ?_; rintro e w1 ⟨v1, rfl, hL, hE1⟩; obtain ⟨aoL, cL, adrL, rfl, hadrL, hcellL⟩ := hL.ints.nats; have hixL := ints_index (c := cL) elI szI hadrL; clear hadrL))
  have hb1 : ∀ W, Ext w1 W → W.cell? ⟨w.heap.size, 0, none⟩ = some v := fun W hW => hb W (hE1.trans hW)
  have hg1 : ∀ W, Ext w1 W → Ints W v l := fun W hW => hg W (hE1.trans hW)
  replace hE := Ext.refl w1
  clear hb hg hL
  have hall : ∀ y ∈ elems a, y < 24 := fun y hy => elems_lt hy
  have hlen := elems_len a
  have Hd := Lib.hid (oppL_all l a)
  generalize elems a = L at hcellL hixL hall hlen Hd ⊢
  go_loopw [5, 11] (fun ov i wr => ∃ k : Nat, k ≤ L.length ∧ i = .int .i64 k ∧ ov = .int .i64 ((oppL l (L.take k) : Nat) : Int) ∧ Ext w1 wr) (fun _ i _ => L.length - (intOf i).toNat)
  case atStart => exact ⟨0, by omega, rfl, by simp [oppL, bset], hE⟩
  case round =>
    clear hE
    obtain ⟨k, hk, rfl, rfl, hE⟩ := hrel
    by_cases hlt : k < L.length
    · have hck := hcellL k _ hlt hE
      have hbx := hb1 _ hE
      have hby := hall _ (nthN_mem hlt)
      have Ht := Lib.hid (oppL_snoc l (L.take k) (nthN L k))
      have Ht2 := Lib.hid (take_nthN L k hlt)
      have hz := negF_bd Hgr.out (nthN L k)
      have hs1 := ishl_one (n := negF l (nthN L k)) (by omega)
      have hs2 := ior_pw (oppL_bd Hgr.out (L.take k)) hz
      go_wp2_with (first | (go_at_call 226; refine (negate_any _ _ _ _ (hg1 _ hE) (Hgr) ((by omega))).mono ?_; rintro e w' ⟨rfl, hE'⟩; replace hE := hE.trans hE'; clear hE'))
      go_roundw
      case rel => exact ⟨k + 1, by omega, by go_num, by rw [Ht2.out, Ht.out], hE⟩
      case measure => (simp [intOf]; omega)
    · have hkl : k = L.length := by omega
      subst hkl
      go_wp2_with fail
      go_ret
      exact ⟨ret_int (by rw [List.take_length, Hd.out]), hE0.trans (hE1.trans hE)⟩
--%call l3Negate 171 ext l3Negate_any _ _ _ _ ({0}) ({1}) ({2})
theorem l3Negate_any (v : Value) (l : List Int) (a : Nat) (w : World) (h : Ints w v l) (Hgr : Hid (isGrp l = true)) (ha : a < 2 ^ 24) :
    Calls Try.prog 171 #[.agg #[v], .int .i64 a] w fun e w' => e = .returned (.int .i64 (oppF l a)) ∧ Ext w w' := by
  obtain ⟨wb, hwb⟩ : ∃ wb, wb = w.alloc (.cells #[v] 26) := ⟨_, rfl⟩
  have hE0 := (Ext.refl w).alloc (.cells #[v] 26)
  have hb := box_cell w v 26
  rw [← hwb] at hE0 hb
  have hg : ∀ W, Ext wb W → Ints W v l := fun W hW => h.ext (hE0.trans hW)
  have hE := Ext.refl wb
  have Hsz : Hid (w.heap.size + 1 = wb.heap.size) := Lib.hid (by rw [hwb]; simp [go_sem])
  have Hwb := Lib.hid hwb
  clear hwb h
  go_enter Try.func171, Try.ntmps171
  go_wp2_with fail
  rw [← Hwb.out]
  go_wp2_with (first | (go_at_call 174; refine (l3List_any _ (ha) _).mono ?_; rintro e w1 ⟨v1, rfl, hL, hE1⟩; obtain ⟨aoL, cL, adrL, rfl, hadrL, hcellL⟩ := hL.ints.nats; have hixL := ints_index (c := cL) elI szI hadrL; clear hadrL))
  have hb1 : ∀ W, Ext w1 W → W.cell? ⟨w.heap.size, 0, none⟩ = some v := fun W hW => hb W (hE1.trans hW)
  have hg1 : ∀ W, Ext w1 W → Ints W v l := fun W hW => hg W (hE1.trans hW)
  replace hE := Ext.refl w1
  clear hb hg hL
  have hall : ∀ y ∈ elems a, y < 24 := fun y hy => elems_lt hy
  have hlen := elems_len a
  have Hd := Lib.hid (oppL_all l a)
  generalize elems a = L at hcellL hixL hall hlen Hd ⊢
  go_loopw [5, 7] (fun ov i wr => ∃ k : Nat, k ≤ L.length ∧ i = .int .i64 k ∧ ov = .int .i64 ((oppL l (L.take k) : Nat) : Int) ∧ Ext w1 wr) (fun _ i _ => L.length - (intOf i).toNat)
  case atStart => exact ⟨0, by omega, rfl, by simp [oppL, bset], hE⟩
  case round =>
    clear hE
    obtain ⟨k, hk, rfl, rfl, hE⟩ := hrel
    by_cases hlt : k < L.length
    · have hck := fun U => hcellL k _ hlt (lat_ext w1 U)
      have hbx := fun U => hb1 _ (lat_ext w1 U)
      have hby := hall _ (nthN_mem hlt)
      have Ht := Lib.hid (oppL_snoc l (L.take k) (nthN L k))
      have Ht2 := Lib.hid (take_nthN L k hlt)
      have hz := negF_bd Hgr.out (nthN L k)
      have hs1 := ishl_one (n := negF l (nthN L k)) (by omega)
      have hs2 := ior_pw (oppL_bd Hgr.out (L.take k)) hz
      go_wp2_with fail
      (refine wp_region_lat (w1) (by kernel_rfl) (by kernel_rfl) hE ?_); (repeat (go_big_quiet_step (first | (go_at_call 228; exact Calls.lat (l2Negate_any _ _ _ _ (hg1 _ (lat_ext w1 _)) (Hgr) ((by omega))))))); (refine wpQuiet_nil ?_); (intro W hE'); (replace hE := lat_of hE'); (clear hE')
      go_wp2_with fail
      go_roundw
      case rel => exact ⟨k + 1, by omega, by go_num, by rw [Ht2.out, Ht.out], hE⟩
      case measure => (simp [intOf]; omega)
    · have hkl : k = L.length := by omega
      subst hkl
      go_wp2_with fail
      go_ret
      exact ⟨ret_int (by rw [List.take_length, Hd.out]), hE0.trans (hE1.trans hE)⟩

--%call difference 169 ext difference_any _ _ _ _ _ ({0}) ({1}) ({2}) ({3})
theorem difference_any (v : Value) (l : List Int) (a b : Nat) (w : World) (h : Ints w v l) (Hgr : Hid (isGrp l = true)) (ha : a < 2 ^ 24) (hb' : b < 2 ^ 24) :
    Calls Try.prog 169 #[.agg #[v], .int .i64 a, .int .i64 b] w fun e w' => e = .returned (.int .i64 (sumF l a (oppF l b))) ∧ Ext w w' := by
  obtain ⟨wb, hwb⟩ : ∃ wb, wb = w.alloc (.cells #[v] 26) := ⟨_, rfl⟩
  have hE0 := (Ext.refl w).alloc (.cells #[v] 26)
  have hb := box_cell w v 26
  rw [← hwb] at hE0 hb
  have hg : ∀ W, Ext wb W → Ints W v l := fun W hW => h.ext (hE0.trans hW)
  have hE := Ext.refl wb
  have Hsz : Hid (w.heap.size + 1 = wb.heap.size) := Lib.hid (by rw [hwb]; simp [go_sem])
  have Hwb := Lib.hid hwb
  clear hwb h
  have hbx := fun U => hb _ (lat_ext wb U)
  have ho := oppF_bd Hgr.out b
  go_enter Try.func169, Try.ntmps169
  go_wp2_with fail
  rw [← Hwb.out]
  (refine wp_region_lat (wb) (by kernel_rfl) (by kernel_rfl) hE ?_); (repeat (go_big_quiet_step (first | (go_at_call 162; exact Calls.lat (opposite_any _ _ _ _ (hg _ (lat_ext wb _)) (Hgr) (hb'))) | (go_at_call 113; exact Calls.lat (sum_any _ _ _ _ _ (hg _ (lat_ext wb _)) (Hgr) (ha) (ho)))))); (refine wpQuiet_nil ?_); (intro W hE'); (replace hE := lat_of hE'); (clear hE')
  go_wp2_with fail
  go_ret
  exact ⟨rfl, hE0.trans hE⟩
end Go.Zz
