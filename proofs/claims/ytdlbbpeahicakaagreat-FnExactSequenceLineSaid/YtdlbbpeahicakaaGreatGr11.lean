/- Plain facts on linear equations: solutions in numbers from 1 to n, counted, of one color; colorings without one. No program is named here. -/
import Derived.Test.YtdlbbpeahicakaaGreatGr5
import Derived.Test.YtdlbbpeahicakaaGreatGr6
import Derived.Deep.RegionHeld3
import Derived.Test.YtdlbbpeahicakaaGreatGr9
import Derived.Laws.OwnMore
import Derived.Test.YtdlbbpeahicakaaGreatGr8
import Derived.Laws.EntriesVeiled
import Derived.StillTailTactics
import Derived.Deep.AppendLies
namespace Go.Zz

def cofB (x : Int) : Bool := inB x (-9) 9 && decide (x ≠ 0)
def eqB (c : List Int) : Bool := c.all cofB && inB c.length 2 4
theorem eqB_bad {c : List Int} {k : Nat} (hk : k < c.length) (h : cofB (nth c k) = false) : eqB c = false := by
  unfold eqB
  rw [Bool.and_eq_false_iff]
  refine Or.inl (Bool.not_eq_true _ ▸ fun e => ?_)
  rw [List.all_eq_true] at e
  rw [e _ (nth_mem hk)] at h; cases h
theorem eqB_end {c : List Int} (h : ∀ j, j < c.length → cofB (nth c j) = true) : eqB c = inB c.length 2 4 := by
  unfold eqB
  have : c.all cofB = true := by
    rw [List.all_eq_true]; intro x hx
    obtain ⟨k, hk, rfl⟩ := mem_nth hx
    exact h k hk
  rw [this]; rfl
theorem eqB_yes {c : List Int} (h : eqB c = true) : 2 ≤ c.length ∧ c.length ≤ 4 ∧ ∀ j, j < c.length → -9 ≤ nth c j ∧ nth c j ≤ 9 ∧ nth c j ≠ 0 := by
  unfold eqB at h
  rw [Bool.and_eq_true, inB_t] at h
  refine ⟨by omega, by omega, fun j hj => ?_⟩
  have := List.all_eq_true.1 h.1 _ (nth_mem hj)
  unfold cofB at this
  rw [Bool.and_eq_true, inB_t, decide_eq_true_iff] at this
  exact ⟨this.1.1, this.1.2, this.2⟩
theorem cof_bd {c : List Int} (h : eqB c = true) (j : Nat) : -9 ≤ nth c j ∧ nth c j ≤ 9 := by
  by_cases hj : j < c.length
  · have := (eqB_yes h).2.2 j hj; omega
  · have : nth c j = 0 := by simp [nth, List.getD, List.getElem?_eq_none (Nat.le_of_not_lt hj)]
    omega

/-! ### columns with the sum 0 -/
def sumI (l : List Int) : Int := l.foldl (fun s x => s + x) 0
theorem sumI_snoc (l : List Int) (x : Int) : sumI (l ++ [x]) = sumI l + x := by unfold sumI; rw [List.foldl_append]; rfl
theorem sumI_take (l : List Int) (k : Nat) (hk : k < l.length) : sumI (l.take (k + 1)) = sumI (l.take k) + nth l k := by rw [take_nth l k hk, sumI_snoc]
theorem sumI_bd (l : List Int) (h : ∀ x ∈ l, -9 ≤ x ∧ x ≤ 9) : ∀ k, k ≤ l.length → -9 * (k : Int) ≤ sumI (l.take k) ∧ sumI (l.take k) ≤ 9 * (k : Int)
  | 0, _ => by simp [sumI]
  | k + 1, hk => by
    have ih := sumI_bd l h k (by omega)
    have := h _ (nth_mem (l := l) (k := k) (by omega))
    rw [sumI_take l k (by omega)]; omega
theorem partTo_bd {c : List Int} (h : eqB c = true) (m k : Nat) : ∀ x ∈ partTo c m k, -9 ≤ x ∧ x ≤ 9 := fun x hx => by
  unfold partTo at hx
  rw [List.mem_map] at hx
  obtain ⟨j, -, rfl⟩ := hx
  exact cof_bd h j
theorem sumP_bd {c : List Int} (h : eqB c = true) (m k : Nat) (hk : k ≤ 4) : -36 ≤ sumI (partTo c m k) ∧ sumI (partTo c m k) ≤ 36 := by
  have h1 := sumI_bd _ (partTo_bd h m k) (partTo c m k).length (Nat.le_refl _)
  rw [List.take_length] at h1
  have := partTo_len c m k
  omega
def zcF (c : List Int) : Option Nat := if eqB c then (List.range (pw c.length)).find? (fun m => decide (1 ≤ m) && decide (sumI (partI c m) = 0)) else none
def zcB (c : List Int) : Bool := (zcF c).isSome
def zcL (c : List Int) : List Nat := match zcF c with | some m => elems m | none => []
theorem zc_no {c : List Int} (h : eqB c = false) : zcB c = false ∧ zcL c = [] := by
  have : zcF c = none := by unfold zcF; rw [h]; rfl
  unfold zcB zcL; rw [this]; exact ⟨rfl, rfl⟩
theorem zc_at {c : List Int} (h : eqB c = true) {m : Nat} (hm : m < pw c.length) (h1 : 1 ≤ m) (h0 : ∀ j, 1 ≤ j → j < m → ¬ sumI (partI c j) = 0) (hz : sumI (partI c m) = 0) : zcB c = true ∧ zcL c = elems m := by
  have : zcF c = some m := by
    unfold zcF; rw [if_pos h]
    exact find_at hm (fun j hj => by
      by_cases e : 1 ≤ j
      · rw [decide_eq_false (h0 j e hj)]; simp
      · rw [decide_eq_false e]; rfl) (by rw [decide_eq_true h1, decide_eq_true hz]; rfl)
  unfold zcB zcL; rw [this]; exact ⟨rfl, rfl⟩
theorem zc_none {c : List Int} (h : eqB c = true) (h0 : ∀ j, 1 ≤ j → j < pw c.length → ¬ sumI (partI c j) = 0) : zcB c = false ∧ zcL c = [] := by
  have : zcF c = none := by
    unfold zcF; rw [if_pos h]
    exact find_none (fun j hj => by
      by_cases e : 1 ≤ j
      · rw [decide_eq_false (h0 j e hj)]; simp
      · rw [decide_eq_false e]; rfl)
  unfold zcB zcL; rw [this]; exact ⟨rfl, rfl⟩

/-! ### solutions -/
def dotTo (c : List Int) (X : List Nat) : Nat → Int
  | 0 => 0
  | k + 1 => dotTo c X k + nth c k * (nthN X k : Int)
theorem dotTo_succ (c : List Int) (X : List Nat) (k : Nat) : dotTo c X (k + 1) = dotTo c X k + nth c k * (nthN X k : Int) := rfl
theorem nthN_app {X : List Nat} {y k : Nat} (hk : k < X.length) : nthN (X ++ [y]) k = nthN X k := by simp [nthN, List.getD, hk, List.getElem?_append_left hk]
theorem nthN_new (X : List Nat) (y : Nat) : nthN (X ++ [y]) X.length = y := by simp [nthN, List.getD]
theorem dotTo_app (c : List Int) (X : List Nat) (y : Nat) : ∀ k, k ≤ X.length → dotTo c (X ++ [y]) k = dotTo c X k
  | 0, _ => rfl
  | k + 1, h => by rw [dotTo_succ, dotTo_succ, dotTo_app c X y k (by omega), nthN_app (by omega)]
def dotL (c : List Int) (X : List Nat) : Int := dotTo c X X.length
theorem dotL_nil (c : List Int) : dotL c [] = 0 := rfl
theorem dotL_snoc (c : List Int) (X : List Nat) (y : Nat) : dotL c (X ++ [y]) = dotL c X + nth c X.length * (y : Int) := by
  unfold dotL
  rw [List.length_append, List.length_singleton, dotTo_succ, dotTo_app c X y X.length (Nat.le_refl _), nthN_new]
theorem mul_bd {a : Int} {y : Nat} (h1 : -9 ≤ a) (h2 : a ≤ 9) (hy : y ≤ 12) : -108 ≤ a * (y : Int) ∧ a * (y : Int) ≤ 108 := by
  have h3 : (0 : Int) ≤ y := by omega
  have h4 : a * (y : Int) ≤ 9 * (y : Int) := Int.mul_le_mul_of_nonneg_right h2 h3
  have h5 : -9 * (y : Int) ≤ a * (y : Int) := Int.mul_le_mul_of_nonneg_right h1 h3
  omega
theorem dotTo_bd {c : List Int} (h : eqB c = true) {X : List Nat} (hX : ∀ x ∈ X, x ≤ 12) : ∀ k, k ≤ X.length → -108 * (k : Int) ≤ dotTo c X k ∧ dotTo c X k ≤ 108 * (k : Int)
  | 0, _ => by simp [dotTo]
  | k + 1, hk => by
    have ih := dotTo_bd h hX k (by omega)
    have h1 := cof_bd h k
    have h2 := mul_bd h1.1 h1.2 (hX _ (nthN_mem (L := X) (k := k) (by omega)))
    rw [dotTo_succ]; omega

/-- whether the next number may be y -/
def okC (cs : List Int) (X : List Nat) (y : Nat) : Bool := cs.isEmpty || X.isEmpty || decide (nth cs (y - 1) = nth cs (nthN X 0 - 1))
def cntF (c : List Int) (n : Nat) (cs : List Int) : Nat → List Nat → Nat
  | 0, X => if dotL c X = 0 then 1 else 0
  | r + 1, X => (List.range n).foldl (fun s y => s + if okC cs X (y + 1) then cntF c n cs r (X ++ [y + 1]) else 0) 0
def cntK (c : List Int) (n : Nat) (cs : List Int) (r : Nat) (X : List Nat) (k : Nat) : Nat := (List.range k).foldl (fun s y => s + if okC cs X (y + 1) then cntF c n cs r (X ++ [y + 1]) else 0) 0
theorem cntK_zero (c : List Int) (n : Nat) (cs : List Int) (r : Nat) (X : List Nat) : cntK c n cs r X 0 = 0 := rfl
theorem cntK_succ (c : List Int) (n : Nat) (cs : List Int) (r : Nat) (X : List Nat) (k : Nat) : cntK c n cs r X (k + 1) = cntK c n cs r X k + if okC cs X (k + 1) then cntF c n cs r (X ++ [k + 1]) else 0 := by
  unfold cntK; rw [List.range_succ, List.foldl_append]; rfl
theorem cntK_no {c : List Int} {n : Nat} {cs : List Int} {r : Nat} {X : List Nat} {k : Nat} (h : okC cs X (k + 1) = false) : cntK c n cs r X (k + 1) = cntK c n cs r X k := by rw [cntK_succ, h]; rfl
theorem cntK_yes {c : List Int} {n : Nat} {cs : List Int} {r : Nat} {X : List Nat} {k : Nat} (h : okC cs X (k + 1) = true) : cntK c n cs r X (k + 1) = cntK c n cs r X k + cntF c n cs r (X ++ [k + 1]) := by rw [cntK_succ, h]; rfl
theorem cntK_mono (c : List Int) (n : Nat) (cs : List Int) (r : Nat) (X : List Nat) (k : Nat) : ∀ d, cntK c n cs r X k ≤ cntK c n cs r X (k + d)
  | 0 => Nat.le_refl _
  | d + 1 => by have := cntK_mono c n cs r X k d; rw [← Nat.add_assoc, cntK_succ]; omega
theorem cntF_all (c : List Int) (n : Nat) (cs : List Int) (r : Nat) (X : List Nat) : cntF c n cs (r + 1) X = cntK c n cs r X n := rfl
theorem cntF_yes {c : List Int} {n : Nat} {cs : List Int} {X : List Nat} (h : dotL c X = 0) : cntF c n cs 0 X = 1 := by unfold cntF; rw [if_pos h]
theorem cntF_no {c : List Int} {n : Nat} {cs : List Int} {X : List Nat} (h : ¬ dotL c X = 0) : cntF c n cs 0 X = 0 := by unfold cntF; rw [if_neg h]
theorem cntF_le (c : List Int) (n : Nat) (cs : List Int) : ∀ r X, cntF c n cs r X ≤ n ^ r := by
  intro r
  induction r with
  | zero => intro X; unfold cntF; split <;> simp
  | succ r ih =>
    intro X
    rw [cntF_all, Nat.pow_succ, Nat.mul_comm]
    have : ∀ k, cntK c n cs r X k ≤ k * n ^ r := by
      intro k
      induction k with
      | zero => simp [cntK]
      | succ k ik =>
        rw [cntK_succ, Nat.succ_mul]
        have := ih (X ++ [k + 1])
        split <;> omega
    exact this n
/-- whether some solution with the property is reached -/
def anyF (stop : List Nat → Bool) (c : List Int) (n : Nat) : Nat → List Nat → Bool
  | 0, X => decide (dotL c X = 0) && stop X
  | r + 1, X => (List.range n).any (fun y => anyF stop c n r (X ++ [y + 1]))
theorem anyF_leaf {stop : List Nat → Bool} {c : List Int} {n : Nat} {X : List Nat} : anyF stop c n 0 X = (decide (dotL c X = 0) && stop X) := rfl
theorem anyF_hit {stop : List Nat → Bool} {c : List Int} {n r k : Nat} {X : List Nat} (hk : k < n) (h : anyF stop c n r (X ++ [k + 1]) = true) : anyF stop c n (r + 1) X = true := by
  unfold anyF; rw [List.any_eq_true]; exact ⟨k, List.mem_range.2 hk, h⟩
theorem anyF_none {stop : List Nat → Bool} {c : List Int} {n r : Nat} {X : List Nat} (h : ∀ k, k < n → anyF stop c n r (X ++ [k + 1]) = false) : anyF stop c n (r + 1) X = false := by
  unfold anyF; rw [List.any_eq_false]; intro k hk; rw [h k (List.mem_range.1 hk)]; simp
theorem anyF_iff (stop : List Nat → Bool) (c : List Int) (n : Nat) : ∀ r X, anyF stop c n r X = true ↔ ∃ Y : List Nat, Y.length = r ∧ (∀ y ∈ Y, 1 ≤ y ∧ y ≤ n) ∧ dotL c (X ++ Y) = 0 ∧ stop (X ++ Y) = true := by
  intro r
  induction r with
  | zero =>
    intro X
    rw [anyF_leaf, Bool.and_eq_true, decide_eq_true_iff]
    constructor
    · rintro ⟨h1, h2⟩; exact ⟨[], rfl, by simp, by simpa using h1, by simpa using h2⟩
    · rintro ⟨Y, hY, -, h1, h2⟩
      have := List.eq_nil_of_length_eq_zero hY
      subst this
      rw [List.append_nil] at h1 h2; exact ⟨h1, h2⟩
  | succ r ih =>
    intro X
    unfold anyF
    rw [List.any_eq_true]
    constructor
    · rintro ⟨k, hk, h⟩
      obtain ⟨Y, h1, h2, h3, h4⟩ := (ih _).1 h
      have := List.mem_range.1 hk
      refine ⟨(k + 1) :: Y, by simp [h1], fun y hy => ?_, by simpa using h3, by simpa using h4⟩
      rw [List.mem_cons] at hy
      rcases hy with rfl | hy
      · omega
      · exact h2 y hy
    · rintro ⟨Y, h1, h2, h3, h4⟩
      cases Y with
      | nil => simp at h1
      | cons y Y =>
        have hy := h2 y (by simp)
        refine ⟨y - 1, List.mem_range.2 (by omega), (ih _).2 ⟨Y, by simpa using h1, fun z hz => h2 z (by simp [hz]), ?_, ?_⟩⟩
        · rw [show y - 1 + 1 = y by omega]; simpa using h3
        · rw [show y - 1 + 1 = y by omega]; simpa using h4
/-- all numbers have the color of the first -/
def sameB (cs : List Int) (X : List Nat) : Bool := X.all (fun x => decide (nth cs (x - 1) = nth cs (nthN X 0 - 1)))
def sameTo (cs : List Int) (X : List Nat) (k : Nat) : Prop := ∀ j, j < k → nth cs (nthN X j - 1) = nth cs (nthN X 0 - 1)
theorem memN_nth {X : List Nat} {x : Nat} (h : x ∈ X) : ∃ k, k < X.length ∧ nthN X k = x := by
  obtain ⟨k, hk, rfl⟩ := List.getElem_of_mem h
  exact ⟨k, hk, by simp [nthN, List.getD, hk]⟩
theorem sameB_yes {cs : List Int} {X : List Nat} (h : sameTo cs X X.length) : sameB cs X = true := by
  unfold sameB; rw [List.all_eq_true]; intro x hx
  obtain ⟨k, hk, rfl⟩ := memN_nth hx
  exact decide_eq_true (h k hk)
theorem sameB_no {cs : List Int} {X : List Nat} {k : Nat} (hk : k < X.length) (h : ¬ nth cs (nthN X k - 1) = nth cs (nthN X 0 - 1)) : sameB cs X = false := by
  rw [← Bool.not_eq_true]; intro e
  unfold sameB at e
  rw [List.all_eq_true] at e
  exact h (of_decide_eq_true (e _ (nthN_mem hk)))
theorem sameB_iff {cs : List Int} {X : List Nat} : sameB cs X = true ↔ sameTo cs X X.length := by
  constructor
  · intro h j hj
    refine Classical.byContradiction fun hn => ?_
    rw [sameB_no hj hn] at h; cases h
  · exact sameB_yes
/-- with colors the count is that of the solutions of one color -/
theorem cntF_color (c : List Int) (n : Nat) (cs : List Int) (hcs : cs ≠ []) : ∀ r X, sameTo cs X X.length → (0 < cntF c n cs r X ↔ anyF (sameB cs) c n r X = true) := by
  have he : cs.isEmpty = false := by cases cs with | nil => exact absurd rfl hcs | cons => rfl
  intro r
  induction r with
  | zero =>
    intro X hX
    rw [anyF_leaf, sameB_yes hX]
    by_cases h : dotL c X = 0
    · rw [cntF_yes h, decide_eq_true h]; simp
    · rw [cntF_no h, decide_eq_false h]; simp
  | succ r ih =>
    intro X hX
    have hok : ∀ y, okC cs X y = true → sameTo cs (X ++ [y]) (X ++ [y]).length := fun y hy j hj => by
      unfold okC at hy
      rw [he, Bool.false_or, Bool.or_eq_true, decide_eq_true_iff] at hy
      rw [List.length_append, List.length_singleton] at hj
      cases X with
      | nil => have : j = 0 := by simpa using hj
               subst this; rfl
      | cons x X =>
        rcases hy with hy | hy
        · cases hy
        · have e0 : nthN ((x :: X) ++ [y]) 0 = nthN (x :: X) 0 := nthN_app (by simp)
          by_cases hj2 : j < (x :: X).length
          · rw [nthN_app hj2, e0]; exact hX j hj2
          · have : j = (x :: X).length := by omega
            subst this
            rw [nthN_new, e0]; exact hy
    have hno : ∀ y, okC cs X y = false → anyF (sameB cs) c n r (X ++ [y]) = false := fun y hy => by
      rw [← Bool.not_eq_true, anyF_iff]
      rintro ⟨Y, -, -, -, h4⟩
      rw [sameB_iff] at h4
      unfold okC at hy
      rw [he, Bool.false_or, Bool.or_eq_false_iff, decide_eq_false_iff_not] at hy
      cases X with
      | nil => simp at hy
      | cons x X =>
        have := h4 (x :: X).length (by simp)
        apply hy.2
        have e1 : nthN ((x :: X) ++ [y] ++ Y) (x :: X).length = y := by simp [nthN, List.getD]
        have e2 : nthN ((x :: X) ++ [y] ++ Y) 0 = nthN (x :: X) 0 := by simp [nthN, List.getD]
        rw [e1, e2] at this; exact this
    rw [cntF_all]
    have key : ∀ k, 0 < cntK c n cs r X k ↔ ∃ y, y < k ∧ anyF (sameB cs) c n r (X ++ [y + 1]) = true := by
      intro k
      induction k with
      | zero => rw [cntK_zero]; exact ⟨fun h => absurd h (by omega), fun ⟨y, h, _⟩ => absurd h (by omega)⟩
      | succ k ik =>
        cases ho : okC cs X (k + 1)
        · rw [cntK_no ho, ik]
          constructor
          · rintro ⟨y, h1, h2⟩; exact ⟨y, by omega, h2⟩
          · rintro ⟨y, h1, h2⟩
            by_cases e : y = k
            · subst e; rw [hno _ ho] at h2; cases h2
            · exact ⟨y, by omega, h2⟩
        · rw [cntK_yes ho]
          have h3 := ih _ (hok _ ho)
          constructor
          · intro h
            by_cases h4 : 0 < cntK c n cs r X k
            · obtain ⟨y, h1, h2⟩ := ik.1 h4; exact ⟨y, by omega, h2⟩
            · exact ⟨k, by omega, h3.1 (by omega)⟩
          · rintro ⟨y, h1, h2⟩
            by_cases e : y = k
            · subst e; have := h3.2 h2; omega
            · have := ik.2 ⟨y, by omega, h2⟩; omega
    rw [key n]
    constructor
    · rintro ⟨y, h1, h2⟩; exact anyF_hit h1 h2
    · intro h
      unfold anyF at h
      rw [List.any_eq_true] at h
      obtain ⟨y, h1, h2⟩ := h
      exact ⟨y, List.mem_range.1 h1, h2⟩
/-- some solution has one color -/
def monoB (c cs : List Int) : Bool := anyF (sameB cs) c cs.length c.length []
theorem mono_cnt {c cs : List Int} (hcs : cs ≠ []) : (0 < cntF c cs.length cs c.length []) ↔ monoB c cs = true := cntF_color c cs.length cs hcs _ [] (fun j hj => absurd hj (by simp))
theorem mono_ext {c cs : List Int} (ds : List Int) (hc : 0 < c.length) (h : monoB c cs = true) : monoB c (cs ++ ds) = true := by
  unfold monoB at h ⊢
  rw [anyF_iff] at h ⊢
  obtain ⟨Y, h1, h2, h3, h4⟩ := h
  refine ⟨Y, h1, fun y hy => ?_, h3, ?_⟩
  · have := h2 y hy; rw [List.length_append]; omega
  · rw [List.nil_append] at h4 ⊢
    rw [sameB_iff] at h4 ⊢
    intro j hj
    have e : ∀ j, j < Y.length → nth (cs ++ ds) (nthN Y j - 1) = nth cs (nthN Y j - 1) := fun j hj => by
      have := h2 _ (nthN_mem hj)
      simp only [nth, List.getD]
      rw [List.getElem?_append_left (by omega)]
    rw [e j hj, e 0 (by omega)]; exact h4 j hj

/-! ### colorings -/
/-- colors go on without a solution of one color, up to n -/
def avF (c : List Int) (k n : Nat) : Nat → List Int → Bool
  | 0, _ => false
  | f + 1, cs => if decide (cs ≠ []) && monoB c cs then false else if cs.length = n then true else (List.range k).any (fun x => avF c k n f (cs ++ [(x : Int)]))
theorem avF_mono {c : List Int} {k n f : Nat} {cs : List Int} (h0 : cs ≠ []) (h : monoB c cs = true) : avF c k n (f + 1) cs = false := by unfold avF; rw [h, decide_eq_true h0]; rfl
theorem avF_full {c : List Int} {k n f : Nat} {cs : List Int} (h : (decide (cs ≠ []) && monoB c cs) = false) (hn : cs.length = n) : avF c k n (f + 1) cs = true := by unfold avF; rw [h, if_pos hn]; rfl
theorem avF_part {c : List Int} {k n f : Nat} {cs : List Int} (h : (decide (cs ≠ []) && monoB c cs) = false) (hn : ¬ cs.length = n) : avF c k n (f + 1) cs = (List.range k).any (fun x => avF c k n f (cs ++ [(x : Int)])) := by
  conv => lhs; unfold avF
  rw [h, if_neg hn]; rfl
/-- a number's digits base 2, as colors -/
def bitsI (n m : Nat) : List Int := (List.range n).map (fun i => ((m.testBit i).toNat : Int))
theorem bitsI_len (n m : Nat) : (bitsI n m).length = n := by simp [bitsI]
theorem avF_iff {c : List Int} (hc : 0 < c.length) {n : Nat} (hn : 1 ≤ n) : ∀ f cs, cs.length ≤ n → n < cs.length + f → (avF c 2 n f cs = true ↔ ∃ ds : List Int, cs.length + ds.length = n ∧ (∀ d ∈ ds, d = 0 ∨ d = 1) ∧ monoB c (cs ++ ds) = false) := by
  intro f
  induction f with
  | zero => intro cs h1 h2; omega
  | succ f ih =>
    intro cs h1 h2
    cases hm : (decide (cs ≠ []) && monoB c cs)
    · by_cases hl : cs.length = n
      · rw [avF_full hm hl]
        have h0 : cs ≠ [] := by intro e; subst e; simp at hl; omega
        rw [decide_eq_true h0, Bool.true_and] at hm
        exact ⟨fun _ => ⟨[], by simpa using hl, by simp, by simpa using hm⟩, fun _ => rfl⟩
      · rw [avF_part hm hl, List.any_eq_true]
        constructor
        · rintro ⟨x, hx, h⟩
          have hx2 := List.mem_range.1 hx
          obtain ⟨ds, e1, e2, e3⟩ := (ih _ (by simp; omega) (by simp; omega)).1 h
          refine ⟨(x : Int) :: ds, by simp at e1 ⊢; omega, fun d hd => ?_, by simpa using e3⟩
          rw [List.mem_cons] at hd
          rcases hd with rfl | hd
          · omega
          · exact e2 d hd
        · rintro ⟨ds, e1, e2, e3⟩
          cases ds with
          | nil => simp at e1; omega
          | cons d ds =>
            have hd := e2 d (by simp)
            refine ⟨d.toNat, List.mem_range.2 (by omega), (ih _ (by simp; omega) (by simp; omega)).2 ⟨ds, by simp at e1 ⊢; omega, fun z hz => e2 z (by simp [hz]), ?_⟩⟩
            rw [show ((d.toNat : Nat) : Int) = d by omega]
            simpa using e3
    · rw [Bool.and_eq_true, decide_eq_true_iff] at hm
      rw [avF_mono hm.1 hm.2]
      constructor
      · intro h; cases h
      · rintro ⟨ds, -, -, e3⟩
        rw [mono_ext ds hc hm.2] at e3; cases e3
theorem bits_list : ∀ (ds : List Int), (∀ d ∈ ds, d = 0 ∨ d = 1) → ∃ m, m < 2 ^ ds.length ∧ bitsI ds.length m = ds := by
  intro ds
  induction ds with
  | nil => intro _; exact ⟨0, by simp, rfl⟩
  | cons d ds ih =>
    intro h
    obtain ⟨m, h1, h2⟩ := ih (fun x hx => h x (by simp [hx]))
    have hd := h d (by simp)
    refine ⟨d.toNat + 2 * m, by rw [List.length_cons, Nat.pow_succ]; omega, ?_⟩
    unfold bitsI at h2 ⊢
    rw [List.length_cons, List.range_succ_eq_map, List.map_cons, List.map_map]
    congr 1
    · rw [Nat.testBit_zero]
      rcases hd with rfl | rfl
      · simp
      · have : (Int.toNat 1 + 2 * m) % 2 = 1 := by simp
        rw [this]; rfl
    · conv => rhs; rw [← h2]
      apply List.map_congr_left
      intro i _
      show (((d.toNat + 2 * m).testBit (i + 1)).toNat : Int) = _
      rw [Nat.testBit_succ, show (d.toNat + 2 * m) / 2 = m by omega]
theorem avF_masks {c : List Int} (hc : 0 < c.length) {n : Nat} (hn : 1 ≤ n) : avF c 2 n (n + 1) [] = true ↔ ∃ m, m < 2 ^ n ∧ monoB c (bitsI n m) = false := by
  rw [avF_iff hc hn _ _ (by simp) (by simp)]
  constructor
  · rintro ⟨ds, h1, h2, h3⟩
    simp at h1
    obtain ⟨m, e1, e2⟩ := bits_list ds h2
    rw [h1] at e1 e2
    exact ⟨m, e1, by rw [e2]; simpa using h3⟩
  · rintro ⟨m, h1, h2⟩
    refine ⟨bitsI n m, by simp [bitsI_len], fun d hd => ?_, by simpa using h2⟩
    unfold bitsI at hd
    rw [List.mem_map] at hd
    obtain ⟨i, -, rfl⟩ := hd
    cases m.testBit i
    · exact Or.inl rfl
    · exact Or.inr rfl
/-- each coloring of n numbers has a solution of one color -/
def allB (c : List Int) (n : Nat) : Bool := (List.range (pw n)).all (fun m => monoB c (bitsI n m))
theorem allB_no {c : List Int} {n m : Nat} (hm : m < pw n) (h : monoB c (bitsI n m) = false) : allB c n = false := by
  rw [← Bool.not_eq_true]; intro e
  unfold allB at e; rw [List.all_eq_true] at e
  rw [e m (List.mem_range.2 hm)] at h; cases h
theorem allB_yes {c : List Int} {n : Nat} (h : ∀ m, m < pw n → monoB c (bitsI n m) = true) : allB c n = true := by
  unfold allB; rw [List.all_eq_true]; intro m hm; exact h m (List.mem_range.1 hm)
theorem allB_av {c : List Int} (hc : 0 < c.length) {n : Nat} (hn : 1 ≤ n) : avF c 2 n (n + 1) [] = !allB c n := by
  cases h : allB c n
  · rw [Bool.not_false, avF_masks hc hn]
    unfold allB at h
    rw [List.all_eq_false] at h
    obtain ⟨m, h1, h2⟩ := h
    exact ⟨m, List.mem_range.1 h1, by simpa using h2⟩
  · rw [Bool.not_true, ← Bool.not_eq_true, avF_masks hc hn]
    rintro ⟨m, h1, h2⟩
    rw [allB_no h1 h2] at h; cases h
def radF (c : List Int) : Option Nat := (List.range 9).find? (fun n => allB c (n + 1))
def radN (c : List Int) : Int := if eqB c && decide (c.length ≤ 3) then (match radF c with | some n => (n : Int) + 1 | none => 0) else -1
theorem rad_at {c : List Int} (h : eqB c = true) (h3 : c.length ≤ 3) {n : Nat} (hn : n < 9) (h0 : ∀ j, j < n → allB c (j + 1) = false) (h1 : allB c (n + 1) = true) : radN c = (n : Int) + 1 := by
  unfold radN radF; rw [h, decide_eq_true h3, find_at hn h0 h1]; rfl
theorem rad_none {c : List Int} (h : eqB c = true) (h3 : c.length ≤ 3) (h0 : ∀ j, j < 9 → allB c (j + 1) = false) : radN c = 0 := by
  unfold radN radF; rw [h, decide_eq_true h3, find_none h0]; rfl
theorem rad_no {c : List Int} (h : eqB c = false ∨ ¬ c.length ≤ 3) : radN c = -1 := by
  unfold radN
  rcases h with h | h
  · rw [h]; rfl
  · rw [decide_eq_false h, Bool.and_false]; rfl
end Go.Zz

/- Coefficients of equations and columns with the sum 0, of both. -/
namespace Go.Zz
open Go.RowKit Go.Proofs
set_option maxHeartbeats 1000000
set_option maxRecDepth 8000

theorem cof_zero : cofB 0 = false := by decide
theorem cof_out {x : Int} (h : inB x (-9) 9 = false) : cofB x = false := by unfold cofB; rw [h]; rfl
theorem cof_in {x : Int} (h : inB x (-9) 9 = true) (h0 : ¬ x = 0) : cofB x = true := by unfold cofB; rw [h]; simp [h0]
end Go.Zz

/- What stays where a call writes into one box and grows the slice that lies in it. -/
namespace Go.Zz
open Go.RowKit Go.Proofs
set_option maxHeartbeats 1000000

theorem own_nb {TI : TypeId} {w0 w : World} {v : Value} {l : List Int} {b : Nat} (h : Own TI w0 w v l) (hb : b < w0.heap.size) : v.ownBlock ≠ some b := fun e => by have := (h.blk b e).1; omega
/-- w' is w with new blocks, and writes to block b and to the row o alone -/
structure Fr (b : Nat) (o : Option Nat) (w w' : World) : Prop where
  os : w'.os = w.os
  tape : w'.tape = w.tape
  output : w'.output = w.output
  size : w.heap.size ≤ w'.heap.size
  block : ∀ k, k < w.heap.size → k ≠ b → some k ≠ o → w'.heap[k]? = w.heap[k]?
/-- the row o' is the row o, or newer than w -/
def Nw (o : Option Nat) (w : World) (o' : Option Nat) : Prop := o' = o ∨ ∀ k, o' = some k → w.heap.size ≤ k
theorem Fr.refl (b : Nat) (o : Option Nat) (w : World) : Fr b o w w := ⟨rfl, rfl, rfl, Nat.le_refl _, fun _ _ _ _ => rfl⟩
theorem Nw.refl (o : Option Nat) (w : World) : Nw o w o := Or.inl rfl
theorem Fr.trans {b : Nat} {o o1 : Option Nat} {w w1 w2 : World} (h : Fr b o w w1) (hn : Nw o w o1) (k : Fr b o1 w1 w2) : Fr b o w w2 :=
  ⟨k.os.trans h.os, k.tape.trans h.tape, k.output.trans h.output, Nat.le_trans h.size k.size, fun i hi hb ho => by
    rw [k.block i (Nat.lt_of_lt_of_le hi h.size) hb fun e => ?_, h.block i hi hb ho]
    rcases hn with hn | hn
    · rw [hn] at e; exact ho e
    · have := hn i e.symm; omega⟩
theorem Nw.trans {o o1 o2 : Option Nat} {w w1 : World} (h : Nw o w o1) (hs : w.heap.size ≤ w1.heap.size) (k : Nw o1 w1 o2) : Nw o w o2 := by
  rcases k with k | k
  · rw [k]; exact h
  · exact Or.inr fun i hi => Nat.le_trans hs (k i hi)
theorem Ext.fr {w w' : World} (h : Ext w w') (b : Nat) (o : Option Nat) : Fr b o w w' := ⟨h.os, h.tape, h.output, h.size, fun k hk _ _ => h.block k hk⟩
theorem fr_grown {b : Nat} {o : Option Nat} {w w' : World} (h : w.grownBy w' o) : Fr b o w w' := ⟨h.os, h.tape, h.output, h.size, fun k hk _ ho => h.block k hk ho⟩
theorem fr_set (b : Nat) (o : Option Nat) (w : World) (i : Nat) (v : Value) : Fr b o w (w.setCell ⟨b, i, none⟩ v) :=
  ⟨rfl, rfl, rfl, by simp, fun k _ hb _ => Below.heap_setCell _ _ _ _ (fun e => hb e)⟩
theorem Fr.ext {b : Nat} {o : Option Nat} {w0 w w' : World} (h : Fr b o w w') (hE : Ext w0 w) (hb : w0.heap.size ≤ b) (ho : ∀ k, o = some k → w0.heap.size ≤ k) : Ext w0 w' := by
  have hs := hE.size
  refine ⟨h.os.trans hE.os, h.tape.trans hE.tape, h.output.trans hE.output, Nat.le_trans hs h.size, fun k hk => ?_⟩
  rw [h.block k (Nat.lt_of_lt_of_le hk hs) (by omega) fun e => by have := ho k e.symm; omega]
  exact hE.block k hk
theorem Fr.blk {b : Nat} {o : Option Nat} {w w' : World} (h : Fr b o w w') {c : Nat} {T : TypeId} {cs : Array Value} (hB : Blk w c T cs) (hc : c ≠ b) (ho : o ≠ some c) : Blk w' c T cs := by
  unfold Blk; rw [h.block c hB.lt hc fun e => ho e.symm]; exact hB
theorem Fr.own {b : Nat} {o : Option Nat} {w w' : World} (h : Fr b o w w') {TI : TypeId} {w0 : World} {v : Value} {l : List Int} (hO : Own TI w0 w v l) (h1 : v.ownBlock ≠ some b) (h2 : v.ownBlock = none ∨ v.ownBlock ≠ o) : Own TI w0 w' v l := by
  obtain ⟨⟨hl, hr⟩, hn⟩ := hO
  refine ⟨⟨hl, ?_⟩, hn⟩
  rcases hr with hr | ⟨g, cap, cur, rfl, hg, hh, rest⟩
  · exact Or.inl hr
  · refine Or.inr ⟨g, cap, cur, rfl, hg, ?_, rest⟩
    simp [Value.ownBlock] at h1 h2
    rw [h.block g (Array.getElem?_eq_some_iff.1 hh).1 h1 h2]; exact hh
theorem run_append1F {P : Program} {T TI : TypeId} (hT : IntSl P T TI) (ty : TypeId) (w0 w : World) (v : Value) (l : List Int) (y : Int) (ad : Addr) (hO : Own TI w0 w v l) (hE : Ext w0 w) (hy : ∀ j u, [Value.int .i64 y][j]? = some u → w.cell? (ad.add j) = some u) (hn : l.length < 17592186044416) :
    ∃ v' w', (Builtin.append_ #[T, T] ty #[v, .slice (some ad) 1 1]).run P w = .ok v' w' ∧ Own TI w0 w' v' (l ++ [y]) ∧ w.grownBy w' v.ownBlock ∧ Nw v.ownBlock w v'.ownBlock := by
  obtain ⟨i, hi, hz, hs1, hby⟩ := hT.info
  have h1 := hO.1
  rcases h1.2 with ⟨rfl, hl⟩ | ⟨g, cap, cur, rfl, hg, hh, hnc, hcm, hcs, htk⟩
  · have hl' : l = [] := List.eq_nil_of_length_eq_zero hl
    subst hl'
    obtain ⟨v', w', hrun, r1, r2, -⟩ := run_append_own (P := P) w w.heap.size T ty TI i (.int .i64 0) 1 8 hT.und hi hz hs1 hby rfl (by omega) (.slice none 0 0) 0 [] (World.ownsRow_nil _ _ _ _) ad 1 1 [.int .i64 y] rfl hy (by simp [Value.oneCell']) (by unfold maxLen; omega) (by omega) (Nat.le_refl _)
    have hO' : Own TI w w' v' [y] := ⟨by simpa using r1, by simp⟩
    exact ⟨v', w', hrun, by simpa using hO'.mono hE, r2, Or.inr fun k hk => (hO'.blk k hk).1⟩
  · by_cases hroom : l.length + 1 ≤ cap
    · obtain ⟨w', hrun, r1, r2⟩ := run_append_fits (P := P) w w0.heap.size T ty TI i 1 hT.und hi hs1 g l.length cap _ h1 ad 1 1 [.int .i64 y] rfl hy (by simp [Value.oneCell']) hroom
      exact ⟨_, w', hrun, ⟨by simpa using r1, by simp; omega⟩, r2, Or.inl rfl⟩
    · obtain ⟨v', w', hrun, r1, r2⟩ := run_append_arg_grows (P := P) (w := w) T ty TI i (.int .i64 0) 1 8 hT.und hi hz hs1 hby rfl (by omega) ⟨g, 0, none⟩ l.length cap (l.map (Value.int .i64)) (by simp) (by
        intro j u hu
        have hj : j < l.length := by have := (List.getElem?_eq_some_iff.1 hu).1; simpa using this
        rw [Addr.add_lit, Nat.zero_add, World.ownsRow.cellAt h1 j (by omega)]
        simpa using hu) ad 1 1 [.int .i64 y] rfl hy (by omega) (by unfold maxLen; omega) (by omega)
      have hO' : Own TI w w' v' (l ++ [y]) := ⟨by simpa using r1, by simp; omega⟩
      exact ⟨v', w', hrun, hO'.mono hE, ⟨r2.os, r2.tape, r2.output, r2.size, fun k hk _ => r2.block k hk (by simp)⟩, Or.inr fun k hk => (hO'.blk k hk).1⟩
section
variable {P : Program} {ops : Array Oper} {rest : List Oper} {o : Oper} {a : Act} {Q : Exit → Act → World → Prop} {T TI : TypeId}
/-- append(s, y), with the row that it writes -/
theorem wp_append1F (hT : IntSl P T TI) (hg : o.guard = none) (s x : Operand) (hop : o.op = Op.call { callee := Callee.builtin Builtin.append, args := #[s, x], argTypes := #[T, T] })
    (w0 W : World) (v : Value) (l : List Int) (y : Int) (hO : Own TI w0 W v l) (hE : Ext w0 W) (hn : l.length < 17592186044416) (hs : a.eval s = v) (hx : a.eval x = .slice (some ⟨W.heap.size, 0, none⟩) 1 1)
    (hK : ∀ v' w', Own TI w0 w' v' (l ++ [y]) → W.grownBy w' v.ownBlock → Nw v.ownBlock W v'.ownBlock → wpList P ops Q rest (a.put o.dst v') w') :
    wpList P ops Q (o :: rest) a (W.alloc (.cells #[.int .i64 y] TI)) := by
  obtain ⟨v', w', hrun, h1, h2, h3⟩ := run_append1F hT o.type w0 (W.alloc (.cells #[.int .i64 y] TI)) v l y ⟨W.heap.size, 0, none⟩ (hO.alloc _) (hE.alloc _) (cell_one_new _ _ _) hn
  refine wpList_plain hg fun K hK' => ?_
  unfold Oper.wp
  simp [execOp, hop, resolve, invoke, builtin, hs, hx, hrun, Result.andThen]
  have e : Ext W (W.alloc (.cells #[.int .i64 y] TI)) := (Ext.refl W).alloc _
  refine hK' _ _ (hK v' w' h1 ⟨h2.os.trans e.os, h2.tape.trans e.tape, h2.output.trans e.output, Nat.le_trans e.size h2.size, fun k hk hne => ?_⟩ ?_)
  · rw [h2.block k (Nat.lt_of_lt_of_le hk e.size) hne]; exact e.block k hk
  · rcases h3 with h3 | h3
    · exact Or.inl h3
    · exact Or.inr fun k hk => Nat.le_trans e.size (h3 k hk)
end
end Go.Zz

/- The search for a first largest set: the program's closures. -/
namespace Go.Zz
open Go.RowKit Go.Proofs
set_option maxHeartbeats 2000000
set_option maxRecDepth 4000

/-- w' is w with new blocks, and writes to the blocks of S alone -/
structure Fw (S : Nat → Prop) (w w' : World) : Prop where
  os : w'.os = w.os
  tape : w'.tape = w.tape
  output : w'.output = w.output
  size : w.heap.size ≤ w'.heap.size
  block : ∀ k, k < w.heap.size → ¬ S k → w'.heap[k]? = w.heap[k]?
theorem Fw.refl (S : Nat → Prop) (w : World) : Fw S w w := ⟨rfl, rfl, rfl, Nat.le_refl _, fun _ _ _ => rfl⟩
theorem Fw.trans {S : Nat → Prop} {w w1 w2 : World} (h : Fw S w w1) (k : Fw S w1 w2) : Fw S w w2 :=
  ⟨k.os.trans h.os, k.tape.trans h.tape, k.output.trans h.output, Nat.le_trans h.size k.size, fun i hi hs => (k.block i (Nat.lt_of_lt_of_le hi h.size) hs).trans (h.block i hi hs)⟩
theorem Ext.fw {w w' : World} (h : Ext w w') (S : Nat → Prop) : Fw S w w' := ⟨h.os, h.tape, h.output, h.size, fun k hk _ => h.block k hk⟩
theorem fw_set {S : Nat → Prop} {b : Nat} (h : S b) (w : World) (i : Nat) (v : Value) : Fw S w (w.setCell ⟨b, i, none⟩ v) :=
  ⟨rfl, rfl, rfl, by simp, fun k _ hk => Below.heap_setCell _ _ _ _ (fun e => hk (by rw [e]; exact h))⟩
theorem Fw.ext {S : Nat → Prop} {w0 w w' : World} (h : Fw S w w') (hE : Ext w0 w) (hS : ∀ k, S k → w0.heap.size ≤ k) : Ext w0 w' := by
  have hs := hE.size
  refine ⟨h.os.trans hE.os, h.tape.trans hE.tape, h.output.trans hE.output, Nat.le_trans hs h.size, fun k hk => ?_⟩
  rw [h.block k (Nat.lt_of_lt_of_le hk hs) fun e => by have := hS k e; omega]
  exact hE.block k hk
theorem Fw.blk {S : Nat → Prop} {w w' : World} (h : Fw S w w') {c : Nat} {T : TypeId} {cs : Array Value} (hB : Blk w c T cs) (hc : ¬ S c) : Blk w' c T cs := by
  unfold Blk; rw [h.block c hB.lt hc]; exact hB
/-- three boxes of ints -/
def S3 (a b c : Nat) (k : Nat) : Prop := k = a ∨ k = b ∨ k = c

end Go.Zz

/- Slices of slices that a call makes: their length alone is told. -/
namespace Go.Zz
open Go.RowKit Go.Proofs
set_option maxHeartbeats 1000000

theorem infoV : (Tryz.prog.info? 22).map (fun i => (i.zero, i.size, i.bytes)) = some (some (.slice none 0 0), 1, 24) := by kernel_rfl
theorem undV : Tryz.prog.underlying 107 = some (.slice 22) := by kernel_rfl
theorem elV : Tryz.prog.underlying 107 = some (.slice (Tryz.prog.elem 107)) := by kernel_rfl
theorem szV : ∀ w, (Go.sizeOf (Tryz.prog.elem 107)).run Tryz.prog w = .ok 1 w := fun w => by kernel_rfl
/-- v is a slice of n slices of the call's own -/
def OwnV (w0 w : World) (v : Value) (n : Nat) : Prop :=
  ∃ L : List Value, L.length = n ∧ (∀ u ∈ L, u.oneCell' = true) ∧ w.ownsRow w0.heap.size 22 1 v n L ∧ n ≤ 1000000
theorem OwnV.blk {w0 w : World} {v : Value} {n : Nat} (h : OwnV w0 w v n) : ∀ k, v.ownBlock = some k → w0.heap.size ≤ k ∧ k < w.heap.size := by
  obtain ⟨L, -, -, h, -⟩ := h; exact h.lt
theorem OwnV.ext {w0 w w' : World} {v : Value} {n : Nat} (h : OwnV w0 w v n) (hE : Ext w w') : OwnV w0 w' v n := by
  obtain ⟨L, h1, h2, h3, h4⟩ := h
  refine ⟨L, h1, h2, h3.kept (row := none) ⟨hE.os, hE.tape, hE.output, hE.size, fun k hk _ => hE.block k hk⟩ ?_, h4⟩
  cases hv : v.ownBlock <;> simp
theorem OwnV.mono {w0 w1 w : World} {v : Value} {n : Nat} (h : OwnV w1 w v n) (hE : Ext w0 w1) : OwnV w0 w v n := by
  obtain ⟨L, h1, h2, h3, h4⟩ := h
  exact ⟨L, h1, h2, ownsRow_mono h3 hE.size, h4⟩
theorem OwnV.le {w0 w : World} {v : Value} {n : Nat} (h : OwnV w0 w v n) : n ≤ 1000000 := by obtain ⟨_, _, _, _, h⟩ := h; exact h
theorem ownV_made {w0 w : World} (hE : Ext w0 w) : OwnV w0 (w.alloc (.cells #[] 22)) (.slice (some ⟨w.heap.size, 0, none⟩) 0 0) 0 := by
  have := World.ownsRow_lit (base := w0.heap.size) (e := 22) (size := 1) w #[] 0 hE.size (by unfold maxLen; omega) (by simp)
  exact ⟨[], rfl, by simp, by simpa using this, by omega⟩
theorem ownV_one {w0 w : World} (hE : Ext w0 w) (ao : Option Addr) (n c : Nat) : OwnV w0 (w.alloc (.cells #[.slice ao n c] 22)) (.slice (some ⟨w.heap.size, 0, none⟩) 1 1) 1 := by
  have := World.ownsRow_lit (base := w0.heap.size) (e := 22) (size := 1) w #[.slice ao n c] 1 hE.size (by unfold maxLen; omega) (by simp)
  exact ⟨[.slice ao n c], rfl, by simp [Value.oneCell'], by simpa using this, by omega⟩
theorem OwnV.shape {w0 w : World} {v : Value} {n : Nat} (h : OwnV w0 w v n) :
    ∃ (ao : Option Addr) (c : Nat), v = .slice ao n c ∧ n ≤ c ∧ (∀ i, i < n → ∃ g u, ao = some ⟨g, 0, none⟩ ∧ w.cell? ⟨g, i, none⟩ = some u) := by
  obtain ⟨L, hL, -, h1, -⟩ := h
  have h2 := h1.2
  rcases h2 with ⟨rfl, hl⟩ | ⟨g, cap, cur, rfl, hg, hh, hc, r⟩
  · exact ⟨none, 0, by rw [hl], by omega, by omega⟩
  · refine ⟨some ⟨g, 0, none⟩, cap, rfl, hc, fun i hi => ⟨g, L[i]'(by omega), rfl, ?_⟩⟩
    rw [World.ownsRow.cellAt h1 i (by omega)]
    simp [show i < L.length by omega]
/-- append of m cells that are there -/
theorem run_appendA (ty : TypeId) (w0 w : World) (v : Value) (n m c : Nat) (ad : Addr) (M : List Value) (hO : OwnV w0 w v n) (hM : M.length = m) (hM1 : ∀ u ∈ M, u.oneCell' = true) (hnews : ∀ j x, M[j]? = some x → w.cell? (ad.add j) = some x) (hE : Ext w0 w) (hn : n + m ≤ 1000000) :
    ∃ v' w', (Builtin.append_ #[107, 107] ty #[v, .slice (some ad) m c]).run Tryz.prog w = .ok v' w' ∧ OwnV w0 w' v' (n + m) ∧ w.grownBy w' v.ownBlock ∧ Nw v.ownBlock w v'.ownBlock ∧ Ext w0 w' := by
  obtain ⟨i, hi, hz, hs1, hby⟩ := info_parts infoV
  obtain ⟨L, hL, hL1, hL2, -⟩ := hO
  have hblk := hL2.lt
  have hLM : ∀ u ∈ L ++ M, u.oneCell' = true := fun u hu => by
    rw [List.mem_append] at hu
    rcases hu with hu | hu
    · exact hL1 u hu
    · exact hM1 u hu
  have h2 := hL2.2
  rcases h2 with ⟨rfl, hl⟩ | ⟨g, cap, cur, rfl, hg, hh, hnc, hcm, hcs, htk⟩
  · subst hl
    have hL' : L = [] := List.eq_nil_of_length_eq_zero hL
    subst hL'
    obtain ⟨v', w', hrun, r1, r2, -⟩ := run_append_own (P := Tryz.prog) w w.heap.size 107 ty 22 i (.slice none 0 0) 1 24 undV hi hz hs1 hby rfl (by omega) (.slice none 0 0) 0 [] (World.ownsRow_nil _ _ _ _) ad m c M (by omega) hnews hM1 (by unfold maxLen; omega) (by omega) (Nat.le_refl _)
    have r1' := r1.lt
    exact ⟨v', w', hrun, ⟨M, by omega, hM1, ownsRow_mono (by simpa using r1) hE.size, by omega⟩, r2, Or.inr fun k hk => (r1' k hk).1, hE.grown r2 fun k hk => by simp [Value.ownBlock] at hk⟩
  · by_cases hroom : n + m ≤ cap
    · obtain ⟨w', hrun, r1, r2⟩ := run_append_fits (P := Tryz.prog) w w0.heap.size 107 ty 22 i 1 undV hi hs1 g n cap _ hL2 ad m c M (by omega) hnews hM1 hroom
      exact ⟨_, w', hrun, ⟨L ++ M, by rw [List.length_append]; omega, hLM, r1, by omega⟩, r2, Or.inl rfl, hE.grown r2 fun k hk => by cases hk; exact hg⟩
    · obtain ⟨v', w', hrun, r1, r2⟩ := run_append_arg_grows (P := Tryz.prog) (w := w) 107 ty 22 i (.slice none 0 0) 1 24 undV hi hz hs1 hby rfl (by omega) ⟨g, 0, none⟩ n cap L (by omega) (by
        intro j u hu
        have hj : j < L.length := (List.getElem?_eq_some_iff.1 hu).1
        rw [Addr.add_lit, Nat.zero_add, World.ownsRow.cellAt hL2 j (by omega)]
        exact hu) ad m c M (by omega) hnews (by omega) (by unfold maxLen; omega) (by omega)
      have r1' := r1.lt
      exact ⟨v', w', hrun, ⟨L ++ M, by rw [List.length_append]; omega, hLM, ownsRow_mono r1 hE.size, by omega⟩, ⟨r2.os, r2.tape, r2.output, r2.size, fun k hk _ => r2.block k hk (by simp)⟩, Or.inr fun k hk => (r1' k hk).1, hE.grown r2 (by simp)⟩
/-- append(s, t...) -/
theorem run_appendsV (ty : TypeId) (w0 w1 w : World) (v u : Value) (n m : Nat) (hO : OwnV w0 w v n) (hI : OwnV w1 w u m) (hE : Ext w0 w) (hn : n + m ≤ 1000000) :
    ∃ v' w', (Builtin.append_ #[107, 107] ty #[v, u]).run Tryz.prog w = .ok v' w' ∧ OwnV w0 w' v' (n + m) ∧ w.grownBy w' v.ownBlock ∧ Nw v.ownBlock w v'.ownBlock ∧ Ext w0 w' := by
  have hO' := hO
  obtain ⟨i, hi, hz, hs1, hby⟩ := info_parts infoV
  obtain ⟨L, hL, -, hL2, -⟩ := hO
  obtain ⟨M, hM, hM1, hM2, -⟩ := hI
  have hM3 := hM2.2
  rcases hM3 with ⟨rfl, hl⟩ | ⟨g, cap, cur, rfl, hg, hh, hc, r⟩
  · subst hl
    have hrun := run_append_owned_none (P := Tryz.prog) w w0.heap.size 107 ty 22 i 1 undV hi v n L hL2
    exact ⟨v, w, hrun, hO', ⟨rfl, rfl, rfl, Nat.le_refl _, fun _ _ _ => rfl⟩, Or.inl rfl, hE⟩
  · exact run_appendA ty w0 w v n m cap ⟨g, 0, none⟩ M hO' hM hM1 (fun j x hx => by
      have hj : j < M.length := (List.getElem?_eq_some_iff.1 hx).1
      rw [Addr.add_lit, Nat.zero_add, World.ownsRow.cellAt hM2 j (by omega)]; exact hx) hE hn
section
variable {ops : Array Oper} {rest : List Oper} {o : Oper} {a : Act} {Q : Exit → Act → World → Prop}
theorem step_appendsV {K : Act → World → Prop} {E : Prop} {w : World} (hg : o.guard = none) (s x : Operand) (hop : o.op = Op.call { callee := Callee.builtin Builtin.append, args := #[s, x], argTypes := #[107, 107] })
    (w0 w1 : World) (v u : Value) (n m : Nat) (hO : OwnV w0 w v n) (hI : OwnV w1 w u m) (hE : Ext w0 w) (hn : n + m ≤ 1000000) (hs : a.eval s = v) (hx : a.eval x = u)
    (hK : ∀ v' w', OwnV w0 w' v' (n + m) → Ext w0 w' → K (a.put o.dst v') w') :
    if Region.wanted o (yielded ops a.tmps) = true then Oper.wp Tryz.prog o a w K Q else E := by
  have hw : Region.wanted o (yielded ops a.tmps) = true := by simp [Region.wanted, hg]
  rw [if_pos hw]
  obtain ⟨v', w', hrun, h1, -, -, h2⟩ := run_appendsV o.type w0 w1 w v u n m hO hI hE hn
  unfold Oper.wp
  simp [execOp, hop, resolve, invoke, builtin, hs, hx, hrun, Result.andThen]
  exact hK v' w' h1 h2
theorem wp_appendsV (hg : o.guard = none) (s x : Operand) (hop : o.op = Op.call { callee := Callee.builtin Builtin.append, args := #[s, x], argTypes := #[107, 107] })
    (w0 w1 w : World) (v u : Value) (n m : Nat) (hO : OwnV w0 w v n) (hI : OwnV w1 w u m) (hE : Ext w0 w) (hn : n + m ≤ 1000000) (hs : a.eval s = v) (hx : a.eval x = u)
    (hK : ∀ v' w', OwnV w0 w' v' (n + m) → Ext w0 w' → wpList Tryz.prog ops Q rest (a.put o.dst v') w') :
    wpList Tryz.prog ops Q (o :: rest) a w := by
  obtain ⟨v', w', hrun, h1, -, -, h2⟩ := run_appendsV o.type w0 w1 w v u n m hO hI hE hn
  refine wpList_plain hg fun K hK' => ?_
  unfold Oper.wp
  simp [execOp, hop, resolve, invoke, builtin, hs, hx, hrun, Result.andThen]
  exact hK' _ _ (hK v' w' h1 h2)
/-- append(s, y) -/
theorem wp_append1V (hg : o.guard = none) (s x : Operand) (hop : o.op = Op.call { callee := Callee.builtin Builtin.append, args := #[s, x], argTypes := #[107, 107] })
    (w0 W : World) (v : Value) (n : Nat) (ao : Option Addr) (k c : Nat) (hO : OwnV w0 W v n) (hE : Ext w0 W) (hn : n < 1000000) (hs : a.eval s = v) (hx : a.eval x = .slice (some ⟨W.heap.size, 0, none⟩) 1 1)
    (hK : ∀ v' w', OwnV w0 w' v' (n + 1) → W.grownBy w' v.ownBlock → Nw v.ownBlock W v'.ownBlock → wpList Tryz.prog ops Q rest (a.put o.dst v') w') :
    wpList Tryz.prog ops Q (o :: rest) a (W.alloc (.cells #[.slice ao k c] 22)) := by
  have e : Ext W (W.alloc (.cells #[.slice ao k c] 22)) := (Ext.refl W).alloc _
  obtain ⟨v', w', hrun, h1, h2, h3, -⟩ := run_appendA o.type w0 (W.alloc (.cells #[.slice ao k c] 22)) v n 1 1 ⟨W.heap.size, 0, none⟩ [.slice ao k c] (hO.ext e) rfl (by simp [Value.oneCell']) (cell_one_new _ _ _) (hE.alloc _) (by omega)
  refine wpList_plain hg fun K hK' => ?_
  unfold Oper.wp
  simp [execOp, hop, resolve, invoke, builtin, hs, hx, hrun, Result.andThen]
  refine hK' _ _ (hK v' w' h1 ⟨h2.os.trans e.os, h2.tape.trans e.tape, h2.output.trans e.output, Nat.le_trans e.size h2.size, fun k hk hne => ?_⟩ ?_)
  · rw [h2.block k (Nat.lt_of_lt_of_le hk e.size) hne]; exact e.block k hk
  · rcases h3 with h3 | h3
    · exact Or.inl h3
    · exact Or.inr fun k hk => Nat.le_trans e.size (h3 k hk)
/-- append(s, y), as a step of a region that draws -/
theorem step_append1V {K : Act → World → Prop} {E : Prop} {w : World} (hg : o.guard = none) (s x : Operand) (hop : o.op = Op.call { callee := Callee.builtin Builtin.append, args := #[s, x], argTypes := #[107, 107] })
    (w0 : World) (v : Value) (n g : Nat) (ao : Option Addr) (k c : Nat) (hs : a.eval s = v) (hx : a.eval x = .slice (some ⟨g, 0, none⟩) 1 1) (hB : Blk w g 22 #[.slice ao k c]) (hO : OwnV w0 w v n) (hE : Ext w0 w) (hn : n < 1000000)
    (hK : ∀ v' w', OwnV w0 w' v' (n + 1) → w.grownBy w' v.ownBlock → Nw v.ownBlock w v'.ownBlock → K (a.put o.dst v') w') :
    if Region.wanted o (yielded ops a.tmps) = true then Oper.wp Tryz.prog o a w K Q else E := by
  have hw : Region.wanted o (yielded ops a.tmps) = true := by simp [Region.wanted, hg]
  rw [if_pos hw]
  obtain ⟨v', w', hrun, h1, h2, h3, -⟩ := run_appendA o.type w0 w v n 1 1 ⟨g, 0, none⟩ [.slice ao k c] hO rfl (by simp [Value.oneCell']) (fun j u hu => by
    have hj : j < 1 := by have := (List.getElem?_eq_some_iff.1 hu).1; simpa using this
    have e0 : j = 0 := by omega
    subst e0
    rw [Addr.add_lit, Nat.zero_add]
    exact hB.cell (i := 0) (by simpa using hu)) hE (by omega)
  unfold Oper.wp
  simp [execOp, hop, resolve, invoke, builtin, hs, hx, hrun, Result.andThen]
  exact hK v' w' h1 h2 h3
end
end Go.Zz

/- Solutions of an equation: the program's closure try. -/
namespace Go.Zz
open Go.RowKit Go.Proofs
set_option maxHeartbeats 2000000
set_option maxRecDepth 8000

/-- the row of m numbers, of which the first are those of X -/
def RowX (bR m : Nat) (X : List Nat) (w : World) : Prop := ∃ Z : List Int, Z.length = m ∧ Z.take X.length = castL X ∧ Blk w bR 3 (Z.map (Value.int .i64)).toArray
theorem RowX.ext {bR m : Nat} {X : List Nat} {w w' : World} (h : RowX bR m X w) (hE : Ext w w') : RowX bR m X w' := by
  obtain ⟨Z, h1, h2, h3⟩ := h; exact ⟨Z, h1, h2, h3.ext hE⟩
theorem RowX.free {bR m : Nat} {X : List Nat} {w : World} (h : RowX bR m X w) (i : Nat) : w.frozen? ⟨bR, i, none⟩ = false := by
  obtain ⟨Z, h1, h2, h3⟩ := h; exact h3.free i
theorem RowX.has {bR m : Nat} {X : List Nat} {w : World} (h : RowX bR m X w) {i : Nat} (hi : i < m) : ∃ v, w.cell? ⟨bR, i, none⟩ = some v := by
  obtain ⟨Z, h1, h2, h3⟩ := h; exact ⟨.int .i64 (nth Z i), h3.cell (i := i) (by simp [nth, List.getD, show i < Z.length by omega])⟩
theorem RowX.set {bR m : Nat} {X : List Nat} {w : World} (h : RowX bR m X w) (hX : X.length < m) (y : Nat) : RowX bR m (X ++ [y]) (w.setCell ⟨bR, X.length, none⟩ (.int .i64 (y : Int))) := by
  obtain ⟨Z, h1, h2, h3⟩ := h
  refine ⟨Z.set X.length (y : Int), by simpa using h1, ?_, ?_⟩
  · rw [List.length_append, List.length_singleton, castL_snoc, ← h2, List.take_succ_eq_append_getElem (by simp; omega)]
    simp [List.take_set_of_le]
  · have := h3.set X.length (.int .i64 (y : Int))
    simpa [List.map_set] using this
theorem RowX.back {bR m : Nat} {X : List Nat} {w : World} {y : Nat} (h : RowX bR m (X ++ [y]) w) : RowX bR m X w := by
  obtain ⟨Z, h1, h2, h3⟩ := h
  refine ⟨Z, h1, ?_, h3⟩
  have := congrArg (List.take X.length) h2
  rw [List.take_take, castL_snoc] at this
  simp at this
  rw [this]
  have e : (castL X).length = X.length := castL_len X
  rw [← e]; simp
theorem RowX.ints {bR m : Nat} {X : List Nat} {w : World} (h : RowX bR m X w) (hX : X.length = m) (hm : m ≤ 1000) : Ints w (.slice (some ⟨bR, 0, none⟩) m m) (castL X) := by
  obtain ⟨Z, h1, h2, h3⟩ := h
  have hZ : Z = castL X := by rw [← h2, List.take_of_length_le (by omega)]
  subst hZ
  refine ⟨_, m, by rw [h1], by omega, by omega, fun i hi => ⟨_, rfl, ?_⟩⟩
  rw [Addr.add_lit, Nat.zero_add]
  exact h3.cell (i := i) (by simp [nth, List.getD, hi])
end Go.Zz

/- SolutionsIn of the program. -/
namespace Go.Zz
open Go.RowKit Go.Proofs
set_option maxHeartbeats 2000000
set_option maxRecDepth 8000

theorem OwnV.set_ne {w0 w : World} {v : Value} {n : Nat} (h : OwnV w0 w v n) {b i : Nat} (hp : v.ownBlock ≠ some b) (u : Value) : OwnV w0 (w.setCell ⟨b, i, none⟩ u) v n := by
  obtain ⟨L, h1, h2, h3, h4⟩ := h
  refine ⟨L, h1, h2, ⟨h3.1, ?_⟩, h4⟩
  rcases h3.2 with h | ⟨g, cap, cur, rfl, hg, hh, rest⟩
  · exact Or.inl h
  · refine Or.inr ⟨g, cap, cur, rfl, hg, ?_, rest⟩
    simp [Value.ownBlock] at hp
    rw [Below.heap_setCell _ _ _ _ (fun e => hp e)]; exact hh
theorem OwnV.not {T : TypeId} {w0 w : World} {v : Value} {n : Nat} (h : OwnV w0 w v n) {g : Nat} {cs : Array Value} (hB : Blk w g T cs) (hT : T ≠ 22) : v.ownBlock ≠ some g := fun e => by
  obtain ⟨L, -, -, h1, -⟩ := h
  rcases h1.2 with ⟨rfl, _⟩ | ⟨g', cap, cur, rfl, _, hh, _⟩
  · cases e
  · simp [Value.ownBlock] at e
    subst e
    have hB' : w.heap[g']? = some (.cells cs T (0, 0)) := hB
    rw [hB'] at hh
    simp at hh
    exact hT hh.2
theorem ExtGo {w w1 w2 : World} {o : Option Nat} (e : Ext w w1) (hg : w1.grownBy w2 o) : w.grownBy w2 o := by
  exact ⟨hg.os.trans e.os, hg.tape.trans e.tape, hg.output.trans e.output, Nat.le_trans e.size hg.size, fun i hi hne => by rw [hg.block i (Nat.lt_of_lt_of_le hi e.size) hne]; exact e.block i hi⟩
/-- a made row as a block -/
theorem own_blk {w0 w : World} {g n : Nat} {l : List Int} (h : Own 3 w0 w (.slice (some ⟨g, 0, none⟩) n n) l) (hn : l.length = n) (h0 : 0 < n) : Blk w g 3 (l.map (Value.int .i64)).toArray := by
  obtain ⟨⟨h1, h2⟩, -⟩ := h
  rcases h2 with ⟨hv, -⟩ | ⟨g', cap, cur, hv, hg, hh, hnc, hcm, hcs, htk⟩
  · simp at hv
  · simp only [Value.slice.injEq, Option.some.injEq, Addr.mk.injEq, and_true] at hv
    obtain ⟨rfl, -, rfl⟩ := hv
    have e : cur = (l.map (Value.int .i64)).toArray := by
      apply Array.toList_inj.1
      rw [← htk, List.take_of_length_le (by simp [hcs]; omega)]
    rw [← e]; exact hh
theorem row_made {w : World} {g m : Nat} (h : Blk w g 3 ((List.replicate m (0 : Int)).map (Value.int .i64)).toArray) : RowX g m [] w := ⟨List.replicate m 0, by simp, by simp [castL], h⟩
end Go.Zz
