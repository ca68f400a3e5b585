/- Factorizations into atoms: plain. -/
import Derived.Test.YtdlbbpeahicakaaGreatGr12
import Derived.Test.YtdlbbpeahicakaaGreatGr13
import Derived.Test.YtdlbbpeahicakaaGreatGr11
namespace Go.Zz
set_option linter.unusedVariables false
set_option maxHeartbeats 2000000
set_option maxRecDepth 100000

/-- what is left behind a part -/
def remL (R : List Int) (a : List Nat) : List Int := a.foldl (fun (T : List Int) (x : Nat) => dropLast1 (x : Int) T) R
theorem drop1_len {x : Int} {R : List Int} (h : x ∈ R) : (dropLast1 x R).length + 1 = R.length := by
  unfold dropLast1
  rw [List.length_reverse, List.length_erase_of_mem (by simpa using h), List.length_reverse]
  have := List.length_pos_of_mem h
  omega
theorem rem_len : ∀ (a : List Nat) (R : List Int), subM R (castL a) = true → (remL R a).length + a.length = R.length
  | [], R, _ => rfl
  | x :: a, R, h => by
    by_cases hx : (x : Int) ∈ R
    · have h2 : subM (dropLast1 (x : Int) R) (castL a) = true := by
        rw [show castL (x :: a) = (x : Int) :: castL a from rfl, subM_yes hx] at h; exact h
      have := rem_len a _ h2
      have := drop1_len hx
      show (remL (dropLast1 (x : Int) R) a).length + (a.length + 1) = R.length
      omega
    · rw [show castL (x :: a) = (x : Int) :: castL a from rfl, subM_no hx] at h; cases h
theorem rem_count : ∀ (a : List Nat) (R : List Int), subM R (castL a) = true → ∀ y : Nat, (remL R a).count (y : Int) + a.count y = R.count (y : Int)
  | [], R, _, y => rfl
  | x :: a, R, h, y => by
    by_cases hx : (x : Int) ∈ R
    · have h2 : subM (dropLast1 (x : Int) R) (castL a) = true := by
        rw [show castL (x :: a) = (x : Int) :: castL a from rfl, subM_yes hx] at h; exact h
      have e := rem_count a _ h2 y
      rw [count_drop1 _ _ _ hx] at e
      show (remL (dropLast1 (x : Int) R) a).count (y : Int) + (x :: a).count y = R.count (y : Int)
      have h3 : 0 < R.count (x : Int) := List.count_pos_iff.2 hx
      rw [List.count_cons]
      by_cases q : x = y
      · subst q; simp at e ⊢; omega
      · have q2 : ¬ (x : Int) = (y : Int) := by omega
        rw [if_neg q2] at e
        simp [q]; omega
    · rw [show castL (x :: a) = (x : Int) :: castL a from rfl, subM_no hx] at h; cases h
theorem rem_mem {a : List Nat} {R : List Int} {y : Int} (h : y ∈ remL R a) : y ∈ R := by
  unfold remL at h
  induction a generalizing R with
  | nil => exact h
  | cons x a ih =>
    have := ih (R := dropLast1 (x : Int) R) h
    unfold dropLast1 at this
    rw [List.mem_reverse] at this
    have := List.mem_of_mem_erase this
    simpa using this
/-- the lengths of the factorizations, in the order of the search -/
def facF (A : List (List Nat)) : Nat → Nat → List Int → List Nat
  | 0, _, _ => []
  | f + 1, i0, R => if R.length = 0 then [0] else (List.range A.length).foldl (fun (o : List Nat) (i : Nat) => if i < i0 then o else if subM R (castL (A.getD i [])) then o ++ (facF A f i (remL R (A.getD i []))).map (· + 1) else o) []
def facK (A : List (List Nat)) (f i0 : Nat) (R : List Int) (k : Nat) : List Nat := (List.range k).foldl (fun (o : List Nat) (i : Nat) => if i < i0 then o else if subM R (castL (A.getD i [])) then o ++ (facF A f i (remL R (A.getD i []))).map (· + 1) else o) []
theorem facF_zero {A : List (List Nat)} {f i0 : Nat} {R : List Int} (h : R.length = 0) : facF A (f + 1) i0 R = [0] := by unfold facF; rw [if_pos h]
theorem facF_end {A : List (List Nat)} {f i0 : Nat} {R : List Int} (h : R.length ≠ 0) : facF A (f + 1) i0 R = facK A f i0 R A.length := by
  conv => lhs; unfold facF
  rw [if_neg h]; rfl
theorem facK_succ (A : List (List Nat)) (f i0 : Nat) (R : List Int) (k : Nat) : facK A f i0 R (k + 1) = (if k < i0 then facK A f i0 R k else if subM R (castL (A.getD k [])) then facK A f i0 R k ++ (facF A f k (remL R (A.getD k []))).map (· + 1) else facK A f i0 R k) := by
  unfold facK; rw [List.range_succ, List.foldl_append]; rfl
theorem facK_start (A : List (List Nat)) (f i0 : Nat) (R : List Int) : ∀ k, k ≤ i0 → facK A f i0 R k = []
  | 0, _ => rfl
  | k + 1, hk => by rw [facK_succ, if_pos (by omega), facK_start A f i0 R k (by omega)]
theorem facK_no {A : List (List Nat)} {f i0 : Nat} {R : List Int} {k : Nat} (h : subM R (castL (A.getD k [])) = false) : facK A f i0 R (k + 1) = facK A f i0 R k := by
  rw [facK_succ, h]; split <;> rfl
theorem facK_yes {A : List (List Nat)} {f i0 : Nat} {R : List Int} {k : Nat} (hk : i0 ≤ k) (h : subM R (castL (A.getD k [])) = true) : facK A f i0 R (k + 1) = facK A f i0 R k ++ (facF A f k (remL R (A.getD k []))).map (· + 1) := by
  rw [facK_succ, if_neg (by omega), if_pos h]
theorem facK_mono (A : List (List Nat)) (f i0 : Nat) (R : List Int) (k : Nat) : ∀ d, (facK A f i0 R k).length ≤ (facK A f i0 R (k + d)).length
  | 0 => Nat.le_refl _
  | d + 1 => by
    refine Nat.le_trans (facK_mono A f i0 R k d) ?_
    rw [← Nat.add_assoc, facK_succ]
    split
    · exact Nat.le_refl _
    · split
      · rw [List.length_append]; omega
      · exact Nat.le_refl _
theorem getD_in {A : List (List Nat)} {k : Nat} (h : k < A.length) : A.getD k [] ∈ A := by
  rw [List.getD_eq_getElem?_getD, List.getElem?_eq_getElem h]; exact List.getElem_mem h
theorem facF_le {A : List (List Nat)} (hA : A.length ≤ 48) (h1 : ∀ a ∈ A, 1 ≤ a.length) : ∀ f i0 R, (facF A f i0 R).length ≤ 48 ^ R.length := by
  intro f
  induction f with
  | zero => intro i0 R; simp [facF]
  | succ f ih =>
    intro i0 R
    by_cases h : R.length = 0
    · rw [facF_zero h, h]; simp
    · rw [facF_end h]
      obtain ⟨n, hn⟩ : ∃ n, R.length = n + 1 := ⟨R.length - 1, by omega⟩
      have key : ∀ k, k ≤ A.length → (facK A f i0 R k).length ≤ k * 48 ^ n := by
        intro k
        induction k with
        | zero => intro _; rw [facK_start A f i0 R 0 (by omega)]; simp
        | succ k ihk =>
          intro hk
          have h0 := ihk (by omega)
          have hp : 0 < 48 ^ n := Nat.pow_pos (by decide)
          rw [facK_succ, Nat.succ_mul]
          split
          · omega
          · split
            · next hs =>
              have h2 := ih k (remL R (A.getD k []))
              have h3 := rem_len _ _ hs
              have h4 := h1 _ (getD_in (by omega : k < A.length))
              have h5 : 48 ^ (remL R (A.getD k [])).length ≤ 48 ^ n := Nat.pow_le_pow_right (by decide) (by omega)
              rw [List.length_append, List.length_map]
              omega
            · omega
      have := key A.length (Nat.le_refl _)
      rw [hn, Nat.pow_succ, Nat.mul_comm]
      exact Nat.le_trans this (Nat.mul_le_mul_right _ hA)
theorem facF_vals (A : List (List Nat)) (h1 : ∀ a ∈ A, 1 ≤ a.length) : ∀ f i0 R, ∀ x ∈ facF A f i0 R, x ≤ R.length := by
  intro f
  induction f with
  | zero => intro i0 R x hx; simp [facF] at hx
  | succ f ih =>
    intro i0 R x hx
    by_cases h : R.length = 0
    · rw [facF_zero h, List.mem_singleton] at hx; omega
    · rw [facF_end h] at hx
      have key : ∀ k, k ≤ A.length → ∀ x ∈ facK A f i0 R k, x ≤ R.length := by
        intro k
        induction k with
        | zero => intro _ x hx; rw [facK_start A f i0 R 0 (by omega)] at hx; cases hx
        | succ k ihk =>
          intro hk x hx
          rw [facK_succ] at hx
          split at hx
          · exact ihk (by omega) x hx
          · split at hx
            · next hs =>
              rw [List.mem_append, List.mem_map] at hx
              rcases hx with hx | ⟨y, hy, rfl⟩
              · exact ihk (by omega) x hx
              · have := ih _ _ y hy
                have h3 := rem_len _ _ hs
                have h4 := h1 _ (getD_in (by omega : k < A.length))
                omega
            · exact ihk (by omega) x hx
      exact key A.length (Nat.le_refl _) x hx

/-! ### the terms that are left, as numbers -/
def tkS (C : List Int) (k : Int) (a : List Nat) : List Int := a.foldl (fun (C : List Int) (x : Nat) => C.set x (nth C x - k)) C
def tkB (C : List Int) (k : Int) (a : List Nat) : Bool := (List.range a.length).all fun j => decide (0 ≤ nth (tkS C k (a.take (j + 1))) (nthN a j))
theorem tkS_snoc (C : List Int) (k : Int) (a : List Nat) (x : Nat) : tkS C k (a ++ [x]) = (tkS C k a).set x (nth (tkS C k a) x - k) := by unfold tkS; rw [List.foldl_append]; rfl
theorem tkS_len (C : List Int) (k : Int) : ∀ a : List Nat, (tkS C k a).length = C.length := by
  intro a
  unfold tkS
  induction a generalizing C with
  | nil => rfl
  | cons x a ih => rw [List.foldl_cons, ih, List.length_set]
theorem nth_setI {C : List Int} {x : Nat} {v : Int} (hx : x < C.length) (y : Nat) : nth (C.set x v) y = if x = y then v else nth C y := by
  unfold nth
  rw [List.getD_eq_getElem?_getD, List.getD_eq_getElem?_getD, List.getElem?_set]
  by_cases e : x = y
  · subst e; simp [hx]
  · simp [e]
theorem tkS_nth (C : List Int) (k : Int) (a : List Nat) (ha : ∀ x ∈ a, x < C.length) (y : Nat) : nth (tkS C k a) y = nth C y - k * (a.count y : Nat) := by
  unfold tkS
  induction a generalizing C with
  | nil => simp
  | cons x a ih =>
    rw [List.foldl_cons, ih _ (fun z hz => by rw [List.length_set]; exact ha z (by simp [hz])), nth_setI (ha x (by simp)), List.count_cons]
    by_cases e : x = y
    · subst e
      simp only [if_true, beq_self_eq_true]
      rw [Int.natCast_add, Int.mul_add]; simp; omega
    · have : (x == y) = false := by simpa using e
      rw [if_neg e, this]; simp
theorem tkS_back (C : List Int) (a : List Nat) (ha : ∀ x ∈ a, x < C.length) : tkS (tkS C 1 a) (-1) a = C := by
  apply ext_nth
  · rw [tkS_len, tkS_len]
  · intro i hi
    rw [tkS_nth _ _ _ (fun x hx => by rw [tkS_len]; exact ha x hx), tkS_nth _ _ _ ha]
    omega
theorem count_take_le (a : List Nat) (x j : Nat) : (a.take j).count x ≤ a.count x := List.Sublist.count_le x (List.take_sublist j a)
theorem tkB_iff {C : List Int} {a : List Nat} (ha : ∀ x ∈ a, x < C.length) : tkB C 1 a = true ↔ ∀ x ∈ a, (a.count x : Int) ≤ nth C x := by
  unfold tkB
  simp only [List.all_eq_true, List.mem_range, decide_eq_true_eq]
  constructor
  · intro H x hx
    -- the last place of x
    have key : ∀ j, j ≤ a.length → (a.take j).count x = 0 ∨ ((a.take j).count x : Int) ≤ nth C x := by
      intro j
      induction j with
      | zero => intro _; left; simp
      | succ j ih =>
        intro hj
        have hh := H j (by omega)
        rw [tkS_nth _ _ _ (fun z hz => ha z (List.mem_of_mem_take hz))] at hh
        have e : a.take (j + 1) = a.take j ++ [nthN a j] := take_nthN a j (by omega)
        by_cases q : nthN a j = x
        · right; rw [q] at hh; omega
        · rw [e, List.count_append, List.count_singleton]
          have : (nthN a j == x) = false := by simpa using q
          rw [this]; simpa using ih (by omega)
    rcases key a.length (Nat.le_refl _) with h | h
    · rw [List.take_length] at h
      have := List.count_pos_iff.2 hx; omega
    · rwa [List.take_length] at h
  · intro H j hj
    rw [tkS_nth _ _ _ (fun z hz => ha z (List.mem_of_mem_take hz))]
    have h1 := H _ (nthN_mem hj)
    have h2 := count_take_le a (nthN a j) (j + 1)
    omega
/-- the numbers of the terms of a sequence -/
def CntOf (n : Nat) (C : List Int) (R : List Int) : Prop := C.length = n ∧ ∀ x, x < n → nth C x = (R.count (x : Int) : Nat)
theorem castL_count (a : List Nat) (x : Nat) : (castL a).count (x : Int) = a.count x := by
  unfold castL
  induction a with
  | nil => rfl
  | cons y a ih =>
    rw [List.map_cons, List.count_cons, List.count_cons, ih]
    congr 1
    by_cases e : y = x
    · subst e; simp
    · have : ¬ (y : Int) = (x : Int) := by omega
      simp [e, this]
theorem sub_nat {R : List Int} {a : List Nat} : subM R (castL a) = true ↔ ∀ x ∈ a, a.count x ≤ R.count (x : Int) := by
  rw [subM_iff]
  constructor
  · intro H x _; rw [← castL_count]; exact H _
  · intro H x
    by_cases hx : x ∈ castL a
    · obtain ⟨y, hy, rfl⟩ := List.mem_map.1 hx
      rw [castL_count]; exact H y hy
    · rw [List.count_eq_zero.2 hx]; exact Nat.zero_le _
theorem tk_sub {n : Nat} {C R : List Int} {a : List Nat} (h : CntOf n C R) (ha : ∀ x ∈ a, x < n) : tkB C 1 a = subM R (castL a) := by
  obtain ⟨h1, h2⟩ := h
  rw [Bool.eq_iff_iff, tkB_iff (by rw [h1]; exact ha), sub_nat]
  constructor
  · intro H x hx; have := H x hx; rw [h2 x (ha x hx)] at this; omega
  · intro H x hx; have := H x hx; rw [h2 x (ha x hx)]; omega
theorem tk_cnt {n : Nat} {C R : List Int} {a : List Nat} (h : CntOf n C R) (ha : ∀ x ∈ a, x < n) (hs : subM R (castL a) = true) : CntOf n (tkS C 1 a) (remL R a) := by
  obtain ⟨h1, h2⟩ := h
  refine ⟨by rw [tkS_len]; exact h1, fun x hx => ?_⟩
  rw [tkS_nth _ _ _ (by rw [h1]; exact ha), h2 x hx]
  have := rem_count a R hs x
  omega

/-! ### the different lengths, ascending -/
def lensL (T : List Nat) : List Nat := putTo T T.length
theorem pkN_spec (L : List Nat) (n : Nat) : ∀ k, k ≤ L.length → (∀ j, pkN L n k ≤ j → j < k → n < nthN L j) ∧ (0 < pkN L n k → ¬ n < nthN L (pkN L n k - 1))
  | 0, _ => ⟨fun j h1 h2 => by omega, fun h => by simp [pkN] at h⟩
  | k + 1, hk => by
    obtain ⟨h1, h2⟩ := pkN_spec L n k (by omega)
    by_cases h : n < nthN L k
    · rw [pkN_down h]
      refine ⟨fun j p1 p2 => ?_, h2⟩
      by_cases q : j = k
      · rw [q]; exact h
      · exact h1 j p1 (by omega)
    · rw [pkN_stop h]
      exact ⟨fun j p1 p2 => by omega, fun _ => by simpa using h⟩
theorem putN_asc {L : List Nat} {n : Nat} (h : L.Pairwise (· < ·)) : (putN L n).Pairwise (· < ·) := by
  unfold putN
  split
  · exact h
  · next hne =>
    obtain ⟨h1, h2⟩ := pkN_spec L n L.length (Nat.le_refl _)
    have hle := pkN_le L n L.length
    generalize pkN L n L.length = k at h1 h2 hle hne
    have hhi : ∀ y ∈ L.drop k, n < y := by
      intro y hy
      obtain ⟨i, hi, rfl⟩ := List.getElem_of_mem hy
      rw [List.length_drop] at hi
      have := h1 (k + i) (by omega) (by omega)
      simpa [nthN, List.getD, show k + i < L.length by omega] using this
    have hlo : ∀ y ∈ L.take k, y < n := by
      intro y hy
      obtain ⟨i, hi, rfl⟩ := List.getElem_of_mem hy
      rw [List.length_take] at hi
      have q := h2 (by omega)
      have q1 : nthN L (k - 1) < n := by
        rcases Nat.lt_or_ge (nthN L (k - 1)) n with q2 | q2
        · exact q2
        · exact absurd ⟨by omega, by omega⟩ hne
      by_cases e : i = k - 1
      · subst e; simpa [nthN, List.getD, show k - 1 < L.length by omega] using q1
      · have q3 := List.pairwise_iff_getElem.1 h i (k - 1) (by omega) (by omega) (by omega)
        simp only [List.getElem_take]
        have q4 : nthN L (k - 1) = L[k - 1]'(by omega) := by simp [nthN, List.getD, show k - 1 < L.length by omega]
        omega
    unfold putAt
    rw [List.pairwise_append]
    refine ⟨h.sublist (List.take_sublist _ _), ?_, ?_⟩
    · rw [List.pairwise_cons]; exact ⟨hhi, h.sublist (List.drop_sublist _ _)⟩
    · intro a ha b hb
      rw [List.mem_cons] at hb
      rcases hb with rfl | hb
      · exact hlo a ha
      · have := hlo a ha; have := hhi b hb; omega
theorem putTo_spec (T : List Nat) : ∀ k, k ≤ T.length → (putTo T k).Pairwise (· < ·) ∧ ∀ x, x ∈ putTo T k ↔ x ∈ T.take k
  | 0, _ => by simp [putTo]
  | k + 1, hk => by
    obtain ⟨h1, h2⟩ := putTo_spec T k (by omega)
    refine ⟨putN_asc h1, fun x => ?_⟩
    show x ∈ putN (putTo T k) (nthN T k) ↔ _
    rw [mem_putN, take_nthN T k (by omega), List.mem_append, List.mem_singleton, h2 x]
    exact Or.comm
theorem lens_asc (T : List Nat) : (lensL T).Pairwise (· < ·) := (putTo_spec T _ (Nat.le_refl _)).1
theorem lens_mem (T : List Nat) (x : Nat) : x ∈ lensL T ↔ x ∈ T := by
  have := (putTo_spec T _ (Nat.le_refl _)).2 x
  rwa [List.take_length] at this
/-- an ascending list is told by what it holds -/
theorem asc_one : ∀ {A B : List Int}, (∀ x, x ∈ A ↔ x ∈ B) → A.Pairwise (· < ·) → B.Pairwise (· < ·) → A = B
  | [], [], _, _, _ => rfl
  | [], b :: B, h, _, _ => by have := (h b).2 (by simp); cases this
  | a :: A, [], h, _, _ => by have := (h a).1 (by simp); cases this
  | a :: A, b :: B, h, hA, hB => by
    rw [List.pairwise_cons] at hA hB
    have e : a = b := by
      have h1 := (h a).1 (by simp)
      have h2 := (h b).2 (by simp)
      rw [List.mem_cons] at h1 h2
      rcases h1 with h1 | h1
      · exact h1
      · rcases h2 with h2 | h2
        · exact h2.symm
        · have := hA.1 b h2; have := hB.1 a h1; omega
    subst e
    congr 1
    refine asc_one (fun x => ?_) hA.2 hB.2
    have := h x
    rw [List.mem_cons, List.mem_cons] at this
    constructor
    · intro hx
      rcases this.1 (Or.inr hx) with e | e
      · subst e; have := hA.1 x hx; omega
      · exact e
    · intro hx
      rcases this.2 (Or.inr hx) with e | e
      · subst e; have := hB.1 x hx; omega
      · exact e
end Go.Zz

/- How many factorizations there are: plain. -/
namespace Go.Zz
set_option linter.unusedVariables false
set_option maxHeartbeats 2000000
set_option maxRecDepth 100000

/-- the first atom is 0 alone, all others have two terms or more and no 0 -/
def headB (A : List (List Nat)) : Bool := decide (A.getD 0 [] = [0]) && (decide (1 ≤ A.length) && (A.drop 1).all fun a => decide (2 ≤ a.length) && a.all fun x => decide (x ≠ 0))
theorem hc0 : headB (atS []) = true := by decide +kernel
theorem hc1 : ((List.range 8).all fun a => decide (a < 2) || headB (atS [(a : Int)])) = true := by decide +kernel
theorem hc2 : ((List.range 8).all fun a => decide (a < 2) || (List.range 8).all fun b => decide (b < 2) || (decide (7 < a * b) || headB (atS [(a : Int), (b : Int)]))) = true := by decide +kernel
theorem head_chk {l : List Int} (h : isGrp l = true) (h7 : ord l ≤ 7) : headB (atS l) = true := by
  have hc := ord_cast h
  obtain ⟨h3, hn, hp⟩ := (isGrp_iff l).1 h
  have hp : prodL l ≤ 7 := by omega
  clear hc
  match l, h3, hn, hp with
  | [], _, _, _ => exact hc0
  | [a], _, hn, hp =>
    have h0 : 2 ≤ a ∧ a ≤ 24 := hn 0 (by simp)
    have hp : a ≤ 7 := by simpa [prodL] using hp
    have := or_elimS (rgS hc1 (a := a.toNat) (by omega)) (by omega)
    rwa [show ((a.toNat : Nat) : Int) = a by omega] at this
  | [a, b], _, hn, hp =>
    have h0 : 2 ≤ a ∧ a ≤ 24 := hn 0 (by simp)
    have h1 : 2 ≤ b ∧ b ≤ 24 := hn 1 (by simp)
    have hpr : a * b ≤ 7 := by simpa [prodL] using hp
    have e : ((a.toNat * b.toNat : Nat) : Int) = a * b := by rw [Int.natCast_mul]; congr 1 <;> omega
    have q1 : a * 2 ≤ a * b := Int.mul_le_mul_of_nonneg_left h1.1 (by omega)
    have q2 : 2 * b ≤ a * b := Int.mul_le_mul_of_nonneg_right h0.1 (by omega)
    have := or_elimS (or_elimS (rgS (or_elimS (rgS hc2 (a := a.toNat) (by omega)) (by omega)) (a := b.toNat) (by omega)) (by omega)) (by omega)
    rwa [show ((a.toNat : Nat) : Int) = a by omega, show ((b.toNat : Nat) : Int) = b by omega] at this
  | [a, b, c], _, hn, hp =>
    have h0 : 2 ≤ a ∧ a ≤ 24 := hn 0 (by simp)
    have h1 : 2 ≤ b ∧ b ≤ 24 := hn 1 (by simp)
    have h2 : 2 ≤ c ∧ c ≤ 24 := hn 2 (by simp)
    have hpr : a * b * c ≤ 7 := by rw [Int.mul_assoc]; simpa [prodL] using hp
    have q0 : 2 * 2 ≤ a * b := Int.mul_le_mul h0.1 h1.1 (by omega) (by omega)
    have q1 : a * b * 2 ≤ a * b * c := Int.mul_le_mul_of_nonneg_left h2.1 (by omega)
    omega
  | _ :: _ :: _ :: _ :: _, h3, _, _ => simp at h3
structure HdA (A : List (List Nat)) : Prop where
  one : 1 ≤ A.length
  first : A.getD 0 [] = [0]
  more : ∀ k, 1 ≤ k → k < A.length → 2 ≤ (A.getD k []).length ∧ (A.getD k []).count 0 = 0
theorem hdA_of {A : List (List Nat)} (h : headB A = true) : HdA A := by
  unfold headB at h
  rw [Bool.and_eq_true, Bool.and_eq_true, decide_eq_true_eq, decide_eq_true_eq, List.all_eq_true] at h
  refine ⟨h.2.1, h.1, fun k h1 h2 => ?_⟩
  have hm : A.getD k [] ∈ A.drop 1 := by
    rw [List.getD_eq_getElem?_getD, List.getElem?_eq_getElem h2, Option.getD_some]
    refine List.mem_iff_getElem.2 ⟨k - 1, by rw [List.length_drop]; omega, ?_⟩
    rw [List.getElem_drop]
    congr 1; omega
  have := h.2.2 _ hm
  rw [Bool.and_eq_true, decide_eq_true_eq, List.all_eq_true] at this
  refine ⟨this.1, List.count_eq_zero.2 fun h0 => ?_⟩
  have := this.2 0 h0
  simp at this
theorem fac_none {A : List (List Nat)} (hA : HdA A) : ∀ f i0 R, 1 ≤ i0 → 0 < R.count (0 : Int) → facF A f i0 R = [] := by
  intro f
  induction f with
  | zero => intro i0 R _ _; rfl
  | succ f ih =>
    intro i0 R h1 h0
    have hne : R.length ≠ 0 := by have := List.count_le_length (a := (0 : Int)) (l := R); omega
    rw [facF_end hne]
    have key : ∀ k, k ≤ A.length → facK A f i0 R k = [] := by
      intro k
      induction k with
      | zero => intro _; exact facK_start A f i0 R 0 (by omega)
      | succ k ihk =>
        intro hk
        rw [facK_succ, ihk (by omega)]
        split
        · rfl
        · split
          · next hlt hs =>
            have h2 := hA.more k (by omega) (by omega)
            have h3 : (remL R (A.getD k [])).count (0 : Int) + (A.getD k []).count 0 = R.count (0 : Int) := rem_count _ _ hs 0
            rw [h2.2] at h3
            rw [ih k _ (by omega) (by omega)]
            rfl
          · rfl
    exact key A.length (Nat.le_refl _)
theorem fac_le {A : List (List Nat)} (hA : HdA A) (h48 : A.length ≤ 48) : ∀ f i0 R, (facF A f i0 R).length ≤ 48 ^ ((R.length - R.count (0 : Int)) / 2) := by
  intro f
  induction f with
  | zero => intro i0 R; simp [facF]
  | succ f ih =>
    intro i0 R
    by_cases h : R.length = 0
    · rw [facF_zero h, h]; simp
    rw [facF_end h]
    have hcl := List.count_le_length (a := (0 : Int)) (l := R)
    by_cases h0 : 0 < R.count (0 : Int)
    · have key : ∀ k, k ≤ A.length → (facK A f i0 R k).length ≤ if k = 0 then 0 else 48 ^ ((R.length - R.count (0 : Int)) / 2) := by
        intro k
        induction k with
        | zero => intro _; rw [facK_start A f i0 R 0 (by omega)]; simp
        | succ k ihk =>
          intro hk
          have hi := ihk (by omega)
          rw [if_neg (by omega)]
          have hi2 : (facK A f i0 R k).length ≤ 48 ^ ((R.length - R.count (0 : Int)) / 2) := by
            split at hi
            · exact Nat.le_trans hi (Nat.zero_le _)
            · exact hi
          rw [facK_succ]
          split
          · exact hi2
          · split
            · next hlt hs =>
              rw [List.length_append, List.length_map]
              by_cases hk0 : k = 0
              · subst hk0
                rw [if_pos rfl] at hi
                have h3 : (remL R (A.getD 0 [])).count (0 : Int) + (A.getD 0 []).count 0 = R.count (0 : Int) := rem_count _ _ hs 0
                have h4 := rem_len _ _ hs
                rw [hA.first] at h3 h4 ⊢
                have h5 := ih 0 (remL R [0])
                have e1 : (remL R [0]).count (0 : Int) + 1 = R.count (0 : Int) := by simpa using h3
                have e2 : (remL R [0]).length + 1 = R.length := by simpa using h4
                rw [show (remL R [0]).length - (remL R [0]).count (0 : Int) = R.length - R.count (0 : Int) by omega] at h5
                omega
              · have h2 := hA.more k (by omega) (by omega)
                have h3 : (remL R (A.getD k [])).count (0 : Int) + (A.getD k []).count 0 = R.count (0 : Int) := rem_count _ _ hs 0
                rw [h2.2] at h3
                rw [fac_none hA f k _ (by omega) (by omega)]
                simpa using hi2
            · exact hi2
      have := key A.length (Nat.le_refl _)
      have h1 := hA.one
      rw [if_neg (by omega)] at this
      exact this
    · have hz : R.count (0 : Int) = 0 := by omega
      rw [hz, Nat.sub_zero]
      have key : ∀ k, k ≤ A.length → (facK A f i0 R k).length ≤ k * 48 ^ (R.length / 2 - 1) ∧ (R.length < 2 → facK A f i0 R k = []) := by
        intro k
        induction k with
        | zero => intro _; rw [facK_start A f i0 R 0 (by omega)]; simp
        | succ k ihk =>
          intro hk
          obtain ⟨hi, hi2⟩ := ihk (by omega)
          have hp : 0 < 48 ^ (R.length / 2 - 1) := Nat.pow_pos (by decide)
          rw [facK_succ, Nat.succ_mul]
          split
          · exact ⟨by omega, hi2⟩
          · split
            · next hlt hs =>
              by_cases hk0 : k = 0
              · subst hk0
                have h3 : (remL R (A.getD 0 [])).count (0 : Int) + (A.getD 0 []).count 0 = R.count (0 : Int) := rem_count _ _ hs 0
                rw [hA.first] at h3
                have : (remL R [0]).count (0 : Int) + 1 = R.count (0 : Int) := by simpa using h3
                omega
              · have h2 := hA.more k (by omega) (by omega)
                have h4 := rem_len _ _ hs
                have h5 := ih k (remL R (A.getD k []))
                have h6 : (remL R (A.getD k [])).length ≤ R.length - 2 := by omega
                have h7 : 48 ^ (((remL R (A.getD k [])).length - (remL R (A.getD k [])).count (0 : Int)) / 2) ≤ 48 ^ (R.length / 2 - 1) := Nat.pow_le_pow_right (by decide) (by omega)
                rw [List.length_append, List.length_map]
                refine ⟨by omega, fun hq => by omega⟩
            · exact ⟨by omega, hi2⟩
      have := key A.length (Nat.le_refl _)
      by_cases hq : R.length < 2
      · rw [this.2 hq]; simp
      · have e : R.length / 2 = (R.length / 2 - 1) + 1 := by omega
        rw [e, Nat.pow_succ, Nat.mul_comm]
        exact Nat.le_trans (by simpa using this.1) (Nat.mul_le_mul_right _ h48)
theorem fac_bd {l : List Int} (h : isGrp l = true) (h7 : ord l ≤ 7) (f i0 : Nat) {R : List Int} (hR : R.length ≤ 10) : (facF (atS l) f i0 R).length ≤ 254803968 := by
  refine Nat.le_trans (fac_le (hdA_of (head_chk h h7)) (by rw [atS_len]; exact atL_le h h7) f i0 R) ?_
  exact Nat.le_trans (Nat.pow_le_pow_right (by decide) (show (R.length - R.count (0 : Int)) / 2 ≤ 5 by omega)) (by decide)
end Go.Zz

/- Rows of slices that a call makes, with what their cells hold. -/
namespace Go.Zz
open Go.RowKit Go.Proofs
set_option maxHeartbeats 1000000
set_option maxRecDepth 4000

structure SlT (TS TE : TypeId) : Prop where
  info : (Tryz.prog.info? TE).map (fun i => (i.zero, i.size, i.bytes)) = some (some (.slice none 0 0), 1, 24)
  und : Tryz.prog.underlying TS = some (.slice TE)
theorem slV : SlT 107 22 := ⟨infoV, undV⟩
theorem slW : SlT 75 107 := ⟨by kernel_rfl, by kernel_rfl⟩
theorem elW : Tryz.prog.underlying 75 = some (.slice (Tryz.prog.elem 75)) := by kernel_rfl
theorem szW : ∀ w, (Go.sizeOf (Tryz.prog.elem 75)).run Tryz.prog w = .ok 1 w := fun w => by kernel_rfl
/-- v is a row of the call's own that holds the values L -/
def OwnL (TE : TypeId) (w0 w : World) (v : Value) (L : List Value) : Prop := (∀ u ∈ L, u.oneCell' = true) ∧ w.ownsRow w0.heap.size TE 1 v L.length L ∧ L.length ≤ 1000000000000
section
variable {TS TE : TypeId} {w0 w w' : World} {v : Value} {L : List Value}
theorem OwnL.blk (h : OwnL TE w0 w v L) : ∀ k, v.ownBlock = some k → w0.heap.size ≤ k ∧ k < w.heap.size := h.2.1.lt
theorem OwnL.ext (h : OwnL TE w0 w v L) (hE : Ext w w') : OwnL TE w0 w' v L := by
  obtain ⟨h2, h3, h4⟩ := h
  refine ⟨h2, h3.kept (row := none) ⟨hE.os, hE.tape, hE.output, hE.size, fun k hk _ => hE.block k hk⟩ ?_, h4⟩
  cases hv : v.ownBlock <;> simp
theorem OwnL.mono {w1 : World} (h : OwnL TE w1 w v L) (hE : Ext w0 w1) : OwnL TE w0 w v L := ⟨h.1, ownsRow_mono h.2.1 hE.size, h.2.2⟩
theorem ownL_made (hE : Ext w0 w) : OwnL TE w0 (w.alloc (.cells #[] TE)) (.slice (some ⟨w.heap.size, 0, none⟩) 0 0) [] := by
  have := World.ownsRow_lit (base := w0.heap.size) (e := TE) (size := 1) w #[] 0 hE.size (by unfold maxLen; omega) (by simp)
  exact ⟨by simp, by simpa using this, by simp⟩
theorem ownL_one (hE : Ext w0 w) {y : Value} (hy : y.oneCell' = true) : OwnL TE w0 (w.alloc (.cells #[y] TE)) (.slice (some ⟨w.heap.size, 0, none⟩) 1 1) [y] := by
  have := World.ownsRow_lit (base := w0.heap.size) (e := TE) (size := 1) w #[y] 1 hE.size (by unfold maxLen; omega) (by simp)
  exact ⟨by simpa using hy, by simpa using this, by simp⟩
theorem OwnL.shape (h : OwnL TE w0 w v L) : ∃ (ao : Option Addr) (c : Nat), v = .slice ao L.length c ∧ L.length ≤ c ∧ (∀ i, i < L.length → ∃ g, ao = some ⟨g, 0, none⟩ ∧ w.cell? ⟨g, i, none⟩ = some (L.getD i (.slice none 0 0))) := by
  obtain ⟨-, h1, -⟩ := h
  have h2 := h1.2
  rcases h2 with ⟨rfl, hl⟩ | ⟨g, cap, cur, rfl, hg, hh, hc, r⟩
  · exact ⟨none, 0, by rw [hl], by omega, by omega⟩
  · refine ⟨some ⟨g, 0, none⟩, cap, rfl, hc, fun i hi => ⟨g, rfl, ?_⟩⟩
    rw [World.ownsRow.cellAt h1 i (by omega)]
    simp [hi]
theorem OwnL.not {T : TypeId} (h : OwnL TE w0 w v L) {g : Nat} {cs : Array Value} (hB : Blk w g T cs) (hT : T ≠ TE) : v.ownBlock ≠ some g := fun e => by
  obtain ⟨-, h1, -⟩ := h
  rcases h1.2 with ⟨rfl, _⟩ | ⟨g', cap, cur, rfl, _, hh, _⟩
  · cases e
  · simp [Value.ownBlock] at e
    subst e
    have hB' : w.heap[g']? = some (.cells cs T (0, 0)) := hB
    rw [hB'] at hh
    simp at hh
    exact hT hh.2
theorem OwnL.set_ne (h : OwnL TE w0 w v L) {b i : Nat} (hp : v.ownBlock ≠ some b) (u : Value) : OwnL TE w0 (w.setCell ⟨b, i, none⟩ u) v L := by
  obtain ⟨h2, h3, h4⟩ := h
  refine ⟨h2, ⟨h3.1, ?_⟩, h4⟩
  rcases h3.2 with h | ⟨g, cap, cur, rfl, hg, hh, rest⟩
  · exact Or.inl h
  · refine Or.inr ⟨g, cap, cur, rfl, hg, ?_, rest⟩
    simp [Value.ownBlock] at hp
    rw [Below.heap_setCell _ _ _ _ (fun e => hp e)]; exact hh
/-- append of cells that are there -/
theorem run_appendL (hT : SlT TS TE) (ty : TypeId) (m c : Nat) (ad : Addr) (M : List Value) (hO : OwnL TE w0 w v L) (hM : M.length = m) (hM1 : ∀ u ∈ M, u.oneCell' = true) (hnews : ∀ j x, M[j]? = some x → w.cell? (ad.add j) = some x) (hE : Ext w0 w) (hn : L.length + m ≤ 1000000000000) :
    ∃ v' w', (Builtin.append_ #[TS, TS] ty #[v, .slice (some ad) m c]).run Tryz.prog w = .ok v' w' ∧ OwnL TE w0 w' v' (L ++ M) ∧ w.grownBy w' v.ownBlock ∧ Nw v.ownBlock w v'.ownBlock ∧ Ext w0 w' := by
  obtain ⟨i, hi, hz, hs1, hby⟩ := info_parts hT.info
  obtain ⟨hL1, hL2, -⟩ := hO
  have hblk := hL2.lt
  have hLM : ∀ u ∈ L ++ M, u.oneCell' = true := fun u hu => by
    rw [List.mem_append] at hu
    rcases hu with hu | hu
    · exact hL1 u hu
    · exact hM1 u hu
  have hlen : (L ++ M).length = L.length + m := by rw [List.length_append, hM]
  have h2 := hL2.2
  rcases h2 with ⟨rfl, hl⟩ | ⟨g, cap, cur, rfl, hg, hh, hnc, hcm, hcs, htk⟩
  · have hL' : L = [] := List.eq_nil_of_length_eq_zero hl
    subst hL'
    obtain ⟨v', w', hrun, r1, r2, -⟩ := run_append_own (P := Tryz.prog) w w.heap.size TS ty TE i (.slice none 0 0) 1 24 hT.und hi hz hs1 hby rfl (by omega) (.slice none 0 0) 0 [] (World.ownsRow_nil _ _ _ _) ad m c M (by omega) hnews hM1 (by simp at hn; unfold maxLen; omega) (by simp at hn; omega) (Nat.le_refl _)
    have r1' := r1.lt
    exact ⟨v', w', hrun, ⟨hLM, by rw [hlen]; exact ownsRow_mono (by simpa using r1) hE.size, by omega⟩, r2, Or.inr fun k hk => (r1' k hk).1, hE.grown r2 fun k hk => by simp [Value.ownBlock] at hk⟩
  · by_cases hroom : L.length + m ≤ cap
    · obtain ⟨w', hrun, r1, r2⟩ := run_append_fits (P := Tryz.prog) w w0.heap.size TS ty TE i 1 hT.und hi hs1 g L.length cap _ hL2 ad m c M (by omega) hnews hM1 hroom
      exact ⟨_, w', hrun, ⟨hLM, by rw [hlen]; exact r1, by omega⟩, r2, Or.inl rfl, hE.grown r2 fun k hk => by cases hk; exact hg⟩
    · obtain ⟨v', w', hrun, r1, r2⟩ := run_append_arg_grows (P := Tryz.prog) (w := w) TS ty TE i (.slice none 0 0) 1 24 hT.und hi hz hs1 hby rfl (by omega) ⟨g, 0, none⟩ L.length cap L (by omega) (by
        intro j u hu
        have hj : j < L.length := (List.getElem?_eq_some_iff.1 hu).1
        rw [Addr.add_lit, Nat.zero_add, World.ownsRow.cellAt hL2 j (by omega)]
        exact hu) ad m c M (by omega) hnews (by omega) (by unfold maxLen; omega) (by omega)
      have r1' := r1.lt
      exact ⟨v', w', hrun, ⟨hLM, by rw [hlen]; exact ownsRow_mono r1 hE.size, by omega⟩, ⟨r2.os, r2.tape, r2.output, r2.size, fun k hk _ => r2.block k hk (by simp)⟩, Or.inr fun k hk => (r1' k hk).1, hE.grown r2 (by simp)⟩
end
section
variable {ops : Array Oper} {rest : List Oper} {o : Oper} {a : Act} {Q : Exit → Act → World → Prop} {TS TE : TypeId}
/-- append(s, y) -/
theorem wp_append1L (hT : SlT TS TE) (hg : o.guard = none) (s x : Operand) (hop : o.op = Op.call { callee := Callee.builtin Builtin.append, args := #[s, x], argTypes := #[TS, TS] })
    (w0 W : World) (v : Value) (L : List Value) (y : Value) (hy : y.oneCell' = true) (hO : OwnL TE w0 W v L) (hE : Ext w0 W) (hn : L.length < 1000000000000) (hs : a.eval s = v) (hx : a.eval x = .slice (some ⟨W.heap.size, 0, none⟩) 1 1)
    (hK : ∀ v' w', OwnL TE w0 w' v' (L ++ [y]) → W.grownBy w' v.ownBlock → Nw v.ownBlock W v'.ownBlock → wpList Tryz.prog ops Q rest (a.put o.dst v') w') :
    wpList Tryz.prog ops Q (o :: rest) a (W.alloc (.cells #[y] TE)) := by
  have e : Ext W (W.alloc (.cells #[y] TE)) := (Ext.refl W).alloc _
  obtain ⟨v', w', hrun, h1, h2, h3, -⟩ := run_appendL hT o.type 1 1 ⟨W.heap.size, 0, none⟩ [y] (hO.ext e) rfl (by simpa using hy) (cell_one_new _ _ _) (hE.alloc _) (by omega)
  refine wpList_plain hg fun K hK' => ?_
  unfold Oper.wp
  simp [execOp, hop, resolve, invoke, builtin, hs, hx, hrun, Result.andThen]
  refine hK' _ _ (hK v' w' h1 ⟨h2.os.trans e.os, h2.tape.trans e.tape, h2.output.trans e.output, Nat.le_trans e.size h2.size, fun k hk hne => ?_⟩ ?_)
  · rw [h2.block k (Nat.lt_of_lt_of_le hk e.size) hne]; exact e.block k hk
  · rcases h3 with h3 | h3
    · exact Or.inl h3
    · exact Or.inr fun k hk => Nat.le_trans e.size (h3 k hk)
/-- append(s, t...): the cells of t are there, or there are none -/
def CellsAt (w : World) (u : Value) (M : List Value) : Prop := (u = .slice none 0 0 ∧ M = []) ∨ ∃ ad c, u = .slice (some ad) M.length c ∧ ∀ j x, M[j]? = some x → w.cell? (ad.add j) = some x
theorem OwnL.cells {w0 w : World} {v : Value} {L : List Value} (h : OwnL TE w0 w v L) : CellsAt w v L := by
  obtain ⟨-, h1, -⟩ := h
  have h2 := h1.2
  rcases h2 with ⟨rfl, hl⟩ | ⟨g, cap, cur, rfl, hg, hh, hc, r⟩
  · exact Or.inl ⟨rfl, List.eq_nil_of_length_eq_zero hl⟩
  · refine Or.inr ⟨⟨g, 0, none⟩, cap, rfl, fun j x hx => ?_⟩
    have hj : j < L.length := (List.getElem?_eq_some_iff.1 hx).1
    rw [Addr.add_lit, Nat.zero_add, World.ownsRow.cellAt h1 j (by omega)]; exact hx
theorem run_appendsL (hT : SlT TS TE) (ty : TypeId) {w0 w : World} {v u : Value} {L M : List Value} (hO : OwnL TE w0 w v L) (hI : CellsAt w u M) (hM1 : ∀ u ∈ M, u.oneCell' = true) (hE : Ext w0 w) (hn : L.length + M.length ≤ 1000000000000) :
    ∃ v' w', (Builtin.append_ #[TS, TS] ty #[v, u]).run Tryz.prog w = .ok v' w' ∧ OwnL TE w0 w' v' (L ++ M) ∧ w.grownBy w' v.ownBlock ∧ Nw v.ownBlock w v'.ownBlock ∧ Ext w0 w' := by
  rcases hI with ⟨rfl, rfl⟩ | ⟨ad, c, rfl, hc⟩
  · obtain ⟨i, hi, hz, hs1, hby⟩ := info_parts hT.info
    have hrun := run_append_owned_none (P := Tryz.prog) w w0.heap.size TS ty TE i 1 hT.und hi v L.length L hO.2.1
    exact ⟨v, w, hrun, by simpa using hO, ⟨rfl, rfl, rfl, Nat.le_refl _, fun _ _ _ => rfl⟩, Or.inl rfl, hE⟩
  · exact run_appendL hT ty M.length c ad M hO rfl hM1 hc hE hn
theorem wp_appendsL (hT : SlT TS TE) (hg : o.guard = none) (s x : Operand) (hop : o.op = Op.call { callee := Callee.builtin Builtin.append, args := #[s, x], argTypes := #[TS, TS] })
    (w0 w : World) (v u : Value) (L M : List Value) (hO : OwnL TE w0 w v L) (hI : CellsAt w u M) (hM1 : ∀ u ∈ M, u.oneCell' = true) (hE : Ext w0 w) (hn : L.length + M.length ≤ 1000000000000) (hs : a.eval s = v) (hx : a.eval x = u)
    (hK : ∀ v' w', OwnL TE w0 w' v' (L ++ M) → w.grownBy w' v.ownBlock → Nw v.ownBlock w v'.ownBlock → Ext w0 w' → wpList Tryz.prog ops Q rest (a.put o.dst v') w') :
    wpList Tryz.prog ops Q (o :: rest) a w := by
  obtain ⟨v', w', hrun, h1, h3, h4, h2⟩ := run_appendsL hT o.type hO hI hM1 hE hn
  refine wpList_plain hg fun K hK' => ?_
  unfold Oper.wp
  simp [execOp, hop, resolve, invoke, builtin, hs, hx, hrun, Result.andThen]
  exact hK' _ _ (hK v' w' h1 h3 h4 h2)
theorem step_appendsL {K : Act → World → Prop} {E : Prop} {w : World} (hT : SlT TS TE) (hg : o.guard = none) (s x : Operand) (hop : o.op = Op.call { callee := Callee.builtin Builtin.append, args := #[s, x], argTypes := #[TS, TS] })
    (w0 : World) (v u : Value) (L M : List Value) (hO : OwnL TE w0 w v L) (hI : CellsAt w u M) (hM1 : ∀ u ∈ M, u.oneCell' = true) (hE : Ext w0 w) (hn : L.length + M.length ≤ 1000000000000) (hs : a.eval s = v) (hx : a.eval x = u)
    (hK : ∀ v' w', OwnL TE w0 w' v' (L ++ M) → w.grownBy w' v.ownBlock → Nw v.ownBlock w v'.ownBlock → Ext w0 w' → K (a.put o.dst v') w') :
    if Region.wanted o (yielded ops a.tmps) = true then Oper.wp Tryz.prog o a w K Q else E := by
  have hw : Region.wanted o (yielded ops a.tmps) = true := by simp [Region.wanted, hg]
  rw [if_pos hw]
  obtain ⟨v', w', hrun, h1, h3, h4, h2⟩ := run_appendsL hT o.type hO hI hM1 hE hn
  unfold Oper.wp
  simp [execOp, hop, resolve, invoke, builtin, hs, hx, hrun, Result.andThen]
  exact hK v' w' h1 h3 h4 h2
end
/-! ### rows of rows of numbers -/
/-- u is a row of ints, in a block of its own kind, that reads as a -/
def RowB (w : World) (u : Value) (a : List Nat) : Prop := a.length ≤ 1000 ∧ ∃ g cap cs, u = .slice (some ⟨g, 0, none⟩) a.length cap ∧ a.length ≤ cap ∧ Blk w g 3 cs ∧ ∀ i, i < a.length → cs[i]? = some (.int .i64 (nthN a i))
theorem RowB.ext {w w' : World} {u : Value} {a : List Nat} (h : RowB w u a) (hE : Ext w w') : RowB w' u a := by
  obtain ⟨h0, g, cap, cs, h1, h2, h3, h4⟩ := h; exact ⟨h0, g, cap, cs, h1, h2, h3.ext hE, h4⟩
theorem RowB.one {w : World} {u : Value} {a : List Nat} (h : RowB w u a) : u.oneCell' = true := by
  obtain ⟨h0, g, cap, cs, rfl, -⟩ := h; rfl
theorem RowB.ints {w : World} {u : Value} {a : List Nat} (h : RowB w u a) : Ints w u (castL a) := by
  obtain ⟨h0, g, cap, cs, rfl, h2, h3, h4⟩ := h
  refine ⟨_, cap, by rw [castL_len], by rw [castL_len]; exact h2, by rw [castL_len]; omega, fun i hi => ⟨_, rfl, ?_⟩⟩
  rw [castL_len] at hi
  rw [Addr.add_lit, Nat.zero_add, nth_castL]
  exact h3.cell (i := i) (h4 i hi)
theorem rowB_own {w0 w : World} {u : Value} {a : List Nat} (h : Own 3 w0 w u (castL a)) (h0 : 0 < a.length) (h1 : a.length ≤ 1000) : RowB w u a := by
  obtain ⟨⟨h2, h3⟩, -⟩ := h
  rcases h3 with ⟨hv, hl⟩ | ⟨g, cap, cur, rfl, hg, hh, hnc, hcm, hcs, htk⟩
  · rw [castL_len] at hl; omega
  · rw [castL_len] at hnc htk ⊢
    refine ⟨h1, g, cap, cur, rfl, hnc, hh, fun i hi => ?_⟩
    have : (cur.toList.take (a.length * 1))[i]? = some (.int .i64 (nthN a i)) := by
      rw [htk, List.getElem?_map, ← nth_castL]
      have hi' : i < (castL a).length := by rw [castL_len]; exact hi
      simp [nth, List.getD, hi']
    rw [List.getElem?_take_of_lt (by omega)] at this
    simpa using this
theorem RowB.grown {w0 w w' : World} {u v : Value} {a : List Nat} {TE : TypeId} {L : List Value} (h : RowB w u a) (hO : OwnL TE w0 w v L) (hT : 3 ≠ TE) (hg : w.grownBy w' v.ownBlock) : RowB w' u a := by
  obtain ⟨h0, g, cap, cs, h1, h2, h3, h4⟩ := h
  exact ⟨h0, g, cap, cs, h1, h2, h3.grown hg fun k hk e => hO.not h3 hT (by rw [hk, e]), h4⟩
theorem RowB.other {w : World} {u : Value} {a : List Nat} {b : Nat} {T : TypeId} {cs' : Array Value} (h : RowB w u a) (hB : Blk w b T cs') (hT : T ≠ 3) (i : Nat) (x : Value) : RowB (w.setCell ⟨b, i, none⟩ x) u a := by
  obtain ⟨h0, g, cap, cs, h1, h2, h3, h4⟩ := h
  refine ⟨h0, g, cap, cs, h1, h2, h3.other (fun e => ?_) _, h4⟩
  have e' : g = b := e
  subst e'
  have hB' : w.heap[g]? = some (.cells cs' T (0, 0)) := hB
  have h3' : w.heap[g]? = some (.cells cs 3 (0, 0)) := h3
  rw [h3'] at hB'
  simp at hB'
  exact hT hB'.2.symm
/-- v is a row of the call's own of rows that read as A -/
def OwnC (w0 w : World) (v : Value) (A : List (List Nat)) : Prop := ∃ L : List Value, L.length = A.length ∧ OwnL 22 w0 w v L ∧ ∀ i, i < A.length → RowB w (L.getD i (.slice none 0 0)) (A.getD i [])
theorem OwnC.ext {w0 w w' : World} {v : Value} {A : List (List Nat)} (h : OwnC w0 w v A) (hE : Ext w w') : OwnC w0 w' v A := by
  obtain ⟨L, h1, h2, h3⟩ := h; exact ⟨L, h1, h2.ext hE, fun i hi => (h3 i hi).ext hE⟩
theorem OwnC.mono {w0 w1 w : World} {v : Value} {A : List (List Nat)} (h : OwnC w1 w v A) (hE : Ext w0 w1) : OwnC w0 w v A := by
  obtain ⟨L, h1, h2, h3⟩ := h; exact ⟨L, h1, h2.mono hE, h3⟩
theorem ownC_made {w0 w : World} (hE : Ext w0 w) : OwnC w0 (w.alloc (.cells #[] 22)) (.slice (some ⟨w.heap.size, 0, none⟩) 0 0) [] := ⟨[], rfl, ownL_made hE, fun i hi => by simp at hi⟩
theorem OwnC.blk {w0 w : World} {v : Value} {A : List (List Nat)} (h : OwnC w0 w v A) : ∀ k, v.ownBlock = some k → w0.heap.size ≤ k ∧ k < w.heap.size := by
  obtain ⟨L, h1, h2, h3⟩ := h; exact h2.blk
theorem OwnC.not {w0 w : World} {v : Value} {A : List (List Nat)} {T : TypeId} (h : OwnC w0 w v A) {g : Nat} {cs : Array Value} (hB : Blk w g T cs) (hT : T ≠ 22) : v.ownBlock ≠ some g := by
  obtain ⟨L, h1, h2, h3⟩ := h; exact h2.not hB hT
theorem OwnC.more {w0 W w' : World} {v v' y : Value} {A : List (List Nat)} {a : List Nat} {L : List Value} (h1 : L.length = A.length) (h2 : OwnL 22 w0 W v L) (h3 : ∀ i, i < A.length → RowB W (L.getD i (.slice none 0 0)) (A.getD i [])) (hy : RowB W y a) (hO : OwnL 22 w0 w' v' (L ++ [y])) (hG : W.grownBy w' v.ownBlock) : OwnC w0 w' v' (A ++ [a]) := by
  refine ⟨L ++ [y], by simp [h1], hO, fun i hi => ?_⟩
  by_cases e : i < A.length
  · have e1 : (L ++ [y]).getD i (.slice none 0 0) = L.getD i (.slice none 0 0) := by simp [List.getD, List.getElem?_append_left (show i < L.length by omega)]
    have e2 : (A ++ [a]).getD i [] = A.getD i [] := by simp [List.getD, List.getElem?_append_left e]
    rw [e1, e2]
    exact (h3 i e).grown h2 (by decide) hG
  · have hi' : i = A.length := by simp at hi; omega
    have e1 : (L ++ [y]).getD i (.slice none 0 0) = y := by rw [hi', ← h1]; simp [List.getD]
    have e2 : (A ++ [a]).getD i [] = a := by rw [hi']; simp [List.getD]
    rw [e1, e2]
    exact hy.grown h2 (by decide) hG
theorem OwnC.shape {w0 w : World} {v : Value} {A : List (List Nat)} (h : OwnC w0 w v A) : ∃ (ao : Option Addr) (c : Nat), v = .slice ao A.length c ∧ A.length ≤ c ∧ (∀ i, i < A.length → ∃ g u, ao = some ⟨g, 0, none⟩ ∧ w.cell? ⟨g, i, none⟩ = some u ∧ RowB w u (A.getD i [])) := by
  obtain ⟨L, h1, h2, h3⟩ := h
  obtain ⟨ao, c, rfl, hc, hcell⟩ := h2.shape
  rw [h1] at hc hcell ⊢
  exact ⟨ao, c, rfl, hc, fun i hi => by obtain ⟨g, hg, hh⟩ := hcell i hi; exact ⟨g, _, hg, hh, h3 i hi⟩⟩
end Go.Zz
