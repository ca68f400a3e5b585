/- Sequences of elements: sorted lists, parts, totals, shortest parts with the sum 0. No program is named here. -/
import Derived.Test.YtohdnnamjcfnnaaPh
namespace Go.Zz

/-- whether a list ascends -/
def sortB (xs : List Int) : Bool := (List.range xs.length).all (fun j => decide (j = 0) || decide (nth xs (j - 1) ≤ nth xs j))
theorem sortB_iff (xs : List Int) : sortB xs = true ↔ ∀ j, 0 < j → j < xs.length → nth xs (j - 1) ≤ nth xs j := by
  unfold sortB
  simp only [List.all_eq_true, List.mem_range, Bool.or_eq_true, decide_eq_true_eq]
  constructor
  · intro h j h0 hj
    rcases h j hj with e | e
    · omega
    · exact e
  · intro h j hj
    by_cases e : j = 0
    · exact Or.inl e
    · exact Or.inr (h j (by omega) hj)
theorem sortB_no {xs : List Int} {j : Nat} (h0 : 0 < j) (hj : j < xs.length) (h : nth xs j < nth xs (j - 1)) : sortB xs = false := by
  rw [← Bool.not_eq_true, sortB_iff]
  intro hall; have := hall j h0 hj; omega
def seqB (l xs : List Int) : Bool := xs.all (hasB l) && isGrp l && decide (xs.length ≤ 12) && sortB xs
theorem seqB_has {l xs : List Int} {k : Nat} (hk : k < xs.length) (h : hasB l (nth xs k) = false) : seqB l xs = false := by
  have : xs.all (hasB l) = false := by
    rw [← Bool.not_eq_true, List.all_eq_true]
    intro hall; rw [hall _ (nth_mem hk)] at h; cases h
  unfold seqB; rw [this]; rfl
theorem seqB_down {l xs : List Int} {k : Nat} (h0 : 0 < k) (hk : k < xs.length) (h : nth xs k < nth xs (k - 1)) : seqB l xs = false := by
  unfold seqB; rw [sortB_no h0 hk h]; simp
theorem seqB_end {l xs : List Int} (h : ∀ j, j < xs.length → hasB l (nth xs j) = true) : seqB l xs = (isGrp l && decide (xs.length ≤ 12) && sortB xs) := by
  have : xs.all (hasB l) = true := by
    rw [List.all_eq_true]
    intro x hx; obtain ⟨k, hk, rfl⟩ := mem_nth hx; exact h k hk
  unfold seqB; rw [this]; simp
theorem nat_list : ∀ (xs : List Int), (∀ x ∈ xs, ∃ n : Nat, x = n) → ∃ X : List Nat, xs = castL X
  | [], _ => ⟨[], rfl⟩
  | x :: xs, h => by
    obtain ⟨n, hn⟩ := h x (by simp)
    obtain ⟨X, hX⟩ := nat_list xs (fun y hy => h y (by simp [hy]))
    exact ⟨n :: X, by rw [hn, hX]; simp [castL]⟩
theorem seqB_nat {l xs : List Int} (h : seqB l xs = true) : ∃ X : List Nat, xs = castL X ∧ (∀ x ∈ X, x < ord l) ∧ X.length ≤ 12 ∧ isGrp l = true ∧ ∀ x ∈ X, x < 24 := by
  simp only [seqB, Bool.and_eq_true, List.all_eq_true, decide_eq_true_eq] at h
  obtain ⟨⟨⟨h1, h2⟩, h3⟩, _⟩ := h
  obtain ⟨X, rfl⟩ := nat_list xs (fun x hx => by obtain ⟨n, hn, _⟩ := hasB_nat (h1 x hx); exact ⟨n, hn⟩)
  have hx : ∀ x ∈ X, x < ord l := fun x hx => by
    obtain ⟨n, hn, hlt, _⟩ := hasB_nat (h1 (x : Int) (by simp [castL]; exact ⟨x, hx, rfl⟩))
    have : x = n := by omega
    omega
  exact ⟨X, rfl, hx, by simpa [castL_len] using h3, h2, fun x hx' => Nat.lt_of_lt_of_le (hx x hx') (ord_bd h2).2⟩
/-- the terms of a mask -/
def partTo (xs : List Int) (m k : Nat) : List Int := ((List.range k).filter (fun i => m.testBit i)).map (nth xs)
def partI (xs : List Int) (m : Nat) : List Int := partTo xs m xs.length
theorem partTo_yes {xs : List Int} {m k : Nat} (h : m.testBit k = true) : partTo xs m (k + 1) = partTo xs m k ++ [nth xs k] := by
  unfold partTo; rw [List.range_succ, List.filter_append, List.map_append]; simp [h]
theorem partTo_no {xs : List Int} {m k : Nat} (h : m.testBit k = false) : partTo xs m (k + 1) = partTo xs m k := by
  unfold partTo; rw [List.range_succ, List.filter_append, List.map_append]; simp [h]
theorem partTo_len (xs : List Int) (m k : Nat) : (partTo xs m k).length ≤ k := by
  unfold partTo; rw [List.length_map]; exact Nat.le_trans (List.length_filter_le _ _) (by simp)
def partL (X : List Nat) (m : Nat) : List Nat := ((List.range X.length).filter (fun i => m.testBit i)).map (nthN X)
theorem partI_cast (X : List Nat) (m : Nat) : partI (castL X) m = castL (partL X m) := by
  unfold partI partTo partL castL
  rw [List.length_map, List.map_map]
  apply List.map_congr_left
  intro i _
  exact nth_castL X i
theorem partL_mem {X : List Nat} {m x : Nat} (h : x ∈ partL X m) : x ∈ X := by
  unfold partL at h
  rw [List.mem_map] at h
  obtain ⟨i, hi, rfl⟩ := h
  exact nthN_mem (List.mem_range.1 (List.mem_filter.1 hi).1)
theorem partL_le (X : List Nat) (m : Nat) : (partL X m).length ≤ X.length := by
  unfold partL; rw [List.length_map]; exact Nat.le_trans (List.length_filter_le _ _) (by simp)
theorem partL_len {X : List Nat} {m : Nat} (hX : X.length ≤ 24) (hm : m < 2 ^ X.length) : (partL X m).length = cnt m := by
  unfold partL; rw [List.length_map]
  have := elemsTo_all hX hm
  unfold elemsTo at this
  rw [this]; rfl
/-- the sum of all terms -/
def tot (l : List Int) (X : List Nat) : Nat := X.foldl (fun s x => addF l s x) 0
theorem tot_snoc (l : List Int) (X : List Nat) (x : Nat) : tot l (X ++ [x]) = addF l (tot l X) x := by unfold tot; rw [List.foldl_append]; rfl
theorem tot_bd {l : List Int} (h : isGrp l = true) (X : List Nat) : tot l X < 24 := by
  rcases List.eq_nil_or_concat X with rfl | ⟨Y, y, rfl⟩
  · show (0:Nat) < 24; omega
  · rw [List.concat_eq_append, tot_snoc]; exact addF_bd h _ _
theorem take_snocN (L : List Nat) (k : Nat) (h : k < L.length) : L.take (k + 1) = L.take k ++ [nthN L k] := take_nthN L k h
/-- the first mask of so many terms with the sum 0 -/
def zol (l : List Int) (X : List Nat) (k : Nat) : Option Nat := (List.range (pw X.length)).find? (fun m => decide (cnt m = k) && decide (tot l (partL X m) = 0))
def zolL (l : List Int) (X : List Nat) (k : Nat) : List Nat := match zol l X k with | some m => partL X m | none => []
def zolB (l : List Int) (X : List Nat) (k : Nat) : Bool := (zol l X k).isSome
theorem zol_at {l : List Int} {X : List Nat} {k m : Nat} (hm : m < pw X.length) (h : ∀ j, j < m → ¬ (cnt j = k ∧ tot l (partL X j) = 0)) (e1 : cnt m = k) (e2 : tot l (partL X m) = 0) : zolL l X k = partL X m ∧ zolB l X k = true ∧ zol l X k = some m := by
  have : zol l X k = some m := find_at hm (fun j hj => by
    have := h j hj
    by_cases a : cnt j = k
    · have b : ¬ tot l (partL X j) = 0 := fun b => this ⟨a, b⟩
      simp [b]
    · simp [a]) (by simp [e1, e2])
  unfold zolL zolB; rw [this]; exact ⟨rfl, rfl, rfl⟩
theorem zol_none {l : List Int} {X : List Nat} {k : Nat} (h : ∀ j, j < pw X.length → ¬ (cnt j = k ∧ tot l (partL X j) = 0)) : zolL l X k = [] ∧ zolB l X k = false ∧ zol l X k = none := by
  have : zol l X k = none := find_none (fun j hj => by
    have := h j hj
    by_cases a : cnt j = k
    · have b : ¬ tot l (partL X j) = 0 := fun b => this ⟨a, b⟩
      simp [b]
    · simp [a])
  unfold zolL zolB; rw [this]; exact ⟨rfl, rfl, rfl⟩
/-- the best mask below c, 0 if there is none -/
def szTo (l : List Int) (X : List Nat) : Nat → Nat
  | 0 => 0
  | c + 1 => if c ≠ 0 ∧ tot l (partL X c) = 0 ∧ (szTo l X c = 0 ∨ cnt c < cnt (szTo l X c)) then c else szTo l X c
theorem szTo_yes {l : List Int} {X : List Nat} {c : Nat} (h0 : c ≠ 0) (h1 : tot l (partL X c) = 0) (h2 : szTo l X c = 0 ∨ cnt c < cnt (szTo l X c)) : szTo l X (c + 1) = c := by rw [szTo, if_pos ⟨h0, h1, h2⟩]
theorem szTo_no {l : List Int} {X : List Nat} {c : Nat} (h : ¬ (tot l (partL X c) = 0 ∧ (szTo l X c = 0 ∨ cnt c < cnt (szTo l X c)))) : szTo l X (c + 1) = szTo l X c := by rw [szTo, if_neg (fun e => h e.2)]
theorem szTo_one (l : List Int) (X : List Nat) : szTo l X 1 = 0 := by rw [szTo, if_neg (fun e => e.1 rfl)]; rfl
theorem szTo_spec (l : List Int) (X : List Nat) : ∀ c, (szTo l X c = 0 ∧ ∀ m, m < c → m ≠ 0 → tot l (partL X m) ≠ 0) ∨
    (szTo l X c ≠ 0 ∧ szTo l X c < c ∧ tot l (partL X (szTo l X c)) = 0 ∧ ∀ m, m < c → m ≠ 0 → tot l (partL X m) = 0 → cnt (szTo l X c) < cnt m ∨ (cnt (szTo l X c) = cnt m ∧ szTo l X c ≤ m))
  | 0 => Or.inl ⟨rfl, fun m hm => by omega⟩
  | c + 1 => by
    have ih := szTo_spec l X c
    by_cases h : c ≠ 0 ∧ tot l (partL X c) = 0 ∧ (szTo l X c = 0 ∨ cnt c < cnt (szTo l X c))
    · rw [szTo_yes h.1 h.2.1 h.2.2]
      refine Or.inr ⟨h.1, by omega, h.2.1, fun m hm h0 ht => ?_⟩
      by_cases e : m = c
      · subst e; exact Or.inr ⟨rfl, Nat.le_refl _⟩
      · rcases ih with ⟨i1, i2⟩ | ⟨i1, i2, i3, i4⟩
        · exact absurd ht (i2 m (by omega) h0)
        · rcases h.2.2 with e2 | e2
          · exact absurd e2 i1
          · rcases i4 m (by omega) h0 ht with q | q <;> omega
    · have e : szTo l X (c + 1) = szTo l X c := by rw [szTo, if_neg h]
      rw [e]
      rcases ih with ⟨i1, i2⟩ | ⟨i1, i2, i3, i4⟩
      · refine Or.inl ⟨i1, fun m hm h0 => ?_⟩
        by_cases e : m = c
        · subst e; exact fun ht => h ⟨h0, ht, Or.inl i1⟩
        · exact i2 m (by omega) h0
      · refine Or.inr ⟨i1, by omega, i3, fun m hm h0 ht => ?_⟩
        by_cases e : m = c
        · subst e
          have : ¬ cnt m < cnt (szTo l X m) := fun q => h ⟨h0, ht, Or.inr q⟩
          omega
        · exact i4 m (by omega) h0 ht
theorem szTo_lt (l : List Int) (X : List Nat) (c : Nat) : szTo l X c ≤ c := by
  rcases szTo_spec l X c with ⟨h, _⟩ | ⟨_, h, _⟩ <;> omega
def szN (l : List Int) (X : List Nat) : Nat := szTo l X (pw X.length)
def szL' (X : List Nat) (b : Nat) : List Nat := if b = 0 then [] else partL X b
def szR (l : List Int) (X : List Nat) : List Nat := szL' X (szN l X)
def szB (l : List Int) (X : List Nat) : Bool := decide (szN l X ≠ 0)
theorem szL'_len {X : List Nat} {b : Nat} (hX : X.length ≤ 12) (hb : b < 2 ^ X.length) : (szL' X b).length = cnt b := by
  unfold szL'
  by_cases h : b = 0
  · rw [if_pos h, h, cnt_zero]; rfl
  · rw [if_neg h, partL_len (by omega) hb]
theorem cnt_mask {n m : Nat} (hn : n ≤ 24) (hm : m < 2 ^ n) : cnt m ≤ n := by
  have := elemsTo_all hn hm
  unfold cnt; rw [← this]; exact elemsTo_len m n
/-- the first length at which a part is found tells the best one -/
theorem sz_at {l : List Int} {X : List Nat} (hX : X.length ≤ 12) {k : Nat} (hk : 1 ≤ k) (h : ∀ j, 1 ≤ j → j < k → zolB l X j = false) (hz : zolB l X k = true) : szR l X = zolL l X k ∧ szB l X = true := by
  unfold zolB at hz
  cases hq : zol l X k with
  | none => rw [hq] at hz; cases hz
  | some m =>
    have hm := List.find?_some hq
    have hmr := List.mem_of_find?_eq_some hq
    rw [List.mem_range] at hmr
    simp only [Bool.and_eq_true, decide_eq_true_eq] at hm
    have h0 : m ≠ 0 := fun e => by rw [e, cnt_zero] at hm; omega
    have key : szN l X = m := by
      rcases szTo_spec l X (pw X.length) with ⟨_, i2⟩ | ⟨i1, i2, i3, i4⟩
      · exact absurd hm.2 (i2 m hmr h0)
      · have hb : szN l X = szTo l X (pw X.length) := rfl
        rw [← hb] at i1 i2 i3 i4
        have c1 := cnt_pos (a := szN l X) (by omega) (by have := cnt_mask (n := X.length) (m := szN l X) (by omega) i2; exact Nat.lt_of_lt_of_le i2 (Nat.pow_le_pow_right (by omega) (by omega)))
        rcases i4 m hmr h0 hm.2 with q | q
        · have hj := h (cnt (szN l X)) c1 (by omega)
          unfold zolB zol at hj
          have : ((List.range (pw X.length)).find? (fun m => decide (cnt m = cnt (szN l X)) && decide (tot l (partL X m) = 0))).isSome = true := by
            rw [List.find?_isSome]
            exact ⟨szN l X, List.mem_range.2 i2, by simp [i3]⟩
          rw [this] at hj; cases hj
        · have hle : m ≤ szN l X := by
            rcases Nat.lt_or_ge (szN l X) m with hlt | hge
            · exfalso
              unfold zol at hq
              rw [List.find?_range_eq_some] at hq
              have := hq.2.2 (szN l X) hlt
              simp [i3] at this
              omega
            · exact hge
          omega
    unfold szR szL' szB zolL
    rw [key, if_neg h0, hq]
    exact ⟨rfl, decide_eq_true h0⟩
theorem sz_none {l : List Int} {X : List Nat} (hX : X.length ≤ 12) (h : ∀ j, 1 ≤ j → j ≤ X.length → zolB l X j = false) : szR l X = [] ∧ szB l X = false := by
  have key : szN l X = 0 := by
    rcases szTo_spec l X (pw X.length) with ⟨i1, _⟩ | ⟨i1, i2, i3, i4⟩
    · exact i1
    · exfalso
      have hb : szN l X = szTo l X (pw X.length) := rfl
      rw [← hb] at i1 i2 i3
      have c2 := cnt_mask (n := X.length) (m := szN l X) (by omega) i2
      have c1 := cnt_pos (a := szN l X) (by omega) (Nat.lt_of_lt_of_le i2 (Nat.pow_le_pow_right (by omega) (by omega)))
      have hj := h (cnt (szN l X)) c1 c2
      unfold zolB zol at hj
      have : ((List.range (pw X.length)).find? (fun m => decide (cnt m = cnt (szN l X)) && decide (tot l (partL X m) = 0))).isSome = true := by
        rw [List.find?_isSome]
        exact ⟨szN l X, List.mem_range.2 i2, by simp [i3]⟩
      rw [this] at hj; cases hj
  unfold szR szL' szB
  rw [key]; exact ⟨rfl, rfl⟩
end Go.Zz
