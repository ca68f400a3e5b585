/- Cosets, and the parts of a graph. -/
import Derived.Test.YtopokpamhojooaaGr6
import Derived.Deep.RegionHeld3
import Derived.Deep.RegionWith
import Derived.Test.YtopokpamhojooaaGr4
namespace Go.Zz
open Go.RowKit Go.Proofs
set_option maxHeartbeats 400000

--%call IsSubgroupV 94 ext IsSubgroup_val _ _ _ _ ({0}) ({1})
theorem IsSubgroup_any (v : Value) (l : List Int) (a : Int) (w : World) (h : Ints w v l) :
    Calls Try.prog 94 #[.agg #[v], .int .i64 a] w fun e w' => e = .returned (.bool (subB l a)) ∧ Ext w w' := by
  obtain ⟨wb, hwb⟩ : ∃ wb, wb = w.alloc (.cells #[v] 30) := ⟨_, rfl⟩
  have hE0 := (Ext.refl w).alloc (.cells #[v] 30)
  have hb := box_cell w v 30
  rw [← hwb] at hE0 hb
  have hg : ∀ W, Ext wb W → Ints W v l := fun W hW => h.ext (hE0.trans hW)
  have hE := Ext.refl wb
  have Hsz : Hid (w.heap.size + 1 = wb.heap.size) := Lib.hid (by rw [hwb]; simp [go_sem])
  have Hwb := Lib.hid hwb
  clear hwb h
  have hbx := hb wb hE
  cases hs : isSetB l a
  · have Hs := Lib.hid (subB_no hs)
    go_enter Try.func94, Try.ntmps94
    go_wp2_with fail
    rw [← Hwb.out]
    go_wp2_with (first | (go_at_call 109; refine (IsSet_val _ _ _ _ (hg _ hE) (hs)).mono ?_; rintro e w' ⟨rfl, hE'⟩; replace hE := hE.trans hE'; clear hE'))
    go_ret
    exact ⟨ret_bool Hs.out.symm, hE0.trans hE⟩
  · have Hs : Hid (∀ n : Nat, a = n → subB l a = ((genF l n : Int) == (n : Int))) := Lib.hid (fun n e => by subst e; exact subB_yes hs)
    obtain ⟨n, hn, h1, h2, hgr⟩ := isSetB_nat hs
    subst hn
    have Hgr := Lib.hid hgr
    clear hgr
    go_enter Try.func94, Try.ntmps94
    go_wp2_with fail
    rw [← Hwb.out]
    go_wp2_with (first | (go_at_call 109; refine (IsSet_val _ _ _ _ (hg _ hE) (hs)).mono ?_; rintro e w' ⟨rfl, hE'⟩; replace hE := hE.trans hE'; clear hE') | (go_at_call 150; refine (generated_any _ _ _ _ (hg _ hE) (Hgr) (h2)).mono ?_; rintro e w' ⟨rfl, hE'⟩; replace hE := hE.trans hE'; clear hE'))
    go_ret
    exact ⟨ret_bool (by rw [Hs.out n rfl]), hE0.trans hE⟩
theorem IsSubgroup_val (v : Value) (l : List Int) (a : Int) (w : World) (h : Ints w v l) {b : Bool} (hb : subB l a = b) :
    Calls Try.prog 94 #[.agg #[v], .int .i64 a] w fun e w' => e = .returned (.bool b) ∧ Ext w w' := by
  subst hb; exact IsSubgroup_any v l a w h
--%call sIsSubgroupV 79 ext sIsSubgroup_val _ _ _ _ ({0}) ({1})
theorem sIsSubgroup_any (v : Value) (l : List Int) (a : Int) (w : World) (h : Ints w v l) :
    Calls Try.prog 79 #[.agg #[v], .int .i64 a] w fun e w' => e = .returned (.bool (subB l a)) ∧ Ext w w' := by
  obtain ⟨wb, hwb⟩ : ∃ wb, wb = w.alloc (.cells #[v] 30) := ⟨_, rfl⟩
  have hE0 := (Ext.refl w).alloc (.cells #[v] 30)
  have hb := box_cell w v 30
  rw [← hwb] at hE0 hb
  have hg : ∀ W, Ext wb W → Ints W v l := fun W hW => h.ext (hE0.trans hW)
  have hE := Ext.refl wb
  have Hsz : Hid (w.heap.size + 1 = wb.heap.size) := Lib.hid (by rw [hwb]; simp [go_sem])
  have Hwb := Lib.hid hwb
  clear hwb h
  have hbx := hb wb hE
  cases hs : isSetB l a
  · have Hs := Lib.hid (subB_no hs)
    go_enter Try.func79, Try.ntmps79
    go_wp2_with fail
    rw [← Hwb.out]
    go_wp2_with (first | (go_at_call 107; refine (sIsSet_val _ _ _ _ (hg _ hE) (hs)).mono ?_; rintro e w' ⟨rfl, hE'⟩; replace hE := hE.trans hE'; clear hE'))
    go_ret
    exact ⟨ret_bool Hs.out.symm, hE0.trans hE⟩
  · have Hs : Hid (∀ n : Nat, a = n → subB l a = ((genF l n : Int) == (n : Int))) := Lib.hid (fun n e => by subst e; exact subB_yes hs)
    obtain ⟨n, hn, h1, h2, hgr⟩ := isSetB_nat hs
    subst hn
    have Hgr := Lib.hid hgr
    clear hgr
    go_enter Try.func79, Try.ntmps79
    go_wp2_with fail
    rw [← Hwb.out]
    go_wp2_with (first | (go_at_call 107; refine (sIsSet_val _ _ _ _ (hg _ hE) (hs)).mono ?_; rintro e w' ⟨rfl, hE'⟩; replace hE := hE.trans hE'; clear hE') | (go_at_call 137; refine (l5Closure_any _ _ _ _ (hg _ hE) (Hgr) (h2)).mono ?_; rintro e w' ⟨rfl, hE'⟩; replace hE := hE.trans hE'; clear hE'))
    go_ret
    exact ⟨ret_bool (by rw [Hs.out n rfl]), hE0.trans hE⟩
theorem sIsSubgroup_val (v : Value) (l : List Int) (a : Int) (w : World) (h : Ints w v l) {b : Bool} (hb : subB l a = b) :
    Calls Try.prog 79 #[.agg #[v], .int .i64 a] w fun e w' => e = .returned (.bool b) ∧ Ext w w' := by
  subst hb; exact sIsSubgroup_any v l a w h
theorem subB_nat {l : List Int} {a : Int} (h : subB l a = true) : ∃ n : Nat, a = n ∧ n < 2 ^ ord l ∧ n < 2 ^ 24 ∧ isGrp l = true := by
  unfold subB at h
  exact isSetB_nat (Bool.and_eq_true_iff.1 h).1
end Go.Zz

/- Sequences of elements: sorted lists, parts, totals, shortest parts with the sum 0. No program is named here. -/
namespace Go.Zz

/-- whether a list ascends -/
def sortB (xs : List Int) : Bool := (List.range xs.length).all (fun j => decide (j = 0) || decide (nth xs (j - 1) ≤ nth xs j))
theorem sortB_iff (xs : List Int) : sortB xs = true ↔ ∀ j, 0 < j → j < xs.length → nth xs (j - 1) ≤ nth xs j := by
  unfold sortB
  simp only [List.all_eq_true, List.mem_range, Bool.or_eq_true, decide_eq_true_eq]
  constructor
  · intro h j h0 hj
    rcases h j hj with e | e
    · omega
    · exact e
  · intro h j hj
    by_cases e : j = 0
    · exact Or.inl e
    · exact Or.inr (h j (by omega) hj)
theorem sortB_no {xs : List Int} {j : Nat} (h0 : 0 < j) (hj : j < xs.length) (h : nth xs j < nth xs (j - 1)) : sortB xs = false := by
  rw [← Bool.not_eq_true, sortB_iff]
  intro hall; have := hall j h0 hj; omega
def seqB (l xs : List Int) : Bool := xs.all (hasB l) && isGrp l && decide (xs.length ≤ 12) && sortB xs
theorem seqB_has {l xs : List Int} {k : Nat} (hk : k < xs.length) (h : hasB l (nth xs k) = false) : seqB l xs = false := by
  have : xs.all (hasB l) = false := by
    rw [← Bool.not_eq_true, List.all_eq_true]
    intro hall; rw [hall _ (nth_mem hk)] at h; cases h
  unfold seqB; rw [this]; rfl
theorem seqB_down {l xs : List Int} {k : Nat} (h0 : 0 < k) (hk : k < xs.length) (h : nth xs k < nth xs (k - 1)) : seqB l xs = false := by
  unfold seqB; rw [sortB_no h0 hk h]; simp
theorem seqB_end {l xs : List Int} (h : ∀ j, j < xs.length → hasB l (nth xs j) = true) : seqB l xs = (isGrp l && decide (xs.length ≤ 12) && sortB xs) := by
  have : xs.all (hasB l) = true := by
    rw [List.all_eq_true]
    intro x hx; obtain ⟨k, hk, rfl⟩ := mem_nth hx; exact h k hk
  unfold seqB; rw [this]; simp
theorem nat_list : ∀ (xs : List Int), (∀ x ∈ xs, ∃ n : Nat, x = n) → ∃ X : List Nat, xs = castL X
  | [], _ => ⟨[], rfl⟩
  | x :: xs, h => by
    obtain ⟨n, hn⟩ := h x (by simp)
    obtain ⟨X, hX⟩ := nat_list xs (fun y hy => h y (by simp [hy]))
    exact ⟨n :: X, by rw [hn, hX]; simp [castL]⟩
theorem seqB_nat {l xs : List Int} (h : seqB l xs = true) : ∃ X : List Nat, xs = castL X ∧ (∀ x ∈ X, x < ord l) ∧ X.length ≤ 12 ∧ isGrp l = true ∧ ∀ x ∈ X, x < 24 := by
  simp only [seqB, Bool.and_eq_true, List.all_eq_true, decide_eq_true_eq] at h
  obtain ⟨⟨⟨h1, h2⟩, h3⟩, _⟩ := h
  obtain ⟨X, rfl⟩ := nat_list xs (fun x hx => by obtain ⟨n, hn, _⟩ := hasB_nat (h1 x hx); exact ⟨n, hn⟩)
  have hx : ∀ x ∈ X, x < ord l := fun x hx => by
    obtain ⟨n, hn, hlt, _⟩ := hasB_nat (h1 (x : Int) (by simp [castL]; exact ⟨x, hx, rfl⟩))
    have : x = n := by omega
    omega
  exact ⟨X, rfl, hx, by simpa [castL_len] using h3, h2, fun x hx' => Nat.lt_of_lt_of_le (hx x hx') (ord_bd h2).2⟩
/-- the terms of a mask -/
def partTo (xs : List Int) (m k : Nat) : List Int := ((List.range k).filter (fun i => m.testBit i)).map (nth xs)
def partI (xs : List Int) (m : Nat) : List Int := partTo xs m xs.length
theorem partTo_yes {xs : List Int} {m k : Nat} (h : m.testBit k = true) : partTo xs m (k + 1) = partTo xs m k ++ [nth xs k] := by
  unfold partTo; rw [List.range_succ, List.filter_append, List.map_append]; simp [h]
theorem partTo_no {xs : List Int} {m k : Nat} (h : m.testBit k = false) : partTo xs m (k + 1) = partTo xs m k := by
  unfold partTo; rw [List.range_succ, List.filter_append, List.map_append]; simp [h]
theorem partTo_len (xs : List Int) (m k : Nat) : (partTo xs m k).length ≤ k := by
  unfold partTo; rw [List.length_map]; exact Nat.le_trans (List.length_filter_le _ _) (by simp)
def partL (X : List Nat) (m : Nat) : List Nat := ((List.range X.length).filter (fun i => m.testBit i)).map (nthN X)
theorem partI_cast (X : List Nat) (m : Nat) : partI (castL X) m = castL (partL X m) := by
  unfold partI partTo partL castL
  rw [List.length_map, List.map_map]
  apply List.map_congr_left
  intro i _
  exact nth_castL X i
theorem partL_mem {X : List Nat} {m x : Nat} (h : x ∈ partL X m) : x ∈ X := by
  unfold partL at h
  rw [List.mem_map] at h
  obtain ⟨i, hi, rfl⟩ := h
  exact nthN_mem (List.mem_range.1 (List.mem_filter.1 hi).1)
theorem partL_le (X : List Nat) (m : Nat) : (partL X m).length ≤ X.length := by
  unfold partL; rw [List.length_map]; exact Nat.le_trans (List.length_filter_le _ _) (by simp)
theorem partL_len {X : List Nat} {m : Nat} (hX : X.length ≤ 24) (hm : m < 2 ^ X.length) : (partL X m).length = cnt m := by
  unfold partL; rw [List.length_map]
  have := elemsTo_all hX hm
  unfold elemsTo at this
  rw [this]; rfl
/-- the sum of all terms -/
def tot (l : List Int) (X : List Nat) : Nat := X.foldl (fun s x => addF l s x) 0
theorem tot_snoc (l : List Int) (X : List Nat) (x : Nat) : tot l (X ++ [x]) = addF l (tot l X) x := by unfold tot; rw [List.foldl_append]; rfl
theorem tot_bd {l : List Int} (h : isGrp l = true) (X : List Nat) : tot l X < 24 := by
  rcases List.eq_nil_or_concat X with rfl | ⟨Y, y, rfl⟩
  · show (0:Nat) < 24; omega
  · rw [List.concat_eq_append, tot_snoc]; exact addF_bd h _ _
theorem take_snocN (L : List Nat) (k : Nat) (h : k < L.length) : L.take (k + 1) = L.take k ++ [nthN L k] := take_nthN L k h
/-- the first mask of so many terms with the sum 0 -/
def zol (l : List Int) (X : List Nat) (k : Nat) : Option Nat := (List.range (pw X.length)).find? (fun m => decide (cnt m = k) && decide (tot l (partL X m) = 0))
def zolL (l : List Int) (X : List Nat) (k : Nat) : List Nat := match zol l X k with | some m => partL X m | none => []
def zolB (l : List Int) (X : List Nat) (k : Nat) : Bool := (zol l X k).isSome
theorem zol_at {l : List Int} {X : List Nat} {k m : Nat} (hm : m < pw X.length) (h : ∀ j, j < m → ¬ (cnt j = k ∧ tot l (partL X j) = 0)) (e1 : cnt m = k) (e2 : tot l (partL X m) = 0) : zolL l X k = partL X m ∧ zolB l X k = true ∧ zol l X k = some m := by
  have : zol l X k = some m := find_at hm (fun j hj => by
    have := h j hj
    by_cases a : cnt j = k
    · have b : ¬ tot l (partL X j) = 0 := fun b => this ⟨a, b⟩
      simp [b]
    · simp [a]) (by simp [e1, e2])
  unfold zolL zolB; rw [this]; exact ⟨rfl, rfl, rfl⟩
theorem zol_none {l : List Int} {X : List Nat} {k : Nat} (h : ∀ j, j < pw X.length → ¬ (cnt j = k ∧ tot l (partL X j) = 0)) : zolL l X k = [] ∧ zolB l X k = false ∧ zol l X k = none := by
  have : zol l X k = none := find_none (fun j hj => by
    have := h j hj
    by_cases a : cnt j = k
    · have b : ¬ tot l (partL X j) = 0 := fun b => this ⟨a, b⟩
      simp [b]
    · simp [a])
  unfold zolL zolB; rw [this]; exact ⟨rfl, rfl, rfl⟩
/-- the best mask below c, 0 if there is none -/
def szTo (l : List Int) (X : List Nat) : Nat → Nat
  | 0 => 0
  | c + 1 => if c ≠ 0 ∧ tot l (partL X c) = 0 ∧ (szTo l X c = 0 ∨ cnt c < cnt (szTo l X c)) then c else szTo l X c
theorem szTo_yes {l : List Int} {X : List Nat} {c : Nat} (h0 : c ≠ 0) (h1 : tot l (partL X c) = 0) (h2 : szTo l X c = 0 ∨ cnt c < cnt (szTo l X c)) : szTo l X (c + 1) = c := by rw [szTo, if_pos ⟨h0, h1, h2⟩]
theorem szTo_no {l : List Int} {X : List Nat} {c : Nat} (h : ¬ (tot l (partL X c) = 0 ∧ (szTo l X c = 0 ∨ cnt c < cnt (szTo l X c)))) : szTo l X (c + 1) = szTo l X c := by rw [szTo, if_neg (fun e => h e.2)]
theorem szTo_one (l : List Int) (X : List Nat) : szTo l X 1 = 0 := by rw [szTo, if_neg (fun e => e.1 rfl)]; rfl
theorem szTo_spec (l : List Int) (X : List Nat) : ∀ c, (szTo l X c = 0 ∧ ∀ m, m < c → m ≠ 0 → tot l (partL X m) ≠ 0) ∨
    (szTo l X c ≠ 0 ∧ szTo l X c < c ∧ tot l (partL X (szTo l X c)) = 0 ∧ ∀ m, m < c → m ≠ 0 → tot l (partL X m) = 0 → cnt (szTo l X c) < cnt m ∨ (cnt (szTo l X c) = cnt m ∧ szTo l X c ≤ m))
  | 0 => Or.inl ⟨rfl, fun m hm => by omega⟩
  | c + 1 => by
    have ih := szTo_spec l X c
    by_cases h : c ≠ 0 ∧ tot l (partL X c) = 0 ∧ (szTo l X c = 0 ∨ cnt c < cnt (szTo l X c))
    · rw [szTo_yes h.1 h.2.1 h.2.2]
      refine Or.inr ⟨h.1, by omega, h.2.1, fun m hm h0 ht => ?_⟩
      by_cases e : m = c
      · subst e; exact Or.inr ⟨rfl, Nat.le_refl _⟩
      · rcases ih with ⟨i1, i2⟩ | ⟨i1, i2, i3, i4⟩
        · exact absurd ht (i2 m (by omega) h0)
        · rcases h.2.2 with e2 | e2
          · exact absurd e2 i1
          · rcases i4 m (by omega) h0 ht with q | q <;> omega
    · have e : szTo l X (c + 1) = szTo l X c := by rw [szTo, if_neg h]
      rw [e]
      rcases ih with ⟨i1, i2⟩ | ⟨i1, i2, i3, i4⟩
      · refine Or.inl ⟨i1, fun m hm h0 => ?_⟩
        by_cases e : m = c
        · subst e; exact fun ht => h ⟨h0, ht, Or.inl i1⟩
        · exact i2 m (by omega) h0
      · refine Or.inr ⟨i1, by omega, i3, fun m hm h0 ht => ?_⟩
        by_cases e : m = c
        · subst e
          have : ¬ cnt m < cnt (szTo l X m) := fun q => h ⟨h0, ht, Or.inr q⟩
          omega
        · exact i4 m (by omega) h0 ht
theorem szTo_lt (l : List Int) (X : List Nat) (c : Nat) : szTo l X c ≤ c := by
  rcases szTo_spec l X c with ⟨h, _⟩ | ⟨_, h, _⟩ <;> omega
def szN (l : List Int) (X : List Nat) : Nat := szTo l X (pw X.length)
def szL' (X : List Nat) (b : Nat) : List Nat := if b = 0 then [] else partL X b
def szR (l : List Int) (X : List Nat) : List Nat := szL' X (szN l X)
def szB (l : List Int) (X : List Nat) : Bool := decide (szN l X ≠ 0)
theorem szL'_len {X : List Nat} {b : Nat} (hX : X.length ≤ 12) (hb : b < 2 ^ X.length) : (szL' X b).length = cnt b := by
  unfold szL'
  by_cases h : b = 0
  · rw [if_pos h, h, cnt_zero]; rfl
  · rw [if_neg h, partL_len (by omega) hb]
theorem cnt_mask {n m : Nat} (hn : n ≤ 24) (hm : m < 2 ^ n) : cnt m ≤ n := by
  have := elemsTo_all hn hm
  unfold cnt; rw [← this]; exact elemsTo_len m n
/-- the first length at which a part is found tells the best one -/
theorem sz_at {l : List Int} {X : List Nat} (hX : X.length ≤ 12) {k : Nat} (hk : 1 ≤ k) (h : ∀ j, 1 ≤ j → j < k → zolB l X j = false) (hz : zolB l X k = true) : szR l X = zolL l X k ∧ szB l X = true := by
  unfold zolB at hz
  cases hq : zol l X k with
  | none => rw [hq] at hz; cases hz
  | some m =>
    have hm := List.find?_some hq
    have hmr := List.mem_of_find?_eq_some hq
    rw [List.mem_range] at hmr
    simp only [Bool.and_eq_true, decide_eq_true_eq] at hm
    have h0 : m ≠ 0 := fun e => by rw [e, cnt_zero] at hm; omega
    have key : szN l X = m := by
      rcases szTo_spec l X (pw X.length) with ⟨_, i2⟩ | ⟨i1, i2, i3, i4⟩
      · exact absurd hm.2 (i2 m hmr h0)
      · have hb : szN l X = szTo l X (pw X.length) := rfl
        rw [← hb] at i1 i2 i3 i4
        have c1 := cnt_pos (a := szN l X) (by omega) (by have := cnt_mask (n := X.length) (m := szN l X) (by omega) i2; exact Nat.lt_of_lt_of_le i2 (Nat.pow_le_pow_right (by omega) (by omega)))
        rcases i4 m hmr h0 hm.2 with q | q
        · have hj := h (cnt (szN l X)) c1 (by omega)
          unfold zolB zol at hj
          have : ((List.range (pw X.length)).find? (fun m => decide (cnt m = cnt (szN l X)) && decide (tot l (partL X m) = 0))).isSome = true := by
            rw [List.find?_isSome]
            exact ⟨szN l X, List.mem_range.2 i2, by simp [i3]⟩
          rw [this] at hj; cases hj
        · have hle : m ≤ szN l X := by
            rcases Nat.lt_or_ge (szN l X) m with hlt | hge
            · exfalso
              unfold zol at hq
              rw [List.find?_range_eq_some] at hq
              have := hq.2.2 (szN l X) hlt
              simp [i3] at this
              omega
            · exact hge
          omega
    unfold szR szL' szB zolL
    rw [key, if_neg h0, hq]
    exact ⟨rfl, decide_eq_true h0⟩
theorem sz_none {l : List Int} {X : List Nat} (hX : X.length ≤ 12) (h : ∀ j, 1 ≤ j → j ≤ X.length → zolB l X j = false) : szR l X = [] ∧ szB l X = false := by
  have key : szN l X = 0 := by
    rcases szTo_spec l X (pw X.length) with ⟨i1, _⟩ | ⟨i1, i2, i3, i4⟩
    · exact i1
    · exfalso
      have hb : szN l X = szTo l X (pw X.length) := rfl
      rw [← hb] at i1 i2 i3
      have c2 := cnt_mask (n := X.length) (m := szN l X) (by omega) i2
      have c1 := cnt_pos (a := szN l X) (by omega) (Nat.lt_of_lt_of_le i2 (Nat.pow_le_pow_right (by omega) (by omega)))
      have hj := h (cnt (szN l X)) c1 c2
      unfold zolB zol at hj
      have : ((List.range (pw X.length)).find? (fun m => decide (cnt m = cnt (szN l X)) && decide (tot l (partL X m) = 0))).isSome = true := by
        rw [List.find?_isSome]
        exact ⟨szN l X, List.mem_range.2 i2, by simp [i3]⟩
      rw [this] at hj; cases hj
  unfold szR szL' szB
  rw [key]; exact ⟨rfl, rfl⟩
end Go.Zz

/- Sequences of elements: IsSequence, parts, totals, the shortest part with the sum 0. -/
namespace Go.Zz
open Go.RowKit Go.Proofs
set_option maxHeartbeats 1000000
set_option maxRecDepth 20000

theorem Calls.ext_of_same {P : Program} {f : FuncId} {args : Array Value} {w : World} {v : Value} (h : Calls P f args w fun e w' => e = .returned v ∧ w = w') :
    Calls P f args w fun e w' => e = .returned v ∧ Ext w w' := h.mono fun _ _ ⟨he, hw⟩ => ⟨he, hw ▸ Ext.refl _⟩
theorem cmpLess_any (a b : Int) (w : World) :
    Calls Try.prog 165 #[.int .i64 a, .int .i64 b] w fun e w' => e = .returned (.bool (decide (a < b))) ∧ w = w' := by
  have hn : ∀ (x : Int) (W : World), Calls Try.prog 169 #[.int .i64 x] W fun e w' => e = .returned (.bool false) ∧ W = w' := fun x W => by
    go_enter Try.func169, Try.ntmps169
    go_wp2_with fail
    go_ret
    exact ⟨by simp, rfl⟩
  have hd : ∃ d, d = decide (a < b) := ⟨_, rfl⟩
  go_enter Try.func165, Try.ntmps165
  go_wp2_with (first | (go_at_call 169; refine (hn _ _).mono ?_; rintro e w' ⟨rfl, rfl⟩))
  go_ret
  exact ⟨rfl, rfl⟩
theorem cmpLess_val (a b : Int) (w : World) {c : Bool} (hc : decide (a < b) = c) :
    Calls Try.prog 165 #[.int .i64 a, .int .i64 b] w fun e w' => e = .returned (.bool c) ∧ w = w' := by subst hc; exact cmpLess_any a b w
theorem slicesIsSorted_any (u : Value) (xs : List Int) (w : World) (h : Ints w u xs) :
    Calls Try.prog 141 #[u] w fun e w' => e = .returned (.bool (sortB xs)) ∧ Ext w w' := by
  obtain ⟨ao, c, adr, rfl, hlen, hadr, hcell⟩ := h.op
  have hix := ints_index (c := c) elI szI hadr
  have Hit := Lib.hid (sortB_iff xs)
  have Hno : Hid (∀ j, 0 < j → j < xs.length → nth xs j < nth xs (j - 1) → sortB xs = false) := Lib.hid fun j a b c => sortB_no a b c
  have hE := Ext.refl w
  clear h hadr
  go_enter Try.func141, Try.ntmps141
  go_wp2_with fail
  go_loopw [3] (fun i wr => ∃ z : Int, z < (xs.length : Int) ∧ -1 ≤ z ∧ i = .int .i64 z ∧ (∀ j : Nat, z < (j : Int) → j < xs.length → nth xs (j - 1) ≤ nth xs j) ∧ Ext w wr) (fun i _ => (intOf i).toNat)
  case atStart => exact ⟨_, by omega, by omega, rfl, fun j h1 h2 => by omega, hE⟩
  case round =>
    clear hE
    obtain ⟨z, hz1, hz2, rfl, hall, hE⟩ := hrel
    have Hall := Lib.hid hall
    clear hall
    by_cases hp : 0 < z
    · obtain ⟨k, rfl⟩ := Int.eq_ofNat_of_zero_le (show 0 ≤ z by omega)
      have hk : k < xs.length := by omega
      have hk0 : 0 < k := by omega
      obtain ⟨q, hq⟩ : ∃ q, q + 1 = k := ⟨k - 1, by omega⟩
      have hw : IntKind.i64.wrap ((k : Int) - 1) = (q : Int) := by rw [← hq]; exact (IntWalk.i64_in _ (by omega)).trans (by omega)
      have hql : q < xs.length := by omega
      have hck := fun U => hcell k _ hk (hE.trans (lat_ext wr U))
      have hcq := fun U => hcell q _ hql (hE.trans (lat_ext wr U))
      have Hqk := Lib.hid (show q = k - 1 by omega)
      clear hq
      have hE1 := hE
      clear hE
      have hE := Ext.refl wr
      cases hd : decide (nth xs k < nth xs q)
      · have Hd := Lib.hid (of_decide_eq_false hd)
        go_wp2_with fail
        (refine wp_region_lat (wr) (by kernel_rfl) (by kernel_rfl) hE ?_); (repeat (go_big_quiet_step (first | (go_at_call 165; exact Calls.lat_same (cmpLess_val _ _ _ hd))))); (refine wpQuiet_nil ?_); (intro W hE'); (replace hE := lat_of hE'); (clear hE')
        go_wp2_with fail
        go_roundw
        case rel => exact ⟨(q : Int), by have := Hqk.out; omega, by omega, rfl, fun j h1 h2 => by by_cases e : j = k; (subst e; have := Hd.out; rw [Hqk.out] at this; omega); exact Hall.out j (by have := Hqk.out; omega) h2, hE1.trans hE⟩
        case measure => (have := Hqk.out; simp [intOf]; omega)
      · have Hd : Hid (sortB xs = false) := Lib.hid (Hno.out k hk0 hk (by rw [← Hqk.out]; exact of_decide_eq_true hd))
        go_wp2_with fail
        (refine wp_region_lat (wr) (by kernel_rfl) (by kernel_rfl) hE ?_); (repeat (go_big_quiet_step (first | (go_at_call 165; exact Calls.lat_same (cmpLess_val _ _ _ hd))))); (refine wpQuiet_nil ?_); (intro W hE'); (replace hE := lat_of hE'); (clear hE')
        go_wp2_with fail
        go_ret
        exact ⟨ret_bool Hd.out.symm, hE1.trans hE⟩
    · have Hz : Hid (sortB xs = true) := Lib.hid (Hit.out.2 fun j h0 hj => Hall.out j (by omega) hj)
      go_wp2_with fail
      go_ret
      exact ⟨ret_bool Hz.out.symm, hE⟩
theorem slicesIsSorted_val (u : Value) (xs : List Int) (w : World) (h : Ints w u xs) {c : Bool} (hc : sortB xs = c) :
    Calls Try.prog 141 #[u] w fun e w' => e = .returned (.bool c) ∧ Ext w w' := by subst hc; exact slicesIsSorted_any u xs w h
theorem IsGroup_val (v : Value) (l : List Int) (w : World) (h : Ints w v l) {c : Bool} (hc : isGrp l = c) :
    Calls Try.prog 58 #[.agg #[v]] w fun e w' => e = .returned (.bool c) ∧ Ext w w' := by subst hc; exact IsGroup_any v l w h
theorem IsSequence_any (v u : Value) (l xs : List Int) (w : World) (h : Ints w v l) (hu : Ints w u xs) :
    Calls Try.prog 84 #[.agg #[v], u] w fun e w' => e = .returned (.bool (seqB l xs)) ∧ Ext w w' := by
  obtain ⟨wb, hwb⟩ : ∃ wb, wb = w.alloc (.cells #[v] 30) := ⟨_, rfl⟩
  have hE0 := (Ext.refl w).alloc (.cells #[v] 30)
  have hb := box_cell w v 30
  rw [← hwb] at hE0 hb
  have hg : ∀ W, Ext wb W → Ints W v l := fun W hW => h.ext (hE0.trans hW)
  have hgu : Hid (∀ W, Ext wb W → Ints W u xs) := Lib.hid fun W hW => hu.ext (hE0.trans hW)
  have hE := Ext.refl wb
  have Hwb := Lib.hid hwb
  clear hwb h
  obtain ⟨ao, c, adr, rfl, hlen, hadr, hcell⟩ := (hgu.out wb hE).op
  have hix := ints_index (c := c) elI szI hadr
  have Hhas : Hid (∀ k, k < xs.length → hasB l (nth xs k) = false → seqB l xs = false) := Lib.hid fun k a b => seqB_has a b
  have Hend := Lib.hid (fun h => seqB_end (l := l) (xs := xs) h)
  clear hadr hu
  go_enter Try.func84, Try.ntmps84
  go_wp2_with fail
  rw [← Hwb.out]
  go_loopw [9] (fun i wr => ∃ k : Nat, k ≤ xs.length ∧ i = .int .i64 k ∧ (∀ j, j < k → hasB l (nth xs j) = true) ∧ Ext wb wr) (fun i _ => xs.length - (intOf i).toNat)
  case atStart => exact ⟨0, by omega, rfl, by omega, hE⟩
  case round =>
    clear hE
    obtain ⟨k, hk, rfl, hall, hE⟩ := hrel
    have Hall := Lib.hid hall
    clear hall
    have hbx := hb _ hE
    by_cases hlt : k < xs.length
    · have hck := hcell k _ hlt hE
      cases hh : hasB l (nth xs k)
      · have Hz := Lib.hid (Hhas.out k hlt hh)
        go_wp2_with (first | (go_at_call 140; refine (has_val _ _ _ _ (hg _ hE) (hh)).mono ?_; rintro e w' ⟨rfl, hE'⟩; replace hE := hE.trans hE'; clear hE'))
        go_ret
        exact ⟨ret_bool Hz.out.symm, hE0.trans hE⟩
      · have Hk := Lib.hid hh
        go_wp2_with (first | (go_at_call 140; refine (has_val _ _ _ _ (hg _ hE) (hh)).mono ?_; rintro e w' ⟨rfl, hE'⟩; replace hE := hE.trans hE'; clear hE'))
        go_roundw
        case rel => exact ⟨k + 1, by omega, by go_num, fun j hj => by by_cases e : j = k; (subst e; exact Hk.out); exact Hall.out j (by omega), hE⟩
        case measure => (simp [intOf]; omega)
    · have hkl : k = xs.length := by omega
      subst hkl
      have He := Lib.hid (Hend.out Hall.out)
      cases hgr : isGrp l
      · have Hz : Hid (seqB l xs = false) := Lib.hid (by rw [He.out, hgr]; rfl)
        go_wp2_with (first | (go_at_call 58; refine (IsGroup_val _ _ _ (hg _ hE) hgr).mono ?_; rintro e w' ⟨rfl, hE'⟩; replace hE := hE.trans hE'; clear hE'))
        go_ret
        exact ⟨ret_bool Hz.out.symm, hE0.trans hE⟩
      · by_cases h12 : xs.length ≤ 12
        · have Hz : Hid (seqB l xs = sortB xs) := Lib.hid (by rw [He.out, hgr, decide_eq_true h12]; rfl)
          go_wp2_with (first | (go_at_call 58; refine (IsGroup_val _ _ _ (hg _ hE) hgr).mono ?_; rintro e w' ⟨rfl, hE'⟩; replace hE := hE.trans hE'; clear hE') | (go_at_call 141; refine (slicesIsSorted_any _ _ _ (hgu.out _ hE)).mono ?_; rintro e w' ⟨rfl, hE'⟩; replace hE := hE.trans hE'; clear hE'))
          go_ret
          exact ⟨ret_bool Hz.out.symm, hE0.trans hE⟩
        · have Hz : Hid (seqB l xs = false) := Lib.hid (by rw [He.out, hgr, decide_eq_false h12]; rfl)
          have h12' : ¬ (xs.length : Int) ≤ 12 := by omega
          go_wp2_with (first | (go_at_call 58; refine (IsGroup_val _ _ _ (hg _ hE) hgr).mono ?_; rintro e w' ⟨rfl, hE'⟩; replace hE := hE.trans hE'; clear hE'))
          go_ret
          exact ⟨ret_bool Hz.out.symm, hE0.trans hE⟩
theorem IsSequence_val (v u : Value) (l xs : List Int) (w : World) (h : Ints w v l) (hu : Ints w u xs) {c : Bool} (hc : seqB l xs = c) :
    Calls Try.prog 84 #[.agg #[v], u] w fun e w' => e = .returned (.bool c) ∧ Ext w w' := by subst hc; exact IsSequence_any v u l xs w h hu
theorem sIsGroup_val (v : Value) (l : List Int) (w : World) (h : Ints w v l) {c : Bool} (hc : isGrp l = c) :
    Calls Try.prog 50 #[.agg #[v]] w fun e w' => e = .returned (.bool c) ∧ Ext w w' := by subst hc; exact sIsGroup_any v l w h
theorem sIsSequence_any (v u : Value) (l xs : List Int) (w : World) (h : Ints w v l) (hu : Ints w u xs) :
    Calls Try.prog 70 #[.agg #[v], u] w fun e w' => e = .returned (.bool (seqB l xs)) ∧ Ext w w' := by
  obtain ⟨wb, hwb⟩ : ∃ wb, wb = w.alloc (.cells #[v] 30) := ⟨_, rfl⟩
  have hE0 := (Ext.refl w).alloc (.cells #[v] 30)
  have hb := box_cell w v 30
  rw [← hwb] at hE0 hb
  have hg : ∀ W, Ext wb W → Ints W v l := fun W hW => h.ext (hE0.trans hW)
  have hgu : Hid (∀ W, Ext wb W → Ints W u xs) := Lib.hid fun W hW => hu.ext (hE0.trans hW)
  have hE := Ext.refl wb
  have Hwb := Lib.hid hwb
  clear hwb h
  obtain ⟨ao, c, adr, rfl, hlen, hadr, hcell⟩ := (hgu.out wb hE).op
  have hix := ints_index (c := c) elI szI hadr
  have Hhas : Hid (∀ k, k < xs.length → hasB l (nth xs k) = false → seqB l xs = false) := Lib.hid fun k a b => seqB_has a b
  have Hdown : Hid (∀ k, 0 < k → k < xs.length → nth xs k < nth xs (k - 1) → seqB l xs = false) := Lib.hid fun k a b c => seqB_down a b c
  have Hend := Lib.hid (fun h => seqB_end (l := l) (xs := xs) h)
  have Hit := Lib.hid (sortB_iff xs)
  clear hadr hu
  go_enter Try.func70, Try.ntmps70
  go_wp2_with fail
  rw [← Hwb.out]
  go_loopw [5] (fun i wr => ∃ k : Nat, k ≤ xs.length ∧ i = .int .i64 k ∧ (∀ j, j < k → hasB l (nth xs j) = true ∧ (0 < j → nth xs (j - 1) ≤ nth xs j)) ∧ Ext wb wr) (fun i _ => xs.length - (intOf i).toNat)
  case atStart => exact ⟨0, by omega, rfl, by omega, hE⟩
  case round =>
    clear hE
    obtain ⟨k, hk, rfl, hall, hE⟩ := hrel
    have Hall := Lib.hid hall
    clear hall
    by_cases hlt : k < xs.length
    · have hck := fun U => hcell k _ hlt (hE.trans (lat_ext wr U))
      have hbu := fun U => hb _ (hE.trans (lat_ext wr U))
      have hgr' : ∀ W, Ext wr W → Ints W v l := fun W hW => hg W (hE.trans hW)
      have hE1 := hE
      clear hE
      have hE := Ext.refl wr
      cases hh : hasB l (nth xs k)
      · have Hz := Lib.hid (Hhas.out k hlt hh)
        go_wp2_with fail
        (refine wp_region_lat (wr) (by kernel_rfl) (by kernel_rfl) hE ?_); (repeat (go_big_quiet_step (first | (go_at_call 129; exact Calls.lat (l2Is_val _ _ _ _ (hgr' _ (lat_ext wr _)) (hh)))))); (refine wpQuiet_nil ?_); (intro W hE'); (replace hE := lat_of hE'); (clear hE')
        go_wp2_with fail
        go_ret
        exact ⟨ret_bool Hz.out.symm, hE0.trans (hE1.trans hE)⟩
      · have Hk := Lib.hid hh
        by_cases h0 : k = 0
        · have Hk0 := Lib.hid h0
          have hd0 : ¬ (0 : Int) < (k : Int) := by omega
          have hdn : ¬ 0 < k := by omega
          clear h0
          go_wp2_with fail
          (refine wp_region_lat (wr) (by kernel_rfl) (by kernel_rfl) hE ?_); (repeat (go_big_quiet_step (first | (go_at_call 129; exact Calls.lat (l2Is_val _ _ _ _ (hgr' _ (lat_ext wr _)) (hh)))))); (refine wpQuiet_nil ?_); (intro W hE'); (replace hE := lat_of hE'); (clear hE')
          go_wp2_with fail
          go_roundw
          case rel => exact ⟨k + 1, by omega, by go_num, fun j hj => by by_cases e : j = k; (subst e; exact ⟨Hk.out, fun h => by have := Hk0.out; omega⟩); exact Hall.out j (by omega), hE1.trans hE⟩
          case measure => (simp [intOf]; omega)
        · have hd0 : (0 : Int) < (k : Int) := by omega
          have hk0 : 0 < k := by omega
          clear h0
          obtain ⟨q, hq⟩ : ∃ q, q + 1 = k := ⟨k - 1, by omega⟩
          have hw : IntKind.i64.wrap ((k : Int) - 1) = (q : Int) := by rw [← hq]; exact (IntWalk.i64_in _ (by omega)).trans (by omega)
          have hql : q < xs.length := by omega
          have hcq := fun U => hcell q _ hql (hE1.trans (lat_ext wr U))
          have Hqk := Lib.hid (show q = k - 1 by omega)
          clear hq
          cases hd : decide (nth xs k < nth xs q)
          · have Hd := Lib.hid (of_decide_eq_false hd)
            go_wp2_with fail
            (refine wp_region_lat (wr) (by kernel_rfl) (by kernel_rfl) hE ?_); (repeat (go_big_quiet_step (first | (go_at_call 129; exact Calls.lat (l2Is_val _ _ _ _ (hgr' _ (lat_ext wr _)) (hh)))))); (refine wpQuiet_nil ?_); (intro W hE'); (replace hE := lat_of hE'); (clear hE')
            go_wp2_with fail
            go_roundw
            case rel => exact ⟨k + 1, by omega, by go_num, fun j hj => by by_cases e : j = k; (subst e; exact ⟨Hk.out, fun _ => by have := Hd.out; rw [Hqk.out] at this; omega⟩); exact Hall.out j (by omega), hE1.trans hE⟩
            case measure => (simp [intOf]; omega)
          · have Hz := Lib.hid (Hdown.out k hk0 hlt (by rw [← Hqk.out]; exact of_decide_eq_true hd))
            go_wp2_with fail
            (refine wp_region_lat (wr) (by kernel_rfl) (by kernel_rfl) hE ?_); (repeat (go_big_quiet_step (first | (go_at_call 129; exact Calls.lat (l2Is_val _ _ _ _ (hgr' _ (lat_ext wr _)) (hh)))))); (refine wpQuiet_nil ?_); (intro W hE'); (replace hE := lat_of hE'); (clear hE')
            go_wp2_with fail
            go_ret
            exact ⟨ret_bool Hz.out.symm, hE0.trans (hE1.trans hE)⟩
    · have hkl : k = xs.length := by omega
      subst hkl
      have hbx := hb _ hE
      have He := Lib.hid (Hend.out fun j hj => (Hall.out j hj).1)
      have Hs : Hid (sortB xs = true) := Lib.hid (Hit.out.2 fun j h0 hj => (Hall.out j hj).2 h0)
      cases hgr : isGrp l
      · have Hz : Hid (seqB l xs = false) := Lib.hid (by rw [He.out, hgr]; rfl)
        go_wp2_with (first | (go_at_call 50; refine (sIsGroup_val _ _ _ (hg _ hE) hgr).mono ?_; rintro e w' ⟨rfl, hE'⟩; replace hE := hE.trans hE'; clear hE'))
        go_ret
        exact ⟨ret_bool Hz.out.symm, hE0.trans hE⟩
      · by_cases h12 : xs.length ≤ 12
        · have Hz : Hid (seqB l xs = true) := Lib.hid (by rw [He.out, hgr, decide_eq_true h12, Hs.out]; rfl)
          go_wp2_with (first | (go_at_call 50; refine (sIsGroup_val _ _ _ (hg _ hE) hgr).mono ?_; rintro e w' ⟨rfl, hE'⟩; replace hE := hE.trans hE'; clear hE'))
          go_ret
          exact ⟨ret_bool (by rw [Hz.out]; exact decide_eq_true (by omega)), hE0.trans hE⟩
        · have Hz : Hid (seqB l xs = false) := Lib.hid (by rw [He.out, hgr, decide_eq_false h12]; rfl)
          go_wp2_with (first | (go_at_call 50; refine (sIsGroup_val _ _ _ (hg _ hE) hgr).mono ?_; rintro e w' ⟨rfl, hE'⟩; replace hE := hE.trans hE'; clear hE'))
          go_ret
          exact ⟨ret_bool (by rw [Hz.out]; exact decide_eq_false (by omega)), hE0.trans hE⟩
theorem sIsSequence_val (v u : Value) (l xs : List Int) (w : World) (h : Ints w v l) (hu : Ints w u xs) {c : Bool} (hc : seqB l xs = c) :
    Calls Try.prog 70 #[.agg #[v], u] w fun e w' => e = .returned (.bool c) ∧ Ext w w' := by subst hc; exact sIsSequence_any v u l xs w h hu
end Go.Zz

/- Parts of sequences and their totals, the first part of a length, the shortest part, with the sum 0. -/
namespace Go.Zz
open Go.RowKit Go.Proofs
set_option maxHeartbeats 1000000
set_option maxRecDepth 20000

theorem part_int (u : Value) (xs : List Int) (m : Nat) (w : World) (hu : Ints w u xs) (hm : m < 2 ^ 24) (hl : xs.length ≤ 24) :
    Calls Try.prog 104 #[u, .int .i64 m] w fun e w' => ∃ p, e = .returned p ∧ Own 3 w w' p (partI xs m) ∧ Ext w w' := by
  have hO := own_made (TI := 3) (n := 0) (by omega) (Ext.refl w) [] rfl
  have hE := (Ext.refl w).alloc (.cells #[] 3)
  obtain ⟨ao, c, adr, rfl, hlen, hadr, hcell⟩ := hu.op
  have hix := ints_index (c := c) elI szI hadr
  clear hadr hu
  go_enter Try.func104, Try.ntmps104
  go_wp2_with fail
  go_loopw [5, 11] (fun p i wr => ∃ k : Nat, k ≤ xs.length ∧ i = .int .i64 k ∧ Own 3 w wr p (partTo xs m k) ∧ Ext w wr) (fun _ i _ => xs.length - (intOf i).toNat)
  case atStart => exact ⟨0, by omega, rfl, by have e : partTo xs m 0 = [] := rfl; rw [e]; exact hO, hE⟩
  case round =>
    clear hE hO
    obtain ⟨k, hk, rfl, hO, hE⟩ := hrel
    by_cases hlt : k < xs.length
    · have hck := hcell k _ hlt hE
      have hpl := partTo_len xs m k
      have hsh := ishr_nat (a := m) (n := k) (by omega)
      have hbt := bit_test' (a := m) (n := k) (by omega) (by omega)
      cases hb : m.testBit k
      · rw [hb] at hbt
        have Hn := Lib.hid (partTo_no (xs := xs) hb)
        go_wp2_with (first | (go_at_call 112; refine (in_val m k hm (by omega) _ hb).mono ?_; rintro e w' ⟨rfl, rfl⟩))
        go_roundw
        case rel => exact ⟨k + 1, by omega, by go_num, by rw [Hn.out]; exact hO, hE⟩
        case measure => (simp [intOf]; omega)
      · rw [hb] at hbt
        have Hn := Lib.hid (partTo_yes (xs := xs) hb)
        go_wp2_with (first | (go_at_call 112; refine (in_val m k hm (by omega) _ hb).mono ?_; rintro e w' ⟨rfl, rfl⟩) | (at_builtin; refine wp_append1 slI rfl _ _ rfl w _ _ _ _ hO hE (by omega) rfl rfl ?_; intro v1 w1 hO1 hE1))
        go_roundw
        case rel => exact ⟨k + 1, by omega, by go_num, by rw [Hn.out]; exact hO1, hE1⟩
        case measure => (simp [intOf]; omega)
    · have hkl : k = xs.length := by omega
      subst hkl
      go_wp2_with fail
      go_ret
      exact ⟨_, rfl, hO, hE⟩
theorem part_any (u : Value) (X : List Nat) (m : Nat) (w : World) (hu : Ints w u (castL X)) (hm : m < 2 ^ 24) (hl : X.length ≤ 24) :
    Calls Try.prog 104 #[u, .int .i64 m] w fun e w' => ∃ p, e = .returned p ∧ Own 3 w w' p (castL (partL X m)) ∧ Ext w w' := by
  have := part_int u _ m w hu hm (by rw [castL_len]; exact hl)
  rwa [partI_cast] at this
theorem total_any (v u : Value) (l : List Int) (X : List Nat) (w : World) (h : Ints w v l) (hu : Ints w u (castL X)) (Hgr : Hid (isGrp l = true)) (hX : Hid (∀ x ∈ X, x < 24)) :
    Calls Try.prog 142 #[.agg #[v], u] w fun e w' => e = .returned (.int .i64 (tot l X : Nat)) ∧ Ext w w' := by
  obtain ⟨wb, hwb⟩ : ∃ wb, wb = w.alloc (.cells #[v] 30) := ⟨_, rfl⟩
  have hE0 := (Ext.refl w).alloc (.cells #[v] 30)
  have hb := box_cell w v 30
  rw [← hwb] at hE0 hb
  have hg : ∀ W, Ext wb W → Ints W v l := fun W hW => h.ext (hE0.trans hW)
  have hE := Ext.refl wb
  have Hwb := Lib.hid hwb
  clear hwb h
  have hu' := hu.ext hE0
  have hlen : X.length ≤ 17592186044416 := by obtain ⟨_, _, _, _, h', _⟩ := hu; simpa [castL_len] using h'
  obtain ⟨ao, c, adr, rfl, hadr, hcell⟩ := hu'.nats
  have hix := ints_index (c := c) elI szI hadr
  clear hadr hu hu'
  go_enter Try.func142, Try.ntmps142
  go_wp2_with fail
  rw [← Hwb.out]
  go_loopw [5, 10] (fun s i wr => ∃ k : Nat, k ≤ X.length ∧ i = .int .i64 k ∧ s = .int .i64 (tot l (X.take k) : Nat) ∧ Ext wb wr) (fun _ i _ => X.length - (intOf i).toNat)
  case atStart => exact ⟨0, by omega, rfl, rfl, hE⟩
  case round =>
    clear hE
    obtain ⟨k, hk, rfl, rfl, hE⟩ := hrel
    by_cases hlt : k < X.length
    · have hx := hX.out _ (nthN_mem hlt)
      have ht := tot_bd Hgr.out (X.take k)
      have Ht := Lib.hid (tot_snoc l (X.take k) (nthN X k))
      have Ht2 := Lib.hid (take_nthN X k hlt)
      have hck := hcell k _ hlt hE
      have hbx := hb _ hE
      go_wp2_with (first | (go_at_call 155; refine (add_any _ _ _ _ _ (hg _ hE) (Hgr) ((by omega)) ((by omega))).mono ?_; rintro e w' ⟨rfl, hE'⟩; replace hE := hE.trans hE'; clear hE'))
      go_wp2_with fail
      go_roundw
      case rel => exact ⟨k + 1, by omega, by go_num, by rw [Ht2.out, Ht.out], hE⟩
      case measure => (simp [intOf]; omega)
    · have hkl : k = X.length := by omega
      subst hkl
      go_wp2_with fail
      go_ret
      exact ⟨ret_int (by rw [List.take_length]), hE0.trans hE⟩
theorem l16Sum_any (v u : Value) (l : List Int) (X : List Nat) (w : World) (h : Ints w v l) (hu : Ints w u (castL X)) (Hgr : Hid (isGrp l = true)) (hX : Hid (∀ x ∈ X, x < 24)) :
    Calls Try.prog 130 #[.agg #[v], u] w fun e w' => e = .returned (.int .i64 (tot l X : Nat)) ∧ Ext w w' := by
  obtain ⟨wb, hwb⟩ : ∃ wb, wb = w.alloc (.cells #[v] 30) := ⟨_, rfl⟩
  have hE0 := (Ext.refl w).alloc (.cells #[v] 30)
  have hb := box_cell w v 30
  rw [← hwb] at hE0 hb
  have hg : ∀ W, Ext wb W → Ints W v l := fun W hW => h.ext (hE0.trans hW)
  have hE := Ext.refl wb
  have Hwb := Lib.hid hwb
  clear hwb h
  have hu' := hu.ext hE0
  have hlen : X.length ≤ 17592186044416 := by obtain ⟨_, _, _, _, h', _⟩ := hu; simpa [castL_len] using h'
  obtain ⟨ao, c, adr, rfl, hadr, hcell⟩ := hu'.nats
  have hix := ints_index (c := c) elI szI hadr
  clear hadr hu hu'
  go_enter Try.func130, Try.ntmps130
  go_wp2_with fail
  rw [← Hwb.out]
  go_loopw [5, 6] (fun s i wr => ∃ k : Nat, k ≤ X.length ∧ i = .int .i64 k ∧ s = .int .i64 (tot l (X.take k) : Nat) ∧ Ext wb wr) (fun _ i _ => X.length - (intOf i).toNat)
  case atStart => exact ⟨0, by omega, rfl, rfl, hE⟩
  case round =>
    clear hE
    obtain ⟨k, hk, rfl, rfl, hE⟩ := hrel
    by_cases hlt : k < X.length
    · have hx := hX.out _ (nthN_mem hlt)
      have ht := tot_bd Hgr.out (X.take k)
      have Ht := Lib.hid (tot_snoc l (X.take k) (nthN X k))
      have Ht2 := Lib.hid (take_nthN X k hlt)
      have hck := fun U => hcell k _ hlt (hE.trans (lat_ext wr U))
      have hbx := fun U => hb _ (hE.trans (lat_ext wr U)); have hgr' : ∀ W, Ext wr W → Ints W v l := fun W hW => hg W (hE.trans hW); have hE1 := hE; clear hE; have hE := Ext.refl wr; go_wp2_with fail
      (refine wp_region_lat (wr) (by kernel_rfl) (by kernel_rfl) hE ?_); (repeat (go_big_quiet_step (first | (go_at_call 161; exact Calls.lat (l2Add_any _ _ _ _ _ (hgr' _ (lat_ext wr _)) Hgr (by omega) (by omega)))))); (refine wpQuiet_nil ?_); (intro W hE'); (replace hE := lat_of hE'); (clear hE'); replace hE := hE1.trans hE
      go_wp2_with fail
      go_roundw
      case rel => exact ⟨k + 1, by omega, by go_num, by rw [Ht2.out, Ht.out], hE⟩
      case measure => (simp [intOf]; omega)
    · have hkl : k = X.length := by omega
      subst hkl
      go_wp2_with fail
      go_ret
      exact ⟨ret_int (by rw [List.take_length]), hE0.trans hE⟩
theorem pw_len {n : Nat} (h : n ≤ 12) : pw n ≤ 4096 := Nat.pow_le_pow_right (n := 2) (by omega) h
end Go.Zz

/- Plain facts on numbers of terms, sets of partial sums. No program is named here. -/
namespace Go.Zz

/-- how often x stands among the first k -/
def mulTo (xs : List Int) (x : Int) : Nat → Nat
  | 0 => 0
  | k + 1 => if nth xs k = x then mulTo xs x k + 1 else mulTo xs x k
def mulI (xs : List Int) (x : Int) : Nat := mulTo xs x xs.length
theorem mulTo_le (xs : List Int) (x : Int) : ∀ k, mulTo xs x k ≤ k
  | 0 => Nat.le_refl _
  | k + 1 => by
    have := mulTo_le xs x k
    unfold mulTo; split <;> omega
theorem mulTo_yes {xs : List Int} {x : Int} {k : Nat} (h : nth xs k = x) : mulTo xs x (k + 1) = mulTo xs x k + 1 := by
  conv => lhs; unfold mulTo
  rw [if_pos h]
theorem mulTo_no {xs : List Int} {x : Int} {k : Nat} (h : nth xs k ≠ x) : mulTo xs x (k + 1) = mulTo xs x k := by
  conv => lhs; unfold mulTo
  rw [if_neg h]
theorem mulTo_take (xs : List Int) (x : Int) : ∀ k, k ≤ xs.length → mulTo xs x k = (xs.take k).count x
  | 0, _ => by simp [mulTo]
  | k + 1, hk => by
    have ih := mulTo_take xs x k (by omega)
    have e : xs.take (k + 1) = xs.take k ++ [nth xs k] := by
      rw [List.take_add_one]; simp [nth, List.getD, show k < xs.length by omega]
    rw [e, List.count_append, List.count_singleton]
    by_cases h : nth xs k = x
    · rw [mulTo_yes h, ih, h]; simp
    · rw [mulTo_no h, ih]; simp [h]
theorem mulI_count (xs : List Int) (x : Int) : mulI xs x = xs.count x := by
  unfold mulI; rw [mulTo_take xs x _ (Nat.le_refl _), List.take_length]

/-- the sums of parts that are not empty -/
def sbs (l : List Int) (X : List Nat) : Nat := X.foldl (fun o x => (o ||| shiftF l o x) ||| 2 ^ x) 0
theorem sbs_snoc (l : List Int) (X : List Nat) (x : Nat) : sbs l (X ++ [x]) = (sbs l X ||| shiftF l (sbs l X) x) ||| 2 ^ x := by unfold sbs; rw [List.foldl_append]; rfl
theorem sbs_bd {l : List Int} (h : isGrp l = true) : ∀ (X : List Nat), (∀ x ∈ X, x < 24) → sbs l X < 2 ^ 24 := by
  intro X hX
  have : ∀ (X : List Nat) (o : Nat), o < 2 ^ 24 → (∀ x ∈ X, x < 24) → X.foldl (fun o x => (o ||| shiftF l o x) ||| 2 ^ x) o < 2 ^ 24 := by
    intro X
    induction X with
    | nil => intro o ho _; exact ho
    | cons x X ih =>
      intro o ho hX
      rw [List.foldl_cons]
      refine ih _ (Nat.or_lt_two_pow (Nat.or_lt_two_pow ho (shiftF_bd h o x)) (Nat.pow_lt_pow_right (by omega) (hX x (by simp)))) fun y hy => hX y (by simp [hy])
  exact this X 0 (by decide) hX
def zsB (l xs : List Int) : Bool := seqB l xs && decide (tot l (xs.map Int.toNat) = 0)
theorem zsB_no {l xs : List Int} (h : seqB l xs = false) : zsB l xs = false := by unfold zsB; rw [h]; rfl
theorem map_cast (X : List Nat) : (castL X).map Int.toNat = X := by
  unfold castL; rw [List.map_map]
  have : (Int.toNat ∘ fun n : Nat => (n : Int)) = id := by funext n; rfl
  rw [this, List.map_id]
theorem zsB_yes {l : List Int} {X : List Nat} (h : seqB l (castL X) = true) : zsB l (castL X) = (((tot l X : Nat) : Int) == 0) := by
  unfold zsB; rw [h, map_cast, Bool.true_and, Bool.eq_iff_iff, decide_eq_true_iff, beq_iff_eq]; omega
def zfB (l xs : List Int) : Bool := seqB l xs && !(sbs l (xs.map Int.toNat)).testBit 0
theorem zfB_no {l xs : List Int} (h : seqB l xs = false) : zfB l xs = false := by unfold zfB; rw [h]; rfl
theorem zfB_yes {l : List Int} {X : List Nat} (h : seqB l (castL X) = true) : zfB l (castL X) = !(sbs l X).testBit 0 := by
  unfold zfB; rw [h, map_cast, Bool.true_and]
theorem bit0 (n : Nat) : (((n % 2 : Nat) : Int) == 0) = !n.testBit 0 := by
  rw [Nat.testBit_zero]
  rcases Nat.mod_two_eq_zero_or_one n with h | h <;> rw [h] <;> rfl

/-! ### taking the terms of a part out -/
/-- l without the last x -/
def dropLast1 (x : Int) (l : List Int) : List Int := (l.reverse.erase x).reverse
/-- all of P is in T, each as often -/
def subM (T : List Int) : List Int → Bool
  | [] => true
  | x :: P => if x ∈ T then subM (dropLast1 x T) P else false
theorem count_drop1 (x y : Int) (l : List Int) (h : x ∈ l) : (dropLast1 x l).count y = l.count y - if x = y then 1 else 0 := by
  unfold dropLast1
  rw [List.count_reverse, List.count_erase, List.count_reverse]
  congr 1
  by_cases e : x = y <;> simp [e]
theorem subM_iff : ∀ (P T : List Int), subM T P = true ↔ ∀ x, P.count x ≤ T.count x
  | [], T => by simp [subM]
  | x :: P, T => by
    unfold subM
    by_cases h : x ∈ T
    · rw [if_pos h, subM_iff P]
      have hx : 0 < T.count x := List.count_pos_iff.2 h
      constructor
      · intro H y
        have := H y
        rw [count_drop1 x y T h] at this
        rw [List.count_cons]
        by_cases e : x = y
        · subst e; simp at this ⊢; omega
        · have e' : (x == y) = false := by simpa using e
          rw [if_neg e] at this; simp [e']; omega
      · intro H y
        have := H y
        rw [List.count_cons] at this
        rw [count_drop1 x y T h]
        by_cases e : x = y
        · subst e; simp at this ⊢; omega
        · have e' : (x == y) = false := by simpa using e
          rw [if_neg e]; simp [e'] at this; omega
    · rw [if_neg h]
      constructor
      · intro H; cases H
      · intro H
        have := H x
        rw [List.count_cons] at this
        simp [List.count_eq_zero.2 h] at this
/-- the last place of x among the first k, -1 where there is none -/
def lastTo (xs : List Int) (x : Int) : Nat → Int
  | 0 => -1
  | k + 1 => if nth xs k = x then (k : Int) else lastTo xs x k
theorem lastTo_yes {xs : List Int} {x : Int} {k : Nat} (h : nth xs k = x) : lastTo xs x (k + 1) = (k : Int) := by
  conv => lhs; unfold lastTo
  rw [if_pos h]
theorem lastTo_no {xs : List Int} {x : Int} {k : Nat} (h : nth xs k ≠ x) : lastTo xs x (k + 1) = lastTo xs x k := by
  conv => lhs; unfold lastTo
  rw [if_neg h]
theorem lastTo_lt (xs : List Int) (x : Int) : ∀ k, -1 ≤ lastTo xs x k ∧ lastTo xs x k < (k : Int)
  | 0 => by simp [lastTo]
  | k + 1 => by
    have := lastTo_lt xs x k
    unfold lastTo; split <;> omega
theorem take_snocI (xs : List Int) (k : Nat) (hk : k < xs.length) : xs.take (k + 1) = xs.take k ++ [nth xs k] := by
  rw [List.take_add_one]; simp [nth, List.getD, hk]
theorem lastTo_spec (xs : List Int) (x : Int) : ∀ k, k ≤ xs.length → (lastTo xs x k = -1 ∧ x ∉ xs.take k) ∨
    ∃ a : Nat, lastTo xs x k = (a : Int) ∧ a < k ∧ dropLast1 x (xs.take k) = xs.take a ++ (xs.take k).drop (a + 1) ∧ x ∈ xs.take k
  | 0, _ => Or.inl ⟨rfl, by simp⟩
  | k + 1, hk => by
    by_cases h : nth xs k = x
    · refine Or.inr ⟨k, lastTo_yes h, by omega, ?_, ?_⟩
      · rw [take_snocI xs k (by omega), h]
        unfold dropLast1
        rw [List.reverse_append]
        simp [List.drop_append, List.length_take]
        omega
      · rw [take_snocI xs k (by omega), h]; simp
    · rw [lastTo_no h]
      rcases lastTo_spec xs x k (by omega) with ⟨e, hn⟩ | ⟨a, e, ha, hd, hm⟩
      · refine Or.inl ⟨e, ?_⟩
        rw [take_snocI xs k (by omega), List.mem_append, List.mem_singleton]
        rintro (h1 | h1)
        · exact hn h1
        · exact h h1.symm
      · refine Or.inr ⟨a, e, by omega, ?_, ?_⟩
        · rw [take_snocI xs k (by omega)]
          have hlen : (xs.take k).length = k := by rw [List.length_take]; omega
          rw [List.drop_append_of_le_length (by omega), ← List.append_assoc, ← hd]
          unfold dropLast1
          rw [List.reverse_append, List.reverse_singleton, List.singleton_append, List.erase_cons_tail (by simpa using fun e => h e), List.reverse_cons]
        · rw [take_snocI xs k (by omega)]; simp [hm]
theorem last_no {xs : List Int} {x : Int} (h : lastTo xs x xs.length < 0) : x ∉ xs := by
  rcases lastTo_spec xs x _ (Nat.le_refl _) with ⟨-, hn⟩ | ⟨a, e, -, -, -⟩
  · simpa using hn
  · omega
theorem last_yes {xs : List Int} {x : Int} (h : ¬ lastTo xs x xs.length < 0) : ∃ a : Nat, lastTo xs x xs.length = (a : Int) ∧ a < xs.length ∧ dropLast1 x xs = xs.take a ++ xs.drop (a + 1) ∧ x ∈ xs := by
  rcases lastTo_spec xs x _ (Nat.le_refl _) with ⟨e, -⟩ | ⟨a, e, ha, hd, hm⟩
  · omega
  · rw [List.take_length] at hd hm; exact ⟨a, e, ha, hd, hm⟩
theorem subM_no {T P : List Int} {x : Int} (h : x ∉ T) : subM T (x :: P) = false := by unfold subM; rw [if_neg h]
theorem subM_yes {T P : List Int} {x : Int} (h : x ∈ T) : subM T (x :: P) = subM (dropLast1 x T) P := by
  conv => lhs; unfold subM
  rw [if_pos h]
/-- the program's test -/
def mulOK (T P : List Int) : Bool := (List.range P.length).all fun k => decide (mulI P (nth P k) ≤ mulI T (nth P k))
theorem mulOK_eq (T P : List Int) : mulOK T P = subM T P := by
  rw [Bool.eq_iff_iff, subM_iff]
  unfold mulOK
  rw [List.all_eq_true]
  constructor
  · intro H x
    by_cases hx : x ∈ P
    · obtain ⟨k, hk, rfl⟩ := List.getElem_of_mem hx
      have := H k (List.mem_range.2 hk)
      rw [decide_eq_true_iff, mulI_count, mulI_count, show nth P k = P[k] by simp [nth, List.getD, hk]] at this
      exact this
    · rw [List.count_eq_zero.2 hx]; exact Nat.zero_le _
  · intro H k hk
    rw [decide_eq_true_iff, mulI_count, mulI_count]; exact H _
theorem mulOK_no {T P : List Int} {k : Nat} (hk : k < P.length) (h : mulI T (nth P k) < mulI P (nth P k)) : mulOK T P = false := by
  rw [← Bool.not_eq_true]; intro H
  have := List.all_eq_true.1 H k (List.mem_range.2 hk)
  rw [decide_eq_true_iff] at this; omega
theorem mulOK_yes {T P : List Int} (h : ∀ k, k < P.length → mulI P (nth P k) ≤ mulI T (nth P k)) : mulOK T P = true := by
  unfold mulOK; rw [List.all_eq_true]; intro k hk; rw [decide_eq_true_iff]; exact h k (List.mem_range.1 hk)
end Go.Zz
