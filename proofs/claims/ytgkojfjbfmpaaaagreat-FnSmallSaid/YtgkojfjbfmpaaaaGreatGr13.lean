/- The search for an isomorphism: the reference. -/
import Derived.Test.YtgkojfjbfmpaaaaGreatGr12
import Derived.Test.YtgkojfjbfmpaaaaGreatGr7
import Derived.Test.YtgkojfjbfmpaaaaGreatGr6
import Derived.Deep.RegionHeld3
import Derived.WalkSpells
import Derived.Test.YtgkojfjbfmpaaaaGreatGr3
import Derived.Test.YtgkojfjbfmpaaaaGreatGr2
import Derived.Test.YtgkojfjbfmpaaaaGreatGr4
import Derived.Laws.EntriesVeiled
namespace Go.Zz
open Go.RowKit Go.Proofs
set_option maxHeartbeats 2000000
set_option maxRecDepth 8000

theorem step_build1 {ops : Array Oper} {o : Oper} {a : Act} {w : World} {K : Act → World → Prop} {Q : Exit → Act → World → Prop} {E : Prop} (hg : o.guard = none) (x : Operand) (y : Int) (hop : o.op = Op.buildSlice 24 1 #[(0, x)]) (hx : a.eval x = .int .i64 y)
    (hK : ∀ g w', Blk w' g 3 #[.int .i64 y] → w.heap.size ≤ g → Ext w w' → K (a.put o.dst (.slice (some ⟨g, 0, none⟩) 1 1)) w') :
    if Region.wanted o (yielded ops a.tmps) = true then Oper.wp Tryz.prog o a w K Q else E := by
  have hw : Region.wanted o (yielded ops a.tmps) = true := by simp [Region.wanted, hg]
  rw [if_pos hw]
  have := hK w.heap.size (w.alloc (.cells #[.int .i64 y] 3)) (Blk.new _ _ _) (Nat.le_refl _) ((Ext.refl w).alloc _)
  unfold Oper.wp
  simp [execOp, hop, hx]
  simp [Result.andThen, go_sem]
  exact this
theorem Ints.take {w : World} {ao : Option Addr} {n c : Nat} {l : List Int} (h : Ints w (.slice ao n c) l) {k : Nat} (hk : k ≤ l.length) : Ints w (.slice ao k c) (l.take k) := by
  obtain ⟨ao', c', hv, h1, h2, h3⟩ := h
  simp only [Value.slice.injEq] at hv
  obtain ⟨rfl, rfl, rfl⟩ := hv
  have hl : (l.take k).length = k := by rw [List.length_take]; omega
  refine ⟨ao, c, by rw [hl], by rw [hl]; omega, by rw [hl]; omega, fun i hi => ?_⟩
  rw [hl] at hi
  obtain ⟨a, ha, hc⟩ := h3 i (by omega)
  refine ⟨a, ha, ?_⟩
  rw [hc]; simp [nth, List.getD, hi]
theorem castL_take (L : List Nat) (n : Nat) : castL (L.take n) = (castL L).take n := by simp [castL]
theorem Blk.ints1 {w : World} {g : Nat} {T : TypeId} {y : Int} (h : Blk w g T #[.int .i64 y]) : Ints w (.slice (some ⟨g, 0, none⟩) 1 1) [y] := by
  refine ⟨_, 1, rfl, Nat.le_refl _, by simp, fun i hi => ⟨_, rfl, ?_⟩⟩
  match i, hi with
  | 0, _ => exact h.cell (i := 0) rfl
theorem Ints.cap {w : World} {ao : Option Addr} {n c : Nat} {l : List Int} (h : Ints w (.slice ao n c) l) : n ≤ c := by
  obtain ⟨ao', c', hv, h1, _⟩ := h
  simp only [Value.slice.injEq] at hv
  obtain ⟨rfl, rfl, rfl⟩ := hv
  exact h1
/-- l[:k] -/
theorem run_cut {P : Program} {t : TypeId} (ht : P.underlying t = some (.slice (P.elem t))) (hs : ∀ w, (sizeOf (P.elem t)).run P w = .ok 1 w) (ao : Option Addr) (n c : Nat) (k : Int) (k0 : 0 ≤ k) (hk : k ≤ c) (W : World) :
    (Instr.slice t (.slice ao n c) none (some (.int .i64 k)) none).run P W = .ok (.slice ao k.toNat c) W := by
  rw [run_slice_h (ht := ht) (h0 := k0) (h2 := hk), hs]
  simp [Result.andThen, sliced]
  cases ao <;> simp [Addr.add]
theorem run_cutAt {P : Program} {t : TypeId} (ht : P.underlying t = some (.slice (P.elem t))) (hs : ∀ w, (sizeOf (P.elem t)).run P w = .ok 1 w) (ao : Option Addr) (n c : Nat) (k : Int) (k0 : 0 ≤ k) (hk : k ≤ c) (W : World) :
    (Instr.sliceAt t (.slice ao n c) none (some (.int .i64 k)) none).run P W = .ok (.slice ao k.toNat c) W := by
  rw [run_sliceAt_slice (h := ht), run_cut ht hs ao n c k k0 hk]
/-- the list with one number more, in memory of the call's own -/
def NxP (w0 : World) (M : List Nat) (Y : Nat) (s : Value) (wx : World) : Prop :=
  ∃ ao c, s = .slice ao (M.length + 1) c ∧ Own 3 w0 wx (.slice ao (M.length + 1) c) (castL (M ++ [Y])) ∧ Ext w0 wx
theorem NxP.of {w0 : World} {M : List Nat} {Y : Nat} {s : Value} {wx : World} (h : OwnE 3 w0 w0 wx s (castL M ++ [(Y : Int)])) (hE : Ext w0 wx) : NxP w0 M Y s wx := by
  have h2 := h.own (Ext.refl w0)
  rw [show castL M ++ [(Y : Int)] = castL (M ++ [Y]) by simp [castL]] at h2
  obtain ⟨ao, c, rfl, -⟩ := h2.shape
  rw [castL_len] at h2 ⊢
  rw [show (M ++ [Y]).length = M.length + 1 by simp] at h2 ⊢
  exact ⟨ao, c, rfl, h2, hE⟩
end Go.Zz

/- Sequences of elements: sorted lists, parts, totals, shortest parts with the sum 0. No program is named here. -/
namespace Go.Zz

/-- whether a list ascends -/
def sortB (xs : List Int) : Bool := (List.range xs.length).all (fun j => decide (j = 0) || decide (nth xs (j - 1) ≤ nth xs j))
theorem sortB_iff (xs : List Int) : sortB xs = true ↔ ∀ j, 0 < j → j < xs.length → nth xs (j - 1) ≤ nth xs j := by
  unfold sortB
  simp only [List.all_eq_true, List.mem_range, Bool.or_eq_true, decide_eq_true_eq]
  constructor
  · intro h j h0 hj
    rcases h j hj with e | e
    · omega
    · exact e
  · intro h j hj
    by_cases e : j = 0
    · exact Or.inl e
    · exact Or.inr (h j (by omega) hj)
theorem sortB_no {xs : List Int} {j : Nat} (h0 : 0 < j) (hj : j < xs.length) (h : nth xs j < nth xs (j - 1)) : sortB xs = false := by
  rw [← Bool.not_eq_true, sortB_iff]
  intro hall; have := hall j h0 hj; omega
def seqB (l xs : List Int) : Bool := xs.all (hasB l) && isGrp l && decide (xs.length ≤ 12) && sortB xs
theorem seqB_has {l xs : List Int} {k : Nat} (hk : k < xs.length) (h : hasB l (nth xs k) = false) : seqB l xs = false := by
  have : xs.all (hasB l) = false := by
    rw [← Bool.not_eq_true, List.all_eq_true]
    intro hall; rw [hall _ (nth_mem hk)] at h; cases h
  unfold seqB; rw [this]; rfl
theorem seqB_down {l xs : List Int} {k : Nat} (h0 : 0 < k) (hk : k < xs.length) (h : nth xs k < nth xs (k - 1)) : seqB l xs = false := by
  unfold seqB; rw [sortB_no h0 hk h]; simp
theorem seqB_end {l xs : List Int} (h : ∀ j, j < xs.length → hasB l (nth xs j) = true) : seqB l xs = (isGrp l && decide (xs.length ≤ 12) && sortB xs) := by
  have : xs.all (hasB l) = true := by
    rw [List.all_eq_true]
    intro x hx; obtain ⟨k, hk, rfl⟩ := mem_nth hx; exact h k hk
  unfold seqB; rw [this]; simp
theorem nat_list : ∀ (xs : List Int), (∀ x ∈ xs, ∃ n : Nat, x = n) → ∃ X : List Nat, xs = castL X
  | [], _ => ⟨[], rfl⟩
  | x :: xs, h => by
    obtain ⟨n, hn⟩ := h x (by simp)
    obtain ⟨X, hX⟩ := nat_list xs (fun y hy => h y (by simp [hy]))
    exact ⟨n :: X, by rw [hn, hX]; simp [castL]⟩
theorem seqB_nat {l xs : List Int} (h : seqB l xs = true) : ∃ X : List Nat, xs = castL X ∧ (∀ x ∈ X, x < ord l) ∧ X.length ≤ 12 ∧ isGrp l = true ∧ ∀ x ∈ X, x < 24 := by
  simp only [seqB, Bool.and_eq_true, List.all_eq_true, decide_eq_true_eq] at h
  obtain ⟨⟨⟨h1, h2⟩, h3⟩, _⟩ := h
  obtain ⟨X, rfl⟩ := nat_list xs (fun x hx => by obtain ⟨n, hn, _⟩ := hasB_nat (h1 x hx); exact ⟨n, hn⟩)
  have hx : ∀ x ∈ X, x < ord l := fun x hx => by
    obtain ⟨n, hn, hlt, _⟩ := hasB_nat (h1 (x : Int) (by simp [castL]; exact ⟨x, hx, rfl⟩))
    have : x = n := by omega
    omega
  exact ⟨X, rfl, hx, by simpa [castL_len] using h3, h2, fun x hx' => Nat.lt_of_lt_of_le (hx x hx') (ord_bd h2).2⟩
/-- the terms of a mask -/
def partTo (xs : List Int) (m k : Nat) : List Int := ((List.range k).filter (fun i => m.testBit i)).map (nth xs)
def partI (xs : List Int) (m : Nat) : List Int := partTo xs m xs.length
theorem partTo_yes {xs : List Int} {m k : Nat} (h : m.testBit k = true) : partTo xs m (k + 1) = partTo xs m k ++ [nth xs k] := by
  unfold partTo; rw [List.range_succ, List.filter_append, List.map_append]; simp [h]
theorem partTo_no {xs : List Int} {m k : Nat} (h : m.testBit k = false) : partTo xs m (k + 1) = partTo xs m k := by
  unfold partTo; rw [List.range_succ, List.filter_append, List.map_append]; simp [h]
theorem partTo_len (xs : List Int) (m k : Nat) : (partTo xs m k).length ≤ k := by
  unfold partTo; rw [List.length_map]; exact Nat.le_trans (List.length_filter_le _ _) (by simp)
def partL (X : List Nat) (m : Nat) : List Nat := ((List.range X.length).filter (fun i => m.testBit i)).map (nthN X)
theorem partI_cast (X : List Nat) (m : Nat) : partI (castL X) m = castL (partL X m) := by
  unfold partI partTo partL castL
  rw [List.length_map, List.map_map]
  apply List.map_congr_left
  intro i _
  exact nth_castL X i
theorem partL_mem {X : List Nat} {m x : Nat} (h : x ∈ partL X m) : x ∈ X := by
  unfold partL at h
  rw [List.mem_map] at h
  obtain ⟨i, hi, rfl⟩ := h
  exact nthN_mem (List.mem_range.1 (List.mem_filter.1 hi).1)
theorem partL_le (X : List Nat) (m : Nat) : (partL X m).length ≤ X.length := by
  unfold partL; rw [List.length_map]; exact Nat.le_trans (List.length_filter_le _ _) (by simp)
theorem partL_len {X : List Nat} {m : Nat} (hX : X.length ≤ 24) (hm : m < 2 ^ X.length) : (partL X m).length = cnt m := by
  unfold partL; rw [List.length_map]
  have := elemsTo_all hX hm
  unfold elemsTo at this
  rw [this]; rfl
/-- the sum of all terms -/
def tot (l : List Int) (X : List Nat) : Nat := X.foldl (fun s x => addF l s x) 0
theorem tot_snoc (l : List Int) (X : List Nat) (x : Nat) : tot l (X ++ [x]) = addF l (tot l X) x := by unfold tot; rw [List.foldl_append]; rfl
theorem tot_bd {l : List Int} (h : isGrp l = true) (X : List Nat) : tot l X < 24 := by
  rcases List.eq_nil_or_concat X with rfl | ⟨Y, y, rfl⟩
  · show (0:Nat) < 24; omega
  · rw [List.concat_eq_append, tot_snoc]; exact addF_bd h _ _
theorem take_snocN (L : List Nat) (k : Nat) (h : k < L.length) : L.take (k + 1) = L.take k ++ [nthN L k] := take_nthN L k h
/-- the first mask of so many terms with the sum 0 -/
def zol (l : List Int) (X : List Nat) (k : Nat) : Option Nat := (List.range (pw X.length)).find? (fun m => decide (cnt m = k) && decide (tot l (partL X m) = 0))
def zolL (l : List Int) (X : List Nat) (k : Nat) : List Nat := match zol l X k with | some m => partL X m | none => []
def zolB (l : List Int) (X : List Nat) (k : Nat) : Bool := (zol l X k).isSome
theorem zol_at {l : List Int} {X : List Nat} {k m : Nat} (hm : m < pw X.length) (h : ∀ j, j < m → ¬ (cnt j = k ∧ tot l (partL X j) = 0)) (e1 : cnt m = k) (e2 : tot l (partL X m) = 0) : zolL l X k = partL X m ∧ zolB l X k = true ∧ zol l X k = some m := by
  have : zol l X k = some m := find_at hm (fun j hj => by
    have := h j hj
    by_cases a : cnt j = k
    · have b : ¬ tot l (partL X j) = 0 := fun b => this ⟨a, b⟩
      simp [b]
    · simp [a]) (by simp [e1, e2])
  unfold zolL zolB; rw [this]; exact ⟨rfl, rfl, rfl⟩
theorem zol_none {l : List Int} {X : List Nat} {k : Nat} (h : ∀ j, j < pw X.length → ¬ (cnt j = k ∧ tot l (partL X j) = 0)) : zolL l X k = [] ∧ zolB l X k = false ∧ zol l X k = none := by
  have : zol l X k = none := find_none (fun j hj => by
    have := h j hj
    by_cases a : cnt j = k
    · have b : ¬ tot l (partL X j) = 0 := fun b => this ⟨a, b⟩
      simp [b]
    · simp [a])
  unfold zolL zolB; rw [this]; exact ⟨rfl, rfl, rfl⟩
/-- the best mask below c, 0 if there is none -/
def szTo (l : List Int) (X : List Nat) : Nat → Nat
  | 0 => 0
  | c + 1 => if c ≠ 0 ∧ tot l (partL X c) = 0 ∧ (szTo l X c = 0 ∨ cnt c < cnt (szTo l X c)) then c else szTo l X c
theorem szTo_yes {l : List Int} {X : List Nat} {c : Nat} (h0 : c ≠ 0) (h1 : tot l (partL X c) = 0) (h2 : szTo l X c = 0 ∨ cnt c < cnt (szTo l X c)) : szTo l X (c + 1) = c := by rw [szTo, if_pos ⟨h0, h1, h2⟩]
theorem szTo_no {l : List Int} {X : List Nat} {c : Nat} (h : ¬ (tot l (partL X c) = 0 ∧ (szTo l X c = 0 ∨ cnt c < cnt (szTo l X c)))) : szTo l X (c + 1) = szTo l X c := by rw [szTo, if_neg (fun e => h e.2)]
theorem szTo_one (l : List Int) (X : List Nat) : szTo l X 1 = 0 := by rw [szTo, if_neg (fun e => e.1 rfl)]; rfl
theorem szTo_spec (l : List Int) (X : List Nat) : ∀ c, (szTo l X c = 0 ∧ ∀ m, m < c → m ≠ 0 → tot l (partL X m) ≠ 0) ∨
    (szTo l X c ≠ 0 ∧ szTo l X c < c ∧ tot l (partL X (szTo l X c)) = 0 ∧ ∀ m, m < c → m ≠ 0 → tot l (partL X m) = 0 → cnt (szTo l X c) < cnt m ∨ (cnt (szTo l X c) = cnt m ∧ szTo l X c ≤ m))
  | 0 => Or.inl ⟨rfl, fun m hm => by omega⟩
  | c + 1 => by
    have ih := szTo_spec l X c
    by_cases h : c ≠ 0 ∧ tot l (partL X c) = 0 ∧ (szTo l X c = 0 ∨ cnt c < cnt (szTo l X c))
    · rw [szTo_yes h.1 h.2.1 h.2.2]
      refine Or.inr ⟨h.1, by omega, h.2.1, fun m hm h0 ht => ?_⟩
      by_cases e : m = c
      · subst e; exact Or.inr ⟨rfl, Nat.le_refl _⟩
      · rcases ih with ⟨i1, i2⟩ | ⟨i1, i2, i3, i4⟩
        · exact absurd ht (i2 m (by omega) h0)
        · rcases h.2.2 with e2 | e2
          · exact absurd e2 i1
          · rcases i4 m (by omega) h0 ht with q | q <;> omega
    · have e : szTo l X (c + 1) = szTo l X c := by rw [szTo, if_neg h]
      rw [e]
      rcases ih with ⟨i1, i2⟩ | ⟨i1, i2, i3, i4⟩
      · refine Or.inl ⟨i1, fun m hm h0 => ?_⟩
        by_cases e : m = c
        · subst e; exact fun ht => h ⟨h0, ht, Or.inl i1⟩
        · exact i2 m (by omega) h0
      · refine Or.inr ⟨i1, by omega, i3, fun m hm h0 ht => ?_⟩
        by_cases e : m = c
        · subst e
          have : ¬ cnt m < cnt (szTo l X m) := fun q => h ⟨h0, ht, Or.inr q⟩
          omega
        · exact i4 m (by omega) h0 ht
theorem szTo_lt (l : List Int) (X : List Nat) (c : Nat) : szTo l X c ≤ c := by
  rcases szTo_spec l X c with ⟨h, _⟩ | ⟨_, h, _⟩ <;> omega
def szN (l : List Int) (X : List Nat) : Nat := szTo l X (pw X.length)
def szL' (X : List Nat) (b : Nat) : List Nat := if b = 0 then [] else partL X b
def szR (l : List Int) (X : List Nat) : List Nat := szL' X (szN l X)
def szB (l : List Int) (X : List Nat) : Bool := decide (szN l X ≠ 0)
theorem szL'_len {X : List Nat} {b : Nat} (hX : X.length ≤ 12) (hb : b < 2 ^ X.length) : (szL' X b).length = cnt b := by
  unfold szL'
  by_cases h : b = 0
  · rw [if_pos h, h, cnt_zero]; rfl
  · rw [if_neg h, partL_len (by omega) hb]
theorem cnt_mask {n m : Nat} (hn : n ≤ 24) (hm : m < 2 ^ n) : cnt m ≤ n := by
  have := elemsTo_all hn hm
  unfold cnt; rw [← this]; exact elemsTo_len m n
/-- the first length at which a part is found tells the best one -/
theorem sz_at {l : List Int} {X : List Nat} (hX : X.length ≤ 12) {k : Nat} (hk : 1 ≤ k) (h : ∀ j, 1 ≤ j → j < k → zolB l X j = false) (hz : zolB l X k = true) : szR l X = zolL l X k ∧ szB l X = true := by
  unfold zolB at hz
  cases hq : zol l X k with
  | none => rw [hq] at hz; cases hz
  | some m =>
    have hm := List.find?_some hq
    have hmr := List.mem_of_find?_eq_some hq
    rw [List.mem_range] at hmr
    simp only [Bool.and_eq_true, decide_eq_true_eq] at hm
    have h0 : m ≠ 0 := fun e => by rw [e, cnt_zero] at hm; omega
    have key : szN l X = m := by
      rcases szTo_spec l X (pw X.length) with ⟨_, i2⟩ | ⟨i1, i2, i3, i4⟩
      · exact absurd hm.2 (i2 m hmr h0)
      · have hb : szN l X = szTo l X (pw X.length) := rfl
        rw [← hb] at i1 i2 i3 i4
        have c1 := cnt_pos (a := szN l X) (by omega) (by have := cnt_mask (n := X.length) (m := szN l X) (by omega) i2; exact Nat.lt_of_lt_of_le i2 (Nat.pow_le_pow_right (by omega) (by omega)))
        rcases i4 m hmr h0 hm.2 with q | q
        · have hj := h (cnt (szN l X)) c1 (by omega)
          unfold zolB zol at hj
          have : ((List.range (pw X.length)).find? (fun m => decide (cnt m = cnt (szN l X)) && decide (tot l (partL X m) = 0))).isSome = true := by
            rw [List.find?_isSome]
            exact ⟨szN l X, List.mem_range.2 i2, by simp [i3]⟩
          rw [this] at hj; cases hj
        · have hle : m ≤ szN l X := by
            rcases Nat.lt_or_ge (szN l X) m with hlt | hge
            · exfalso
              unfold zol at hq
              rw [List.find?_range_eq_some] at hq
              have := hq.2.2 (szN l X) hlt
              simp [i3] at this
              omega
            · exact hge
          omega
    unfold szR szL' szB zolL
    rw [key, if_neg h0, hq]
    exact ⟨rfl, decide_eq_true h0⟩
theorem sz_none {l : List Int} {X : List Nat} (hX : X.length ≤ 12) (h : ∀ j, 1 ≤ j → j ≤ X.length → zolB l X j = false) : szR l X = [] ∧ szB l X = false := by
  have key : szN l X = 0 := by
    rcases szTo_spec l X (pw X.length) with ⟨i1, _⟩ | ⟨i1, i2, i3, i4⟩
    · exact i1
    · exfalso
      have hb : szN l X = szTo l X (pw X.length) := rfl
      rw [← hb] at i1 i2 i3
      have c2 := cnt_mask (n := X.length) (m := szN l X) (by omega) i2
      have c1 := cnt_pos (a := szN l X) (by omega) (Nat.lt_of_lt_of_le i2 (Nat.pow_le_pow_right (by omega) (by omega)))
      have hj := h (cnt (szN l X)) c1 c2
      unfold zolB zol at hj
      have : ((List.range (pw X.length)).find? (fun m => decide (cnt m = cnt (szN l X)) && decide (tot l (partL X m) = 0))).isSome = true := by
        rw [List.find?_isSome]
        exact ⟨szN l X, List.mem_range.2 i2, by simp [i3]⟩
      rw [this] at hj; cases hj
  unfold szR szL' szB
  rw [key]; exact ⟨rfl, rfl⟩
end Go.Zz

/- Plain facts on numbers of terms, sets of partial sums. No program is named here. -/
namespace Go.Zz

/-- how often x stands among the first k -/
def mulTo (xs : List Int) (x : Int) : Nat → Nat
  | 0 => 0
  | k + 1 => if nth xs k = x then mulTo xs x k + 1 else mulTo xs x k
def mulI (xs : List Int) (x : Int) : Nat := mulTo xs x xs.length
theorem mulTo_le (xs : List Int) (x : Int) : ∀ k, mulTo xs x k ≤ k
  | 0 => Nat.le_refl _
  | k + 1 => by
    have := mulTo_le xs x k
    unfold mulTo; split <;> omega
theorem mulTo_yes {xs : List Int} {x : Int} {k : Nat} (h : nth xs k = x) : mulTo xs x (k + 1) = mulTo xs x k + 1 := by
  conv => lhs; unfold mulTo
  rw [if_pos h]
theorem mulTo_no {xs : List Int} {x : Int} {k : Nat} (h : nth xs k ≠ x) : mulTo xs x (k + 1) = mulTo xs x k := by
  conv => lhs; unfold mulTo
  rw [if_neg h]
theorem mulTo_take (xs : List Int) (x : Int) : ∀ k, k ≤ xs.length → mulTo xs x k = (xs.take k).count x
  | 0, _ => by simp [mulTo]
  | k + 1, hk => by
    have ih := mulTo_take xs x k (by omega)
    have e : xs.take (k + 1) = xs.take k ++ [nth xs k] := by
      rw [List.take_add_one]; simp [nth, List.getD, show k < xs.length by omega]
    rw [e, List.count_append, List.count_singleton]
    by_cases h : nth xs k = x
    · rw [mulTo_yes h, ih, h]; simp
    · rw [mulTo_no h, ih]; simp [h]
theorem mulI_count (xs : List Int) (x : Int) : mulI xs x = xs.count x := by
  unfold mulI; rw [mulTo_take xs x _ (Nat.le_refl _), List.take_length]

/-- the sums of parts that are not empty -/
def sbs (l : List Int) (X : List Nat) : Nat := X.foldl (fun o x => (o ||| shiftF l o x) ||| 2 ^ x) 0
theorem sbs_snoc (l : List Int) (X : List Nat) (x : Nat) : sbs l (X ++ [x]) = (sbs l X ||| shiftF l (sbs l X) x) ||| 2 ^ x := by unfold sbs; rw [List.foldl_append]; rfl
theorem sbs_bd {l : List Int} (h : isGrp l = true) : ∀ (X : List Nat), (∀ x ∈ X, x < 24) → sbs l X < 2 ^ 24 := by
  intro X hX
  have : ∀ (X : List Nat) (o : Nat), o < 2 ^ 24 → (∀ x ∈ X, x < 24) → X.foldl (fun o x => (o ||| shiftF l o x) ||| 2 ^ x) o < 2 ^ 24 := by
    intro X
    induction X with
    | nil => intro o ho _; exact ho
    | cons x X ih =>
      intro o ho hX
      rw [List.foldl_cons]
      refine ih _ (Nat.or_lt_two_pow (Nat.or_lt_two_pow ho (shiftF_bd h o x)) (Nat.pow_lt_pow_right (by omega) (hX x (by simp)))) fun y hy => hX y (by simp [hy])
  exact this X 0 (by decide) hX
def zsB (l xs : List Int) : Bool := seqB l xs && decide (tot l (xs.map Int.toNat) = 0)
theorem zsB_no {l xs : List Int} (h : seqB l xs = false) : zsB l xs = false := by unfold zsB; rw [h]; rfl
theorem map_cast (X : List Nat) : (castL X).map Int.toNat = X := by
  unfold castL; rw [List.map_map]
  have : (Int.toNat ∘ fun n : Nat => (n : Int)) = id := by funext n; rfl
  rw [this, List.map_id]
theorem zsB_yes {l : List Int} {X : List Nat} (h : seqB l (castL X) = true) : zsB l (castL X) = (((tot l X : Nat) : Int) == 0) := by
  unfold zsB; rw [h, map_cast, Bool.true_and, Bool.eq_iff_iff, decide_eq_true_iff, beq_iff_eq]; omega
def zfB (l xs : List Int) : Bool := seqB l xs && !(sbs l (xs.map Int.toNat)).testBit 0
theorem zfB_no {l xs : List Int} (h : seqB l xs = false) : zfB l xs = false := by unfold zfB; rw [h]; rfl
theorem zfB_yes {l : List Int} {X : List Nat} (h : seqB l (castL X) = true) : zfB l (castL X) = !(sbs l X).testBit 0 := by
  unfold zfB; rw [h, map_cast, Bool.true_and]
theorem bit0 (n : Nat) : (((n % 2 : Nat) : Int) == 0) = !n.testBit 0 := by
  rw [Nat.testBit_zero]
  rcases Nat.mod_two_eq_zero_or_one n with h | h <;> rw [h] <;> rfl

/-! ### taking the terms of a part out -/
/-- l without the last x -/
def dropLast1 (x : Int) (l : List Int) : List Int := (l.reverse.erase x).reverse
/-- all of P is in T, each as often -/
def subM (T : List Int) : List Int → Bool
  | [] => true
  | x :: P => if x ∈ T then subM (dropLast1 x T) P else false
theorem count_drop1 (x y : Int) (l : List Int) (_ : x ∈ l) : (dropLast1 x l).count y = l.count y - if x = y then 1 else 0 := by
  unfold dropLast1
  rw [List.count_reverse, List.count_erase, List.count_reverse]
  congr 1
  by_cases e : x = y <;> simp [e]
theorem subM_iff : ∀ (P T : List Int), subM T P = true ↔ ∀ x, P.count x ≤ T.count x
  | [], T => by simp [subM]
  | x :: P, T => by
    unfold subM
    by_cases h : x ∈ T
    · rw [if_pos h, subM_iff P]
      have hx : 0 < T.count x := List.count_pos_iff.2 h
      constructor
      · intro H y
        have := H y
        rw [count_drop1 x y T h] at this
        rw [List.count_cons]
        by_cases e : x = y
        · subst e; simp at this ⊢; omega
        · have e' : (x == y) = false := by simpa using e
          rw [if_neg e] at this; simp [e']; omega
      · intro H y
        have := H y
        rw [List.count_cons] at this
        rw [count_drop1 x y T h]
        by_cases e : x = y
        · subst e; simp at this ⊢; omega
        · have e' : (x == y) = false := by simpa using e
          rw [if_neg e]; simp [e'] at this; omega
    · rw [if_neg h]
      constructor
      · intro H; cases H
      · intro H
        have := H x
        rw [List.count_cons] at this
        simp [List.count_eq_zero.2 h] at this
/-- the last place of x among the first k, -1 where there is none -/
def lastTo (xs : List Int) (x : Int) : Nat → Int
  | 0 => -1
  | k + 1 => if nth xs k = x then (k : Int) else lastTo xs x k
theorem lastTo_yes {xs : List Int} {x : Int} {k : Nat} (h : nth xs k = x) : lastTo xs x (k + 1) = (k : Int) := by
  conv => lhs; unfold lastTo
  rw [if_pos h]
theorem lastTo_no {xs : List Int} {x : Int} {k : Nat} (h : nth xs k ≠ x) : lastTo xs x (k + 1) = lastTo xs x k := by
  conv => lhs; unfold lastTo
  rw [if_neg h]
theorem lastTo_lt (xs : List Int) (x : Int) : ∀ k, -1 ≤ lastTo xs x k ∧ lastTo xs x k < (k : Int)
  | 0 => by simp [lastTo]
  | k + 1 => by
    have := lastTo_lt xs x k
    unfold lastTo; split <;> omega
theorem take_snocI (xs : List Int) (k : Nat) (hk : k < xs.length) : xs.take (k + 1) = xs.take k ++ [nth xs k] := by
  rw [List.take_add_one]; simp [nth, List.getD, hk]
theorem lastTo_spec (xs : List Int) (x : Int) : ∀ k, k ≤ xs.length → (lastTo xs x k = -1 ∧ x ∉ xs.take k) ∨
    ∃ a : Nat, lastTo xs x k = (a : Int) ∧ a < k ∧ dropLast1 x (xs.take k) = xs.take a ++ (xs.take k).drop (a + 1) ∧ x ∈ xs.take k
  | 0, _ => Or.inl ⟨rfl, by simp⟩
  | k + 1, hk => by
    by_cases h : nth xs k = x
    · refine Or.inr ⟨k, lastTo_yes h, by omega, ?_, ?_⟩
      · rw [take_snocI xs k (by omega), h]
        unfold dropLast1
        rw [List.reverse_append]
        simp [List.drop_append, List.length_take]
        omega
      · rw [take_snocI xs k (by omega), h]; simp
    · rw [lastTo_no h]
      rcases lastTo_spec xs x k (by omega) with ⟨e, hn⟩ | ⟨a, e, ha, hd, hm⟩
      · refine Or.inl ⟨e, ?_⟩
        rw [take_snocI xs k (by omega), List.mem_append, List.mem_singleton]
        rintro (h1 | h1)
        · exact hn h1
        · exact h h1.symm
      · refine Or.inr ⟨a, e, by omega, ?_, ?_⟩
        · rw [take_snocI xs k (by omega)]
          have hlen : (xs.take k).length = k := by rw [List.length_take]; omega
          rw [List.drop_append_of_le_length (by omega), ← List.append_assoc, ← hd]
          unfold dropLast1
          rw [List.reverse_append, List.reverse_singleton, List.singleton_append, List.erase_cons_tail (by simpa using fun e => h e), List.reverse_cons]
        · rw [take_snocI xs k (by omega)]; simp [hm]
theorem last_no {xs : List Int} {x : Int} (h : lastTo xs x xs.length < 0) : x ∉ xs := by
  rcases lastTo_spec xs x _ (Nat.le_refl _) with ⟨-, hn⟩ | ⟨a, e, -, -, -⟩
  · simpa using hn
  · omega
theorem last_yes {xs : List Int} {x : Int} (h : ¬ lastTo xs x xs.length < 0) : ∃ a : Nat, lastTo xs x xs.length = (a : Int) ∧ a < xs.length ∧ dropLast1 x xs = xs.take a ++ xs.drop (a + 1) ∧ x ∈ xs := by
  rcases lastTo_spec xs x _ (Nat.le_refl _) with ⟨e, -⟩ | ⟨a, e, ha, hd, hm⟩
  · omega
  · rw [List.take_length] at hd hm; exact ⟨a, e, ha, hd, hm⟩
theorem subM_no {T P : List Int} {x : Int} (h : x ∉ T) : subM T (x :: P) = false := by unfold subM; rw [if_neg h]
theorem subM_yes {T P : List Int} {x : Int} (h : x ∈ T) : subM T (x :: P) = subM (dropLast1 x T) P := by
  conv => lhs; unfold subM
  rw [if_pos h]
/-- the program's test -/
def mulOK (T P : List Int) : Bool := (List.range P.length).all fun k => decide (mulI P (nth P k) ≤ mulI T (nth P k))
theorem mulOK_eq (T P : List Int) : mulOK T P = subM T P := by
  rw [Bool.eq_iff_iff, subM_iff]
  unfold mulOK
  rw [List.all_eq_true]
  constructor
  · intro H x
    by_cases hx : x ∈ P
    · obtain ⟨k, hk, rfl⟩ := List.getElem_of_mem hx
      have := H k (List.mem_range.2 hk)
      rw [decide_eq_true_iff, mulI_count, mulI_count, show nth P k = P[k] by simp [nth, List.getD, hk]] at this
      exact this
    · rw [List.count_eq_zero.2 hx]; exact Nat.zero_le _
  · intro H k hk
    rw [decide_eq_true_iff, mulI_count, mulI_count]; exact H _
theorem mulOK_no {T P : List Int} {k : Nat} (hk : k < P.length) (h : mulI T (nth P k) < mulI P (nth P k)) : mulOK T P = false := by
  rw [← Bool.not_eq_true]; intro H
  have := List.all_eq_true.1 H k (List.mem_range.2 hk)
  rw [decide_eq_true_iff] at this; omega
theorem mulOK_yes {T P : List Int} (h : ∀ k, k < P.length → mulI P (nth P k) ≤ mulI T (nth P k)) : mulOK T P = true := by
  unfold mulOK; rw [List.all_eq_true]; intro k hk; rw [decide_eq_true_iff]; exact h k (List.mem_range.1 hk)
end Go.Zz

/- Two results of which the second alone is told. -/
namespace Go.Zz
open Go.RowKit
/-- e gives two values, the second of which is b -/
def TB (b : Bool) (e : Ending) : Prop := ∃ v, e = .returned (.tuple #[v, .bool b])
theorem TB.mk (v : Value) (b : Bool) : TB b (.returned (.tuple #[v, .bool b])) := ⟨v, rfl⟩
end Go.Zz

/- Taking the terms of a part out: the reference. -/
namespace Go.Zz
open Go.RowKit Go.Proofs
set_option maxHeartbeats 2000000
set_option maxRecDepth 8000

/-- l[k:] -/
def tailV (ao : Option Addr) (n c k : Nat) : Value := .slice (if c = k then ao else ao.map (·.add k)) (n - k) (c - k)
theorem run_cutFrom {P : Program} {t : TypeId} (ht : P.underlying t = some (.slice (P.elem t))) (hs : ∀ w, (sizeOf (P.elem t)).run P w = .ok 1 w) (ao : Option Addr) (n c : Nat) (k : Int) (k0 : 0 ≤ k) (hk : k ≤ n) (W : World) :
    (Instr.slice t (.slice ao n c) (some (.int .i64 k)) none none).run P W = .ok (tailV ao n c k.toNat) W := by
  rw [run_slice_l (ht := ht) (h0 := k0) (h1 := hk), hs]
  simp [Result.andThen, sliced, tailV]
theorem run_cutFromAt {P : Program} {t : TypeId} (ht : P.underlying t = some (.slice (P.elem t))) (hs : ∀ w, (sizeOf (P.elem t)).run P w = .ok 1 w) (ao : Option Addr) (n c : Nat) (k : Int) (k0 : 0 ≤ k) (hk : k ≤ n) (W : World) :
    (Instr.sliceAt t (.slice ao n c) (some (.int .i64 k)) none none).run P W = .ok (tailV ao n c k.toNat) W := by
  rw [run_sliceAt_slice (h := ht), run_cutFrom ht hs ao n c k k0 hk]
theorem Ints.drop {w : World} {ao : Option Addr} {n c : Nat} {l : List Int} (h : Ints w (.slice ao n c) l) {k : Nat} (hk : k ≤ l.length) : Ints w (tailV ao n c k) (l.drop k) := by
  obtain ⟨ao', c', hv, h1, h2, h3⟩ := h
  simp only [Value.slice.injEq] at hv
  obtain ⟨rfl, rfl, rfl⟩ := hv
  have hl : (l.drop k).length = l.length - k := List.length_drop
  refine ⟨_, c - k, by rw [hl]; rfl, by rw [hl]; omega, by rw [hl]; omega, fun i hi => ?_⟩
  rw [hl] at hi
  obtain ⟨a, rfl, hc⟩ := h3 (k + i) (by omega)
  refine ⟨a.add k, by rw [if_neg (by omega)]; rfl, ?_⟩
  rw [show (a.add k).add i = a.add (k + i) by unfold Addr.add; by_cases h1 : k = 0 <;> by_cases h2 : i = 0 <;> simp [h1, h2, Nat.add_assoc], hc]
  simp [nth, List.getD, List.getElem?_drop]
/-- the list without one number, in memory of the call's own -/
def MiP (w0 : World) (T : List Int) (s : Value) (wx : World) : Prop := ∃ ao c, s = .slice ao T.length c ∧ Own 3 w0 wx (.slice ao T.length c) T ∧ Ext w0 wx
theorem MiP.of {w0 : World} {A B : List Int} {s : Value} {wx : World} (h : OwnE 3 w0 w0 wx s (A ++ B)) (hE : Ext w0 wx) : MiP w0 (A ++ B) s wx := by
  have h2 := h.own (Ext.refl w0)
  obtain ⟨ao, c, rfl, -⟩ := h2.shape
  exact ⟨ao, c, rfl, h2, hE⟩
end Go.Zz

/- Tilings: differences; the search of the reference. -/
namespace Go.Zz
open Go.RowKit Go.Proofs
set_option maxHeartbeats 1000000
set_option maxRecDepth 4000

end Go.Zz

/- Tilings: the search of the program, a closure. -/
namespace Go.Zz
open Go.RowKit Go.Proofs
set_option maxHeartbeats 2000000
set_option maxRecDepth 4000

end Go.Zz

/- FindTile and ClaimOfTile of both. -/
namespace Go.Zz
open Go.RowKit Go.Proofs
set_option maxHeartbeats 2000000
set_option maxRecDepth 4000

end Go.Zz

/- FindTile of the reference; ClaimOfTile of both. -/
namespace Go.Zz
open Go.RowKit Go.Proofs
set_option maxHeartbeats 2000000
set_option maxRecDepth 4000

end Go.Zz

/- TilesOf of the reference: its tiles are put in ascending order. -/
namespace Go.Zz
open Go.RowKit Go.Proofs
set_option maxHeartbeats 2000000
set_option maxRecDepth 8000

theorem castL_put (L : List Nat) (n k : Nat) : (castL L).take k ++ [(n : Int)] ++ (castL L).drop k = castL (putAt L n k) := by
  unfold putAt castL; simp [List.map_take, List.map_drop]
theorem l5Put_two (u : Value) (L : List Nat) (n : Nat) (w : World) (h : Ints w u (castL L)) (hL : L.length ≤ 100000) :
    Calls Tryz.prog 106 #[u, .int .i64 n] w fun e w' => ∃ v', e = .returned v' ∧ (v' = u ∧ putN L n = L ∨ Own 3 w w' v' (castL (putN L n))) ∧ Ext w w' := by
  have HI := Lib.hid (fun W (hW : Ext w W) => h.ext hW)
  obtain ⟨ao, c, adrL, rfl, hadrL, hcellL⟩ := h.nats
  have hixL := ints_index (c := c) elI szI hadrL
  have hE := Ext.refl w
  have hcap : L.length ≤ c := by
    obtain ⟨_, _, hv, hc, _⟩ := h
    rw [castL_len] at hv hc
    simp only [Value.slice.injEq] at hv
    omega
  have HI : Hid (∀ W, Ext w W → Ints W (.slice ao L.length c) (castL L)) := HI
  clear h hadrL
  go_enter Tryz.func106, Tryz.ntmps106
  go_wp2_with fail
  go_loop [5] (fun sk => ∃ k : Nat, k ≤ L.length ∧ sk = .int .i64 k ∧ Hid (pkN L n L.length = pkN L n k)) (fun sk => (intOf sk).toNat)
  case atStart => exact ⟨L.length, Nat.le_refl _, rfl, Lib.hid rfl⟩
  case round =>
    obtain ⟨k, hk, rfl, HP⟩ := hrel
    have hc4 : k = 0 ∨ (∃ j, k = j + 1 ∧ n < nthN L j) ∨ (∃ j, k = j + 1 ∧ nthN L j = n) ∨ (∃ j, k = j + 1 ∧ nthN L j < n) := by
      by_cases hk0 : k = 0
      · exact Or.inl hk0
      · obtain ⟨j, rfl⟩ : ∃ j, k = j + 1 := ⟨k - 1, by omega⟩
        rcases Nat.lt_trichotomy n (nthN L j) with h | h | h
        · exact Or.inr (Or.inl ⟨j, rfl, h⟩)
        · exact Or.inr (Or.inr (Or.inl ⟨j, rfl, h.symm⟩))
        · exact Or.inr (Or.inr (Or.inr ⟨j, rfl, h⟩))
    have Hcell := Lib.hid hcellL
    clear hcellL
    rcases hc4 with hk0 | ⟨j, rfl, hlt⟩ | ⟨j, rfl, he⟩ | ⟨j, hkj, hlt⟩
    · have Hp : Hid (putN L n = putAt L n k) := Lib.hid (by rw [hk0] at HP ⊢; exact putN_zero HP.out)
      have hkz : ¬ (0 : Int) < (k : Int) := by omega
      clear hk0
      have hsl := fun W => run_cut (P := Tryz.prog) elI szI ao L.length c (k : Int) (by omega) (by omega) W
      have hsa := fun W => run_cutAt (P := Tryz.prog) elI szI ao L.length c (k : Int) (by omega) (by omega) W
      have hfl := fun W => run_cutFrom (P := Tryz.prog) elI szI ao L.length c (k : Int) (by omega) (by omega) W
      have hfa := fun W => run_cutFromAt (P := Tryz.prog) elI szI ao L.length c (k : Int) (by omega) (by omega) W
      rw [show ((k : Int)).toNat = k by omega] at hsl hsa hfl hfa
      have hcl : (castL L).length = L.length := castL_len L
      have Hpq : Hid (castL (putN L n) = (castL L).take k ++ [(n : Int)] ++ (castL L).drop k) := Lib.hid (by rw [Hp.out, castL_put])
      have HA := Lib.hid (fun W (hW : Ext w W) => (HI.out W hW).take (k := k) (by omega))
      have HB := Lib.hid (fun W (hW : Ext w W) => (HI.out W hW).drop (k := k) (by omega))
      have hln1 : ((castL L).take k).length + [(n : Int)].length ≤ 17592186044416 := by rw [List.length_take, List.length_singleton]; omega
      have hln2 : ((castL L).take k ++ [(n : Int)]).length + ((castL L).drop k).length ≤ 17592186044416 := by rw [List.length_append, List.length_take, List.length_singleton, List.length_drop]; omega
      obtain ⟨A, hA⟩ : ∃ A, A = (castL L).take k := ⟨_, rfl⟩
      obtain ⟨B, hB⟩ : ∃ B, B = (castL L).drop k := ⟨_, rfl⟩
      rw [← hA] at HA hln1 hln2 Hpq
      rw [← hB] at HB hln2 Hpq
      clear hA hB hcl
      go_wp2_with fail
      first | (go_region_held3 (fun W => Ext w W) (exact (by repeat (first | assumption | exact Ext.refl _ | (apply And.left; assumption) | apply Ext.drew | apply Ext.alloc))) (first | ((refine step_appendsE slI rfl _ _ rfl w w ?_ ?_ (A ++ [(n : Int)]) (B) ?_ ?_ ?_ hln2 ?_ ?_ ?_); (rotate_left 2); (focus (first | (with_reducible assumption) | ((refine OwnE.ext (w := ?_) ?_ ?_); (rotate_left 1); (focus (with_reducible assumption)); repeat (first | assumption | exact Ext.refl _ | (apply And.left; assumption) | apply Ext.drew | apply Ext.alloc)))); (rotate_left 2); rfl; rfl; (rotate_left 1); (focus (exact HB.out _ (by repeat (first | assumption | exact Ext.refl _ | (apply And.left; assumption) | apply Ext.drew | apply Ext.alloc)))); (focus (repeat (first | assumption | exact Ext.refl _ | (apply And.left; assumption) | apply Ext.drew | apply Ext.alloc))); (intro vF wF hOF hXF hTF)) | ((refine step_appendsE slI rfl _ _ rfl w w ?_ ?_ (A) ([(n : Int)]) ?_ ?_ ?_ hln1 ?_ ?_ ?_); (rotate_left 2); (focus (first | (with_reducible assumption) | ((refine OwnE.ext (w := ?_) ?_ ?_); (rotate_left 1); (focus (with_reducible assumption)); repeat (first | assumption | exact Ext.refl _ | (apply And.left; assumption) | apply Ext.drew | apply Ext.alloc)))); (rotate_left 2); rfl; rfl; (rotate_left 1); (focus (refine Blk.ints1 (T := 3) ?_; (repeat (first | (with_reducible assumption) | (with_reducible exact Blk.new _ _ _) | ((with_reducible refine Blk.new' ?_); simp [go_sem]; done) | (with_reducible apply Blk.alloc) | (with_reducible apply Blk.drew) | (with_reducible refine Blk.ext ?_ hEC))))); (focus (repeat (first | assumption | exact Ext.refl _ | (apply And.left; assumption) | apply Ext.drew | apply Ext.alloc))); (intro vD wD hOD hXD hTD)) | ((refine step_copy2 slI rfl _ _ rfl ?_ ?_ (A) ?_ ?_ ?_ ?_ w ?_ ?_ ?_); (rotate_left 2); rfl; rfl; (focus (repeat (first | (with_reducible assumption) | (with_reducible exact Blk.new _ _ _) | ((with_reducible refine Blk.new' ?_); simp [go_sem]; done) | (with_reducible apply Blk.alloc) | (with_reducible apply Blk.drew)))); (exact HA.out _ (by repeat (first | assumption | exact Ext.refl _ | (apply And.left; assumption) | apply Ext.drew | apply Ext.alloc))); (focus (first | exact Nat.le_refl _ | omega | (simp; omega))); (focus (repeat (first | assumption | exact Ext.refl _ | (apply And.left; assumption) | apply Ext.drew | apply Ext.alloc))); (intro aoC cC wC hOC hZC hEC; have hXC := Ext.trans (a := w) (by repeat (first | assumption | exact Ext.refl _ | (apply And.left; assumption) | apply Ext.drew | apply Ext.alloc)) hEC; have hOEC : OwnE 3 w w wC _ _ := Or.inr hOC)))) | (fail "the region")
      all_goals
        obtain ⟨aoN, cN, rfl, hON, hEN⟩ := MiP.of hOF hXF
        go_wp2_with fail
        go_ret
        exact ⟨_, rfl, Or.inr (by rw [Hpq.out]; exact hON), hEN⟩
    · have hlj : j < L.length := by omega
      have hck := Hcell.out j w hlj hE
      obtain ⟨Y, hY⟩ : ∃ Y, Y = nthN L j := ⟨_, rfl⟩
      rw [← hY] at hck hlt
      have hixj := hixL j
      have hw1 : IntKind.i64.wrap (((j + 1 : Nat) : Int) - 1) = (j : Int) := by rw [show (((j + 1 : Nat) : Int) - 1) = (j : Int) by omega]; exact IntWalk.i64_in _ (by omega)
      have hw2 : (((j + 1 : Nat) : Int) - 1) = (j : Int) := by omega
      have hkz : (0 : Int) < ((j + 1 : Nat) : Int) := by omega
      have Hn : Hid (pkN L n L.length = pkN L n j) := Lib.hid (by rw [HP.out, pkN_down (by rw [← hY]; exact hlt)])
      have hq : (n : Int) < (Y : Int) := by omega
      clear hY
      go_wp2_with fail
      go_round
      case rel => exact ⟨j, by omega, by go_num, Hn⟩
      case measure => (first | (simp [intOf]; done) | (simp [intOf]; omega))
    · have hlj : j < L.length := by omega
      have hck := Hcell.out j w hlj hE
      have Hs : Hid (pkN L n L.length = j + 1) := Lib.hid (by rw [HP.out, pkN_stop (by omega)])
      have Hp : Hid (putN L n = L) := Lib.hid (putN_old Hs.out he)
      have hw2 : (((j + 1 : Nat) : Int) - 1) = (j : Int) := by omega
      have hkz : (0 : Int) < ((j + 1 : Nat) : Int) := by omega
      rw [he] at hck
      have hq : ¬ (n : Int) < (n : Int) := by omega
      clear he
      go_wp2_with fail
      go_ret
      exact ⟨_, rfl, Or.inl ⟨rfl, Hp.out⟩, hE⟩
    · have hlj : j < L.length := by omega
      have hck := Hcell.out j w hlj hE
      have Hs : Hid (pkN L n L.length = j + 1) := Lib.hid (by rw [HP.out, hkj, pkN_stop (by omega)])
      have Hp : Hid (putN L n = putAt L n k) := Lib.hid (by rw [hkj]; exact putN_new Hs.out (by omega))
      obtain ⟨Y, hY⟩ : ∃ Y, Y = nthN L j := ⟨_, rfl⟩
      rw [← hY] at hck hlt
      have hw2 : ((k : Int) - 1) = (j : Int) := by omega
      have hkz : (0 : Int) < (k : Int) := by omega
      have hq : ¬ (n : Int) < (Y : Int) := by omega
      have hq2 : ((Y : Int) == (n : Int)) = false := by rw [beq_eq_false_iff_ne]; omega
      have hixj := hixL j
      have Hs' := Hs
      clear hY hkj Hs Hs'
      have hsl := fun W => run_cut (P := Tryz.prog) elI szI ao L.length c (k : Int) (by omega) (by omega) W
      have hsa := fun W => run_cutAt (P := Tryz.prog) elI szI ao L.length c (k : Int) (by omega) (by omega) W
      have hfl := fun W => run_cutFrom (P := Tryz.prog) elI szI ao L.length c (k : Int) (by omega) (by omega) W
      have hfa := fun W => run_cutFromAt (P := Tryz.prog) elI szI ao L.length c (k : Int) (by omega) (by omega) W
      rw [show ((k : Int)).toNat = k by omega] at hsl hsa hfl hfa
      have hcl : (castL L).length = L.length := castL_len L
      have Hpq : Hid (castL (putN L n) = (castL L).take k ++ [(n : Int)] ++ (castL L).drop k) := Lib.hid (by rw [Hp.out, castL_put])
      have HA := Lib.hid (fun W (hW : Ext w W) => (HI.out W hW).take (k := k) (by omega))
      have HB := Lib.hid (fun W (hW : Ext w W) => (HI.out W hW).drop (k := k) (by omega))
      have hln1 : ((castL L).take k).length + [(n : Int)].length ≤ 17592186044416 := by rw [List.length_take, List.length_singleton]; omega
      have hln2 : ((castL L).take k ++ [(n : Int)]).length + ((castL L).drop k).length ≤ 17592186044416 := by rw [List.length_append, List.length_take, List.length_singleton, List.length_drop]; omega
      obtain ⟨A, hA⟩ : ∃ A, A = (castL L).take k := ⟨_, rfl⟩
      obtain ⟨B, hB⟩ : ∃ B, B = (castL L).drop k := ⟨_, rfl⟩
      rw [← hA] at HA hln1 hln2 Hpq
      rw [← hB] at HB hln2 Hpq
      clear hA hB hcl
      go_wp2_with fail
      first | (go_region_held3 (fun W => Ext w W) (exact (by repeat (first | assumption | exact Ext.refl _ | (apply And.left; assumption) | apply Ext.drew | apply Ext.alloc))) (first | ((refine step_appendsE slI rfl _ _ rfl w w ?_ ?_ (A ++ [(n : Int)]) (B) ?_ ?_ ?_ hln2 ?_ ?_ ?_); (rotate_left 2); (focus (first | (with_reducible assumption) | ((refine OwnE.ext (w := ?_) ?_ ?_); (rotate_left 1); (focus (with_reducible assumption)); repeat (first | assumption | exact Ext.refl _ | (apply And.left; assumption) | apply Ext.drew | apply Ext.alloc)))); (rotate_left 2); rfl; rfl; (rotate_left 1); (focus (exact HB.out _ (by repeat (first | assumption | exact Ext.refl _ | (apply And.left; assumption) | apply Ext.drew | apply Ext.alloc)))); (focus (repeat (first | assumption | exact Ext.refl _ | (apply And.left; assumption) | apply Ext.drew | apply Ext.alloc))); (intro vF wF hOF hXF hTF)) | ((refine step_appendsE slI rfl _ _ rfl w w ?_ ?_ (A) ([(n : Int)]) ?_ ?_ ?_ hln1 ?_ ?_ ?_); (rotate_left 2); (focus (first | (with_reducible assumption) | ((refine OwnE.ext (w := ?_) ?_ ?_); (rotate_left 1); (focus (with_reducible assumption)); repeat (first | assumption | exact Ext.refl _ | (apply And.left; assumption) | apply Ext.drew | apply Ext.alloc)))); (rotate_left 2); rfl; rfl; (rotate_left 1); (focus (refine Blk.ints1 (T := 3) ?_; (repeat (first | (with_reducible assumption) | (with_reducible exact Blk.new _ _ _) | ((with_reducible refine Blk.new' ?_); simp [go_sem]; done) | (with_reducible apply Blk.alloc) | (with_reducible apply Blk.drew) | (with_reducible refine Blk.ext ?_ hEC))))); (focus (repeat (first | assumption | exact Ext.refl _ | (apply And.left; assumption) | apply Ext.drew | apply Ext.alloc))); (intro vD wD hOD hXD hTD)) | ((refine step_copy2 slI rfl _ _ rfl ?_ ?_ (A) ?_ ?_ ?_ ?_ w ?_ ?_ ?_); (rotate_left 2); rfl; rfl; (focus (repeat (first | (with_reducible assumption) | (with_reducible exact Blk.new _ _ _) | ((with_reducible refine Blk.new' ?_); simp [go_sem]; done) | (with_reducible apply Blk.alloc) | (with_reducible apply Blk.drew)))); (exact HA.out _ (by repeat (first | assumption | exact Ext.refl _ | (apply And.left; assumption) | apply Ext.drew | apply Ext.alloc))); (focus (first | exact Nat.le_refl _ | omega | (simp; omega))); (focus (repeat (first | assumption | exact Ext.refl _ | (apply And.left; assumption) | apply Ext.drew | apply Ext.alloc))); (intro aoC cC wC hOC hZC hEC; have hXC := Ext.trans (a := w) (by repeat (first | assumption | exact Ext.refl _ | (apply And.left; assumption) | apply Ext.drew | apply Ext.alloc)) hEC; have hOEC : OwnE 3 w w wC _ _ := Or.inr hOC)))) | (fail "the region")
      all_goals
        obtain ⟨aoN, cN, rfl, hON, hEN⟩ := MiP.of hOF hXF
        go_wp2_with fail
        go_ret
        exact ⟨_, rfl, Or.inr (by rw [Hpq.out]; exact hON), hEN⟩
theorem l5Put_any (u : Value) (L : List Nat) (n : Nat) (w : World) (h : Ints w u (castL L)) (hL : L.length ≤ 100000) :
    Calls Tryz.prog 106 #[u, .int .i64 n] w fun e w' => ∃ v', e = .returned v' ∧ Ints w' v' (castL (putN L n)) ∧ Ext w w' :=
  (l5Put_two u L n w h hL).mono fun e w' ⟨v', he, h1, hE⟩ => ⟨v', he, by
    rcases h1 with ⟨rfl, h2⟩ | h1
    · rw [h2]; exact h.ext hE
    · exact h1.ints, hE⟩
theorem l5Put_own (u : Value) (L : List Nat) (n : Nat) (w0 w : World) (h : Own 3 w0 w u (castL L)) (hs : w0.heap.size ≤ w.heap.size) (hL : L.length ≤ 100000) :
    Calls Tryz.prog 106 #[u, .int .i64 n] w fun e w' => ∃ v', e = .returned v' ∧ Own 3 w0 w' v' (castL (putN L n)) ∧ Ext w w' :=
  (l5Put_two u L n w h.ints hL).mono fun e w' ⟨v', he, h1, hE⟩ => ⟨v', he, by
    rcases h1 with ⟨rfl, h2⟩ | h1
    · rw [h2]; exact h.ext hE
    · exact ⟨ownsRow_mono h1.1 hs, h1.2⟩, hE⟩
theorem Ints.shapeN {w : World} {v : Value} {L : List Nat} (h : Ints w v (castL L)) : ∃ ao c, v = .slice ao L.length c := by
  obtain ⟨ao, c, rfl, -⟩ := h
  exact ⟨ao, c, by rw [castL_len]⟩
/-- the number of tiles, at most 200 -/
def tlN (l : List Int) (a : Int) : Nat := if isOneB l a then (tileL l a.toNat 200).length else 0
theorem tlN_no {l : List Int} {a : Int} (h : isOneB l a = false) : tlN l a = 0 := by unfold tlN; rw [h]; rfl
theorem tlN_yes {l : List Int} {n : Nat} (h : isOneB l n = true) : tlN l n = (tileL l n 200).length := by unfold tlN; rw [if_pos h]; rfl
end Go.Zz

/- Regions that draw their order, walked by hand: an operation is taken first, be its guard on or off. -/
namespace Go.Zz
open Go

theorem takeOn {P : Program} {ops : Array Oper} {Q : Exit → Act → World → Prop} {md : Region.Mode} {S : World → Prop} {i : Nat} {oi : Oper} {v : Value} {fuel : Nat} {listed : Array Bool} {a : Act} {w : World}
    (hr : (Region.ready md ops listed).contains i = true) (hi : ops[i]? = some oi) (hw : Region.wanted oi (yielded ops a.tmps) = true) (hf : Region.free md ops listed i = true) (hs : Region.noSelect ops = true)
    (hQ : ∀ c a w, Q (.panic c) (a.put oi.dst v) w → Q (.panic c) a w) (hy : ∀ w, S w → (execOp a.eval oi).run P w = .ok (.value v) w) (hS : S w)
    (h : wpAnyH P md ops Q S fuel (listed.setIfInBounds i true) (a.put oi.dst v) w) : wpAnyH P md ops Q S (fuel + 1) listed a w :=
  wpAnyH_take hi hs hf hr hQ (Or.inl ⟨hw, hy⟩) hS h
theorem takeOff {P : Program} {ops : Array Oper} {Q : Exit → Act → World → Prop} {md : Region.Mode} {S : World → Prop} {i : Nat} {oi : Oper} {fuel : Nat} {listed : Array Bool} {a : Act} {w : World}
    (hr : (Region.ready md ops listed).contains i = true) (hi : ops[i]? = some oi) (hw : Region.wanted oi (yielded ops a.tmps) = false) (hf : Region.free md ops listed i = true) (hs : Region.noSelect ops = true)
    (hQ : ∀ c a w, Q (.panic c) (a.put oi.dst undef) w → Q (.panic c) a w) (hS : S w)
    (h : wpAnyH P md ops Q S fuel (listed.setIfInBounds i true) (a.put oi.dst undef) w) : wpAnyH P md ops Q S (fuel + 1) listed a w :=
  wpAnyH_take hi hs hf hr hQ (Or.inr ⟨hw, rfl⟩) hS h
/-- one operation alone may come up -/
theorem takeOne {P : Program} {ops : Array Oper} {Q : Exit → Act → World → Prop} {md : Region.Mode} {S : World → Prop} {i : Nat} {oi : Oper} {fuel : Nat} {listed : Array Bool} {a : Act} {w : World}
    (hr : Region.ready md ops listed = [i]) (hi : ops[i]? = some oi) (hw : Region.wanted oi (yielded ops a.tmps) = true)
    (h : ∀ K' : Act → World → Prop, Shut (∀ a w, S w → (S w → wpAnyH P md ops Q S fuel (listed.setIfInBounds i true) a w) → K' a w) → Oper.wp P oi a w K' Q) : wpAnyH P md ops Q S (fuel + 1) listed a w :=
  wpAnyH_ready hr (by simp) (AllReadyH.cons hi (fun K hK => by rw [if_pos hw]; exact h K hK) AllReadyH.nil)
end Go.Zz
