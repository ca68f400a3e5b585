/- Plain facts on the search for a first largest set with a property that parts keep; cliques. No program is named here. -/
import Derived.Test.YtdlbbpeahicakaaGreatGr4
import Derived.Test.YtdlbbpeahicakaaGreatGr7
import Derived.Deep.RegionHeld3
namespace Go.Zz
set_option linter.unusedVariables false

/-- the elements from fr on by which b may grow -/
def kidN (P : Nat → Bool) (N b fr : Nat) : Nat := bset ((List.range N).filter (fun x => decide (fr ≤ x) && P (b ||| 2 ^ x)))
theorem kidN_bit {P : Nat → Bool} {N b fr i : Nat} : (kidN P N b fr).testBit i = (decide (i < N) && (decide (fr ≤ i) && P (b ||| 2 ^ i))) := by
  unfold kidN; rw [testBit_bset, Bool.eq_iff_iff]; simp [List.mem_filter]
theorem kidN_lt (P : Nat → Bool) (N b fr : Nat) : kidN P N b fr < 2 ^ N := bset_lt fun _ hx => List.mem_range.1 (List.mem_filter.1 hx).1
def fsS (P : Nat → Bool) (N : Nat) : Nat → Nat → Nat → Nat
  | 0, b, _ => b
  | f + 1, b, fr => (elems (kidN P N b fr)).foldl (fun (best x : Nat) => if cnt best < cnt (fsS P N f (b ||| 2 ^ x) (x + 1)) then fsS P N f (b ||| 2 ^ x) (x + 1) else best) b
def fsSto (P : Nat → Bool) (N f b fr k : Nat) : Nat := ((elems (kidN P N b fr)).take k).foldl (fun (best x : Nat) => if cnt best < cnt (fsS P N f (b ||| 2 ^ x) (x + 1)) then fsS P N f (b ||| 2 ^ x) (x + 1) else best) b
theorem fsS_end (P : Nat → Bool) (N f b fr : Nat) : fsS P N (f + 1) b fr = fsSto P N f b fr (elems (kidN P N b fr)).length := by unfold fsSto; rw [List.take_length]; rfl
theorem fsSto_zero (P : Nat → Bool) (N f b fr : Nat) : fsSto P N f b fr 0 = b := rfl
theorem fsSto_more {P : Nat → Bool} {N f b fr k : Nat} (hk : k < (elems (kidN P N b fr)).length) (h : cnt (fsSto P N f b fr k) < cnt (fsS P N f (b ||| 2 ^ nthN (elems (kidN P N b fr)) k) (nthN (elems (kidN P N b fr)) k + 1))) :
    fsSto P N f b fr (k + 1) = fsS P N f (b ||| 2 ^ nthN (elems (kidN P N b fr)) k) (nthN (elems (kidN P N b fr)) k + 1) := by
  unfold fsSto at h ⊢; rw [take_nthN _ _ hk, List.foldl_append]; simp only [List.foldl_cons, List.foldl_nil]; rw [if_pos h]
theorem fsSto_less {P : Nat → Bool} {N f b fr k : Nat} (hk : k < (elems (kidN P N b fr)).length) (h : ¬ cnt (fsSto P N f b fr k) < cnt (fsS P N f (b ||| 2 ^ nthN (elems (kidN P N b fr)) k) (nthN (elems (kidN P N b fr)) k + 1))) :
    fsSto P N f b fr (k + 1) = fsSto P N f b fr k := by
  unfold fsSto at h ⊢; rw [take_nthN _ _ hk, List.foldl_append]; simp only [List.foldl_cons, List.foldl_nil]; rw [if_neg h]
/-- the same with the best one so far and its size -/
def fsI (P : Nat → Bool) (N : Nat) : Nat → Nat → Nat → Nat → Nat × Int → Nat × Int
  | 0, b, n, _, s => if s.2 < n then (b, n) else s
  | f + 1, b, n, fr, s => (elems (kidN P N b fr)).foldl (fun (s : Nat × Int) (x : Nat) => fsI P N f (b ||| 2 ^ x) (n + 1) (x + 1) s) (if s.2 < n then (b, n) else s)
/-- after the elements below k -/
def fsIto (P : Nat → Bool) (N f b n fr : Nat) (s : Nat × Int) (k : Nat) : Nat × Int := (elemsTo (kidN P N b fr) k).foldl (fun (s : Nat × Int) (x : Nat) => fsI P N f (b ||| 2 ^ x) (n + 1) (x + 1) s) (if s.2 < n then (b, n) else s)
theorem fsI_end {P : Nat → Bool} {N : Nat} (hN : N ≤ 24) (f b n fr : Nat) (s : Nat × Int) : fsI P N (f + 1) b n fr s = fsIto P N f b n fr s N := by
  unfold fsIto; rw [elemsTo_all hN (kidN_lt P N b fr)]; rfl
theorem elemsTo_nil0 {a k : Nat} (h : ∀ i, i < k → a.testBit i = false) : elemsTo a k = [] := by
  unfold elemsTo; rw [List.filter_eq_nil_iff]; intro i hi; rw [h i (List.mem_range.1 hi)]; simp
theorem fsIto_start {P : Nat → Bool} {N f b n fr : Nat} {s : Nat × Int} : fsIto P N f b n fr s fr = if s.2 < n then (b, (n : Int)) else s := by
  unfold fsIto; rw [elemsTo_nil0 fun i hi => by rw [kidN_bit]; simp; intro _ h; omega]; rfl
theorem fsIto_yes {P : Nat → Bool} {N f b n fr k : Nat} {s : Nat × Int} (h1 : k < N) (h2 : fr ≤ k) (h : P (b ||| 2 ^ k) = true) : fsIto P N f b n fr s (k + 1) = fsI P N f (b ||| 2 ^ k) (n + 1) (k + 1) (fsIto P N f b n fr s k) := by
  unfold fsIto; rw [elemsTo_succ, show (kidN P N b fr).testBit k = true by rw [kidN_bit, h]; simp [h1, h2], if_pos rfl, List.foldl_append]; rfl
theorem fsIto_no {P : Nat → Bool} {N f b n fr k : Nat} {s : Nat × Int} (h : P (b ||| 2 ^ k) = false) : fsIto P N f b n fr s (k + 1) = fsIto P N f b n fr s k := by
  unfold fsIto; rw [elemsTo_succ, show (kidN P N b fr).testBit k = false by rw [kidN_bit, h]; simp]; simp
theorem bit_two (x i : Nat) : (2 ^ x).testBit i = decide (x = i) := Nat.testBit_two_pow
theorem cnt_or_new {b x : Nat} (hb : b < 2 ^ 24) (hx : x < 24) (h : b.testBit x = false) : cnt (b ||| 2 ^ x) = cnt b + 1 := by
  have h1 := cnt_sub (Sub.or_left b (2 ^ x))
  have e : andN (b ||| 2 ^ x) b = 2 ^ x := Nat.eq_of_testBit_eq fun i => by
    rw [andN_bit, Nat.testBit_or, bit_two]
    by_cases hi : x = i
    · subst hi; simp [h]
    · simp [hi]
  rw [e] at h1
  have h2 : elems (2 ^ x) = (List.range 24).filter (fun i => decide (x = i)) := by unfold elems; congr 1; funext i; exact bit_two x i
  have h3 : cnt (2 ^ x) = 1 := by
    unfold cnt; rw [h2]
    have : ∀ n, x < n → ((List.range n).filter (fun i => decide (x = i))).length = 1 := by
      intro n
      induction n with
      | zero => omega
      | succ n ih =>
        intro hn
        rw [List.range_succ, List.filter_append, List.length_append]
        by_cases hxn : x = n
        · subst hxn
          have : (List.range x).filter (fun i => decide (x = i)) = [] := by rw [List.filter_eq_nil_iff]; intro i hi; have := List.mem_range.1 hi; simp; omega
          rw [this]; simp
        · rw [ih (by omega)]; simp [hxn]
    exact this 24 hx
  omega
/-- both searches find the same -/
theorem fsI_eq (P : Nat → Bool) (N : Nat) (hN : N ≤ 24) : ∀ (f b fr : Nat) (s : Nat × Int), b < 2 ^ fr → fr ≤ N → fsI P N f b (cnt b) fr s = if s.2 < cnt (fsS P N f b fr) then (fsS P N f b fr, (cnt (fsS P N f b fr) : Int)) else s := by
  intro f
  induction f with
  | zero => intro b fr s _ _; rfl
  | succ f ih =>
    intro b fr s hb hfr
    unfold fsI fsS
    have key : ∀ (L : List Nat), (∀ x ∈ L, fr ≤ x ∧ x < N) → ∀ r, (L.foldl (fun (s : Nat × Int) (x : Nat) => fsI P N f (b ||| 2 ^ x) (cnt b + 1) (x + 1) s) (if s.2 < cnt r then (r, (cnt r : Int)) else s)) =
        (if s.2 < cnt (L.foldl (fun (best x : Nat) => if cnt best < cnt (fsS P N f (b ||| 2 ^ x) (x + 1)) then fsS P N f (b ||| 2 ^ x) (x + 1) else best) r) then (L.foldl (fun (best x : Nat) => if cnt best < cnt (fsS P N f (b ||| 2 ^ x) (x + 1)) then fsS P N f (b ||| 2 ^ x) (x + 1) else best) r, (cnt (L.foldl (fun (best x : Nat) => if cnt best < cnt (fsS P N f (b ||| 2 ^ x) (x + 1)) then fsS P N f (b ||| 2 ^ x) (x + 1) else best) r) : Int)) else s) := by
      intro L
      induction L with
      | nil => intro _ r; rfl
      | cons x L ih2 =>
        intro hL r
        obtain ⟨hx1, hx2⟩ := hL x (by simp)
        have hbx : b.testBit x = false := testBit_ge hb hx1
        have hb24 : b < 2 ^ 24 := Nat.lt_of_lt_of_le hb (Nat.pow_le_pow_right (by omega) (by omega))
        have hc := cnt_or_new hb24 (show x < 24 by omega) hbx
        have hb2 : b ||| 2 ^ x < 2 ^ (x + 1) := Nat.or_lt_two_pow (Nat.lt_of_lt_of_le hb (Nat.pow_le_pow_right (by omega) (by omega))) (Nat.pow_lt_pow_right (by omega) (by omega))
        simp only [List.foldl_cons]
        have e := fun s => ih (b ||| 2 ^ x) (x + 1) s hb2 (by omega)
        rw [hc] at e
        have e2 : fsI P N f (b ||| 2 ^ x) (cnt b + 1) (x + 1) (if s.2 < cnt r then (r, (cnt r : Int)) else s) =
            (if s.2 < cnt (if cnt r < cnt (fsS P N f (b ||| 2 ^ x) (x + 1)) then fsS P N f (b ||| 2 ^ x) (x + 1) else r) then ((if cnt r < cnt (fsS P N f (b ||| 2 ^ x) (x + 1)) then fsS P N f (b ||| 2 ^ x) (x + 1) else r), (cnt (if cnt r < cnt (fsS P N f (b ||| 2 ^ x) (x + 1)) then fsS P N f (b ||| 2 ^ x) (x + 1) else r) : Int)) else s) := by
          rw [e]
          generalize fsS P N f (b ||| 2 ^ x) (x + 1) = y
          by_cases h1 : s.2 < cnt r <;> by_cases h2 : cnt r < cnt y <;> by_cases h3 : s.2 < cnt y <;> simp [h1, h2, h3] <;> omega
        rw [e2]
        exact ih2 (fun y hy => hL y (by simp [hy])) _
    refine key _ (fun x hx => ?_) b
    have := (mem_elems.1 hx).2
    rw [kidN_bit] at this
    simp at this; omega

theorem fsS_lt (P : Nat → Bool) (N : Nat) (hN : N ≤ 24) : ∀ (f b fr : Nat), b < 2 ^ 24 → fsS P N f b fr < 2 ^ 24 := by
  intro f
  induction f with
  | zero => intro b fr h; exact h
  | succ f ih =>
    intro b fr h
    unfold fsS
    have key : ∀ (L : List Nat), (∀ x ∈ L, x < 24) → ∀ r, r < 2 ^ 24 → L.foldl (fun (best x : Nat) => if cnt best < cnt (fsS P N f (b ||| 2 ^ x) (x + 1)) then fsS P N f (b ||| 2 ^ x) (x + 1) else best) r < 2 ^ 24 := by
      intro L
      induction L with
      | nil => intro _ r hr; exact hr
      | cons x L ih2 =>
        intro hL r hr
        simp only [List.foldl_cons]
        refine ih2 (fun y hy => hL y (by simp [hy])) _ ?_
        split
        · exact ih _ _ (Nat.or_lt_two_pow h (Nat.pow_lt_pow_right (by omega) (hL x (by simp))))
        · exact hr
    exact key _ (fun x hx => elems_lt hx) b h

/-! ### cliques -/
def cliP (l : List Int) (a b : Nat) : Bool := decide (andN (sumF l b (oppF l b)) (a ||| 1) = 0)
theorem cliP_iff {l : List Int} (hg : isGrp l = true) {a b : Nat} : cliP l a b = true ↔ ∀ y z, y < 24 → z < 24 → b.testBit y = true → b.testBit z = true → (a ||| 1).testBit (addF l y (negF l z)) = true := by
  unfold cliP
  rw [decide_eq_true_iff, andN_zero]
  constructor
  · intro h y z hy hz hby hbz
    exact h _ (testBit_sumF.2 ⟨y, negF l z, hy, hby, negF_bd hg z, testBit_oppF.2 ⟨z, hz, hbz, rfl⟩, rfl⟩)
  · intro h i hi
    obtain ⟨y, w, hy, hby, _, hw, rfl⟩ := testBit_sumF.1 hi
    obtain ⟨z, hz, hbz, rfl⟩ := testBit_oppF.1 hw
    exact h y z hy hz hby hbz
theorem addF_zero' {l : List Int} (h : Ords l) {x : Nat} (hx : x < ord l) : addF l x 0 = x := by rw [addF_comm]; exact addF_zero l h x hx
theorem neg_neg {l : List Int} (h : Ords l) {x : Nat} (hx : x < ord l) : negF l (negF l x) = x := by
  have h1 : addF l (negF l x) (negF l (negF l x)) = addF l (negF l x) x := by rw [addF_neg l h, addF_comm, addF_neg l h]
  exact addF_cancel h (negF_lt l h _) hx h1
/-- z = y + (z - y) -/
theorem add_sub {l : List Int} (h : Ords l) {y z : Nat} (hz : z < ord l) : addF l y (addF l z (negF l y)) = z := by
  rw [addF_comm l z, ← addF_assoc l h, addF_neg l h, addF_zero l h _ hz]
theorem neg_sub {l : List Int} (h : Ords l) {y z : Nat} (hy : y < ord l) (hz : z < ord l) : negF l (addF l y (negF l z)) = addF l z (negF l y) := by
  have e : addF l (addF l y (negF l z)) (addF l z (negF l y)) = 0 := by
    rw [addF_assoc l h, ← addF_assoc l h (negF l z), addF_comm l (negF l z) z, addF_neg l h, addF_zero l h _ (negF_lt l h _), addF_neg l h]
  exact (addF_cancel h (addF_lt l h _ _) (negF_lt l h _) (by rw [e, addF_neg l h])).symm
theorem one_bit (i : Nat) : (1 : Nat).testBit i = decide (i = 0) := by
  have := bit_two 0 i; rw [show (2:Nat) ^ 0 = 1 from rfl] at this; rw [this, Bool.eq_iff_iff]; simp; exact eq_comm
theorem conn_self (l : List Int) (h : Ords l) (a y : Nat) : (a ||| 1).testBit (addF l y (negF l y)) = true := by rw [addF_neg l h, Nat.testBit_or, one_bit]; simp
/-- joined by i - x -/
theorem conn_iff {l : List Int} (hg : isGrp l = true) {a x i : Nat} (ha : a < 2 ^ ord l) (hx : x < ord l) (hi : i < ord l) (hne : x ≠ i) : (a ||| 1).testBit (addF l i (negF l x)) = (shiftF l a x).testBit i := by
  have h := isGrp_ords hg
  have h0 : addF l i (negF l x) ≠ 0 := fun e => by
    have := add_sub h (y := x) hi
    rw [e, addF_zero' h hx] at this; exact hne this
  rw [Nat.testBit_or, one_bit, show decide (addF l i (negF l x) = 0) = false from decide_eq_false h0, Bool.or_false]
  refine bool_eq_of ⟨fun e => testBit_shiftF.2 ⟨_, addF_bd hg _ _, e, add_sub h hi⟩, fun e => ?_⟩
  obtain ⟨y, hy, hay, he⟩ := testBit_shiftF.1 e
  rw [← he, addF_comm l x y, addF_assoc l h, addF_neg l h, addF_zero' h (bit_lt ha hay)]
  exact hay
theorem conn_symm {l : List Int} (hg : isGrp l = true) {a y z : Nat} (ho : oppF l a = a) (hy : y < ord l) (hz : z < ord l) (h : (a ||| 1).testBit (addF l y (negF l z)) = true) : (a ||| 1).testBit (addF l z (negF l y)) = true := by
  have hO := isGrp_ords hg
  rw [Nat.testBit_or, one_bit] at h ⊢
  rw [Bool.or_eq_true] at h ⊢
  rcases h with h | h
  · left
    rw [← ho]
    exact testBit_oppF.2 ⟨_, addF_bd hg _ _, h, neg_sub hO hy hz⟩
  · right
    rw [decide_eq_true_iff] at h ⊢
    have h1 := add_sub hO (y := z) hy
    rw [h, addF_zero' hO hz] at h1
    rw [h1, addF_neg l hO]
/-- the candidates of the next step -/
theorem cli_next {l : List Int} (hg : isGrp l = true) {a b fr x : Nat} (ha : a < 2 ^ ord l) (ho : oppF l a = a) (hb : b < 2 ^ fr) (hx : (kidN (cliP l a) (ord l) b fr).testBit x = true) (i : Nat) :
    (kidN (cliP l a) (ord l) (b ||| 2 ^ x) (x + 1)).testBit i = (decide (x + 1 ≤ i) && ((kidN (cliP l a) (ord l) b fr).testBit i && (shiftF l a x).testBit i)) := by
  have hob := ord_bd hg
  rw [kidN_bit] at hx
  simp only [Bool.and_eq_true, decide_eq_true_eq] at hx
  obtain ⟨hx1, hx2, hx3⟩ := hx
  rw [kidN_bit, kidN_bit]
  by_cases hi : i < ord l
  rotate_left
  · simp [hi]
  by_cases hxi : x + 1 ≤ i
  rotate_left
  · simp [hxi]
  rw [← conn_iff hg ha hx1 hi (by omega)]
  simp only [hi, hxi, show fr ≤ i by omega, decide_true, Bool.true_and]
  rw [cliP_iff hg] at hx3
  refine bool_eq_of ⟨fun h => ?_, fun h => ?_⟩
  · rw [cliP_iff hg] at h
    rw [Bool.and_eq_true, cliP_iff hg]
    refine ⟨fun y z hy hz hby hbz => h y z hy hz ?_ ?_, h i x (by omega) (by omega) (by rw [Nat.testBit_or, bit_two]; simp) (by rw [Nat.testBit_or, Nat.testBit_or, bit_two]; simp)⟩
    · rw [Nat.testBit_or, Bool.or_eq_true] at hby; rw [Nat.testBit_or, Nat.testBit_or]; rcases hby with e | e <;> simp [e]
    · rw [Nat.testBit_or, Bool.or_eq_true] at hbz; rw [Nat.testBit_or, Nat.testBit_or]; rcases hbz with e | e <;> simp [e]
  · rw [Bool.and_eq_true, cliP_iff hg] at h
    obtain ⟨h1, h2⟩ := h
    rw [cliP_iff hg]
    have part : ∀ y, (b ||| 2 ^ x ||| 2 ^ i).testBit y = true → (b.testBit y = true ∨ y = x) ∨ y = i := by
      intro y hy
      rw [Nat.testBit_or, Nat.testBit_or, bit_two, bit_two] at hy
      simp only [Bool.or_eq_true, decide_eq_true_eq] at hy
      rcases hy with (e | e) | e
      · exact Or.inl (Or.inl e)
      · exact Or.inl (Or.inr e.symm)
      · exact Or.inr e.symm
    have inx : ∀ y, (b.testBit y = true ∨ y = x) → (b ||| 2 ^ x).testBit y = true := by
      rintro y (e | rfl)
      · rw [Nat.testBit_or, e]; rfl
      · rw [Nat.testBit_or, bit_two]; simp
    have ini : ∀ y, (b.testBit y = true ∨ y = i) → (b ||| 2 ^ i).testBit y = true := by
      rintro y (e | rfl)
      · rw [Nat.testBit_or, e]; rfl
      · rw [Nat.testBit_or, bit_two]; simp
    intro y z hy hz hby hbz
    rcases part y hby with hy1 | rfl
    · rcases part z hbz with hz1 | rfl
      · exact hx3 y z hy hz (inx y hy1) (inx z hz1)
      · rcases hy1 with hy1 | rfl
        · exact h1 y z hy hz (ini y (Or.inl hy1)) (ini z (Or.inr rfl))
        · exact conn_symm hg ho hi hx1 h2
    · rcases part z hbz with hz1 | rfl
      · rcases hz1 with hz1 | rfl
        · exact h1 y z hy hz (ini y (Or.inr rfl)) (ini z (Or.inl hz1))
        · exact h2
      · exact conn_self l (isGrp_ords hg) a _
theorem cli_start {l : List Int} (hg : isGrp l = true) (a : Nat) : kidN (cliP l a) (ord l) 0 0 = fullN l := by
  apply Nat.eq_of_testBit_eq
  intro i
  rw [kidN_bit, fullN_bit]
  by_cases hi : i < ord l
  · have : cliP l a (2 ^ i) = true := by
      rw [cliP_iff hg]
      intro y z _ _ hy hz
      rw [bit_two, decide_eq_true_iff] at hy hz
      subst hy; subst hz
      exact conn_self l (isGrp_ords hg) a i
    simp [hi, this]
  · simp [hi]
/-- left & s, shifted down and up again -/
theorem cut_bits (m s x i : Nat) : (shr (m &&& s) (x + 1) * 2 ^ (x + 1)).testBit i = (decide (x + 1 ≤ i) && (m.testBit i && s.testBit i)) := by
  unfold shr
  rw [← Nat.shiftLeft_eq, Nat.testBit_shiftLeft, Nat.testBit_shiftRight]
  by_cases h : x + 1 ≤ i
  · simp [h, Nat.testBit_and]
  · simp [h]
def lcF (l : List Int) (a : Int) : Bool := connB l a && decide (ord l ≤ 16)
def lcV (l : List Int) (a : Int) : Int := if lcF l a then (fsS (cliP l a.toNat) (ord l) (ord l + 1) 0 0 : Nat) else 0
end Go.Zz

/- Plain facts on the search for a longest sequence no part of which has the sum zero. No program is named here. -/
namespace Go.Zz
set_option linter.unusedVariables false

/-- the sums behind one term more -/
def nxS (l : List Int) (S x : Nat) : Nat := (S ||| shiftF l S x) ||| 2 ^ x
theorem nxS_lt {l : List Int} (hg : isGrp l = true) {S x : Nat} (hS : S < 2 ^ ord l) (hx : x < ord l) : nxS l S x < 2 ^ ord l :=
  Nat.or_lt_two_pow (Nat.or_lt_two_pow hS (shiftF_lt (isGrp_ords hg) S x)) (Nat.pow_lt_pow_right (by omega) hx)
theorem nxS_more {l : List Int} (hg : isGrp l = true) {S x : Nat} (hS : S < 2 ^ ord l) (h0 : S.testBit 0 = false) (hx : x < ord l) : cnt S < cnt (nxS l S x) := by
  have hob := ord_bd hg
  have hS24 : S < 2 ^ 24 := Nat.lt_of_lt_of_le hS (Nat.pow_le_pow_right (by omega) hob.2)
  have hT : S ||| 2 ^ 0 < 2 ^ ord l := Nat.or_lt_two_pow hS (Nat.pow_lt_pow_right (by omega) (by omega))
  have h1 := cnt_shift hg hT x
  rw [cnt_or_new hS24 (by omega) h0] at h1
  have hsub : Sub (shiftF l (S ||| 2 ^ 0) x) (nxS l S x) := fun i hi => by
    obtain ⟨y, hy, hb, he⟩ := testBit_shiftF.1 hi
    unfold nxS
    rw [Nat.testBit_or, Nat.testBit_or]
    rw [Nat.testBit_or, Nat.testBit_two_pow] at hb
    by_cases hy0 : y = 0
    · subst hy0
      rw [addF_comm, addF_zero l (isGrp_ords hg) x hx] at he
      subst he
      simp
    · have hSy : S.testBit y = true := by simpa [show ¬ 0 = y by omega] using hb
      have : (shiftF l S x).testBit i = true := testBit_shiftF.2 ⟨y, hy, hSy, he⟩
      rw [this]; simp
  have := cnt_mono hsub
  omega
/-- the longest one that goes on from X, the first of these, as the reference searches -/
def zfS (l : List Int) : Nat → List Nat → Nat → Nat → List Nat
  | 0, X, _, _ => X
  | f + 1, X, S, m => (List.range (ord l)).foldl (fun (b : List Nat) (x : Nat) => if x < m then b else if (nxS l S x).testBit 0 then b else if b.length < (zfS l f (X ++ [x]) (nxS l S x) x).length then zfS l f (X ++ [x]) (nxS l S x) x else b) X
def zfK (l : List Int) (f : Nat) (X : List Nat) (S m k : Nat) : List Nat := (List.range k).foldl (fun (b : List Nat) (x : Nat) => if x < m then b else if (nxS l S x).testBit 0 then b else if b.length < (zfS l f (X ++ [x]) (nxS l S x) x).length then zfS l f (X ++ [x]) (nxS l S x) x else b) X
theorem zfK_end (l : List Int) (f : Nat) (X : List Nat) (S m : Nat) : zfS l (f + 1) X S m = zfK l f X S m (ord l) := rfl
theorem zfK_start (l : List Int) (f : Nat) (X : List Nat) (S m : Nat) : zfK l f X S m m = X := by
  unfold zfK
  have : ∀ k, k ≤ m → (List.range k).foldl (fun (b : List Nat) (x : Nat) => if x < m then b else if (nxS l S x).testBit 0 then b else if b.length < (zfS l f (X ++ [x]) (nxS l S x) x).length then zfS l f (X ++ [x]) (nxS l S x) x else b) X = X := by
    intro k
    induction k with
    | zero => intro _; rfl
    | succ k ih =>
      intro hk
      rw [List.range_succ, List.foldl_append, ih (by omega)]
      simp only [List.foldl_cons, List.foldl_nil]
      rw [if_pos (by omega)]
  exact this m (Nat.le_refl _)
theorem zfK_no {l : List Int} {f : Nat} {X : List Nat} {S m k : Nat} (h : (nxS l S k).testBit 0 = true) : zfK l f X S m (k + 1) = zfK l f X S m k := by
  unfold zfK; rw [List.range_succ, List.foldl_append]; simp only [List.foldl_cons, List.foldl_nil]
  split
  · rfl
  · first | rfl | rw [if_pos h]
theorem zfK_more {l : List Int} {f : Nat} {X : List Nat} {S m k : Nat} (hm : m ≤ k) (h : (nxS l S k).testBit 0 = false) (hq : (zfK l f X S m k).length < (zfS l f (X ++ [k]) (nxS l S k) k).length) : zfK l f X S m (k + 1) = zfS l f (X ++ [k]) (nxS l S k) k := by
  unfold zfK at hq ⊢; rw [List.range_succ, List.foldl_append]; simp only [List.foldl_cons, List.foldl_nil]
  rw [if_neg (by omega), if_neg (by rw [h]; simp), if_pos hq]
theorem zfK_less {l : List Int} {f : Nat} {X : List Nat} {S m k : Nat} (hm : m ≤ k) (h : (nxS l S k).testBit 0 = false) (hq : ¬ (zfK l f X S m k).length < (zfS l f (X ++ [k]) (nxS l S k) k).length) : zfK l f X S m (k + 1) = zfK l f X S m k := by
  unfold zfK at hq ⊢; rw [List.range_succ, List.foldl_append]; simp only [List.foldl_cons, List.foldl_nil]
  rw [if_neg (by omega), if_neg (by rw [h]; simp), if_neg hq]
/-- as the program searches: the best one so far goes along -/
def zfI (l : List Int) : Nat → List Nat → Nat → Nat → List Nat → List Nat
  | 0, X, _, _, b => if b.length < X.length then X else b
  | f + 1, X, S, m, b => (List.range (ord l)).foldl (fun (b : List Nat) (x : Nat) => if x < m then b else if (nxS l S x).testBit 0 then b else zfI l f (X ++ [x]) (nxS l S x) x b) (if b.length < X.length then X else b)
def zfIto (l : List Int) (f : Nat) (X : List Nat) (S m : Nat) (b : List Nat) (k : Nat) : List Nat := (List.range k).foldl (fun (b : List Nat) (x : Nat) => if x < m then b else if (nxS l S x).testBit 0 then b else zfI l f (X ++ [x]) (nxS l S x) x b) (if b.length < X.length then X else b)
theorem zfIto_end (l : List Int) (f : Nat) (X : List Nat) (S m : Nat) (b : List Nat) : zfI l (f + 1) X S m b = zfIto l f X S m b (ord l) := rfl
theorem zfIto_start (l : List Int) (f : Nat) (X : List Nat) (S m : Nat) (b : List Nat) : zfIto l f X S m b m = if b.length < X.length then X else b := by
  unfold zfIto
  have : ∀ k, k ≤ m → ∀ b0 : List Nat, (List.range k).foldl (fun (b : List Nat) (x : Nat) => if x < m then b else if (nxS l S x).testBit 0 then b else zfI l f (X ++ [x]) (nxS l S x) x b) b0 = b0 := by
    intro k
    induction k with
    | zero => intro _ _; rfl
    | succ k ih =>
      intro hk b0
      rw [List.range_succ, List.foldl_append, ih (by omega)]
      simp only [List.foldl_cons, List.foldl_nil]
      rw [if_pos (by omega)]
  exact this m (Nat.le_refl _) _
theorem zfIto_no {l : List Int} {f : Nat} {X : List Nat} {S m k : Nat} {b : List Nat} (h : (nxS l S k).testBit 0 = true) : zfIto l f X S m b (k + 1) = zfIto l f X S m b k := by
  unfold zfIto; rw [List.range_succ, List.foldl_append]; simp only [List.foldl_cons, List.foldl_nil]
  split
  · rfl
  · first | rfl | rw [if_pos h]
theorem zfIto_yes {l : List Int} {f : Nat} {X : List Nat} {S m k : Nat} {b : List Nat} (hm : m ≤ k) (h : (nxS l S k).testBit 0 = false) : zfIto l f X S m b (k + 1) = zfI l f (X ++ [k]) (nxS l S k) k (zfIto l f X S m b k) := by
  unfold zfIto; rw [List.range_succ, List.foldl_append]; simp only [List.foldl_cons, List.foldl_nil]
  rw [if_neg (by omega), if_neg (by rw [h]; simp)]
/-- both searches find the same -/
theorem zfI_eq (l : List Int) : ∀ (f : Nat) (X : List Nat) (S m : Nat) (b : List Nat), zfI l f X S m b = if b.length < (zfS l f X S m).length then zfS l f X S m else b := by
  intro f
  induction f with
  | zero => intro X S m b; rfl
  | succ f ih =>
    intro X S m b
    unfold zfI zfS
    have key : ∀ (L : List Nat) (r : List Nat), L.foldl (fun (b : List Nat) (x : Nat) => if x < m then b else if (nxS l S x).testBit 0 then b else zfI l f (X ++ [x]) (nxS l S x) x b) (if b.length < r.length then r else b) =
        if b.length < (L.foldl (fun (b : List Nat) (x : Nat) => if x < m then b else if (nxS l S x).testBit 0 then b else if b.length < (zfS l f (X ++ [x]) (nxS l S x) x).length then zfS l f (X ++ [x]) (nxS l S x) x else b) r).length then L.foldl (fun (b : List Nat) (x : Nat) => if x < m then b else if (nxS l S x).testBit 0 then b else if b.length < (zfS l f (X ++ [x]) (nxS l S x) x).length then zfS l f (X ++ [x]) (nxS l S x) x else b) r else b := by
      intro L
      induction L with
      | nil => intro r; rfl
      | cons x L ihL =>
        intro r
        rw [List.foldl_cons, List.foldl_cons]
        by_cases h1 : x < m
        · rw [if_pos h1, if_pos h1]; exact ihL r
        · rw [if_neg h1, if_neg h1]
          by_cases h2 : (nxS l S x).testBit 0 = true
          · rw [if_pos h2, if_pos h2]; exact ihL r
          · rw [if_neg h2, if_neg h2, ih]
            have e : (if (if b.length < r.length then r else b).length < (zfS l f (X ++ [x]) (nxS l S x) x).length then zfS l f (X ++ [x]) (nxS l S x) x else if b.length < r.length then r else b) =
                if b.length < (if r.length < (zfS l f (X ++ [x]) (nxS l S x) x).length then zfS l f (X ++ [x]) (nxS l S x) x else r).length then (if r.length < (zfS l f (X ++ [x]) (nxS l S x) x).length then zfS l f (X ++ [x]) (nxS l S x) x else r) else b := by
              by_cases p1 : b.length < r.length <;> by_cases p2 : r.length < (zfS l f (X ++ [x]) (nxS l S x) x).length <;> by_cases p3 : b.length < (zfS l f (X ++ [x]) (nxS l S x) x).length <;> simp [p1, p2, p3] <;> omega
            rw [e]; exact ihL _
    exact key (List.range (ord l)) X
/-- all terms are elements, and there are not more of them than sums -/
theorem zfS_in {l : List Int} (hg : isGrp l = true) : ∀ (f : Nat) (X : List Nat) (S m : Nat), S < 2 ^ ord l → S.testBit 0 = false → (∀ x ∈ X, x < ord l) → X.length ≤ cnt S → (∀ x ∈ zfS l f X S m, x < ord l) ∧ (zfS l f X S m).length ≤ 24 := by
  intro f
  induction f with
  | zero => intro X S m hS h0 hX hl; exact ⟨hX, Nat.le_trans hl (cnt_le S)⟩
  | succ f ih =>
    intro X S m hS h0 hX hl
    unfold zfS
    have key : ∀ (L : List Nat), (∀ x ∈ L, x < ord l) → ∀ r : List Nat, ((∀ x ∈ r, x < ord l) ∧ r.length ≤ 24) → ((∀ x ∈ L.foldl (fun (b : List Nat) (x : Nat) => if x < m then b else if (nxS l S x).testBit 0 then b else if b.length < (zfS l f (X ++ [x]) (nxS l S x) x).length then zfS l f (X ++ [x]) (nxS l S x) x else b) r, x < ord l) ∧ (L.foldl (fun (b : List Nat) (x : Nat) => if x < m then b else if (nxS l S x).testBit 0 then b else if b.length < (zfS l f (X ++ [x]) (nxS l S x) x).length then zfS l f (X ++ [x]) (nxS l S x) x else b) r).length ≤ 24) := by
      intro L
      induction L with
      | nil => intro _ r hr; exact hr
      | cons x L ihL =>
        intro hL r hr
        rw [List.foldl_cons]
        refine ihL (fun y hy => hL y (by simp [hy])) _ ?_
        split
        · exact hr
        · split
          · exact hr
          · next h2 =>
            split
            · have hx := hL x (by simp)
              refine ih (X ++ [x]) (nxS l S x) x (nxS_lt hg hS hx) (by simpa using h2) ?_ ?_
              · intro y hy
                rw [List.mem_append, List.mem_singleton] at hy
                rcases hy with hy | rfl
                · exact hX y hy
                · exact hx
              · have := nxS_more hg hS h0 hx; simp; omega
            · exact hr
    exact key (List.range (ord l)) (fun x hx => List.mem_range.1 hx) X ⟨hX, Nat.le_trans hl (cnt_le S)⟩
def lzB (l : List Int) : Bool := isGrp l && decide (ord l ≤ 9)
def lzL (l : List Int) : List Nat := if lzB l then zfS l (ord l + 1) [] 0 1 else []
theorem lz_no {l : List Int} (h : lzB l = false) : lzL l = [] := by unfold lzL; rw [h]; rfl
theorem lz_yes {l : List Int} (h : lzB l = true) : lzL l = zfS l (ord l + 1) [] 0 1 := by unfold lzL; rw [h]; rfl
end Go.Zz

/- Parts and sums of parts; atoms: plain. -/
namespace Go.Zz
set_option linter.unusedVariables false
set_option maxHeartbeats 1000000

theorem partL_snoc (X : List Nat) (x m : Nat) : partL (X ++ [x]) m = partL X m ++ (if m.testBit X.length then [x] else []) := by
  unfold partL
  rw [List.length_append, List.length_singleton, List.range_succ, List.filter_append, List.map_append]
  congr 1
  · apply List.map_congr_left
    intro i hi
    have := List.mem_range.1 (List.mem_filter.1 hi).1
    simp [nthN, List.getD, List.getElem?_append_left this]
  · cases h : m.testBit X.length <;> simp [h, nthN, List.getD]
theorem snoc_ind {P : List Nat → Prop} (h0 : P []) (h1 : ∀ X x, P X → P (X ++ [x])) : ∀ (n : Nat) (X : List Nat), X.length = n → P X
  | 0, X, h => by rw [List.eq_nil_of_length_eq_zero h]; exact h0
  | n + 1, X, h => by
    rcases List.eq_nil_or_concat X with rfl | ⟨Y, y, rfl⟩
    · simp at h
    · rw [List.concat_eq_append] at h ⊢
      exact h1 Y y (snoc_ind h0 h1 n Y (by simpa using h))
theorem sub_snoc {Y Z : List Nat} {x : Nat} (h : Y.Sublist (Z ++ [x])) : Y.Sublist Z ∨ ∃ Y', Y = Y' ++ [x] ∧ Y'.Sublist Z := by
  obtain ⟨A, B, rfl, hA, hB⟩ := List.sublist_append_iff.1 h
  cases B with
  | nil => left; simpa using hA
  | cons b B =>
    have hl := hB.length_le
    have : B = [] := by simpa using hl
    subst this
    have : b = x := by have := hB.subset (List.mem_singleton.2 rfl); simpa using this
    subst this
    exact Or.inr ⟨A, rfl, hA⟩
theorem partL_sub (X : List Nat) (m : Nat) : (partL X m).Sublist X := by
  refine snoc_ind (P := fun X => (partL X m).Sublist X) ?_ ?_ _ X rfl
  · simp [partL]
  · intro X x ih
    rw [partL_snoc]
    refine ih.append ?_
    split
    · exact List.Sublist.refl _
    · exact List.nil_sublist _
theorem partL_mod (X : List Nat) {m m' : Nat} (h : ∀ i, i < X.length → m.testBit i = m'.testBit i) : partL X m = partL X m' := by
  unfold partL
  congr 1
  apply List.filter_congr
  intro i hi
  exact h i (List.mem_range.1 hi)
theorem sub_part {X : List Nat} : ∀ {Y}, Y.Sublist X → ∃ m, m < 2 ^ X.length ∧ partL X m = Y := by
  refine snoc_ind (P := fun X => ∀ {Y}, Y.Sublist X → ∃ m, m < 2 ^ X.length ∧ partL X m = Y) ?_ ?_ _ X rfl
  · intro Y h
    have : Y = [] := by simpa using h
    subst this
    exact ⟨0, by simp, by simp [partL]⟩
  · intro X x ih Y h
    rcases sub_snoc h with h' | ⟨Y', rfl, h'⟩
    · obtain ⟨m, hm, rfl⟩ := ih h'
      refine ⟨m, by simp [Nat.pow_succ]; omega, ?_⟩
      rw [partL_snoc, Nat.testBit_lt_two_pow hm]; simp
    · obtain ⟨m, hm, rfl⟩ := ih h'
      refine ⟨m ||| 2 ^ X.length, Nat.or_lt_two_pow (by rw [List.length_append, List.length_singleton, Nat.pow_succ]; omega) (Nat.pow_lt_pow_right (by omega) (by simp)), ?_⟩
      rw [partL_snoc, Nat.testBit_or, Nat.testBit_two_pow_self, Bool.or_true]
      simp only [if_true]
      congr 1
      refine partL_mod X fun i hi => ?_
      rw [Nat.testBit_or, Nat.testBit_two_pow]
      simp [show ¬ X.length = i by omega]
theorem part_all (X : List Nat) {m : Nat} (h : ∀ i, i < X.length → m.testBit i = true) : partL X m = X := by
  unfold partL
  rw [List.filter_eq_self.2 (by intro i hi; exact h i (List.mem_range.1 hi))]
  apply List.ext_getElem
  · simp
  · intro i h1 h2; simp [nthN, List.getD, h2]
/-- the sums of parts that are not empty are those of sublists -/
theorem sbs_iff {l : List Int} (hg : isGrp l = true) (X : List Nat) : (∀ x ∈ X, x < ord l) → ∀ z, (sbs l X).testBit z = true ↔ ∃ Y, Y.Sublist X ∧ Y ≠ [] ∧ tot l Y = z := by
  have ho := isGrp_ords hg
  have hob := ord_bd hg
  refine snoc_ind (P := fun X => (∀ x ∈ X, x < ord l) → ∀ z, (sbs l X).testBit z = true ↔ ∃ Y, Y.Sublist X ∧ Y ≠ [] ∧ tot l Y = z) ?_ ?_ _ X rfl
  · intro _ z
    constructor
    · intro h; simp [sbs] at h
    · rintro ⟨Y, h1, h2, -⟩; exact absurd (by simpa using h1) h2
  · intro X x ih hX z
    have hXo : ∀ y ∈ X, y < ord l := fun y hy => hX y (by simp [hy])
    have hx : x < ord l := hX x (by simp)
    have ih := ih hXo
    have hbd := sbs_bd hg X (fun y hy => by have := hXo y hy; omega)
    rw [sbs_snoc, Nat.testBit_or, Nat.testBit_or, Bool.or_eq_true, Bool.or_eq_true, ih z, testBit_shiftF, Nat.testBit_two_pow, decide_eq_true_eq]
    constructor
    · rintro ((⟨Y, h1, h2, h3⟩ | ⟨y, hy, hb, he⟩) | rfl)
      · exact ⟨Y, h1.trans (List.sublist_append_left X [x]), h2, h3⟩
      · obtain ⟨Y, h1, h2, h3⟩ := (ih y).1 hb
        exact ⟨Y ++ [x], h1.append (List.Sublist.refl _), by simp, by rw [tot_snoc, h3, addF_comm]; exact he⟩
      · exact ⟨[x], List.sublist_append_right X [x], by simp, by show addF l 0 x = x; exact addF_zero l ho x hx⟩
    · rintro ⟨Y, h1, h2, h3⟩
      rcases sub_snoc h1 with h | ⟨Y', e, h⟩
      · exact Or.inl (Or.inl ⟨Y, h, h2, h3⟩)
      · subst e
        by_cases he : Y' = []
        · subst he
          right
          rw [← h3]
          show x = addF l 0 x
          exact (addF_zero l ho x hx).symm
        · refine Or.inl (Or.inr ⟨tot l Y', ?_, (ih _).2 ⟨Y', h, he, rfl⟩, ?_⟩)
          · exact Nat.lt_of_lt_of_le (tot_bd hg Y') (Nat.le_refl _)
          · rw [tot_snoc, addF_comm] at h3; exact h3
/-- X without the term at i -/
def exI (X : List Nat) (i : Nat) : List Nat := X.take i ++ X.drop (i + 1)
theorem exI_erase (X : List Nat) (i : Nat) : exI X i = X.eraseIdx i := by unfold exI; rw [List.eraseIdx_eq_take_drop_succ]
theorem exI_len {X : List Nat} {i : Nat} (h : i < X.length) : (exI X i).length + 1 = X.length := by
  unfold exI; rw [List.length_append, List.length_take, List.length_drop]; omega
theorem exI_sub (X : List Nat) (i : Nat) : (exI X i).Sublist X := by rw [exI_erase]; exact List.eraseIdx_sublist X i
theorem exI_last (X : List Nat) (x : Nat) : exI (X ++ [x]) X.length = X := by unfold exI; simp
theorem exI_snoc {X : List Nat} (x : Nat) {i : Nat} (h : i < X.length) : exI (X ++ [x]) i = exI X i ++ [x] := by
  unfold exI
  rw [List.take_append_of_le_length (by omega), List.drop_append_of_le_length (by omega), List.append_assoc]
theorem part_ex (X : List Nat) (m : Nat) : ∀ i, i < X.length → m.testBit i = false → (partL X m).Sublist (exI X i) := by
  refine snoc_ind (P := fun X => ∀ i, i < X.length → m.testBit i = false → (partL X m).Sublist (exI X i)) ?_ ?_ _ X rfl
  · intro i hi; simp at hi
  · intro X x ih i hi hb
    rw [partL_snoc]
    by_cases e : i = X.length
    · subst e
      rw [hb, exI_last]; simp only [Bool.false_eq_true, if_false, List.append_nil]; exact partL_sub X m
    · have hi' : i < X.length := by simp at hi; omega
      rw [exI_snoc x hi']
      refine (ih i hi' hb).append ?_
      split
      · exact List.Sublist.refl _
      · exact List.nil_sublist _
/-- no proper part has the sum 0: as the reference asks, as the program asks -/
def mnB (l : List Int) (X : List Nat) : Bool := (List.range X.length).all fun i => !(sbs l (exI X i)).testBit 0
def pmB (l : List Int) (X : List Nat) : Bool := (List.range (pw X.length - 1)).all fun m => decide (m = 0) || decide (tot l (partL X m) ≠ 0)
theorem mnB_iff {l : List Int} {X : List Nat} : mnB l X = true ↔ ∀ i, i < X.length → (sbs l (exI X i)).testBit 0 = false := by
  unfold mnB; simp [List.all_eq_true]
theorem pmB_iff {l : List Int} {X : List Nat} : pmB l X = true ↔ ∀ m, m < pw X.length - 1 → m ≠ 0 → tot l (partL X m) ≠ 0 := by
  unfold pmB
  simp only [List.all_eq_true, List.mem_range, Bool.or_eq_true, decide_eq_true_eq]
  constructor
  · intro H m h1 h2
    rcases H m h1 with e | e
    · exact absurd e h2
    · exact e
  · intro H m h1
    by_cases e : m = 0
    · exact Or.inl e
    · exact Or.inr (H m h1 e)
theorem partL_nz {X : List Nat} {m : Nat} (hm : m < 2 ^ X.length) (h : m ≠ 0) : partL X m ≠ [] := by
  intro e
  obtain ⟨i, hi⟩ := Nat.exists_testBit_of_ne_zero h
  have hil : i < X.length := by
    rcases Nat.lt_or_ge i X.length with q | q
    · exact q
    · rw [testBit_ge hm q] at hi; cases hi
  have : nthN X i ∈ partL X m := by
    unfold partL
    exact List.mem_map.2 ⟨i, List.mem_filter.2 ⟨List.mem_range.2 hil, hi⟩, rfl⟩
  rw [e] at this; cases this
theorem pm_mn {l : List Int} (hg : isGrp l = true) {X : List Nat} (hX : ∀ x ∈ X, x < ord l) : pmB l X = mnB l X := by
  rw [Bool.eq_iff_iff, pmB_iff, mnB_iff]
  have hp : pw X.length = 2 ^ X.length := rfl
  constructor
  · intro H i hi
    rw [← Bool.not_eq_true, sbs_iff hg _ (fun x hx => hX x ((exI_sub X i).subset hx))]
    rintro ⟨Y, h1, h2, h3⟩
    obtain ⟨m, hm, rfl⟩ := sub_part (h1.trans (exI_sub X i))
    refine H m ?_ ?_ h3
    · rw [hp]
      rcases Nat.lt_or_ge m (2 ^ X.length - 1) with q | q
      · exact q
      · exfalso
        have e : m = 2 ^ X.length - 1 := by omega
        have := h1.length_le
        rw [part_all X (fun j hj => by rw [e, Nat.testBit_two_pow_sub_one]; simpa using hj)] at this
        have := exI_len hi
        omega
    · rintro rfl; exact h2 (by simp [partL])
  · intro H m h1 h2 h3
    rw [hp] at h1
    have hm : m < 2 ^ X.length := by omega
    have hi : ∃ i, i < X.length ∧ m.testBit i = false := by
      apply Classical.byContradiction
      intro hn
      have e : m = 2 ^ X.length - 1 := by
        apply Nat.eq_of_testBit_eq
        intro j
        rw [Nat.testBit_two_pow_sub_one]
        by_cases hj : j < X.length
        · cases hb : m.testBit j
          · exact absurd ⟨j, hj, hb⟩ hn
          · simp [hj]
        · rw [testBit_ge hm (by omega)]; simp [hj]
      omega
    obtain ⟨i, hi, hb⟩ := hi
    have := H i hi
    rw [← Bool.not_eq_true, sbs_iff hg _ (fun x hx => hX x ((exI_sub X i).subset hx))] at this
    exact this ⟨partL X m, part_ex X m i hi hb, partL_nz hm h2, h3⟩
/-- an atom -/
def atmB (l xs : List Int) : Bool := zsB l xs && (decide (xs.length ≠ 0) && mnB l (xs.map Int.toNat))
theorem atmB_no {l xs : List Int} (h : zsB l xs = false) : atmB l xs = false := by unfold atmB; rw [h]; rfl
theorem atmB_nil (l : List Int) : atmB l [] = false := by unfold atmB; simp
theorem atmB_yes {l : List Int} {X : List Nat} (h : zsB l (castL X) = true) (h0 : X ≠ []) : atmB l (castL X) = mnB l X := by
  unfold atmB
  rw [h, map_cast]
  have : (castL X).length ≠ 0 := by rw [castL_len]; intro e; exact h0 (List.eq_nil_of_length_eq_zero e)
  simp [this]
/-- the last term left out is one of the cases -/
theorem mn_last {l : List Int} {X : List Nat} (h0 : X ≠ []) (h : (sbs l (X.take (X.length - 1))).testBit 0 = true) : mnB l X = false := by
  rw [← Bool.not_eq_true, mnB_iff]
  intro H
  have hl : 0 < X.length := List.length_pos_iff.2 h0
  have := H (X.length - 1) (by omega)
  have e : exI X (X.length - 1) = X.take (X.length - 1) := by
    unfold exI; rw [List.drop_eq_nil_of_le (by omega), List.append_nil]
  rw [e, h] at this; cases this
end Go.Zz

/- Atoms: IsAtom of the program. -/
namespace Go.Zz
open Go.RowKit Go.Proofs
set_option maxHeartbeats 2000000
set_option maxRecDepth 8000

theorem IsAtom_any (v u : Value) (l xs : List Int) (w : World) (h : Ints w v l) (hu : Ints w u xs) :
    Calls Tryz.prog 75 #[.agg #[v], u] w fun e w' => e = .returned (.bool (atmB l xs)) ∧ Ext w w' := by
  obtain ⟨wb, hwb⟩ : ∃ wb, wb = w.alloc (.cells #[v] 27) := ⟨_, rfl⟩
  have hE0 := (Ext.refl w).alloc (.cells #[v] 27)
  have hb := box_cell w v 27
  rw [← hwb] at hE0 hb
  have hg : ∀ W, Ext wb W → Ints W v l := fun W hW => h.ext (hE0.trans hW)
  have hE := Ext.refl wb
  have Hsz : Hid (w.heap.size + 1 = wb.heap.size) := Lib.hid (by rw [hwb]; simp [go_sem])
  have Hwb := Lib.hid hwb
  clear hwb h
  have HU := Lib.hid (fun W (hW : Ext wb W) => hu.ext (hE0.trans hW))
  have cZ := fun W (hW : Ext wb W) => IsZeroSum_any v u l xs W (hg W hW) (HU.out W hW)
  have hbx := hb _ hE
  cases hz : zsB l xs
  · have Hs := Lib.hid (atmB_no hz)
    rw [hz] at cZ
    clear hu hz
    go_enter Tryz.func75, Tryz.ntmps75
    go_wp2_with fail
    rw [← Hwb.out]
    go_wp2_with (refine (cZ _ hE).mono ?_; rintro e w1 ⟨rfl, hE1⟩)
    go_ret
    exact ⟨ret_bool Hs.out.symm, hE0.trans (hE.trans hE1)⟩
  · rw [hz] at cZ
    have hseq : seqB l xs = true := by
      cases hs : seqB l xs
      · rw [zsB_no hs] at hz; cases hz
      · rfl
    obtain ⟨X, rfl, hXo, h12, hgr, hall⟩ := seqB_nat hseq
    by_cases h0 : X = []
    · subst h0
      have Hs : Hid (atmB l (castL []) = false) := Lib.hid (atmB_nil l)
      obtain ⟨ao, c, adr, rfl, -, -⟩ := hu.nats
      clear hz
      go_enter Tryz.func75, Tryz.ntmps75
      go_wp2_with fail
      rw [← Hwb.out]
      go_wp2_with (refine (cZ _ hE).mono ?_; rintro e w1 ⟨rfl, hE1⟩)
      go_ret
      exact ⟨ret_bool Hs.out.symm, hE0.trans (hE.trans hE1)⟩
    · have Hs : Hid (atmB l (castL X) = pmB l X) := Lib.hid ((atmB_yes hz h0).trans (pm_mn hgr hXo).symm)
      have Hall := Lib.hid hall
      have Hgr := Lib.hid hgr
      have hp := pw_len h12
      have hp1 := pw_pos X.length
      have hs1 := ishl_one (n := X.length) (by omega)
      obtain ⟨ao, c, adr, rfl, -, -⟩ := hu.nats
      have hlq : (((X.length : Nat) : Int) == 0) = false := by
        rw [beq_eq_false_iff_ne]; intro e; exact h0 (List.eq_nil_of_length_eq_zero (by omega))
      clear hu hz hall hgr h0 hseq hXo
      go_enter Tryz.func75, Tryz.ntmps75
      go_wp2_with fail
      rw [← Hwb.out]
      go_wp2_with (refine (cZ _ hE).mono ?_; rintro e w1 ⟨rfl, hE1⟩)
      replace hE := hE1
      clear hE1 hbx cZ
      go_loopw [5] (fun i wr => ∃ m : Nat, 1 ≤ m ∧ i = .int .i64 m ∧ m ≤ 4096 ∧ Hid (∀ j, j < m → j < pw X.length - 1 → j ≠ 0 → tot l (partL X j) ≠ 0) ∧ Ext wb wr) (fun i _ => 4096 - (intOf i).toNat)
      case atStart => exact ⟨1, by omega, rfl, by omega, Lib.hid (fun j h1 h2 h3 => by omega), hE⟩
      case round =>
        clear hE
        obtain ⟨m, hm1, rfl, hm2, Hno, hE⟩ := hrel
        obtain ⟨N, hN⟩ : ∃ N, N = pw X.length := ⟨_, rfl⟩
        rw [← hN] at hp hp1 hs1 Hno
        have HN := Lib.hid hN
        clear hN
        by_cases hlt : m < N - 1
        · have hltI : (m : Int) < (N : Int) - 1 := by omega
          have hm24 : m < 2 ^ 24 := by omega
          have hbw : ∀ W, Ext wr W → W.cell? ⟨w.heap.size, 0, none⟩ = some v := fun W hW => hb W (hE.trans hW)
          have hgw : ∀ W, Ext wr W → Ints W v l := fun W hW => hg W (hE.trans hW)
          have Hgw : Hid (∀ W, Ext wr W → Ints W (.slice ao X.length c) (castL X)) := Lib.hid fun W hW => HU.out W (hE.trans hW)
          have hE1 := hE
          clear hE
          have hE := Ext.refl wr
          by_cases ht : tot l (partL X m) = 0
          · have Hk : Hid (pmB l X = false) := Lib.hid (by
              rw [← Bool.not_eq_true, pmB_iff]
              intro H; exact H m (by rw [← HN.out]; exact hlt) (by omega) ht)
            have hq2 : ((tot l (partL X m) : Int) == 0) = true := by rw [ht]; simp
            have hbx := hbw wr hE
            clear ht
            go_wp2_with fail
            have hD := (Ext.refl (wr)).drew
            first | (go_region_held3 (fun W => Ext (wr) W ∧ W.cell? ⟨w.heap.size, 0, none⟩ = some v) (exact ⟨(by repeat (first | assumption | exact Ext.refl _ | (apply And.left; assumption) | apply Ext.drew | apply Ext.alloc)), hbw _ (by repeat (first | assumption | exact Ext.refl _ | (apply And.left; assumption) | apply Ext.drew | apply Ext.alloc))⟩) (first | (go_at_call 162; ((with_reducible refine Calls.mono (part_any _ _ _ _ (Hgw.out _ (by repeat (first | assumption | exact Ext.refl _ | (apply And.left; assumption) | apply Ext.drew | apply Ext.alloc))) hm24 (by omega)) ?_); rintro e wH0 ⟨vP, rfl, hOP, hX0⟩; have hH0 := Ext.trans (a := wr) (by repeat (first | assumption | exact Ext.refl _ | (apply And.left; assumption) | apply Ext.drew | apply Ext.alloc)) hX0)) | (go_at_call 151; ((with_reducible refine Calls.mono (total_any _ _ _ _ _ (hgw _ (by repeat (first | assumption | exact Ext.refl _ | (apply And.left; assumption) | apply Ext.drew | apply Ext.alloc))) hOP.ints Hgr (Lib.hid fun x hx => Hall.out x (partL_mem hx))) ?_); rintro e wH1 ⟨rfl, hX1⟩; have hH1 := Ext.trans (a := wr) (by repeat (first | assumption | exact Ext.refl _ | (apply And.left; assumption) | apply Ext.drew | apply Ext.alloc)) hX1)))) | (fail "the region with calls")
            go_wp2_with fail
            go_ret
            exact ⟨ret_bool (by rw [Hs.out, Hk.out]), hE0.trans (hE1.trans (by repeat (first | assumption | exact Ext.refl _ | (apply And.left; assumption) | apply Ext.drew | apply Ext.alloc)))⟩
          · have Ht := Lib.hid ht
            have hq2 : ((tot l (partL X m) : Int) == 0) = false := by simp; omega
            have hbx := hbw wr hE
            clear ht
            go_wp2_with fail
            have hD := (Ext.refl (wr)).drew
            first | (go_region_held3 (fun W => Ext (wr) W ∧ W.cell? ⟨w.heap.size, 0, none⟩ = some v) (exact ⟨(by repeat (first | assumption | exact Ext.refl _ | (apply And.left; assumption) | apply Ext.drew | apply Ext.alloc)), hbw _ (by repeat (first | assumption | exact Ext.refl _ | (apply And.left; assumption) | apply Ext.drew | apply Ext.alloc))⟩) (first | (go_at_call 162; ((with_reducible refine Calls.mono (part_any _ _ _ _ (Hgw.out _ (by repeat (first | assumption | exact Ext.refl _ | (apply And.left; assumption) | apply Ext.drew | apply Ext.alloc))) hm24 (by omega)) ?_); rintro e wH0 ⟨vP, rfl, hOP, hX0⟩; have hH0 := Ext.trans (a := wr) (by repeat (first | assumption | exact Ext.refl _ | (apply And.left; assumption) | apply Ext.drew | apply Ext.alloc)) hX0)) | (go_at_call 151; ((with_reducible refine Calls.mono (total_any _ _ _ _ _ (hgw _ (by repeat (first | assumption | exact Ext.refl _ | (apply And.left; assumption) | apply Ext.drew | apply Ext.alloc))) hOP.ints Hgr (Lib.hid fun x hx => Hall.out x (partL_mem hx))) ?_); rintro e wH1 ⟨rfl, hX1⟩; have hH1 := Ext.trans (a := wr) (by repeat (first | assumption | exact Ext.refl _ | (apply And.left; assumption) | apply Ext.drew | apply Ext.alloc)) hX1)))) | (fail "the region with calls")
            go_wp2_with fail
            go_roundw
            case rel => exact ⟨m + 1, by omega, by go_num, by omega, Lib.hid (fun j p1 p2 p3 => by by_cases e : j = m; (subst e; exact Ht.out); exact Hno.out j (by omega) (by rw [HN.out]; exact p2) p3), hE1.trans (by repeat (first | assumption | exact Ext.refl _ | (apply And.left; assumption) | apply Ext.drew | apply Ext.alloc))⟩
            case measure => (simp [intOf]; omega)
        · have hltI : ¬ (m : Int) < (N : Int) - 1 := by omega
          have Hk : Hid (pmB l X = true) := Lib.hid (pmB_iff.2 fun j p1 p2 => Hno.out j (by have := HN.out; omega) (by have := HN.out; omega) p2)
          go_wp2_with fail
          go_ret
          exact ⟨ret_bool (by rw [Hs.out, Hk.out]), hE0.trans hE⟩
end Go.Zz
