/- Plain facts on the search for a first largest set with a property that parts keep; cliques. No program is named here. -/
import Derived.Test.YtgmbjfjihhdenaaGr4
import Derived.Test.YtgmbjfjihhdenaaGr10
import Derived.Test.YtgmbjfjihhdenaaGr9
import Derived.Test.YtgmbjfjihhdenaaGr5
import Derived.Laws.OwnMore
namespace Go.Zz
set_option linter.unusedVariables false

/-- the elements from fr on by which b may grow -/
def kidN (P : Nat → Bool) (N b fr : Nat) : Nat := bset ((List.range N).filter (fun x => decide (fr ≤ x) && P (b ||| 2 ^ x)))
theorem kidN_bit {P : Nat → Bool} {N b fr i : Nat} : (kidN P N b fr).testBit i = (decide (i < N) && (decide (fr ≤ i) && P (b ||| 2 ^ i))) := by
  unfold kidN; rw [testBit_bset, Bool.eq_iff_iff]; simp [List.mem_filter]
theorem kidN_lt (P : Nat → Bool) (N b fr : Nat) : kidN P N b fr < 2 ^ N := bset_lt fun _ hx => List.mem_range.1 (List.mem_filter.1 hx).1
def fsS (P : Nat → Bool) (N : Nat) : Nat → Nat → Nat → Nat
  | 0, b, _ => b
  | f + 1, b, fr => (elems (kidN P N b fr)).foldl (fun (best x : Nat) => if cnt best < cnt (fsS P N f (b ||| 2 ^ x) (x + 1)) then fsS P N f (b ||| 2 ^ x) (x + 1) else best) b
def fsSto (P : Nat → Bool) (N f b fr k : Nat) : Nat := ((elems (kidN P N b fr)).take k).foldl (fun (best x : Nat) => if cnt best < cnt (fsS P N f (b ||| 2 ^ x) (x + 1)) then fsS P N f (b ||| 2 ^ x) (x + 1) else best) b
theorem fsS_end (P : Nat → Bool) (N f b fr : Nat) : fsS P N (f + 1) b fr = fsSto P N f b fr (elems (kidN P N b fr)).length := by unfold fsSto; rw [List.take_length]; rfl
theorem fsSto_zero (P : Nat → Bool) (N f b fr : Nat) : fsSto P N f b fr 0 = b := rfl
theorem fsSto_more {P : Nat → Bool} {N f b fr k : Nat} (hk : k < (elems (kidN P N b fr)).length) (h : cnt (fsSto P N f b fr k) < cnt (fsS P N f (b ||| 2 ^ nthN (elems (kidN P N b fr)) k) (nthN (elems (kidN P N b fr)) k + 1))) :
    fsSto P N f b fr (k + 1) = fsS P N f (b ||| 2 ^ nthN (elems (kidN P N b fr)) k) (nthN (elems (kidN P N b fr)) k + 1) := by
  unfold fsSto at h ⊢; rw [take_nthN _ _ hk, List.foldl_append]; simp only [List.foldl_cons, List.foldl_nil]; rw [if_pos h]
theorem fsSto_less {P : Nat → Bool} {N f b fr k : Nat} (hk : k < (elems (kidN P N b fr)).length) (h : ¬ cnt (fsSto P N f b fr k) < cnt (fsS P N f (b ||| 2 ^ nthN (elems (kidN P N b fr)) k) (nthN (elems (kidN P N b fr)) k + 1))) :
    fsSto P N f b fr (k + 1) = fsSto P N f b fr k := by
  unfold fsSto at h ⊢; rw [take_nthN _ _ hk, List.foldl_append]; simp only [List.foldl_cons, List.foldl_nil]; rw [if_neg h]
/-- the same with the best one so far and its size -/
def fsI (P : Nat → Bool) (N : Nat) : Nat → Nat → Nat → Nat → Nat × Int → Nat × Int
  | 0, b, n, _, s => if s.2 < n then (b, n) else s
  | f + 1, b, n, fr, s => (elems (kidN P N b fr)).foldl (fun (s : Nat × Int) (x : Nat) => fsI P N f (b ||| 2 ^ x) (n + 1) (x + 1) s) (if s.2 < n then (b, n) else s)
/-- after the elements below k -/
def fsIto (P : Nat → Bool) (N f b n fr : Nat) (s : Nat × Int) (k : Nat) : Nat × Int := (elemsTo (kidN P N b fr) k).foldl (fun (s : Nat × Int) (x : Nat) => fsI P N f (b ||| 2 ^ x) (n + 1) (x + 1) s) (if s.2 < n then (b, n) else s)
theorem fsI_end {P : Nat → Bool} {N : Nat} (hN : N ≤ 24) (f b n fr : Nat) (s : Nat × Int) : fsI P N (f + 1) b n fr s = fsIto P N f b n fr s N := by
  unfold fsIto; rw [elemsTo_all hN (kidN_lt P N b fr)]; rfl
theorem elemsTo_nil0 {a k : Nat} (h : ∀ i, i < k → a.testBit i = false) : elemsTo a k = [] := by
  unfold elemsTo; rw [List.filter_eq_nil_iff]; intro i hi; rw [h i (List.mem_range.1 hi)]; simp
theorem fsIto_start {P : Nat → Bool} {N f b n fr : Nat} {s : Nat × Int} : fsIto P N f b n fr s fr = if s.2 < n then (b, (n : Int)) else s := by
  unfold fsIto; rw [elemsTo_nil0 fun i hi => by rw [kidN_bit]; simp; intro _ h; omega]; rfl
theorem fsIto_yes {P : Nat → Bool} {N f b n fr k : Nat} {s : Nat × Int} (h1 : k < N) (h2 : fr ≤ k) (h : P (b ||| 2 ^ k) = true) : fsIto P N f b n fr s (k + 1) = fsI P N f (b ||| 2 ^ k) (n + 1) (k + 1) (fsIto P N f b n fr s k) := by
  unfold fsIto; rw [elemsTo_succ, show (kidN P N b fr).testBit k = true by rw [kidN_bit, h]; simp [h1, h2], if_pos rfl, List.foldl_append]; rfl
theorem fsIto_no {P : Nat → Bool} {N f b n fr k : Nat} {s : Nat × Int} (h : P (b ||| 2 ^ k) = false) : fsIto P N f b n fr s (k + 1) = fsIto P N f b n fr s k := by
  unfold fsIto; rw [elemsTo_succ, show (kidN P N b fr).testBit k = false by rw [kidN_bit, h]; simp]; simp
theorem bit_two (x i : Nat) : (2 ^ x).testBit i = decide (x = i) := Nat.testBit_two_pow
theorem cnt_or_new {b x : Nat} (hb : b < 2 ^ 24) (hx : x < 24) (h : b.testBit x = false) : cnt (b ||| 2 ^ x) = cnt b + 1 := by
  have h1 := cnt_sub (Sub.or_left b (2 ^ x))
  have e : andN (b ||| 2 ^ x) b = 2 ^ x := Nat.eq_of_testBit_eq fun i => by
    rw [andN_bit, Nat.testBit_or, bit_two]
    by_cases hi : x = i
    · subst hi; simp [h]
    · simp [hi]
  rw [e] at h1
  have h2 : elems (2 ^ x) = (List.range 24).filter (fun i => decide (x = i)) := by unfold elems; congr 1; funext i; exact bit_two x i
  have h3 : cnt (2 ^ x) = 1 := by
    unfold cnt; rw [h2]
    have : ∀ n, x < n → ((List.range n).filter (fun i => decide (x = i))).length = 1 := by
      intro n
      induction n with
      | zero => omega
      | succ n ih =>
        intro hn
        rw [List.range_succ, List.filter_append, List.length_append]
        by_cases hxn : x = n
        · subst hxn
          have : (List.range x).filter (fun i => decide (x = i)) = [] := by rw [List.filter_eq_nil_iff]; intro i hi; have := List.mem_range.1 hi; simp; omega
          rw [this]; simp
        · rw [ih (by omega)]; simp [hxn]
    exact this 24 hx
  omega
/-- both searches find the same -/
theorem fsI_eq (P : Nat → Bool) (N : Nat) (hN : N ≤ 24) : ∀ (f b fr : Nat) (s : Nat × Int), b < 2 ^ fr → fr ≤ N → fsI P N f b (cnt b) fr s = if s.2 < cnt (fsS P N f b fr) then (fsS P N f b fr, (cnt (fsS P N f b fr) : Int)) else s := by
  intro f
  induction f with
  | zero => intro b fr s _ _; rfl
  | succ f ih =>
    intro b fr s hb hfr
    unfold fsI fsS
    have key : ∀ (L : List Nat), (∀ x ∈ L, fr ≤ x ∧ x < N) → ∀ r, (L.foldl (fun (s : Nat × Int) (x : Nat) => fsI P N f (b ||| 2 ^ x) (cnt b + 1) (x + 1) s) (if s.2 < cnt r then (r, (cnt r : Int)) else s)) =
        (if s.2 < cnt (L.foldl (fun (best x : Nat) => if cnt best < cnt (fsS P N f (b ||| 2 ^ x) (x + 1)) then fsS P N f (b ||| 2 ^ x) (x + 1) else best) r) then (L.foldl (fun (best x : Nat) => if cnt best < cnt (fsS P N f (b ||| 2 ^ x) (x + 1)) then fsS P N f (b ||| 2 ^ x) (x + 1) else best) r, (cnt (L.foldl (fun (best x : Nat) => if cnt best < cnt (fsS P N f (b ||| 2 ^ x) (x + 1)) then fsS P N f (b ||| 2 ^ x) (x + 1) else best) r) : Int)) else s) := by
      intro L
      induction L with
      | nil => intro _ r; rfl
      | cons x L ih2 =>
        intro hL r
        obtain ⟨hx1, hx2⟩ := hL x (by simp)
        have hbx : b.testBit x = false := testBit_ge hb hx1
        have hb24 : b < 2 ^ 24 := Nat.lt_of_lt_of_le hb (Nat.pow_le_pow_right (by omega) (by omega))
        have hc := cnt_or_new hb24 (show x < 24 by omega) hbx
        have hb2 : b ||| 2 ^ x < 2 ^ (x + 1) := Nat.or_lt_two_pow (Nat.lt_of_lt_of_le hb (Nat.pow_le_pow_right (by omega) (by omega))) (Nat.pow_lt_pow_right (by omega) (by omega))
        simp only [List.foldl_cons]
        have e := fun s => ih (b ||| 2 ^ x) (x + 1) s hb2 (by omega)
        rw [hc] at e
        have e2 : fsI P N f (b ||| 2 ^ x) (cnt b + 1) (x + 1) (if s.2 < cnt r then (r, (cnt r : Int)) else s) =
            (if s.2 < cnt (if cnt r < cnt (fsS P N f (b ||| 2 ^ x) (x + 1)) then fsS P N f (b ||| 2 ^ x) (x + 1) else r) then ((if cnt r < cnt (fsS P N f (b ||| 2 ^ x) (x + 1)) then fsS P N f (b ||| 2 ^ x) (x + 1) else r), (cnt (if cnt r < cnt (fsS P N f (b ||| 2 ^ x) (x + 1)) then fsS P N f (b ||| 2 ^ x) (x + 1) else r) : Int)) else s) := by
          rw [e]
          generalize fsS P N f (b ||| 2 ^ x) (x + 1) = y
          by_cases h1 : s.2 < cnt r <;> by_cases h2 : cnt r < cnt y <;> by_cases h3 : s.2 < cnt y <;> simp [h1, h2, h3] <;> omega
        rw [e2]
        exact ih2 (fun y hy => hL y (by simp [hy])) _
    refine key _ (fun x hx => ?_) b
    have := (mem_elems.1 hx).2
    rw [kidN_bit] at this
    simp at this; omega

theorem fsS_lt (P : Nat → Bool) (N : Nat) (hN : N ≤ 24) : ∀ (f b fr : Nat), b < 2 ^ 24 → fsS P N f b fr < 2 ^ 24 := by
  intro f
  induction f with
  | zero => intro b fr h; exact h
  | succ f ih =>
    intro b fr h
    unfold fsS
    have key : ∀ (L : List Nat), (∀ x ∈ L, x < 24) → ∀ r, r < 2 ^ 24 → L.foldl (fun (best x : Nat) => if cnt best < cnt (fsS P N f (b ||| 2 ^ x) (x + 1)) then fsS P N f (b ||| 2 ^ x) (x + 1) else best) r < 2 ^ 24 := by
      intro L
      induction L with
      | nil => intro _ r hr; exact hr
      | cons x L ih2 =>
        intro hL r hr
        simp only [List.foldl_cons]
        refine ih2 (fun y hy => hL y (by simp [hy])) _ ?_
        split
        · exact ih _ _ (Nat.or_lt_two_pow h (Nat.pow_lt_pow_right (by omega) (hL x (by simp))))
        · exact hr
    exact key _ (fun x hx => elems_lt hx) b h

/-! ### cliques -/
def cliP (l : List Int) (a b : Nat) : Bool := decide (andN (sumF l b (oppF l b)) (a ||| 1) = 0)
theorem cliP_iff {l : List Int} (hg : isGrp l = true) {a b : Nat} : cliP l a b = true ↔ ∀ y z, y < 24 → z < 24 → b.testBit y = true → b.testBit z = true → (a ||| 1).testBit (addF l y (negF l z)) = true := by
  unfold cliP
  rw [decide_eq_true_iff, andN_zero]
  constructor
  · intro h y z hy hz hby hbz
    exact h _ (testBit_sumF.2 ⟨y, negF l z, hy, hby, negF_bd hg z, testBit_oppF.2 ⟨z, hz, hbz, rfl⟩, rfl⟩)
  · intro h i hi
    obtain ⟨y, w, hy, hby, _, hw, rfl⟩ := testBit_sumF.1 hi
    obtain ⟨z, hz, hbz, rfl⟩ := testBit_oppF.1 hw
    exact h y z hy hz hby hbz
theorem addF_zero' {l : List Int} (h : Ords l) {x : Nat} (hx : x < ord l) : addF l x 0 = x := by rw [addF_comm]; exact addF_zero l h x hx
theorem neg_neg {l : List Int} (h : Ords l) {x : Nat} (hx : x < ord l) : negF l (negF l x) = x := by
  have h1 : addF l (negF l x) (negF l (negF l x)) = addF l (negF l x) x := by rw [addF_neg l h, addF_comm, addF_neg l h]
  exact addF_cancel h (negF_lt l h _) hx h1
/-- z = y + (z - y) -/
theorem add_sub {l : List Int} (h : Ords l) {y z : Nat} (hz : z < ord l) : addF l y (addF l z (negF l y)) = z := by
  rw [addF_comm l z, ← addF_assoc l h, addF_neg l h, addF_zero l h _ hz]
theorem neg_sub {l : List Int} (h : Ords l) {y z : Nat} (hy : y < ord l) (hz : z < ord l) : negF l (addF l y (negF l z)) = addF l z (negF l y) := by
  have e : addF l (addF l y (negF l z)) (addF l z (negF l y)) = 0 := by
    rw [addF_assoc l h, ← addF_assoc l h (negF l z), addF_comm l (negF l z) z, addF_neg l h, addF_zero l h _ (negF_lt l h _), addF_neg l h]
  exact (addF_cancel h (addF_lt l h _ _) (negF_lt l h _) (by rw [e, addF_neg l h])).symm
theorem one_bit (i : Nat) : (1 : Nat).testBit i = decide (i = 0) := by
  have := bit_two 0 i; rw [show (2:Nat) ^ 0 = 1 from rfl] at this; rw [this, Bool.eq_iff_iff]; simp; exact eq_comm
theorem conn_self (l : List Int) (h : Ords l) (a y : Nat) : (a ||| 1).testBit (addF l y (negF l y)) = true := by rw [addF_neg l h, Nat.testBit_or, one_bit]; simp
/-- joined by i - x -/
theorem conn_iff {l : List Int} (hg : isGrp l = true) {a x i : Nat} (ha : a < 2 ^ ord l) (hx : x < ord l) (hi : i < ord l) (hne : x ≠ i) : (a ||| 1).testBit (addF l i (negF l x)) = (shiftF l a x).testBit i := by
  have h := isGrp_ords hg
  have h0 : addF l i (negF l x) ≠ 0 := fun e => by
    have := add_sub h (y := x) hi
    rw [e, addF_zero' h hx] at this; exact hne this
  rw [Nat.testBit_or, one_bit, show decide (addF l i (negF l x) = 0) = false from decide_eq_false h0, Bool.or_false]
  refine bool_eq_of ⟨fun e => testBit_shiftF.2 ⟨_, addF_bd hg _ _, e, add_sub h hi⟩, fun e => ?_⟩
  obtain ⟨y, hy, hay, he⟩ := testBit_shiftF.1 e
  rw [← he, addF_comm l x y, addF_assoc l h, addF_neg l h, addF_zero' h (bit_lt ha hay)]
  exact hay
theorem conn_symm {l : List Int} (hg : isGrp l = true) {a y z : Nat} (ho : oppF l a = a) (hy : y < ord l) (hz : z < ord l) (h : (a ||| 1).testBit (addF l y (negF l z)) = true) : (a ||| 1).testBit (addF l z (negF l y)) = true := by
  have hO := isGrp_ords hg
  rw [Nat.testBit_or, one_bit] at h ⊢
  rw [Bool.or_eq_true] at h ⊢
  rcases h with h | h
  · left
    rw [← ho]
    exact testBit_oppF.2 ⟨_, addF_bd hg _ _, h, neg_sub hO hy hz⟩
  · right
    rw [decide_eq_true_iff] at h ⊢
    have h1 := add_sub hO (y := z) hy
    rw [h, addF_zero' hO hz] at h1
    rw [h1, addF_neg l hO]
/-- the candidates of the next step -/
theorem cli_next {l : List Int} (hg : isGrp l = true) {a b fr x : Nat} (ha : a < 2 ^ ord l) (ho : oppF l a = a) (hb : b < 2 ^ fr) (hx : (kidN (cliP l a) (ord l) b fr).testBit x = true) (i : Nat) :
    (kidN (cliP l a) (ord l) (b ||| 2 ^ x) (x + 1)).testBit i = (decide (x + 1 ≤ i) && ((kidN (cliP l a) (ord l) b fr).testBit i && (shiftF l a x).testBit i)) := by
  have hob := ord_bd hg
  rw [kidN_bit] at hx
  simp only [Bool.and_eq_true, decide_eq_true_eq] at hx
  obtain ⟨hx1, hx2, hx3⟩ := hx
  rw [kidN_bit, kidN_bit]
  by_cases hi : i < ord l
  rotate_left
  · simp [hi]
  by_cases hxi : x + 1 ≤ i
  rotate_left
  · simp [hxi]
  rw [← conn_iff hg ha hx1 hi (by omega)]
  simp only [hi, hxi, show fr ≤ i by omega, decide_true, Bool.true_and]
  rw [cliP_iff hg] at hx3
  refine bool_eq_of ⟨fun h => ?_, fun h => ?_⟩
  · rw [cliP_iff hg] at h
    rw [Bool.and_eq_true, cliP_iff hg]
    refine ⟨fun y z hy hz hby hbz => h y z hy hz ?_ ?_, h i x (by omega) (by omega) (by rw [Nat.testBit_or, bit_two]; simp) (by rw [Nat.testBit_or, Nat.testBit_or, bit_two]; simp)⟩
    · rw [Nat.testBit_or, Bool.or_eq_true] at hby; rw [Nat.testBit_or, Nat.testBit_or]; rcases hby with e | e <;> simp [e]
    · rw [Nat.testBit_or, Bool.or_eq_true] at hbz; rw [Nat.testBit_or, Nat.testBit_or]; rcases hbz with e | e <;> simp [e]
  · rw [Bool.and_eq_true, cliP_iff hg] at h
    obtain ⟨h1, h2⟩ := h
    rw [cliP_iff hg]
    have part : ∀ y, (b ||| 2 ^ x ||| 2 ^ i).testBit y = true → (b.testBit y = true ∨ y = x) ∨ y = i := by
      intro y hy
      rw [Nat.testBit_or, Nat.testBit_or, bit_two, bit_two] at hy
      simp only [Bool.or_eq_true, decide_eq_true_eq] at hy
      rcases hy with (e | e) | e
      · exact Or.inl (Or.inl e)
      · exact Or.inl (Or.inr e.symm)
      · exact Or.inr e.symm
    have inx : ∀ y, (b.testBit y = true ∨ y = x) → (b ||| 2 ^ x).testBit y = true := by
      rintro y (e | rfl)
      · rw [Nat.testBit_or, e]; rfl
      · rw [Nat.testBit_or, bit_two]; simp
    have ini : ∀ y, (b.testBit y = true ∨ y = i) → (b ||| 2 ^ i).testBit y = true := by
      rintro y (e | rfl)
      · rw [Nat.testBit_or, e]; rfl
      · rw [Nat.testBit_or, bit_two]; simp
    intro y z hy hz hby hbz
    rcases part y hby with hy1 | rfl
    · rcases part z hbz with hz1 | rfl
      · exact hx3 y z hy hz (inx y hy1) (inx z hz1)
      · rcases hy1 with hy1 | rfl
        · exact h1 y z hy hz (ini y (Or.inl hy1)) (ini z (Or.inr rfl))
        · exact conn_symm hg ho hi hx1 h2
    · rcases part z hbz with hz1 | rfl
      · rcases hz1 with hz1 | rfl
        · exact h1 y z hy hz (ini y (Or.inr rfl)) (ini z (Or.inl hz1))
        · exact h2
      · exact conn_self l (isGrp_ords hg) a _
theorem cli_start {l : List Int} (hg : isGrp l = true) (a : Nat) : kidN (cliP l a) (ord l) 0 0 = fullN l := by
  apply Nat.eq_of_testBit_eq
  intro i
  rw [kidN_bit, fullN_bit]
  by_cases hi : i < ord l
  · have : cliP l a (2 ^ i) = true := by
      rw [cliP_iff hg]
      intro y z _ _ hy hz
      rw [bit_two, decide_eq_true_iff] at hy hz
      subst hy; subst hz
      exact conn_self l (isGrp_ords hg) a i
    simp [hi, this]
  · simp [hi]
/-- left & s, shifted down and up again -/
theorem cut_bits (m s x i : Nat) : (shr (m &&& s) (x + 1) * 2 ^ (x + 1)).testBit i = (decide (x + 1 ≤ i) && (m.testBit i && s.testBit i)) := by
  unfold shr
  rw [← Nat.shiftLeft_eq, Nat.testBit_shiftLeft, Nat.testBit_shiftRight]
  by_cases h : x + 1 ≤ i
  · simp [h, Nat.testBit_and]
  · simp [h]
def lcF (l : List Int) (a : Int) : Bool := connB l a && decide (ord l ≤ 16)
def lcV (l : List Int) (a : Int) : Int := if lcF l a then (fsS (cliP l a.toNat) (ord l) (ord l + 1) 0 0 : Nat) else 0
end Go.Zz

/- Plain facts on the search for a longest sequence no part of which has the sum zero. No program is named here. -/
namespace Go.Zz
set_option linter.unusedVariables false

/-- the sums behind one term more -/
def nxS (l : List Int) (S x : Nat) : Nat := (S ||| shiftF l S x) ||| 2 ^ x
theorem nxS_lt {l : List Int} (hg : isGrp l = true) {S x : Nat} (hS : S < 2 ^ ord l) (hx : x < ord l) : nxS l S x < 2 ^ ord l :=
  Nat.or_lt_two_pow (Nat.or_lt_two_pow hS (shiftF_lt (isGrp_ords hg) S x)) (Nat.pow_lt_pow_right (by omega) hx)
theorem nxS_more {l : List Int} (hg : isGrp l = true) {S x : Nat} (hS : S < 2 ^ ord l) (h0 : S.testBit 0 = false) (hx : x < ord l) : cnt S < cnt (nxS l S x) := by
  have hob := ord_bd hg
  have hS24 : S < 2 ^ 24 := Nat.lt_of_lt_of_le hS (Nat.pow_le_pow_right (by omega) hob.2)
  have hT : S ||| 2 ^ 0 < 2 ^ ord l := Nat.or_lt_two_pow hS (Nat.pow_lt_pow_right (by omega) (by omega))
  have h1 := cnt_shift hg hT x
  rw [cnt_or_new hS24 (by omega) h0] at h1
  have hsub : Sub (shiftF l (S ||| 2 ^ 0) x) (nxS l S x) := fun i hi => by
    obtain ⟨y, hy, hb, he⟩ := testBit_shiftF.1 hi
    unfold nxS
    rw [Nat.testBit_or, Nat.testBit_or]
    rw [Nat.testBit_or, Nat.testBit_two_pow] at hb
    by_cases hy0 : y = 0
    · subst hy0
      rw [addF_comm, addF_zero l (isGrp_ords hg) x hx] at he
      subst he
      simp
    · have hSy : S.testBit y = true := by simpa [show ¬ 0 = y by omega] using hb
      have : (shiftF l S x).testBit i = true := testBit_shiftF.2 ⟨y, hy, hSy, he⟩
      rw [this]; simp
  have := cnt_mono hsub
  omega
/-- the longest one that goes on from X, the first of these, as the reference searches -/
def zfS (l : List Int) : Nat → List Nat → Nat → Nat → List Nat
  | 0, X, _, _ => X
  | f + 1, X, S, m => (List.range (ord l)).foldl (fun (b : List Nat) (x : Nat) => if x < m then b else if (nxS l S x).testBit 0 then b else if b.length < (zfS l f (X ++ [x]) (nxS l S x) x).length then zfS l f (X ++ [x]) (nxS l S x) x else b) X
def zfK (l : List Int) (f : Nat) (X : List Nat) (S m k : Nat) : List Nat := (List.range k).foldl (fun (b : List Nat) (x : Nat) => if x < m then b else if (nxS l S x).testBit 0 then b else if b.length < (zfS l f (X ++ [x]) (nxS l S x) x).length then zfS l f (X ++ [x]) (nxS l S x) x else b) X
theorem zfK_end (l : List Int) (f : Nat) (X : List Nat) (S m : Nat) : zfS l (f + 1) X S m = zfK l f X S m (ord l) := rfl
theorem zfK_start (l : List Int) (f : Nat) (X : List Nat) (S m : Nat) : zfK l f X S m m = X := by
  unfold zfK
  have : ∀ k, k ≤ m → (List.range k).foldl (fun (b : List Nat) (x : Nat) => if x < m then b else if (nxS l S x).testBit 0 then b else if b.length < (zfS l f (X ++ [x]) (nxS l S x) x).length then zfS l f (X ++ [x]) (nxS l S x) x else b) X = X := by
    intro k
    induction k with
    | zero => intro _; rfl
    | succ k ih =>
      intro hk
      rw [List.range_succ, List.foldl_append, ih (by omega)]
      simp only [List.foldl_cons, List.foldl_nil]
      rw [if_pos (by omega)]
  exact this m (Nat.le_refl _)
theorem zfK_no {l : List Int} {f : Nat} {X : List Nat} {S m k : Nat} (h : (nxS l S k).testBit 0 = true) : zfK l f X S m (k + 1) = zfK l f X S m k := by
  unfold zfK; rw [List.range_succ, List.foldl_append]; simp only [List.foldl_cons, List.foldl_nil]
  split
  · rfl
  · first | rfl | rw [if_pos h]
theorem zfK_more {l : List Int} {f : Nat} {X : List Nat} {S m k : Nat} (hm : m ≤ k) (h : (nxS l S k).testBit 0 = false) (hq : (zfK l f X S m k).length < (zfS l f (X ++ [k]) (nxS l S k) k).length) : zfK l f X S m (k + 1) = zfS l f (X ++ [k]) (nxS l S k) k := by
  unfold zfK at hq ⊢; rw [List.range_succ, List.foldl_append]; simp only [List.foldl_cons, List.foldl_nil]
  rw [if_neg (by omega), if_neg (by rw [h]; simp), if_pos hq]
theorem zfK_less {l : List Int} {f : Nat} {X : List Nat} {S m k : Nat} (hm : m ≤ k) (h : (nxS l S k).testBit 0 = false) (hq : ¬ (zfK l f X S m k).length < (zfS l f (X ++ [k]) (nxS l S k) k).length) : zfK l f X S m (k + 1) = zfK l f X S m k := by
  unfold zfK at hq ⊢; rw [List.range_succ, List.foldl_append]; simp only [List.foldl_cons, List.foldl_nil]
  rw [if_neg (by omega), if_neg (by rw [h]; simp), if_neg hq]
/-- as the program searches: the best one so far goes along -/
def zfI (l : List Int) : Nat → List Nat → Nat → Nat → List Nat → List Nat
  | 0, X, _, _, b => if b.length < X.length then X else b
  | f + 1, X, S, m, b => (List.range (ord l)).foldl (fun (b : List Nat) (x : Nat) => if x < m then b else if (nxS l S x).testBit 0 then b else zfI l f (X ++ [x]) (nxS l S x) x b) (if b.length < X.length then X else b)
def zfIto (l : List Int) (f : Nat) (X : List Nat) (S m : Nat) (b : List Nat) (k : Nat) : List Nat := (List.range k).foldl (fun (b : List Nat) (x : Nat) => if x < m then b else if (nxS l S x).testBit 0 then b else zfI l f (X ++ [x]) (nxS l S x) x b) (if b.length < X.length then X else b)
theorem zfIto_end (l : List Int) (f : Nat) (X : List Nat) (S m : Nat) (b : List Nat) : zfI l (f + 1) X S m b = zfIto l f X S m b (ord l) := rfl
theorem zfIto_start (l : List Int) (f : Nat) (X : List Nat) (S m : Nat) (b : List Nat) : zfIto l f X S m b m = if b.length < X.length then X else b := by
  unfold zfIto
  have : ∀ k, k ≤ m → ∀ b0 : List Nat, (List.range k).foldl (fun (b : List Nat) (x : Nat) => if x < m then b else if (nxS l S x).testBit 0 then b else zfI l f (X ++ [x]) (nxS l S x) x b) b0 = b0 := by
    intro k
    induction k with
    | zero => intro _ _; rfl
    | succ k ih =>
      intro hk b0
      rw [List.range_succ, List.foldl_append, ih (by omega)]
      simp only [List.foldl_cons, List.foldl_nil]
      rw [if_pos (by omega)]
  exact this m (Nat.le_refl _) _
theorem zfIto_no {l : List Int} {f : Nat} {X : List Nat} {S m k : Nat} {b : List Nat} (h : (nxS l S k).testBit 0 = true) : zfIto l f X S m b (k + 1) = zfIto l f X S m b k := by
  unfold zfIto; rw [List.range_succ, List.foldl_append]; simp only [List.foldl_cons, List.foldl_nil]
  split
  · rfl
  · first | rfl | rw [if_pos h]
theorem zfIto_yes {l : List Int} {f : Nat} {X : List Nat} {S m k : Nat} {b : List Nat} (hm : m ≤ k) (h : (nxS l S k).testBit 0 = false) : zfIto l f X S m b (k + 1) = zfI l f (X ++ [k]) (nxS l S k) k (zfIto l f X S m b k) := by
  unfold zfIto; rw [List.range_succ, List.foldl_append]; simp only [List.foldl_cons, List.foldl_nil]
  rw [if_neg (by omega), if_neg (by rw [h]; simp)]
/-- both searches find the same -/
theorem zfI_eq (l : List Int) : ∀ (f : Nat) (X : List Nat) (S m : Nat) (b : List Nat), zfI l f X S m b = if b.length < (zfS l f X S m).length then zfS l f X S m else b := by
  intro f
  induction f with
  | zero => intro X S m b; rfl
  | succ f ih =>
    intro X S m b
    unfold zfI zfS
    have key : ∀ (L : List Nat) (r : List Nat), L.foldl (fun (b : List Nat) (x : Nat) => if x < m then b else if (nxS l S x).testBit 0 then b else zfI l f (X ++ [x]) (nxS l S x) x b) (if b.length < r.length then r else b) =
        if b.length < (L.foldl (fun (b : List Nat) (x : Nat) => if x < m then b else if (nxS l S x).testBit 0 then b else if b.length < (zfS l f (X ++ [x]) (nxS l S x) x).length then zfS l f (X ++ [x]) (nxS l S x) x else b) r).length then L.foldl (fun (b : List Nat) (x : Nat) => if x < m then b else if (nxS l S x).testBit 0 then b else if b.length < (zfS l f (X ++ [x]) (nxS l S x) x).length then zfS l f (X ++ [x]) (nxS l S x) x else b) r else b := by
      intro L
      induction L with
      | nil => intro r; rfl
      | cons x L ihL =>
        intro r
        rw [List.foldl_cons, List.foldl_cons]
        by_cases h1 : x < m
        · rw [if_pos h1, if_pos h1]; exact ihL r
        · rw [if_neg h1, if_neg h1]
          by_cases h2 : (nxS l S x).testBit 0 = true
          · rw [if_pos h2, if_pos h2]; exact ihL r
          · rw [if_neg h2, if_neg h2, ih]
            have e : (if (if b.length < r.length then r else b).length < (zfS l f (X ++ [x]) (nxS l S x) x).length then zfS l f (X ++ [x]) (nxS l S x) x else if b.length < r.length then r else b) =
                if b.length < (if r.length < (zfS l f (X ++ [x]) (nxS l S x) x).length then zfS l f (X ++ [x]) (nxS l S x) x else r).length then (if r.length < (zfS l f (X ++ [x]) (nxS l S x) x).length then zfS l f (X ++ [x]) (nxS l S x) x else r) else b := by
              by_cases p1 : b.length < r.length <;> by_cases p2 : r.length < (zfS l f (X ++ [x]) (nxS l S x) x).length <;> by_cases p3 : b.length < (zfS l f (X ++ [x]) (nxS l S x) x).length <;> simp [p1, p2, p3] <;> omega
            rw [e]; exact ihL _
    exact key (List.range (ord l)) X
/-- all terms are elements, and there are not more of them than sums -/
theorem zfS_in {l : List Int} (hg : isGrp l = true) : ∀ (f : Nat) (X : List Nat) (S m : Nat), S < 2 ^ ord l → S.testBit 0 = false → (∀ x ∈ X, x < ord l) → X.length ≤ cnt S → (∀ x ∈ zfS l f X S m, x < ord l) ∧ (zfS l f X S m).length ≤ 24 := by
  intro f
  induction f with
  | zero => intro X S m hS h0 hX hl; exact ⟨hX, Nat.le_trans hl (cnt_le S)⟩
  | succ f ih =>
    intro X S m hS h0 hX hl
    unfold zfS
    have key : ∀ (L : List Nat), (∀ x ∈ L, x < ord l) → ∀ r : List Nat, ((∀ x ∈ r, x < ord l) ∧ r.length ≤ 24) → ((∀ x ∈ L.foldl (fun (b : List Nat) (x : Nat) => if x < m then b else if (nxS l S x).testBit 0 then b else if b.length < (zfS l f (X ++ [x]) (nxS l S x) x).length then zfS l f (X ++ [x]) (nxS l S x) x else b) r, x < ord l) ∧ (L.foldl (fun (b : List Nat) (x : Nat) => if x < m then b else if (nxS l S x).testBit 0 then b else if b.length < (zfS l f (X ++ [x]) (nxS l S x) x).length then zfS l f (X ++ [x]) (nxS l S x) x else b) r).length ≤ 24) := by
      intro L
      induction L with
      | nil => intro _ r hr; exact hr
      | cons x L ihL =>
        intro hL r hr
        rw [List.foldl_cons]
        refine ihL (fun y hy => hL y (by simp [hy])) _ ?_
        split
        · exact hr
        · split
          · exact hr
          · next h2 =>
            split
            · have hx := hL x (by simp)
              refine ih (X ++ [x]) (nxS l S x) x (nxS_lt hg hS hx) (by simpa using h2) ?_ ?_
              · intro y hy
                rw [List.mem_append, List.mem_singleton] at hy
                rcases hy with hy | rfl
                · exact hX y hy
                · exact hx
              · have := nxS_more hg hS h0 hx; simp; omega
            · exact hr
    exact key (List.range (ord l)) (fun x hx => List.mem_range.1 hx) X ⟨hX, Nat.le_trans hl (cnt_le S)⟩
def lzB (l : List Int) : Bool := isGrp l && decide (ord l ≤ 9)
def lzL (l : List Int) : List Nat := if lzB l then zfS l (ord l + 1) [] 0 1 else []
theorem lz_no {l : List Int} (h : lzB l = false) : lzL l = [] := by unfold lzL; rw [h]; rfl
theorem lz_yes {l : List Int} (h : lzB l = true) : lzL l = zfS l (ord l + 1) [] 0 1 := by unfold lzL; rw [h]; rfl
end Go.Zz

/- Longest sequences no part of which has the sum zero: the reference. -/
namespace Go.Zz
open Go.RowKit Go.Proofs
set_option maxHeartbeats 2000000
set_option maxRecDepth 8000

/-- a list in memory, behind a region that draws -/
def LiP (w0 : World) (Y : List Nat) (s : Value) (wx : World) : Prop := ∃ ao c, s = .slice ao Y.length c ∧ Ints wx (.slice ao Y.length c) (castL Y) ∧ Ext w0 wx
theorem sZf_any (v : Value) (l : List Int) (Hgr : Hid (isGrp l = true)) :
    ∀ (f : Nat) (X : List Nat) (S m : Nat) (vX : Value) (w : World), Ints w v l → Ints w vX (castL X) → S < 2 ^ ord l → S.testBit 0 = false → m ≤ ord l → ord l < cnt S + f → X.length ≤ cnt S → (∀ x ∈ X, x < ord l) →
    Calls Try.prog 186 #[.agg #[v], vX, .int .i64 S, .int .i64 m] w fun e w' => ∃ ao c, e = .returned (.slice ao (zfS l f X S m).length c) ∧ Ints w' (.slice ao (zfS l f X S m).length c) (castL (zfS l f X S m)) ∧ Ext w w' := by
  intro f
  induction f with
  | zero => intro X S m vX w h hX hS h0 hm hf; have := cnt_ord Hgr.out hS; omega
  | succ f ih =>
    intro X S m vX w h hX hS h0 hm hf hXl hXo
    have hob := ord_bd Hgr.out
    have hp24 := pow_ord Hgr.out
    have hS24 : S < 2 ^ 24 := Nat.lt_of_lt_of_le hS hp24
    have hcS := cnt_le S
    obtain ⟨aoX, cX, -, rfl, -, -, -⟩ := hX.op
    rw [castL_len] at hX ⊢
    obtain ⟨wb, hwb⟩ : ∃ wb, wb = w.alloc (.cells #[v] 31) := ⟨_, rfl⟩
    have hE0 := (Ext.refl w).alloc (.cells #[v] 31)
    have hb := box_cell w v 31
    rw [← hwb] at hE0 hb
    have hg : ∀ W, Ext wb W → Ints W v l := fun W hW => h.ext (hE0.trans hW)
    have hE := Ext.refl wb
    have Hsz : Hid (w.heap.size + 1 = wb.heap.size) := Lib.hid (by rw [hwb]; simp [go_sem])
    have Hwb := Lib.hid hwb
    clear hwb h
    have HX := Lib.hid (fun W (hW : Ext wb W) => hX.ext (hE0.trans hW))
    have Hih := Lib.hid ih
    clear ih hX
    have He := Lib.hid (zfK_end l f X S m)
    have Hst := Lib.hid (zfK_start l f X S m)
    go_enter Try.func186, Try.ntmps186
    go_wp2_with fail
    rw [← Hwb.out]
    go_loopw [9, 10] (fun bv xv wr => ∃ (k : Nat) (ao : Option Addr) (c : Nat), m ≤ k ∧ k ≤ ord l ∧ xv = .int .i64 k ∧ bv = .slice ao (zfK l f X S m k).length c ∧ Ints wr (.slice ao (zfK l f X S m k).length c) (castL (zfK l f X S m k)) ∧ Ext wb wr) (fun _ xv _ => ord l - (intOf xv).toNat)
    case atStart => exact ⟨m, aoX, cX, Nat.le_refl _, hm, rfl, by rw [Hst.out], by rw [Hst.out]; exact HX.out _ hE, hE⟩
    case round =>
      clear hE
      obtain ⟨k, aoB, cB, hk1, hk2, rfl, rfl, hIB, hE⟩ := hrel
      have cO := l2Order_any v l wr (hg _ hE) Hgr
      have HIB := Lib.hid hIB
      have hlB : (zfK l f X S m k).length ≤ 17592186044416 := by obtain ⟨_, _, _, _, h', _⟩ := hIB; simpa [castL_len] using h'
      have Hno := Lib.hid (fun h => zfK_no (l := l) (f := f) (X := X) (S := S) (m := m) (k := k) h)
      have Hmo := Lib.hid (fun h => zfK_more (l := l) (f := f) (X := X) (S := S) (m := m) (k := k) hk1 h)
      have Hle := Lib.hid (fun h => zfK_less (l := l) (f := f) (X := X) (S := S) (m := m) (k := k) hk1 h)
      clear hIB
      by_cases hlt : k < ord l
      · have hk24 : k < 24 := by omega
        have hN := nxS_lt Hgr.out hS hlt
        have hNc := nxS_more Hgr.out hS h0 hlt
        have hN24 : nxS l S k < 2 ^ 24 := Nat.lt_of_lt_of_le hN hp24
        have hsh := shiftF_bd Hgr.out S k
        have q1 := ishl_one (n := k) (by omega)
        have q2 : ior (S : Int) (shiftF l S k : Int) = ((S ||| shiftF l S k : Nat) : Int) := ior_nat (by omega) (by omega)
        have q3 : ior ((S ||| shiftF l S k : Nat) : Int) ((pw k : Nat) : Int) = ((nxS l S k : Nat) : Int) := ior_pw (Nat.or_lt_two_pow hS24 hsh) hk24
        obtain ⟨N, hNd⟩ : ∃ N, N = nxS l S k := ⟨_, rfl⟩
        rw [← hNd] at hN hNc hN24 q3 Hno Hmo Hle
        have q4 := iand_one (a := N) (by omega)
        have cS := fun W (hW : Ext wb W) => l3Shift_any v l S k W (hg _ hW) Hgr hS24 hk24
        have HNd := Lib.hid hNd
        clear hNd
        go_wp2_with (go_at_call 106; refine cO.mono ?_; rintro e1 w1 ⟨rfl, hE1⟩)
        have hE01 := hE.trans hE1
        have hbx := fun U => hb _ (hE01.trans (lat_ext w1 U))
        have hEq := hE01
        clear hE hE01
        have hE := Ext.refl w1
        (refine wp_region_lat (w1) (by kernel_rfl) (by kernel_rfl) hE ?_); (repeat (go_big_quiet_step (first | (go_at_call 156; exact Calls.lat (cS _ (hEq.trans (lat_ext w1 _))))))); (refine wpQuiet_nil ?_); (intro W hE'); (replace hE := lat_of hE'); (clear hE')
        rename World => w2
        have hE2 := hEq.trans hE
        have hIB2 := HIB.out.ext (hE1.trans hE)
        clear hbx cS
        cases ht : N.testBit 0
        · have hbit : (((N % 2 : Nat) : Int) == 1) = false := by
            rw [Nat.testBit_zero, decide_eq_false_iff_not] at ht
            rw [beq_eq_false_iff_ne]; omega
          have hcR := fun W (hW : Ext wb W) vN (hI : Ints W vN (castL (X ++ [k]))) => Hih.out (X ++ [k]) N k vN W (hg _ hW) hI hN ht (by omega) (by omega) (by simp; omega) (by intro y hy; rw [List.mem_append, List.mem_singleton] at hy; rcases hy with hy | rfl; exact hXo y hy; exact hlt)
          obtain ⟨Y, hY⟩ : ∃ Y, Y = zfS l f (X ++ [k]) N k := ⟨_, rfl⟩
          have hYl : Y.length ≤ 24 := by rw [hY]; exact (zfS_in Hgr.out f (X ++ [k]) N k hN ht (by intro y hy; rw [List.mem_append, List.mem_singleton] at hy; rcases hy with hy | rfl; exact hXo y hy; exact hlt) (by simp; omega)).2
          have hMo := Lib.hid (Hmo.out ht)
          have hLe := Lib.hid (Hle.out ht)
          rw [← hY] at hcR hMo hLe
          have HXw := Lib.hid (fun W (hW : Ext w2 W) => HX.out W (hE2.trans hW))
          have hln : (castL X).length + [(k : Int)].length ≤ 17592186044416 := by rw [castL_len]; simp; omega
          have hb2 := fun W (hW : Ext w2 W) => hb W (hE2.trans hW)
          have hcR2 := fun W (hW : Ext w2 W) => hcR W (hE2.trans hW)
          clear hY ht hcR
          have hEz := hE
          clear hE
          have hE := Ext.refl w2
          have hcl : castL (X ++ [k]) = castL X ++ [(k : Int)] := by simp [castL]
          rw [hcl] at hcR2
          have Hcl := Lib.hid hcl
          clear hcl
          go_upto_region 7 with fail
          go_cut [12] (fun s12 wx => LiP w2 Y s12 wx)
          case first =>
            first | (go_region_held3 (fun W => Ext w2 W ∧ W.cell? ⟨w.heap.size, 0, none⟩ = some v) (exact ⟨(by repeat (first | assumption | exact Ext.refl _ | (apply And.left; assumption) | apply Ext.drew | apply Ext.alloc)), hb2 _ (by repeat (first | assumption | exact Ext.refl _ | (apply And.left; assumption) | apply Ext.drew | apply Ext.alloc))⟩) (first | (go_at_call 186; have hDi := hOD; (with_reducible refine Calls.mono (hcR2 _ (by repeat (first | assumption | exact Ext.refl _ | (apply And.left; assumption) | apply Ext.drew | apply Ext.alloc)) _ (OwnE.own hDi (Ext.refl _)).ints) ?_); rintro eF wF ⟨aoY, cY, rfl, hIY, hXF⟩; have hHF := Ext.trans (a := w2) (by repeat (first | assumption | exact Ext.refl _ | (apply And.left; assumption) | apply Ext.drew | apply Ext.alloc)) hXF) | (have hOq := hOC; refine step_appendsE slI rfl _ _ rfl w2 w2 _ _ (castL X) [(k : Int)] (Or.inr (by first | exact hOC | exact hOC.alloc _ | exact (hOC.alloc _).drew)) (Blk.ints1 (T := 3) (by repeat (first | (with_reducible assumption) | (with_reducible exact Blk.new _ _ _) | ((with_reducible refine Blk.new' ?_); simp [go_sem]; done) | (with_reducible apply Blk.alloc) | (with_reducible apply Blk.drew) | (with_reducible refine Blk.ext ?_ hEC)))) (by repeat (first | assumption | exact Ext.refl _ | (apply And.left; assumption) | apply Ext.drew | apply Ext.alloc)) hln rfl rfl ?_; intro vD wD hOD hXD hTD) | (refine step_copy2 slI rfl _ _ rfl _ _ (castL X) rfl rfl (by repeat (first | (with_reducible assumption) | (with_reducible exact Blk.new _ _ _) | ((with_reducible refine Blk.new' ?_); simp [go_sem]; done) | (with_reducible apply Blk.alloc) | (with_reducible apply Blk.drew))) (HXw.out _ (by repeat (first | assumption | exact Ext.refl _ | (apply And.left; assumption) | apply Ext.drew | apply Ext.alloc))) w2 (by first | exact Nat.le_refl _ | omega | (simp; omega)) (by repeat (first | assumption | exact Ext.refl _ | (apply And.left; assumption) | apply Ext.drew | apply Ext.alloc)) ?_; intro aoC cC wC hOC hZC hEC; have hXC := Ext.trans (a := w2) (by repeat (first | assumption | exact Ext.refl _ | (apply And.left; assumption) | apply Ext.drew | apply Ext.alloc)) hEC))) | (fail "the region")
            all_goals (go_wp2_with fail; go_meet; exact ⟨aoY, cY, rfl, hIY, hHF⟩)
          case rest =>
            obtain ⟨aoY, cY, rfl, hIY, hEN⟩ := hcut
            have hEf := hE2.trans hEN
            by_cases hq : (zfK l f X S m k).length < Y.length
            · have Hn := Lib.hid (hMo.out hq)
              have hqI : (((zfK l f X S m k).length : Nat) : Int) < ((Y.length : Nat) : Int) := by omega
              clear hq
              go_wp2_with fail
              go_roundw
              case rel => exact ⟨k + 1, aoY, cY, by omega, by omega, by go_num, by rw [Hn.out], by rw [Hn.out]; exact hIY, hEf⟩
              case measure => (simp [intOf]; omega)
            · have Hn := Lib.hid (hLe.out hq)
              have hqI : ¬ (((zfK l f X S m k).length : Nat) : Int) < ((Y.length : Nat) : Int) := by omega
              clear hq
              go_wp2_with fail
              go_roundw
              case rel => exact ⟨k + 1, aoB, cB, by omega, by omega, by go_num, by rw [Hn.out], by rw [Hn.out]; exact hIB2.ext hEN, hEf⟩
              case measure => (simp [intOf]; omega)
        · have hbit : (((N % 2 : Nat) : Int) == 1) = true := by
            rw [Nat.testBit_zero, decide_eq_true_iff] at ht
            rw [ht]; rfl
          have Hn := Lib.hid (Hno.out ht)
          clear ht
          go_wp2_with fail
          go_roundw
          case rel => exact ⟨k + 1, aoB, cB, by omega, by omega, by go_num, by rw [Hn.out], by rw [Hn.out]; exact hIB2, hE2⟩
          case measure => (simp [intOf]; omega)
      · have hkl : k = ord l := by omega
        have Hn := Lib.hid (show zfS l (f + 1) X S m = zfK l f X S m k by rw [He.out, hkl])
        clear hkl
        go_wp2_with (go_at_call 106; refine cO.mono ?_; rintro e1 w1 ⟨rfl, hE1⟩)
        go_ret
        exact ⟨aoB, cB, by rw [Hn.out]; rfl, by rw [Hn.out]; exact HIB.out.ext hE1, hE0.trans (hE.trans hE1)⟩
theorem sLongestZeroFree_any (v : Value) (l : List Int) (w : World) (h : Ints w v l) :
    Calls Try.prog 107 #[.agg #[v]] w fun e w' => ∃ ao c, e = .returned (.tuple #[.slice ao (lzL l).length c, .bool (lzB l)]) ∧ Ints w' (.slice ao (lzL l).length c) (castL (lzL l)) ∧ Ext w w' := by
  obtain ⟨wb, hwb⟩ : ∃ wb, wb = w.alloc (.cells #[v] 31) := ⟨_, rfl⟩
  have hE0 := (Ext.refl w).alloc (.cells #[v] 31)
  have hb := box_cell w v 31
  rw [← hwb] at hE0 hb
  have hg : ∀ W, Ext wb W → Ints W v l := fun W hW => h.ext (hE0.trans hW)
  have hE := Ext.refl wb
  have Hsz : Hid (w.heap.size + 1 = wb.heap.size) := Lib.hid (by rw [hwb]; simp [go_sem])
  have Hwb := Lib.hid hwb
  clear hwb h
  have hbx := hb wb hE
  have cG := sIsGroup_any v l wb (hg _ hE)
  cases hgr : isGrp l
  · have hB : lzB l = false := by unfold lzB; rw [hgr]; rfl
    have Hs := Lib.hid (And.intro hB (lz_no hB))
    rw [hgr] at cG
    clear hB
    go_enter Try.func107, Try.ntmps107
    go_wp2_with fail
    rw [← Hwb.out]
    refine cG.mono ?_
    rintro e w1 ⟨rfl, hE1⟩
    go_wp2_with fail
    have hEf := hE0.trans hE1
    exact bodyPost_ret (v := .tuple #[.slice (some ⟨w1.heap.size, 0, none⟩) 0 0, .bool false]) (by simp [results, Try.results107, go_sem]) rfl ⟨_, _, by rw [Hs.out.1, Hs.out.2]; rfl, by rw [Hs.out.2]; exact (own_made (TI := 3) (n := 0) (by omega) hEf (castL []) rfl).ints, Ext.alloc hEf _⟩
  rw [hgr] at cG
  have Hgr := Lib.hid hgr
  have hob := ord_bd hgr
  have cO := fun W (hW : Ext wb W) => l2Order_any v l W (hg _ hW) Hgr
  by_cases hm : ord l ≤ 9
  rotate_left
  · have hB : lzB l = false := by unfold lzB; rw [hgr]; simpa using hm
    have Hs := Lib.hid (And.intro hB (lz_no hB))
    clear hB
    go_enter Try.func107, Try.ntmps107
    go_wp2_with fail
    rw [← Hwb.out]
    refine cG.mono ?_
    rintro e w1 ⟨rfl, hE1⟩
    have hb1 := hb w1 hE1
    go_wp2_with (refine (cO _ hE1).mono ?_; rintro e w2 ⟨rfl, hE2⟩)
    have hEf := hE0.trans (hE1.trans hE2)
    exact bodyPost_ret (v := .tuple #[.slice (some ⟨w2.heap.size, 0, none⟩) 0 0, .bool false]) (by simp [results, Try.results107, go_sem]) rfl ⟨_, _, by rw [Hs.out.1, Hs.out.2]; rfl, by rw [Hs.out.2]; exact (own_made (TI := 3) (n := 0) (by omega) hEf (castL []) rfl).ints, Ext.alloc hEf _⟩
  have hB : lzB l = true := by unfold lzB; rw [hgr]; simpa using hm
  have Hs := Lib.hid (And.intro hB (lz_yes hB))
  have cF := fun W (hW : Ext wb W) vN (hI : Ints W vN (castL [])) => sZf_any v l Hgr (ord l + 1) [] 0 1 vN W (hg W hW) hI (Nat.two_pow_pos _) (by simp) (by omega) (by simp [cnt_zero]) (by simp) (by simp)
  obtain ⟨Z, hZ⟩ : ∃ Z, Z = zfS l (ord l + 1) [] 0 1 := ⟨_, rfl⟩
  rw [← hZ] at cF Hs
  clear hB hgr hZ
  go_enter Try.func107, Try.ntmps107
  go_wp2_with fail
  rw [← Hwb.out]
  refine cG.mono ?_
  rintro e w1 ⟨rfl, hE1⟩
  have hb1 := hb w1 hE1
  go_wp2_with (go_at_call 106; refine (cO _ hE1).mono ?_; rintro e w2 ⟨rfl, hE2⟩; have hE12 := hE1.trans hE2; have hb2 := hb w2 hE12)
  have hO : Own 3 w2 (w2.alloc (.cells #[] 3)) (.slice (some ⟨w2.heap.size, 0, none⟩) 0 0) (castL []) := own_made (TI := 3) (n := 0) (by omega) (Ext.refl w2) (castL []) rfl
  have hE3 := hE12.trans ((Ext.refl w2).alloc (.cells #[] 3))
  refine (cF _ hE3 _ hO.ints).mono ?_
  rintro e w3 ⟨aoZ, cZ, rfl, hIZ, hE4⟩
  go_wp2_with fail
  exact bodyPost_ret (v := .tuple #[.slice aoZ Z.length cZ, .bool true]) (by simp [results, Try.results107, go_sem]) rfl ⟨_, _, by rw [Hs.out.1, Hs.out.2], by rw [Hs.out.2]; exact hIZ, hE0.trans (hE3.trans hE4)⟩
end Go.Zz

/- What stays where a call writes into one box and grows the slice that lies in it. -/
namespace Go.Zz
open Go.RowKit Go.Proofs
set_option maxHeartbeats 1000000

theorem own_nb {TI : TypeId} {w0 w : World} {v : Value} {l : List Int} {b : Nat} (h : Own TI w0 w v l) (hb : b < w0.heap.size) : v.ownBlock ≠ some b := fun e => by have := (h.blk b e).1; omega
/-- w' is w with new blocks, and writes to block b and to the row o alone -/
structure Fr (b : Nat) (o : Option Nat) (w w' : World) : Prop where
  os : w'.os = w.os
  tape : w'.tape = w.tape
  output : w'.output = w.output
  size : w.heap.size ≤ w'.heap.size
  block : ∀ k, k < w.heap.size → k ≠ b → some k ≠ o → w'.heap[k]? = w.heap[k]?
/-- the row o' is the row o, or newer than w -/
def Nw (o : Option Nat) (w : World) (o' : Option Nat) : Prop := o' = o ∨ ∀ k, o' = some k → w.heap.size ≤ k
theorem Fr.refl (b : Nat) (o : Option Nat) (w : World) : Fr b o w w := ⟨rfl, rfl, rfl, Nat.le_refl _, fun _ _ _ _ => rfl⟩
theorem Nw.refl (o : Option Nat) (w : World) : Nw o w o := Or.inl rfl
theorem Fr.trans {b : Nat} {o o1 : Option Nat} {w w1 w2 : World} (h : Fr b o w w1) (hn : Nw o w o1) (k : Fr b o1 w1 w2) : Fr b o w w2 :=
  ⟨k.os.trans h.os, k.tape.trans h.tape, k.output.trans h.output, Nat.le_trans h.size k.size, fun i hi hb ho => by
    rw [k.block i (Nat.lt_of_lt_of_le hi h.size) hb fun e => ?_, h.block i hi hb ho]
    rcases hn with hn | hn
    · rw [hn] at e; exact ho e
    · have := hn i e.symm; omega⟩
theorem Nw.trans {o o1 o2 : Option Nat} {w w1 : World} (h : Nw o w o1) (hs : w.heap.size ≤ w1.heap.size) (k : Nw o1 w1 o2) : Nw o w o2 := by
  rcases k with k | k
  · rw [k]; exact h
  · exact Or.inr fun i hi => Nat.le_trans hs (k i hi)
theorem Ext.fr {w w' : World} (h : Ext w w') (b : Nat) (o : Option Nat) : Fr b o w w' := ⟨h.os, h.tape, h.output, h.size, fun k hk _ _ => h.block k hk⟩
theorem fr_grown {b : Nat} {o : Option Nat} {w w' : World} (h : w.grownBy w' o) : Fr b o w w' := ⟨h.os, h.tape, h.output, h.size, fun k hk _ ho => h.block k hk ho⟩
theorem fr_set (b : Nat) (o : Option Nat) (w : World) (i : Nat) (v : Value) : Fr b o w (w.setCell ⟨b, i, none⟩ v) :=
  ⟨rfl, rfl, rfl, by simp, fun k _ hb _ => Below.heap_setCell _ _ _ _ (fun e => hb e)⟩
theorem Fr.ext {b : Nat} {o : Option Nat} {w0 w w' : World} (h : Fr b o w w') (hE : Ext w0 w) (hb : w0.heap.size ≤ b) (ho : ∀ k, o = some k → w0.heap.size ≤ k) : Ext w0 w' := by
  have hs := hE.size
  refine ⟨h.os.trans hE.os, h.tape.trans hE.tape, h.output.trans hE.output, Nat.le_trans hs h.size, fun k hk => ?_⟩
  rw [h.block k (Nat.lt_of_lt_of_le hk hs) (by omega) fun e => by have := ho k e.symm; omega]
  exact hE.block k hk
theorem Fr.blk {b : Nat} {o : Option Nat} {w w' : World} (h : Fr b o w w') {c : Nat} {T : TypeId} {cs : Array Value} (hB : Blk w c T cs) (hc : c ≠ b) (ho : o ≠ some c) : Blk w' c T cs := by
  unfold Blk; rw [h.block c hB.lt hc fun e => ho e.symm]; exact hB
theorem Fr.own {b : Nat} {o : Option Nat} {w w' : World} (h : Fr b o w w') {TI : TypeId} {w0 : World} {v : Value} {l : List Int} (hO : Own TI w0 w v l) (h1 : v.ownBlock ≠ some b) (h2 : v.ownBlock = none ∨ v.ownBlock ≠ o) : Own TI w0 w' v l := by
  obtain ⟨⟨hl, hr⟩, hn⟩ := hO
  refine ⟨⟨hl, ?_⟩, hn⟩
  rcases hr with hr | ⟨g, cap, cur, rfl, hg, hh, rest⟩
  · exact Or.inl hr
  · refine Or.inr ⟨g, cap, cur, rfl, hg, ?_, rest⟩
    simp [Value.ownBlock] at h1 h2
    rw [h.block g (Array.getElem?_eq_some_iff.1 hh).1 h1 h2]; exact hh
theorem run_append1F {P : Program} {T TI : TypeId} (hT : IntSl P T TI) (ty : TypeId) (w0 w : World) (v : Value) (l : List Int) (y : Int) (ad : Addr) (hO : Own TI w0 w v l) (hE : Ext w0 w) (hy : ∀ j u, [Value.int .i64 y][j]? = some u → w.cell? (ad.add j) = some u) (hn : l.length < 17592186044416) :
    ∃ v' w', (Builtin.append_ #[T, T] ty #[v, .slice (some ad) 1 1]).run P w = .ok v' w' ∧ Own TI w0 w' v' (l ++ [y]) ∧ w.grownBy w' v.ownBlock ∧ Nw v.ownBlock w v'.ownBlock := by
  obtain ⟨i, hi, hz, hs1, hby⟩ := hT.info
  have h1 := hO.1
  rcases h1.2 with ⟨rfl, hl⟩ | ⟨g, cap, cur, rfl, hg, hh, hnc, hcm, hcs, htk⟩
  · have hl' : l = [] := List.eq_nil_of_length_eq_zero hl
    subst hl'
    obtain ⟨v', w', hrun, r1, r2, -⟩ := run_append_own (P := P) w w.heap.size T ty TI i (.int .i64 0) 1 8 hT.und hi hz hs1 hby rfl (by omega) (.slice none 0 0) 0 [] (World.ownsRow_nil _ _ _ _) ad 1 1 [.int .i64 y] rfl hy (by simp [Value.oneCell']) (by unfold maxLen; omega) (by omega) (Nat.le_refl _)
    have hO' : Own TI w w' v' [y] := ⟨by simpa using r1, by simp⟩
    exact ⟨v', w', hrun, by simpa using hO'.mono hE, r2, Or.inr fun k hk => (hO'.blk k hk).1⟩
  · by_cases hroom : l.length + 1 ≤ cap
    · obtain ⟨w', hrun, r1, r2⟩ := run_append_fits (P := P) w w0.heap.size T ty TI i 1 hT.und hi hs1 g l.length cap _ h1 ad 1 1 [.int .i64 y] rfl hy (by simp [Value.oneCell']) hroom
      exact ⟨_, w', hrun, ⟨by simpa using r1, by simp; omega⟩, r2, Or.inl rfl⟩
    · obtain ⟨v', w', hrun, r1, r2⟩ := run_append_arg_grows (P := P) (w := w) T ty TI i (.int .i64 0) 1 8 hT.und hi hz hs1 hby rfl (by omega) ⟨g, 0, none⟩ l.length cap (l.map (Value.int .i64)) (by simp) (by
        intro j u hu
        have hj : j < l.length := by have := (List.getElem?_eq_some_iff.1 hu).1; simpa using this
        rw [Addr.add_lit, Nat.zero_add, World.ownsRow.cellAt h1 j (by omega)]
        simpa using hu) ad 1 1 [.int .i64 y] rfl hy (by omega) (by unfold maxLen; omega) (by omega)
      have hO' : Own TI w w' v' (l ++ [y]) := ⟨by simpa using r1, by simp; omega⟩
      exact ⟨v', w', hrun, hO'.mono hE, ⟨r2.os, r2.tape, r2.output, r2.size, fun k hk _ => r2.block k hk (by simp)⟩, Or.inr fun k hk => (hO'.blk k hk).1⟩
section
variable {P : Program} {ops : Array Oper} {rest : List Oper} {o : Oper} {a : Act} {Q : Exit → Act → World → Prop} {T TI : TypeId}
/-- append(s, y), with the row that it writes -/
theorem wp_append1F (hT : IntSl P T TI) (hg : o.guard = none) (s x : Operand) (hop : o.op = Op.call { callee := Callee.builtin Builtin.append, args := #[s, x], argTypes := #[T, T] })
    (w0 W : World) (v : Value) (l : List Int) (y : Int) (hO : Own TI w0 W v l) (hE : Ext w0 W) (hn : l.length < 17592186044416) (hs : a.eval s = v) (hx : a.eval x = .slice (some ⟨W.heap.size, 0, none⟩) 1 1)
    (hK : ∀ v' w', Own TI w0 w' v' (l ++ [y]) → W.grownBy w' v.ownBlock → Nw v.ownBlock W v'.ownBlock → wpList P ops Q rest (a.put o.dst v') w') :
    wpList P ops Q (o :: rest) a (W.alloc (.cells #[.int .i64 y] TI)) := by
  obtain ⟨v', w', hrun, h1, h2, h3⟩ := run_append1F hT o.type w0 (W.alloc (.cells #[.int .i64 y] TI)) v l y ⟨W.heap.size, 0, none⟩ (hO.alloc _) (hE.alloc _) (cell_one_new _ _ _) hn
  refine wpList_plain hg fun K hK' => ?_
  unfold Oper.wp
  simp [execOp, hop, resolve, invoke, builtin, hs, hx, hrun, Result.andThen]
  have e : Ext W (W.alloc (.cells #[.int .i64 y] TI)) := (Ext.refl W).alloc _
  refine hK' _ _ (hK v' w' h1 ⟨h2.os.trans e.os, h2.tape.trans e.tape, h2.output.trans e.output, Nat.le_trans e.size h2.size, fun k hk hne => ?_⟩ ?_)
  · rw [h2.block k (Nat.lt_of_lt_of_le hk e.size) hne]; exact e.block k hk
  · rcases h3 with h3 | h3
    · exact Or.inl h3
    · exact Or.inr fun k hk => Nat.le_trans e.size (h3 k hk)
end
end Go.Zz
