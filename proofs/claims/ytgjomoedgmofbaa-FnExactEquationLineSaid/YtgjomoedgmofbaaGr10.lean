/- Plain facts on the search for a first largest set with a property that parts keep; cliques. No program is named here. -/
import Derived.Test.YtgjomoedgmofbaaGr5
import Derived.Test.YtgjomoedgmofbaaGr7
import Derived.Test.YtgjomoedgmofbaaGr9
import Derived.Deep.RegionHeld3
import Derived.Laws.EntriesVeiled
import Derived.Laws.OwnMore
import Derived.StillTailTactics
namespace Go.Zz
set_option linter.unusedVariables false

/-- the elements from fr on by which b may grow -/
def kidN (P : Nat → Bool) (N b fr : Nat) : Nat := bset ((List.range N).filter (fun x => decide (fr ≤ x) && P (b ||| 2 ^ x)))
theorem kidN_bit {P : Nat → Bool} {N b fr i : Nat} : (kidN P N b fr).testBit i = (decide (i < N) && (decide (fr ≤ i) && P (b ||| 2 ^ i))) := by
  unfold kidN; rw [testBit_bset, Bool.eq_iff_iff]; simp [List.mem_filter]
theorem kidN_lt (P : Nat → Bool) (N b fr : Nat) : kidN P N b fr < 2 ^ N := bset_lt fun _ hx => List.mem_range.1 (List.mem_filter.1 hx).1
def fsS (P : Nat → Bool) (N : Nat) : Nat → Nat → Nat → Nat
  | 0, b, _ => b
  | f + 1, b, fr => (elems (kidN P N b fr)).foldl (fun (best x : Nat) => if cnt best < cnt (fsS P N f (b ||| 2 ^ x) (x + 1)) then fsS P N f (b ||| 2 ^ x) (x + 1) else best) b
def fsSto (P : Nat → Bool) (N f b fr k : Nat) : Nat := ((elems (kidN P N b fr)).take k).foldl (fun (best x : Nat) => if cnt best < cnt (fsS P N f (b ||| 2 ^ x) (x + 1)) then fsS P N f (b ||| 2 ^ x) (x + 1) else best) b
theorem fsS_end (P : Nat → Bool) (N f b fr : Nat) : fsS P N (f + 1) b fr = fsSto P N f b fr (elems (kidN P N b fr)).length := by unfold fsSto; rw [List.take_length]; rfl
theorem fsSto_zero (P : Nat → Bool) (N f b fr : Nat) : fsSto P N f b fr 0 = b := rfl
theorem fsSto_more {P : Nat → Bool} {N f b fr k : Nat} (hk : k < (elems (kidN P N b fr)).length) (h : cnt (fsSto P N f b fr k) < cnt (fsS P N f (b ||| 2 ^ nthN (elems (kidN P N b fr)) k) (nthN (elems (kidN P N b fr)) k + 1))) :
    fsSto P N f b fr (k + 1) = fsS P N f (b ||| 2 ^ nthN (elems (kidN P N b fr)) k) (nthN (elems (kidN P N b fr)) k + 1) := by
  unfold fsSto at h ⊢; rw [take_nthN _ _ hk, List.foldl_append]; simp only [List.foldl_cons, List.foldl_nil]; rw [if_pos h]
theorem fsSto_less {P : Nat → Bool} {N f b fr k : Nat} (hk : k < (elems (kidN P N b fr)).length) (h : ¬ cnt (fsSto P N f b fr k) < cnt (fsS P N f (b ||| 2 ^ nthN (elems (kidN P N b fr)) k) (nthN (elems (kidN P N b fr)) k + 1))) :
    fsSto P N f b fr (k + 1) = fsSto P N f b fr k := by
  unfold fsSto at h ⊢; rw [take_nthN _ _ hk, List.foldl_append]; simp only [List.foldl_cons, List.foldl_nil]; rw [if_neg h]
/-- the same with the best one so far and its size -/
def fsI (P : Nat → Bool) (N : Nat) : Nat → Nat → Nat → Nat → Nat × Int → Nat × Int
  | 0, b, n, _, s => if s.2 < n then (b, n) else s
  | f + 1, b, n, fr, s => (elems (kidN P N b fr)).foldl (fun (s : Nat × Int) (x : Nat) => fsI P N f (b ||| 2 ^ x) (n + 1) (x + 1) s) (if s.2 < n then (b, n) else s)
/-- after the elements below k -/
def fsIto (P : Nat → Bool) (N f b n fr : Nat) (s : Nat × Int) (k : Nat) : Nat × Int := (elemsTo (kidN P N b fr) k).foldl (fun (s : Nat × Int) (x : Nat) => fsI P N f (b ||| 2 ^ x) (n + 1) (x + 1) s) (if s.2 < n then (b, n) else s)
theorem fsI_end {P : Nat → Bool} {N : Nat} (hN : N ≤ 24) (f b n fr : Nat) (s : Nat × Int) : fsI P N (f + 1) b n fr s = fsIto P N f b n fr s N := by
  unfold fsIto; rw [elemsTo_all hN (kidN_lt P N b fr)]; rfl
theorem elemsTo_nil0 {a k : Nat} (h : ∀ i, i < k → a.testBit i = false) : elemsTo a k = [] := by
  unfold elemsTo; rw [List.filter_eq_nil_iff]; intro i hi; rw [h i (List.mem_range.1 hi)]; simp
theorem fsIto_start {P : Nat → Bool} {N f b n fr : Nat} {s : Nat × Int} : fsIto P N f b n fr s fr = if s.2 < n then (b, (n : Int)) else s := by
  unfold fsIto; rw [elemsTo_nil0 fun i hi => by rw [kidN_bit]; simp; intro _ h; omega]; rfl
theorem fsIto_yes {P : Nat → Bool} {N f b n fr k : Nat} {s : Nat × Int} (h1 : k < N) (h2 : fr ≤ k) (h : P (b ||| 2 ^ k) = true) : fsIto P N f b n fr s (k + 1) = fsI P N f (b ||| 2 ^ k) (n + 1) (k + 1) (fsIto P N f b n fr s k) := by
  unfold fsIto; rw [elemsTo_succ, show (kidN P N b fr).testBit k = true by rw [kidN_bit, h]; simp [h1, h2], if_pos rfl, List.foldl_append]; rfl
theorem fsIto_no {P : Nat → Bool} {N f b n fr k : Nat} {s : Nat × Int} (h : P (b ||| 2 ^ k) = false) : fsIto P N f b n fr s (k + 1) = fsIto P N f b n fr s k := by
  unfold fsIto; rw [elemsTo_succ, show (kidN P N b fr).testBit k = false by rw [kidN_bit, h]; simp]; simp
theorem bit_two (x i : Nat) : (2 ^ x).testBit i = decide (x = i) := Nat.testBit_two_pow
theorem cnt_or_new {b x : Nat} (hb : b < 2 ^ 24) (hx : x < 24) (h : b.testBit x = false) : cnt (b ||| 2 ^ x) = cnt b + 1 := by
  have h1 := cnt_sub (Sub.or_left b (2 ^ x))
  have e : andN (b ||| 2 ^ x) b = 2 ^ x := Nat.eq_of_testBit_eq fun i => by
    rw [andN_bit, Nat.testBit_or, bit_two]
    by_cases hi : x = i
    · subst hi; simp [h]
    · simp [hi]
  rw [e] at h1
  have h2 : elems (2 ^ x) = (List.range 24).filter (fun i => decide (x = i)) := by unfold elems; congr 1; funext i; exact bit_two x i
  have h3 : cnt (2 ^ x) = 1 := by
    unfold cnt; rw [h2]
    have : ∀ n, x < n → ((List.range n).filter (fun i => decide (x = i))).length = 1 := by
      intro n
      induction n with
      | zero => omega
      | succ n ih =>
        intro hn
        rw [List.range_succ, List.filter_append, List.length_append]
        by_cases hxn : x = n
        · subst hxn
          have : (List.range x).filter (fun i => decide (x = i)) = [] := by rw [List.filter_eq_nil_iff]; intro i hi; have := List.mem_range.1 hi; simp; omega
          rw [this]; simp
        · rw [ih (by omega)]; simp [hxn]
    exact this 24 hx
  omega
/-- both searches find the same -/
theorem fsI_eq (P : Nat → Bool) (N : Nat) (hN : N ≤ 24) : ∀ (f b fr : Nat) (s : Nat × Int), b < 2 ^ fr → fr ≤ N → fsI P N f b (cnt b) fr s = if s.2 < cnt (fsS P N f b fr) then (fsS P N f b fr, (cnt (fsS P N f b fr) : Int)) else s := by
  intro f
  induction f with
  | zero => intro b fr s _ _; rfl
  | succ f ih =>
    intro b fr s hb hfr
    unfold fsI fsS
    have key : ∀ (L : List Nat), (∀ x ∈ L, fr ≤ x ∧ x < N) → ∀ r, (L.foldl (fun (s : Nat × Int) (x : Nat) => fsI P N f (b ||| 2 ^ x) (cnt b + 1) (x + 1) s) (if s.2 < cnt r then (r, (cnt r : Int)) else s)) =
        (if s.2 < cnt (L.foldl (fun (best x : Nat) => if cnt best < cnt (fsS P N f (b ||| 2 ^ x) (x + 1)) then fsS P N f (b ||| 2 ^ x) (x + 1) else best) r) then (L.foldl (fun (best x : Nat) => if cnt best < cnt (fsS P N f (b ||| 2 ^ x) (x + 1)) then fsS P N f (b ||| 2 ^ x) (x + 1) else best) r, (cnt (L.foldl (fun (best x : Nat) => if cnt best < cnt (fsS P N f (b ||| 2 ^ x) (x + 1)) then fsS P N f (b ||| 2 ^ x) (x + 1) else best) r) : Int)) else s) := by
      intro L
      induction L with
      | nil => intro _ r; rfl
      | cons x L ih2 =>
        intro hL r
        obtain ⟨hx1, hx2⟩ := hL x (by simp)
        have hbx : b.testBit x = false := testBit_ge hb hx1
        have hb24 : b < 2 ^ 24 := Nat.lt_of_lt_of_le hb (Nat.pow_le_pow_right (by omega) (by omega))
        have hc := cnt_or_new hb24 (show x < 24 by omega) hbx
        have hb2 : b ||| 2 ^ x < 2 ^ (x + 1) := Nat.or_lt_two_pow (Nat.lt_of_lt_of_le hb (Nat.pow_le_pow_right (by omega) (by omega))) (Nat.pow_lt_pow_right (by omega) (by omega))
        simp only [List.foldl_cons]
        have e := fun s => ih (b ||| 2 ^ x) (x + 1) s hb2 (by omega)
        rw [hc] at e
        have e2 : fsI P N f (b ||| 2 ^ x) (cnt b + 1) (x + 1) (if s.2 < cnt r then (r, (cnt r : Int)) else s) =
            (if s.2 < cnt (if cnt r < cnt (fsS P N f (b ||| 2 ^ x) (x + 1)) then fsS P N f (b ||| 2 ^ x) (x + 1) else r) then ((if cnt r < cnt (fsS P N f (b ||| 2 ^ x) (x + 1)) then fsS P N f (b ||| 2 ^ x) (x + 1) else r), (cnt (if cnt r < cnt (fsS P N f (b ||| 2 ^ x) (x + 1)) then fsS P N f (b ||| 2 ^ x) (x + 1) else r) : Int)) else s) := by
          rw [e]
          generalize fsS P N f (b ||| 2 ^ x) (x + 1) = y
          by_cases h1 : s.2 < cnt r <;> by_cases h2 : cnt r < cnt y <;> by_cases h3 : s.2 < cnt y <;> simp [h1, h2, h3] <;> omega
        rw [e2]
        exact ih2 (fun y hy => hL y (by simp [hy])) _
    refine key _ (fun x hx => ?_) b
    have := (mem_elems.1 hx).2
    rw [kidN_bit] at this
    simp at this; omega

theorem fsS_lt (P : Nat → Bool) (N : Nat) (hN : N ≤ 24) : ∀ (f b fr : Nat), b < 2 ^ 24 → fsS P N f b fr < 2 ^ 24 := by
  intro f
  induction f with
  | zero => intro b fr h; exact h
  | succ f ih =>
    intro b fr h
    unfold fsS
    have key : ∀ (L : List Nat), (∀ x ∈ L, x < 24) → ∀ r, r < 2 ^ 24 → L.foldl (fun (best x : Nat) => if cnt best < cnt (fsS P N f (b ||| 2 ^ x) (x + 1)) then fsS P N f (b ||| 2 ^ x) (x + 1) else best) r < 2 ^ 24 := by
      intro L
      induction L with
      | nil => intro _ r hr; exact hr
      | cons x L ih2 =>
        intro hL r hr
        simp only [List.foldl_cons]
        refine ih2 (fun y hy => hL y (by simp [hy])) _ ?_
        split
        · exact ih _ _ (Nat.or_lt_two_pow h (Nat.pow_lt_pow_right (by omega) (hL x (by simp))))
        · exact hr
    exact key _ (fun x hx => elems_lt hx) b h

/-! ### cliques -/
def cliP (l : List Int) (a b : Nat) : Bool := decide (andN (sumF l b (oppF l b)) (a ||| 1) = 0)
theorem cliP_iff {l : List Int} (hg : isGrp l = true) {a b : Nat} : cliP l a b = true ↔ ∀ y z, y < 24 → z < 24 → b.testBit y = true → b.testBit z = true → (a ||| 1).testBit (addF l y (negF l z)) = true := by
  unfold cliP
  rw [decide_eq_true_iff, andN_zero]
  constructor
  · intro h y z hy hz hby hbz
    exact h _ (testBit_sumF.2 ⟨y, negF l z, hy, hby, negF_bd hg z, testBit_oppF.2 ⟨z, hz, hbz, rfl⟩, rfl⟩)
  · intro h i hi
    obtain ⟨y, w, hy, hby, _, hw, rfl⟩ := testBit_sumF.1 hi
    obtain ⟨z, hz, hbz, rfl⟩ := testBit_oppF.1 hw
    exact h y z hy hz hby hbz
theorem addF_zero' {l : List Int} (h : Ords l) {x : Nat} (hx : x < ord l) : addF l x 0 = x := by rw [addF_comm]; exact addF_zero l h x hx
theorem neg_neg {l : List Int} (h : Ords l) {x : Nat} (hx : x < ord l) : negF l (negF l x) = x := by
  have h1 : addF l (negF l x) (negF l (negF l x)) = addF l (negF l x) x := by rw [addF_neg l h, addF_comm, addF_neg l h]
  exact addF_cancel h (negF_lt l h _) hx h1
/-- z = y + (z - y) -/
theorem add_sub {l : List Int} (h : Ords l) {y z : Nat} (hz : z < ord l) : addF l y (addF l z (negF l y)) = z := by
  rw [addF_comm l z, ← addF_assoc l h, addF_neg l h, addF_zero l h _ hz]
theorem neg_sub {l : List Int} (h : Ords l) {y z : Nat} (hy : y < ord l) (hz : z < ord l) : negF l (addF l y (negF l z)) = addF l z (negF l y) := by
  have e : addF l (addF l y (negF l z)) (addF l z (negF l y)) = 0 := by
    rw [addF_assoc l h, ← addF_assoc l h (negF l z), addF_comm l (negF l z) z, addF_neg l h, addF_zero l h _ (negF_lt l h _), addF_neg l h]
  exact (addF_cancel h (addF_lt l h _ _) (negF_lt l h _) (by rw [e, addF_neg l h])).symm
theorem one_bit (i : Nat) : (1 : Nat).testBit i = decide (i = 0) := by
  have := bit_two 0 i; rw [show (2:Nat) ^ 0 = 1 from rfl] at this; rw [this, Bool.eq_iff_iff]; simp; exact eq_comm
theorem conn_self (l : List Int) (h : Ords l) (a y : Nat) : (a ||| 1).testBit (addF l y (negF l y)) = true := by rw [addF_neg l h, Nat.testBit_or, one_bit]; simp
/-- joined by i - x -/
theorem conn_iff {l : List Int} (hg : isGrp l = true) {a x i : Nat} (ha : a < 2 ^ ord l) (hx : x < ord l) (hi : i < ord l) (hne : x ≠ i) : (a ||| 1).testBit (addF l i (negF l x)) = (shiftF l a x).testBit i := by
  have h := isGrp_ords hg
  have h0 : addF l i (negF l x) ≠ 0 := fun e => by
    have := add_sub h (y := x) hi
    rw [e, addF_zero' h hx] at this; exact hne this
  rw [Nat.testBit_or, one_bit, show decide (addF l i (negF l x) = 0) = false from decide_eq_false h0, Bool.or_false]
  refine bool_eq_of ⟨fun e => testBit_shiftF.2 ⟨_, addF_bd hg _ _, e, add_sub h hi⟩, fun e => ?_⟩
  obtain ⟨y, hy, hay, he⟩ := testBit_shiftF.1 e
  rw [← he, addF_comm l x y, addF_assoc l h, addF_neg l h, addF_zero' h (bit_lt ha hay)]
  exact hay
theorem conn_symm {l : List Int} (hg : isGrp l = true) {a y z : Nat} (ho : oppF l a = a) (hy : y < ord l) (hz : z < ord l) (h : (a ||| 1).testBit (addF l y (negF l z)) = true) : (a ||| 1).testBit (addF l z (negF l y)) = true := by
  have hO := isGrp_ords hg
  rw [Nat.testBit_or, one_bit] at h ⊢
  rw [Bool.or_eq_true] at h ⊢
  rcases h with h | h
  · left
    rw [← ho]
    exact testBit_oppF.2 ⟨_, addF_bd hg _ _, h, neg_sub hO hy hz⟩
  · right
    rw [decide_eq_true_iff] at h ⊢
    have h1 := add_sub hO (y := z) hy
    rw [h, addF_zero' hO hz] at h1
    rw [h1, addF_neg l hO]
/-- the candidates of the next step -/
theorem cli_next {l : List Int} (hg : isGrp l = true) {a b fr x : Nat} (ha : a < 2 ^ ord l) (ho : oppF l a = a) (hb : b < 2 ^ fr) (hx : (kidN (cliP l a) (ord l) b fr).testBit x = true) (i : Nat) :
    (kidN (cliP l a) (ord l) (b ||| 2 ^ x) (x + 1)).testBit i = (decide (x + 1 ≤ i) && ((kidN (cliP l a) (ord l) b fr).testBit i && (shiftF l a x).testBit i)) := by
  have hob := ord_bd hg
  rw [kidN_bit] at hx
  simp only [Bool.and_eq_true, decide_eq_true_eq] at hx
  obtain ⟨hx1, hx2, hx3⟩ := hx
  rw [kidN_bit, kidN_bit]
  by_cases hi : i < ord l
  rotate_left
  · simp [hi]
  by_cases hxi : x + 1 ≤ i
  rotate_left
  · simp [hxi]
  rw [← conn_iff hg ha hx1 hi (by omega)]
  simp only [hi, hxi, show fr ≤ i by omega, decide_true, Bool.true_and]
  rw [cliP_iff hg] at hx3
  refine bool_eq_of ⟨fun h => ?_, fun h => ?_⟩
  · rw [cliP_iff hg] at h
    rw [Bool.and_eq_true, cliP_iff hg]
    refine ⟨fun y z hy hz hby hbz => h y z hy hz ?_ ?_, h i x (by omega) (by omega) (by rw [Nat.testBit_or, bit_two]; simp) (by rw [Nat.testBit_or, Nat.testBit_or, bit_two]; simp)⟩
    · rw [Nat.testBit_or, Bool.or_eq_true] at hby; rw [Nat.testBit_or, Nat.testBit_or]; rcases hby with e | e <;> simp [e]
    · rw [Nat.testBit_or, Bool.or_eq_true] at hbz; rw [Nat.testBit_or, Nat.testBit_or]; rcases hbz with e | e <;> simp [e]
  · rw [Bool.and_eq_true, cliP_iff hg] at h
    obtain ⟨h1, h2⟩ := h
    rw [cliP_iff hg]
    have part : ∀ y, (b ||| 2 ^ x ||| 2 ^ i).testBit y = true → (b.testBit y = true ∨ y = x) ∨ y = i := by
      intro y hy
      rw [Nat.testBit_or, Nat.testBit_or, bit_two, bit_two] at hy
      simp only [Bool.or_eq_true, decide_eq_true_eq] at hy
      rcases hy with (e | e) | e
      · exact Or.inl (Or.inl e)
      · exact Or.inl (Or.inr e.symm)
      · exact Or.inr e.symm
    have inx : ∀ y, (b.testBit y = true ∨ y = x) → (b ||| 2 ^ x).testBit y = true := by
      rintro y (e | rfl)
      · rw [Nat.testBit_or, e]; rfl
      · rw [Nat.testBit_or, bit_two]; simp
    have ini : ∀ y, (b.testBit y = true ∨ y = i) → (b ||| 2 ^ i).testBit y = true := by
      rintro y (e | rfl)
      · rw [Nat.testBit_or, e]; rfl
      · rw [Nat.testBit_or, bit_two]; simp
    intro y z hy hz hby hbz
    rcases part y hby with hy1 | rfl
    · rcases part z hbz with hz1 | rfl
      · exact hx3 y z hy hz (inx y hy1) (inx z hz1)
      · rcases hy1 with hy1 | rfl
        · exact h1 y z hy hz (ini y (Or.inl hy1)) (ini z (Or.inr rfl))
        · exact conn_symm hg ho hi hx1 h2
    · rcases part z hbz with hz1 | rfl
      · rcases hz1 with hz1 | rfl
        · exact h1 y z hy hz (ini y (Or.inr rfl)) (ini z (Or.inl hz1))
        · exact h2
      · exact conn_self l (isGrp_ords hg) a _
theorem cli_start {l : List Int} (hg : isGrp l = true) (a : Nat) : kidN (cliP l a) (ord l) 0 0 = fullN l := by
  apply Nat.eq_of_testBit_eq
  intro i
  rw [kidN_bit, fullN_bit]
  by_cases hi : i < ord l
  · have : cliP l a (2 ^ i) = true := by
      rw [cliP_iff hg]
      intro y z _ _ hy hz
      rw [bit_two, decide_eq_true_iff] at hy hz
      subst hy; subst hz
      exact conn_self l (isGrp_ords hg) a i
    simp [hi, this]
  · simp [hi]
/-- left & s, shifted down and up again -/
theorem cut_bits (m s x i : Nat) : (shr (m &&& s) (x + 1) * 2 ^ (x + 1)).testBit i = (decide (x + 1 ≤ i) && (m.testBit i && s.testBit i)) := by
  unfold shr
  rw [← Nat.shiftLeft_eq, Nat.testBit_shiftLeft, Nat.testBit_shiftRight]
  by_cases h : x + 1 ≤ i
  · simp [h, Nat.testBit_and]
  · simp [h]
def lcF (l : List Int) (a : Int) : Bool := connB l a && decide (ord l ≤ 16)
def lcV (l : List Int) (a : Int) : Int := if lcF l a then (fsS (cliP l a.toNat) (ord l) (ord l + 1) 0 0 : Nat) else 0
end Go.Zz

/- The search for a first largest set: the program's closures. -/
namespace Go.Zz
open Go.RowKit Go.Proofs
set_option maxHeartbeats 2000000
set_option maxRecDepth 4000

/-- w' is w with new blocks, and writes to the blocks of S alone -/
structure Fw (S : Nat → Prop) (w w' : World) : Prop where
  os : w'.os = w.os
  tape : w'.tape = w.tape
  output : w'.output = w.output
  size : w.heap.size ≤ w'.heap.size
  block : ∀ k, k < w.heap.size → ¬ S k → w'.heap[k]? = w.heap[k]?
theorem Fw.refl (S : Nat → Prop) (w : World) : Fw S w w := ⟨rfl, rfl, rfl, Nat.le_refl _, fun _ _ _ => rfl⟩
theorem Fw.trans {S : Nat → Prop} {w w1 w2 : World} (h : Fw S w w1) (k : Fw S w1 w2) : Fw S w w2 :=
  ⟨k.os.trans h.os, k.tape.trans h.tape, k.output.trans h.output, Nat.le_trans h.size k.size, fun i hi hs => (k.block i (Nat.lt_of_lt_of_le hi h.size) hs).trans (h.block i hi hs)⟩
theorem Ext.fw {w w' : World} (h : Ext w w') (S : Nat → Prop) : Fw S w w' := ⟨h.os, h.tape, h.output, h.size, fun k hk _ => h.block k hk⟩
theorem fw_set {S : Nat → Prop} {b : Nat} (h : S b) (w : World) (i : Nat) (v : Value) : Fw S w (w.setCell ⟨b, i, none⟩ v) :=
  ⟨rfl, rfl, rfl, by simp, fun k _ hk => Below.heap_setCell _ _ _ _ (fun e => hk (by rw [e]; exact h))⟩
theorem Fw.ext {S : Nat → Prop} {w0 w w' : World} (h : Fw S w w') (hE : Ext w0 w) (hS : ∀ k, S k → w0.heap.size ≤ k) : Ext w0 w' := by
  have hs := hE.size
  refine ⟨h.os.trans hE.os, h.tape.trans hE.tape, h.output.trans hE.output, Nat.le_trans hs h.size, fun k hk => ?_⟩
  rw [h.block k (Nat.lt_of_lt_of_le hk hs) fun e => by have := hS k e; omega]
  exact hE.block k hk
theorem Fw.blk {S : Nat → Prop} {w w' : World} (h : Fw S w w') {c : Nat} {T : TypeId} {cs : Array Value} (hB : Blk w c T cs) (hc : ¬ S c) : Blk w' c T cs := by
  unfold Blk; rw [h.block c hB.lt hc]; exact hB
/-- three boxes of ints -/
def S3 (a b c : Nat) (k : Nat) : Prop := k = a ∨ k = b ∨ k = c

theorem firstCl_any (v : Value) (l : List Int) (P : Nat → Bool) (Hgr : Hid (isGrp l = true)) (W0 : World) (bC bS bB bG bI bT : Nat) (hCS : bC ≠ bS) (hCB : bC ≠ bB) (hSB : bS ≠ bB) (hTC : bT ≠ bC) (hTS : bT ≠ bS) (hTB : bT ≠ bB) (h0C : W0.heap.size ≤ bC) (h0S : W0.heap.size ≤ bS) (h0B : W0.heap.size ≤ bB)
    (p1 p2 : Value) (HG : ∀ W, Ext W0 W → W.cell? ⟨bG, 0, none⟩ = some v) (HF : ∀ W, Ext W0 W → W.cell? ⟨bI, 0, none⟩ = some (.func (.func 168) #[] #[p1, p2])) (HI : Hid (∀ W, Ext W0 W → Ints W v l))
    (HP : ∀ W b, Ext W0 W → b < 2 ^ 24 → Calls Try.prog 168 #[.int .i64 (b : Nat), p1, p2] W fun e w' => e = .returned (.bool (P b)) ∧ Ext W w') :
    ∀ (f b n fr : Nat) (w : World) (s : Nat × Int) (c : Int), ord l < fr + f → fr ≤ ord l → b < 2 ^ 24 → n ≤ fr → -1 ≤ s.2 → s.2 ≤ 24 → Ext W0 w → Blk w bB 3 #[.int .i64 s.1] → Blk w bS 3 #[.int .i64 s.2] → Blk w bC 3 #[.int .i64 c] →
    Blk w bT 123 #[.func (.func 227) #[] #[.pointer (some ⟨bC, 0, none⟩), .pointer (some ⟨bS, 0, none⟩), .pointer (some ⟨bB, 0, none⟩), .pointer (some ⟨bG, 0, none⟩), .pointer (some ⟨bI, 0, none⟩), .pointer (some ⟨bT, 0, none⟩)]] →
    Calls Try.prog 227 #[.int .i64 b, .int .i64 n, .int .i64 fr, .pointer (some ⟨bC, 0, none⟩), .pointer (some ⟨bS, 0, none⟩), .pointer (some ⟨bB, 0, none⟩), .pointer (some ⟨bG, 0, none⟩), .pointer (some ⟨bI, 0, none⟩), .pointer (some ⟨bT, 0, none⟩)] w fun e w' =>
      e = .returned (.tuple #[]) ∧ ∃ c', Blk w' bB 3 #[.int .i64 (fsI P (ord l) f b n fr s).1] ∧ Blk w' bS 3 #[.int .i64 (fsI P (ord l) f b n fr s).2] ∧ Blk w' bC 3 #[.int .i64 c'] ∧ Fw (S3 bC bS bB) w w' ∧ -1 ≤ (fsI P (ord l) f b n fr s).2 ∧ (fsI P (ord l) f b n fr s).2 ≤ 24 := by
  intro f
  induction f with
  | zero => intro b n fr w s c hf hfr; omega
  | succ f ih =>
    intro b n fr w s c hf hfr hb24 hn hs1 hs2 hE0 hB hS hC hT
    have hob := ord_bd Hgr.out
    have Hih := Lib.hid ih
    clear ih
    obtain ⟨c1, hc1⟩ : ∃ c1, c1 = wrap64 (c + 1) := ⟨_, rfl⟩
    have kc := hC.cell (i := 0) (v := .int .i64 c) rfl
    have fc := hC.free 0
    have B1 : Blk (w.setCell ⟨bC, 0, none⟩ (.int .i64 (wrap64 (c + 1)))) bB 3 #[.int .i64 s.1] := hB.other (by simpa using hCB.symm) _
    have S1 : Blk (w.setCell ⟨bC, 0, none⟩ (.int .i64 (wrap64 (c + 1)))) bS 3 #[.int .i64 s.2] := hS.other (by simpa using hCS.symm) _
    have C1 : Blk (w.setCell ⟨bC, 0, none⟩ (.int .i64 (wrap64 (c + 1)))) bC 3 #[.int .i64 (wrap64 (c + 1))] := hC.set 0 _
    have F1 : Fw (S3 bC bS bB) w (w.setCell ⟨bC, 0, none⟩ (.int .i64 (wrap64 (c + 1)))) := fw_set (Or.inl rfl) w 0 _
    have ks1 := S1.cell (i := 0) (v := .int .i64 s.2) rfl
    have kb1 := B1.cell (i := 0) (v := .int .i64 s.1) rfl
    have fb1 := B1.free 0
    have hS3 : ∀ k, S3 bC bS bB k → W0.heap.size ≤ k := by rintro k (rfl | rfl | rfl) <;> assumption
    have hT3 : ¬ S3 bC bS bB bT := by rintro (h | h | h) <;> contradiction
    by_cases hq : s.2 < (n : Int)
    · have B2 : Blk ((w.setCell ⟨bC, 0, none⟩ (.int .i64 (wrap64 (c + 1)))).setCell ⟨bB, 0, none⟩ (.int .i64 b)) bB 3 #[.int .i64 b] := B1.set 0 _
      have S2 : Blk ((w.setCell ⟨bC, 0, none⟩ (.int .i64 (wrap64 (c + 1)))).setCell ⟨bB, 0, none⟩ (.int .i64 b)) bS 3 #[.int .i64 s.2] := S1.other (by simpa using hSB) _
      have C2 : Blk ((w.setCell ⟨bC, 0, none⟩ (.int .i64 (wrap64 (c + 1)))).setCell ⟨bB, 0, none⟩ (.int .i64 b)) bC 3 #[.int .i64 (wrap64 (c + 1))] := C1.other (by simpa using hCB) _
      have ks2 := S2.cell (i := 0) (v := .int .i64 s.2) rfl
      have fs2 := S2.free 0
      have s0 := fsIto_start (P := P) (N := ord l) (f := f) (b := b) (n := n) (fr := fr) (s := s)
      rw [if_pos hq] at s0
      have HB0 : Hid (Blk (((w.setCell ⟨bC, 0, none⟩ (.int .i64 (wrap64 (c + 1)))).setCell ⟨bB, 0, none⟩ (.int .i64 b)).setCell ⟨bS, 0, none⟩ (.int .i64 n)) bB 3 #[.int .i64 (fsIto P (ord l) f b n fr s fr).1]) := Lib.hid (by rw [s0]; exact B2.other (by simpa using hSB.symm) _)
      have HS0 : Hid (Blk (((w.setCell ⟨bC, 0, none⟩ (.int .i64 (wrap64 (c + 1)))).setCell ⟨bB, 0, none⟩ (.int .i64 b)).setCell ⟨bS, 0, none⟩ (.int .i64 n)) bS 3 #[.int .i64 (fsIto P (ord l) f b n fr s fr).2]) := Lib.hid (by rw [s0]; exact S2.set 0 _)
      have HC0 : Hid (Blk (((w.setCell ⟨bC, 0, none⟩ (.int .i64 (wrap64 (c + 1)))).setCell ⟨bB, 0, none⟩ (.int .i64 b)).setCell ⟨bS, 0, none⟩ (.int .i64 n)) bC 3 #[.int .i64 (wrap64 (c + 1))]) := Lib.hid (C2.other (by simpa using hCS) _)
      have HF0 : Hid (Fw (S3 bC bS bB) w (((w.setCell ⟨bC, 0, none⟩ (.int .i64 (wrap64 (c + 1)))).setCell ⟨bB, 0, none⟩ (.int .i64 b)).setCell ⟨bS, 0, none⟩ (.int .i64 n))) := Lib.hid ((F1.trans (fw_set (Or.inr (Or.inr rfl)) _ 0 _)).trans (fw_set (Or.inr (Or.inl rfl)) _ 0 _))
      have Hb0 : Hid (-1 ≤ (fsIto P (ord l) f b n fr s fr).2 ∧ (fsIto P (ord l) f b n fr s fr).2 ≤ 24) := Lib.hid (by rw [s0]; simp only; omega)
      clear s0 B1 S1 C1 F1 B2 S2 C2 hB hS hC hc1
      go_enter Try.func227, Try.ntmps227
      go_wp2_with fail
      clear kc fc ks1 kb1 fb1 ks2 fs2 hq
      go_loopw [12] (fun xv wr => ∃ (k : Nat) (c' : Int), fr ≤ k ∧ k ≤ ord l ∧ xv = .int .i64 k ∧ Blk wr bB 3 #[.int .i64 (fsIto P (ord l) f b n fr s k).1] ∧ Blk wr bS 3 #[.int .i64 (fsIto P (ord l) f b n fr s k).2] ∧ Blk wr bC 3 #[.int .i64 c'] ∧ Fw (S3 bC bS bB) w wr ∧ -1 ≤ (fsIto P (ord l) f b n fr s k).2 ∧ (fsIto P (ord l) f b n fr s k).2 ≤ 24) (fun x _ => ord l - (intOf x).toNat)
      case atStart => exact ⟨fr, _, by omega, by omega, rfl, HB0.out, HS0.out, HC0.out, HF0.out, Hb0.out.1, Hb0.out.2⟩
      case round =>
        obtain ⟨k, c', hk1, hk2, rfl, hB, hS, hC, hF, hb1, hb2⟩ := hrel
        clear HB0 HS0 HC0 HF0 Hb0
        have hEr := hF.ext hE0 hS3
        have hTr := hF.blk hT hT3
        obtain ⟨z, hz⟩ : ∃ z, z = fsIto P (ord l) f b n fr s k := ⟨_, rfl⟩
        rw [← hz] at hB hS hb1 hb2
        have HB := Lib.hid hB
        have HS := Lib.hid hS
        have HC := Lib.hid hC
        have HFw := Lib.hid hF
        clear hB hS hC hF
        by_cases hlt : k < ord l
        · have hk24 : k < 24 := by omega
          have hs1' := ishl_one (n := k) (by omega)
          have hs2' := ior_pw hb24 hk24
          have hbk : b ||| 2 ^ k < 2 ^ 24 := Nat.or_lt_two_pow hb24 (Nat.pow_lt_pow_right (by omega) hk24)
          cases hP : P (b ||| 2 ^ k)
          · have Hn : Hid (fsIto P (ord l) f b n fr s (k + 1) = z) := Lib.hid (by rw [fsIto_no hP, hz])
            have hcP := fun W (hW : Ext wr W) => HP W (b ||| 2 ^ k) (hEr.trans hW) hbk
            rw [hP] at hcP
            clear hz hP
            go_wp2_with (first | (go_at_call 108; refine (OrderOf_grp _ _ _ (HI.out _ hEr) Hgr).mono ?_; rintro e1 w1 ⟨rfl, hE1⟩; have hE01 := hEr.trans hE1) | (go_at_call 168; refine (hcP _ hE1).mono ?_; rintro e2 w2 ⟨rfl, hE2⟩; have hE12 := hE1.trans hE2))
            go_roundw
            case rel => exact ⟨k + 1, c', by omega, by omega, by go_num, by rw [Hn.out]; exact HB.out.ext hE12, by rw [Hn.out]; exact HS.out.ext hE12, HC.out.ext hE12, HFw.out.trans (hE12.fw _), by rw [Hn.out]; exact hb1, by rw [Hn.out]; exact hb2⟩
            case measure => (simp [intOf]; omega)
          · have Hn : Hid (fsIto P (ord l) f b n fr s (k + 1) = fsI P (ord l) f (b ||| 2 ^ k) (n + 1) (k + 1) z) := Lib.hid (by rw [fsIto_yes hlt hk1 hP, hz])
            have hcP := fun W (hW : Ext wr W) => HP W (b ||| 2 ^ k) (hEr.trans hW) hbk
            rw [hP] at hcP
            have hcR := fun W (hE : Ext wr W) => Hih.out (b ||| 2 ^ k) (n + 1) (k + 1) W z c' (by omega) (by omega) hbk (by omega) hb1 hb2 (hEr.trans hE) (HB.out.ext hE) (HS.out.ext hE) (HC.out.ext hE) (hTr.ext hE)
            rw [show ((n + 1 : Nat) : Int) = (n : Int) + 1 by omega, show ((k + 1 : Nat) : Int) = (k : Int) + 1 by omega] at hcR
            have kt : ∀ W, Ext wr W → W.cell? ⟨bT, 0, none⟩ = some (.func (.func 227) #[] #[.pointer (some ⟨bC, 0, none⟩), .pointer (some ⟨bS, 0, none⟩), .pointer (some ⟨bB, 0, none⟩), .pointer (some ⟨bG, 0, none⟩), .pointer (some ⟨bI, 0, none⟩), .pointer (some ⟨bT, 0, none⟩)]) := fun W hW => (hTr.ext hW).cell (i := 0) rfl
            clear hz hP
            go_wp2_with (first | (go_at_call 108; refine (OrderOf_grp _ _ _ (HI.out _ hEr) Hgr).mono ?_; rintro e1 w1 ⟨rfl, hE1⟩; have hE01 := hEr.trans hE1) | (go_at_call 168; refine (hcP _ hE1).mono ?_; rintro e2 w2 ⟨rfl, hE2⟩; have hE12 := hE1.trans hE2) | (go_at_call 227; refine (hcR _ hE12).mono ?_; rintro e3 w3 ⟨rfl, c3, hB3, hS3', hC3, hF3, hb3, hb4⟩))
            go_roundw
            case rel => exact ⟨k + 1, c3, by omega, by omega, by go_num, by rw [Hn.out]; exact hB3, by rw [Hn.out]; exact hS3', hC3, HFw.out.trans ((hE12.fw _).trans hF3), by rw [Hn.out]; exact hb3, by rw [Hn.out]; exact hb4⟩
            case measure => (simp [intOf]; omega)
        · have hkl : k = ord l := by omega
          have Hn : Hid (fsI P (ord l) (f + 1) b n fr s = z) := Lib.hid (by rw [fsI_end hob.2, hz, hkl])
          clear hz
          go_wp2_with (go_at_call 108; refine (OrderOf_grp _ _ _ (HI.out _ hEr) Hgr).mono ?_; rintro e1 w1 ⟨rfl, hE1⟩; have hE01 := hEr.trans hE1)
          go_end0
          exact ⟨rfl, c', by rw [Hn.out]; exact HB.out.ext hE1, by rw [Hn.out]; exact HS.out.ext hE1, HC.out.ext hE1, HFw.out.trans (hE1.fw _), by rw [Hn.out]; exact hb1, by rw [Hn.out]; exact hb2⟩
    · have s0 := fsIto_start (P := P) (N := ord l) (f := f) (b := b) (n := n) (fr := fr) (s := s)
      rw [if_neg hq] at s0
      have HB0 : Hid (Blk (w.setCell ⟨bC, 0, none⟩ (.int .i64 (wrap64 (c + 1)))) bB 3 #[.int .i64 (fsIto P (ord l) f b n fr s fr).1]) := Lib.hid (by rw [s0]; exact B1)
      have HS0 : Hid (Blk (w.setCell ⟨bC, 0, none⟩ (.int .i64 (wrap64 (c + 1)))) bS 3 #[.int .i64 (fsIto P (ord l) f b n fr s fr).2]) := Lib.hid (by rw [s0]; exact S1)
      have HC0 := Lib.hid C1
      have HF0 := Lib.hid F1
      have Hb0 : Hid (-1 ≤ (fsIto P (ord l) f b n fr s fr).2 ∧ (fsIto P (ord l) f b n fr s fr).2 ≤ 24) := Lib.hid (by rw [s0]; exact ⟨hs1, hs2⟩)
      clear s0 B1 S1 C1 F1 hB hS hC hc1
      go_enter Try.func227, Try.ntmps227
      go_wp2_with fail
      clear kc fc ks1 kb1 fb1 hq
      go_loopw [12] (fun xv wr => ∃ (k : Nat) (c' : Int), fr ≤ k ∧ k ≤ ord l ∧ xv = .int .i64 k ∧ Blk wr bB 3 #[.int .i64 (fsIto P (ord l) f b n fr s k).1] ∧ Blk wr bS 3 #[.int .i64 (fsIto P (ord l) f b n fr s k).2] ∧ Blk wr bC 3 #[.int .i64 c'] ∧ Fw (S3 bC bS bB) w wr ∧ -1 ≤ (fsIto P (ord l) f b n fr s k).2 ∧ (fsIto P (ord l) f b n fr s k).2 ≤ 24) (fun x _ => ord l - (intOf x).toNat)
      case atStart => exact ⟨fr, _, by omega, by omega, rfl, HB0.out, HS0.out, HC0.out, HF0.out, Hb0.out.1, Hb0.out.2⟩
      case round =>
        obtain ⟨k, c', hk1, hk2, rfl, hB, hS, hC, hF, hb1, hb2⟩ := hrel
        clear HB0 HS0 HC0 HF0 Hb0
        have hEr := hF.ext hE0 hS3
        have hTr := hF.blk hT hT3
        obtain ⟨z, hz⟩ : ∃ z, z = fsIto P (ord l) f b n fr s k := ⟨_, rfl⟩
        rw [← hz] at hB hS hb1 hb2
        have HB := Lib.hid hB
        have HS := Lib.hid hS
        have HC := Lib.hid hC
        have HFw := Lib.hid hF
        clear hB hS hC hF
        by_cases hlt : k < ord l
        · have hk24 : k < 24 := by omega
          have hs1' := ishl_one (n := k) (by omega)
          have hs2' := ior_pw hb24 hk24
          have hbk : b ||| 2 ^ k < 2 ^ 24 := Nat.or_lt_two_pow hb24 (Nat.pow_lt_pow_right (by omega) hk24)
          cases hP : P (b ||| 2 ^ k)
          · have Hn : Hid (fsIto P (ord l) f b n fr s (k + 1) = z) := Lib.hid (by rw [fsIto_no hP, hz])
            have hcP := fun W (hW : Ext wr W) => HP W (b ||| 2 ^ k) (hEr.trans hW) hbk
            rw [hP] at hcP
            clear hz hP
            go_wp2_with (first | (go_at_call 108; refine (OrderOf_grp _ _ _ (HI.out _ hEr) Hgr).mono ?_; rintro e1 w1 ⟨rfl, hE1⟩; have hE01 := hEr.trans hE1) | (go_at_call 168; refine (hcP _ hE1).mono ?_; rintro e2 w2 ⟨rfl, hE2⟩; have hE12 := hE1.trans hE2))
            go_roundw
            case rel => exact ⟨k + 1, c', by omega, by omega, by go_num, by rw [Hn.out]; exact HB.out.ext hE12, by rw [Hn.out]; exact HS.out.ext hE12, HC.out.ext hE12, HFw.out.trans (hE12.fw _), by rw [Hn.out]; exact hb1, by rw [Hn.out]; exact hb2⟩
            case measure => (simp [intOf]; omega)
          · have Hn : Hid (fsIto P (ord l) f b n fr s (k + 1) = fsI P (ord l) f (b ||| 2 ^ k) (n + 1) (k + 1) z) := Lib.hid (by rw [fsIto_yes hlt hk1 hP, hz])
            have hcP := fun W (hW : Ext wr W) => HP W (b ||| 2 ^ k) (hEr.trans hW) hbk
            rw [hP] at hcP
            have hcR := fun W (hE : Ext wr W) => Hih.out (b ||| 2 ^ k) (n + 1) (k + 1) W z c' (by omega) (by omega) hbk (by omega) hb1 hb2 (hEr.trans hE) (HB.out.ext hE) (HS.out.ext hE) (HC.out.ext hE) (hTr.ext hE)
            rw [show ((n + 1 : Nat) : Int) = (n : Int) + 1 by omega, show ((k + 1 : Nat) : Int) = (k : Int) + 1 by omega] at hcR
            have kt : ∀ W, Ext wr W → W.cell? ⟨bT, 0, none⟩ = some (.func (.func 227) #[] #[.pointer (some ⟨bC, 0, none⟩), .pointer (some ⟨bS, 0, none⟩), .pointer (some ⟨bB, 0, none⟩), .pointer (some ⟨bG, 0, none⟩), .pointer (some ⟨bI, 0, none⟩), .pointer (some ⟨bT, 0, none⟩)]) := fun W hW => (hTr.ext hW).cell (i := 0) rfl
            clear hz hP
            go_wp2_with (first | (go_at_call 108; refine (OrderOf_grp _ _ _ (HI.out _ hEr) Hgr).mono ?_; rintro e1 w1 ⟨rfl, hE1⟩; have hE01 := hEr.trans hE1) | (go_at_call 168; refine (hcP _ hE1).mono ?_; rintro e2 w2 ⟨rfl, hE2⟩; have hE12 := hE1.trans hE2) | (go_at_call 227; refine (hcR _ hE12).mono ?_; rintro e3 w3 ⟨rfl, c3, hB3, hS3', hC3, hF3, hb3, hb4⟩))
            go_roundw
            case rel => exact ⟨k + 1, c3, by omega, by omega, by go_num, by rw [Hn.out]; exact hB3, by rw [Hn.out]; exact hS3', hC3, HFw.out.trans ((hE12.fw _).trans hF3), by rw [Hn.out]; exact hb3, by rw [Hn.out]; exact hb4⟩
            case measure => (simp [intOf]; omega)
        · have hkl : k = ord l := by omega
          have Hn : Hid (fsI P (ord l) (f + 1) b n fr s = z) := Lib.hid (by rw [fsI_end hob.2, hz, hkl])
          clear hz
          go_wp2_with (go_at_call 108; refine (OrderOf_grp _ _ _ (HI.out _ hEr) Hgr).mono ?_; rintro e1 w1 ⟨rfl, hE1⟩; have hE01 := hEr.trans hE1)
          go_end0
          exact ⟨rfl, c', by rw [Hn.out]; exact HB.out.ext hE1, by rw [Hn.out]; exact HS.out.ext hE1, HC.out.ext hE1, HFw.out.trans (hE1.fw _), by rw [Hn.out]; exact hb1, by rw [Hn.out]; exact hb2⟩
end Go.Zz

/- Slices of slices that a call makes: their length alone is told. -/
namespace Go.Zz
open Go.RowKit Go.Proofs
set_option maxHeartbeats 1000000

theorem infoV : (Try.prog.info? 24).map (fun i => (i.zero, i.size, i.bytes)) = some (some (.slice none 0 0), 1, 24) := by kernel_rfl
theorem undV : Try.prog.underlying 88 = some (.slice 24) := by kernel_rfl
theorem elV : Try.prog.underlying 88 = some (.slice (Try.prog.elem 88)) := by kernel_rfl
theorem szV : ∀ w, (Go.sizeOf (Try.prog.elem 88)).run Try.prog w = .ok 1 w := fun w => by kernel_rfl
/-- v is a slice of n slices of the call's own -/
def OwnV (w0 w : World) (v : Value) (n : Nat) : Prop :=
  ∃ L : List Value, L.length = n ∧ (∀ u ∈ L, u.oneCell' = true) ∧ w.ownsRow w0.heap.size 24 1 v n L ∧ n ≤ 1000000
theorem OwnV.blk {w0 w : World} {v : Value} {n : Nat} (h : OwnV w0 w v n) : ∀ k, v.ownBlock = some k → w0.heap.size ≤ k ∧ k < w.heap.size := by
  obtain ⟨L, -, -, h, -⟩ := h; exact h.lt
theorem OwnV.ext {w0 w w' : World} {v : Value} {n : Nat} (h : OwnV w0 w v n) (hE : Ext w w') : OwnV w0 w' v n := by
  obtain ⟨L, h1, h2, h3, h4⟩ := h
  refine ⟨L, h1, h2, h3.kept (row := none) ⟨hE.os, hE.tape, hE.output, hE.size, fun k hk _ => hE.block k hk⟩ ?_, h4⟩
  cases hv : v.ownBlock <;> simp
theorem OwnV.mono {w0 w1 w : World} {v : Value} {n : Nat} (h : OwnV w1 w v n) (hE : Ext w0 w1) : OwnV w0 w v n := by
  obtain ⟨L, h1, h2, h3, h4⟩ := h
  exact ⟨L, h1, h2, ownsRow_mono h3 hE.size, h4⟩
theorem OwnV.le {w0 w : World} {v : Value} {n : Nat} (h : OwnV w0 w v n) : n ≤ 1000000 := by obtain ⟨_, _, _, _, h⟩ := h; exact h
theorem ownV_made {w0 w : World} (hE : Ext w0 w) : OwnV w0 (w.alloc (.cells #[] 24)) (.slice (some ⟨w.heap.size, 0, none⟩) 0 0) 0 := by
  have := World.ownsRow_lit (base := w0.heap.size) (e := 24) (size := 1) w #[] 0 hE.size (by unfold maxLen; omega) (by simp)
  exact ⟨[], rfl, by simp, by simpa using this, by omega⟩
theorem ownV_one {w0 w : World} (hE : Ext w0 w) (ao : Option Addr) (n c : Nat) : OwnV w0 (w.alloc (.cells #[.slice ao n c] 24)) (.slice (some ⟨w.heap.size, 0, none⟩) 1 1) 1 := by
  have := World.ownsRow_lit (base := w0.heap.size) (e := 24) (size := 1) w #[.slice ao n c] 1 hE.size (by unfold maxLen; omega) (by simp)
  exact ⟨[.slice ao n c], rfl, by simp [Value.oneCell'], by simpa using this, by omega⟩
theorem OwnV.shape {w0 w : World} {v : Value} {n : Nat} (h : OwnV w0 w v n) :
    ∃ (ao : Option Addr) (c : Nat), v = .slice ao n c ∧ n ≤ c ∧ (∀ i, i < n → ∃ g u, ao = some ⟨g, 0, none⟩ ∧ w.cell? ⟨g, i, none⟩ = some u) := by
  obtain ⟨L, hL, -, h1, -⟩ := h
  have h2 := h1.2
  rcases h2 with ⟨rfl, hl⟩ | ⟨g, cap, cur, rfl, hg, hh, hc, r⟩
  · exact ⟨none, 0, by rw [hl], by omega, by omega⟩
  · refine ⟨some ⟨g, 0, none⟩, cap, rfl, hc, fun i hi => ⟨g, L[i]'(by omega), rfl, ?_⟩⟩
    rw [World.ownsRow.cellAt h1 i (by omega)]
    simp [show i < L.length by omega]
/-- append of m cells that are there -/
theorem run_appendA (ty : TypeId) (w0 w : World) (v : Value) (n m c : Nat) (ad : Addr) (M : List Value) (hO : OwnV w0 w v n) (hM : M.length = m) (hM1 : ∀ u ∈ M, u.oneCell' = true) (hnews : ∀ j x, M[j]? = some x → w.cell? (ad.add j) = some x) (hE : Ext w0 w) (hn : n + m ≤ 1000000) :
    ∃ v' w', (Builtin.append_ #[88, 88] ty #[v, .slice (some ad) m c]).run Try.prog w = .ok v' w' ∧ OwnV w0 w' v' (n + m) ∧ w.grownBy w' v.ownBlock ∧ Nw v.ownBlock w v'.ownBlock ∧ Ext w0 w' := by
  obtain ⟨i, hi, hz, hs1, hby⟩ := info_parts infoV
  obtain ⟨L, hL, hL1, hL2, -⟩ := hO
  have hblk := hL2.lt
  have hLM : ∀ u ∈ L ++ M, u.oneCell' = true := fun u hu => by
    rw [List.mem_append] at hu
    rcases hu with hu | hu
    · exact hL1 u hu
    · exact hM1 u hu
  have h2 := hL2.2
  rcases h2 with ⟨rfl, hl⟩ | ⟨g, cap, cur, rfl, hg, hh, hnc, hcm, hcs, htk⟩
  · subst hl
    have hL' : L = [] := List.eq_nil_of_length_eq_zero hL
    subst hL'
    obtain ⟨v', w', hrun, r1, r2, -⟩ := run_append_own (P := Try.prog) w w.heap.size 88 ty 24 i (.slice none 0 0) 1 24 undV hi hz hs1 hby rfl (by omega) (.slice none 0 0) 0 [] (World.ownsRow_nil _ _ _ _) ad m c M (by omega) hnews hM1 (by unfold maxLen; omega) (by omega) (Nat.le_refl _)
    have r1' := r1.lt
    exact ⟨v', w', hrun, ⟨M, by omega, hM1, ownsRow_mono (by simpa using r1) hE.size, by omega⟩, r2, Or.inr fun k hk => (r1' k hk).1, hE.grown r2 fun k hk => by simp [Value.ownBlock] at hk⟩
  · by_cases hroom : n + m ≤ cap
    · obtain ⟨w', hrun, r1, r2⟩ := run_append_fits (P := Try.prog) w w0.heap.size 88 ty 24 i 1 undV hi hs1 g n cap _ hL2 ad m c M (by omega) hnews hM1 hroom
      exact ⟨_, w', hrun, ⟨L ++ M, by rw [List.length_append]; omega, hLM, r1, by omega⟩, r2, Or.inl rfl, hE.grown r2 fun k hk => by cases hk; exact hg⟩
    · obtain ⟨v', w', hrun, r1, r2⟩ := run_append_arg_grows (P := Try.prog) (w := w) 88 ty 24 i (.slice none 0 0) 1 24 undV hi hz hs1 hby rfl (by omega) ⟨g, 0, none⟩ n cap L (by omega) (by
        intro j u hu
        have hj : j < L.length := (List.getElem?_eq_some_iff.1 hu).1
        rw [Addr.add_lit, Nat.zero_add, World.ownsRow.cellAt hL2 j (by omega)]
        exact hu) ad m c M (by omega) hnews (by omega) (by unfold maxLen; omega) (by omega)
      have r1' := r1.lt
      exact ⟨v', w', hrun, ⟨L ++ M, by rw [List.length_append]; omega, hLM, ownsRow_mono r1 hE.size, by omega⟩, ⟨r2.os, r2.tape, r2.output, r2.size, fun k hk _ => r2.block k hk (by simp)⟩, Or.inr fun k hk => (r1' k hk).1, hE.grown r2 (by simp)⟩
/-- append(s, t...) -/
theorem run_appendsV (ty : TypeId) (w0 w1 w : World) (v u : Value) (n m : Nat) (hO : OwnV w0 w v n) (hI : OwnV w1 w u m) (hE : Ext w0 w) (hn : n + m ≤ 1000000) :
    ∃ v' w', (Builtin.append_ #[88, 88] ty #[v, u]).run Try.prog w = .ok v' w' ∧ OwnV w0 w' v' (n + m) ∧ w.grownBy w' v.ownBlock ∧ Nw v.ownBlock w v'.ownBlock ∧ Ext w0 w' := by
  have hO' := hO
  obtain ⟨i, hi, hz, hs1, hby⟩ := info_parts infoV
  obtain ⟨L, hL, -, hL2, -⟩ := hO
  obtain ⟨M, hM, hM1, hM2, -⟩ := hI
  have hM3 := hM2.2
  rcases hM3 with ⟨rfl, hl⟩ | ⟨g, cap, cur, rfl, hg, hh, hc, r⟩
  · subst hl
    have hrun := run_append_owned_none (P := Try.prog) w w0.heap.size 88 ty 24 i 1 undV hi v n L hL2
    exact ⟨v, w, hrun, hO', ⟨rfl, rfl, rfl, Nat.le_refl _, fun _ _ _ => rfl⟩, Or.inl rfl, hE⟩
  · exact run_appendA ty w0 w v n m cap ⟨g, 0, none⟩ M hO' hM hM1 (fun j x hx => by
      have hj : j < M.length := (List.getElem?_eq_some_iff.1 hx).1
      rw [Addr.add_lit, Nat.zero_add, World.ownsRow.cellAt hM2 j (by omega)]; exact hx) hE hn
section
variable {ops : Array Oper} {rest : List Oper} {o : Oper} {a : Act} {Q : Exit → Act → World → Prop}
theorem step_appendsV {K : Act → World → Prop} {E : Prop} {w : World} (hg : o.guard = none) (s x : Operand) (hop : o.op = Op.call { callee := Callee.builtin Builtin.append, args := #[s, x], argTypes := #[88, 88] })
    (w0 w1 : World) (v u : Value) (n m : Nat) (hO : OwnV w0 w v n) (hI : OwnV w1 w u m) (hE : Ext w0 w) (hn : n + m ≤ 1000000) (hs : a.eval s = v) (hx : a.eval x = u)
    (hK : ∀ v' w', OwnV w0 w' v' (n + m) → Ext w0 w' → K (a.put o.dst v') w') :
    if Region.wanted o (yielded ops a.tmps) = true then Oper.wp Try.prog o a w K Q else E := by
  have hw : Region.wanted o (yielded ops a.tmps) = true := by simp [Region.wanted, hg]
  rw [if_pos hw]
  obtain ⟨v', w', hrun, h1, -, -, h2⟩ := run_appendsV o.type w0 w1 w v u n m hO hI hE hn
  unfold Oper.wp
  simp [execOp, hop, resolve, invoke, builtin, hs, hx, hrun, Result.andThen]
  exact hK v' w' h1 h2
theorem wp_appendsV (hg : o.guard = none) (s x : Operand) (hop : o.op = Op.call { callee := Callee.builtin Builtin.append, args := #[s, x], argTypes := #[88, 88] })
    (w0 w1 w : World) (v u : Value) (n m : Nat) (hO : OwnV w0 w v n) (hI : OwnV w1 w u m) (hE : Ext w0 w) (hn : n + m ≤ 1000000) (hs : a.eval s = v) (hx : a.eval x = u)
    (hK : ∀ v' w', OwnV w0 w' v' (n + m) → Ext w0 w' → wpList Try.prog ops Q rest (a.put o.dst v') w') :
    wpList Try.prog ops Q (o :: rest) a w := by
  obtain ⟨v', w', hrun, h1, -, -, h2⟩ := run_appendsV o.type w0 w1 w v u n m hO hI hE hn
  refine wpList_plain hg fun K hK' => ?_
  unfold Oper.wp
  simp [execOp, hop, resolve, invoke, builtin, hs, hx, hrun, Result.andThen]
  exact hK' _ _ (hK v' w' h1 h2)
/-- append(s, y) -/
theorem wp_append1V (hg : o.guard = none) (s x : Operand) (hop : o.op = Op.call { callee := Callee.builtin Builtin.append, args := #[s, x], argTypes := #[88, 88] })
    (w0 W : World) (v : Value) (n : Nat) (ao : Option Addr) (k c : Nat) (hO : OwnV w0 W v n) (hE : Ext w0 W) (hn : n < 1000000) (hs : a.eval s = v) (hx : a.eval x = .slice (some ⟨W.heap.size, 0, none⟩) 1 1)
    (hK : ∀ v' w', OwnV w0 w' v' (n + 1) → W.grownBy w' v.ownBlock → Nw v.ownBlock W v'.ownBlock → wpList Try.prog ops Q rest (a.put o.dst v') w') :
    wpList Try.prog ops Q (o :: rest) a (W.alloc (.cells #[.slice ao k c] 24)) := by
  have e : Ext W (W.alloc (.cells #[.slice ao k c] 24)) := (Ext.refl W).alloc _
  obtain ⟨v', w', hrun, h1, h2, h3, -⟩ := run_appendA o.type w0 (W.alloc (.cells #[.slice ao k c] 24)) v n 1 1 ⟨W.heap.size, 0, none⟩ [.slice ao k c] (hO.ext e) rfl (by simp [Value.oneCell']) (cell_one_new _ _ _) (hE.alloc _) (by omega)
  refine wpList_plain hg fun K hK' => ?_
  unfold Oper.wp
  simp [execOp, hop, resolve, invoke, builtin, hs, hx, hrun, Result.andThen]
  refine hK' _ _ (hK v' w' h1 ⟨h2.os.trans e.os, h2.tape.trans e.tape, h2.output.trans e.output, Nat.le_trans e.size h2.size, fun k hk hne => ?_⟩ ?_)
  · rw [h2.block k (Nat.lt_of_lt_of_le hk e.size) hne]; exact e.block k hk
  · rcases h3 with h3 | h3
    · exact Or.inl h3
    · exact Or.inr fun k hk => Nat.le_trans e.size (h3 k hk)
/-- append(s, y), as a step of a region that draws -/
theorem step_append1V {K : Act → World → Prop} {E : Prop} {w : World} (hg : o.guard = none) (s x : Operand) (hop : o.op = Op.call { callee := Callee.builtin Builtin.append, args := #[s, x], argTypes := #[88, 88] })
    (w0 : World) (v : Value) (n g : Nat) (ao : Option Addr) (k c : Nat) (hs : a.eval s = v) (hx : a.eval x = .slice (some ⟨g, 0, none⟩) 1 1) (hB : Blk w g 24 #[.slice ao k c]) (hO : OwnV w0 w v n) (hE : Ext w0 w) (hn : n < 1000000)
    (hK : ∀ v' w', OwnV w0 w' v' (n + 1) → w.grownBy w' v.ownBlock → Nw v.ownBlock w v'.ownBlock → K (a.put o.dst v') w') :
    if Region.wanted o (yielded ops a.tmps) = true then Oper.wp Try.prog o a w K Q else E := by
  have hw : Region.wanted o (yielded ops a.tmps) = true := by simp [Region.wanted, hg]
  rw [if_pos hw]
  obtain ⟨v', w', hrun, h1, h2, h3, -⟩ := run_appendA o.type w0 w v n 1 1 ⟨g, 0, none⟩ [.slice ao k c] hO rfl (by simp [Value.oneCell']) (fun j u hu => by
    have hj : j < 1 := by have := (List.getElem?_eq_some_iff.1 hu).1; simpa using this
    have e0 : j = 0 := by omega
    subst e0
    rw [Addr.add_lit, Nat.zero_add]
    exact hB.cell (i := 0) (by simpa using hu)) hE (by omega)
  unfold Oper.wp
  simp [execOp, hop, resolve, invoke, builtin, hs, hx, hrun, Result.andThen]
  exact hK v' w' h1 h2 h3
end
end Go.Zz

/- Solutions of an equation: the program's closure try. -/
namespace Go.Zz
open Go.RowKit Go.Proofs
set_option maxHeartbeats 2000000
set_option maxRecDepth 8000

/-- the row of m numbers, of which the first are those of X -/
def RowX (bR m : Nat) (X : List Nat) (w : World) : Prop := ∃ Z : List Int, Z.length = m ∧ Z.take X.length = castL X ∧ Blk w bR 3 (Z.map (Value.int .i64)).toArray
theorem RowX.ext {bR m : Nat} {X : List Nat} {w w' : World} (h : RowX bR m X w) (hE : Ext w w') : RowX bR m X w' := by
  obtain ⟨Z, h1, h2, h3⟩ := h; exact ⟨Z, h1, h2, h3.ext hE⟩
theorem RowX.free {bR m : Nat} {X : List Nat} {w : World} (h : RowX bR m X w) (i : Nat) : w.frozen? ⟨bR, i, none⟩ = false := by
  obtain ⟨Z, h1, h2, h3⟩ := h; exact h3.free i
theorem RowX.has {bR m : Nat} {X : List Nat} {w : World} (h : RowX bR m X w) {i : Nat} (hi : i < m) : ∃ v, w.cell? ⟨bR, i, none⟩ = some v := by
  obtain ⟨Z, h1, h2, h3⟩ := h; exact ⟨.int .i64 (nth Z i), h3.cell (i := i) (by simp [nth, List.getD, show i < Z.length by omega])⟩
theorem RowX.set {bR m : Nat} {X : List Nat} {w : World} (h : RowX bR m X w) (hX : X.length < m) (y : Nat) : RowX bR m (X ++ [y]) (w.setCell ⟨bR, X.length, none⟩ (.int .i64 (y : Int))) := by
  obtain ⟨Z, h1, h2, h3⟩ := h
  refine ⟨Z.set X.length (y : Int), by simpa using h1, ?_, ?_⟩
  · rw [List.length_append, List.length_singleton, castL_snoc, ← h2, List.take_succ_eq_append_getElem (by simp; omega)]
    simp [List.take_set_of_le]
  · have := h3.set X.length (.int .i64 (y : Int))
    simpa [List.map_set] using this
theorem RowX.back {bR m : Nat} {X : List Nat} {w : World} {y : Nat} (h : RowX bR m (X ++ [y]) w) : RowX bR m X w := by
  obtain ⟨Z, h1, h2, h3⟩ := h
  refine ⟨Z, h1, ?_, h3⟩
  have := congrArg (List.take X.length) h2
  rw [List.take_take, castL_snoc] at this
  simp at this
  rw [this]
  have e : (castL X).length = X.length := castL_len X
  rw [← e]; simp
theorem RowX.ints {bR m : Nat} {X : List Nat} {w : World} (h : RowX bR m X w) (hX : X.length = m) (hm : m ≤ 1000) : Ints w (.slice (some ⟨bR, 0, none⟩) m m) (castL X) := by
  obtain ⟨Z, h1, h2, h3⟩ := h
  have hZ : Z = castL X := by rw [← h2, List.take_of_length_le (by omega)]
  subst hZ
  refine ⟨_, m, by rw [h1], by omega, by omega, fun i hi => ⟨_, rfl, ?_⟩⟩
  rw [Addr.add_lit, Nat.zero_add]
  exact h3.cell (i := i) (by simp [nth, List.getD, hi])
theorem solTryA (c : List Int) (n : Nat) (hc : Hid (eqB c = true)) (hn : n ≤ 12) (bC bK bX bN bT bR : Nat) (aoC : Option Addr) (cC : Nat) (p1 p2 : Value) (K : Nat)
    (St : Nat → World → Prop) (Fin : World → Prop) (stop : List Nat → Bool)
    (hS : ∀ k w, St k w → w.cell? ⟨bC, 0, none⟩ = some (.slice aoC c.length cC) ∧ w.cell? ⟨bK, 0, none⟩ = some (.func (.func 219) #[] #[p1]) ∧ w.cell? ⟨bX, 0, none⟩ = some (.slice (some ⟨bR, 0, none⟩) c.length c.length) ∧ w.cell? ⟨bN, 0, none⟩ = some (.int .i64 n) ∧ w.cell? ⟨bT, 0, none⟩ = some (.func (.func 253) #[] #[.pointer (some ⟨bC, 0, none⟩), .pointer (some ⟨bK, 0, none⟩), .pointer (some ⟨bX, 0, none⟩), .pointer (some ⟨bN, 0, none⟩), .pointer (some ⟨bT, 0, none⟩)]) ∧ Ints w (.slice aoC c.length cC) c)
    (hset : ∀ k w i v, St k w → St k (w.setCell ⟨bR, i, none⟩ v)) (hext : ∀ k w W, St k w → Ext w W → St k W)
    (hTake : ∀ k w X, k < K → St k w → RowX bR c.length X w → X.length = c.length → (∀ x ∈ X, 1 ≤ x ∧ x ≤ n) → Calls Try.prog 219 #[.slice (some ⟨bR, 0, none⟩) c.length c.length, p1] w fun e w' => e = .returned (.bool (stop X)) ∧ RowX bR c.length X w' ∧ (stop X = false → St (k + 1) w') ∧ (stop X = true → Fin w')) :
    ∀ r X k w, X.length + r = c.length → (∀ x ∈ X, 1 ≤ x ∧ x ≤ n) → k + cntF c n [] r X ≤ K → St k w → RowX bR c.length X w →
    Calls Try.prog 253 #[.int .i64 X.length, .int .i64 (dotL c X), .pointer (some ⟨bC, 0, none⟩), .pointer (some ⟨bK, 0, none⟩), .pointer (some ⟨bX, 0, none⟩), .pointer (some ⟨bN, 0, none⟩), .pointer (some ⟨bT, 0, none⟩)] w fun e w' =>
      e = .returned (.bool (anyF stop c n r X)) ∧ RowX bR c.length X w' ∧ (anyF stop c n r X = false → St (k + cntF c n [] r X) w') ∧ (anyF stop c n r X = true → Fin w') := by
  have h4 := (eqB_yes hc.out).2.1
  intro r
  induction r with
  | zero =>
    intro X k w hr hX hkK hst hrow
    obtain ⟨k1, k2, k3, k4, k5, -⟩ := hS k w hst
    have hq : (((X.length : Nat) : Int) == ((c.length : Nat) : Int)) = true := by rw [beq_iff_eq]; omega
    by_cases hd : dotL c X = 0
    · have hA : Hid (anyF stop c n 0 X = stop X) := Lib.hid (by rw [anyF_leaf, decide_eq_true hd, Bool.true_and])
      have hN : Hid (cntF c n [] 0 X = 1) := Lib.hid (cntF_yes hd)
      have cT := hTake k w X (by rw [hN.out] at hkK; omega) hst hrow (by omega) hX
      rw [hd]
      clear hd hTake
      go_enter Try.func253, Try.ntmps253
      go_wp2_with (go_at_call 219; refine cT.mono ?_; rintro e w1 ⟨rfl, hR1, hF1, hG1⟩)
      go_ret
      exact ⟨ret_bool hA.out.symm, hR1, by rw [hA.out, hN.out]; exact hF1, by rw [hA.out]; exact hG1⟩
    · have hA : Hid (anyF stop c n 0 X = false) := Lib.hid (by rw [anyF_leaf, decide_eq_false hd, Bool.false_and])
      have hN : Hid (cntF c n [] 0 X = 0) := Lib.hid (cntF_no hd)
      have hdq : (dotL c X == 0) = false := by rw [beq_eq_false_iff_ne]; exact hd
      clear hd hTake
      go_enter Try.func253, Try.ntmps253
      go_wp2_with fail
      go_ret
      exact ⟨ret_bool hA.out.symm, hrow, fun _ => by rw [hN.out]; exact hst, fun e => by rw [hA.out] at e; cases e⟩
  | succ r ih =>
    intro X k w hr hX hkK hst hrow
    have HkK := Lib.hid hkK
    clear hkK
    have Hih := Lib.hid ih
    clear ih hTake
    have hlt : X.length < c.length := by omega
    obtain ⟨k1, k2, k3, k4, k5, -⟩ := hS k w hst
    have hq : (((X.length : Nat) : Int) == ((c.length : Nat) : Int)) = false := by rw [beq_eq_false_iff_ne]; omega
    have hX12 : ∀ x ∈ X, x ≤ 12 := fun x hx => by have := hX x hx; omega
    have hdb := dotTo_bd hc.out hX12 X.length (Nat.le_refl _)
    have hD4 : -432 ≤ dotL c X ∧ dotL c X ≤ 432 := by unfold dotL; omega
    have Hsn := Lib.hid (fun y => dotL_snoc c X y)
    obtain ⟨D, hDd⟩ : ∃ D, D = dotL c X := ⟨_, rfl⟩
    rw [← hDd] at hD4 Hsn
    rw [← hDd]
    have hY := cof_bd hc.out X.length
    obtain ⟨Y, hYd⟩ : ∃ Y, Y = nth c X.length := ⟨_, rfl⟩
    rw [← hYd] at hY Hsn
    have HYd := Lib.hid hYd
    clear hDd hYd hdb
    have hixR : ∀ W, (Instr.indexAt 24 (.slice (some ⟨bR, 0, none⟩) c.length c.length) (.int .i64 ((X.length : Nat) : Int))).run Try.prog W = .ok (.pointer (some ⟨bR, X.length, none⟩)) W := fun W => by
      rw [run_indexAt_slice (h := elI), if_pos (by omega), szI]
      simp [Result.andThen, Addr.add_lit]
    have HS := Lib.hid hS
    have HR := Lib.hid hrow
    have HT := Lib.hid hst
    clear hS hrow hst
    go_enter Try.func253, Try.ntmps253
    go_wp2_with fail
    clear k1 k2 k3 k4 k5
    go_loopw [10] (fun sq wr => ∃ q : Nat, 1 ≤ q ∧ q ≤ n + 1 ∧ sq = .int .i64 q ∧ RowX bR c.length X wr ∧ St (k + cntK c n [] r X (q - 1)) wr ∧ Hid (∀ j, j + 1 < q → anyF stop c n r (X ++ [j + 1]) = false)) (fun sq _ => n + 1 - (intOf sq).toNat)
    case atStart => exact ⟨1, by omega, by omega, rfl, HR.out, HT.out, Lib.hid (by omega)⟩
    case round =>
      clear HR HT
      rename World => wr
      obtain ⟨q, hq1, hq2, rfl, hrow, hst, HN⟩ := hrel
      obtain ⟨k1, k2, k3, k4, k5, hI⟩ := HS.out _ _ hst
      by_cases hle : q ≤ n
      · have hleI : (q : Int) ≤ (n : Int) := by omega
        obtain ⟨vz, kz⟩ := hrow.has hlt
        have hfz := hrow.free X.length
        have hrow1 := hrow.set hlt q
        have hst1 := hset _ _ X.length (.int .i64 (q : Int)) hst
        obtain ⟨m1, m2, m3, m4, m5, hI1⟩ := HS.out _ _ hst1
        obtain ⟨w1, hw1⟩ : ∃ w1, w1 = wr.setCell ⟨bR, X.length, none⟩ (.int .i64 (q : Int)) := ⟨_, rfl⟩
        rw [← hw1] at hrow1 hst1 m1 m2 m3 m4 m5 hI1
        obtain ⟨aoI, cI, adr, hvI, -, hadr, hcell⟩ := hI1.op
        simp only [Value.slice.injEq] at hvI
        obtain ⟨rfl, -, rfl⟩ := hvI
        have hixC := ints_index (c := cC) elI szI hadr X.length
        have hckC := fun W (hW : Ext w1 W) => hcell X.length W hlt hW
        rw [← HYd.out] at hckC
        have hmb := mul_bd (a := Y) (y := q) (by omega) (by omega) (by omega)
        have hcm : Y * (q : Int) = (q : Int) * Y := Int.mul_comm _ _
        rw [hcm] at hmb
        have hwm : IntKind.i64.wrap ((q : Int) * Y) = (q : Int) * Y := IntWalk.i64_in _ (by omega)
        have hws : IntKind.i64.wrap (D + (q : Int) * Y) = D + (q : Int) * Y := IntWalk.i64_in _ (by omega)
        have hsn : dotL c (X ++ [q]) = D + (q : Int) * Y := by rw [Hsn.out, hcm]
        have hwl : IntKind.i64.wrap (((X.length : Nat) : Int) + 1) = ((X.length : Nat) : Int) + 1 := IntWalk.i64_in _ (by omega)
        have HKy : Hid (cntK c n [] r X q = cntK c n [] r X (q - 1) + cntF c n [] r (X ++ [q])) := Lib.hid (by
          have := cntK_yes (c := c) (n := n) (cs := []) (r := r) (X := X) (k := q - 1) rfl
          rw [show q - 1 + 1 = q by omega] at this; exact this)
        have HKq : k + cntK c n [] r X (q - 1) + cntF c n [] r (X ++ [q]) ≤ K := by
          have h1 := HkK.out
          rw [cntF_all] at h1
          have h2 := cntK_mono c n [] r X q (n - q)
          rw [show q + (n - q) = n by omega] at h2
          have h3 := HKy.out
          omega
        have cR := fun W (hW : Ext w1 W) => Hih.out (X ++ [q]) _ W (by rw [List.length_append, List.length_singleton]; omega) (fun x hx => by
          rw [List.mem_append, List.mem_singleton] at hx
          rcases hx with hx | rfl
          · exact hX x hx
          · exact ⟨hq1, hle⟩) HKq (hext _ _ _ hst1 hW) (hrow1.ext hW)
        rw [hsn] at cR
        rw [show (((X ++ [q]).length : Nat) : Int) = ((X.length : Nat) : Int) + 1 by rw [List.length_append, List.length_singleton]; omega] at cR
        obtain ⟨S, hSd⟩ : ∃ S, S = k + cntK c n [] r X (q - 1) := ⟨_, rfl⟩
        rw [← hSd] at cR
        have HSd := Lib.hid hSd
        clear hSd hsn hcm hadr hcell hI hI1 hrow hst 
        have Hw1 := Lib.hid hw1
        have hck1 := hckC w1 (Ext.refl _)
        clear hw1 hckC
        cases hAq : anyF stop c n r (X ++ [q])
        · rw [hAq] at cR
          have HAq := Lib.hid hAq
          clear hAq
          go_wp2_with fail
          rw [← Hw1.out]
          go_still_tail 11, (by kernel_rfl)
          change wpList _ _ _ _ _ (World.drew _)
          go_wp2_with (go_at_call 253; refine (cR _ ((Ext.refl w1).drew)).mono ?_; rintro e w2 ⟨rfl, hR2, hF2, hG2⟩; replace hF2 := hF2 (by trivial); clear hG2)
          have hst2 := hF2
          go_roundw
          case rel => exact ⟨q + 1, by omega, by omega, by go_num, hR2.back, by rw [show q + 1 - 1 = q by omega, HKy.out, ← Nat.add_assoc, ← HSd.out]; exact hst2, Lib.hid fun j hj => by by_cases e : j + 1 = q; (rw [e]; exact HAq.out); exact HN.out j (by omega)⟩
          case measure => (simp [intOf]; omega)
        · rw [hAq] at cR
          have HA : Hid (anyF stop c n (r + 1) X = true) := Lib.hid (anyF_hit (k := q - 1) (by omega) (by rw [show q - 1 + 1 = q by omega]; exact hAq))
          clear hAq
          go_wp2_with fail
          rw [← Hw1.out]
          go_still_tail 11, (by kernel_rfl)
          change wpList _ _ _ _ _ (World.drew _)
          go_wp2_with (go_at_call 253; refine (cR _ ((Ext.refl w1).drew)).mono ?_; rintro e w2 ⟨rfl, hR2, hF2, hG2⟩; replace hG2 := hG2 (by trivial); clear hF2)
          go_ret
          exact ⟨ret_bool HA.out.symm, hR2.back, (fun e => by rw [HA.out] at e; cases e), fun _ => hG2⟩
      · have hqn : q = n + 1 := by omega
        have hA : Hid (anyF stop c n (r + 1) X = false) := Lib.hid (anyF_none fun j hj => HN.out j (by omega))
        have hC : Hid (cntF c n [] (r + 1) X = cntK c n [] r X (q - 1)) := Lib.hid (by rw [cntF_all, hqn]; rfl)
        have hleI : ¬ (q : Int) ≤ (n : Int) := by omega
        go_wp2_with fail
        go_ret
        exact ⟨ret_bool hA.out.symm, hrow, fun _ => by rw [hC.out]; exact hst, fun e => by rw [hA.out] at e; cases e⟩
end Go.Zz
