/- Plain facts on the search for a first largest set with a property that parts keep; cliques. No program is named here. -/
import Derived.Test.YtgjomoedgmofbaaPh
namespace Go.Zz
set_option linter.unusedVariables false

/-- the elements from fr on by which b may grow -/
def kidN (P : Nat → Bool) (N b fr : Nat) : Nat := bset ((List.range N).filter (fun x => decide (fr ≤ x) && P (b ||| 2 ^ x)))
theorem kidN_bit {P : Nat → Bool} {N b fr i : Nat} : (kidN P N b fr).testBit i = (decide (i < N) && (decide (fr ≤ i) && P (b ||| 2 ^ i))) := by
  unfold kidN; rw [testBit_bset, Bool.eq_iff_iff]; simp [List.mem_filter]
theorem kidN_lt (P : Nat → Bool) (N b fr : Nat) : kidN P N b fr < 2 ^ N := bset_lt fun _ hx => List.mem_range.1 (List.mem_filter.1 hx).1
def fsS (P : Nat → Bool) (N : Nat) : Nat → Nat → Nat → Nat
  | 0, b, _ => b
  | f + 1, b, fr => (elems (kidN P N b fr)).foldl (fun (best x : Nat) => if cnt best < cnt (fsS P N f (b ||| 2 ^ x) (x + 1)) then fsS P N f (b ||| 2 ^ x) (x + 1) else best) b
def fsSto (P : Nat → Bool) (N f b fr k : Nat) : Nat := ((elems (kidN P N b fr)).take k).foldl (fun (best x : Nat) => if cnt best < cnt (fsS P N f (b ||| 2 ^ x) (x + 1)) then fsS P N f (b ||| 2 ^ x) (x + 1) else best) b
theorem fsS_end (P : Nat → Bool) (N f b fr : Nat) : fsS P N (f + 1) b fr = fsSto P N f b fr (elems (kidN P N b fr)).length := by unfold fsSto; rw [List.take_length]; rfl
theorem fsSto_zero (P : Nat → Bool) (N f b fr : Nat) : fsSto P N f b fr 0 = b := rfl
theorem fsSto_more {P : Nat → Bool} {N f b fr k : Nat} (hk : k < (elems (kidN P N b fr)).length) (h : cnt (fsSto P N f b fr k) < cnt (fsS P N f (b ||| 2 ^ nthN (elems (kidN P N b fr)) k) (nthN (elems (kidN P N b fr)) k + 1))) :
    fsSto P N f b fr (k + 1) = fsS P N f (b ||| 2 ^ nthN (elems (kidN P N b fr)) k) (nthN (elems (kidN P N b fr)) k + 1) := by
  unfold fsSto at h ⊢; rw [take_nthN _ _ hk, List.foldl_append]; simp only [List.foldl_cons, List.foldl_nil]; rw [if_pos h]
theorem fsSto_less {P : Nat → Bool} {N f b fr k : Nat} (hk : k < (elems (kidN P N b fr)).length) (h : ¬ cnt (fsSto P N f b fr k) < cnt (fsS P N f (b ||| 2 ^ nthN (elems (kidN P N b fr)) k) (nthN (elems (kidN P N b fr)) k + 1))) :
    fsSto P N f b fr (k + 1) = fsSto P N f b fr k := by
  unfold fsSto at h ⊢; rw [take_nthN _ _ hk, List.foldl_append]; simp only [List.foldl_cons, List.foldl_nil]; rw [if_neg h]
/-- the same with the best one so far and its size -/
def fsI (P : Nat → Bool) (N : Nat) : Nat → Nat → Nat → Nat → Nat × Int → Nat × Int
  | 0, b, n, _, s => if s.2 < n then (b, n) else s
  | f + 1, b, n, fr, s => (elems (kidN P N b fr)).foldl (fun (s : Nat × Int) (x : Nat) => fsI P N f (b ||| 2 ^ x) (n + 1) (x + 1) s) (if s.2 < n then (b, n) else s)
/-- after the elements below k -/
def fsIto (P : Nat → Bool) (N f b n fr : Nat) (s : Nat × Int) (k : Nat) : Nat × Int := (elemsTo (kidN P N b fr) k).foldl (fun (s : Nat × Int) (x : Nat) => fsI P N f (b ||| 2 ^ x) (n + 1) (x + 1) s) (if s.2 < n then (b, n) else s)
theorem fsI_end {P : Nat → Bool} {N : Nat} (hN : N ≤ 24) (f b n fr : Nat) (s : Nat × Int) : fsI P N (f + 1) b n fr s = fsIto P N f b n fr s N := by
  unfold fsIto; rw [elemsTo_all hN (kidN_lt P N b fr)]; rfl
theorem elemsTo_nil0 {a k : Nat} (h : ∀ i, i < k → a.testBit i = false) : elemsTo a k = [] := by
  unfold elemsTo; rw [List.filter_eq_nil_iff]; intro i hi; rw [h i (List.mem_range.1 hi)]; simp
theorem fsIto_start {P : Nat → Bool} {N f b n fr : Nat} {s : Nat × Int} : fsIto P N f b n fr s fr = if s.2 < n then (b, (n : Int)) else s := by
  unfold fsIto; rw [elemsTo_nil0 fun i hi => by rw [kidN_bit]; simp; intro _ h; omega]; rfl
theorem fsIto_yes {P : Nat → Bool} {N f b n fr k : Nat} {s : Nat × Int} (h1 : k < N) (h2 : fr ≤ k) (h : P (b ||| 2 ^ k) = true) : fsIto P N f b n fr s (k + 1) = fsI P N f (b ||| 2 ^ k) (n + 1) (k + 1) (fsIto P N f b n fr s k) := by
  unfold fsIto; rw [elemsTo_succ, show (kidN P N b fr).testBit k = true by rw [kidN_bit, h]; simp [h1, h2], if_pos rfl, List.foldl_append]; rfl
theorem fsIto_no {P : Nat → Bool} {N f b n fr k : Nat} {s : Nat × Int} (h : P (b ||| 2 ^ k) = false) : fsIto P N f b n fr s (k + 1) = fsIto P N f b n fr s k := by
  unfold fsIto; rw [elemsTo_succ, show (kidN P N b fr).testBit k = false by rw [kidN_bit, h]; simp]; simp
theorem bit_two (x i : Nat) : (2 ^ x).testBit i = decide (x = i) := Nat.testBit_two_pow
theorem cnt_or_new {b x : Nat} (hb : b < 2 ^ 24) (hx : x < 24) (h : b.testBit x = false) : cnt (b ||| 2 ^ x) = cnt b + 1 := by
  have h1 := cnt_sub (Sub.or_left b (2 ^ x))
  have e : andN (b ||| 2 ^ x) b = 2 ^ x := Nat.eq_of_testBit_eq fun i => by
    rw [andN_bit, Nat.testBit_or, bit_two]
    by_cases hi : x = i
    · subst hi; simp [h]
    · simp [hi]
  rw [e] at h1
  have h2 : elems (2 ^ x) = (List.range 24).filter (fun i => decide (x = i)) := by unfold elems; congr 1; funext i; exact bit_two x i
  have h3 : cnt (2 ^ x) = 1 := by
    unfold cnt; rw [h2]
    have : ∀ n, x < n → ((List.range n).filter (fun i => decide (x = i))).length = 1 := by
      intro n
      induction n with
      | zero => omega
      | succ n ih =>
        intro hn
        rw [List.range_succ, List.filter_append, List.length_append]
        by_cases hxn : x = n
        · subst hxn
          have : (List.range x).filter (fun i => decide (x = i)) = [] := by rw [List.filter_eq_nil_iff]; intro i hi; have := List.mem_range.1 hi; simp; omega
          rw [this]; simp
        · rw [ih (by omega)]; simp [hxn]
    exact this 24 hx
  omega
/-- both searches find the same -/
theorem fsI_eq (P : Nat → Bool) (N : Nat) (hN : N ≤ 24) : ∀ (f b fr : Nat) (s : Nat × Int), b < 2 ^ fr → fr ≤ N → fsI P N f b (cnt b) fr s = if s.2 < cnt (fsS P N f b fr) then (fsS P N f b fr, (cnt (fsS P N f b fr) : Int)) else s := by
  intro f
  induction f with
  | zero => intro b fr s _ _; rfl
  | succ f ih =>
    intro b fr s hb hfr
    unfold fsI fsS
    have key : ∀ (L : List Nat), (∀ x ∈ L, fr ≤ x ∧ x < N) → ∀ r, (L.foldl (fun (s : Nat × Int) (x : Nat) => fsI P N f (b ||| 2 ^ x) (cnt b + 1) (x + 1) s) (if s.2 < cnt r then (r, (cnt r : Int)) else s)) =
        (if s.2 < cnt (L.foldl (fun (best x : Nat) => if cnt best < cnt (fsS P N f (b ||| 2 ^ x) (x + 1)) then fsS P N f (b ||| 2 ^ x) (x + 1) else best) r) then (L.foldl (fun (best x : Nat) => if cnt best < cnt (fsS P N f (b ||| 2 ^ x) (x + 1)) then fsS P N f (b ||| 2 ^ x) (x + 1) else best) r, (cnt (L.foldl (fun (best x : Nat) => if cnt best < cnt (fsS P N f (b ||| 2 ^ x) (x + 1)) then fsS P N f (b ||| 2 ^ x) (x + 1) else best) r) : Int)) else s) := by
      intro L
      induction L with
      | nil => intro _ r; rfl
      | cons x L ih2 =>
        intro hL r
        obtain ⟨hx1, hx2⟩ := hL x (by simp)
        have hbx : b.testBit x = false := testBit_ge hb hx1
        have hb24 : b < 2 ^ 24 := Nat.lt_of_lt_of_le hb (Nat.pow_le_pow_right (by omega) (by omega))
        have hc := cnt_or_new hb24 (show x < 24 by omega) hbx
        have hb2 : b ||| 2 ^ x < 2 ^ (x + 1) := Nat.or_lt_two_pow (Nat.lt_of_lt_of_le hb (Nat.pow_le_pow_right (by omega) (by omega))) (Nat.pow_lt_pow_right (by omega) (by omega))
        simp only [List.foldl_cons]
        have e := fun s => ih (b ||| 2 ^ x) (x + 1) s hb2 (by omega)
        rw [hc] at e
        have e2 : fsI P N f (b ||| 2 ^ x) (cnt b + 1) (x + 1) (if s.2 < cnt r then (r, (cnt r : Int)) else s) =
            (if s.2 < cnt (if cnt r < cnt (fsS P N f (b ||| 2 ^ x) (x + 1)) then fsS P N f (b ||| 2 ^ x) (x + 1) else r) then ((if cnt r < cnt (fsS P N f (b ||| 2 ^ x) (x + 1)) then fsS P N f (b ||| 2 ^ x) (x + 1) else r), (cnt (if cnt r < cnt (fsS P N f (b ||| 2 ^ x) (x + 1)) then fsS P N f (b ||| 2 ^ x) (x + 1) else r) : Int)) else s) := by
          rw [e]
          generalize fsS P N f (b ||| 2 ^ x) (x + 1) = y
          by_cases h1 : s.2 < cnt r <;> by_cases h2 : cnt r < cnt y <;> by_cases h3 : s.2 < cnt y <;> simp [h1, h2, h3] <;> omega
        rw [e2]
        exact ih2 (fun y hy => hL y (by simp [hy])) _
    refine key _ (fun x hx => ?_) b
    have := (mem_elems.1 hx).2
    rw [kidN_bit] at this
    simp at this; omega

theorem fsS_lt (P : Nat → Bool) (N : Nat) (hN : N ≤ 24) : ∀ (f b fr : Nat), b < 2 ^ 24 → fsS P N f b fr < 2 ^ 24 := by
  intro f
  induction f with
  | zero => intro b fr h; exact h
  | succ f ih =>
    intro b fr h
    unfold fsS
    have key : ∀ (L : List Nat), (∀ x ∈ L, x < 24) → ∀ r, r < 2 ^ 24 → L.foldl (fun (best x : Nat) => if cnt best < cnt (fsS P N f (b ||| 2 ^ x) (x + 1)) then fsS P N f (b ||| 2 ^ x) (x + 1) else best) r < 2 ^ 24 := by
      intro L
      induction L with
      | nil => intro _ r hr; exact hr
      | cons x L ih2 =>
        intro hL r hr
        simp only [List.foldl_cons]
        refine ih2 (fun y hy => hL y (by simp [hy])) _ ?_
        split
        · exact ih _ _ (Nat.or_lt_two_pow h (Nat.pow_lt_pow_right (by omega) (hL x (by simp))))
        · exact hr
    exact key _ (fun x hx => elems_lt hx) b h

/-! ### cliques -/
def cliP (l : List Int) (a b : Nat) : Bool := decide (andN (sumF l b (oppF l b)) (a ||| 1) = 0)
theorem cliP_iff {l : List Int} (hg : isGrp l = true) {a b : Nat} : cliP l a b = true ↔ ∀ y z, y < 24 → z < 24 → b.testBit y = true → b.testBit z = true → (a ||| 1).testBit (addF l y (negF l z)) = true := by
  unfold cliP
  rw [decide_eq_true_iff, andN_zero]
  constructor
  · intro h y z hy hz hby hbz
    exact h _ (testBit_sumF.2 ⟨y, negF l z, hy, hby, negF_bd hg z, testBit_oppF.2 ⟨z, hz, hbz, rfl⟩, rfl⟩)
  · intro h i hi
    obtain ⟨y, w, hy, hby, _, hw, rfl⟩ := testBit_sumF.1 hi
    obtain ⟨z, hz, hbz, rfl⟩ := testBit_oppF.1 hw
    exact h y z hy hz hby hbz
theorem addF_zero' {l : List Int} (h : Ords l) {x : Nat} (hx : x < ord l) : addF l x 0 = x := by rw [addF_comm]; exact addF_zero l h x hx
theorem neg_neg {l : List Int} (h : Ords l) {x : Nat} (hx : x < ord l) : negF l (negF l x) = x := by
  have h1 : addF l (negF l x) (negF l (negF l x)) = addF l (negF l x) x := by rw [addF_neg l h, addF_comm, addF_neg l h]
  exact addF_cancel h (negF_lt l h _) hx h1
/-- z = y + (z - y) -/
theorem add_sub {l : List Int} (h : Ords l) {y z : Nat} (hz : z < ord l) : addF l y (addF l z (negF l y)) = z := by
  rw [addF_comm l z, ← addF_assoc l h, addF_neg l h, addF_zero l h _ hz]
theorem neg_sub {l : List Int} (h : Ords l) {y z : Nat} (hy : y < ord l) (hz : z < ord l) : negF l (addF l y (negF l z)) = addF l z (negF l y) := by
  have e : addF l (addF l y (negF l z)) (addF l z (negF l y)) = 0 := by
    rw [addF_assoc l h, ← addF_assoc l h (negF l z), addF_comm l (negF l z) z, addF_neg l h, addF_zero l h _ (negF_lt l h _), addF_neg l h]
  exact (addF_cancel h (addF_lt l h _ _) (negF_lt l h _) (by rw [e, addF_neg l h])).symm
theorem one_bit (i : Nat) : (1 : Nat).testBit i = decide (i = 0) := by
  have := bit_two 0 i; rw [show (2:Nat) ^ 0 = 1 from rfl] at this; rw [this, Bool.eq_iff_iff]; simp; exact eq_comm
theorem conn_self (l : List Int) (h : Ords l) (a y : Nat) : (a ||| 1).testBit (addF l y (negF l y)) = true := by rw [addF_neg l h, Nat.testBit_or, one_bit]; simp
/-- joined by i - x -/
theorem conn_iff {l : List Int} (hg : isGrp l = true) {a x i : Nat} (ha : a < 2 ^ ord l) (hx : x < ord l) (hi : i < ord l) (hne : x ≠ i) : (a ||| 1).testBit (addF l i (negF l x)) = (shiftF l a x).testBit i := by
  have h := isGrp_ords hg
  have h0 : addF l i (negF l x) ≠ 0 := fun e => by
    have := add_sub h (y := x) hi
    rw [e, addF_zero' h hx] at this; exact hne this
  rw [Nat.testBit_or, one_bit, show decide (addF l i (negF l x) = 0) = false from decide_eq_false h0, Bool.or_false]
  refine bool_eq_of ⟨fun e => testBit_shiftF.2 ⟨_, addF_bd hg _ _, e, add_sub h hi⟩, fun e => ?_⟩
  obtain ⟨y, hy, hay, he⟩ := testBit_shiftF.1 e
  rw [← he, addF_comm l x y, addF_assoc l h, addF_neg l h, addF_zero' h (bit_lt ha hay)]
  exact hay
theorem conn_symm {l : List Int} (hg : isGrp l = true) {a y z : Nat} (ho : oppF l a = a) (hy : y < ord l) (hz : z < ord l) (h : (a ||| 1).testBit (addF l y (negF l z)) = true) : (a ||| 1).testBit (addF l z (negF l y)) = true := by
  have hO := isGrp_ords hg
  rw [Nat.testBit_or, one_bit] at h ⊢
  rw [Bool.or_eq_true] at h ⊢
  rcases h with h | h
  · left
    rw [← ho]
    exact testBit_oppF.2 ⟨_, addF_bd hg _ _, h, neg_sub hO hy hz⟩
  · right
    rw [decide_eq_true_iff] at h ⊢
    have h1 := add_sub hO (y := z) hy
    rw [h, addF_zero' hO hz] at h1
    rw [h1, addF_neg l hO]
/-- the candidates of the next step -/
theorem cli_next {l : List Int} (hg : isGrp l = true) {a b fr x : Nat} (ha : a < 2 ^ ord l) (ho : oppF l a = a) (hb : b < 2 ^ fr) (hx : (kidN (cliP l a) (ord l) b fr).testBit x = true) (i : Nat) :
    (kidN (cliP l a) (ord l) (b ||| 2 ^ x) (x + 1)).testBit i = (decide (x + 1 ≤ i) && ((kidN (cliP l a) (ord l) b fr).testBit i && (shiftF l a x).testBit i)) := by
  have hob := ord_bd hg
  rw [kidN_bit] at hx
  simp only [Bool.and_eq_true, decide_eq_true_eq] at hx
  obtain ⟨hx1, hx2, hx3⟩ := hx
  rw [kidN_bit, kidN_bit]
  by_cases hi : i < ord l
  rotate_left
  · simp [hi]
  by_cases hxi : x + 1 ≤ i
  rotate_left
  · simp [hxi]
  rw [← conn_iff hg ha hx1 hi (by omega)]
  simp only [hi, hxi, show fr ≤ i by omega, decide_true, Bool.true_and]
  rw [cliP_iff hg] at hx3
  refine bool_eq_of ⟨fun h => ?_, fun h => ?_⟩
  · rw [cliP_iff hg] at h
    rw [Bool.and_eq_true, cliP_iff hg]
    refine ⟨fun y z hy hz hby hbz => h y z hy hz ?_ ?_, h i x (by omega) (by omega) (by rw [Nat.testBit_or, bit_two]; simp) (by rw [Nat.testBit_or, Nat.testBit_or, bit_two]; simp)⟩
    · rw [Nat.testBit_or, Bool.or_eq_true] at hby; rw [Nat.testBit_or, Nat.testBit_or]; rcases hby with e | e <;> simp [e]
    · rw [Nat.testBit_or, Bool.or_eq_true] at hbz; rw [Nat.testBit_or, Nat.testBit_or]; rcases hbz with e | e <;> simp [e]
  · rw [Bool.and_eq_true, cliP_iff hg] at h
    obtain ⟨h1, h2⟩ := h
    rw [cliP_iff hg]
    have part : ∀ y, (b ||| 2 ^ x ||| 2 ^ i).testBit y = true → (b.testBit y = true ∨ y = x) ∨ y = i := by
      intro y hy
      rw [Nat.testBit_or, Nat.testBit_or, bit_two, bit_two] at hy
      simp only [Bool.or_eq_true, decide_eq_true_eq] at hy
      rcases hy with (e | e) | e
      · exact Or.inl (Or.inl e)
      · exact Or.inl (Or.inr e.symm)
      · exact Or.inr e.symm
    have inx : ∀ y, (b.testBit y = true ∨ y = x) → (b ||| 2 ^ x).testBit y = true := by
      rintro y (e | rfl)
      · rw [Nat.testBit_or, e]; rfl
      · rw [Nat.testBit_or, bit_two]; simp
    have ini : ∀ y, (b.testBit y = true ∨ y = i) → (b ||| 2 ^ i).testBit y = true := by
      rintro y (e | rfl)
      · rw [Nat.testBit_or, e]; rfl
      · rw [Nat.testBit_or, bit_two]; simp
    intro y z hy hz hby hbz
    rcases part y hby with hy1 | rfl
    · rcases part z hbz with hz1 | rfl
      · exact hx3 y z hy hz (inx y hy1) (inx z hz1)
      · rcases hy1 with hy1 | rfl
        · exact h1 y z hy hz (ini y (Or.inl hy1)) (ini z (Or.inr rfl))
        · exact conn_symm hg ho hi hx1 h2
    · rcases part z hbz with hz1 | rfl
      · rcases hz1 with hz1 | rfl
        · exact h1 y z hy hz (ini y (Or.inr rfl)) (ini z (Or.inl hz1))
        · exact h2
      · exact conn_self l (isGrp_ords hg) a _
theorem cli_start {l : List Int} (hg : isGrp l = true) (a : Nat) : kidN (cliP l a) (ord l) 0 0 = fullN l := by
  apply Nat.eq_of_testBit_eq
  intro i
  rw [kidN_bit, fullN_bit]
  by_cases hi : i < ord l
  · have : cliP l a (2 ^ i) = true := by
      rw [cliP_iff hg]
      intro y z _ _ hy hz
      rw [bit_two, decide_eq_true_iff] at hy hz
      subst hy; subst hz
      exact conn_self l (isGrp_ords hg) a i
    simp [hi, this]
  · simp [hi]
/-- left & s, shifted down and up again -/
theorem cut_bits (m s x i : Nat) : (shr (m &&& s) (x + 1) * 2 ^ (x + 1)).testBit i = (decide (x + 1 ≤ i) && (m.testBit i && s.testBit i)) := by
  unfold shr
  rw [← Nat.shiftLeft_eq, Nat.testBit_shiftLeft, Nat.testBit_shiftRight]
  by_cases h : x + 1 ≤ i
  · simp [h, Nat.testBit_and]
  · simp [h]
def lcF (l : List Int) (a : Int) : Bool := connB l a && decide (ord l ≤ 16)
def lcV (l : List Int) (a : Int) : Int := if lcF l a then (fsS (cliP l a.toNat) (ord l) (ord l + 1) 0 0 : Nat) else 0
end Go.Zz
