/- The list of atoms, its order, factorizations: plain. -/
import Derived.Test.YtdlbbpeahicakaaGreatGr8
import Derived.Test.YtdlbbpeahicakaaGreatGr4
namespace Go.Zz
set_option linter.unusedVariables false
set_option maxHeartbeats 2000000
set_option maxRecDepth 100000

/-! ### the search for atoms -/
def atZ (l : List Int) (X : List Nat) : Nat := negF l (tot l X)
def atC (l : List Int) (X : List Nat) (m : Nat) : Bool := (decide (m ≤ atZ l X) && (decide (X.length ≠ 0) || decide (atZ l X = 0))) && mnB l (X ++ [atZ l X])
def atV (l : List Int) (X : List Nat) (m : Nat) : List (List Nat) := if atC l X m then [X ++ [atZ l X]] else []
def atR (l : List Int) : Nat → List Nat → Nat → Nat → List (List Nat)
  | 0, _, _, _ => []
  | f + 1, X, S, m => (List.range (ord l)).foldl (fun (A : List (List Nat)) (x : Nat) => if x < max 1 m then A else if (nxS l S x).testBit 0 then A else A ++ atR l f (X ++ [x]) (nxS l S x) x) (atV l X m)
def atK (l : List Int) (f : Nat) (X : List Nat) (S m k : Nat) : List (List Nat) := (List.range k).foldl (fun (A : List (List Nat)) (x : Nat) => if x < max 1 m then A else if (nxS l S x).testBit 0 then A else A ++ atR l f (X ++ [x]) (nxS l S x) x) (atV l X m)
theorem atK_end (l : List Int) (f : Nat) (X : List Nat) (S m : Nat) : atR l (f + 1) X S m = atK l f X S m (ord l) := rfl
theorem atK_succ (l : List Int) (f : Nat) (X : List Nat) (S m k : Nat) : atK l f X S m (k + 1) = (if k < max 1 m then atK l f X S m k else if (nxS l S k).testBit 0 then atK l f X S m k else atK l f X S m k ++ atR l f (X ++ [k]) (nxS l S k) k) := by
  unfold atK; rw [List.range_succ, List.foldl_append]; rfl
theorem atK_start (l : List Int) (f : Nat) (X : List Nat) (S m : Nat) : ∀ k, k ≤ max 1 m → atK l f X S m k = atV l X m
  | 0, _ => rfl
  | k + 1, hk => by rw [atK_succ, if_pos (by omega), atK_start l f X S m k (by omega)]
theorem atK_no {l : List Int} {f : Nat} {X : List Nat} {S m k : Nat} (h : (nxS l S k).testBit 0 = true) : atK l f X S m (k + 1) = atK l f X S m k := by
  rw [atK_succ]; split
  · rfl
  · first | rfl | rw [if_pos h]
theorem atK_yes {l : List Int} {f : Nat} {X : List Nat} {S m k : Nat} (hm : max 1 m ≤ k) (h : (nxS l S k).testBit 0 = false) : atK l f X S m (k + 1) = atK l f X S m k ++ atR l f (X ++ [k]) (nxS l S k) k := by
  rw [atK_succ, if_neg (by omega), if_neg (by rw [h]; simp)]
theorem atK_mono (l : List Int) (f : Nat) (X : List Nat) (S m k : Nat) : ∀ d, (atK l f X S m k).length ≤ (atK l f X S m (k + d)).length
  | 0 => Nat.le_refl _
  | d + 1 => by
    refine Nat.le_trans (atK_mono l f X S m k d) ?_
    rw [← Nat.add_assoc, atK_succ]
    split
    · exact Nat.le_refl _
    · split
      · exact Nat.le_refl _
      · rw [List.length_append]; omega
/-- all atoms, in the order of the search -/
def atL (l : List Int) : List (List Nat) := atR l (ord l + 1) [] 0 0
def atGood (n : Nat) (a : List Nat) : Bool := decide (1 ≤ a.length) && (decide (a.length ≤ 7) && a.all fun x => decide (x < n))
def atChk (l : List Int) : Bool := decide ((atL l).length ≤ 48) && (atL l).all (atGood (ord l))
theorem ac0 : atChk [] = true := by decide +kernel
theorem ac1 : ((List.range 8).all fun a => decide (a < 2) || atChk [(a : Int)]) = true := by decide +kernel
theorem ac2 : ((List.range 8).all fun a => decide (a < 2) || (List.range 8).all fun b => decide (b < 2) || (decide (7 < a * b) || atChk [(a : Int), (b : Int)])) = true := by decide +kernel
theorem or_elimS {p : Prop} [Decidable p] {b : Bool} (h : (decide p || b) = true) (hn : ¬ p) : b = true := by
  rw [decide_eq_false hn] at h; simpa using h
theorem rgS {p : Nat → Bool} (h : (List.range 8).all p = true) {a : Nat} (ha : a ≤ 7) : p a = true := List.all_eq_true.1 h a (List.mem_range.2 (by omega))
theorem at_chk {l : List Int} (h : isGrp l = true) (h7 : ord l ≤ 7) : atChk l = true := by
  have hc := ord_cast h
  obtain ⟨h3, hn, hp⟩ := (isGrp_iff l).1 h
  have hp : prodL l ≤ 7 := by omega
  clear hc
  match l, h3, hn, hp with
  | [], _, _, _ => exact ac0
  | [a], _, hn, hp =>
    have h0 : 2 ≤ a ∧ a ≤ 24 := hn 0 (by simp)
    have hp : a ≤ 7 := by simpa [prodL] using hp
    have := or_elimS (rgS ac1 (a := a.toNat) (by omega)) (by omega)
    rwa [show ((a.toNat : Nat) : Int) = a by omega] at this
  | [a, b], _, hn, hp =>
    have h0 : 2 ≤ a ∧ a ≤ 24 := hn 0 (by simp)
    have h1 : 2 ≤ b ∧ b ≤ 24 := hn 1 (by simp)
    have hpr : a * b ≤ 7 := by simpa [prodL] using hp
    have e : ((a.toNat * b.toNat : Nat) : Int) = a * b := by rw [Int.natCast_mul]; congr 1 <;> omega
    have q1 : a * 2 ≤ a * b := Int.mul_le_mul_of_nonneg_left h1.1 (by omega)
    have q2 : 2 * b ≤ a * b := Int.mul_le_mul_of_nonneg_right h0.1 (by omega)
    have := or_elimS (or_elimS (rgS (or_elimS (rgS ac2 (a := a.toNat) (by omega)) (by omega)) (a := b.toNat) (by omega)) (by omega)) (by omega)
    rwa [show ((a.toNat : Nat) : Int) = a by omega, show ((b.toNat : Nat) : Int) = b by omega] at this
  | [a, b, c], _, hn, hp =>
    have h0 : 2 ≤ a ∧ a ≤ 24 := hn 0 (by simp)
    have h1 : 2 ≤ b ∧ b ≤ 24 := hn 1 (by simp)
    have h2 : 2 ≤ c ∧ c ≤ 24 := hn 2 (by simp)
    have hpr : a * b * c ≤ 7 := by rw [Int.mul_assoc]; simpa [prodL] using hp
    have q0 : 2 * 2 ≤ a * b := Int.mul_le_mul h0.1 h1.1 (by omega) (by omega)
    have q1 : a * b * 2 ≤ a * b * c := Int.mul_le_mul_of_nonneg_left h2.1 (by omega)
    omega
  | _ :: _ :: _ :: _ :: _, h3, _, _ => simp at h3
theorem atL_le {l : List Int} (h : isGrp l = true) (h7 : ord l ≤ 7) : (atL l).length ≤ 48 := by
  have := at_chk h h7; unfold atChk at this; rw [Bool.and_eq_true, decide_eq_true_eq] at this; exact this.1
theorem atL_good {l : List Int} (h : isGrp l = true) (h7 : ord l ≤ 7) {a : List Nat} (ha : a ∈ atL l) : 1 ≤ a.length ∧ a.length ≤ 7 ∧ ∀ x ∈ a, x < ord l := by
  have := at_chk h h7; unfold atChk at this; rw [Bool.and_eq_true, List.all_eq_true] at this
  have := this.2 a ha
  unfold atGood at this
  simpa [List.all_eq_true] using this

/-! ### their order -/
def cmpL : List Nat → List Nat → Int
  | [], [] => 0
  | [], _ :: _ => -1
  | _ :: _, [] => 1
  | a :: r, b :: s => if a < b then -1 else if b < a then 1 else cmpL r s
def cmpA (a b : List Nat) : Int := if a.length = b.length then cmpL a b else (a.length : Int) - (b.length : Int)
theorem cmpL_flip : ∀ a b, cmpL a b = - cmpL b a
  | [], [] => rfl
  | [], _ :: _ => rfl
  | _ :: _, [] => rfl
  | a :: r, b :: s => by
    unfold cmpL
    rw [cmpL_flip r s]
    by_cases h1 : a < b <;> by_cases h2 : b < a
    · omega
    · simp [h1, h2]
    · simp [h1, h2]
    · simp [h1, h2]
theorem cmpL_eq : ∀ a b, cmpL a b = 0 → a = b
  | [], [], _ => rfl
  | [], _ :: _, h => by simp [cmpL] at h
  | _ :: _, [], h => by simp [cmpL] at h
  | a :: r, b :: s, h => by
    unfold cmpL at h
    by_cases h1 : a < b
    · rw [if_pos h1] at h; omega
    · rw [if_neg h1] at h
      by_cases h2 : b < a
      · rw [if_pos h2] at h; omega
      · rw [if_neg h2] at h
        rw [cmpL_eq r s h, show a = b by omega]
theorem cmpL_trans : ∀ a b c, cmpL a b ≤ 0 → cmpL b c ≤ 0 → cmpL a c ≤ 0
  | [], _, [], _, _ => by simp [cmpL]
  | [], _, _ :: _, _, _ => by simp [cmpL]
  | _ :: _, [], _, h, _ => by simp [cmpL] at h
  | _ :: _, _ :: _, [], _, h => by simp [cmpL] at h
  | a :: r, b :: s, c :: t, h1, h2 => by
    unfold cmpL at h1 h2 ⊢
    by_cases p1 : a < b
    · by_cases p2 : c < b
      · rw [if_neg (by omega), if_pos p2] at h2; omega
      · rw [if_pos (by omega)]; omega
    · rw [if_neg p1] at h1
      by_cases p3 : b < a
      · rw [if_pos p3] at h1; omega
      · rw [if_neg p3] at h1
        have e : a = b := by omega
        subst e
        by_cases p2 : a < c
        · rw [if_pos p2]; omega
        · rw [if_neg p2] at h2 ⊢
          by_cases p4 : c < a
          · rw [if_pos p4] at h2; omega
          · rw [if_neg p4] at h2 ⊢
            exact cmpL_trans r s t h1 h2
theorem cmpA_flip (a b : List Nat) : cmpA a b = - cmpA b a := by
  unfold cmpA
  by_cases h : a.length = b.length
  · rw [if_pos h, if_pos h.symm]; exact cmpL_flip a b
  · rw [if_neg h, if_neg (fun e => h e.symm)]; omega
theorem cmpA_eq {a b : List Nat} (h : cmpA a b = 0) : a = b := by
  unfold cmpA at h
  by_cases e : a.length = b.length
  · rw [if_pos e] at h; exact cmpL_eq a b h
  · rw [if_neg e] at h; omega
theorem cmpA_trans {a b c : List Nat} (h1 : cmpA a b ≤ 0) (h2 : cmpA b c ≤ 0) : cmpA a c ≤ 0 := by
  unfold cmpA at h1 h2 ⊢
  by_cases e1 : a.length = b.length <;> by_cases e2 : b.length = c.length
  · rw [if_pos e1] at h1; rw [if_pos e2] at h2; rw [if_pos (by omega)]; exact cmpL_trans a b c h1 h2
  · rw [if_neg e2] at h2; rw [if_neg (by omega)]; omega
  · rw [if_neg e1] at h1; rw [if_neg (by omega)]; omega
  · rw [if_neg e1] at h1; rw [if_neg e2] at h2
    by_cases e3 : a.length = c.length
    · omega
    · rw [if_neg e3]; omega
theorem cmpA_self (a : List Nat) : cmpA a a = 0 := by have := cmpA_flip a a; omega
def leA (a b : List Nat) : Prop := cmpA a b ≤ 0
theorem leA_anti {a b : List Nat} (h1 : leA a b) (h2 : leA b a) : a = b := by
  unfold leA at h1 h2; rw [cmpA_flip] at h2; exact cmpA_eq (by omega)
/-- a sorted list is told by what it holds -/
theorem sorted_one : ∀ {A B : List (List Nat)}, A.Perm B → A.Pairwise leA → B.Pairwise leA → A = B
  | [], B, h, _, _ => by rw [List.nil_perm.1 h]
  | a :: A, [], h, _, _ => by have := h.length_eq; simp at this
  | a :: A, b :: B, h, hA, hB => by
    rw [List.pairwise_cons] at hA hB
    have e : a = b := by
      have h1 : a ∈ b :: B := h.subset (by simp)
      have h2 : b ∈ a :: A := h.symm.subset (by simp)
      rw [List.mem_cons] at h1 h2
      rcases h1 with h1 | h1
      · exact h1
      · rcases h2 with h2 | h2
        · exact h2.symm
        · exact leA_anti (hA.1 b h2) (hB.1 a h1)
    subst e
    rw [sorted_one ((List.perm_cons a).1 h) hA.2 hB.2]
/-- the reference puts one in: the place -/
def insK (x : List Nat) (o : List (List Nat)) : Nat → Nat
  | 0 => 0
  | k + 1 => if cmpA x (o.getD k []) < 0 then insK x o k else k + 1
def insA (x : List Nat) (o : List (List Nat)) : List (List Nat) := o.take (insK x o o.length) ++ [x] ++ o.drop (insK x o o.length)
def isA (L : List (List Nat)) : List (List Nat) := L.foldl (fun o x => insA x o) []
theorem isA_snoc (L : List (List Nat)) (x : List Nat) : isA (L ++ [x]) = insA x (isA L) := by unfold isA; rw [List.foldl_append]; rfl
theorem insK_le (x : List Nat) (o : List (List Nat)) : ∀ k, insK x o k ≤ k
  | 0 => Nat.le_refl _
  | k + 1 => by
    have := insK_le x o k
    unfold insK; split <;> omega
theorem insK_spec (x : List Nat) (o : List (List Nat)) : ∀ k, k ≤ o.length → (∀ j, insK x o k ≤ j → j < k → cmpA x (o.getD j []) < 0) ∧ (0 < insK x o k → ¬ cmpA x (o.getD (insK x o k - 1) []) < 0)
  | 0, _ => ⟨fun j h1 h2 => by omega, fun h => by simp [insK] at h⟩
  | k + 1, hk => by
    obtain ⟨h1, h2⟩ := insK_spec x o k (by omega)
    by_cases h : cmpA x (o.getD k []) < 0
    · have e : insK x o (k + 1) = insK x o k := by rw [insK, if_pos h]
      rw [e]
      refine ⟨fun j p1 p2 => ?_, h2⟩
      by_cases q : j = k
      · rw [q]; exact h
      · exact h1 j p1 (by omega)
    · have e : insK x o (k + 1) = k + 1 := by rw [insK, if_neg h]
      rw [e]
      exact ⟨fun j p1 p2 => by omega, fun _ => by simpa using h⟩
theorem insA_perm (x : List Nat) (o : List (List Nat)) : (insA x o).Perm (o ++ [x]) := by
  unfold insA
  have h1 : (o.take (insK x o o.length) ++ [x] ++ o.drop (insK x o o.length)).Perm (o.take (insK x o o.length) ++ (o.drop (insK x o o.length) ++ [x])) := by
    rw [List.append_assoc]
    exact List.Perm.append_left _ (List.perm_append_comm)
  rw [← List.append_assoc, List.take_append_drop] at h1
  exact h1
theorem isA_perm (L : List (List Nat)) : (isA L).Perm L := by
  have : ∀ n, n ≤ L.length → (isA (L.take n)).Perm (L.take n) := by
    intro n
    induction n with
    | zero => intro _; simp [isA]
    | succ n ih =>
      intro hn
      rw [List.take_succ_eq_append_getElem (by omega), isA_snoc]
      exact (insA_perm _ _).trans ((ih (by omega)).append_right _)
  have h := this L.length (Nat.le_refl _)
  rwa [List.take_length] at h
theorem pw_getD {o : List (List Nat)} (h : o.Pairwise leA) {i j : Nat} (hij : i < j) (hj : j < o.length) : leA (o.getD i []) (o.getD j []) := by
  have := List.pairwise_iff_getElem.1 h i j (by omega) hj hij
  simpa [List.getD, show i < o.length by omega, hj] using this
theorem insA_sorted (x : List Nat) {o : List (List Nat)} (h : o.Pairwise leA) : (insA x o).Pairwise leA := by
  obtain ⟨h1, h2⟩ := insK_spec x o o.length (Nat.le_refl _)
  have hle := insK_le x o o.length
  unfold insA
  generalize insK x o o.length = k at h1 h2 hle
  have hhi : ∀ y ∈ o.drop k, leA x y := by
    intro y hy
    obtain ⟨i, hi, rfl⟩ := List.getElem_of_mem hy
    rw [List.length_drop] at hi
    have := h1 (k + i) (by omega) (by omega)
    unfold leA
    simp only [List.getElem_drop]
    simp only [List.getD, List.getElem?_eq_getElem (show k + i < o.length by omega), Option.getD_some] at this
    omega
  have hlo : ∀ y ∈ o.take k, leA y x := by
    intro y hy
    obtain ⟨i, hi, rfl⟩ := List.getElem_of_mem hy
    rw [List.length_take] at hi
    have hk0 : 0 < k := by omega
    have q := h2 hk0
    have q1 : leA (o.getD (k - 1) []) x := by unfold leA; rw [cmpA_flip]; omega
    by_cases e : i = k - 1
    · subst e
      simp only [List.getElem_take]
      simpa [List.getD, show k - 1 < o.length by omega] using q1
    · have q2 := pw_getD h (show i < k - 1 by omega) (by omega)
      have := cmpA_trans q2 q1
      simp only [List.getElem_take]
      simpa [leA, List.getD, show i < o.length by omega] using this
  rw [List.append_assoc, List.pairwise_append]
  refine ⟨h.sublist (List.take_sublist _ _), ?_, ?_⟩
  · rw [List.singleton_append, List.pairwise_cons]
    exact ⟨hhi, h.sublist (List.drop_sublist _ _)⟩
  · intro a ha b hb
    rw [List.singleton_append, List.mem_cons] at hb
    rcases hb with rfl | hb
    · exact hlo a ha
    · exact cmpA_trans (hlo a ha) (hhi b hb)
theorem isA_sorted (L : List (List Nat)) : (isA L).Pairwise leA := by
  have : ∀ n, n ≤ L.length → (isA (L.take n)).Pairwise leA := by
    intro n
    induction n with
    | zero => intro _; simp [isA]
    | succ n ih =>
      intro hn
      rw [List.take_succ_eq_append_getElem (by omega), isA_snoc]
      exact insA_sorted _ (ih (by omega))
  have h := this L.length (Nat.le_refl _)
  rwa [List.take_length] at h
theorem sort_unique {L B : List (List Nat)} (h : B.Perm L) (hs : B.Pairwise leA) : B = isA L := sorted_one (h.trans (isA_perm L).symm) hs (isA_sorted L)
/-- the atoms by length and then in the order of the lists -/
def atS (l : List Int) : List (List Nat) := isA (atL l)
theorem atS_len (l : List Int) : (atS l).length = (atL l).length := (isA_perm _).length_eq
theorem atS_mem {l : List Int} {a : List Nat} (h : a ∈ atS l) : a ∈ atL l := (isA_perm _).subset h
end Go.Zz

/- Plain facts on tilings: the search fills the least element that is not reached yet. No program is named here. -/
namespace Go.Zz

/-- the least i that is no bit of r -/
def lowG (r : Nat) : Nat → Nat → Nat
  | 0, e => e
  | n + 1, e => if r.testBit e then lowG r n (e + 1) else e
def lowZ (r : Nat) : Nat := lowG r 25 0
theorem lowG_is {r e : Nat} (h2 : r.testBit e = false) : ∀ n i, i ≤ e → e < i + n → (∀ j, i ≤ j → j < e → r.testBit j = true) → lowG r n i = e := by
  intro n
  induction n with
  | zero => intro i h3 h4; omega
  | succ n ih =>
    intro i h3 h4 h1
    unfold lowG
    by_cases hi : i = e
    · subst hi; rw [h2]; rfl
    · rw [h1 i (Nat.le_refl _) (by omega)]
      exact ih (i + 1) (by omega) (by omega) fun j hj hj2 => h1 j (by omega) hj2
theorem lowZ_is {r e : Nat} (h1 : ∀ j, j < e → r.testBit j = true) (h2 : r.testBit e = false) (h3 : e ≤ 24) : lowZ r = e :=
  lowG_is h2 25 0 (by omega) (by omega) fun j _ hj => h1 j hj
theorem not_full {l : List Int} {u e : Nat} (hu : u < 2 ^ ord l) (h : ∀ j, j < e → u.testBit j = true) (he : ord l ≤ e) : u = fullN l := by
  apply Nat.eq_of_testBit_eq
  intro i
  rw [fullN_bit]
  by_cases hi : i < ord l
  · rw [h i (by omega)]; simp [hi]
  · rw [testBit_ge hu (by omega)]; simp [hi]
def dF (l : List Int) (u x : Nat) : Nat := addF l (lowZ u) (negF l x)
theorem dF_lt {l : List Int} (h : isGrp l = true) (u x : Nat) : dF l u x < ord l := addF_lt l (isGrp_ords h) _ _

def tlS (l : List Int) (a : Nat) : Nat → Nat → Nat → Nat → List Nat
  | 0, _, _, _ => []
  | f + 1, u, b, m => if u = fullN l then [b] else
      (elems a).foldl (fun (out : List Nat) (x : Nat) => if out.length < m ∧ shiftF l a (dF l u x) &&& u = 0 then out ++ tlS l a f (u ||| shiftF l a (dF l u x)) (b ||| 2 ^ dF l u x) (m - out.length) else out) []
def tlSto (l : List Int) (a f u b m k : Nat) : List Nat := ((elems a).take k).foldl (fun (out : List Nat) (x : Nat) => if out.length < m ∧ shiftF l a (dF l u x) &&& u = 0 then out ++ tlS l a f (u ||| shiftF l a (dF l u x)) (b ||| 2 ^ dF l u x) (m - out.length) else out) []
theorem tlS_full {l : List Int} {a f u b m : Nat} (h : u = fullN l) : tlS l a (f + 1) u b m = [b] := by unfold tlS; rw [if_pos h]
theorem tlS_end {l : List Int} {a f u b m : Nat} (h : u ≠ fullN l) : tlS l a (f + 1) u b m = tlSto l a f u b m (elems a).length := by
  unfold tlS tlSto; rw [if_neg h, List.take_length]
theorem tlSto_zero (l : List Int) (a f u b m : Nat) : tlSto l a f u b m 0 = [] := rfl
theorem elems_take {a k : Nat} (hk : k < (elems a).length) : (elems a).take (k + 1) = (elems a).take k ++ [(elems a)[k]] := List.take_succ_eq_append_getElem hk
theorem tlSto_yes {l : List Int} {a f u b m k : Nat} (hk : k < (elems a).length) (hm : (tlSto l a f u b m k).length < m) (h : shiftF l a (dF l u (elems a)[k]) &&& u = 0) :
    tlSto l a f u b m (k + 1) = tlSto l a f u b m k ++ tlS l a f (u ||| shiftF l a (dF l u (elems a)[k])) (b ||| 2 ^ dF l u (elems a)[k]) (m - (tlSto l a f u b m k).length) := by
  unfold tlSto at hm ⊢; rw [elems_take hk, List.foldl_append]; simp only [List.foldl_cons, List.foldl_nil]; rw [if_pos ⟨hm, h⟩]
theorem tlSto_no {l : List Int} {a f u b m k : Nat} (hk : k < (elems a).length) (h : ¬ shiftF l a (dF l u (elems a)[k]) &&& u = 0) : tlSto l a f u b m (k + 1) = tlSto l a f u b m k := by
  unfold tlSto; rw [elems_take hk, List.foldl_append]; simp only [List.foldl_cons, List.foldl_nil]; rw [if_neg fun e => h e.2]
theorem tlSto_stop {l : List Int} {a f u b m k : Nat} (hm : ¬ (tlSto l a f u b m k).length < m) : ∀ d, tlSto l a f u b m (k + d) = tlSto l a f u b m k := by
  intro d
  induction d with
  | zero => rfl
  | succ d ih =>
    rw [← Nat.add_assoc]
    by_cases hk : k + d < (elems a).length
    · rw [← ih] at hm ⊢
      have e : tlSto l a f u b m (k + d + 1) = tlSto l a f u b m (k + d) := by
        unfold tlSto at hm ⊢; rw [elems_take hk, List.foldl_append]; simp only [List.foldl_cons, List.foldl_nil]; rw [if_neg fun e => hm e.1]
      rw [e]
    · rw [← ih]; unfold tlSto; rw [List.take_of_length_le (by omega), List.take_of_length_le (by omega)]
theorem tlS_stop {l : List Int} {a f u b m k : Nat} (h : u ≠ fullN l) (hk : k ≤ (elems a).length) (hm : k = (elems a).length ∨ ¬ (tlSto l a f u b m k).length < m) : tlS l a (f + 1) u b m = tlSto l a f u b m k := by
  rw [tlS_end h]
  rcases hm with rfl | hm
  · rfl
  · have := tlSto_stop hm ((elems a).length - k)
    rw [show k + ((elems a).length - k) = (elems a).length by omega] at this; exact this

def tlI (l : List Int) (a m : Nat) : Nat → Nat → Nat → List Nat → List Nat
  | 0, _, _, out => out
  | f + 1, u, b, out => if u = fullN l then out ++ [b] else
      (elems a).foldl (fun (out : List Nat) (x : Nat) => if shiftF l a (dF l u x) &&& u = 0 ∧ out.length < m then tlI l a m f (u ||| shiftF l a (dF l u x)) (b ||| 2 ^ dF l u x) out else out) out
def tlIto (l : List Int) (a m f u b : Nat) (out : List Nat) (k : Nat) : List Nat := ((elems a).take k).foldl (fun (out : List Nat) (x : Nat) => if shiftF l a (dF l u x) &&& u = 0 ∧ out.length < m then tlI l a m f (u ||| shiftF l a (dF l u x)) (b ||| 2 ^ dF l u x) out else out) out
theorem tlI_full {l : List Int} {a m f u b : Nat} {out : List Nat} (h : u = fullN l) : tlI l a m (f + 1) u b out = out ++ [b] := by unfold tlI; rw [if_pos h]
theorem tlI_end {l : List Int} {a m f u b : Nat} {out : List Nat} (h : u ≠ fullN l) : tlI l a m (f + 1) u b out = tlIto l a m f u b out (elems a).length := by
  unfold tlI tlIto; rw [if_neg h, List.take_length]
theorem tlIto_zero (l : List Int) (a m f u b : Nat) (out : List Nat) : tlIto l a m f u b out 0 = out := rfl
theorem tlIto_yes {l : List Int} {a m f u b k : Nat} {out : List Nat} (hk : k < (elems a).length) (h : shiftF l a (dF l u (elems a)[k]) &&& u = 0) (hm : (tlIto l a m f u b out k).length < m) :
    tlIto l a m f u b out (k + 1) = tlI l a m f (u ||| shiftF l a (dF l u (elems a)[k])) (b ||| 2 ^ dF l u (elems a)[k]) (tlIto l a m f u b out k) := by
  unfold tlIto at hm ⊢; rw [elems_take hk, List.foldl_append]; simp only [List.foldl_cons, List.foldl_nil]; rw [if_pos ⟨h, hm⟩]
theorem tlIto_no {l : List Int} {a m f u b k : Nat} {out : List Nat} (hk : k < (elems a).length) (h : ¬ (shiftF l a (dF l u (elems a)[k]) &&& u = 0 ∧ (tlIto l a m f u b out k).length < m)) :
    tlIto l a m f u b out (k + 1) = tlIto l a m f u b out k := by
  unfold tlIto at h ⊢; rw [elems_take hk, List.foldl_append]; simp only [List.foldl_cons, List.foldl_nil]; rw [if_neg h]
theorem tlI_eq (l : List Int) (a m : Nat) : ∀ f u b out, out.length < m → tlI l a m f u b out = out ++ tlS l a f u b (m - out.length) := by
  intro f
  induction f with
  | zero => intro u b out _; simp [tlI, tlS]
  | succ f ih =>
    intro u b out hm
    by_cases h : u = fullN l
    · rw [tlI_full h, tlS_full h]
    · unfold tlI tlS
      rw [if_neg h, if_neg h]
      have key : ∀ (L : List Nat) (oS : List Nat), L.foldl (fun (out : List Nat) (x : Nat) => if shiftF l a (dF l u x) &&& u = 0 ∧ out.length < m then tlI l a m f (u ||| shiftF l a (dF l u x)) (b ||| 2 ^ dF l u x) out else out) (out ++ oS) =
          out ++ L.foldl (fun (o : List Nat) (x : Nat) => if o.length < m - out.length ∧ shiftF l a (dF l u x) &&& u = 0 then o ++ tlS l a f (u ||| shiftF l a (dF l u x)) (b ||| 2 ^ dF l u x) (m - out.length - o.length) else o) oS := by
        intro L
        induction L with
        | nil => intro oS; rfl
        | cons x L ih2 =>
          intro oS
          simp only [List.foldl_cons]
          by_cases hs : shiftF l a (dF l u x) &&& u = 0
          · by_cases hl : oS.length < m - out.length
            · rw [if_pos ⟨hs, by rw [List.length_append]; omega⟩, if_pos ⟨hl, hs⟩, ih _ _ _ (by rw [List.length_append]; omega), List.append_assoc, List.length_append, show m - (out.length + oS.length) = m - out.length - oS.length by omega]
              exact ih2 _
            · rw [if_neg (by rw [List.length_append]; intro e; omega), if_neg fun e => hl e.1]
              exact ih2 _
          · rw [if_neg fun e => hs e.1, if_neg fun e => hs e.2]
            exact ih2 _
      have := key (elems a) []
      simpa using this
/-- a step reaches more -/
theorem tl_more {l : List Int} (hg : isGrp l = true) {a u : Nat} (ha : a ≠ 0) (ha2 : a < 2 ^ ord l) (hu : u < 2 ^ ord l) (d : Nat) (h : shiftF l a d &&& u = 0) :
    u ||| shiftF l a d < 2 ^ ord l ∧ cnt u < cnt (u ||| shiftF l a d) := by
  have hs := shiftF_lt (isGrp_ords hg) a d
  have h1 := Nat.or_lt_two_pow hu hs
  have hp := pow_ord hg
  refine ⟨h1, (sub_lt (Nat.lt_of_lt_of_le h1 hp) (fun i hi => by rw [Nat.testBit_or, hi]; rfl) fun e => ?_).2⟩
  have hc : cnt (shiftF l a d) ≠ 0 := by
    rw [cnt_shift hg ha2]
    have := cnt_pos (Nat.pos_of_ne_zero ha) (Nat.lt_of_lt_of_le ha2 hp); omega
  obtain ⟨i, hi⟩ := bit_of_pos (cnt_ne hc)
  have h3 : u.testBit i = true := by rw [e, Nat.testBit_or, hi]; simp
  have h4 : (shiftF l a d &&& u).testBit i = true := by rw [Nat.testBit_and, hi, h3]; rfl
  rw [h, Nat.zero_testBit] at h4; cases h4
def tileL (l : List Int) (a m : Nat) : List Nat := tlS l a (ord l + 1) a 1 m
theorem tlS_len (l : List Int) (a : Nat) : ∀ f u b m, 1 ≤ m → (tlS l a f u b m).length ≤ m := by
  intro f
  induction f with
  | zero => intro u b m _; simp [tlS]
  | succ f ih =>
    intro u b m hm
    unfold tlS
    split
    · simpa using hm
    · have key : ∀ (L : List Nat) (oS : List Nat), oS.length ≤ m → (L.foldl (fun (o : List Nat) (x : Nat) => if o.length < m ∧ shiftF l a (dF l u x) &&& u = 0 then o ++ tlS l a f (u ||| shiftF l a (dF l u x)) (b ||| 2 ^ dF l u x) (m - o.length) else o) oS).length ≤ m := by
        intro L
        induction L with
        | nil => intro oS h; exact h
        | cons x L ih2 =>
          intro oS h
          simp only [List.foldl_cons]
          refine ih2 _ ?_
          split
          · next h3 => have := ih (u ||| shiftF l a (dF l u x)) (b ||| 2 ^ dF l u x) (m - oS.length) (by omega); rw [List.length_append]; omega
          · exact h
      exact key _ _ (by simp)
/-- the first tile -/
def ftB (l : List Int) (a : Int) : Bool := isOneB l a && !(tileL l a.toNat 1).isEmpty
def ftV (l : List Int) (a : Int) : Int := if ftB l a then (((tileL l a.toNat 1).headD 0 : Nat) : Int) else 0
theorem ft_no {l : List Int} {a : Int} (h : isOneB l a = false) : ftB l a = false ∧ ftV l a = 0 := by
  have e : ftB l a = false := by unfold ftB; rw [h]; rfl
  exact ⟨e, by unfold ftV; rw [e]; rfl⟩
theorem ft_nil {l : List Int} {n : Nat} (h : tileL l n 1 = []) : ftB l n = false ∧ ftV l n = 0 := by
  have e : ftB l n = false := by unfold ftB; rw [show ((n : Int)).toNat = n from rfl, h]; simp
  exact ⟨e, by unfold ftV; rw [e]; rfl⟩
theorem ft_yes {l : List Int} {n : Nat} (h1 : isOneB l n = true) {x : Nat} {L : List Nat} (h : tileL l n 1 = x :: L) : ftB l n = true ∧ ftV l n = (x : Int) := by
  have e : ftB l n = true := by unfold ftB; rw [h1, show ((n : Int)).toNat = n from rfl, h]; rfl
  exact ⟨e, by unfold ftV; rw [e, show ((n : Int)).toNat = n from rfl, h]; rfl⟩
end Go.Zz
