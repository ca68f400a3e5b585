/-
  Plain facts on numbers, lists, bit sets and groups that are given by their orders. No program is named here.
-/
namespace Go.Zz

/-! ### lists of integers -/
/-- element i of a list, closed to simp -/
def nth (l : List Int) (i : Nat) : Int := l.getD i 0
def inB (x lo hi : Int) : Bool := decide (lo ≤ x) && decide (x ≤ hi)
theorem inB_t {x lo hi : Int} : inB x lo hi = true ↔ lo ≤ x ∧ x ≤ hi := by simp [inB]
theorem inB_f {x lo hi : Int} : inB x lo hi = false ↔ ¬ (lo ≤ x ∧ x ≤ hi) := by rw [← inB_t]; simp
theorem nth_mem {l : List Int} {k : Nat} (h : k < l.length) : nth l k ∈ l := by
  unfold nth; rw [List.getD_eq_getElem?_getD, List.getElem?_eq_getElem h]; exact List.getElem_mem h
theorem mem_nth {l : List Int} {x : Int} (h : x ∈ l) : ∃ k, k < l.length ∧ nth l k = x := by
  obtain ⟨k, hk, rfl⟩ := List.getElem_of_mem h
  exact ⟨k, hk, by simp [nth, List.getD, hk]⟩
theorem take_nth (l : List Int) (k : Nat) (h : k < l.length) : l.take (k + 1) = l.take k ++ [nth l k] := by
  rw [List.take_succ_eq_append_getElem h]; simp [nth, List.getD, h]
theorem drop_nth (l : List Int) (k : Nat) (h : k < l.length) : l.drop k = nth l k :: l.drop (k + 1) := by
  rw [List.drop_eq_getElem_cons h]; simp [nth, List.getD, h]
theorem nth_get (l : List Int) (k : Nat) (h : k < l.length) : nth l k = l[k] := by simp [nth, List.getD, h]
theorem nth_cons_succ (x : Int) (l : List Int) (k : Nat) : nth (x :: l) (k + 1) = nth l k := by simp [nth, List.getD]
theorem nth_cons_zero (x : Int) (l : List Int) : nth (x :: l) 0 = x := by simp [nth, List.getD]
theorem ext_nth {l m : List Int} (hl : l.length = m.length) (h : ∀ i, i < l.length → nth l i = nth m i) : l = m := by
  apply List.ext_getElem hl
  intro i h1 h2
  have := h i h1
  rwa [nth_get _ _ h1, nth_get _ _ h2] at this

/-! ### the orders of a group -/
def prodL : List Int → Int
  | [] => 1
  | o :: r => o * prodL r
def isGrp (l : List Int) : Bool := decide (l.length ≤ 3) && l.all (fun x => inB x 2 24) && decide (prodL l ≤ 24)
theorem prodL_append (l m : List Int) : prodL (l ++ m) = prodL l * prodL m := by
  induction l with
  | nil => simp [prodL]
  | cons o r ih => simp [prodL, ih, Int.mul_assoc]
theorem prodL_take (l : List Int) (k : Nat) (h : k < l.length) : prodL (l.take (k+1)) = prodL (l.take k) * nth l k := by
  rw [take_nth l k h, prodL_append]; simp [prodL]
theorem prodL_pos : ∀ (l : List Int), (∀ x ∈ l, 1 ≤ x) → 1 ≤ prodL l
  | [], _ => by simp [prodL]
  | o :: r, h => by
    have h1 := h o (by simp)
    have h2 := prodL_pos r (fun x hx => h x (by simp [hx]))
    simp only [prodL]
    have := Int.mul_le_mul h1 h2 (by omega) (by omega); omega
/-- the bound while the orders are multiplied -/
theorem prodL_bd : ∀ (k : Nat) (l : List Int), k ≤ l.length → (∀ j, j < k → 2 ≤ nth l j ∧ nth l j ≤ 24) → 1 ≤ prodL (l.take k) ∧ prodL (l.take k) ≤ 24 ^ k
  | 0, l, _, _ => by simp [prodL]
  | k+1, l, h2, h3 => by
    have ih := prodL_bd k l (by omega) (fun j hj => h3 j (by omega))
    have hk := h3 k (by omega)
    rw [prodL_take l k (by omega), Int.pow_succ]
    constructor
    · have := Int.mul_le_mul ih.1 (by omega : (1:Int) ≤ nth l k) (by omega) (by omega); omega
    · exact Int.mul_le_mul ih.2 hk.2 (by omega) (by have : (0:Int) ≤ 24 ^ k := Int.pow_nonneg (by omega); omega)
theorem prodL_bd3 (k : Nat) (l : List Int) (h : k ≤ l.length) (hk : k ≤ 3) (hall : ∀ j, j < k → 2 ≤ nth l j ∧ nth l j ≤ 24) : 1 ≤ prodL (l.take k) ∧ prodL (l.take k) ≤ 13824 := by
  have hp := prodL_bd k l h hall
  have hp2 : (24:Int)^k ≤ 24^3 := by rcases (by omega : k = 0 ∨ k = 1 ∨ k = 2 ∨ k = 3) with e | e | e | e <;> subst e <;> decide
  omega
/-- one more factor fits -/
theorem mul_fits {a b : Int} (h1 : 1 ≤ a) (h2 : a ≤ 13824) (h3 : 2 ≤ b) (h4 : b ≤ 24) : 0 ≤ a * b ∧ a * b ≤ 331776 :=
  ⟨Int.mul_nonneg (by omega) (by omega), by have := Int.mul_le_mul h2 h4 (by omega) (by omega); omega⟩
theorem isGrp_iff (l : List Int) : isGrp l = true ↔ l.length ≤ 3 ∧ (∀ j, j < l.length → 2 ≤ nth l j ∧ nth l j ≤ 24) ∧ prodL l ≤ 24 := by
  simp only [isGrp, Bool.and_eq_true, decide_eq_true_eq, List.all_eq_true, inB_t, and_assoc]
  constructor
  · rintro ⟨a, b, c⟩; exact ⟨a, fun j hj => b _ (nth_mem hj), c⟩
  · rintro ⟨a, b, c⟩; exact ⟨a, fun x hx => by obtain ⟨k, hk, rfl⟩ := mem_nth hx; exact b k hk, c⟩
theorem isGrp_len {l : List Int} (h : isGrp l = true) : l.length ≤ 3 := ((isGrp_iff l).1 h).1
theorem isGrp_nth {l : List Int} (h : isGrp l = true) {j : Nat} (hj : j < l.length) : 2 ≤ nth l j ∧ nth l j ≤ 24 := ((isGrp_iff l).1 h).2.1 j hj
theorem isGrp_prod {l : List Int} (h : isGrp l = true) : 1 ≤ prodL l ∧ prodL l ≤ 24 := by
  obtain ⟨a, b, c⟩ := (isGrp_iff l).1 h
  exact ⟨prodL_pos l (fun x hx => by obtain ⟨k, hk, rfl⟩ := mem_nth hx; have := b k hk; omega), c⟩
theorem isGrp_no_len {l : List Int} (h : 3 < l.length) : isGrp l = false := by
  rw [← Bool.not_eq_true, isGrp_iff]; omega
theorem isGrp_no_nth {l : List Int} {j : Nat} (hj : j < l.length) (h : ¬ (2 ≤ nth l j ∧ nth l j ≤ 24)) : isGrp l = false := by
  rw [← Bool.not_eq_true, isGrp_iff]; rintro ⟨_, b, _⟩; exact h (b j hj)
theorem isGrp_end {l : List Int} (h : l.length ≤ 3) (b : ∀ j, j < l.length → 2 ≤ nth l j ∧ nth l j ≤ 24) : isGrp l = decide (prodL l ≤ 24) := by
  by_cases c : prodL l ≤ 24
  · rw [(isGrp_iff l).2 ⟨h, b, c⟩]; simp [c]
  · have : isGrp l = false := by rw [← Bool.not_eq_true, isGrp_iff]; rintro ⟨_, _, d⟩; exact c d
    rw [this]; simp [c]
/-- the order, 0 where there is no group -/
def ordF (l : List Int) : Int := if isGrp l then prodL l else 0
/-- the order of a group -/
def ord (l : List Int) : Nat := (prodL l).toNat
theorem ord_cast {l : List Int} (h : isGrp l = true) : (ord l : Int) = prodL l := by
  have := isGrp_prod h; unfold ord; omega
theorem ord_bd {l : List Int} (h : isGrp l = true) : 1 ≤ ord l ∧ ord l ≤ 24 := by
  have := isGrp_prod h; have := ord_cast h; omega
theorem ordF_t {l : List Int} (h : isGrp l = true) : ordF l = (ord l : Int) := by unfold ordF; rw [if_pos h, ord_cast h]
theorem ordF_f {l : List Int} (h : isGrp l = false) : ordF l = 0 := by unfold ordF; rw [h]; rfl
theorem ordF_bd (l : List Int) : 0 ≤ ordF l ∧ ordF l ≤ 24 := by
  cases h : isGrp l
  · rw [ordF_f h]; omega
  · rw [ordF_t h]; have := ord_bd h; omega

/-! ### bits -/
/-- 2 to the power of n, and a shift, closed to simp -/
def pw (n : Nat) : Nat := 2 ^ n
def shr (a n : Nat) : Nat := a >>> n
theorem pw_eq (n : Nat) : pw n = 2 ^ n := rfl
theorem pw_pos (n : Nat) : 1 ≤ pw n := Nat.one_le_two_pow
theorem pw_le {n : Nat} (h : n ≤ 24) : pw n ≤ 16777216 := Nat.pow_le_pow_right (n := 2) (by omega) h
theorem pw_int (n : Nat) : (pw n : Int) = 2 ^ n := by unfold pw; simp
theorem shr_one (a : Nat) : shr a 1 = a / 2 := by unfold shr; rw [Nat.shiftRight_eq_div_pow]
theorem shr_le (a n : Nat) : shr a n ≤ a := by unfold shr; rw [Nat.shiftRight_eq_div_pow]; exact Nat.div_le_self _ _
def elems (a : Nat) : List Nat := (List.range 24).filter (fun i => a.testBit i)
def cnt (a : Nat) : Nat := (elems a).length
def bset (L : List Nat) : Nat := L.foldl (fun a z => a ||| 2 ^ z) 0
theorem mem_elems {a x : Nat} : x ∈ elems a ↔ x < 24 ∧ a.testBit x = true := by simp [elems]
theorem cnt_le (a : Nat) : cnt a ≤ 24 := by
  unfold cnt elems; exact Nat.le_trans (List.length_filter_le _ _) (by simp)
theorem elems_lt {a x : Nat} (h : x ∈ elems a) : x < 24 := (mem_elems.1 h).1
theorem bset_from (L : List Nat) : ∀ a : Nat, ∀ i, (L.foldl (fun a z => a ||| 2 ^ z) a).testBit i = (a.testBit i || decide (i ∈ L)) := by
  induction L with
  | nil => intro a i; simp
  | cons z L ih =>
    intro a i
    rw [List.foldl_cons, ih, Nat.testBit_or, Nat.testBit_two_pow]
    by_cases h : z = i
    · subst h; simp
    · have h' : ¬ i = z := fun e => h e.symm
      simp [h, h']
theorem testBit_bset (L : List Nat) (i : Nat) : (bset L).testBit i = decide (i ∈ L) := by
  unfold bset; rw [bset_from]; simp
theorem bset_snoc (L : List Nat) (z : Nat) : bset (L ++ [z]) = bset L ||| 2 ^ z := by simp [bset]
theorem bset_lt {L : List Nat} {n : Nat} (h : ∀ x ∈ L, x < n) : bset L < 2 ^ n := by
  apply Nat.lt_pow_two_of_testBit
  intro i hi
  rw [testBit_bset]
  simp only [decide_eq_false_iff_not]
  intro hm; have := h i hm; omega
theorem testBit_ge {a n i : Nat} (h : a < 2 ^ n) (hi : n ≤ i) : a.testBit i = false :=
  Nat.testBit_lt_two_pow (Nat.lt_of_lt_of_le h (Nat.pow_le_pow_right (by omega) hi))
theorem bset_elems {a : Nat} (h : a < 2 ^ 24) : bset (elems a) = a := by
  apply Nat.eq_of_testBit_eq
  intro i
  rw [testBit_bset]
  by_cases hi : i < 24
  · cases hb : a.testBit i <;> simp [mem_elems, hi, hb]
  · rw [testBit_ge h (by omega)]; simp [mem_elems, hi]
theorem eq_of_elems {a b : Nat} (ha : a < 2 ^ 24) (hb : b < 2 ^ 24) (h : ∀ x, x < 24 → a.testBit x = b.testBit x) : a = b := by
  apply Nat.eq_of_testBit_eq
  intro i
  by_cases hi : i < 24
  · exact h i hi
  · rw [testBit_ge ha (by omega), testBit_ge hb (by omega)]
/-- the bits up to k -/
def elemsTo (a k : Nat) : List Nat := (List.range k).filter (fun i => a.testBit i)
theorem elemsTo_succ (a k : Nat) : elemsTo a (k + 1) = elemsTo a k ++ if a.testBit k then [k] else [] := by
  unfold elemsTo
  rw [List.range_succ, List.filter_append]
  congr 1
  cases h : a.testBit k <;> simp [h]
theorem elemsTo_all {a k : Nat} (hk : k ≤ 24) (h : a < 2 ^ k) : elemsTo a k = elems a := by
  have key : ∀ d, elemsTo a (k + d) = elemsTo a k := by
    intro d
    induction d with
    | zero => rfl
    | succ d ih => rw [← Nat.add_assoc, elemsTo_succ, ih, testBit_ge h (by omega)]; simp
  have := key (24 - k)
  rw [show k + (24 - k) = 24 from by omega] at this
  exact this.symm
theorem elemsTo_len (a k : Nat) : (elemsTo a k).length ≤ k := by
  unfold elemsTo; exact Nat.le_trans (List.length_filter_le _ _) (by simp)
theorem shr_zero {a k : Nat} : shr a k = 0 ↔ a < 2 ^ k := by
  unfold shr
  rw [Nat.shiftRight_eq_div_pow, Nat.div_eq_zero_iff]
  constructor
  · rintro (h | h)
    · have : 0 < 2 ^ k := Nat.two_pow_pos k
      omega
    · exact h
  · intro h; exact .inr h
theorem shr_pos {a k : Nat} (h : ¬ shr a k = 0) (ha : a < 2 ^ 24) : k < 24 := by
  rw [shr_zero] at h
  rcases Nat.lt_or_ge k 24 with hk | hk
  · exact hk
  · exact absurd (Nat.lt_of_lt_of_le ha (Nat.pow_le_pow_right (by omega) hk)) h

/-! ### the number of bits -/
theorem elemsTo_shift (a : Nat) : ∀ n, elemsTo a (n + 1) = (if a.testBit 0 then [0] else []) ++ (elemsTo (a / 2) n).map (· + 1)
  | 0 => by rw [elemsTo_succ]; simp [elemsTo]
  | n + 1 => by
    rw [elemsTo_succ, elemsTo_shift a n, elemsTo_succ, List.map_append, ← List.append_assoc]
    congr 1
    rw [Nat.testBit_succ]
    cases (a / 2).testBit n <;> simp
theorem cntTo_half (a n : Nat) : (elemsTo a (n + 1)).length = a % 2 + (elemsTo (a / 2) n).length := by
  rw [elemsTo_shift, List.length_append, List.length_map]
  have : a.testBit 0 = decide (a % 2 = 1) := Nat.testBit_zero a
  rw [this]
  by_cases h : a % 2 = 1
  · simp [h]
  · have : a % 2 = 0 := by omega
    simp [this]
theorem cntTo_drop : ∀ (n a : Nat), 0 < a → a < 2 ^ n → (elemsTo (a &&& (a - 1)) n).length + 1 = (elemsTo a n).length
  | 0, a, h0, h1 => by simp at h1; omega
  | n + 1, a, h0, h1 => by
    rw [cntTo_half, cntTo_half a]
    have hm : (a &&& (a - 1)) % 2 = 0 := by
      have : (a &&& (a - 1)).testBit 0 = false := by
        rw [Nat.testBit_and, Nat.testBit_zero, Nat.testBit_zero]
        by_cases h : a % 2 = 1
        · have : ¬ (a - 1) % 2 = 1 := by omega
          simp [this]
        · simp [h]
      rw [Nat.testBit_zero] at this
      have := of_decide_eq_false this
      omega
    have hd : (a &&& (a - 1)) / 2 = (a / 2) &&& ((a - 1) / 2) := by
      apply Nat.eq_of_testBit_eq
      intro i
      rw [← Nat.testBit_succ, Nat.testBit_and, Nat.testBit_and, Nat.testBit_succ, Nat.testBit_succ]
    rw [hm, hd]
    by_cases h : a % 2 = 1
    · have e : (a - 1) / 2 = a / 2 := by omega
      rw [e, Nat.and_self, h]
      omega
    · have e : (a - 1) / 2 = a / 2 - 1 := by omega
      have hp : 2 ^ (n + 1) = 2 ^ n * 2 := Nat.pow_succ 2 n
      have ih := cntTo_drop n (a / 2) (by omega) (by omega)
      rw [e]
      omega
theorem cnt_drop {a : Nat} (h0 : 0 < a) (h : a < 2 ^ 24) : cnt (a &&& (a - 1)) + 1 = cnt a := cntTo_drop 24 a h0 h
theorem cnt_zero : cnt 0 = 0 := by decide
theorem cnt_pos {a : Nat} (h0 : 0 < a) (h : a < 2 ^ 24) : 1 ≤ cnt a := by have := cnt_drop h0 h; omega
/-- spec counts by halves -/
theorem cnt_half (a : Nat) (h : a < 2 ^ 24) : cnt a = a % 2 + cnt (a / 2) := by
  have h1 : a / 2 < 2 ^ 23 := by have : (2:Nat) ^ 24 = 2 ^ 23 * 2 := by decide
                                 omega
  have e : cnt (a / 2) = (elemsTo (a / 2) 23).length := by
    rw [elemsTo_all (by omega) h1]; rfl
  rw [e]
  exact cntTo_half a 23

/-! ### elements -/
def addF : List Int → Nat → Nat → Nat
  | [], _, _ => 0
  | o :: r, x, y => (x % o.toNat + y % o.toNat) % o.toNat + o.toNat * addF r (x / o.toNat) (y / o.toNat)
def negF : List Int → Nat → Nat
  | [], _ => 0
  | o :: r, x => (o.toNat - x % o.toNat) % o.toNat + o.toNat * negF r (x / o.toNat)
/-- every order is at least 1 -/
def Ords (l : List Int) : Prop := ∀ x ∈ l, 1 ≤ x
theorem isGrp_ords {l : List Int} (h : isGrp l = true) : Ords l := fun x hx => by
  obtain ⟨k, hk, rfl⟩ := mem_nth hx; have := isGrp_nth h hk; omega
theorem Ords.tail {o : Int} {r : List Int} (h : Ords (o :: r)) : Ords r := fun x hx => h x (by simp [hx])
theorem Ords.head {o : Int} {r : List Int} (h : Ords (o :: r)) : 1 ≤ o.toNat := by have := h o (by simp); omega
theorem ord_cons {o : Int} {r : List Int} (h : Ords (o :: r)) : ord (o :: r) = o.toNat * ord r := by
  have h1 := h o (by simp)
  have h2 := prodL_pos r h.tail
  unfold ord
  simp only [prodL]
  rw [Int.toNat_mul (by omega) (by omega)]
theorem ord_nil : ord [] = 1 := rfl
theorem digits_lt {d o a m : Nat} (h1 : d < o) (h2 : a < m) : d + o * a < o * m := by
  have : o * (a + 1) ≤ o * m := Nat.mul_le_mul_left o h2
  rw [Nat.mul_add] at this; omega
theorem addF_lt : ∀ (l : List Int), Ords l → ∀ x y, addF l x y < ord l
  | [], _, x, y => by simp [addF, ord_nil]
  | o :: r, h, x, y => by
    rw [ord_cons h]; simp only [addF]
    exact digits_lt (Nat.mod_lt _ (by have := h.head; omega)) (addF_lt r h.tail _ _)
theorem negF_lt : ∀ (l : List Int), Ords l → ∀ x, negF l x < ord l
  | [], _, x => by simp [negF, ord_nil]
  | o :: r, h, x => by
    rw [ord_cons h]; simp only [negF]
    exact digits_lt (Nat.mod_lt _ (by have := h.head; omega)) (negF_lt r h.tail _)
theorem dig_mod {d o a : Nat} (h : d < o) : (d + o * a) % o = d := by rw [Nat.add_mul_mod_self_left]; exact Nat.mod_eq_of_lt h
theorem dig_div {d o a : Nat} (h : d < o) : (d + o * a) / o = a := by
  rw [Nat.add_mul_div_left _ _ (by omega), Nat.div_eq_of_lt h]; omega
theorem addF_comm : ∀ (l : List Int) (x y : Nat), addF l x y = addF l y x
  | [], _, _ => rfl
  | o :: r, x, y => by simp only [addF]; rw [addF_comm r, Nat.add_comm (x % _)]
theorem addF_assoc : ∀ (l : List Int), Ords l → ∀ x y z, addF l (addF l x y) z = addF l x (addF l y z)
  | [], _, _, _, _ => rfl
  | o :: r, h, x, y, z => by
    have ho := h.head
    simp only [addF]
    rw [dig_mod (Nat.mod_lt _ (by omega)), dig_div (Nat.mod_lt _ (by omega)), dig_mod (Nat.mod_lt _ (by omega)), dig_div (Nat.mod_lt _ (by omega)), addF_assoc r h.tail]
    congr 1
    simp only [Nat.mod_add_mod, Nat.add_mod_mod, Nat.add_assoc]
theorem addF_zero : ∀ (l : List Int), Ords l → ∀ x, x < ord l → addF l 0 x = x
  | [], _, x, h => by simp [ord_nil] at h; simp [addF, h]
  | o :: r, h, x, hx => by
    have ho := h.head
    rw [ord_cons h] at hx
    have hd : x / o.toNat < ord r := (Nat.div_lt_iff_lt_mul (by omega)).2 (by rw [Nat.mul_comm]; exact hx)
    simp only [addF, Nat.zero_mod, Nat.zero_div, Nat.zero_add]
    rw [addF_zero r h.tail _ hd, Nat.mod_mod, Nat.mod_add_div]
theorem addF_neg : ∀ (l : List Int), Ords l → ∀ x, addF l x (negF l x) = 0
  | [], _, _ => rfl
  | o :: r, h, x => by
    have ho := h.head
    simp only [addF, negF]
    rw [dig_mod (Nat.mod_lt _ (by omega)), dig_div (Nat.mod_lt _ (by omega)), addF_neg r h.tail]
    have hx := Nat.mod_lt x (show 0 < o.toNat by omega)
    by_cases h0 : x % o.toNat = 0
    · rw [h0]; simp
    · rw [Nat.mod_eq_of_lt (show o.toNat - x % o.toNat < o.toNat by omega), show x % o.toNat + (o.toNat - x % o.toNat) = o.toNat by omega]
      simp
theorem addF_cancel {l : List Int} (h : Ords l) {x y z : Nat} (hy : y < ord l) (hz : z < ord l) (e : addF l x y = addF l x z) : y = z := by
  have : addF l (negF l x) (addF l x y) = addF l (negF l x) (addF l x z) := by rw [e]
  rw [← addF_assoc l h, ← addF_assoc l h, addF_comm l (negF l x) x, addF_neg l h, addF_zero l h _ hy, addF_zero l h _ hz] at this
  exact this

/-! ### sets -/
def shiftF (l : List Int) (a x : Nat) : Nat := bset ((elems a).map (fun y => addF l x y))
def sumF (l : List Int) (a b : Nat) : Nat := bset ((elems a).flatMap (fun x => (elems b).map (fun y => addF l x y)))
def oppF (l : List Int) (a : Nat) : Nat := bset ((elems a).map (fun x => negF l x))
theorem testBit_shiftF {l : List Int} {a x z : Nat} : (shiftF l a x).testBit z = true ↔ ∃ y, y < 24 ∧ a.testBit y = true ∧ addF l x y = z := by
  simp [shiftF, testBit_bset, mem_elems, and_assoc]
theorem testBit_sumF {l : List Int} {a b z : Nat} : (sumF l a b).testBit z = true ↔ ∃ x y, x < 24 ∧ a.testBit x = true ∧ y < 24 ∧ b.testBit y = true ∧ addF l x y = z := by
  simp only [sumF, testBit_bset, decide_eq_true_eq, List.mem_flatMap, List.mem_map, mem_elems]
  constructor
  · rintro ⟨x, ⟨h1, h2⟩, y, ⟨h3, h4⟩, h5⟩; exact ⟨x, y, h1, h2, h3, h4, h5⟩
  · rintro ⟨x, y, h1, h2, h3, h4, h5⟩; exact ⟨x, ⟨h1, h2⟩, y, ⟨h3, h4⟩, h5⟩
theorem shiftF_lt {l : List Int} (h : Ords l) (a x : Nat) : shiftF l a x < 2 ^ ord l := by
  apply bset_lt; intro z hz; simp at hz; obtain ⟨y, _, rfl⟩ := hz; exact addF_lt l h _ _
theorem sumF_lt {l : List Int} (h : Ords l) (a b : Nat) : sumF l a b < 2 ^ ord l := by
  apply bset_lt; intro z hz; simp at hz; obtain ⟨x, _, y, _, rfl⟩ := hz; exact addF_lt l h _ _
theorem oppF_lt {l : List Int} (h : Ords l) (a : Nat) : oppF l a < 2 ^ ord l := by
  apply bset_lt; intro z hz; simp at hz; obtain ⟨x, _, rfl⟩ := hz; exact negF_lt l h _
theorem bool_eq_of {a b : Bool} (h : a = true ↔ b = true) : a = b := by cases a <;> cases b <;> simp_all
theorem sumF_comm (l : List Int) (a b : Nat) : sumF l a b = sumF l b a := by
  apply Nat.eq_of_testBit_eq
  intro z
  apply bool_eq_of
  rw [testBit_sumF, testBit_sumF]
  constructor <;> rintro ⟨x, y, h1, h2, h3, h4, h5⟩ <;> exact ⟨y, x, h3, h4, h1, h2, by rw [addF_comm]; exact h5⟩
/-- a set of a group -/
def isSetB (l : List Int) (a : Int) : Bool := isGrp l && decide (0 ≤ a) && decide (a < 2 ^ ord l)
theorem isSetB_grp {l : List Int} {a : Int} (h : isSetB l a = true) : isGrp l = true := by
  simp [isSetB] at h; exact h.1.1
theorem pow_ord {l : List Int} (h : isGrp l = true) : 2 ^ ord l ≤ 2 ^ 24 := Nat.pow_le_pow_right (by omega) (ord_bd h).2
theorem isSetB_nat {l : List Int} {a : Int} (h : isSetB l a = true) : ∃ n : Nat, a = n ∧ n < 2 ^ ord l ∧ n < 2 ^ 24 ∧ isGrp l = true := by
  simp [isSetB] at h
  obtain ⟨⟨h1, h2⟩, h3⟩ := h
  obtain ⟨n, rfl⟩ := Int.eq_ofNat_of_zero_le h2
  have h4 : n < 2 ^ ord l := by exact_mod_cast h3
  exact ⟨n, rfl, h4, Nat.lt_of_lt_of_le h4 (pow_ord h1), h1⟩

/-! ### lists of elements, as ints -/
def castL (L : List Nat) : List Int := L.map (fun n : Nat => (n : Int))
def nthN (L : List Nat) (k : Nat) : Nat := L.getD k 0
theorem castL_len (L : List Nat) : (castL L).length = L.length := by simp [castL]
theorem castL_append (L M : List Nat) : castL (L ++ M) = castL L ++ castL M := by simp [castL]
theorem castL_snoc (L : List Nat) (n : Nat) : castL (L ++ [n]) = castL L ++ [(n : Int)] := by simp [castL]
theorem nth_castL (L : List Nat) (k : Nat) : nth (castL L) k = (nthN L k : Int) := by
  unfold nth castL nthN
  rw [List.getD_eq_getElem?_getD, List.getD_eq_getElem?_getD, List.getElem?_map]
  cases L[k]? <;> simp
theorem nthN_mem {L : List Nat} {k : Nat} (h : k < L.length) : nthN L k ∈ L := by
  unfold nthN; rw [List.getD_eq_getElem?_getD, List.getElem?_eq_getElem h]; exact List.getElem_mem h
theorem take_nthN (L : List Nat) (k : Nat) (h : k < L.length) : L.take (k + 1) = L.take k ++ [nthN L k] := by
  rw [List.take_succ_eq_append_getElem h]; simp [nthN, List.getD, h]
theorem bset_append (A B : List Nat) : bset (A ++ B) = bset A ||| bset B := by
  apply Nat.eq_of_testBit_eq
  intro i
  rw [Nat.testBit_or, testBit_bset, testBit_bset, testBit_bset]
  by_cases h : i ∈ A <;> by_cases h2 : i ∈ B <;> simp [h, h2]
theorem shr_shr (a k : Nat) : shr (shr a k) 1 = shr a (k + 1) := by unfold shr; rw [Nat.shiftRight_add]
theorem addF_bd {l : List Int} (h : isGrp l = true) (x y : Nat) : addF l x y < 24 := Nat.lt_of_lt_of_le (addF_lt l (isGrp_ords h) x y) (ord_bd h).2
theorem shiftF_bd {l : List Int} (h : isGrp l = true) (a x : Nat) : shiftF l a x < 2 ^ 24 := Nat.lt_of_lt_of_le (shiftF_lt (isGrp_ords h) a x) (pow_ord h)
theorem sumF_bd {l : List Int} (h : isGrp l = true) (a b : Nat) : sumF l a b < 2 ^ 24 := Nat.lt_of_lt_of_le (sumF_lt (isGrp_ords h) a b) (pow_ord h)
theorem oppF_bd {l : List Int} (h : isGrp l = true) (a : Nat) : oppF l a < 2 ^ 24 := Nat.lt_of_lt_of_le (oppF_lt (isGrp_ords h) a) (pow_ord h)
theorem elems_len (a : Nat) : (elems a).length ≤ 24 := cnt_le a
/-- the sums while they are gathered -/
def sumTo (l : List Int) (L : List Nat) (b : Nat) : Nat := bset (L.flatMap (fun x => (elems b).map (fun y => addF l x y)))
theorem sumTo_snoc (l : List Int) (L : List Nat) (x b : Nat) : sumTo l (L ++ [x]) b = sumTo l L b ||| shiftF l b x := by
  unfold sumTo shiftF; rw [List.flatMap_append, bset_append]; simp
theorem sumTo_all (l : List Int) (a b : Nat) : sumTo l (elems a) b = sumF l a b := rfl
theorem sumTo_bd {l : List Int} (h : isGrp l = true) (L : List Nat) (b : Nat) : sumTo l L b < 2 ^ 24 := by
  apply Nat.lt_of_lt_of_le _ (pow_ord h)
  apply bset_lt; intro z hz; simp at hz; obtain ⟨x, _, y, _, rfl⟩ := hz; exact addF_lt l (isGrp_ords h) _ _
def areF (l : List Int) (as : List Int) : Bool := as.all (isSetB l) && isGrp l
theorem addF_step {l : List Int} {k : Nat} (h : k < l.length) {q : Nat} (hq : nth l k = (q : Int)) (x y : Nat) :
    addF (l.drop k) x y = (x % q + y % q) % q + q * addF (l.drop (k + 1)) (x / q) (y / q) := by
  rw [drop_nth l k h, hq]; simp [addF]
end Go.Zz

/- Chains of orders: plain. -/
namespace Go.Zz

set_option maxHeartbeats 4000000
set_option maxRecDepth 100000

def dvS (M : List Nat) (i k : Nat) : List Nat := (M.set i (nthN M i / Nat.gcd (nthN M i) (nthN M k) * nthN M k)).set k (Nat.gcd (nthN M i) (nthN M k))
def dvT (M : List Nat) (i k : Nat) : List Nat := (M.set i (Nat.gcd (nthN M i) (nthN M k))).set k (nthN M i / Nat.gcd (nthN M i) (nthN M k) * nthN M k)
def dvIn (f : List Nat → Nat → Nat → List Nat) (i : Nat) (M : List Nat) : Nat → List Nat
  | 0 => M
  | m + 1 => f (dvIn f i M m) i (i + 1 + m)
def dvOut (f : List Nat → Nat → Nat → List Nat) (n : Nat) (M : List Nat) : Nat → List Nat
  | 0 => M
  | j + 1 => dvIn f j (dvOut f n M j) (n - (j + 1))
def dvSum (M : List Nat) : Nat → Nat
  | 0 => 1
  | k + 1 => dvSum M k + nthN M k - 1
def dvOk (n : Nat) (M : List Nat) : Bool := decide (M.length = n) && M.all fun x => decide (1 ≤ x) && decide (x ≤ 24)
def dvChk (f : List Nat → Nat → Nat → List Nat) (M : List Nat) : Bool :=
  ((List.range M.length).all fun i => (List.range (M.length - i)).all fun m => dvOk M.length (dvIn f i (dvOut f M.length M i) m)) && dvOk M.length (dvOut f M.length M M.length)
def dvEnd (f : List Nat → Nat → Nat → List Nat) (M : List Nat) : Nat := dvSum (dvOut f M.length M M.length) M.length
def dvAll (M : List Nat) : Bool := dvChk dvS M && (dvChk dvT M && decide (dvEnd dvS M = dvEnd dvT M))
theorem dv0 : dvAll [] = true := by decide +kernel
theorem dv1 : ((List.range 25).all fun a => decide (a < 2) || dvAll [a]) = true := by decide +kernel
theorem dv2 : ((List.range 25).all fun a => decide (a < 2) || (List.range 25).all fun b => decide (b < 2) || (decide (24 < a * b) || dvAll [a, b])) = true := by decide +kernel
theorem dv3 : ((List.range 25).all fun a => decide (a < 2) || (List.range 25).all fun b => decide (b < 2) || (decide (12 < a * b) || (List.range 25).all fun c => decide (c < 2) || (decide (24 < a * b * c) || dvAll [a, b, c]))) = true := by decide +kernel
theorem or_elim {p : Prop} [Decidable p] {b : Bool} (h : (decide p || b) = true) (hn : ¬ p) : b = true := by
  rw [decide_eq_false hn] at h; simpa using h
theorem rg {p : Nat → Bool} (h : (List.range 25).all p = true) {a : Nat} (ha : a ≤ 24) : p a = true := List.all_eq_true.1 h a (List.mem_range.2 (by omega))
def natG (l : List Int) : List Nat := l.map Int.toNat
theorem natG_cast {l : List Int} (h : isGrp l = true) : castL (natG l) = l := by
  unfold castL natG
  rw [List.map_map]
  refine (List.map_congr_left fun x hx => ?_).trans (List.map_id l)
  obtain ⟨i, hi, rfl⟩ := List.getElem_of_mem hx
  have := isGrp_nth h hi
  have e : nth l i = l[i] := by simp [nth, List.getD, hi]
  rw [e] at this
  show ((l[i].toNat : Nat) : Int) = l[i]
  omega
theorem dv_grp {l : List Int} (h : isGrp l = true) : dvAll (natG l) = true := by
  obtain ⟨h3, hn, hp⟩ := (isGrp_iff l).1 h
  match l, h3, hn, hp with
  | [], _, _, _ => exact dv0
  | [a], _, hn, _ =>
    have h0 : 2 ≤ a ∧ a ≤ 24 := hn 0 (by simp)
    exact or_elim (rg dv1 (a := a.toNat) (by omega)) (by omega)
  | [a, b], _, hn, hp =>
    have h0 : 2 ≤ a ∧ a ≤ 24 := hn 0 (by simp)
    have h1 : 2 ≤ b ∧ b ≤ 24 := hn 1 (by simp)
    have hpr : a * b ≤ 24 := by simpa [prodL] using hp
    have e : ((a.toNat * b.toNat : Nat) : Int) = a * b := by rw [Int.natCast_mul]; congr 1 <;> omega
    exact or_elim (or_elim (rg (or_elim (rg dv2 (a := a.toNat) (by omega)) (by omega)) (a := b.toNat) (by omega)) (by omega)) (by omega)
  | [a, b, c], _, hn, hp =>
    have h0 : 2 ≤ a ∧ a ≤ 24 := hn 0 (by simp)
    have h1 : 2 ≤ b ∧ b ≤ 24 := hn 1 (by simp)
    have h2 : 2 ≤ c ∧ c ≤ 24 := hn 2 (by simp)
    have hpr : a * b * c ≤ 24 := by rw [Int.mul_assoc]; simpa [prodL] using hp
    have e : ((a.toNat * b.toNat * c.toNat : Nat) : Int) = a * b * c := by rw [Int.natCast_mul, Int.natCast_mul]; congr 1; congr 1 <;> omega; omega
    have hab : a.toNat * b.toNat * 2 ≤ a.toNat * b.toNat * c.toNat := Nat.mul_le_mul_left _ (by omega)
    have u := rg (or_elim (rg dv3 (a := a.toNat) (by omega)) (by omega)) (a := b.toNat) (by omega)
    exact or_elim (or_elim (rg (or_elim (or_elim u (by omega)) (by omega)) (a := c.toNat) (by omega)) (by omega)) (by omega)
  | _ :: _ :: _ :: _ :: _, h3, _, _ => simp at h3
theorem dv_same {l : List Int} (h : isGrp l = true) : dvEnd dvS (natG l) = dvEnd dvT (natG l) := by
  have := dv_grp h
  unfold dvAll at this
  rw [Bool.and_eq_true, Bool.and_eq_true] at this
  exact of_decide_eq_true this.2.2
theorem dv_chkS {l : List Int} (h : isGrp l = true) : dvChk dvS (natG l) = true := by
  have := dv_grp h
  unfold dvAll at this
  rw [Bool.and_eq_true, Bool.and_eq_true] at this
  exact this.1
theorem dv_chkT {l : List Int} (h : isGrp l = true) : dvChk dvT (natG l) = true := by
  have := dv_grp h
  unfold dvAll at this
  rw [Bool.and_eq_true, Bool.and_eq_true] at this
  exact this.2.1
theorem dvOk_iff {n : Nat} {M : List Nat} (h : dvOk n M = true) : M.length = n ∧ ∀ i, i < n → 1 ≤ nthN M i ∧ nthN M i ≤ 24 := by
  unfold dvOk at h
  rw [Bool.and_eq_true] at h
  have hl := of_decide_eq_true h.1
  refine ⟨hl, fun i hi => ?_⟩
  have := List.all_eq_true.1 h.2 (nthN M i) (nthN_mem (by omega))
  simpa using this
theorem dvChk_in {f : List Nat → Nat → Nat → List Nat} {M : List Nat} (h : dvChk f M = true) {i m : Nat} (hi : i < M.length) (hm : m < M.length - i) : (dvIn f i (dvOut f M.length M i) m).length = M.length ∧ ∀ j, j < M.length → 1 ≤ nthN (dvIn f i (dvOut f M.length M i) m) j ∧ nthN (dvIn f i (dvOut f M.length M i) m) j ≤ 24 := by
  unfold dvChk at h
  rw [Bool.and_eq_true] at h
  exact dvOk_iff (List.all_eq_true.1 (List.all_eq_true.1 h.1 i (List.mem_range.2 hi)) m (List.mem_range.2 hm))
theorem dvChk_end {f : List Nat → Nat → Nat → List Nat} {M : List Nat} (h : dvChk f M = true) : (dvOut f M.length M M.length).length = M.length ∧ ∀ j, j < M.length → 1 ≤ nthN (dvOut f M.length M M.length) j ∧ nthN (dvOut f M.length M M.length) j ≤ 24 := by
  unfold dvChk at h
  rw [Bool.and_eq_true] at h
  exact dvOk_iff h.2
theorem dvSum_le (M : List Nat) (h : ∀ j, j < M.length → 1 ≤ nthN M j ∧ nthN M j ≤ 24) : ∀ k, k ≤ M.length → 1 ≤ dvSum M k ∧ dvSum M k ≤ 1 + 24 * k
  | 0, _ => by simp [dvSum]
  | k + 1, hk => by
    have := dvSum_le M h k (by omega)
    have := h k (by omega)
    unfold dvSum; omega
end Go.Zz

/- Multiples and places of elements: plain. -/
namespace Go.Zz
/-- n times an element -/
def mulF (l : List Int) (x : Nat) : Nat → Nat
  | 0 => 0
  | n + 1 => addF l (mulF l x n) x
theorem mulF_lt {l : List Int} (h : isGrp l = true) (x n : Nat) : mulF l x n < 24 := by
  cases n with
  | zero => exact (by decide : 0 < 24)
  | succ n => exact addF_bd h _ _
/-- what is left behind k places -/
def plR (l : List Int) (x : Nat) : Nat → Nat
  | 0 => x
  | k + 1 => plR l x k / (nth l k).toNat
def plP (l : List Int) (x : Nat) : Nat → List Nat
  | 0 => []
  | k + 1 => plP l x k ++ [plR l x k % (nth l k).toNat]
theorem plP_len (l : List Int) (x : Nat) : ∀ k, (plP l x k).length = k
  | 0 => rfl
  | k + 1 => by simp [plP, plP_len l x k]
theorem plR_le (l : List Int) (x : Nat) : ∀ k, plR l x k ≤ x
  | 0 => Nat.le_refl _
  | k + 1 => Nat.le_trans (Nat.div_le_self _ _) (plR_le l x k)
theorem plP_le (l : List Int) (x : Nat) : ∀ k, ∀ y ∈ plP l x k, y ≤ x
  | 0 => by simp [plP]
  | k + 1 => by
    intro y hy
    rw [plP, List.mem_append, List.mem_singleton] at hy
    rcases hy with hy | rfl
    · exact plP_le l x k y hy
    · exact Nat.le_trans (Nat.mod_le _ _) (plR_le l x k)
theorem plP_nth_le (l : List Int) (x : Nat) {k i : Nat} (hi : i < k) : nthN (plP l x k) i ≤ x := plP_le l x k _ (nthN_mem (by rw [plP_len]; exact hi))
end Go.Zz
