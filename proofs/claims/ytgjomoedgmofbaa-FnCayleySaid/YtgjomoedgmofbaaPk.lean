/- Plain laws: what the table of sums holds, and how it changes. -/
import Derived.Test.YtgjomoedgmofbaaPt
import Derived.Test.YtgjomoedgmofbaaPh
namespace Go.Zz
open Go.RowKit Go.Proofs
set_option maxHeartbeats 400000

def bumps (t : List Int) (S : List Nat) : List Int := S.foldl bump t
theorem bumps_len : ∀ (S : List Nat) (t : List Int), (bumps t S).length = t.length
  | [], _ => rfl
  | z :: S, t => by show (bumps (bump t z) S).length = _; rw [bumps_len S, bump_len]
theorem nth_bumps : ∀ (S : List Nat) (t : List Int) (z : Nat), (∀ x ∈ S, x < t.length) → nth (bumps t S) z = nth t z + (S.count z : Int)
  | [], t, z, _ => by simp [bumps]
  | x :: S, t, z, h => by
    show nth (bumps (bump t x) S) z = _
    rw [nth_bumps S _ z (fun y hy => by rw [bump_len]; exact h y (by simp [hy])), nth_bump t x z (h x (by simp)), List.count_cons]
    by_cases e : z = x
    · subst e; simp; omega
    · have e' : ¬ x = z := fun h => e h.symm
      simp [e, e']
def sumsL (l : List Int) (L M : List Nat) : List Nat := L.flatMap (fun x => M.map (fun y => addF l x y))
theorem bumps_append (t : List Int) (A B : List Nat) : bumps t (A ++ B) = bumps (bumps t A) B := by unfold bumps; rw [List.foldl_append]
theorem tabIn_bumps (l : List Int) (x : Nat) (t : List Int) (L : List Nat) : tabIn l x t L = bumps t (L.map (fun y => addF l x y)) := by
  unfold tabIn bumps; rw [List.foldl_map]
theorem tabOut_bumps (l : List Int) (b : Nat) : ∀ (L : List Nat) (t : List Int), tabOut l b t L = bumps t (sumsL l L (elems b))
  | [], _ => rfl
  | x :: L, t => by
    show tabOut l b (tabIn l x t (elems b)) L = _
    rw [tabOut_bumps l b L, tabIn_bumps]
    unfold sumsL; rw [List.flatMap_cons, bumps_append]
def tabN (l : List Int) (a b : Nat) : List Int := tabOut l b (List.replicate (ord l) 0) (elems a)
theorem tabN_len (l : List Int) (a b : Nat) : (tabN l a b).length = ord l := by unfold tabN; rw [tabOut_bumps, bumps_len]; simp
theorem sumsL_lt {l : List Int} (h : isGrp l = true) {L M : List Nat} : ∀ x ∈ sumsL l L M, x < ord l := by
  intro x hx
  obtain ⟨u, _, hv⟩ := List.mem_flatMap.1 hx
  obtain ⟨y, _, rfl⟩ := List.mem_map.1 hv
  exact addF_lt l (isGrp_ords h) _ _
theorem nth_zeros (n i : Nat) : nth (List.replicate n 0) i = 0 := by
  unfold nth
  simp only [List.getD_eq_getElem?_getD, List.getElem?_replicate]
  split <;> simp
theorem nth_tabN {l : List Int} (h : isGrp l = true) (a b z : Nat) : nth (tabN l a b) z = ((sumsL l (elems a) (elems b)).count z : Int) := by
  unfold tabN
  rw [tabOut_bumps, nth_bumps _ _ _ (by intro x hx; rw [List.length_replicate]; exact sumsL_lt h x hx), nth_zeros]; simp
/-- how often z is a sum -/
def cN (l : List Int) (L M : List Nat) (z : Nat) : Nat := (sumsL l L M).count z
theorem cN_cons (l : List Int) (x : Nat) (L M : List Nat) (z : Nat) : cN l (x :: L) M z = (M.map (fun y => addF l x y)).count z + cN l L M z := by
  unfold cN sumsL; rw [List.flatMap_cons, List.count_append]
theorem cN_cons_right (l : List Int) (x : Nat) (M : List Nat) (z : Nat) : ∀ L : List Nat, cN l L (x :: M) z = (L.map (fun u => addF l u x)).count z + cN l L M z
  | [] => by simp [cN, sumsL]
  | u :: L => by
    rw [cN_cons, cN_cons, cN_cons_right l x M z L, List.map_cons, List.map_cons, List.count_cons, List.count_cons]; omega
theorem cN_perm {l : List Int} {L L' M M' : List Nat} (hL : L.Perm L') (hM : M.Perm M') (z : Nat) : cN l L M z = cN l L' M' z := by
  have h1 : cN l L M z = cN l L' M z := (hL.flatMap_right _).count_eq z
  rw [h1]
  have h2 : ∀ K : List Nat, cN l K M z = cN l K M' z := by
    intro K
    induction K with
    | nil => rfl
    | cons u K ih => rw [cN_cons, cN_cons, ih, (hM.map _).count_eq z]
  exact h2 L'
theorem elems_put {a x : Nat} (hx : x < 24) (h : a.testBit x = false) : (elems (a ||| 2 ^ x)).Perm (x :: elems a) := by
  rw [List.perm_ext_iff_of_nodup (elems_nodup _) (List.nodup_cons.2 ⟨(fun e => absurd (mem_elems.1 e).2 (by rw [h]; simp)), elems_nodup a⟩)]
  intro i
  rw [mem_elems, List.mem_cons, mem_elems, Nat.testBit_or, Nat.testBit_two_pow]
  by_cases e : i = x
  · subst e; simp [hx]
  · have e' : ¬ x = i := fun h => e h.symm
    simp [e, e']
theorem cN_put {l : List Int} {a x : Nat} (hx : x < 24) (h : a.testBit x = false) (z : Nat) :
    cN l (elems (a ||| 2 ^ x)) (elems (a ||| 2 ^ x)) z = cN l (elems a) (elems a) z + 2 * ((elems a).map (fun y => addF l x y)).count z + (if addF l x x = z then 1 else 0) := by
  have hp := elems_put hx h
  rw [cN_perm hp hp, cN_cons, cN_cons_right, List.map_cons, List.count_cons]
  have e : (elems a).map (fun u => addF l u x) = (elems a).map (fun y => addF l x y) := by
    apply List.map_congr_left; intro u _; exact addF_comm l u x
  rw [e]
  by_cases e2 : addF l x x = z
  · simp [e2]; omega
  · simp [e2]; omega
/-- an amount is added at a place -/
def bumpN (t : List Int) (z : Nat) (m : Int) : List Int := t.set z (nth t z + m)
theorem bumpN_len (t : List Int) (z : Nat) (m : Int) : (bumpN t z m).length = t.length := by simp [bumpN]
theorem nth_bumpN (t : List Int) (z i : Nat) (m : Int) (hz : z < t.length) : nth (bumpN t z m) i = if i = z then nth t z + m else nth t i := by
  unfold bumpN nth
  simp only [List.getD_eq_getElem?_getD, List.getElem?_set]
  by_cases h : i = z
  · subst h; simp [hz]
  · have h' : ¬ z = i := fun e => h e.symm
    simp [h, h']
def chgL (l : List Int) (x : Nat) (n : Int) (t : List Int) (L : List Nat) : List Int := L.foldl (fun t y => bumpN t (addF l x y) (2 * n)) t
theorem chgL_snoc (l : List Int) (x : Nat) (n : Int) (t : List Int) (L : List Nat) (y : Nat) : chgL l x n t (L ++ [y]) = bumpN (chgL l x n t L) (addF l x y) (2 * n) := by
  unfold chgL; rw [List.foldl_append]; rfl
theorem chgL_len (l : List Int) (x : Nat) (n : Int) : ∀ (L : List Nat) (t : List Int), (chgL l x n t L).length = t.length
  | [], _ => rfl
  | y :: L, t => by show (chgL l x n (bumpN t (addF l x y) (2 * n)) L).length = _; rw [chgL_len l x n L, bumpN_len]
theorem nth_chgL {l : List Int} (h : isGrp l = true) (x : Nat) (n : Int) (z : Nat) : ∀ (L : List Nat) (t : List Int), t.length = ord l → nth (chgL l x n t L) z = nth t z + 2 * n * ((L.map (fun y => addF l x y)).count z : Int)
  | [], t, _ => by simp [chgL]
  | y :: L, t, hl => by
    have hz : addF l x y < t.length := by rw [hl]; exact addF_lt l (isGrp_ords h) _ _
    show nth (chgL l x n (bumpN t (addF l x y) (2 * n)) L) z = _
    rw [nth_chgL h x n z L _ (by rw [bumpN_len]; exact hl), nth_bumpN _ _ _ _ hz, List.map_cons, List.count_cons]
    by_cases e : z = addF l x y
    · subst e; simp [Int.mul_add]; omega
    · have e' : ¬ addF l x y = z := fun h => e h.symm
      simp [e, e']
def chgF (l : List Int) (x : Nat) (n : Int) (t : List Int) (L : List Nat) : List Int := bumpN (chgL l x n t L) (addF l x x) n
theorem chgF_len (l : List Int) (x : Nat) (n : Int) (t : List Int) (L : List Nat) : (chgF l x n t L).length = t.length := by unfold chgF; rw [bumpN_len, chgL_len]
theorem nth_chgF {l : List Int} (h : isGrp l = true) (x : Nat) (n : Int) (z : Nat) (L : List Nat) (t : List Int) (hl : t.length = ord l) :
    nth (chgF l x n t L) z = nth t z + 2 * n * ((L.map (fun y => addF l x y)).count z : Int) + (if addF l x x = z then n else 0) := by
  have hz : addF l x x < (chgL l x n t L).length := by rw [chgL_len, hl]; exact addF_lt l (isGrp_ords h) _ _
  unfold chgF
  rw [nth_bumpN _ _ _ _ hz]
  by_cases e : z = addF l x x
  · subst e; rw [nth_chgL h x n _ L t hl]; simp
  · have e' : ¬ addF l x x = z := fun h => e h.symm
    rw [if_neg e, if_neg e', nth_chgL h x n z L t hl]; omega
theorem tab_put {l : List Int} (h : isGrp l = true) {a x : Nat} (hx : x < 24) (hb : a.testBit x = false) : chgF l x 1 (tabN l a a) (elems a) = tabN l (a ||| 2 ^ x) (a ||| 2 ^ x) := by
  refine ext_nth (by rw [chgF_len, tabN_len, tabN_len]) fun z _ => ?_
  rw [nth_chgF h x 1 z _ _ (tabN_len l a a), nth_tabN h, nth_tabN h]
  have := cN_put (l := l) hx hb z
  unfold cN at this
  rw [this]
  push_cast
  by_cases e : addF l x x = z <;> simp [e]
theorem put_back {a x : Nat} (hb : a.testBit x = true) : andN a (2 ^ x) ||| 2 ^ x = a := by
  apply Nat.eq_of_testBit_eq; intro i
  rw [Nat.testBit_or, andN_bit, Nat.testBit_two_pow]
  by_cases e : x = i
  · subst e; simp [hb]
  · simp [e]
theorem andN_self_bit (a x : Nat) : (andN a (2 ^ x)).testBit x = false := by rw [andN_bit, Nat.testBit_two_pow]; simp
theorem tab_take {l : List Int} (h : isGrp l = true) {a x : Nat} (hx : x < 24) (hb : a.testBit x = true) : chgF l x (-1) (tabN l a a) (elems (andN a (2 ^ x))) = tabN l (andN a (2 ^ x)) (andN a (2 ^ x)) := by
  refine ext_nth (by rw [chgF_len, tabN_len, tabN_len]) fun z _ => ?_
  rw [nth_chgF h x (-1) z _ _ (tabN_len l a a), nth_tabN h, nth_tabN h]
  have := cN_put (l := l) hx (andN_self_bit a x) z
  rw [put_back hb] at this
  unfold cN at this
  rw [this]
  push_cast
  by_cases e : addF l x x = z <;> simp [e] <;> omega
theorem andN_none {a x : Nat} (hb : a.testBit x = false) : andN a (2 ^ x) = a := by
  apply Nat.eq_of_testBit_eq; intro i
  rw [andN_bit, Nat.testBit_two_pow]
  by_cases e : x = i
  · subst e; simp [hb]
  · simp [e]
/-- the places of positive numbers below k -/
def posTo (t : List Int) (k : Nat) : Nat := bset ((List.range k).filter (fun i => decide (0 < nth t i)))
theorem posTo_zero (t : List Int) : posTo t 0 = 0 := rfl
theorem posTo_yes {t : List Int} {k : Nat} (h : 0 < nth t k) : posTo t (k + 1) = posTo t k ||| 2 ^ k := by
  unfold posTo; rw [List.range_succ, List.filter_append]; simp only [List.filter_cons, List.filter_nil, h, decide_true, if_true]; exact bset_snoc _ _
theorem posTo_no {t : List Int} {k : Nat} (h : ¬ 0 < nth t k) : posTo t (k + 1) = posTo t k := by
  unfold posTo; rw [List.range_succ, List.filter_append]; simp [h]
theorem posTo_lt (t : List Int) (k : Nat) : posTo t k < 2 ^ k := by
  refine bset_lt fun x hx => ?_
  exact List.mem_range.1 (List.mem_filter.1 hx).1
theorem posTo_tab {l : List Int} (h : isGrp l = true) (a b : Nat) : posTo (tabN l a b) (ord l) = sumF l a b := by
  apply Nat.eq_of_testBit_eq; intro z
  refine bool_eq_of ?_
  unfold posTo
  rw [testBit_bset, decide_eq_true_iff, List.mem_filter, decide_eq_true_iff, nth_tabN h, testBit_sumF, List.mem_range]
  have e : 0 < ((sumsL l (elems a) (elems b)).count z : Int) ↔ z ∈ sumsL l (elems a) (elems b) := by
    rw [← List.count_pos_iff]; omega
  rw [e]
  constructor
  · rintro ⟨_, hz⟩
    obtain ⟨x, hx, hv⟩ := List.mem_flatMap.1 hz
    obtain ⟨y, hy, rfl⟩ := List.mem_map.1 hv
    exact ⟨x, y, (mem_elems.1 hx).1, (mem_elems.1 hx).2, (mem_elems.1 hy).1, (mem_elems.1 hy).2, rfl⟩
  · rintro ⟨x, y, h1, h2, h3, h4, rfl⟩
    exact ⟨addF_lt l (isGrp_ords h) _ _, List.mem_flatMap.2 ⟨x, mem_elems.2 ⟨h1, h2⟩, List.mem_map.2 ⟨y, mem_elems.2 ⟨h3, h4⟩, rfl⟩⟩⟩
/-- the sum of the squares of the first k -/
def sqTo (t : List Int) : Nat → Int
  | 0 => 0
  | k + 1 => sqTo t k + nth t k * nth t k
theorem sqTo_succ (t : List Int) (k : Nat) : sqTo t (k + 1) = sqTo t k + nth t k * nth t k := rfl
theorem sums_len (L M : List Nat) (l : List Int) : (sumsL l L M).length = L.length * M.length := by
  unfold sumsL
  induction L with
  | nil => simp
  | cons x L ih => rw [List.flatMap_cons, List.length_append, ih, List.length_map, List.length_cons, Nat.succ_mul]; omega
theorem tabN_bd {l : List Int} (h : isGrp l = true) (a b z : Nat) : 0 ≤ nth (tabN l a b) z ∧ nth (tabN l a b) z ≤ 576 := by
  rw [nth_tabN h]
  have h1 := List.count_le_length (a := z) (l := sumsL l (elems a) (elems b))
  rw [sums_len] at h1
  have h2 : (elems a).length * (elems b).length ≤ 24 * 24 := Nat.mul_le_mul (elems_len a) (elems_len b)
  omega
theorem sq_bd {x : Int} (h0 : 0 ≤ x) (h : x ≤ 576) : 0 ≤ x * x ∧ x * x ≤ 331776 :=
  ⟨Int.mul_nonneg h0 h0, by have := Int.mul_le_mul h h h0 (by omega : (0:Int) ≤ 576); omega⟩
theorem sqTo_bd {l : List Int} (h : isGrp l = true) (a b : Nat) : ∀ k, 0 ≤ sqTo (tabN l a b) k ∧ sqTo (tabN l a b) k ≤ 331776 * k
  | 0 => by simp [sqTo]
  | k + 1 => by
    have ih := sqTo_bd h a b k
    obtain ⟨h1, h2⟩ := tabN_bd h a b k
    have := sq_bd h1 h2
    rw [sqTo_succ]; push_cast; omega
theorem tabF_N {l : List Int} {a b : Nat} (h : (isSetB l a && isSetB l b) = true) : tabF l a b = tabN l a b := tabF_yes h
/-- whether counts are those that are kept -/
def keptB (l : List Int) (n : Int) (m : List Int) : Bool := isSetB l n && decide (m = tabF l n n)
theorem keptB_no {l : List Int} {n : Int} {m : List Int} (h : isSetB l n = false) : keptB l n m = false := by unfold keptB; rw [h]; rfl
theorem keptB_yes {l : List Int} {n : Int} {m : List Int} (h : isSetB l n = true) : keptB l n m = decide (m = tabF l n n) := by unfold keptB; rw [h]; rfl
theorem keptB_nat {l : List Int} {n : Int} {m : List Int} (h : keptB l n m = true) : ∃ a : Nat, n = a ∧ a < 2 ^ ord l ∧ a < 2 ^ 24 ∧ isGrp l = true ∧ m = tabN l a a ∧ isSetB l a = true := by
  unfold keptB at h
  obtain ⟨h1, h2⟩ := Bool.and_eq_true_iff.1 h
  obtain ⟨a, rfl, h3, h4, h5⟩ := isSetB_nat h1
  exact ⟨a, rfl, h3, h4, h5, by rw [of_decide_eq_true h2, tabF_N (by rw [h1]; rfl)], h1⟩
def engF (l : List Int) (n : Int) (m : List Int) : Int := if keptB l n m then sqTo m (ord l) else -1
theorem engF_no {l : List Int} {n : Int} {m : List Int} (h : keptB l n m = false) : engF l n m = -1 := by unfold engF; rw [h]; rfl
theorem engF_yes {l : List Int} {n : Int} {m : List Int} (h : keptB l n m = true) : engF l n m = sqTo m (ord l) := by unfold engF; rw [if_pos h]
def sukF (l : List Int) (n : Int) (m : List Int) : Int := if keptB l n m then (sumF l n.toNat n.toNat : Int) else -1
theorem sukF_no {l : List Int} {n : Int} {m : List Int} (h : keptB l n m = false) : sukF l n m = -1 := by unfold sukF; rw [h]; rfl
theorem sukF_yes {l : List Int} {a : Nat} {m : List Int} (h : keptB l a m = true) : sukF l a m = (sumF l a a : Int) := by unfold sukF; rw [if_pos h]; rfl
end Go.Zz
