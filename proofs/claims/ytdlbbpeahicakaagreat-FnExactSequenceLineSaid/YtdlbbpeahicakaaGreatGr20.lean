/- Automorphisms: plain. -/
import Derived.Test.YtdlbbpeahicakaaGreatGr9
import Derived.Test.YtdlbbpeahicakaaGreatGr1
import Derived.Test.YtdlbbpeahicakaaGreatGr19
import Derived.Test.YtdlbbpeahicakaaGreatGr4
import Derived.Test.YtdlbbpeahicakaaGreatGr18
import Derived.Test.YtdlbbpeahicakaaGreatGr3
import Derived.Test.YtdlbbpeahicakaaGreatGr5
import Derived.Test.YtdlbbpeahicakaaGreatGr11
import Derived.Laws.EntriesVeiled
import Derived.Test.YtdlbbpeahicakaaGreatGr2
import Derived.Laws.BytesArg
import Derived.BigRegion
namespace Go.Zz
set_option maxHeartbeats 1000000
set_option linter.unusedVariables false
set_option maxRecDepth 100000

theorem mulF_ord {l : List Int} (h : Ords l) (h0 : 0 < ord l) (x : Nat) : ∀ n, mulF l x n < ord l
  | 0 => h0
  | n + 1 => addF_lt l h _ _
theorem addF_zero_r {l : List Int} (h : Ords l) {x : Nat} (hx : x < ord l) : addF l x 0 = x := by rw [addF_comm]; exact addF_zero l h x hx
theorem mulF_one {l : List Int} (h : Ords l) {x : Nat} (hx : x < ord l) : mulF l x 1 = x := addF_zero l h x hx
/-- images times places, added up -/
def lcT (l : List Int) (I P : List Nat) : Nat → Nat
  | 0 => 0
  | k + 1 => addF l (lcT l I P k) (mulF l (nthN I k) (nthN P k))
def exV (l : List Int) (I : List Nat) (x : Nat) : Nat := lcT l I (plP l x l.length) l.length
def extF (l : List Int) (I : List Nat) : List Nat := (List.range (ord l)).map (exV l I)
theorem extF_len (l : List Int) (I : List Nat) : (extF l I).length = ord l := by simp [extF]
theorem lcT_lt {l : List Int} (h : isGrp l = true) (I P : List Nat) (k : Nat) : lcT l I P k < ord l := by
  have := ord_bd h
  cases k with
  | zero => show 0 < ord l; omega
  | succ k => exact addF_lt l (isGrp_ords h) _ _
theorem extF_nth {l : List Int} (I : List Nat) {x : Nat} (hx : x < ord l) : nthN (extF l I) x = exV l I x := by
  simp [nthN, extF, List.getD, hx]
theorem extF_lt {l : List Int} (h : isGrp l = true) (I : List Nat) : ∀ y ∈ extF l I, y < ord l := by
  intro y hy
  obtain ⟨x, -, rfl⟩ := List.mem_map.1 hy
  exact lcT_lt h _ _ _
theorem extF_take (l : List Int) (I : List Nat) {x : Nat} : (List.range (x + 1)).map (exV l I) = (List.range x).map (exV l I) ++ [exV l I x] := by
  rw [List.range_succ, List.map_append]; rfl
/-- sums are kept -/
def hmE (l : List Int) (F : List Nat) (x y : Nat) : Bool := decide (nthN F (addF l x y) = addF l (nthN F x) (nthN F y))
def homB (l : List Int) (F : List Nat) : Bool := (List.range (ord l)).all fun x => (List.range (ord l)).all fun y => hmE l F x y
theorem homB_iff {l : List Int} {F : List Nat} : homB l F = true ↔ ∀ x y, x < ord l → y < ord l → hmE l F x y = true := by
  unfold homB
  simp only [List.all_eq_true, List.mem_range]
  constructor
  · intro H x y h1 h2; exact H x h1 y h2
  · intro H x h1 y h2; exact H x y h1 h2
theorem homB_no {l : List Int} {F : List Nat} {x y : Nat} (h1 : x < ord l) (h2 : y < ord l) (e : hmE l F x y = false) : homB l F = false := by
  rw [← Bool.not_eq_true, homB_iff]; intro H; rw [H x y h1 h2] at e; cases e
def autB (l : List Int) (F : List Nat) : Bool := soB l (castL F) && (decide (soV l (castL F) = (fullN l : Int)) && homB l F)
/-- generators -/
def unitL (m k : Nat) : List Nat := (List.replicate m 0).set k 1
def genChk (l : List Int) : Bool := (List.range l.length).all fun k => (List.range (ord l)).any fun e => decide (plP l e l.length = unitL l.length k) && decide (mulF l e (nth l k).toNat = 0)
theorem gc0 : genChk [] = true := by decide +kernel
theorem gc1 : ((List.range 10).all fun a => decide (a < 2) || genChk [(a : Int)]) = true := by decide +kernel
theorem gc2 : ((List.range 10).all fun a => decide (a < 2) || (List.range 10).all fun b => decide (b < 2) || (decide (9 < a * b) || genChk [(a : Int), (b : Int)])) = true := by decide +kernel
theorem gc3 : ((List.range 10).all fun a => decide (a < 2) || (List.range 10).all fun b => decide (b < 2) || (decide (4 < a * b) || (List.range 10).all fun c => decide (c < 2) || (decide (9 < a * b * c) || genChk [(a : Int), (b : Int), (c : Int)]))) = true := by decide +kernel
theorem or_elimA {p : Prop} [Decidable p] {b : Bool} (h : (decide p || b) = true) (hn : ¬ p) : b = true := by
  rw [decide_eq_false hn] at h; simpa using h
theorem rgA {p : Nat → Bool} (h : (List.range 10).all p = true) {a : Nat} (ha : a ≤ 9) : p a = true := List.all_eq_true.1 h a (List.mem_range.2 (by omega))
theorem gen_grp {l : List Int} (h : isGrp l = true) (h9 : ord l ≤ 9) : genChk l = true := by
  have hc := ord_cast h
  obtain ⟨h3, hn, hp⟩ := (isGrp_iff l).1 h
  have hp : prodL l ≤ 9 := by omega
  clear hc
  match l, h3, hn, hp with
  | [], _, _, _ => exact gc0
  | [a], _, hn, hp =>
    have h0 : 2 ≤ a ∧ a ≤ 24 := hn 0 (by simp)
    have hp : a ≤ 9 := by simpa [prodL] using hp
    have := or_elimA (rgA gc1 (a := a.toNat) (by omega)) (by omega)
    rwa [show ((a.toNat : Nat) : Int) = a by omega] at this
  | [a, b], _, hn, hp =>
    have h0 : 2 ≤ a ∧ a ≤ 24 := hn 0 (by simp)
    have h1 : 2 ≤ b ∧ b ≤ 24 := hn 1 (by simp)
    have hpr : a * b ≤ 9 := by simpa [prodL] using hp
    have e : ((a.toNat * b.toNat : Nat) : Int) = a * b := by rw [Int.natCast_mul]; congr 1 <;> omega
    have q1 : a * 2 ≤ a * b := Int.mul_le_mul_of_nonneg_left h1.1 (by omega)
    have q2 : 2 * b ≤ a * b := Int.mul_le_mul_of_nonneg_right h0.1 (by omega)
    have := or_elimA (or_elimA (rgA (or_elimA (rgA gc2 (a := a.toNat) (by omega)) (by omega)) (a := b.toNat) (by omega)) (by omega)) (by omega)
    rwa [show ((a.toNat : Nat) : Int) = a by omega, show ((b.toNat : Nat) : Int) = b by omega] at this
  | [a, b, c], _, hn, hp =>
    have h0 : 2 ≤ a ∧ a ≤ 24 := hn 0 (by simp)
    have h1 : 2 ≤ b ∧ b ≤ 24 := hn 1 (by simp)
    have h2 : 2 ≤ c ∧ c ≤ 24 := hn 2 (by simp)
    have hpr : a * b * c ≤ 9 := by rw [Int.mul_assoc]; simpa [prodL] using hp
    have e : ((a.toNat * b.toNat * c.toNat : Nat) : Int) = a * b * c := by rw [Int.natCast_mul, Int.natCast_mul]; congr 1; congr 1 <;> omega; omega
    have e2 : ((a.toNat * b.toNat : Nat) : Int) = a * b := by rw [Int.natCast_mul]; congr 1 <;> omega
    have q0 : 2 * 2 ≤ a * b := Int.mul_le_mul h0.1 h1.1 (by omega) (by omega)
    have q1 : a * b * 2 ≤ a * b * c := Int.mul_le_mul_of_nonneg_left h2.1 (by omega)
    have q2 : 4 * c ≤ a * b * c := Int.mul_le_mul_of_nonneg_right (by omega) (by omega)
    have q3 : a * 2 ≤ a * b := Int.mul_le_mul_of_nonneg_left h1.1 (by omega)
    have q4 : 2 * b ≤ a * b := Int.mul_le_mul_of_nonneg_right h0.1 (by omega)
    have u := rgA (or_elimA (rgA gc3 (a := a.toNat) (by omega)) (by omega)) (a := b.toNat) (by omega)
    have := or_elimA (or_elimA (rgA (or_elimA (or_elimA u (by omega)) (by omega)) (a := c.toNat) (by omega)) (by omega)) (by omega)
    rwa [show ((a.toNat : Nat) : Int) = a by omega, show ((b.toNat : Nat) : Int) = b by omega, show ((c.toNat : Nat) : Int) = c by omega] at this
  | _ :: _ :: _ :: _ :: _, h3, _, _ => simp at h3
theorem unitL_nth {m k j : Nat} (hj : j < m) : nthN (unitL m k) j = if k = j then 1 else 0 := by
  unfold nthN unitL
  rw [List.getD_eq_getElem?_getD, List.getElem?_set]
  by_cases e : k = j
  · subst e; simp [hj]
  · simp [e, hj]
theorem lcT_unit {l : List Int} (h : isGrp l = true) {I : List Nat} {m k : Nat} (hk : k < m) (hI : nthN I k < ord l) :
    ∀ j, j ≤ m → lcT l I (unitL m k) j = if k < j then nthN I k else 0 := by
  have ho := isGrp_ords h
  have h1 := ord_bd h
  intro j
  induction j with
  | zero => intro _; rfl
  | succ j ih =>
    intro hj
    show addF l (lcT l I (unitL m k) j) (mulF l (nthN I j) (nthN (unitL m k) j)) = _
    rw [ih (by omega), unitL_nth (by omega)]
    by_cases e : k = j
    · subst e
      rw [if_neg (by omega), if_pos rfl, if_pos (by omega), mulF_one ho hI]
      exact addF_zero l ho _ hI
    · rw [if_neg e]
      by_cases e2 : k < j
      · rw [if_pos e2, if_pos (by omega)]; exact addF_zero_r ho hI
      · rw [if_neg e2, if_neg (by omega)]; exact addF_zero l ho 0 (by omega)
/-- what the reference asks of the images -/
def fineK (l : List Int) (I : List Nat) : Nat → Bool
  | 0 => true
  | k + 1 => fineK l I k && decide (mulF l (nthN I k) (nth l k).toNat = 0)
theorem fineK_iff {l : List Int} {I : List Nat} : ∀ {m : Nat}, fineK l I m = true ↔ ∀ k, k < m → mulF l (nthN I k) (nth l k).toNat = 0
  | 0 => by simp [fineK]
  | m + 1 => by
    unfold fineK
    rw [Bool.and_eq_true, fineK_iff, decide_eq_true_eq]
    constructor
    · rintro ⟨h1, h2⟩ k hk
      by_cases e : k = m
      · rw [e]; exact h2
      · exact h1 k (by omega)
    · intro H; exact ⟨fun k hk => H k (by omega), H m (by omega)⟩
theorem aut_fine {l : List Int} (h : isGrp l = true) (h9 : ord l ≤ 9) {I : List Nat} (hI : ∀ k, k < l.length → nthN I k < ord l) (ha : autB l (extF l I) = true) : fineK l I l.length = true := by
  have ho := isGrp_ords h
  have h1 := ord_bd h
  have hh : homB l (extF l I) = true := by unfold autB at ha; simp only [Bool.and_eq_true] at ha; exact ha.2.2
  have hom : ∀ x y, x < ord l → y < ord l → exV l I (addF l x y) = addF l (exV l I x) (exV l I y) := fun x y hx hy => by
    have := homB_iff.1 hh x y hx hy
    unfold hmE at this
    rw [decide_eq_true_eq, extF_nth I (addF_lt l ho x y), extF_nth I hx, extF_nth I hy] at this
    exact this
  have hlt : ∀ x, exV l I x < ord l := fun x => lcT_lt h _ _ _
  have h0 : exV l I 0 = 0 := by
    have := hom 0 0 (by omega) (by omega)
    rw [addF_zero l ho 0 (by omega)] at this
    refine addF_cancel ho (hlt 0) (show 0 < ord l by omega) ?_ (x := exV l I 0)
    rw [← this, addF_zero_r ho (hlt 0)]
  have hm : ∀ e n, e < ord l → exV l I (mulF l e n) = mulF l (exV l I e) n := by
    intro e n he
    induction n with
    | zero => exact h0
    | succ n ih =>
      show exV l I (addF l (mulF l e n) e) = addF l (mulF l (exV l I e) n) (exV l I e)
      rw [hom _ _ (mulF_ord ho (by omega) e n) he, ih]
  rw [fineK_iff]
  intro k hk
  have g := gen_grp h h9
  unfold genChk at g
  rw [List.all_eq_true] at g
  have g2 := g k (List.mem_range.2 hk)
  rw [List.any_eq_true] at g2
  obtain ⟨e, he, g3⟩ := g2
  rw [Bool.and_eq_true, decide_eq_true_eq, decide_eq_true_eq] at g3
  have he := List.mem_range.1 he
  have hv : exV l I e = nthN I k := by
    unfold exV
    rw [g3.1, lcT_unit h hk (hI k hk) _ (Nat.le_refl _), if_pos hk]
  have := hm e (nth l k).toNat he
  rw [g3.2, h0, hv] at this
  exact this.symm

/-! ### how many -/
def sumN (f : Nat → Nat) : Nat → Nat
  | 0 => 0
  | k + 1 => sumN f k + f k
theorem sumN_congr {f g : Nat → Nat} {n : Nat} (h : ∀ k, k < n → f k = g k) : sumN f n = sumN g n := by
  induction n with
  | zero => rfl
  | succ n ih => show sumN f n + f n = sumN g n + g n; rw [ih (fun k hk => h k (by omega)), h n (by omega)]
theorem sumN_add (f : Nat → Nat) (a : Nat) : ∀ b, sumN f (a + b) = sumN f a + sumN (fun c => f (a + c)) b
  | 0 => rfl
  | b + 1 => by show sumN f (a + b) + f (a + b) = sumN f a + (sumN (fun c => f (a + c)) b + f (a + b)); rw [sumN_add f a b]; omega
theorem sumN_mul (f : Nat → Nat) (M : Nat) : ∀ n, sumN f (M * n) = sumN (fun x => sumN (fun c => f (c + M * x)) M) n
  | 0 => rfl
  | n + 1 => by
    rw [Nat.mul_succ, sumN_add, sumN_mul f M n]
    show _ = sumN _ n + sumN (fun c => f (c + M * n)) M
    congr 1
    exact sumN_congr fun c _ => by rw [Nat.add_comm]
theorem sumN_le {f : Nat → Nat} {b : Nat} (h : ∀ k, f k ≤ b) : ∀ n, sumN f n ≤ n * b
  | 0 => by simp [sumN]
  | n + 1 => by have := sumN_le h n; have := h n; rw [Nat.succ_mul]; show sumN f n + f n ≤ _; omega
theorem sumN_mono (f : Nat → Nat) (a : Nat) : ∀ d, sumN f a ≤ sumN f (a + d)
  | 0 => Nat.le_refl _
  | d + 1 => Nat.le_trans (sumN_mono f a d) (Nat.le_add_right _ _)
/-- the program: image after image -/
def autT (l : List Int) : Nat → List Nat → Nat
  | 0, X => if autB l (extF l X) then 1 else 0
  | r + 1, X => sumN (fun x => autT l r (X ++ [x])) (ord l)
def digQ (n c : Nat) : Nat → Nat
  | 0 => c
  | i + 1 => digQ n c i / n
def digU (n c : Nat) : Nat → List Nat
  | 0 => []
  | i + 1 => (digQ n c i % n) :: digU n c i
theorem digU_len (n c : Nat) : ∀ i, (digU n c i).length = i
  | 0 => rfl
  | i + 1 => by simp [digU, digU_len n c i]
theorem digU_lt {n : Nat} (h : 0 < n) (c : Nat) : ∀ i, ∀ x ∈ digU n c i, x < n
  | 0 => by simp [digU]
  | i + 1 => by
    intro x hx
    rw [digU, List.mem_cons] at hx
    rcases hx with rfl | hx
    · exact Nat.mod_lt _ h
    · exact digU_lt h c i x hx
theorem digQ_eq (n c : Nat) : ∀ i, digQ n c i = c / n ^ i
  | 0 => by simp [digQ]
  | i + 1 => by rw [digQ, digQ_eq n c i, Nat.div_div_eq_div_mul, Nat.pow_succ]
theorem digQ_le (n c i : Nat) : digQ n c i ≤ c := by rw [digQ_eq]; exact Nat.div_le_self _ _
theorem dig_add {n : Nat} (h : 0 < n) (c x r : Nat) : ∀ i, i ≤ r → digU n (c + n ^ r * x) i = digU n c i
  | 0, _ => rfl
  | i + 1, hi => by
    rw [digU, digU, dig_add h c x r i (by omega), digQ_eq, digQ_eq]
    congr 1
    obtain ⟨d, rfl⟩ : ∃ d, r = i + 1 + d := ⟨r - (i + 1), by omega⟩
    rw [show n ^ (i + 1 + d) * x = n ^ i * (n * (n ^ d * x)) by rw [Nat.pow_add, Nat.pow_succ]; simp [Nat.mul_assoc], Nat.add_mul_div_left _ _ (Nat.pow_pos h), Nat.add_mul_mod_self_left]
theorem dig_top {n c x r : Nat} (hc : c < n ^ r) (hx : x < n) : digU n (c + n ^ r * x) (r + 1) = x :: digU n c r := by
  have h : 0 < n := by omega
  rw [digU, dig_add h c x r r (Nat.le_refl _), digQ_eq, Nat.add_mul_div_left _ _ (Nat.pow_pos h), Nat.div_eq_of_lt hc, Nat.zero_add, Nat.mod_eq_of_lt hx]
def autOne (l : List Int) (I : List Nat) : Nat := if fineK l I l.length && autB l (extF l I) then 1 else 0
/-- the reference: code after code -/
def autR (l : List Int) (K : Nat) : Nat := sumN (fun c => autOne l (digU (ord l) c l.length)) K
theorem autT_sum (l : List Int) : ∀ r X, autT l r X = sumN (fun c => if autB l (extF l (X ++ digU (ord l) c r)) then 1 else 0) (ord l ^ r)
  | 0, X => by simp [autT, sumN, digU]
  | r + 1, X => by
    rw [Nat.pow_succ, sumN_mul]
    show sumN (fun x => autT l r (X ++ [x])) (ord l) = _
    refine sumN_congr fun x hx => ?_
    rw [autT_sum l r]
    refine sumN_congr fun c hc => ?_
    rw [dig_top hc hx, List.append_assoc]; rfl
theorem aut_same {l : List Int} (h : isGrp l = true) (h9 : ord l ≤ 9) : autT l l.length [] = autR l (ord l ^ l.length) := by
  rw [autT_sum, autR]
  have h1 := ord_bd h
  refine sumN_congr fun c _ => ?_
  rw [List.nil_append, autOne]
  cases ha : autB l (extF l (digU (ord l) c l.length))
  · simp
  · rw [aut_fine h h9 (fun k hk => digU_lt (by omega) c _ _ (nthN_mem (by rw [digU_len]; exact hk))) ha]; rfl
theorem autT_le (l : List Int) : ∀ r X, autT l r X ≤ ord l ^ r
  | 0, X => by unfold autT; split <;> simp
  | r + 1, X => by
    rw [Nat.pow_succ, Nat.mul_comm]
    exact sumN_le (fun x => autT_le l r (X ++ [x])) (ord l)
theorem autR_le (l : List Int) (K : Nat) : autR l K ≤ K := by
  have := sumN_le (f := fun c => autOne l (digU (ord l) c l.length)) (b := 1) (fun c => by unfold autOne; split <;> omega) K
  rw [Nat.mul_one] at this; exact this
end Go.Zz

/- Automorphisms: IsAutomorphism of both. -/
namespace Go.Zz
open Go.RowKit Go.Proofs
set_option maxHeartbeats 4000000
set_option maxRecDepth 8000

end Go.Zz

/- Multiples and places: the program; multiples of the reference. -/
namespace Go.Zz
open Go.RowKit Go.Proofs
set_option maxHeartbeats 400000
set_option maxRecDepth 4000

end Go.Zz

/- Multiples: the reference. -/
namespace Go.Zz
open Go.RowKit Go.Proofs
set_option maxHeartbeats 400000
set_option maxRecDepth 4000

end Go.Zz

/- Places: the reference. -/
namespace Go.Zz
open Go.RowKit Go.Proofs
set_option maxHeartbeats 400000
set_option maxRecDepth 4000

end Go.Zz

/- Maps that images of generators give: l27Extend of the reference. -/
namespace Go.Zz
open Go.RowKit Go.Proofs
set_option maxHeartbeats 2000000
set_option maxRecDepth 8000

end Go.Zz

/- The number of automorphisms: the reference. -/
namespace Go.Zz
open Go.RowKit Go.Proofs
set_option maxHeartbeats 4000000
set_option maxRecDepth 8000

/-- all automorphisms are asked for -/
def auB (l : List Int) : Bool := isGrp l && decide (ord l ≤ 9)
theorem pow9 {n k : Nat} (hn : n ≤ 9) (hk : k ≤ 3) : n ^ k ≤ 729 :=
  Nat.le_trans (Nat.pow_le_pow_left hn k) (Nat.pow_le_pow_right (n := 9) (by omega) hk)
theorem autR_snoc (l : List Int) (K : Nat) : autR l (K + 1) = autR l K + autOne l (digU (ord l) K l.length) := rfl
theorem autOne_no {l : List Int} {I : List Nat} (h : fineK l I l.length = false) : autOne l I = 0 := by unfold autOne; rw [h]; rfl
theorem autOne_not {l : List Int} {I : List Nat} (h : autB l (extF l I) = false) : autOne l I = 0 := by unfold autOne; rw [h]; simp
theorem autOne_yes {l : List Int} {I : List Nat} (h : fineK l I l.length = true) (h2 : autB l (extF l I) = true) : autOne l I = 1 := by unfold autOne; rw [h, h2]; rfl
end Go.Zz

/- The number of automorphisms: the program's closure. -/
namespace Go.Zz
open Go.RowKit Go.Proofs
set_option maxHeartbeats 4000000
set_option maxRecDepth 8000

theorem row_at {bR m : Nat} {X : List Nat} {w : World} (h : RowX bR m X w) (hX : X.length = m) {i : Nat} (hi : i < m) : ∀ W, Ext w W → W.cell? ⟨bR, i, none⟩ = some (.int .i64 (nthN X i)) := by
  intro W hW
  obtain ⟨Z, h1, h2, h3⟩ := h.ext hW
  have hZ : Z = castL X := by rw [← h2, List.take_of_length_le (by omega)]
  subst hZ
  refine h3.cell (i := i) ?_
  rw [← nth_castL]
  simp [nth, List.getD, show i < (castL X).length by omega]
theorem row_ix (bR m : Nat) : ∀ (i : Nat) W, i < m → (Instr.indexAt 22 (.slice (some ⟨bR, 0, none⟩) m m) (.int .i64 (i : Int))).run Tryz.prog W = .ok (.pointer (some ⟨bR, i, none⟩)) W := fun i W hi => by
  rw [run_indexAt_slice (h := elI), if_pos (by omega), szI]
  simp [Result.andThen, Addr.add_lit]
end Go.Zz

/- The number of automorphisms: the program. -/
namespace Go.Zz
open Go.RowKit Go.Proofs
set_option maxHeartbeats 4000000
set_option maxRecDepth 8000

theorem own_blk0 {w0 w : World} {g n : Nat} {l : List Int} (h : Own 3 w0 w (.slice (some ⟨g, 0, none⟩) n n) l) (hn : l.length = n) : Blk w g 3 (l.map (Value.int .i64)).toArray := by
  obtain ⟨⟨h1, h2⟩, -⟩ := h
  rcases h2 with ⟨hv, -⟩ | ⟨g', cap, cur, hv, hg, hh, hnc, hcm, hcs, htk⟩
  · simp at hv
  · simp only [Value.slice.injEq, Option.some.injEq, Addr.mk.injEq, and_true] at hv
    obtain ⟨rfl, -, rfl⟩ := hv
    have e : cur = (l.map (Value.int .i64)).toArray := by
      apply Array.toList_inj.1
      rw [← htk, List.take_of_length_le (by simp [hcs]; omega)]
    rw [← e]; exact hh
end Go.Zz

/- FormatInt of the reference. -/
namespace Go.Zz
open Go.RowKit Go.Proofs
set_option maxHeartbeats 400000
set_option maxRecDepth 4000

theorem bytes_lit (w : World) (y : Int) :
    (convert 33 9 (.slice (some ⟨w.heap.size, 0, none⟩) 1 1)).run Tryz.prog (w.alloc (.cells #[.int .u8 y] 5)) = .ok (.string (strOfNums [y])) (w.alloc (.cells #[.int .u8 y] 5)) :=
  run_convert_bytes_arg (P := Tryz.prog) _ 33 5 (by rfl) (by rfl) w.heap.size 0 1 1 [y] rfl (fun i hi => by
    have : i = 0 := by omega
    subst this
    simp) _ (by rfl)
def digs (m : Nat) (s : ByteArray) : ByteArray := if m = 0 then s else digs (m / 10) (strOfNums [48 + (m % 10 : Nat)] ++ s)
theorem digs_zero (s : ByteArray) : digs 0 s = s := by rw [digs, if_pos rfl]
theorem digs_pos {m : Nat} (s : ByteArray) (h : ¬ m = 0) : digs m s = digs (m / 10) (strOfNums [48 + (m % 10 : Nat)] ++ s) := by rw [digs, if_neg h]
def emptyB : ByteArray := ⟨#[]⟩
def fmtB (n : Int) : ByteArray := if n = 0 then ⟨#[48]⟩ else if n < 0 then ⟨#[45]⟩ ++ digs n.natAbs ⟨#[]⟩ else digs n.natAbs ⟨#[]⟩
theorem fmtB_pos {n : Nat} (h : 0 < n) : fmtB n = digs n ⟨#[]⟩ := by unfold fmtB; rw [if_neg (by omega), if_neg (by omega)]; rfl
theorem sFormatInt_nat (n : Nat) (hn : n < 1000000000000) (hp : 0 < n) (w : World) :
    Calls Tryz.prog 52 #[.int .i64 n] w fun e w' => e = .returned (.string (fmtB n)) ∧ Ext w w' := by
  have h0 : ¬ (n : Int) = 0 := by omega
  have h1 : ¬ (n : Int) < 0 := by omega
  have Hf := Lib.hid (fmtB_pos hp)
  go_enter Tryz.func52, Tryz.ntmps52
  go_wp2_with fail
  go_loopw [0, 3] (fun d s wr => ∃ m : Nat, m < 1000000000000 ∧ d = .int .i64 m ∧ Ext w wr ∧ ∃ t : ByteArray, s = .string t ∧ t.size + m ≤ n ∧ Hid (digs m t = fmtB n)) (fun d _ _ => (intOf d).toNat)
  case atStart => exact ⟨n, hn, rfl, Ext.refl _, _, rfl, by simp [ByteArray.size], Lib.hid Hf.out.symm⟩
  case round =>
    obtain ⟨m, hm, rfl, hE, t, rfl, hsz, Ht⟩ := hrel
    by_cases hz : m = 0
    · subst hz
      go_wp2_with fail
      go_ret
      exact ⟨ret_str (by rw [← Ht.out, digs_zero]), hE⟩
    · have h2 : ¬ (m : Int) = 0 := by omega
      obtain ⟨r, hr⟩ : ∃ r : Nat, (m : Int) % 10 = r := ⟨m % 10, by omega⟩
      have hr10 : r < 10 := by omega
      obtain ⟨q, hq⟩ : ∃ q : Nat, (m : Int) / 10 = q := ⟨m / 10, by omega⟩
      have Hr := Lib.hid (show r = m % 10 by omega)
      have Hq := Lib.hid (show q = m / 10 by omega)
      have hcv := bytes_lit wr (48 + r)
      have hs1 : (strOfNums [48 + (r : Int)]).size = 1 := strOfNums_size _
      go_wp2_with fail
      go_roundw
      case rel =>
        have hq' := Hq.out
        have hr' := Hr.out
        exact ⟨q, by omega, rfl, hE.alloc _, _, rfl, by (rw [ByteArray.size_append, hs1]; omega), Lib.hid (by rw [← Ht.out, digs_pos t hz, ← hq', ← hr'])⟩
      case measure => 
        have hq' := Hq.out
        (simp [intOf]; omega)
theorem fmtB_m1 : fmtB (-1) = ⟨#[45]⟩ ++ (strOfNums [49] ++ ⟨#[]⟩) := by
  unfold fmtB
  rw [if_neg (by omega), if_pos (by omega)]
  show _ ++ digs 1 _ = _
  rw [digs_pos _ (by omega), digs_zero]
  rfl
theorem sFormatInt_m1 (w : World) :
    Calls Tryz.prog 52 #[.int .i64 (-1)] w fun e w' => e = .returned (.string (fmtB (-1))) ∧ Ext w w' := by
  have Hf := Lib.hid fmtB_m1
  go_enter Tryz.func52, Tryz.ntmps52
  go_wp2_with fail
  go_loopw [0, 3] (fun d s wr => Ext w wr ∧ ((d = .int .i64 (-1) ∧ s = .string ⟨#[]⟩) ∨ (d = .int .i64 0 ∧ s = .string (strOfNums [49] ++ ⟨#[]⟩)))) (fun d _ _ => (intOf d).natAbs)
  case atStart => exact ⟨Ext.refl _, Or.inl ⟨rfl, rfl⟩⟩
  case round =>
    obtain ⟨hE, ⟨rfl, rfl⟩ | ⟨rfl, rfl⟩⟩ := hrel
    · have hcv := bytes_lit wr 49
      have hs1 : (strOfNums [(49 : Int)]).size = 1 := strOfNums_size _
      go_wp2_with fail
      go_roundw
      case rel => exact ⟨hE.alloc _, Or.inr ⟨rfl, rfl⟩⟩
      case measure => (simp [intOf])
    · have hs1 : (strOfNums [(49 : Int)] ++ ⟨#[]⟩).size = 1 := by rw [ByteArray.size_append, strOfNums_size]; rfl
      obtain ⟨t, ht⟩ : ∃ t, t = (strOfNums [(49 : Int)] ++ ⟨#[]⟩) := ⟨_, rfl⟩
      rw [← ht] at hs1 Hf ⊢
      go_wp2_with fail
      go_ret
      exact ⟨ret_str (by rw [Hf.out, ht]), hE⟩
theorem sFormatInt_any (n : Int) (hn : -1 ≤ n ∧ n < 1000000000000) (w : World) :
    Calls Tryz.prog 52 #[.int .i64 n] w fun e w' => e = .returned (.string (fmtB n)) ∧ Ext w w' := by
  rcases (by omega : n = -1 ∨ n = 0 ∨ 0 < n) with rfl | rfl | h
  · exact sFormatInt_m1 w
  · have e : fmtB 0 = ⟨#[48]⟩ := by unfold fmtB; rw [if_pos rfl]
    have He := Lib.hid e
    clear e
    go_enter Tryz.func52, Tryz.ntmps52
    go_wp2_with fail
    go_ret
    exact ⟨ret_str He.out.symm, Ext.refl _⟩
  · obtain ⟨m, rfl⟩ := Int.eq_ofNat_of_zero_le (show 0 ≤ n by omega)
    exact sFormatInt_nat m (by omega) (by omega) w
end Go.Zz

/- Slices of bytes that a call makes; the reversal of a list in place. -/
namespace Go.Zz
open Go.RowKit Go.Proofs
set_option maxHeartbeats 400000

def revk (l : List Int) (k : Nat) : List Int := (List.range l.length).map fun i => if i < k ∨ l.length ≤ i + k then nth l (l.length - 1 - i) else nth l i
theorem revk_len (l : List Int) (k : Nat) : (revk l k).length = l.length := by simp [revk]
theorem revk_get (l : List Int) (k i : Nat) (h : i < l.length) : nth (revk l k) i = if i < k ∨ l.length ≤ i + k then nth l (l.length - 1 - i) else nth l i := by
  simp [revk, nth, h]
theorem nth_ext {a b : List Int} (h : a.length = b.length) (H : ∀ i, i < a.length → nth a i = nth b i) : a = b := by
  apply List.ext_getElem h
  intro i h1 h2
  have := H i h1
  simpa [nth, h1, h2] using this
theorem nth_set (l : List Int) (k i : Nat) (y : Int) : nth (l.set k y) i = if i = k ∧ k < l.length then y else nth l i := by
  unfold nth
  by_cases h : i = k
  · subst h
    by_cases h2 : i < l.length
    · simp [h2]
    · simp [h2]
  · simp [h, List.getElem?_set_ne (Ne.symm h)]
theorem revk_zero (l : List Int) : revk l 0 = l := nth_ext (revk_len _ _) fun i hi => by
  rw [revk_len] at hi
  rw [revk_get _ _ _ hi, if_neg (by omega)]
theorem revk_end (l : List Int) (k : Nat) (h : l.length ≤ 2 * k + 1) : revk l k = l.reverse := nth_ext (by rw [revk_len]; simp) fun i hi => by
  rw [revk_len] at hi
  have e : nth l.reverse i = nth l (l.length - 1 - i) := by
    rw [nth_get _ _ (by simpa using hi), nth_get _ _ (by omega)]; simp
  rw [revk_get _ _ _ hi, e]
  split
  · rfl
  · rw [show l.length - 1 - i = i by omega]
theorem revk_step (l : List Int) (k : Nat) (h : 2 * k + 1 < l.length) :
    ((revk l k).set k (nth (revk l k) (l.length - 1 - k))).set (l.length - 1 - k) (nth (revk l k) k) = revk l (k + 1) := nth_ext (by simp [revk_len]) fun i hi => by
  simp only [List.length_set, revk_len] at hi
  rw [nth_set, nth_set, revk_get _ _ _ hi, revk_get _ _ _ hi, revk_get _ _ _ (show l.length - 1 - k < l.length by omega), revk_get _ _ _ (show k < l.length by omega)]
  simp only [List.length_set, revk_len]
  by_cases h1 : i = l.length - 1 - k
  · rw [if_pos ⟨h1, by omega⟩, if_neg (by omega), if_pos (by omega), h1, show l.length - 1 - (l.length - 1 - k) = k by omega]
  · rw [if_neg (by omega)]
    by_cases h2 : i = k
    · rw [if_pos ⟨h2, by omega⟩, if_neg (by omega), if_pos (by omega), h2]
    · rw [if_neg (by omega)]
      by_cases h3 : i < k ∨ l.length ≤ i + k
      · rw [if_pos h3, if_pos (by omega)]
      · rw [if_neg h3, if_neg (by omega)]

theorem infoB : (Tryz.prog.info? 5).map (fun i => (i.zero, i.size, i.bytes)) = some (some (.int .u8 0), 1, 1) := by kernel_rfl
theorem undB : Tryz.prog.underlying 33 = some (.slice 5) := by kernel_rfl
/-- v is a slice of bytes of the call's own, which reads as l -/
def OwnB (w0 w : World) (v : Value) (l : List Int) : Prop :=
  w.ownsRow w0.heap.size 5 1 v l.length (l.map (Value.int .u8)) ∧ l.length ≤ 17592186044416
theorem OwnB.alloc {w0 w : World} {v : Value} {l : List Int} (h : OwnB w0 w v l) (o : Obj) : OwnB w0 (w.alloc o) v l := ⟨h.1.alloc o, h.2⟩
theorem OwnB.blk {w0 w : World} {v : Value} {l : List Int} (h : OwnB w0 w v l) : ∀ k, v.ownBlock = some k → w0.heap.size ≤ k ∧ k < w.heap.size := h.1.lt
theorem OwnB.shape {w0 w : World} {v : Value} {l : List Int} (h : OwnB w0 w v l) (h0 : 0 < l.length) :
    ∃ (g c : Nat), v = .slice (some ⟨g, 0, none⟩) l.length c ∧ l.length ≤ c ∧ w0.heap.size ≤ g ∧ g < w.heap.size ∧
      (∀ i, i < l.length → w.cell? ⟨g, i, none⟩ = some (.int .u8 (nth l i)) ∧ w.frozen? ⟨g, i, none⟩ = false) := by
  obtain ⟨h1, h2⟩ := h
  rcases h1.2 with ⟨rfl, hl⟩ | ⟨g, cap, cur, rfl, hg, hh, hc, r⟩
  · omega
  · refine ⟨g, cap, rfl, hc, hg, (Array.getElem?_eq_some_iff.1 hh).1, fun i hi => ⟨?_, World.ownsRow.frozenAt h1 i⟩⟩
    rw [World.ownsRow.cellAt h1 i (by omega)]
    simp [nth, List.getD, hi]
theorem ownB_made {w0 w : World} (hE : Ext w0 w) : OwnB w0 (w.alloc (.cells #[] 5)) (.slice (some ⟨w.heap.size, 0, none⟩) 0 0) [] := by
  have := World.ownsRow_lit (base := w0.heap.size) (e := 5) (size := 1) w #[] 0 hE.size (by unfold maxLen; omega) (by simp)
  exact ⟨by simpa using this, by simp⟩
theorem OwnB.stored {w0 w : World} {g c : Nat} {l : List Int} (h : OwnB w0 w (.slice (some ⟨g, 0, none⟩) l.length c) l) (j : Nat) (y : Int) :
    OwnB w0 (w.setCell ⟨g, j, none⟩ (.int .u8 y)) (.slice (some ⟨g, 0, none⟩) l.length c) (l.set j y) := by
  have h1 := (World.ownsRow.stored h.1 j (.int .u8 y)).1
  refine ⟨?_, by simpa using h.2⟩
  simpa [List.map_set] using h1
theorem OwnB.grown {w0 w : World} {g c : Nat} {l : List Int} (h : OwnB w0 w (.slice (some ⟨g, 0, none⟩) l.length c) l) (j : Nat) (y : Int) :
    w.grownBy (w.setCell ⟨g, j, none⟩ (.int .u8 y)) (Value.slice (some ⟨g, 0, none⟩) l.length c).ownBlock := (World.ownsRow.stored h.1 j (.int .u8 y)).2
section
variable {ops : Array Oper} {rest : List Oper} {o : Oper} {a : Act} {Q : Exit → Act → World → Prop}
theorem wp_append1B (hg : o.guard = none) (s x : Operand) (hop : o.op = Op.call { callee := Callee.builtin Builtin.append, args := #[s, x], argTypes := #[33, 33] })
    (w0 W : World) (v : Value) (l : List Int) (y : Int) (hO : OwnB w0 W v l) (hE : Ext w0 W) (hn : l.length < 17592186044416) (hs : a.eval s = v) (hx : a.eval x = .slice (some ⟨W.heap.size, 0, none⟩) 1 1)
    (hK : ∀ v' w', OwnB w0 w' v' (l ++ [y]) → Ext w0 w' → wpList Tryz.prog ops Q rest (a.put o.dst v') w') :
    wpList Tryz.prog ops Q (o :: rest) a (W.alloc (.cells #[.int .u8 y] 5)) := by
  obtain ⟨i, hi, hz, hs1, hby⟩ := info_parts infoB
  refine wpList_append_own _ hg s x 33 hop w0.heap.size 5 i (.int .u8 0) 1 1 undB hi hz hs1 hby rfl (by omega) v l.length _ hs (hO.alloc _).1 ⟨W.heap.size, 0, none⟩ 1 1 [.int .u8 y] hx rfl ?_ (by simp [Value.oneCell']) (by unfold maxLen; omega) (by omega) (by have := hE.size; simp; omega) ?_
  · exact cell_one_new _ _ _
  · intro v' w' h1 hg' _
    have hE1 := hE.alloc (.cells #[.int .u8 y] 5)
    refine hK v' w' ⟨by simpa using h1, by simp; omega⟩ (hE1.grown hg' fun k hk => (hO.blk k hk).1)
end
end Go.Zz

/- FormatInt of the program. -/
namespace Go.Zz
open Go.RowKit Go.Proofs
set_option maxHeartbeats 1000000
set_option maxRecDepth 4000

theorem elB : Tryz.prog.underlying 33 = some (.slice (Tryz.prog.elem 33)) := by kernel_rfl
theorem szBt : ∀ w, (Go.sizeOf (Tryz.prog.elem 33)).run Tryz.prog w = .ok 1 w := fun w => by kernel_rfl
def rd (m : Nat) : List Int := if m = 0 then [] else (48 + (m % 10 : Nat)) :: rd (m / 10)
theorem rd_zero : rd 0 = [] := by rw [rd, if_pos rfl]
theorem rd_pos {m : Nat} (h : ¬ m = 0) : rd m = (48 + ((m % 10 : Nat) : Int)) :: rd (m / 10) := by rw [rd, if_neg h]
theorem digs_rd (m : Nat) : ∀ s, digs m s = strOfNums (rd m).reverse ++ s := by
  induction m using Nat.strongRecOn with
  | ind m ih =>
    intro s
    by_cases h : m = 0
    · subst h; rw [digs_zero, rd_zero]; apply ByteArray.ext; simp [strOfNums]
    · rw [digs_pos s h, ih (m / 10) (by omega), rd_pos h]
      apply ByteArray.ext
      simp [strOfNums]
theorem OwnB.cellAt {w0 w : World} {g n c : Nat} {l : List Int} (h : OwnB w0 w (.slice (some ⟨g, 0, none⟩) n c) l) (hn : l.length = n) (i : Nat) (hi : i < n) :
    w.cell? ⟨g, i, none⟩ = some (.int .u8 (nth l i)) ∧ w.frozen? ⟨g, i, none⟩ = false := by
  subst hn
  have h1 := h.1
  exact ⟨by rw [World.ownsRow.cellAt h1 i (by omega)]; simp [nth, List.getD, hi], World.ownsRow.frozenAt h1 i⟩
theorem OwnB.stored_grown {w0 w : World} {g n c : Nat} {l : List Int} (h : OwnB w0 w (.slice (some ⟨g, 0, none⟩) n c) l) (hn : l.length = n) (j : Nat) (y : Int) :
    OwnB w0 (w.setCell ⟨g, j, none⟩ (.int .u8 y)) (.slice (some ⟨g, 0, none⟩) n c) (l.set j y) ∧ w.grownBy (w.setCell ⟨g, j, none⟩ (.int .u8 y)) (some g) := by
  subst hn
  exact ⟨h.stored j y, h.grown j y⟩
theorem OwnB.str {w0 w : World} {g n c : Nat} {l : List Int} (h : OwnB w0 w (.slice (some ⟨g, 0, none⟩) n c) l) (hn : l.length = n) :
    (convert 33 9 (.slice (some ⟨g, 0, none⟩) n c)).run Tryz.prog w = .ok (.string (strOfNums l)) w :=
  run_convert_bytes_arg (P := Tryz.prog) _ 33 5 (by rfl) (by rfl) g 0 n c l hn (fun i hi => by
    rw [Nat.zero_add]; exact (h.cellAt hn i hi).1) _ (by rfl)
theorem FormatInt_nat (n : Nat) (hn : n < 1000000000000) (hp : 0 < n) (w : World) :
    Calls Tryz.prog 66 #[.int .i64 n] w fun e w' => e = .returned (.string (fmtB n)) ∧ Ext w w' := by
  have h0 : ¬ (n : Int) = 0 := by omega
  have h1 : ¬ (n : Int) < 0 := by omega
  have hO0 := ownB_made (Ext.refl w)
  have hE0 := (Ext.refl w).alloc (.cells #[] 5)
  go_enter Tryz.func66, Tryz.ntmps66
  go_wp2_with fail
  go_loopw [3, 4] (fun v d wr => ∃ (m : Nat) (l : List Int), m < 1000000000000 ∧ d = .int .i64 m ∧ Ext w wr ∧ OwnB w wr v l ∧ l.length + m ≤ n ∧ l ++ rd m = rd n) (fun _ d _ => (intOf d).toNat)
  case atStart => exact ⟨n, [], hn, rfl, hE0, hO0, by simp, by simp⟩
  case round =>
    obtain ⟨m, l, hm, rfl, hE, hO, hsz, hl⟩ := hrel
    by_cases hz : m = 0
    · subst hz
      rw [rd_zero, List.append_nil] at hl
      have hl0 : 0 < l.length := by rw [hl, rd_pos (by omega)]; simp
      obtain ⟨g, c, rfl, hlc, hg0, hg1, hcell⟩ := hO.shape hl0
      obtain ⟨L, hL⟩ : ∃ L, L = l.length := ⟨_, rfl⟩
      rw [← hL] at hsz hl0 hlc
      have hLn : L ≤ n := by omega
      have Hl := Lib.hid hl
      have HL := Lib.hid hL
      have HO := Lib.hid hO
      clear hl hL hO hcell hsz
      rw [← HL.out]
      have hixB : ∀ (i : Nat) W, i < L → (Instr.indexAt 33 (.slice (some ⟨g, 0, none⟩) L c) (.int .i64 (i : Int))).run Tryz.prog W = .ok (.pointer (some ⟨g, i, none⟩)) W := by
        intro i W hi
        rw [run_indexAt_slice (h := elB), if_pos (by omega), szBt]
        simp [Result.andThen, Addr.add_lit]
      go_wp2_with fail
      go_loopw [6, 7] (fun i j wr => ∃ (k jn : Nat), k ≤ jn + 1 ∧ jn + k + 1 = L ∧ i = .int .i64 k ∧ j = .int .i64 jn ∧ Ext w wr ∧ OwnB w wr (.slice (some ⟨g, 0, none⟩) L c) (revk l k)) (fun _ j _ => (intOf j).toNat)
      case atStart => exact ⟨0, L - 1, by omega, by omega, rfl, by go_num, hE, by rw [revk_zero, HL.out]; exact HO.out⟩
      case round =>
        obtain ⟨k, jn, hk, hkj, rfl, rfl, hE2, hO2⟩ := hrel
        have Hkj := Lib.hid hkj
        by_cases hlt : k < jn
        · have hkL : k < L := by omega
          have hjL : jn < L := by omega
          clear hkj
          have hl2 : (revk l k).length = L := by rw [revk_len, ← HL.out]
          obtain ⟨hck, hfk⟩ := hO2.cellAt hl2 k hkL
          obtain ⟨hcj, hfj⟩ := hO2.cellAt hl2 jn hjL
          have Hl2 := Lib.hid hl2
          have HO2 := Lib.hid hO2
          clear hl2 hO2
          have hne : ¬ k = jn := by omega
          have hne2 : ¬ jn = k := by omega
          go_wp2_with fail
          go_big_region
          go_wp2_with fail
          go_roundw
          case rel =>
            have hkj' := Hkj.out
            have hj2 : (revk l k).length - 1 - k = jn := by rw [Hl2.out]; omega
            obtain ⟨hO3, hG3⟩ := HO2.out.stored_grown Hl2.out k (nth (revk l k) jn)
            obtain ⟨hO4, hG4⟩ := hO3.stored_grown (by rw [List.length_set]; exact Hl2.out) jn (nth (revk l k) k)
            have hst := revk_step l k (by rw [← HL.out]; omega)
            rw [← HL.out, show L - 1 - k = jn by omega] at hst
            rw [hst] at hO4
            exact ⟨k + 1, jn - 1, by omega, by omega, by go_num, by go_num, ((hE2.grown hG3 (fun q hq => by cases hq; exact hg0)).grown hG4 (fun q hq => by cases hq; exact hg0)).drew, hO4⟩
          case measure => (simp [intOf]; omega)
        · clear hkj
          have hcv := hO2.str (by rw [revk_len, ← HL.out])
          have He : Hid (strOfNums (revk l k) = fmtB n) := Lib.hid (by
            have hk' := Hkj.out
            have hL' := HL.out
            rw [revk_end l k (by omega), Hl.out, fmtB_pos hp, digs_rd]; apply ByteArray.ext; simp)
          go_wp2_with fail
          go_ret
          exact ⟨ret_str He.out, hE2⟩
    · have h2 : ¬ (m : Int) = 0 := by omega
      obtain ⟨r, hr⟩ : ∃ r : Nat, (m : Int) % 10 = r := ⟨m % 10, by omega⟩
      have hr10 : r < 10 := by omega
      obtain ⟨q, hq⟩ : ∃ q : Nat, (m : Int) / 10 = q := ⟨m / 10, by omega⟩
      have Hr := Lib.hid (show r = m % 10 by omega)
      have Hq := Lib.hid (show q = m / 10 by omega)
      have Hl := Lib.hid hl
      have Hsz := Lib.hid hsz
      have hlb : l.length < 17592186044416 := by omega
      clear hl hsz
      go_wp2_with (at_builtin; refine wp_append1B rfl _ _ rfl w _ _ _ _ hO hE hlb rfl rfl ?_; intro v1 w1 hO1 hE1)
      go_roundw
      case rel =>
        have hq' := Hq.out
        have hr' := Hr.out
        have hs' := Hsz.out
        exact ⟨q, _, by omega, rfl, hE1, hO1, by (simp; omega), by rw [← Hl.out, rd_pos hz, ← hq', ← hr']; simp⟩
      case measure =>
        have hq' := Hq.out
        (simp [intOf]; omega)
theorem FormatInt_m1 (w : World) :
    Calls Tryz.prog 66 #[.int .i64 (-1)] w fun e w' => e = .returned (.string (fmtB (-1))) ∧ Ext w w' := by
  have hO0 := ownB_made (Ext.refl w)
  have hE0 := (Ext.refl w).alloc (.cells #[] 5)
  have Hf := Lib.hid fmtB_m1
  go_enter Tryz.func66, Tryz.ntmps66
  go_wp2_with fail
  go_loopw [3, 4] (fun v d wr => Ext w wr ∧ ((d = .int .i64 (-1) ∧ OwnB w wr v []) ∨ (d = .int .i64 0 ∧ OwnB w wr v [49]))) (fun _ d _ => (intOf d).natAbs)
  case atStart => exact ⟨hE0, Or.inl ⟨rfl, hO0⟩⟩
  case round =>
    obtain ⟨hE, ⟨rfl, hO⟩ | ⟨rfl, hO⟩⟩ := hrel
    · go_wp2_with (at_builtin; refine wp_append1B rfl _ _ rfl w _ _ _ _ hO hE (by simp) rfl rfl ?_; intro v1 w1 hO1 hE1)
      go_roundw
      case rel => exact ⟨hE1, Or.inr ⟨rfl, hO1⟩⟩
      case measure => (simp [intOf])
    · go_wp2_with (at_builtin; go_loud (refine wp_append1B rfl _ _ rfl w _ _ _ _ hO hE (by simp) rfl rfl ?_; intro v1 w1 hO1 hE1; obtain ⟨l, hl⟩ : ∃ l : List Int, l = [49] ++ [45] := ⟨_, rfl⟩; rw [← hl] at hO1; have hl0 : 0 < l.length := (by rw [hl]; simp); obtain ⟨g, c, hv, hlc, hg0, hg1, -⟩ := hO1.shape hl0; obtain ⟨L, hL⟩ : ∃ L, L = l.length := ⟨_, rfl⟩; have hL2 : L ≤ 2 := (by rw [hL, hl]; simp); rw [← hL] at hl0 hlc hv; subst hv; have HL := Lib.hid hL; have Hl := Lib.hid hl; have HO := Lib.hid hO1; clear hL hl hO1 hO))
      have hixB : ∀ (i : Nat) W, i < L → (Instr.indexAt 33 (.slice (some ⟨g, 0, none⟩) L c) (.int .i64 (i : Int))).run Tryz.prog W = .ok (.pointer (some ⟨g, i, none⟩)) W := by
        intro i W hi
        rw [run_indexAt_slice (h := elB), if_pos (by omega), szBt]
        simp [Result.andThen, Addr.add_lit]
      go_wp2_with fail
      go_loopw [6, 7] (fun i j wr => ∃ (k jn : Nat), k ≤ jn + 1 ∧ jn + k + 1 = L ∧ i = .int .i64 k ∧ j = .int .i64 jn ∧ Ext w wr ∧ OwnB w wr (.slice (some ⟨g, 0, none⟩) L c) (revk l k)) (fun _ j _ => (intOf j).toNat)
      case atStart => exact ⟨0, L - 1, by omega, by omega, rfl, by go_num, hE1, by rw [revk_zero]; exact HO.out⟩
      case round =>
        obtain ⟨k, jn, hk, hkj, rfl, rfl, hE2, hO2⟩ := hrel
        have Hkj := Lib.hid hkj
        by_cases hlt : k < jn
        · have hkL : k < L := by omega
          have hjL : jn < L := by omega
          clear hkj
          have hl2 : (revk l k).length = L := by rw [revk_len, ← HL.out]
          obtain ⟨hck, hfk⟩ := hO2.cellAt hl2 k hkL
          obtain ⟨hcj, hfj⟩ := hO2.cellAt hl2 jn hjL
          have Hl2 := Lib.hid hl2
          have HO2 := Lib.hid hO2
          clear hl2 hO2
          have hne : ¬ k = jn := by omega
          have hne2 : ¬ jn = k := by omega
          go_wp2_with fail
          go_big_region
          go_wp2_with fail
          go_roundw
          case rel =>
            have hkj' := Hkj.out
            have hj2 : (revk l k).length - 1 - k = jn := by rw [Hl2.out]; omega
            obtain ⟨hO3, hG3⟩ := HO2.out.stored_grown Hl2.out k (nth (revk l k) jn)
            obtain ⟨hO4, hG4⟩ := hO3.stored_grown (by rw [List.length_set]; exact Hl2.out) jn (nth (revk l k) k)
            have hst := revk_step l k (by rw [← HL.out]; omega)
            rw [← HL.out, show L - 1 - k = jn by omega] at hst
            rw [hst] at hO4
            exact ⟨k + 1, jn - 1, by omega, by omega, by go_num, by go_num, ((hE2.grown hG3 (fun q hq => by cases hq; exact hg0)).grown hG4 (fun q hq => by cases hq; exact hg0)).drew, hO4⟩
          case measure => (simp [intOf]; omega)
        · clear hkj
          have hcv := hO2.str (by rw [revk_len, ← HL.out])
          have He : Hid (strOfNums (revk l k) = fmtB (-1)) := Lib.hid (by
            have hk' := Hkj.out
            have hL' := HL.out
            rw [revk_end l k (by omega), Hl.out, Hf.out]; rfl)
          go_wp2_with fail
          go_ret
          exact ⟨ret_str He.out, hE2⟩
theorem FormatInt_zero (w : World) :
    Calls Tryz.prog 66 #[.int .i64 0] w fun e w' => e = .returned (.string (fmtB 0)) ∧ Ext w w' := by
  have e : fmtB 0 = ⟨#[48]⟩ := by unfold fmtB; rw [if_pos rfl]
  have He := Lib.hid e
  clear e
  go_enter Tryz.func66, Tryz.ntmps66
  go_wp2_with fail
  go_ret
  exact ⟨ret_str He.out.symm, Ext.refl _⟩
theorem FormatInt_any (n : Int) (hn : -1 ≤ n ∧ n < 1000000000000) (w : World) :
    Calls Tryz.prog 66 #[.int .i64 n] w fun e w' => e = .returned (.string (fmtB n)) ∧ Ext w w' := by
  rcases (by omega : n = -1 ∨ n = 0 ∨ 0 < n) with rfl | rfl | h
  · exact FormatInt_m1 w
  · exact FormatInt_zero w
  · obtain ⟨m, rfl⟩ := Int.eq_ofNat_of_zero_le (show 0 ≤ n by omega)
    exact FormatInt_nat m (by omega) (by omega) w
end Go.Zz

/- Numbers that are glued: plain; narrow; numbers of the reference. -/
namespace Go.Zz
open Go.RowKit Go.Proofs
set_option maxHeartbeats 400000
set_option maxRecDepth 4000

theorem rd_len (k : Nat) : ∀ m, m < 10 ^ k → (rd m).length ≤ k := by
  induction k with
  | zero => intro m h; have : m = 0 := by omega
            subst this; rw [rd_zero]; simp
  | succ k ih =>
    intro m h
    by_cases hm : m = 0
    · subst hm; rw [rd_zero]; simp
    · rw [rd_pos hm]
      have := ih (m / 10) (by rw [Nat.pow_succ] at h; omega)
      simp; omega
theorem digs_size {m : Nat} (h : m < 1000000000000) : (digs m ⟨#[]⟩).size ≤ 12 := by
  rw [digs_rd, ByteArray.size_append, strOfNums_size, List.length_reverse]
  have := rd_len 12 m (by omega)
  have e : (⟨#[]⟩ : ByteArray).size = 0 := rfl
  omega
theorem digs_some {m : Nat} (h : 0 < m) : 1 ≤ (digs m ⟨#[]⟩).size := by
  rw [digs_rd, ByteArray.size_append, strOfNums_size, List.length_reverse, rd_pos (by omega)]
  simp; omega
theorem fmtB_size {n : Int} (h : -1 ≤ n ∧ n < 1000000000000) : (fmtB n).size ≤ 13 := by
  unfold fmtB
  split
  · decide
  · split
    · have := digs_size (m := n.natAbs) (by omega)
      rw [ByteArray.size_append]
      have e : (⟨#[45]⟩ : ByteArray).size = 1 := rfl
      omega
    · have := digs_size (m := n.natAbs) (by omega)
      omega
theorem fmtB_some {n : Int} (h : -1 ≤ n ∧ n < 1000000000000) : 1 ≤ (fmtB n).size := by
  unfold fmtB
  split
  · decide
  · split
    · rw [ByteArray.size_append]
      have e : (⟨#[45]⟩ : ByteArray).size = 1 := rfl
      omega
    · exact digs_some (by omega)
/-- the first k texts of f, with s between them -/
def jn (s : ByteArray) (f : Nat → ByteArray) : Nat → ByteArray
  | 0 => ⟨#[]⟩
  | k + 1 => (if 0 < k then jn s f k ++ s else jn s f k) ++ f k
theorem jn_first (s : ByteArray) (f : Nat → ByteArray) : jn s f 1 = ⟨#[]⟩ ++ f 0 := rfl
theorem jn_next (s : ByteArray) (f : Nat → ByteArray) {k : Nat} (h : 0 < k) : jn s f (k + 1) = (jn s f k ++ s) ++ f k := by
  show (if 0 < k then _ else _) ++ _ = _
  rw [if_pos h]
theorem jn_size (s : ByteArray) (f : Nat → ByteArray) (hs : s.size ≤ 1) : ∀ k, (∀ i, i < k → (f i).size ≤ 13) → (jn s f k).size ≤ 14 * k := by
  intro k
  induction k with
  | zero => intro _; exact Nat.le_refl _
  | succ k ih =>
    intro h
    have h1 := ih (fun i hi => h i (by omega))
    have h2 := h k (by omega)
    unfold jn
    split <;> simp only [ByteArray.size_append] <;> omega
theorem jn_some (s : ByteArray) (f : Nat → ByteArray) (k : Nat) (h : 0 < k) (hf : ∀ i, i < k → 1 ≤ (f i).size) : 1 ≤ (jn s f k).size := by
  obtain ⟨j, rfl⟩ : ∃ j, k = j + 1 := ⟨k - 1, by omega⟩
  have := hf j (by omega)
  unfold jn
  rw [ByteArray.size_append]; omega
theorem str_some {t : ByteArray} (h : 1 ≤ t.size) : t.toList.isEmpty = false := by
  rw [ByteArray.toList_eq, List.isEmpty_eq_false_iff]
  intro h2
  have h3 : t.data.toList.length = 0 := by rw [h2]; rfl
  rw [Array.length_toList] at h3
  have h4 : t.size = t.data.size := rfl
  omega
def clampF (x : Int) : Int := min (max x (-1)) 99
theorem clampF_in (x : Int) : -1 ≤ clampF x ∧ clampF x < 1000000000000 := by unfold clampF; omega
--%call narrow 129 same narrow_any _ _
theorem narrow_any (x : Int) (w : World) :
    Calls Tryz.prog 129 #[.int .i64 x] w fun e w' => e = .returned (.int .i64 (clampF x)) ∧ w = w' := by
  rcases (by omega : x < -1 ∨ (-1 ≤ x ∧ x ≤ 99) ∨ 99 < x) with h | ⟨h, h2⟩ | h
  · have He : Hid (clampF x = -1) := Lib.hid (by unfold clampF; omega)
    go_enter Tryz.func129, Tryz.ntmps129
    go_wp2_with fail
    go_ret
    exact ⟨by rw [He.out]; rfl, rfl⟩
  · have He : Hid (clampF x = x) := Lib.hid (by unfold clampF; omega)
    go_enter Tryz.func129, Tryz.ntmps129
    go_wp2_with fail
    go_ret
    exact ⟨by rw [He.out]; rfl, rfl⟩
  · have He : Hid (clampF x = 99) := Lib.hid (by unfold clampF; omega)
    go_enter Tryz.func129, Tryz.ntmps129
    go_wp2_with fail
    go_ret
    exact ⟨by rw [He.out]; rfl, rfl⟩
def comma : ByteArray := ⟨#[44]⟩
def clS (l : List Int) (k : Nat) : ByteArray := fmtB (clampF (nth l k))
theorem clS_size (l : List Int) (k : Nat) : (clS l k).size ≤ 13 := fmtB_size (clampF_in _)
theorem clS_some (l : List Int) (k : Nat) : 1 ≤ (clS l k).size := fmtB_some (clampF_in _)
def shortF (l : List Int) : ByteArray := if l.length = 0 ∨ 40 < l.length then ⟨#[110, 111, 110, 101]⟩ else jn comma (clS l) l.length
--%call sNumbers 135 ext sNumbers_any _ _ _ ({0})
theorem sNumbers_any (v : Value) (l : List Int) (w : World) (h : Ints w v l) :
    Calls Tryz.prog 135 #[v] w fun e w' => e = .returned (.string (shortF l)) ∧ Ext w w' := by
  obtain ⟨ao, c, adr, rfl, hlen, hadr, hcell⟩ := h.op
  have hix := ints_index (c := c) elI szI hadr
  clear hadr h
  by_cases hb : 40 < l.length
  · have He : Hid (shortF l = ⟨#[110, 111, 110, 101]⟩) := Lib.hid (by unfold shortF; rw [if_pos (Or.inr hb)])
    have hb2 : ¬ l.length ≤ 40 := by omega
    go_enter Tryz.func135, Tryz.ntmps135
    go_wp2_with fail
    go_loopw [3, 4] (fun s i wr => i = .int .i64 0 ∧ s = .string ⟨#[]⟩ ∧ Ext w wr) (fun _ _ _ => 0)
    case atStart => exact ⟨rfl, rfl, Ext.refl _⟩
    case round =>
      obtain ⟨rfl, rfl, hE⟩ := hrel
      have hp : 0 < l.length := by omega
      go_wp2_with fail
      go_ret
      exact ⟨ret_str He.out.symm, hE⟩
  · have hb2 : l.length ≤ 40 := by omega
    clear hb
    go_enter Tryz.func135, Tryz.ntmps135
    go_wp2_with fail
    go_loopw [3, 4] (fun s i wr => ∃ (k : Nat) (t : ByteArray), k ≤ l.length ∧ i = .int .i64 k ∧ s = .string t ∧ Hid (t = jn comma (clS l) k) ∧ Ext w wr) (fun _ i _ => l.length - (intOf i).toNat)
    case atStart => exact ⟨0, _, by omega, rfl, rfl, Lib.hid rfl, Ext.refl _⟩
    case round =>
      obtain ⟨k, t, hk, rfl, rfl, Ht, hE⟩ := hrel
      have hts : t.size ≤ 14 * k := by rw [Ht.out]; exact jn_size _ _ (by decide) k fun i _ => clS_size l i
      by_cases hlt : k < l.length
      · have hck := hcell k _ hlt hE
        rcases (by omega : nth l k ≤ -1 ∨ (-1 < nth l k ∧ nth l k < 99) ∨ 99 ≤ nth l k) with h | ⟨h, h2⟩ | h
        · have hA : nth l k < 99 := by omega
          have hB : ¬ -1 < nth l k := by omega
          have He : Hid (clS l k = fmtB (-1)) := Lib.hid (by unfold clS; congr 1; unfold clampF; omega)
          have hcF := sFormatInt_any (-1) (by omega)
          have hsz : (fmtB (-1)).size ≤ 13 := fmtB_size (by omega)
          obtain ⟨u, hu⟩ : ∃ u, u = fmtB (-1) := ⟨_, rfl⟩
          rw [← hu] at hsz hcF He
          clear hu
          by_cases hk0 : 0 < k
          · have hk1 : (0:Int) < k := by omega
            go_wp2_with (with_reducible refine (hcF _).mono ?_; rintro e w1 ⟨rfl, hE1⟩)
            go_roundw
            case rel => exact ⟨k + 1, _, by omega, by go_num, rfl, Lib.hid (by rw [jn_next _ _ hk0, ← Ht.out, He.out]; rfl), hE.trans hE1⟩
            case measure => (simp [intOf]; omega)
          · have hk1 : k = 0 := by omega
            subst hk1
            have hix0 : ∀ W, (Instr.indexAt 22 (.slice ao l.length c) (.int .i64 0)).run Tryz.prog W = .ok (.pointer (some (adr 0))) W := fun W => by simpa using hix 0 W hlt
            go_wp2_with (with_reducible refine (hcF _).mono ?_; rintro e w1 ⟨rfl, hE1⟩)
            go_roundw
            case rel => exact ⟨1, _, by omega, rfl, rfl, Lib.hid (by rw [jn_first, He.out, Ht.out]; rfl), hE.trans hE1⟩
            case measure => (simp [intOf]; omega)
        · skip
          have He : Hid (clS l k = fmtB (nth l k)) := Lib.hid (by unfold clS; congr 1; unfold clampF; omega)
          have hcF := sFormatInt_any (nth l k) (by omega)
          have hsz : (fmtB (nth l k)).size ≤ 13 := fmtB_size (by omega)
          obtain ⟨u, hu⟩ : ∃ u, u = fmtB (nth l k) := ⟨_, rfl⟩
          rw [← hu] at hsz hcF He
          clear hu
          by_cases hk0 : 0 < k
          · have hk1 : (0:Int) < k := by omega
            go_wp2_with (with_reducible refine (hcF _).mono ?_; rintro e w1 ⟨rfl, hE1⟩)
            go_roundw
            case rel => exact ⟨k + 1, _, by omega, by go_num, rfl, Lib.hid (by rw [jn_next _ _ hk0, ← Ht.out, He.out]; rfl), hE.trans hE1⟩
            case measure => (simp [intOf]; omega)
          · have hk1 : k = 0 := by omega
            subst hk1
            have hix0 : ∀ W, (Instr.indexAt 22 (.slice ao l.length c) (.int .i64 0)).run Tryz.prog W = .ok (.pointer (some (adr 0))) W := fun W => by simpa using hix 0 W hlt
            go_wp2_with (with_reducible refine (hcF _).mono ?_; rintro e w1 ⟨rfl, hE1⟩)
            go_roundw
            case rel => exact ⟨1, _, by omega, rfl, rfl, Lib.hid (by rw [jn_first, He.out, Ht.out]; rfl), hE.trans hE1⟩
            case measure => (simp [intOf]; omega)
        · have hA : ¬ nth l k < 99 := by omega
          have He : Hid (clS l k = fmtB (99)) := Lib.hid (by unfold clS; congr 1; unfold clampF; omega)
          have hcF := sFormatInt_any (99) (by omega)
          have hsz : (fmtB (99)).size ≤ 13 := fmtB_size (by omega)
          obtain ⟨u, hu⟩ : ∃ u, u = fmtB (99) := ⟨_, rfl⟩
          rw [← hu] at hsz hcF He
          clear hu
          by_cases hk0 : 0 < k
          · have hk1 : (0:Int) < k := by omega
            go_wp2_with (with_reducible refine (hcF _).mono ?_; rintro e w1 ⟨rfl, hE1⟩)
            go_roundw
            case rel => exact ⟨k + 1, _, by omega, by go_num, rfl, Lib.hid (by rw [jn_next _ _ hk0, ← Ht.out, He.out]; rfl), hE.trans hE1⟩
            case measure => (simp [intOf]; omega)
          · have hk1 : k = 0 := by omega
            subst hk1
            have hix0 : ∀ W, (Instr.indexAt 22 (.slice ao l.length c) (.int .i64 0)).run Tryz.prog W = .ok (.pointer (some (adr 0))) W := fun W => by simpa using hix 0 W hlt
            go_wp2_with (with_reducible refine (hcF _).mono ?_; rintro e w1 ⟨rfl, hE1⟩)
            go_roundw
            case rel => exact ⟨1, _, by omega, rfl, rfl, Lib.hid (by rw [jn_first, He.out, Ht.out]; rfl), hE.trans hE1⟩
            case measure => (simp [intOf]; omega)
      · have hkl : k = l.length := by omega
        subst hkl
        by_cases h0 : l.length = 0
        · have He : Hid (shortF l = ⟨#[110, 111, 110, 101]⟩) := Lib.hid (by unfold shortF; rw [if_pos (Or.inl h0)])
          have ht0 : t = ⟨#[]⟩ := by rw [Ht.out, h0]; rfl
          subst ht0
          clear h0 hts
          go_wp2_with fail
          go_ret
          exact ⟨ret_str He.out.symm, hE⟩
        · have He : Hid (shortF l = t) := Lib.hid (by unfold shortF; rw [if_neg (by omega), Ht.out])
          have h1 := jn_some comma (clS l) l.length (by omega) fun i _ => clS_some l i
          rw [← Ht.out] at h1
          have ht1 := str_some h1
          go_wp2_with fail
          go_ret
          exact ⟨ret_str He.out.symm, hE⟩
end Go.Zz

/- Slices of strings that a call makes; glued. -/
namespace Go.Zz
open Go.RowKit Go.Proofs
set_option maxHeartbeats 400000
set_option maxRecDepth 4000

theorem infoS : (Tryz.prog.info? 9).map (fun i => (i.zero, i.size, i.bytes)) = some (some (.string ⟨#[]⟩), 1, 16) := by kernel_rfl
theorem undS : Tryz.prog.underlying 105 = some (.slice 9) := by kernel_rfl
theorem elS : Tryz.prog.underlying 105 = some (.slice (Tryz.prog.elem 105)) := by kernel_rfl
theorem szS : ∀ w, (Go.sizeOf (Tryz.prog.elem 105)).run Tryz.prog w = .ok 1 w := fun w => by kernel_rfl
def nthS (l : List ByteArray) (i : Nat) : ByteArray := l.getD i ⟨#[]⟩
/-- v is a slice of strings of the call's own, which reads as l -/
def OwnS (w0 w : World) (v : Value) (l : List ByteArray) : Prop :=
  w.ownsRow w0.heap.size 9 1 v l.length (l.map Value.string) ∧ l.length ≤ 1000000
theorem OwnS.blk {w0 w : World} {v : Value} {l : List ByteArray} (h : OwnS w0 w v l) : ∀ k, v.ownBlock = some k → w0.heap.size ≤ k ∧ k < w.heap.size := h.1.lt
theorem OwnS.alloc {w0 w : World} {v : Value} {l : List ByteArray} (h : OwnS w0 w v l) (o : Obj) : OwnS w0 (w.alloc o) v l := ⟨h.1.alloc o, h.2⟩
theorem OwnS.ext {w0 w w' : World} {v : Value} {l : List ByteArray} (h : OwnS w0 w v l) (hE : Ext w w') : OwnS w0 w' v l := by
  refine ⟨h.1.kept (row := none) ⟨hE.os, hE.tape, hE.output, hE.size, fun k hk _ => hE.block k hk⟩ ?_, h.2⟩
  cases hv : v.ownBlock <;> simp
theorem ownS_made {w0 w : World} (hE : Ext w0 w) : OwnS w0 (w.alloc (.cells #[] 9)) (.slice (some ⟨w.heap.size, 0, none⟩) 0 0) [] := by
  have := World.ownsRow_lit (base := w0.heap.size) (e := 9) (size := 1) w #[] 0 hE.size (by unfold maxLen; omega) (by simp)
  exact ⟨by simpa using this, by simp⟩
/-- v is a slice that reads as the strings of l -/
def Strs (w : World) (v : Value) (l : List ByteArray) : Prop :=
  ∃ (ao : Option Addr) (c : Nat), v = .slice ao l.length c ∧ l.length ≤ 1000000 ∧ ∀ i, i < l.length → ∃ g, ao = some ⟨g, 0, none⟩ ∧ w.cell? ⟨g, i, none⟩ = some (.string (nthS l i))
theorem OwnS.strs {w0 w : World} {v : Value} {l : List ByteArray} (h : OwnS w0 w v l) : Strs w v l := by
  obtain ⟨h1, h2⟩ := h
  rcases h1.2 with ⟨rfl, hl⟩ | ⟨g, cap, cur, rfl, hg, hh, hc, r⟩
  · exact ⟨none, 0, by rw [hl], h2, by omega⟩
  · refine ⟨some ⟨g, 0, none⟩, cap, rfl, h2, fun i hi => ⟨g, rfl, ?_⟩⟩
    rw [World.ownsRow.cellAt h1 i (by omega)]
    simp [nthS, List.getD, hi]
section
variable {ops : Array Oper} {rest : List Oper} {o : Oper} {a : Act} {Q : Exit → Act → World → Prop}
theorem wp_append1S (hg : o.guard = none) (s x : Operand) (hop : o.op = Op.call { callee := Callee.builtin Builtin.append, args := #[s, x], argTypes := #[105, 105] })
    (w0 W : World) (v : Value) (l : List ByteArray) (y : ByteArray) (hO : OwnS w0 W v l) (hE : Ext w0 W) (hn : l.length < 1000000) (hs : a.eval s = v) (hx : a.eval x = .slice (some ⟨W.heap.size, 0, none⟩) 1 1)
    (hK : ∀ v' w', OwnS w0 w' v' (l ++ [y]) → Ext w0 w' → wpList Tryz.prog ops Q rest (a.put o.dst v') w') :
    wpList Tryz.prog ops Q (o :: rest) a (W.alloc (.cells #[.string y] 9)) := by
  obtain ⟨i, hi, hz, hs1, hby⟩ := info_parts infoS
  refine wpList_append_own _ hg s x 105 hop w0.heap.size 9 i (.string ⟨#[]⟩) 1 16 undS hi hz hs1 hby rfl (by omega) v l.length _ hs (hO.alloc _).1 ⟨W.heap.size, 0, none⟩ 1 1 [.string y] hx rfl ?_ (by simp [Value.oneCell']) (by unfold maxLen; omega) (by omega) (by have := hE.size; simp; omega) ?_
  · exact cell_one_new _ _ _
  · intro v' w' h1 hg' _
    have hE1 := hE.alloc (.cells #[.string y] 9)
    refine hK v' w' ⟨by simpa using h1, by simp; omega⟩ (hE1.grown hg' fun k hk => (hO.blk k hk).1)
end
theorem glued_any (v : Value) (l : List ByteArray) (s : ByteArray) (w : World) (h : Strs w v l) (hs : s.size ≤ 1) (hl : ∀ i, i < l.length → (nthS l i).size ≤ 13) :
    Calls Tryz.prog 150 #[v, .string s] w fun e w' => e = .returned (.string (jn s (nthS l) l.length)) ∧ w = w' := by
  obtain ⟨ao, c, rfl, hlen, hcell⟩ := h
  have hix : ∀ (i : Nat) W, i < l.length → ∃ g, ao = some ⟨g, 0, none⟩ ∧ (Instr.indexAt 105 (.slice ao l.length c) (.int .i64 (i : Int))).run Tryz.prog W = .ok (.pointer (some ⟨g, i, none⟩)) W := by
    intro i W hi
    obtain ⟨g, rfl, -⟩ := hcell i hi
    refine ⟨g, rfl, ?_⟩
    rw [run_indexAt_slice (h := elS), if_pos (by omega), szS]
    simp [Result.andThen, Addr.add_lit]
  have Hl := Lib.hid hl
  clear hl
  go_enter Tryz.func150, Tryz.ntmps150
  go_wp2_with fail
  go_loop [5, 10] (fun t i => ∃ (k : Nat) (u : ByteArray), k ≤ l.length ∧ i = .int .i64 k ∧ t = .string u ∧ Hid (u = jn s (nthS l) k)) (fun _ i => l.length - (intOf i).toNat)
  case atStart => exact ⟨0, _, by omega, rfl, rfl, Lib.hid rfl⟩
  case round =>
    obtain ⟨k, u, hk, rfl, rfl, Hu⟩ := hrel
    have hus : u.size ≤ 14 * k := by rw [Hu.out]; exact jn_size _ _ hs k fun i hi => Hl.out i (by omega)
    by_cases hlt : k < l.length
    · obtain ⟨g, hg, hix1⟩ := hix k w hlt
      obtain ⟨g', hg', hck⟩ := hcell k hlt
      have hgg : g' = g := by rw [hg] at hg'; simp only [Option.some.injEq, Addr.mk.injEq, and_true] at hg'; exact hg'.symm
      subst hgg
      clear hix hcell
      subst hg
      have hys := Hl.out k hlt
      obtain ⟨y, hy⟩ : ∃ y, y = nthS l k := ⟨_, rfl⟩
      rw [← hy] at hck hys
      have Hy := Lib.hid hy
      clear hy
      by_cases hk0 : 0 < k
      · have hk1 : (0:Int) < k := by omega
        go_wp2_with fail
        go_round
        case rel => exact ⟨k + 1, _, by omega, by go_num, rfl, Lib.hid (by rw [jn_next _ _ hk0, ← Hu.out, Hy.out])⟩
        case measure => (simp [intOf]; omega)
      · have hk1 : k = 0 := by omega
        subst hk1
        go_wp2_with fail
        go_round
        case rel => exact ⟨1, _, by omega, rfl, rfl, Lib.hid (by rw [jn_first, Hu.out, Hy.out]; rfl)⟩
        case measure => (simp [intOf]; omega)
    · have hkl : k = l.length := by omega
      subst hkl
      clear hix hcell
      go_wp2_with fail
      go_ret
      exact ⟨ret_str Hu.out, rfl⟩
end Go.Zz
