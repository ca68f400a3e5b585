/- Plain facts on maps that keep sums. No program is named here. -/
import Derived.Test.YtopokpamhojooaaPh
namespace Go.Zz
set_option linter.unusedVariables false

def kEq (g h : List Int) (L M : List Nat) (i j p q : Nat) : Bool := !(((addF g (nthN L i) (nthN L j) : Nat) : Int) == ((addF g (nthN L p) (nthN L q) : Nat) : Int)) || !(((addF h (nthN M i) (nthN M j) : Nat) : Int) != ((addF h (nthN M p) (nthN M q) : Nat) : Int))
theorem kEq_symm (g h : List Int) (L M : List Nat) (i j p q : Nat) : kEq g h L M i j p q = kEq g h L M p q i j := by
  unfold kEq
  rw [show (((addF g (nthN L i) (nthN L j) : Nat) : Int) == ((addF g (nthN L p) (nthN L q) : Nat) : Int)) = (((addF g (nthN L p) (nthN L q) : Nat) : Int) == ((addF g (nthN L i) (nthN L j) : Nat) : Int)) by rw [Bool.eq_iff_iff, beq_iff_eq, beq_iff_eq]; exact eq_comm,
    show (((addF h (nthN M i) (nthN M j) : Nat) : Int) != ((addF h (nthN M p) (nthN M q) : Nat) : Int)) = (((addF h (nthN M p) (nthN M q) : Nat) : Int) != ((addF h (nthN M i) (nthN M j) : Nat) : Int)) by rw [Bool.eq_iff_iff, bne_iff_ne, bne_iff_ne]; exact ne_comm]
/-- equal sums go to equal sums -/
def kpB (g h : List Int) (L M : List Nat) : Bool := (List.range L.length).all fun i => (List.range L.length).all fun j => (List.range L.length).all fun p => (List.range L.length).all fun q => decide (j < i) || decide (q < p) || kEq g h L M i j p q
theorem kpB_iff {g h : List Int} {L M : List Nat} : kpB g h L M = true ↔ ∀ i j p q, i ≤ j → j < L.length → p ≤ q → q < L.length → kEq g h L M i j p q = true := by
  unfold kpB
  simp only [List.all_eq_true, List.mem_range]
  constructor
  · intro H i j p q h1 h2 h3 h4
    have := H i (by omega) j h2 p (by omega) q h4
    simpa [show ¬ j < i by omega, show ¬ q < p by omega] using this
  · intro H i h1 j h2 p h3 q h4
    by_cases hij : j < i
    · simp [hij]
    · by_cases hpq : q < p
      · simp [hpq]
      · rw [H i j p q (by omega) h2 (by omega) h4]; simp
theorem kpB_no {g h : List Int} {L M : List Nat} {i j p q : Nat} (h1 : i ≤ j) (h2 : j < L.length) (h3 : p ≤ q) (h4 : q < L.length) (e : kEq g h L M i j p q = false) : kpB g h L M = false := by
  rw [← Bool.not_eq_true, kpB_iff]; intro H; rw [H i j p q h1 h2 h3 h4] at e; cases e
/-- all pairs p, q -/
theorem kpB_all {g h : List Int} {L M : List Nat} (H : ∀ i, i < L.length → ∀ j p q, i ≤ j → j < L.length → p < L.length → p ≤ q → q < L.length → kEq g h L M i j p q = true) : kpB g h L M = true := by
  rw [kpB_iff]; intro i j p q h1 h2 h3 h4; exact H i (by omega) j p q h1 h2 (by omega) h3 h4
/-- the pairs with p not above i -/
theorem kpB_half {g h : List Int} {L M : List Nat} (H : ∀ i, i < L.length → ∀ j p q, i ≤ j → j < L.length → p < i + 1 → p ≤ q → q < L.length → kEq g h L M i j p q = true) : kpB g h L M = true := by
  rw [kpB_iff]; intro i j p q h1 h2 h3 h4
  by_cases hp : p < i + 1
  · exact H i (by omega) j p q h1 h2 hp h3 h4
  · rw [kEq_symm]; exact H p (by omega) q i j h3 h4 (by omega) h1 h2
/-- a part is kept where all is kept -/
theorem kpB_take {g h : List Int} {L M : List Nat} {n : Nat} (hn : n ≤ L.length) (H : kpB g h L M = true) : kpB g h (L.take n) (M.take n) = true := by
  rw [kpB_iff] at H ⊢
  intro i j p q h1 h2 h3 h4
  rw [List.length_take] at h2 h4
  have := H i j p q h1 (by omega) h3 (by omega)
  have e : ∀ (N : List Nat) k, k < n → nthN (N.take n) k = nthN N k := fun N k hk => by simp [nthN, List.getD, hk]
  unfold kEq at this ⊢
  rw [e L i (by omega), e L j (by omega), e L p (by omega), e L q (by omega), e M i (by omega), e M j (by omega), e M p (by omega), e M q (by omega)]
  exact this

/-! ### sets out of lists -/
theorem add_bit {a x : Nat} (h : a.testBit x = false) : a + 2 ^ x = a ||| 2 ^ x := by
  have h1 : a &&& 2 ^ x = 0 := Nat.eq_of_testBit_eq fun i => by
    rw [Nat.testBit_and, Nat.testBit_two_pow, Nat.zero_testBit]
    by_cases e : x = i
    · subst e; rw [h]; rfl
    · simp [e]
  have e1 : a < 2 ^ (max a (2 ^ x) + 1) := Nat.lt_of_lt_of_le (Nat.lt_two_pow_self) (Nat.pow_le_pow_right (by omega) (by omega))
  have e2 : 2 ^ x < 2 ^ (max a (2 ^ x) + 1) := Nat.lt_of_lt_of_le (Nat.lt_two_pow_self) (Nat.pow_le_pow_right (by omega) (by omega))
  have h2 := andN_sub (max a (2 ^ x) + 1) (a ||| 2 ^ x) (2 ^ x) (Nat.or_lt_two_pow e1 e2)
  have h3 : andN (a ||| 2 ^ x) (2 ^ x) = a := Nat.eq_of_testBit_eq fun i => by
    rw [andN_bit, Nat.testBit_or, Nat.testBit_two_pow]
    by_cases e : x = i
    · subst e; simp [h]
    · simp [e]
  have h4 : (a ||| 2 ^ x) &&& 2 ^ x = 2 ^ x := Nat.eq_of_testBit_eq fun i => by
    rw [Nat.testBit_and, Nat.testBit_or, Nat.testBit_two_pow]
    by_cases e : x = i <;> simp [e]
  rw [h3, h4] at h2; exact h2
def soG (l : List Int) : List Int → Nat → Option Nat
  | [], a => some a
  | x :: r, a => if hasB l x && !a.testBit x.toNat then soG l r (a ||| 2 ^ x.toNat) else none
def soB (l X : List Int) : Bool := (soG l X 0).isSome && isGrp l
def soV (l X : List Int) : Int := match soG l X 0 with | some a => (a : Int) | none => 0
theorem soG_no {l X : List Int} (h : soG l X 0 = none) : soB l X = false ∧ soV l X = 0 := by unfold soB soV; rw [h]; exact ⟨rfl, rfl⟩
theorem soG_yes {l X : List Int} {a : Nat} (h : soG l X 0 = some a) : soB l X = isGrp l ∧ soV l X = (a : Int) := by unfold soB soV; rw [h]; exact ⟨by simp, rfl⟩
theorem soG_hno {l r : List Int} {x : Int} {a : Nat} (h : hasB l x = false) : soG l (x :: r) a = none := by unfold soG; rw [h]; rfl
theorem soG_bno {l r : List Int} {n a : Nat} (h : a.testBit n = true) : soG l ((n : Int) :: r) a = none := by unfold soG; simp [h]
theorem soG_go {l r : List Int} {n a : Nat} (h1 : hasB l n = true) (h : a.testBit n = false) : soG l ((n : Int) :: r) a = soG l r (a ||| 2 ^ n) := by
  conv => lhs; unfold soG
  simp [h, h1]
theorem soG_append (l : List Int) : ∀ (X Y : List Int) (a : Nat), soG l (X ++ Y) a = (soG l X a).bind (soG l Y)
  | [], _, _ => rfl
  | x :: X, Y, a => by
    rw [List.cons_append]; unfold soG
    split
    · exact soG_append l X Y _
    · rfl
theorem bset_app (M : List Nat) (y : Nat) : bset (M ++ [y]) = bset M ||| 2 ^ y := bset_snoc M y
theorem bset_mem {M : List Nat} {y : Nat} : (bset M).testBit y = decide (y ∈ M) := testBit_bset M y
theorem soG_take {l : List Int} (hg : isGrp l = true) {M : List Nat} (hn : M.Nodup) (hM : ∀ y ∈ M, y < ord l) : ∀ k, k ≤ M.length → soG l (castL (M.take k)) 0 = some (bset (M.take k))
  | 0, _ => rfl
  | k + 1, hk => by
    have hk' : k < M.length := by omega
    have ih := soG_take hg hn hM k (by omega)
    have hn2 : (M.take (k + 1)).Nodup := hn.sublist (List.take_sublist _ _)
    have hy : nthN M k < ord l := hM _ (nthN_mem hk')
    rw [take_nthN M k hk'] at hn2 ⊢
    have hn3 := List.nodup_append.1 hn2
    have hyn : nthN M k ∉ M.take k := fun e => hn3.2.2 _ e _ (by simp) rfl
    rw [show castL (M.take k ++ [nthN M k]) = castL (M.take k) ++ [((nthN M k : Nat) : Int)] by simp [castL], soG_append, ih]
    show soG l [((nthN M k : Nat) : Int)] (bset (M.take k)) = _
    rw [soG_go (hasB_of hg hy) (by rw [bset_mem]; simpa using hyn), bset_app]; rfl
theorem soG_list {l : List Int} (hg : isGrp l = true) (M : List Nat) (hn : M.Nodup) (hM : ∀ y ∈ M, y < ord l) : soG l (castL M) 0 = some (bset M) := by
  have := soG_take hg hn hM M.length (Nat.le_refl _)
  rwa [List.take_length] at this
theorem soB_list {l : List Int} (hg : isGrp l = true) {M : List Nat} (hn : M.Nodup) (hM : ∀ y ∈ M, y < ord l) : soB l (castL M) = true := by
  unfold soB; rw [soG_list hg M hn hM, hg]; rfl
theorem soB_snoc {l : List Int} (hg : isGrp l = true) {M : List Nat} {y : Nat} (hn : M.Nodup) (hM : ∀ z ∈ M, z < ord l) (hy : y < ord l) : soB l (castL (M ++ [y])) = !(bset M).testBit y := by
  unfold soB
  rw [show castL (M ++ [y]) = castL M ++ [(y : Int)] by simp [castL], soG_append, soG_list hg M hn hM, hg]
  show ((soG l [(y : Int)] (bset M)).isSome && true) = _
  cases hb : (bset M).testBit y
  · rw [soG_go (hasB_of hg hy) hb]; rfl
  · rw [soG_bno hb]; rfl

/-! ### maps that keep sums, of lists of any numbers -/
def fineF (g h X Y : List Int) : Bool := Y.all (hasB h) && (soB g X && isGrp h && decide (X.length = Y.length) && decide (1 ≤ X.length ∧ X.length ≤ 6))
def natL (X : List Int) : List Nat := X.map Int.toNat
def fmF (g h X Y : List Int) : Bool := fineF g h X Y && kpB g h (natL X) (natL Y)
def isoF (g h X Y : List Int) : Bool := fmF g h X Y && fmF h g Y X
theorem natL_cast (L : List Nat) : natL (castL L) = L := by
  unfold natL castL; rw [List.map_map]
  have : (Int.toNat ∘ fun n : Nat => (n : Int)) = id := by funext n; rfl
  rw [this, List.map_id]
theorem fine_list {g h : List Int} (hg : isGrp g = true) (hh : isGrp h = true) {L M : List Nat} (hL : L.Nodup) (hLo : ∀ y ∈ L, y < ord g) (hMo : ∀ y ∈ M, y < ord h) (hlm : L.length = M.length) (h1 : 1 ≤ L.length) (h6 : L.length ≤ 6) : fineF g h (castL L) (castL M) = true := by
  unfold fineF
  rw [soB_list hg hL hLo, hh, castL_len, castL_len]
  have : (castL M).all (hasB h) = true := List.all_eq_true.2 fun x hx => by
    unfold castL at hx; obtain ⟨y, hy, rfl⟩ := List.mem_map.1 hx; exact hasB_of hh (hMo y hy)
  rw [this]; simp; omega
theorem iso_list {g h : List Int} (hg : isGrp g = true) (hh : isGrp h = true) {L M : List Nat} (hL : L.Nodup) (hM : M.Nodup) (hLo : ∀ y ∈ L, y < ord g) (hMo : ∀ y ∈ M, y < ord h) (hlm : L.length = M.length) (h1 : 1 ≤ L.length) (h6 : L.length ≤ 6) : isoF g h (castL L) (castL M) = (kpB g h L M && kpB h g M L) := by
  unfold isoF fmF
  rw [fine_list hg hh hL hLo hMo hlm h1 h6, fine_list hh hg hM hMo hLo hlm.symm (by omega) (by omega), natL_cast, natL_cast]; simp

/-! ### the search for an isomorphism -/
def isoK (g h : List Int) (L M : List Nat) : Bool := kpB g h L M && kpB h g M L
def fiI (g h : List Int) (L E : List Nat) : Nat → List Nat → Option (List Nat)
  | 0, _ => none
  | f + 1, M => if M.length = L.length then (if isoK g h L M then some M else none) else E.findSome? (fun y => if (bset M).testBit y then none else fiI g h L E f (M ++ [y]))
def fiS (g h : List Int) (L E : List Nat) : Nat → List Nat → Option (List Nat)
  | 0, _ => none
  | f + 1, M => if M.length = L.length then (if isoK g h L M then some M else none) else E.findSome? (fun y => if (bset M).testBit y || !kpB g h (L.take (M.length + 1)) (M ++ [y]) then none else fiS g h L E f (M ++ [y]))
theorem findSome_at {E : List Nat} {F : Nat → Option (List Nat)} {k : Nat} {r : List Nat} (hk : k < E.length) (h : ∀ k', k' < k → F (nthN E k') = none) (hr : F (nthN E k) = some r) : E.findSome? F = some r := by
  induction E generalizing k with
  | nil => simp at hk
  | cons y E ih =>
    cases k with
    | zero =>
      have : F y = some r := hr
      simp [List.findSome?, this]
    | succ k =>
      have h0 : F y = none := h 0 (by omega)
      simp only [List.findSome?, h0]
      exact ih (k := k) (by simpa using hk) (fun k' hk' => h (k' + 1) (by omega)) hr
theorem findSome_none {E : List Nat} {F : Nat → Option (List Nat)} (h : ∀ k', k' < E.length → F (nthN E k') = none) : E.findSome? F = none := by
  rw [List.findSome?_eq_none_iff]
  intro y hy
  obtain ⟨k, hk, rfl⟩ := List.getElem_of_mem hy
  have := h k hk
  simpa [nthN, List.getD, hk] using this
theorem findSome_get {E : List Nat} {F : Nat → Option (List Nat)} {r : List Nat} (h : E.findSome? F = some r) : ∃ y ∈ E, F y = some r := by
  obtain ⟨l1, y, l2, rfl, hy, -⟩ := List.findSome?_eq_some_iff.1 h
  exact ⟨y, by simp, hy⟩
theorem fiI_ext (g h : List Int) (L E : List Nat) : ∀ f M N, fiI g h L E f M = some N → (∃ R, N = M ++ R) ∧ N.length = L.length ∧ isoK g h L N = true := by
  intro f
  induction f with
  | zero => intro M N e; cases e
  | succ f ih =>
    intro M N e
    unfold fiI at e
    split at e
    · next hl =>
      split at e
      · next hk => cases e; exact ⟨⟨[], by simp⟩, hl, hk⟩
      · cases e
    · obtain ⟨y, -, hy⟩ := findSome_get e
      split at hy
      · cases hy
      · obtain ⟨⟨R, hR⟩, h2, h3⟩ := ih _ _ hy
        exact ⟨⟨y :: R, by rw [hR]; simp⟩, h2, h3⟩
theorem fiS_eq (g h : List Int) (L E : List Nat) : ∀ f M, M.length ≤ L.length → fiS g h L E f M = fiI g h L E f M := by
  intro f
  induction f with
  | zero => intro M _; rfl
  | succ f ih =>
    intro M hM
    unfold fiS fiI
    by_cases hl : M.length = L.length
    · rw [if_pos hl, if_pos hl]
    · rw [if_neg hl, if_neg hl]
      congr 1
      funext y
      by_cases hb : (bset M).testBit y = true
      · simp [hb]
      · have hb' : (bset M).testBit y = false := by simpa using hb
        rw [hb']
        by_cases hk : kpB g h (L.take (M.length + 1)) (M ++ [y]) = true
        · rw [hk]; simp; exact ih _ (by simp; omega)
        · have hk' : kpB g h (L.take (M.length + 1)) (M ++ [y]) = false := by simpa using hk
          rw [hk']
          simp
          cases hf : fiI g h L E f (M ++ [y]) with
          | none => rfl
          | some N =>
            exfalso
            obtain ⟨⟨R, hR⟩, h2, h3⟩ := fiI_ext g h L E _ _ _ hf
            unfold isoK at h3
            rw [Bool.and_eq_true] at h3
            have := kpB_take (n := M.length + 1) (by omega) h3.1
            rw [hR, show (M ++ [y] ++ R).take (M.length + 1) = M ++ [y] by
              rw [show M.length + 1 = (M ++ [y]).length by simp]; exact List.take_left] at this
            exact hk this
def ffC (g h : List Int) (a b : Int) : Bool := isSetB g a && isSetB h b && (decide (cnt a.toNat = cnt b.toNat) && decide (1 ≤ cnt a.toNat ∧ cnt a.toNat ≤ 5))
def ffR (g h : List Int) (a b : Int) : Option (List Nat) := if ffC g h a b then fiI g h (elems a.toNat) (elems b.toNat) (cnt a.toNat + 1) [] else none
def ffL (g h : List Int) (a b : Int) : List Nat := (ffR g h a b).getD []
def ffB (g h : List Int) (a b : Int) : Bool := (ffR g h a b).isSome
theorem ff_no {g h : List Int} {a b : Int} (e : ffR g h a b = none) : ffL g h a b = [] ∧ ffB g h a b = false := by unfold ffL ffB; rw [e]; exact ⟨rfl, rfl⟩
theorem ff_yes {g h : List Int} {a b : Int} {N : List Nat} (e : ffR g h a b = some N) : ffL g h a b = N ∧ ffB g h a b = true := by unfold ffL ffB; rw [e]; exact ⟨rfl, rfl⟩
end Go.Zz
