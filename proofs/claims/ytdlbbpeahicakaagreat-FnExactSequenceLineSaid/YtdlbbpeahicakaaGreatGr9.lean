/- Plain facts on maps that keep sums. No program is named here. -/
import Derived.Test.YtdlbbpeahicakaaGreatGr4
import Derived.Test.YtdlbbpeahicakaaGreatGr5
import Derived.Test.YtdlbbpeahicakaaGreatGr6
namespace Go.Zz
set_option linter.unusedVariables false

def kEq (g h : List Int) (L M : List Nat) (i j p q : Nat) : Bool := !(((addF g (nthN L i) (nthN L j) : Nat) : Int) == ((addF g (nthN L p) (nthN L q) : Nat) : Int)) || !(((addF h (nthN M i) (nthN M j) : Nat) : Int) != ((addF h (nthN M p) (nthN M q) : Nat) : Int))
theorem kEq_symm (g h : List Int) (L M : List Nat) (i j p q : Nat) : kEq g h L M i j p q = kEq g h L M p q i j := by
  unfold kEq
  rw [show (((addF g (nthN L i) (nthN L j) : Nat) : Int) == ((addF g (nthN L p) (nthN L q) : Nat) : Int)) = (((addF g (nthN L p) (nthN L q) : Nat) : Int) == ((addF g (nthN L i) (nthN L j) : Nat) : Int)) by rw [Bool.eq_iff_iff, beq_iff_eq, beq_iff_eq]; exact eq_comm,
    show (((addF h (nthN M i) (nthN M j) : Nat) : Int) != ((addF h (nthN M p) (nthN M q) : Nat) : Int)) = (((addF h (nthN M p) (nthN M q) : Nat) : Int) != ((addF h (nthN M i) (nthN M j) : Nat) : Int)) by rw [Bool.eq_iff_iff, bne_iff_ne, bne_iff_ne]; exact ne_comm]
/-- equal sums go to equal sums -/
def kpB (g h : List Int) (L M : List Nat) : Bool := (List.range L.length).all fun i => (List.range L.length).all fun j => (List.range L.length).all fun p => (List.range L.length).all fun q => decide (j < i) || decide (q < p) || kEq g h L M i j p q
theorem kpB_iff {g h : List Int} {L M : List Nat} : kpB g h L M = true ↔ ∀ i j p q, i ≤ j → j < L.length → p ≤ q → q < L.length → kEq g h L M i j p q = true := by
  unfold kpB
  simp only [List.all_eq_true, List.mem_range]
  constructor
  · intro H i j p q h1 h2 h3 h4
    have := H i (by omega) j h2 p (by omega) q h4
    simpa [show ¬ j < i by omega, show ¬ q < p by omega] using this
  · intro H i h1 j h2 p h3 q h4
    by_cases hij : j < i
    · simp [hij]
    · by_cases hpq : q < p
      · simp [hpq]
      · rw [H i j p q (by omega) h2 (by omega) h4]; simp
theorem kpB_no {g h : List Int} {L M : List Nat} {i j p q : Nat} (h1 : i ≤ j) (h2 : j < L.length) (h3 : p ≤ q) (h4 : q < L.length) (e : kEq g h L M i j p q = false) : kpB g h L M = false := by
  rw [← Bool.not_eq_true, kpB_iff]; intro H; rw [H i j p q h1 h2 h3 h4] at e; cases e
/-- all pairs p, q -/
theorem kpB_all {g h : List Int} {L M : List Nat} (H : ∀ i, i < L.length → ∀ j p q, i ≤ j → j < L.length → p < L.length → p ≤ q → q < L.length → kEq g h L M i j p q = true) : kpB g h L M = true := by
  rw [kpB_iff]; intro i j p q h1 h2 h3 h4; exact H i (by omega) j p q h1 h2 (by omega) h3 h4
/-- the pairs with p not above i -/
theorem kpB_half {g h : List Int} {L M : List Nat} (H : ∀ i, i < L.length → ∀ j p q, i ≤ j → j < L.length → p < i + 1 → p ≤ q → q < L.length → kEq g h L M i j p q = true) : kpB g h L M = true := by
  rw [kpB_iff]; intro i j p q h1 h2 h3 h4
  by_cases hp : p < i + 1
  · exact H i (by omega) j p q h1 h2 hp h3 h4
  · rw [kEq_symm]; exact H p (by omega) q i j h3 h4 (by omega) h1 h2
/-- a part is kept where all is kept -/
theorem kpB_take {g h : List Int} {L M : List Nat} {n : Nat} (hn : n ≤ L.length) (H : kpB g h L M = true) : kpB g h (L.take n) (M.take n) = true := by
  rw [kpB_iff] at H ⊢
  intro i j p q h1 h2 h3 h4
  rw [List.length_take] at h2 h4
  have := H i j p q h1 (by omega) h3 (by omega)
  have e : ∀ (N : List Nat) k, k < n → nthN (N.take n) k = nthN N k := fun N k hk => by simp [nthN, List.getD, hk]
  unfold kEq at this ⊢
  rw [e L i (by omega), e L j (by omega), e L p (by omega), e L q (by omega), e M i (by omega), e M j (by omega), e M p (by omega), e M q (by omega)]
  exact this

/-! ### sets out of lists -/
theorem add_bit {a x : Nat} (h : a.testBit x = false) : a + 2 ^ x = a ||| 2 ^ x := by
  have h1 : a &&& 2 ^ x = 0 := Nat.eq_of_testBit_eq fun i => by
    rw [Nat.testBit_and, Nat.testBit_two_pow, Nat.zero_testBit]
    by_cases e : x = i
    · subst e; rw [h]; rfl
    · simp [e]
  have e1 : a < 2 ^ (max a (2 ^ x) + 1) := Nat.lt_of_lt_of_le (Nat.lt_two_pow_self) (Nat.pow_le_pow_right (by omega) (by omega))
  have e2 : 2 ^ x < 2 ^ (max a (2 ^ x) + 1) := Nat.lt_of_lt_of_le (Nat.lt_two_pow_self) (Nat.pow_le_pow_right (by omega) (by omega))
  have h2 := andN_sub (max a (2 ^ x) + 1) (a ||| 2 ^ x) (2 ^ x) (Nat.or_lt_two_pow e1 e2)
  have h3 : andN (a ||| 2 ^ x) (2 ^ x) = a := Nat.eq_of_testBit_eq fun i => by
    rw [andN_bit, Nat.testBit_or, Nat.testBit_two_pow]
    by_cases e : x = i
    · subst e; simp [h]
    · simp [e]
  have h4 : (a ||| 2 ^ x) &&& 2 ^ x = 2 ^ x := Nat.eq_of_testBit_eq fun i => by
    rw [Nat.testBit_and, Nat.testBit_or, Nat.testBit_two_pow]
    by_cases e : x = i <;> simp [e]
  rw [h3, h4] at h2; exact h2
def soG (l : List Int) : List Int → Nat → Option Nat
  | [], a => some a
  | x :: r, a => if hasB l x && !a.testBit x.toNat then soG l r (a ||| 2 ^ x.toNat) else none
def soB (l X : List Int) : Bool := (soG l X 0).isSome && isGrp l
def soV (l X : List Int) : Int := match soG l X 0 with | some a => (a : Int) | none => 0
theorem soG_no {l X : List Int} (h : soG l X 0 = none) : soB l X = false ∧ soV l X = 0 := by unfold soB soV; rw [h]; exact ⟨rfl, rfl⟩
theorem soG_yes {l X : List Int} {a : Nat} (h : soG l X 0 = some a) : soB l X = isGrp l ∧ soV l X = (a : Int) := by unfold soB soV; rw [h]; exact ⟨by simp, rfl⟩
theorem soG_hno {l r : List Int} {x : Int} {a : Nat} (h : hasB l x = false) : soG l (x :: r) a = none := by unfold soG; rw [h]; rfl
theorem soG_bno {l r : List Int} {n a : Nat} (h : a.testBit n = true) : soG l ((n : Int) :: r) a = none := by unfold soG; simp [h]
theorem soG_go {l r : List Int} {n a : Nat} (h1 : hasB l n = true) (h : a.testBit n = false) : soG l ((n : Int) :: r) a = soG l r (a ||| 2 ^ n) := by
  conv => lhs; unfold soG
  simp [h, h1]
theorem soG_append (l : List Int) : ∀ (X Y : List Int) (a : Nat), soG l (X ++ Y) a = (soG l X a).bind (soG l Y)
  | [], _, _ => rfl
  | x :: X, Y, a => by
    rw [List.cons_append]; unfold soG
    split
    · exact soG_append l X Y _
    · rfl
theorem bset_app (M : List Nat) (y : Nat) : bset (M ++ [y]) = bset M ||| 2 ^ y := bset_snoc M y
theorem bset_mem {M : List Nat} {y : Nat} : (bset M).testBit y = decide (y ∈ M) := testBit_bset M y
theorem soG_take {l : List Int} (hg : isGrp l = true) {M : List Nat} (hn : M.Nodup) (hM : ∀ y ∈ M, y < ord l) : ∀ k, k ≤ M.length → soG l (castL (M.take k)) 0 = some (bset (M.take k))
  | 0, _ => rfl
  | k + 1, hk => by
    have hk' : k < M.length := by omega
    have ih := soG_take hg hn hM k (by omega)
    have hn2 : (M.take (k + 1)).Nodup := hn.sublist (List.take_sublist _ _)
    have hy : nthN M k < ord l := hM _ (nthN_mem hk')
    rw [take_nthN M k hk'] at hn2 ⊢
    have hn3 := List.nodup_append.1 hn2
    have hyn : nthN M k ∉ M.take k := fun e => hn3.2.2 _ e _ (by simp) rfl
    rw [show castL (M.take k ++ [nthN M k]) = castL (M.take k) ++ [((nthN M k : Nat) : Int)] by simp [castL], soG_append, ih]
    show soG l [((nthN M k : Nat) : Int)] (bset (M.take k)) = _
    rw [soG_go (hasB_of hg hy) (by rw [bset_mem]; simpa using hyn), bset_app]; rfl
theorem soG_list {l : List Int} (hg : isGrp l = true) (M : List Nat) (hn : M.Nodup) (hM : ∀ y ∈ M, y < ord l) : soG l (castL M) 0 = some (bset M) := by
  have := soG_take hg hn hM M.length (Nat.le_refl _)
  rwa [List.take_length] at this
theorem soB_list {l : List Int} (hg : isGrp l = true) {M : List Nat} (hn : M.Nodup) (hM : ∀ y ∈ M, y < ord l) : soB l (castL M) = true := by
  unfold soB; rw [soG_list hg M hn hM, hg]; rfl
theorem soB_snoc {l : List Int} (hg : isGrp l = true) {M : List Nat} {y : Nat} (hn : M.Nodup) (hM : ∀ z ∈ M, z < ord l) (hy : y < ord l) : soB l (castL (M ++ [y])) = !(bset M).testBit y := by
  unfold soB
  rw [show castL (M ++ [y]) = castL M ++ [(y : Int)] by simp [castL], soG_append, soG_list hg M hn hM, hg]
  show ((soG l [(y : Int)] (bset M)).isSome && true) = _
  cases hb : (bset M).testBit y
  · rw [soG_go (hasB_of hg hy) hb]; rfl
  · rw [soG_bno hb]; rfl

/-! ### maps that keep sums, of lists of any numbers -/
def fineF (g h X Y : List Int) : Bool := Y.all (hasB h) && (soB g X && isGrp h && decide (X.length = Y.length) && decide (1 ≤ X.length ∧ X.length ≤ 6))
def natL (X : List Int) : List Nat := X.map Int.toNat
def fmF (g h X Y : List Int) : Bool := fineF g h X Y && kpB g h (natL X) (natL Y)
def isoF (g h X Y : List Int) : Bool := fmF g h X Y && fmF h g Y X
theorem natL_cast (L : List Nat) : natL (castL L) = L := by
  unfold natL castL; rw [List.map_map]
  have : (Int.toNat ∘ fun n : Nat => (n : Int)) = id := by funext n; rfl
  rw [this, List.map_id]
theorem fine_list {g h : List Int} (hg : isGrp g = true) (hh : isGrp h = true) {L M : List Nat} (hL : L.Nodup) (hLo : ∀ y ∈ L, y < ord g) (hMo : ∀ y ∈ M, y < ord h) (hlm : L.length = M.length) (h1 : 1 ≤ L.length) (h6 : L.length ≤ 6) : fineF g h (castL L) (castL M) = true := by
  unfold fineF
  rw [soB_list hg hL hLo, hh, castL_len, castL_len]
  have : (castL M).all (hasB h) = true := List.all_eq_true.2 fun x hx => by
    unfold castL at hx; obtain ⟨y, hy, rfl⟩ := List.mem_map.1 hx; exact hasB_of hh (hMo y hy)
  rw [this]; simp; omega
theorem iso_list {g h : List Int} (hg : isGrp g = true) (hh : isGrp h = true) {L M : List Nat} (hL : L.Nodup) (hM : M.Nodup) (hLo : ∀ y ∈ L, y < ord g) (hMo : ∀ y ∈ M, y < ord h) (hlm : L.length = M.length) (h1 : 1 ≤ L.length) (h6 : L.length ≤ 6) : isoF g h (castL L) (castL M) = (kpB g h L M && kpB h g M L) := by
  unfold isoF fmF
  rw [fine_list hg hh hL hLo hMo hlm h1 h6, fine_list hh hg hM hMo hLo hlm.symm (by omega) (by omega), natL_cast, natL_cast]; simp

/-! ### the search for an isomorphism -/
def isoK (g h : List Int) (L M : List Nat) : Bool := kpB g h L M && kpB h g M L
def fiI (g h : List Int) (L E : List Nat) : Nat → List Nat → Option (List Nat)
  | 0, _ => none
  | f + 1, M => if M.length = L.length then (if isoK g h L M then some M else none) else E.findSome? (fun y => if (bset M).testBit y then none else fiI g h L E f (M ++ [y]))
def fiS (g h : List Int) (L E : List Nat) : Nat → List Nat → Option (List Nat)
  | 0, _ => none
  | f + 1, M => if M.length = L.length then (if isoK g h L M then some M else none) else E.findSome? (fun y => if (bset M).testBit y || !kpB g h (L.take (M.length + 1)) (M ++ [y]) then none else fiS g h L E f (M ++ [y]))
theorem findSome_at {E : List Nat} {F : Nat → Option (List Nat)} {k : Nat} {r : List Nat} (hk : k < E.length) (h : ∀ k', k' < k → F (nthN E k') = none) (hr : F (nthN E k) = some r) : E.findSome? F = some r := by
  induction E generalizing k with
  | nil => simp at hk
  | cons y E ih =>
    cases k with
    | zero =>
      have : F y = some r := hr
      simp [List.findSome?, this]
    | succ k =>
      have h0 : F y = none := h 0 (by omega)
      simp only [List.findSome?, h0]
      exact ih (k := k) (by simpa using hk) (fun k' hk' => h (k' + 1) (by omega)) hr
theorem findSome_none {E : List Nat} {F : Nat → Option (List Nat)} (h : ∀ k', k' < E.length → F (nthN E k') = none) : E.findSome? F = none := by
  rw [List.findSome?_eq_none_iff]
  intro y hy
  obtain ⟨k, hk, rfl⟩ := List.getElem_of_mem hy
  have := h k hk
  simpa [nthN, List.getD, hk] using this
theorem findSome_get {E : List Nat} {F : Nat → Option (List Nat)} {r : List Nat} (h : E.findSome? F = some r) : ∃ y ∈ E, F y = some r := by
  obtain ⟨l1, y, l2, rfl, hy, -⟩ := List.findSome?_eq_some_iff.1 h
  exact ⟨y, by simp, hy⟩
theorem fiI_ext (g h : List Int) (L E : List Nat) : ∀ f M N, fiI g h L E f M = some N → (∃ R, N = M ++ R) ∧ N.length = L.length ∧ isoK g h L N = true := by
  intro f
  induction f with
  | zero => intro M N e; cases e
  | succ f ih =>
    intro M N e
    unfold fiI at e
    split at e
    · next hl =>
      split at e
      · next hk => cases e; exact ⟨⟨[], by simp⟩, hl, hk⟩
      · cases e
    · obtain ⟨y, -, hy⟩ := findSome_get e
      split at hy
      · cases hy
      · obtain ⟨⟨R, hR⟩, h2, h3⟩ := ih _ _ hy
        exact ⟨⟨y :: R, by rw [hR]; simp⟩, h2, h3⟩
theorem fiS_eq (g h : List Int) (L E : List Nat) : ∀ f M, M.length ≤ L.length → fiS g h L E f M = fiI g h L E f M := by
  intro f
  induction f with
  | zero => intro M _; rfl
  | succ f ih =>
    intro M hM
    unfold fiS fiI
    by_cases hl : M.length = L.length
    · rw [if_pos hl, if_pos hl]
    · rw [if_neg hl, if_neg hl]
      congr 1
      funext y
      by_cases hb : (bset M).testBit y = true
      · simp [hb]
      · have hb' : (bset M).testBit y = false := by simpa using hb
        rw [hb']
        by_cases hk : kpB g h (L.take (M.length + 1)) (M ++ [y]) = true
        · rw [hk]; simp; exact ih _ (by simp; omega)
        · have hk' : kpB g h (L.take (M.length + 1)) (M ++ [y]) = false := by simpa using hk
          rw [hk']
          simp
          cases hf : fiI g h L E f (M ++ [y]) with
          | none => rfl
          | some N =>
            exfalso
            obtain ⟨⟨R, hR⟩, h2, h3⟩ := fiI_ext g h L E _ _ _ hf
            unfold isoK at h3
            rw [Bool.and_eq_true] at h3
            have := kpB_take (n := M.length + 1) (by omega) h3.1
            rw [hR, show (M ++ [y] ++ R).take (M.length + 1) = M ++ [y] by
              rw [show M.length + 1 = (M ++ [y]).length by simp]; exact List.take_left] at this
            exact hk this
def ffC (g h : List Int) (a b : Int) : Bool := isSetB g a && isSetB h b && (decide (cnt a.toNat = cnt b.toNat) && decide (1 ≤ cnt a.toNat ∧ cnt a.toNat ≤ 5))
def ffR (g h : List Int) (a b : Int) : Option (List Nat) := if ffC g h a b then fiI g h (elems a.toNat) (elems b.toNat) (cnt a.toNat + 1) [] else none
def ffL (g h : List Int) (a b : Int) : List Nat := (ffR g h a b).getD []
def ffB (g h : List Int) (a b : Int) : Bool := (ffR g h a b).isSome
theorem ff_no {g h : List Int} {a b : Int} (e : ffR g h a b = none) : ffL g h a b = [] ∧ ffB g h a b = false := by unfold ffL ffB; rw [e]; exact ⟨rfl, rfl⟩
theorem ff_yes {g h : List Int} {a b : Int} {N : List Nat} (e : ffR g h a b = some N) : ffL g h a b = N ∧ ffB g h a b = true := by unfold ffL ffB; rw [e]; exact ⟨rfl, rfl⟩
end Go.Zz

/- Whether a map keeps sums: of the program and of the reference. -/
namespace Go.Zz
open Go.RowKit Go.Proofs
set_option maxHeartbeats 4000000
set_option maxRecDepth 8000

theorem keeps_any (v u : Value) (g h : List Int) (vL vM : Value) (L M : List Nat) (w : World) (hv : Ints w v g) (hu : Ints w u h) (Hg : Hid (isGrp g = true)) (Hh : Hid (isGrp h = true)) (hL : Ints w vL (castL L)) (hM : Ints w vM (castL M)) (hL24 : ∀ y ∈ L, y < 24) (hM24 : ∀ y ∈ M, y < 24) (hlm : L.length ≤ M.length) (hl : L.length ≤ 24) :
    Calls Tryz.prog 180 #[.agg #[v], .agg #[u], vL, vM] w fun e w' => e = .returned (.bool (kpB g h L M)) ∧ Ext w w' := by
  obtain ⟨wb, hwb⟩ : ∃ wb, wb = (w.alloc (.cells #[v] 27)).alloc (.cells #[u] 27) := ⟨_, rfl⟩
  have hE0 : Ext w wb := by rw [hwb]; exact ((Ext.refl _).alloc _).alloc _
  have B0 : Blk wb w.heap.size 27 #[v] := by rw [hwb]; exact (Blk.new _ _ _).alloc _
  have B1 : Blk wb (w.heap.size + 1) 27 #[u] := by rw [hwb]; simpa using Blk.new (w.alloc (.cells #[v] 27)) 27 #[u]
  have b0 : ∀ W, Ext wb W → W.cell? ⟨w.heap.size, 0, none⟩ = some v := fun W hW => (B0.ext hW).cell (i := 0) rfl
  have b1 : ∀ W, Ext wb W → W.cell? ⟨w.heap.size + 1, 0, none⟩ = some u := fun W hW => (B1.ext hW).cell (i := 0) rfl
  have HV := Lib.hid (fun W (hW : Ext wb W) => hv.ext (hE0.trans hW))
  have HU := Lib.hid (fun W (hW : Ext wb W) => hu.ext (hE0.trans hW))
  obtain ⟨aoL, cL, adrL, rfl, hadrL, hcellL⟩ := hL.nats
  have hixL := ints_index (c := cL) elI szI hadrL
  obtain ⟨aoM, cM, adrM, rfl, hadrM, hcellM⟩ := hM.nats
  have hixM := ints_index (c := cM) elI szI hadrM
  have hE := Ext.refl wb
  have Hwb := Lib.hid hwb
  clear hadrL hadrM hL hM hv hu hwb B0 B1
  have ob := ord_bd Hg.out
  go_enter Tryz.func180, Tryz.ntmps180
  go_wp2_with fail
  rw [← Hwb.out]
  go_loopw [15] (fun iv wr => ∃ i : Nat, i ≤ L.length ∧ iv = .int .i64 i ∧ Ext wb wr ∧ Hid (∀ i', i' < i → ∀ j p q, i' ≤ j → j < L.length → p < L.length → p ≤ q → q < L.length → kEq g h L M i' j p q = true)) (fun iv _ => L.length - (intOf iv).toNat)
  case atStart => exact ⟨0, by omega, rfl, hE, Lib.hid (by omega)⟩
  case round =>
    clear hE
    obtain ⟨i, hi, rfl, hE, H1⟩ := hrel
    by_cases hit : i < L.length
    · go_wp2_with fail
      go_loopw [10] (fun jv wq => ∃ j : Nat, i ≤ j ∧ j ≤ L.length ∧ jv = .int .i64 j ∧ Ext wb wq ∧ Hid (∀ j', i ≤ j' → j' < j → ∀ p q, p < L.length → p ≤ q → q < L.length → kEq g h L M i j' p q = true)) (fun jv _ => L.length - (intOf jv).toNat)
      case atStart => exact ⟨i, by omega, by omega, rfl, hE, Lib.hid (by omega)⟩
      case round =>
        clear hE
        obtain ⟨j, hij, hj, rfl, hE, H2⟩ := hrel
        by_cases hjt : j < L.length
        · go_wp2_with fail
          go_loopw [27] (fun pv wq => ∃ p : Nat, p ≤ L.length ∧ pv = .int .i64 p ∧ Ext wb wq ∧ Hid (∀ p', p' < p → ∀ q, p' ≤ q → q < L.length → kEq g h L M i j p' q = true)) (fun pv _ => L.length - (intOf pv).toNat)
          case atStart => exact ⟨0, by omega, rfl, hE, Lib.hid (by omega)⟩
          case round =>
            clear hE
            obtain ⟨p, hp, rfl, hE, H3⟩ := hrel
            by_cases hpt : p < L.length
            · go_wp2_with fail
              go_loopw [12] (fun qv wq => ∃ q : Nat, p ≤ q ∧ q ≤ L.length ∧ qv = .int .i64 q ∧ Ext wb wq ∧ Hid (∀ q', p ≤ q' → q' < q → kEq g h L M i j p q' = true)) (fun qv _ => L.length - (intOf qv).toNat)
              case atStart => exact ⟨p, by omega, by omega, rfl, hE, Lib.hid (by omega)⟩
              case round =>
                clear hE
                obtain ⟨q, hpq, hq, rfl, hE, H4⟩ := hrel
                by_cases hqt : q < L.length
                · have hpl : p < L.length := by omega
                  have him : i < M.length := by omega
                  have hjm : j < M.length := by omega
                  have hpm : p < M.length := by omega
                  have hqm : q < M.length := by omega
                  have cLi := fun U => hcellL i _ hit (hE0.trans (hE.trans (lat_ext wr U)))
                  have cLj := fun U => hcellL j _ hjt (hE0.trans (hE.trans (lat_ext wr U)))
                  have cLp := fun U => hcellL p _ hpl (hE0.trans (hE.trans (lat_ext wr U)))
                  have cLq := fun U => hcellL q _ hqt (hE0.trans (hE.trans (lat_ext wr U)))
                  have cMi := fun U => hcellM i _ him (hE0.trans (hE.trans (lat_ext wr U)))
                  have cMj := fun U => hcellM j _ hjm (hE0.trans (hE.trans (lat_ext wr U)))
                  have cMp := fun U => hcellM p _ hpm (hE0.trans (hE.trans (lat_ext wr U)))
                  have cMq := fun U => hcellM q _ hqm (hE0.trans (hE.trans (lat_ext wr U)))
                  have x0 := fun U => b0 _ (hE.trans (lat_ext wr U))
                  have x1 := fun U => b1 _ (hE.trans (lat_ext wr U))
                  have tLi := hL24 _ (nthN_mem hit)
                  have tLj := hL24 _ (nthN_mem hjt)
                  have tLp := hL24 _ (nthN_mem hpl)
                  have tLq := hL24 _ (nthN_mem hqt)
                  have tMi := hM24 _ (nthN_mem him)
                  have tMj := hM24 _ (nthN_mem hjm)
                  have tMp := hM24 _ (nthN_mem hpm)
                  have tMq := hM24 _ (nthN_mem hqm)
                  have a1 := fun U => add_any _ _ (nthN L i) (nthN L j) _ (HV.out _ (hE.trans (lat_ext wr U))) Hg (by omega) (by omega)
                  have a2 := fun U => add_any _ _ (nthN L p) (nthN L q) _ (HV.out _ (hE.trans (lat_ext wr U))) Hg (by omega) (by omega)
                  have a3 := fun U => add_any _ _ (nthN M i) (nthN M j) _ (HU.out _ (hE.trans (lat_ext wr U))) Hh (by omega) (by omega)
                  have a4 := fun U => add_any _ _ (nthN M p) (nthN M q) _ (HU.out _ (hE.trans (lat_ext wr U))) Hh (by omega) (by omega)
                  have hEb := hE
                  clear hE
                  have hE := Ext.refl wr
                  cases e1 : (((addF g (nthN L i) (nthN L j) : Nat) : Int) == ((addF g (nthN L p) (nthN L q) : Nat) : Int))
                  · have Hk : Hid (kEq g h L M i j p q = true) := Lib.hid (by unfold kEq; rw [e1]; rfl)
                    go_wp2_with fail
                    (refine wp_region_lat (wr) (by kernel_rfl) (by kernel_rfl) hE ?_); (repeat (go_big_quiet_step (first | (go_at_call 194; first | with_reducible exact Calls.lat (a1 _) | with_reducible exact Calls.lat (a2 _) | with_reducible exact Calls.lat (a3 _) | with_reducible exact Calls.lat (a4 _))))); (refine wpQuiet_nil ?_); (intro W hE'); (replace hE := lat_of hE'); (clear hE')
                    go_wp2_with fail
                    go_roundw
                    case rel => exact ⟨q + 1, by omega, by omega, by go_num, hEb.trans hE, Lib.hid fun q' h1 h2 => by by_cases e : q' = q; (subst e; exact Hk.out); exact H4.out q' h1 (by omega)⟩
                    case measure => (simp [intOf]; omega)
                  · cases e2 : (((addF h (nthN M i) (nthN M j) : Nat) : Int) != ((addF h (nthN M p) (nthN M q) : Nat) : Int))
                    · have Hk : Hid (kEq g h L M i j p q = true) := Lib.hid (by unfold kEq; rw [e1, e2]; rfl)
                      go_wp2_with fail
                      (refine wp_region_lat (wr) (by kernel_rfl) (by kernel_rfl) hE ?_); (repeat (go_big_quiet_step (first | (go_at_call 194; first | with_reducible exact Calls.lat (a1 _) | with_reducible exact Calls.lat (a2 _) | with_reducible exact Calls.lat (a3 _) | with_reducible exact Calls.lat (a4 _))))); (refine wpQuiet_nil ?_); (intro W hE'); (replace hE := lat_of hE'); (clear hE')
                      go_wp2_with fail
                      go_roundw
                      case rel => exact ⟨q + 1, by omega, by omega, by go_num, hEb.trans hE, Lib.hid fun q' h1 h2 => by by_cases e : q' = q; (subst e; exact Hk.out); exact H4.out q' h1 (by omega)⟩
                      case measure => (simp [intOf]; omega)
                    · have Hk : Hid (kpB g h L M = false) := Lib.hid (kpB_no hij hjt hpq hqt (by unfold kEq; rw [e1, e2]; rfl))
                      go_wp2_with fail
                      (refine wp_region_lat (wr) (by kernel_rfl) (by kernel_rfl) hE ?_); (repeat (go_big_quiet_step (first | (go_at_call 194; first | with_reducible exact Calls.lat (a1 _) | with_reducible exact Calls.lat (a2 _) | with_reducible exact Calls.lat (a3 _) | with_reducible exact Calls.lat (a4 _))))); (refine wpQuiet_nil ?_); (intro W hE'); (replace hE := lat_of hE'); (clear hE')
                      go_wp2_with fail
                      go_ret
                      exact ⟨ret_bool Hk.out.symm, hE0.trans (hEb.trans hE)⟩
                · have hql : q = L.length := by omega
                  subst hql
                  go_wp2_with fail
                  go_roundw
                  case rel => exact ⟨p + 1, by omega, by go_num, hE, Lib.hid fun p' h1 => by by_cases e : p' = p; (subst e; exact H4.out); exact H3.out p' (by omega)⟩
                  case measure => (simp [intOf]; omega)
            · have hpl : p = L.length := by omega
              go_wp2_with fail
              go_roundw
              case rel => exact ⟨j + 1, by omega, by omega, by go_num, hE, Lib.hid fun j' h1 h2 p' q' h3 => by by_cases e : j' = j; (subst e; exact H3.out p' (by omega) q'); exact H2.out j' h1 (by omega) p' q' h3⟩
              case measure => (simp [intOf]; omega)
        · have hjl : j = L.length := by omega
          go_wp2_with fail
          go_roundw
          case rel => exact ⟨i + 1, by omega, by go_num, hE, Lib.hid fun i' h1 j' p' q' h2 h3 => by by_cases e : i' = i; (subst e; exact H2.out j' h2 (by omega) p' q'); exact H1.out i' (by omega) j' p' q' h2 h3⟩
          case measure => (simp [intOf]; omega)
    · have hil : i = L.length := by omega
      have Hk : Hid (kpB g h L M = true) := Lib.hid (kpB_all fun i' h1 => H1.out i' (by omega))
      go_wp2_with fail
      go_ret
      exact ⟨ret_bool Hk.out.symm, hE0.trans hE⟩
theorem sKeeps_any (v u : Value) (g h : List Int) (vL vM : Value) (L M : List Nat) (w : World) (hv : Ints w v g) (hu : Ints w u h) (Hg : Hid (isGrp g = true)) (Hh : Hid (isGrp h = true)) (hL : Ints w vL (castL L)) (hM : Ints w vM (castL M)) (hL24 : ∀ y ∈ L, y < 24) (hM24 : ∀ y ∈ M, y < 24) (hlm : L.length ≤ M.length) (hl : L.length ≤ 24) :
    Calls Tryz.prog 213 #[.agg #[v], .agg #[u], vL, vM] w fun e w' => e = .returned (.bool (kpB g h L M)) ∧ Ext w w' := by
  obtain ⟨wb, hwb⟩ : ∃ wb, wb = (w.alloc (.cells #[v] 27)).alloc (.cells #[u] 27) := ⟨_, rfl⟩
  have hE0 : Ext w wb := by rw [hwb]; exact ((Ext.refl _).alloc _).alloc _
  have B0 : Blk wb w.heap.size 27 #[v] := by rw [hwb]; exact (Blk.new _ _ _).alloc _
  have B1 : Blk wb (w.heap.size + 1) 27 #[u] := by rw [hwb]; simpa using Blk.new (w.alloc (.cells #[v] 27)) 27 #[u]
  have b0 : ∀ W, Ext wb W → W.cell? ⟨w.heap.size, 0, none⟩ = some v := fun W hW => (B0.ext hW).cell (i := 0) rfl
  have b1 : ∀ W, Ext wb W → W.cell? ⟨w.heap.size + 1, 0, none⟩ = some u := fun W hW => (B1.ext hW).cell (i := 0) rfl
  have HV := Lib.hid (fun W (hW : Ext wb W) => hv.ext (hE0.trans hW))
  have HU := Lib.hid (fun W (hW : Ext wb W) => hu.ext (hE0.trans hW))
  obtain ⟨aoL, cL, adrL, rfl, hadrL, hcellL⟩ := hL.nats
  have hixL := ints_index (c := cL) elI szI hadrL
  obtain ⟨aoM, cM, adrM, rfl, hadrM, hcellM⟩ := hM.nats
  have hixM := ints_index (c := cM) elI szI hadrM
  have hE := Ext.refl wb
  have Hwb := Lib.hid hwb
  clear hadrL hadrM hL hM hv hu hwb B0 B1
  have ob := ord_bd Hg.out
  go_enter Tryz.func213, Tryz.ntmps213
  go_wp2_with fail
  rw [← Hwb.out]
  go_loopw [9] (fun iv wr => ∃ i : Nat, i ≤ L.length ∧ iv = .int .i64 i ∧ Ext wb wr ∧ Hid (∀ i', i' < i → ∀ j p q, i' ≤ j → j < L.length → p < (i' + 1) → p ≤ q → q < L.length → kEq g h L M i' j p q = true)) (fun iv _ => L.length - (intOf iv).toNat)
  case atStart => exact ⟨0, by omega, rfl, hE, Lib.hid (by omega)⟩
  case round =>
    clear hE
    obtain ⟨i, hi, rfl, hE, H1⟩ := hrel
    by_cases hit : i < L.length
    · go_wp2_with fail
      go_loopw [10] (fun jv wq => ∃ j : Nat, i ≤ j ∧ j ≤ L.length ∧ jv = .int .i64 j ∧ Ext wb wq ∧ Hid (∀ j', i ≤ j' → j' < j → ∀ p q, p < (i + 1) → p ≤ q → q < L.length → kEq g h L M i j' p q = true)) (fun jv _ => L.length - (intOf jv).toNat)
      case atStart => exact ⟨i, by omega, by omega, rfl, hE, Lib.hid (by omega)⟩
      case round =>
        clear hE
        obtain ⟨j, hij, hj, rfl, hE, H2⟩ := hrel
        by_cases hjt : j < L.length
        · go_wp2_with fail
          go_loopw [11] (fun pv wq => ∃ p : Nat, p ≤ (i + 1) ∧ pv = .int .i64 p ∧ Ext wb wq ∧ Hid (∀ p', p' < p → ∀ q, p' ≤ q → q < L.length → kEq g h L M i j p' q = true)) (fun pv _ => (i + 1) - (intOf pv).toNat)
          case atStart => exact ⟨0, by omega, rfl, hE, Lib.hid (by omega)⟩
          case round =>
            clear hE
            obtain ⟨p, hp, rfl, hE, H3⟩ := hrel
            by_cases hpt : p < (i + 1)
            · go_wp2_with fail
              go_loopw [12] (fun qv wq => ∃ q : Nat, p ≤ q ∧ q ≤ L.length ∧ qv = .int .i64 q ∧ Ext wb wq ∧ Hid (∀ q', p ≤ q' → q' < q → kEq g h L M i j p q' = true)) (fun qv _ => L.length - (intOf qv).toNat)
              case atStart => exact ⟨p, by omega, by omega, rfl, hE, Lib.hid (by omega)⟩
              case round =>
                clear hE
                obtain ⟨q, hpq, hq, rfl, hE, H4⟩ := hrel
                by_cases hqt : q < L.length
                · have hpl : p < L.length := by omega
                  have him : i < M.length := by omega
                  have hjm : j < M.length := by omega
                  have hpm : p < M.length := by omega
                  have hqm : q < M.length := by omega
                  have cLi := fun U => hcellL i _ hit (hE0.trans (hE.trans (lat_ext wr U)))
                  have cLj := fun U => hcellL j _ hjt (hE0.trans (hE.trans (lat_ext wr U)))
                  have cLp := fun U => hcellL p _ hpl (hE0.trans (hE.trans (lat_ext wr U)))
                  have cLq := fun U => hcellL q _ hqt (hE0.trans (hE.trans (lat_ext wr U)))
                  have cMi := fun U => hcellM i _ him (hE0.trans (hE.trans (lat_ext wr U)))
                  have cMj := fun U => hcellM j _ hjm (hE0.trans (hE.trans (lat_ext wr U)))
                  have cMp := fun U => hcellM p _ hpm (hE0.trans (hE.trans (lat_ext wr U)))
                  have cMq := fun U => hcellM q _ hqm (hE0.trans (hE.trans (lat_ext wr U)))
                  have x0 := fun U => b0 _ (hE.trans (lat_ext wr U))
                  have x1 := fun U => b1 _ (hE.trans (lat_ext wr U))
                  have tLi := hL24 _ (nthN_mem hit)
                  have tLj := hL24 _ (nthN_mem hjt)
                  have tLp := hL24 _ (nthN_mem hpl)
                  have tLq := hL24 _ (nthN_mem hqt)
                  have tMi := hM24 _ (nthN_mem him)
                  have tMj := hM24 _ (nthN_mem hjm)
                  have tMp := hM24 _ (nthN_mem hpm)
                  have tMq := hM24 _ (nthN_mem hqm)
                  have a1 := fun U => l2Add_any _ _ (nthN L i) (nthN L j) _ (HV.out _ (hE.trans (lat_ext wr U))) Hg (by omega) (by omega)
                  have a2 := fun U => l2Add_any _ _ (nthN L p) (nthN L q) _ (HV.out _ (hE.trans (lat_ext wr U))) Hg (by omega) (by omega)
                  have a3 := fun U => l2Add_any _ _ (nthN M i) (nthN M j) _ (HU.out _ (hE.trans (lat_ext wr U))) Hh (by omega) (by omega)
                  have a4 := fun U => l2Add_any _ _ (nthN M p) (nthN M q) _ (HU.out _ (hE.trans (lat_ext wr U))) Hh (by omega) (by omega)
                  have hEb := hE
                  clear hE
                  have hE := Ext.refl wr
                  cases e1 : (((addF g (nthN L i) (nthN L j) : Nat) : Int) == ((addF g (nthN L p) (nthN L q) : Nat) : Int))
                  · have Hk : Hid (kEq g h L M i j p q = true) := Lib.hid (by unfold kEq; rw [e1]; rfl)
                    go_wp2_with fail
                    (refine wp_region_lat (wr) (by kernel_rfl) (by kernel_rfl) hE ?_); (repeat (go_big_quiet_step (first | (go_at_call 141; first | with_reducible exact Calls.lat (a1 _) | with_reducible exact Calls.lat (a2 _) | with_reducible exact Calls.lat (a3 _) | with_reducible exact Calls.lat (a4 _))))); (refine wpQuiet_nil ?_); (intro W hE'); (replace hE := lat_of hE'); (clear hE')
                    go_wp2_with fail
                    go_roundw
                    case rel => exact ⟨q + 1, by omega, by omega, by go_num, hEb.trans hE, Lib.hid fun q' h1 h2 => by by_cases e : q' = q; (subst e; exact Hk.out); exact H4.out q' h1 (by omega)⟩
                    case measure => (simp [intOf]; omega)
                  · cases e2 : (((addF h (nthN M i) (nthN M j) : Nat) : Int) != ((addF h (nthN M p) (nthN M q) : Nat) : Int))
                    · have Hk : Hid (kEq g h L M i j p q = true) := Lib.hid (by unfold kEq; rw [e1, e2]; rfl)
                      go_wp2_with fail
                      (refine wp_region_lat (wr) (by kernel_rfl) (by kernel_rfl) hE ?_); (repeat (go_big_quiet_step (first | (go_at_call 141; first | with_reducible exact Calls.lat (a1 _) | with_reducible exact Calls.lat (a2 _) | with_reducible exact Calls.lat (a3 _) | with_reducible exact Calls.lat (a4 _))))); (refine wpQuiet_nil ?_); (intro W hE'); (replace hE := lat_of hE'); (clear hE')
                      go_wp2_with fail
                      go_roundw
                      case rel => exact ⟨q + 1, by omega, by omega, by go_num, hEb.trans hE, Lib.hid fun q' h1 h2 => by by_cases e : q' = q; (subst e; exact Hk.out); exact H4.out q' h1 (by omega)⟩
                      case measure => (simp [intOf]; omega)
                    · have Hk : Hid (kpB g h L M = false) := Lib.hid (kpB_no hij hjt hpq hqt (by unfold kEq; rw [e1, e2]; rfl))
                      go_wp2_with fail
                      (refine wp_region_lat (wr) (by kernel_rfl) (by kernel_rfl) hE ?_); (repeat (go_big_quiet_step (first | (go_at_call 141; first | with_reducible exact Calls.lat (a1 _) | with_reducible exact Calls.lat (a2 _) | with_reducible exact Calls.lat (a3 _) | with_reducible exact Calls.lat (a4 _))))); (refine wpQuiet_nil ?_); (intro W hE'); (replace hE := lat_of hE'); (clear hE')
                      go_wp2_with fail
                      go_ret
                      exact ⟨ret_bool Hk.out.symm, hE0.trans (hEb.trans hE)⟩
                · have hql : q = L.length := by omega
                  subst hql
                  go_wp2_with fail
                  go_roundw
                  case rel => exact ⟨p + 1, by omega, by go_num, hE, Lib.hid fun p' h1 => by by_cases e : p' = p; (subst e; exact H4.out); exact H3.out p' (by omega)⟩
                  case measure => (simp [intOf]; omega)
            · have hpl : p = (i + 1) := by omega
              go_wp2_with fail
              go_roundw
              case rel => exact ⟨j + 1, by omega, by omega, by go_num, hE, Lib.hid fun j' h1 h2 p' q' h3 => by by_cases e : j' = j; (subst e; exact H3.out p' (by omega) q'); exact H2.out j' h1 (by omega) p' q' h3⟩
              case measure => (simp [intOf]; omega)
        · have hjl : j = L.length := by omega
          go_wp2_with fail
          go_roundw
          case rel => exact ⟨i + 1, by omega, by go_num, hE, Lib.hid fun i' h1 j' p' q' h2 h3 => by by_cases e : i' = i; (subst e; exact H2.out j' h2 (by omega) p' q'); exact H1.out i' (by omega) j' p' q' h2 h3⟩
          case measure => (simp [intOf]; omega)
    · have hil : i = L.length := by omega
      have Hk : Hid (kpB g h L M = true) := Lib.hid (kpB_half fun i' h1 => H1.out i' (by omega))
      go_wp2_with fail
      go_ret
      exact ⟨ret_bool Hk.out.symm, hE0.trans hE⟩
end Go.Zz

/- Sets out of lists; maps that keep sums: SetOf, l15Fine, IsFreimanMap, IsFreimanIso of the reference. -/
namespace Go.Zz
open Go.RowKit Go.Proofs
set_option maxHeartbeats 1000000
set_option maxRecDepth 4000

theorem sSetOf_any (v : Value) (l : List Int) (vX : Value) (X : List Int) (w : World) (h : Ints w v l) (hX : Ints w vX X) :
    Calls Tryz.prog 119 #[.agg #[v], vX] w fun e w' => e = .returned (.tuple #[.int .i64 (soV l X), .bool (soB l X)]) ∧ Ext w w' := by
  obtain ⟨wb, hwb⟩ : ∃ wb, wb = w.alloc (.cells #[v] 27) := ⟨_, rfl⟩
  have hE0 := (Ext.refl w).alloc (.cells #[v] 27)
  have hb := box_cell w v 27
  rw [← hwb] at hE0 hb
  have hg : ∀ W, Ext wb W → Ints W v l := fun W hW => h.ext (hE0.trans hW)
  have hE := Ext.refl wb
  have Hsz : Hid (w.heap.size + 1 = wb.heap.size) := Lib.hid (by rw [hwb]; simp [go_sem])
  have Hwb := Lib.hid hwb
  clear hwb h
  obtain ⟨ao, c, adr, rfl, hlen, hadr, hcell⟩ := hX.op
  have hix := ints_index (c := c) elI szI hadr
  clear hadr hX
  go_enter Tryz.func119, Tryz.ntmps119
  go_wp2_with fail
  rw [← Hwb.out]
  go_loopw [6, 7] (fun av iv wr => ∃ (k a : Nat), k ≤ X.length ∧ iv = .int .i64 k ∧ av = .int .i64 a ∧ a < 2 ^ 24 ∧ Ext wb wr ∧ Hid (soG l X 0 = soG l (X.drop k) a)) (fun _ iv _ => X.length - (intOf iv).toNat)
  case atStart => exact ⟨0, 0, by omega, rfl, rfl, by decide, hE, Lib.hid rfl⟩
  case round =>
    clear hE
    obtain ⟨k, a, hk, rfl, rfl, ha, hE, H⟩ := hrel
    by_cases hlt : k < X.length
    · have hd := drop_nth X k hlt
      have hck := fun U => hcell k _ hlt (hE0.trans (hE.trans (lat_ext wr U)))
      have kb := fun U => hb _ (hE.trans (lat_ext wr U))
      have cI := fun U => l2Is_any v l (nth X k) (Lat wr U) (hg _ (hE.trans (lat_ext wr U)))
      have hEb := hE
      clear hE
      have hE := Ext.refl wr
      cases hh : hasB l (nth X k)
      · have Hn : Hid (soB l X = false ∧ soV l X = 0) := Lib.hid (soG_no (by rw [H.out, hd, soG_hno hh]))
        rw [hh] at cI
        clear hd hh
        go_wp2_with fail
        (refine wp_region_lat (wr) (by kernel_rfl) (by kernel_rfl) hE ?_); (repeat (go_big_quiet_step (first | (go_at_call 99; with_reducible exact Calls.lat (cI _))))); (refine wpQuiet_nil ?_); (intro W hE'); (replace hE := lat_of hE'); (clear hE')
        go_wp2_with fail
        exact bodyPost_ret (v := .tuple #[.int .i64 0, .bool false]) (by simp [results, Tryz.results119, go_sem]) rfl ⟨by rw [Hn.out.1, Hn.out.2], hE0.trans (hEb.trans hE)⟩
      · rw [hh] at cI
        obtain ⟨n, hn, hno, hgr⟩ := hasB_nat hh
        have hob := ord_bd hgr
        have hck3 : ∀ W, Ext wr W → W.cell? (adr k) = some (.int .i64 (n : Int)) := fun W hW => by rw [← hn]; exact hcell k _ hlt (hE0.trans (hEb.trans hW))
        rw [hn] at hd hh cI hck
        have hsh := ishr_nat (a := a) (n := n) (by omega)
        have hbt := bit_test' (a := a) (n := n) (by omega) (by omega)
        have hs1 := ishl_one (n := n) (by omega)
        have hpw := pw_le (n := n) (by omega)
        cases ht : a.testBit n
        · rw [ht] at hbt
          have Hn : Hid (soG l X 0 = soG l (X.drop (k + 1)) (a ||| 2 ^ n)) := Lib.hid (by rw [H.out, hd, soG_go hh ht])
          have Ha : Hid (((a : Int) + ((pw n : Nat) : Int)) = ((a ||| 2 ^ n : Nat) : Int)) := Lib.hid (by rw [← add_bit ht, pw_eq]; simp)
          have hab : a ||| 2 ^ n < 2 ^ 24 := Nat.or_lt_two_pow ha (Nat.pow_lt_pow_right (by omega) (by omega))
          clear hd hh ht hgr hn
          go_wp2_with fail
          (refine wp_region_lat (wr) (by kernel_rfl) (by kernel_rfl) hE ?_); (repeat (go_big_quiet_step (first | (go_at_call 99; with_reducible exact Calls.lat (cI _))))); (refine wpQuiet_nil ?_); (intro W hE'); (replace hE := lat_of hE'); (clear hE')
          go_wp2_with fail
          go_roundw
          case rel => exact ⟨k + 1, a ||| 2 ^ n, by omega, by go_num, by rw [Ha.out], hab, hEb.trans hE, Hn⟩
          case measure => (simp [intOf]; omega)
        · rw [ht] at hbt
          have Hn : Hid (soB l X = false ∧ soV l X = 0) := Lib.hid (soG_no (by rw [H.out, hd, soG_bno ht]))
          clear hd hh ht hgr hn
          go_wp2_with fail
          (refine wp_region_lat (wr) (by kernel_rfl) (by kernel_rfl) hE ?_); (repeat (go_big_quiet_step (first | (go_at_call 99; with_reducible exact Calls.lat (cI _))))); (refine wpQuiet_nil ?_); (intro W hE'); (replace hE := lat_of hE'); (clear hE')
          go_wp2_with fail
          exact bodyPost_ret (v := .tuple #[.int .i64 0, .bool false]) (by simp [results, Tryz.results119, go_sem]) rfl ⟨by rw [Hn.out.1, Hn.out.2], hE0.trans (hEb.trans hE)⟩
    · have hkl : k = X.length := by omega
      have Hn : Hid (soB l X = isGrp l ∧ soV l X = (a : Int)) := Lib.hid (soG_yes (by rw [H.out, hkl, List.drop_length]; rfl))
      clear hkl
      go_wp2_with (refine (sIsGroup_any _ _ _ (hg _ hE)).mono ?_; rintro e w' ⟨rfl, hE'⟩; replace hE := hE.trans hE')
      exact bodyPost_ret (v := .tuple #[.int .i64 a, .bool (isGrp l)]) (by simp [results, Tryz.results119, go_sem]) rfl ⟨by rw [Hn.out.1, Hn.out.2], hE0.trans hE⟩
theorem sFine_any (v u : Value) (g h : List Int) (vX vY : Value) (X Y : List Int) (w : World) (hv : Ints w v g) (hu : Ints w u h) (hX : Ints w vX X) (hY : Ints w vY Y) :
    Calls Tryz.prog 215 #[.agg #[v], .agg #[u], vX, vY] w fun e w' => e = .returned (.bool (fineF g h X Y)) ∧ Ext w w' := by
  obtain ⟨wb, hwb⟩ : ∃ wb, wb = (w.alloc (.cells #[v] 27)).alloc (.cells #[u] 27) := ⟨_, rfl⟩
  have hE0 : Ext w wb := by rw [hwb]; exact ((Ext.refl _).alloc _).alloc _
  have B0 : Blk wb w.heap.size 27 #[v] := by rw [hwb]; exact (Blk.new _ _ _).alloc _
  have B1 : Blk wb (w.heap.size + 1) 27 #[u] := by rw [hwb]; simpa using Blk.new (w.alloc (.cells #[v] 27)) 27 #[u]
  have b0 : ∀ W, Ext wb W → W.cell? ⟨w.heap.size, 0, none⟩ = some v := fun W hW => (B0.ext hW).cell (i := 0) rfl
  have b1 : ∀ W, Ext wb W → W.cell? ⟨w.heap.size + 1, 0, none⟩ = some u := fun W hW => (B1.ext hW).cell (i := 0) rfl
  have HV := Lib.hid (fun W (hW : Ext wb W) => hv.ext (hE0.trans hW))
  have HU := Lib.hid (fun W (hW : Ext wb W) => hu.ext (hE0.trans hW))
  have hE := Ext.refl wb
  have Hwb := Lib.hid hwb
  clear hv hu hwb B0 B1
  have HX := Lib.hid (fun W (hW : Ext wb W) => hX.ext (hE0.trans hW))
  obtain ⟨aoX, cX, -, rfl, hlenX, -, -⟩ := hX.op
  obtain ⟨ao, c, adr, rfl, hlen, hadr, hcell⟩ := hY.op
  have hix := ints_index (c := c) elI szI hadr
  clear hadr hX hY
  go_enter Tryz.func215, Tryz.ntmps215
  go_wp2_with fail
  rw [← Hwb.out]
  refine (sSetOf_any _ _ _ _ _ (HV.out _ hE) (HX.out _ hE)).mono ?_
  rintro e w1 ⟨rfl, hE1⟩
  replace hE := hE.trans hE1
  clear hE1
  go_wp2_with fail
  go_loopw [11] (fun iv wr => ∃ k : Nat, k ≤ Y.length ∧ iv = .int .i64 k ∧ Ext wb wr ∧ Hid (∀ j, j < k → hasB h (nth Y j) = true)) (fun iv _ => Y.length - (intOf iv).toNat)
  case atStart => exact ⟨0, by omega, rfl, hE, Lib.hid (by omega)⟩
  case round =>
    clear hE
    obtain ⟨k, hk, rfl, hE, H⟩ := hrel
    by_cases hlt : k < Y.length
    · have hck := fun U => hcell k _ hlt (hE0.trans (hE.trans (lat_ext wr U)))
      have kb := fun U => b1 _ (hE.trans (lat_ext wr U))
      have cI := fun U => l2Is_any u h (nth Y k) (Lat wr U) (HU.out _ (hE.trans (lat_ext wr U)))
      have hEb := hE
      clear hE
      have hE := Ext.refl wr
      cases hh : hasB h (nth Y k)
      · have Hn : Hid (fineF g h X Y = false) := Lib.hid (by
          unfold fineF
          have : Y.all (hasB h) = false := by
            rw [List.all_eq_false]; exact ⟨_, nth_mem hlt, by rw [hh]; simp⟩
          rw [this]; rfl)
        rw [hh] at cI
        clear hh
        go_wp2_with fail
        (refine wp_region_lat (wr) (by kernel_rfl) (by kernel_rfl) hE ?_); (repeat (go_big_quiet_step (first | (go_at_call 99; with_reducible exact Calls.lat (cI _))))); (refine wpQuiet_nil ?_); (intro W hE'); (replace hE := lat_of hE'); (clear hE')
        go_wp2_with fail
        go_ret
        exact ⟨ret_bool Hn.out.symm, hE0.trans (hEb.trans hE)⟩
      · have Hh := Lib.hid hh
        rw [hh] at cI
        clear hh
        go_wp2_with fail
        (refine wp_region_lat (wr) (by kernel_rfl) (by kernel_rfl) hE ?_); (repeat (go_big_quiet_step (first | (go_at_call 99; with_reducible exact Calls.lat (cI _))))); (refine wpQuiet_nil ?_); (intro W hE'); (replace hE := lat_of hE'); (clear hE')
        go_wp2_with fail
        go_roundw
        case rel => exact ⟨k + 1, by omega, by go_num, hEb.trans hE, Lib.hid fun j hj => by by_cases e : j = k; (subst e; exact Hh.out); exact H.out j (by omega)⟩
        case measure => (simp [intOf]; omega)
    · have Hn : Hid (fineF g h X Y = (soB g X && isGrp h && decide (X.length = Y.length) && decide (1 ≤ X.length ∧ X.length ≤ 6))) := Lib.hid (by
        unfold fineF
        have : Y.all (hasB h) = true := List.all_eq_true.2 fun x hx => by
          obtain ⟨j, hj, rfl⟩ := mem_nth hx; exact H.out j (by omega)
        rw [this]; rfl)
      have cG := fun W (hW : Ext wb W) => sIsGroup_any u h W (HU.out W hW)
      have cI := fun W => l1In_any ((X.length : Nat) : Int) 1 6 W
      have hin : inB ((X.length : Nat) : Int) 1 6 = decide (1 ≤ X.length ∧ X.length ≤ 6) := by
        rw [Bool.eq_iff_iff, inB_t, decide_eq_true_iff]; omega
      rw [hin] at cI
      have heq : (((X.length : Nat) : Int) == ((Y.length : Nat) : Int)) = decide (X.length = Y.length) := by
        rw [Bool.eq_iff_iff, beq_iff_eq, decide_eq_true_iff]; omega
      clear hin
      obtain ⟨d1, hd1⟩ : ∃ d, d = soB g X := ⟨_, rfl⟩
      obtain ⟨d2, hd2⟩ : ∃ d, d = isGrp h := ⟨_, rfl⟩
      obtain ⟨d3, hd3⟩ : ∃ d, d = decide (X.length = Y.length) := ⟨_, rfl⟩
      obtain ⟨d4, hd4⟩ : ∃ d, d = decide (1 ≤ X.length ∧ X.length ≤ 6) := ⟨_, rfl⟩
      rw [← hd1, ← hd2, ← hd3, ← hd4] at Hn
      rw [← hd1]
      rw [← hd2] at cG
      rw [← hd3] at heq
      rw [← hd4] at cI
      clear hd1 hd2 hd3 hd4
      cases d1
      · go_wp2_with fail
        go_ret
        exact ⟨ret_bool Hn.out.symm, hE0.trans hE⟩
      cases d2
      · go_wp2_with (refine (cG _ hE).mono ?_; rintro e w' ⟨rfl, hE'⟩; replace hE := hE.trans hE')
        go_ret
        exact ⟨ret_bool Hn.out.symm, hE0.trans hE⟩
      cases d3
      · go_wp2_with (refine (cG _ hE).mono ?_; rintro e w' ⟨rfl, hE'⟩; replace hE := hE.trans hE')
        go_ret
        exact ⟨ret_bool Hn.out.symm, hE0.trans hE⟩
      go_wp2_with (first | (go_at_call 100; refine (cG _ hE).mono ?_; rintro e w' ⟨rfl, hE'⟩; replace hE := hE.trans hE') | (go_at_call 139; refine (cI _).mono ?_; rintro e w' ⟨rfl, rfl⟩))
      go_ret
      exact ⟨ret_bool (by rw [Hn.out]; rfl), hE0.trans hE⟩
theorem fine_nat {g h X Y : List Int} (H : fineF g h X Y = true) : isGrp g = true ∧ isGrp h = true ∧ (∃ L M, X = castL L ∧ Y = castL M ∧ (∀ y ∈ L, y < 24) ∧ (∀ y ∈ M, y < 24)) ∧ X.length = Y.length ∧ X.length ≤ 6 := by
  unfold fineF at H
  simp only [Bool.and_eq_true, decide_eq_true_eq] at H
  obtain ⟨h1, ⟨⟨h2, h3⟩, h4⟩, -, h5⟩ := H
  unfold soB at h2
  rw [Bool.and_eq_true] at h2
  have key : ∀ (X : List Int) (a : Nat), (soG g X a).isSome = true → ∀ x ∈ X, hasB g x = true := by
    intro X
    induction X with
    | nil => intro a _ x hx; cases hx
    | cons y X ih =>
      intro a e x hx
      unfold soG at e
      split at e
      · next hc =>
        rw [Bool.and_eq_true] at hc
        rcases List.mem_cons.1 hx with rfl | hx
        · exact hc.1
        · exact ih _ e x hx
      · cases e
  have toN : ∀ (l : List Int) (X : List Int), (∀ x ∈ X, hasB l x = true) → X = castL (natL X) ∧ ∀ y ∈ natL X, y < 24 := by
    intro l X hX
    constructor
    · unfold castL natL; rw [List.map_map]
      conv => lhs; rw [← List.map_id X]
      refine List.map_congr_left fun x hx => ?_
      obtain ⟨n, rfl, -, -⟩ := hasB_nat (hX x hx); rfl
    · intro y hy
      unfold natL at hy
      obtain ⟨x, hx, rfl⟩ := List.mem_map.1 hy
      obtain ⟨n, rfl, hn, hg⟩ := hasB_nat (hX x hx)
      have := (ord_bd hg).2
      show n < 24; omega
  obtain ⟨a1, a2⟩ := toN g X (key X 0 h2.1)
  obtain ⟨b1, b2⟩ := toN h Y (List.all_eq_true.1 h1)
  exact ⟨h2.2, h3, ⟨_, _, a1, b1, a2, b2⟩, h4, h5⟩
theorem sMap_any (v u : Value) (g h : List Int) (vX vY : Value) (X Y : List Int) (w : World) (hv : Ints w v g) (hu : Ints w u h) (hX : Ints w vX X) (hY : Ints w vY Y) :
    Calls Tryz.prog 187 #[.agg #[v], .agg #[u], vX, vY] w fun e w' => e = .returned (.bool (fmF g h X Y)) ∧ Ext w w' := by
  obtain ⟨wb, hwb⟩ : ∃ wb, wb = (w.alloc (.cells #[v] 27)).alloc (.cells #[u] 27) := ⟨_, rfl⟩
  have hE0 : Ext w wb := by rw [hwb]; exact ((Ext.refl _).alloc _).alloc _
  have B0 : Blk wb w.heap.size 27 #[v] := by rw [hwb]; exact (Blk.new _ _ _).alloc _
  have B1 : Blk wb (w.heap.size + 1) 27 #[u] := by rw [hwb]; simpa using Blk.new (w.alloc (.cells #[v] 27)) 27 #[u]
  have b0 : ∀ W, Ext wb W → W.cell? ⟨w.heap.size, 0, none⟩ = some v := fun W hW => (B0.ext hW).cell (i := 0) rfl
  have b1 : ∀ W, Ext wb W → W.cell? ⟨w.heap.size + 1, 0, none⟩ = some u := fun W hW => (B1.ext hW).cell (i := 0) rfl
  have HV := Lib.hid (fun W (hW : Ext wb W) => hv.ext (hE0.trans hW))
  have HU := Lib.hid (fun W (hW : Ext wb W) => hu.ext (hE0.trans hW))
  have hE := Ext.refl wb
  have Hwb := Lib.hid hwb
  clear hv hu hwb B0 B1
  have HX := Lib.hid (fun W (hW : Ext wb W) => hX.ext (hE0.trans hW))
  have HY := Lib.hid (fun W (hW : Ext wb W) => hY.ext (hE0.trans hW))
  clear hX hY
  have cF := fun W (hW : Ext wb W) => sFine_any v u g h vX vY X Y W (HV.out W hW) (HU.out W hW) (HX.out W hW) (HY.out W hW)
  cases hf : fineF g h X Y
  · have Hn : Hid (fmF g h X Y = false) := Lib.hid (by unfold fmF; rw [hf]; rfl)
    rw [hf] at cF
    go_enter Tryz.func187, Tryz.ntmps187
    go_wp2_with fail
    rw [← Hwb.out]
    refine (cF _ hE).mono ?_
    rintro e w' ⟨rfl, hE'⟩
    replace hE := hE.trans hE'
    go_wp2_with fail
    go_ret
    exact ⟨ret_bool Hn.out.symm, hE0.trans hE⟩
  · have Hn : Hid (fmF g h X Y = kpB g h (natL X) (natL Y)) := Lib.hid (by unfold fmF; rw [hf]; rfl)
    rw [hf] at cF
    obtain ⟨hg, hh, ⟨L, M, rfl, rfl, hL, hM⟩, hlm, hl6⟩ := fine_nat hf
    rw [castL_len, castL_len] at hlm
    rw [castL_len] at hl6
    rw [natL_cast, natL_cast] at Hn
    have cK := fun W (hW : Ext wb W) => sKeeps_any v u g h vX vY L M W (HV.out W hW) (HU.out W hW) (Lib.hid hg) (Lib.hid hh) (HX.out W hW) (HY.out W hW) hL hM (by omega) (by omega)
    clear hf hg hh hlm hL hM
    go_enter Tryz.func187, Tryz.ntmps187
    go_wp2_with fail
    rw [← Hwb.out]
    refine (cF _ hE).mono ?_
    rintro e w' ⟨rfl, hE'⟩
    replace hE := hE.trans hE'
    go_wp2_with (refine (cK _ hE).mono ?_; rintro e w' ⟨rfl, hE'⟩; replace hE := hE.trans hE')
    go_ret
    exact ⟨ret_bool Hn.out.symm, hE0.trans hE⟩
theorem sIso_any (v u : Value) (g h : List Int) (vX vY : Value) (X Y : List Int) (w : World) (hv : Ints w v g) (hu : Ints w u h) (hX : Ints w vX X) (hY : Ints w vY Y) :
    Calls Tryz.prog 120 #[.agg #[v], .agg #[u], vX, vY] w fun e w' => e = .returned (.bool (isoF g h X Y)) ∧ Ext w w' := by
  obtain ⟨wb, hwb⟩ : ∃ wb, wb = (w.alloc (.cells #[v] 27)).alloc (.cells #[u] 27) := ⟨_, rfl⟩
  have hE0 : Ext w wb := by rw [hwb]; exact ((Ext.refl _).alloc _).alloc _
  have B0 : Blk wb w.heap.size 27 #[v] := by rw [hwb]; exact (Blk.new _ _ _).alloc _
  have B1 : Blk wb (w.heap.size + 1) 27 #[u] := by rw [hwb]; simpa using Blk.new (w.alloc (.cells #[v] 27)) 27 #[u]
  have b0 : ∀ W, Ext wb W → W.cell? ⟨w.heap.size, 0, none⟩ = some v := fun W hW => (B0.ext hW).cell (i := 0) rfl
  have b1 : ∀ W, Ext wb W → W.cell? ⟨w.heap.size + 1, 0, none⟩ = some u := fun W hW => (B1.ext hW).cell (i := 0) rfl
  have HV := Lib.hid (fun W (hW : Ext wb W) => hv.ext (hE0.trans hW))
  have HU := Lib.hid (fun W (hW : Ext wb W) => hu.ext (hE0.trans hW))
  have hE := Ext.refl wb
  have Hwb := Lib.hid hwb
  clear hv hu hwb B0 B1
  have HX := Lib.hid (fun W (hW : Ext wb W) => hX.ext (hE0.trans hW))
  have HY := Lib.hid (fun W (hW : Ext wb W) => hY.ext (hE0.trans hW))
  clear hX hY
  have cF := fun W (hW : Ext wb W) => sMap_any v u g h vX vY X Y W (HV.out W hW) (HU.out W hW) (HX.out W hW) (HY.out W hW)
  have cG := fun W (hW : Ext wb W) => sMap_any u v h g vY vX Y X W (HU.out W hW) (HV.out W hW) (HY.out W hW) (HX.out W hW)
  cases hf : fmF g h X Y
  · have Hn : Hid (isoF g h X Y = false) := Lib.hid (by unfold isoF; rw [hf]; rfl)
    rw [hf] at cF
    go_enter Tryz.func120, Tryz.ntmps120
    go_wp2_with fail
    rw [← Hwb.out]
    refine (cF _ hE).mono ?_
    rintro e w' ⟨rfl, hE'⟩
    replace hE := hE.trans hE'
    go_wp2_with fail
    go_ret
    exact ⟨ret_bool Hn.out.symm, hE0.trans hE⟩
  · have Hn : Hid (isoF g h X Y = fmF h g Y X) := Lib.hid (by unfold isoF; rw [hf]; rfl)
    rw [hf] at cF
    go_enter Tryz.func120, Tryz.ntmps120
    go_wp2_with fail
    rw [← Hwb.out]
    refine (cF _ hE).mono ?_
    rintro e w' ⟨rfl, hE'⟩
    replace hE := hE.trans hE'
    go_wp2_with (refine (cG _ hE).mono ?_; rintro e w' ⟨rfl, hE'⟩; replace hE := hE.trans hE')
    go_ret
    exact ⟨ret_bool Hn.out.symm, hE0.trans hE⟩
end Go.Zz

/- append(s, xs...) and append(s, y) to a slice that is empty or owned behind a world: as a run, as a step of a region that draws, with what stays. -/
namespace Go.Zz
open Go.RowKit Go.Proofs
set_option maxHeartbeats 1000000

/-- what stays behind an append: blocks of other types -/
def Oth (TI : TypeId) (w w' : World) : Prop := ∀ b T cs, T ≠ TI → Blk w b T cs → Blk w' b T cs
theorem Oth.refl (TI : TypeId) (w : World) : Oth TI w w := fun _ _ _ _ h => h
theorem Oth.trans {TI : TypeId} {a b c : World} (h : Oth TI a b) (k : Oth TI b c) : Oth TI a c := fun b T cs hT hB => k b T cs hT (h b T cs hT hB)
theorem Ext.oth {w w' : World} (h : Ext w w') (TI : TypeId) : Oth TI w w' := fun _ _ _ _ hB => hB.ext h
theorem own_not {TI T : TypeId} {w0 w : World} {v : Value} {l : List Int} (h : Own TI w0 w v l) {g : Nat} {cs : Array Value} (hB : Blk w g T cs) (hT : T ≠ TI) : v.ownBlock ≠ some g := fun e => by
  obtain ⟨h1, h2⟩ := h
  rcases h1.2 with ⟨rfl, _⟩ | ⟨g', cap, cur, rfl, _, hh, _⟩
  · cases e
  · simp [Value.ownBlock] at e
    subst e
    have hB' : w.heap[g']? = some (.cells cs T (0, 0)) := hB
    rw [hB'] at hh
    simp at hh
    exact hT hh.2
theorem oth_grown {TI : TypeId} {w0 w w' : World} {v : Value} {l : List Int} (h : Own TI w0 w v l) (hg : w.grownBy w' v.ownBlock) : Oth TI w w' := fun b T cs hT hB =>
  hB.grown hg fun k hk e => own_not h hB hT (by rw [hk, e])
theorem run_appendsE {P : Program} {T TI : TypeId} (hT : IntSl P T TI) (ty : TypeId) (wb w0 w : World) (v u : Value) (l m : List Int) (hO : OwnE TI wb w0 w v l) (hI : Ints w u m) (hE : Ext w0 w) (hn : l.length + m.length ≤ 17592186044416) :
    ∃ v' w', (Builtin.append_ #[T, T] ty #[v, u]).run P w = .ok v' w' ∧ OwnE TI wb w0 w' v' (l ++ m) ∧ Ext w0 w' ∧ Oth TI w w' := by
  obtain ⟨i, hi, hz, hs1, hby⟩ := hT.info
  obtain ⟨ao, c, rfl, hmc, hml, hc⟩ := hI
  cases ao with
  | none =>
    have hm : m = [] := by
      cases m with
      | nil => rfl
      | cons y m => obtain ⟨_, h, _⟩ := hc 0 (by simp); cases h
    subst hm
    refine ⟨v, w, ?_, by simpa using hO, hE, Oth.refl _ _⟩
    rcases hO with ⟨g, -, rfl, rfl, hB⟩ | hO
    · simp [Builtin.append_, run_underlying hT.und, sizeOf, typeInfo, hi, Builtin.lenOf, Builtin.firstCells, storeCells, Result.andThen]
    · rcases hO.1.2 with ⟨rfl, _⟩ | ⟨g, cap, cur, rfl, _, _, hnc, _⟩
      · simp [Builtin.append_, run_underlying hT.und, sizeOf, typeInfo, hi, Builtin.lenOf, Builtin.firstCells]
      · simp [Builtin.append_, run_underlying hT.und, sizeOf, typeInfo, hi, Builtin.lenOf, Builtin.firstCells, hnc, storeCells, Result.andThen]
  | some ad =>
    have hnews : ∀ j u, (m.map (Value.int .i64))[j]? = some u → w.cell? (ad.add j) = some u := by
      intro j u hu
      have hj : j < m.length := by have := (List.getElem?_eq_some_iff.1 hu).1; simpa using this
      obtain ⟨a', ha', hc'⟩ := hc j hj
      cases ha'
      rw [hc', ← hu, nth_get _ _ hj]; simp [hj]
    rcases hO with ⟨g, h0, rfl, rfl, hB⟩ | hO
    · by_cases hm : m = []
      · subst hm
        have hown : w.ownsRow wb.heap.size TI 1 (.slice (some ⟨g, 0, none⟩) 0 0) 0 [] := by
          have hB' : w.heap[g]? = some (.cells #[] TI (0, 0)) := hB
          exact ⟨by simp, Or.inr ⟨g, 0, #[], rfl, h0, hB', Nat.le_refl _, Nat.zero_le _, by simp, by simp⟩⟩
        refine ⟨_, w, ?_, Or.inl ⟨g, h0, rfl, rfl, hB⟩, hE, Oth.refl _ _⟩
        have hrun := run_append_owned_none (P := P) w wb.heap.size T ty TI i 1 hT.und hi (.slice (some ⟨g, 0, none⟩) 0 0) 0 [] hown
        rw [← hrun]; simp [Builtin.append_, run_underlying hT.und, sizeOf, typeInfo, hi, Builtin.lenOf, Builtin.firstCells, go_sem]
      · have hpos : 0 < m.length := Nat.pos_of_ne_zero (fun e => hm (List.eq_nil_of_length_eq_zero e))
        obtain ⟨v', w', hrun, r1, r2⟩ := run_append_arg_grows (P := P) (w := w) T ty TI i (.int .i64 0) 1 8 hT.und hi hz hs1 hby rfl (by omega) ⟨g, 0, none⟩ 0 0 [] (by simp) (by simp) ad m.length c (m.map (Value.int .i64)) (by simp) hnews (by omega) (by unfold maxLen; omega) (by omega)
        have hO' : Own TI w w' v' m := ⟨by simpa using r1, hml⟩
        have hE2 : Ext w w' := (Ext.refl w).grown r2 (by simp)
        exact ⟨v', w', hrun, Or.inr (by simpa using hO'.mono hE), hE.trans hE2, hE2.oth TI⟩
    · obtain ⟨v', w', hrun, r1, r2, -⟩ := run_append_own (P := P) w w0.heap.size T ty TI i (.int .i64 0) 1 8 hT.und hi hz hs1 hby rfl (by omega) v l.length _ hO.1 ad m.length c (m.map (Value.int .i64)) (by simp) hnews (ints_oneCell _ _) (by unfold maxLen; omega) (by omega) hE.size
      exact ⟨v', w', hrun, Or.inr ⟨by simpa using r1, by simp; omega⟩, hE.grown r2 fun k hk => (hO.blk k hk).1, oth_grown hO r2⟩
/-- as a step of a region that draws its order -/
theorem step_appendsE {P : Program} {ops : Array Oper} {o : Oper} {a : Act} {w : World} {K : Act → World → Prop} {Q : Exit → Act → World → Prop} {E : Prop} {T TI : TypeId} (hT : IntSl P T TI)
    (hg : o.guard = none) (s x : Operand) (hop : o.op = Op.call { callee := Callee.builtin Builtin.append, args := #[s, x], argTypes := #[T, T] })
    (wb w0 : World) (v u : Value) (l m : List Int) (hO : OwnE TI wb w0 w v l) (hI : Ints w u m) (hE : Ext w0 w) (hn : l.length + m.length ≤ 17592186044416) (hs : a.eval s = v) (hx : a.eval x = u)
    (hK : ∀ v' w', OwnE TI wb w0 w' v' (l ++ m) → Ext w0 w' → Oth TI w w' → K (a.put o.dst v') w') :
    if Region.wanted o (yielded ops a.tmps) = true then Oper.wp P o a w K Q else E := by
  have hw : Region.wanted o (yielded ops a.tmps) = true := by simp [Region.wanted, hg]
  rw [if_pos hw]
  obtain ⟨v', w', hrun, h1, h2, h3⟩ := run_appendsE hT o.type wb w0 w v u l m hO hI hE hn
  unfold Oper.wp
  simp [execOp, hop, resolve, invoke, builtin, hs, hx, hrun, Result.andThen]
  exact hK v' w' h1 h2 h3
section
variable {P : Program} {ops : Array Oper} {rest : List Oper} {o : Oper} {a : Act} {Q : Exit → Act → World → Prop} {T TI : TypeId}
theorem wp_appendsE (hT : IntSl P T TI) (hg : o.guard = none) (s x : Operand) (hop : o.op = Op.call { callee := Callee.builtin Builtin.append, args := #[s, x], argTypes := #[T, T] })
    (wb w0 w : World) (v u : Value) (l m : List Int) (hO : OwnE TI wb w0 w v l) (hI : Ints w u m) (hE : Ext w0 w) (hn : l.length + m.length ≤ 17592186044416) (hs : a.eval s = v) (hx : a.eval x = u)
    (hK : ∀ v' w', OwnE TI wb w0 w' v' (l ++ m) → Ext w0 w' → Oth TI w w' → wpList P ops Q rest (a.put o.dst v') w') :
    wpList P ops Q (o :: rest) a w := by
  obtain ⟨v', w', hrun, h1, h2, h3⟩ := run_appendsE hT o.type wb w0 w v u l m hO hI hE hn
  refine wpList_plain hg fun K hK' => ?_
  unfold Oper.wp
  simp [execOp, hop, resolve, invoke, builtin, hs, hx, hrun, Result.andThen]
  exact hK' _ _ (hK v' w' h1 h2 h3)
theorem ints_one (W : World) (y : Int) (TI : TypeId) : Ints (W.alloc (.cells #[.int .i64 y] TI)) (.slice (some ⟨W.heap.size, 0, none⟩) 1 1) [y] := by
  refine ⟨_, 1, rfl, Nat.le_refl _, by simp, fun i hi => ⟨_, rfl, ?_⟩⟩
  match i, hi with
  | 0, _ => simp [go_sem, nth, Addr.add]
/-- append(s, y), with what stays -/
theorem wp_append1K (hT : IntSl P T TI) (hg : o.guard = none) (s x : Operand) (hop : o.op = Op.call { callee := Callee.builtin Builtin.append, args := #[s, x], argTypes := #[T, T] })
    (wb w0 W : World) (v : Value) (l : List Int) (y : Int) (hO : OwnE TI wb w0 W v l) (hE : Ext w0 W) (hn : l.length < 17592186044416) (hs : a.eval s = v) (hx : a.eval x = .slice (some ⟨W.heap.size, 0, none⟩) 1 1)
    (hK : ∀ v' w', OwnE TI wb w0 w' v' (l ++ [y]) → Ext w0 w' → Oth TI W w' → wpList P ops Q rest (a.put o.dst v') w') :
    wpList P ops Q (o :: rest) a (W.alloc (.cells #[.int .i64 y] TI)) :=
  wp_appendsE hT hg s x hop wb w0 _ v _ l [y] (hO.ext ((Ext.refl W).alloc _)) (ints_one W y TI) (hE.alloc _) (by simp; omega) hs hx fun v' w' h1 h2 h3 =>
    hK v' w' h1 h2 ((((Ext.refl W).alloc _).oth TI).trans h3)
end
end Go.Zz
