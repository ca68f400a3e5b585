/- Plain facts on maps that keep sums. No program is named here. -/
import Derived.Test.YtpjpfpmapdjnaaaGr5
import Derived.Test.YtpjpfpmapdjnaaaGr6
import Derived.Test.YtpjpfpmapdjnaaaGr8
import Derived.Deep.DeepCutAuto
import Derived.Deep.RegionHeld3
import Derived.WalkSpells
namespace Go.Zz
set_option linter.unusedVariables false

def kEq (g h : List Int) (L M : List Nat) (i j p q : Nat) : Bool := !(((addF g (nthN L i) (nthN L j) : Nat) : Int) == ((addF g (nthN L p) (nthN L q) : Nat) : Int)) || !(((addF h (nthN M i) (nthN M j) : Nat) : Int) != ((addF h (nthN M p) (nthN M q) : Nat) : Int))
theorem kEq_symm (g h : List Int) (L M : List Nat) (i j p q : Nat) : kEq g h L M i j p q = kEq g h L M p q i j := by
  unfold kEq
  rw [show (((addF g (nthN L i) (nthN L j) : Nat) : Int) == ((addF g (nthN L p) (nthN L q) : Nat) : Int)) = (((addF g (nthN L p) (nthN L q) : Nat) : Int) == ((addF g (nthN L i) (nthN L j) : Nat) : Int)) by rw [Bool.eq_iff_iff, beq_iff_eq, beq_iff_eq]; exact eq_comm,
    show (((addF h (nthN M i) (nthN M j) : Nat) : Int) != ((addF h (nthN M p) (nthN M q) : Nat) : Int)) = (((addF h (nthN M p) (nthN M q) : Nat) : Int) != ((addF h (nthN M i) (nthN M j) : Nat) : Int)) by rw [Bool.eq_iff_iff, bne_iff_ne, bne_iff_ne]; exact ne_comm]
/-- equal sums go to equal sums -/
def kpB (g h : List Int) (L M : List Nat) : Bool := (List.range L.length).all fun i => (List.range L.length).all fun j => (List.range L.length).all fun p => (List.range L.length).all fun q => decide (j < i) || decide (q < p) || kEq g h L M i j p q
theorem kpB_iff {g h : List Int} {L M : List Nat} : kpB g h L M = true ↔ ∀ i j p q, i ≤ j → j < L.length → p ≤ q → q < L.length → kEq g h L M i j p q = true := by
  unfold kpB
  simp only [List.all_eq_true, List.mem_range]
  constructor
  · intro H i j p q h1 h2 h3 h4
    have := H i (by omega) j h2 p (by omega) q h4
    simpa [show ¬ j < i by omega, show ¬ q < p by omega] using this
  · intro H i h1 j h2 p h3 q h4
    by_cases hij : j < i
    · simp [hij]
    · by_cases hpq : q < p
      · simp [hpq]
      · rw [H i j p q (by omega) h2 (by omega) h4]; simp
theorem kpB_no {g h : List Int} {L M : List Nat} {i j p q : Nat} (h1 : i ≤ j) (h2 : j < L.length) (h3 : p ≤ q) (h4 : q < L.length) (e : kEq g h L M i j p q = false) : kpB g h L M = false := by
  rw [← Bool.not_eq_true, kpB_iff]; intro H; rw [H i j p q h1 h2 h3 h4] at e; cases e
/-- all pairs p, q -/
theorem kpB_all {g h : List Int} {L M : List Nat} (H : ∀ i, i < L.length → ∀ j p q, i ≤ j → j < L.length → p < L.length → p ≤ q → q < L.length → kEq g h L M i j p q = true) : kpB g h L M = true := by
  rw [kpB_iff]; intro i j p q h1 h2 h3 h4; exact H i (by omega) j p q h1 h2 (by omega) h3 h4
/-- the pairs with p not above i -/
theorem kpB_half {g h : List Int} {L M : List Nat} (H : ∀ i, i < L.length → ∀ j p q, i ≤ j → j < L.length → p < i + 1 → p ≤ q → q < L.length → kEq g h L M i j p q = true) : kpB g h L M = true := by
  rw [kpB_iff]; intro i j p q h1 h2 h3 h4
  by_cases hp : p < i + 1
  · exact H i (by omega) j p q h1 h2 hp h3 h4
  · rw [kEq_symm]; exact H p (by omega) q i j h3 h4 (by omega) h1 h2
/-- a part is kept where all is kept -/
theorem kpB_take {g h : List Int} {L M : List Nat} {n : Nat} (hn : n ≤ L.length) (H : kpB g h L M = true) : kpB g h (L.take n) (M.take n) = true := by
  rw [kpB_iff] at H ⊢
  intro i j p q h1 h2 h3 h4
  rw [List.length_take] at h2 h4
  have := H i j p q h1 (by omega) h3 (by omega)
  have e : ∀ (N : List Nat) k, k < n → nthN (N.take n) k = nthN N k := fun N k hk => by simp [nthN, List.getD, hk]
  unfold kEq at this ⊢
  rw [e L i (by omega), e L j (by omega), e L p (by omega), e L q (by omega), e M i (by omega), e M j (by omega), e M p (by omega), e M q (by omega)]
  exact this

/-! ### sets out of lists -/
theorem add_bit {a x : Nat} (h : a.testBit x = false) : a + 2 ^ x = a ||| 2 ^ x := by
  have h1 : a &&& 2 ^ x = 0 := Nat.eq_of_testBit_eq fun i => by
    rw [Nat.testBit_and, Nat.testBit_two_pow, Nat.zero_testBit]
    by_cases e : x = i
    · subst e; rw [h]; rfl
    · simp [e]
  have e1 : a < 2 ^ (max a (2 ^ x) + 1) := Nat.lt_of_lt_of_le (Nat.lt_two_pow_self) (Nat.pow_le_pow_right (by omega) (by omega))
  have e2 : 2 ^ x < 2 ^ (max a (2 ^ x) + 1) := Nat.lt_of_lt_of_le (Nat.lt_two_pow_self) (Nat.pow_le_pow_right (by omega) (by omega))
  have h2 := andN_sub (max a (2 ^ x) + 1) (a ||| 2 ^ x) (2 ^ x) (Nat.or_lt_two_pow e1 e2)
  have h3 : andN (a ||| 2 ^ x) (2 ^ x) = a := Nat.eq_of_testBit_eq fun i => by
    rw [andN_bit, Nat.testBit_or, Nat.testBit_two_pow]
    by_cases e : x = i
    · subst e; simp [h]
    · simp [e]
  have h4 : (a ||| 2 ^ x) &&& 2 ^ x = 2 ^ x := Nat.eq_of_testBit_eq fun i => by
    rw [Nat.testBit_and, Nat.testBit_or, Nat.testBit_two_pow]
    by_cases e : x = i <;> simp [e]
  rw [h3, h4] at h2; exact h2
def soG (l : List Int) : List Int → Nat → Option Nat
  | [], a => some a
  | x :: r, a => if hasB l x && !a.testBit x.toNat then soG l r (a ||| 2 ^ x.toNat) else none
def soB (l X : List Int) : Bool := (soG l X 0).isSome && isGrp l
def soV (l X : List Int) : Int := match soG l X 0 with | some a => (a : Int) | none => 0
theorem soG_no {l X : List Int} (h : soG l X 0 = none) : soB l X = false ∧ soV l X = 0 := by unfold soB soV; rw [h]; exact ⟨rfl, rfl⟩
theorem soG_yes {l X : List Int} {a : Nat} (h : soG l X 0 = some a) : soB l X = isGrp l ∧ soV l X = (a : Int) := by unfold soB soV; rw [h]; exact ⟨by simp, rfl⟩
theorem soG_hno {l r : List Int} {x : Int} {a : Nat} (h : hasB l x = false) : soG l (x :: r) a = none := by unfold soG; rw [h]; rfl
theorem soG_bno {l r : List Int} {n a : Nat} (h : a.testBit n = true) : soG l ((n : Int) :: r) a = none := by unfold soG; simp [h]
theorem soG_go {l r : List Int} {n a : Nat} (h1 : hasB l n = true) (h : a.testBit n = false) : soG l ((n : Int) :: r) a = soG l r (a ||| 2 ^ n) := by
  conv => lhs; unfold soG
  simp [h, h1]
theorem soG_append (l : List Int) : ∀ (X Y : List Int) (a : Nat), soG l (X ++ Y) a = (soG l X a).bind (soG l Y)
  | [], _, _ => rfl
  | x :: X, Y, a => by
    rw [List.cons_append]; unfold soG
    split
    · exact soG_append l X Y _
    · rfl
theorem bset_app (M : List Nat) (y : Nat) : bset (M ++ [y]) = bset M ||| 2 ^ y := bset_snoc M y
theorem bset_mem {M : List Nat} {y : Nat} : (bset M).testBit y = decide (y ∈ M) := testBit_bset M y
theorem soG_take {l : List Int} (hg : isGrp l = true) {M : List Nat} (hn : M.Nodup) (hM : ∀ y ∈ M, y < ord l) : ∀ k, k ≤ M.length → soG l (castL (M.take k)) 0 = some (bset (M.take k))
  | 0, _ => rfl
  | k + 1, hk => by
    have hk' : k < M.length := by omega
    have ih := soG_take hg hn hM k (by omega)
    have hn2 : (M.take (k + 1)).Nodup := hn.sublist (List.take_sublist _ _)
    have hy : nthN M k < ord l := hM _ (nthN_mem hk')
    rw [take_nthN M k hk'] at hn2 ⊢
    have hn3 := List.nodup_append.1 hn2
    have hyn : nthN M k ∉ M.take k := fun e => hn3.2.2 _ e _ (by simp) rfl
    rw [show castL (M.take k ++ [nthN M k]) = castL (M.take k) ++ [((nthN M k : Nat) : Int)] by simp [castL], soG_append, ih]
    show soG l [((nthN M k : Nat) : Int)] (bset (M.take k)) = _
    rw [soG_go (hasB_of hg hy) (by rw [bset_mem]; simpa using hyn), bset_app]; rfl
theorem soG_list {l : List Int} (hg : isGrp l = true) (M : List Nat) (hn : M.Nodup) (hM : ∀ y ∈ M, y < ord l) : soG l (castL M) 0 = some (bset M) := by
  have := soG_take hg hn hM M.length (Nat.le_refl _)
  rwa [List.take_length] at this
theorem soB_list {l : List Int} (hg : isGrp l = true) {M : List Nat} (hn : M.Nodup) (hM : ∀ y ∈ M, y < ord l) : soB l (castL M) = true := by
  unfold soB; rw [soG_list hg M hn hM, hg]; rfl
theorem soB_snoc {l : List Int} (hg : isGrp l = true) {M : List Nat} {y : Nat} (hn : M.Nodup) (hM : ∀ z ∈ M, z < ord l) (hy : y < ord l) : soB l (castL (M ++ [y])) = !(bset M).testBit y := by
  unfold soB
  rw [show castL (M ++ [y]) = castL M ++ [(y : Int)] by simp [castL], soG_append, soG_list hg M hn hM, hg]
  show ((soG l [(y : Int)] (bset M)).isSome && true) = _
  cases hb : (bset M).testBit y
  · rw [soG_go (hasB_of hg hy) hb]; rfl
  · rw [soG_bno hb]; rfl

/-! ### maps that keep sums, of lists of any numbers -/
def fineF (g h X Y : List Int) : Bool := Y.all (hasB h) && (soB g X && isGrp h && decide (X.length = Y.length) && decide (1 ≤ X.length ∧ X.length ≤ 6))
def natL (X : List Int) : List Nat := X.map Int.toNat
def fmF (g h X Y : List Int) : Bool := fineF g h X Y && kpB g h (natL X) (natL Y)
def isoF (g h X Y : List Int) : Bool := fmF g h X Y && fmF h g Y X
theorem natL_cast (L : List Nat) : natL (castL L) = L := by
  unfold natL castL; rw [List.map_map]
  have : (Int.toNat ∘ fun n : Nat => (n : Int)) = id := by funext n; rfl
  rw [this, List.map_id]
theorem fine_list {g h : List Int} (hg : isGrp g = true) (hh : isGrp h = true) {L M : List Nat} (hL : L.Nodup) (hLo : ∀ y ∈ L, y < ord g) (hMo : ∀ y ∈ M, y < ord h) (hlm : L.length = M.length) (h1 : 1 ≤ L.length) (h6 : L.length ≤ 6) : fineF g h (castL L) (castL M) = true := by
  unfold fineF
  rw [soB_list hg hL hLo, hh, castL_len, castL_len]
  have : (castL M).all (hasB h) = true := List.all_eq_true.2 fun x hx => by
    unfold castL at hx; obtain ⟨y, hy, rfl⟩ := List.mem_map.1 hx; exact hasB_of hh (hMo y hy)
  rw [this]; simp; omega
theorem iso_list {g h : List Int} (hg : isGrp g = true) (hh : isGrp h = true) {L M : List Nat} (hL : L.Nodup) (hM : M.Nodup) (hLo : ∀ y ∈ L, y < ord g) (hMo : ∀ y ∈ M, y < ord h) (hlm : L.length = M.length) (h1 : 1 ≤ L.length) (h6 : L.length ≤ 6) : isoF g h (castL L) (castL M) = (kpB g h L M && kpB h g M L) := by
  unfold isoF fmF
  rw [fine_list hg hh hL hLo hMo hlm h1 h6, fine_list hh hg hM hMo hLo hlm.symm (by omega) (by omega), natL_cast, natL_cast]; simp

/-! ### the search for an isomorphism -/
def isoK (g h : List Int) (L M : List Nat) : Bool := kpB g h L M && kpB h g M L
def fiI (g h : List Int) (L E : List Nat) : Nat → List Nat → Option (List Nat)
  | 0, _ => none
  | f + 1, M => if M.length = L.length then (if isoK g h L M then some M else none) else E.findSome? (fun y => if (bset M).testBit y then none else fiI g h L E f (M ++ [y]))
def fiS (g h : List Int) (L E : List Nat) : Nat → List Nat → Option (List Nat)
  | 0, _ => none
  | f + 1, M => if M.length = L.length then (if isoK g h L M then some M else none) else E.findSome? (fun y => if (bset M).testBit y || !kpB g h (L.take (M.length + 1)) (M ++ [y]) then none else fiS g h L E f (M ++ [y]))
theorem findSome_at {E : List Nat} {F : Nat → Option (List Nat)} {k : Nat} {r : List Nat} (hk : k < E.length) (h : ∀ k', k' < k → F (nthN E k') = none) (hr : F (nthN E k) = some r) : E.findSome? F = some r := by
  induction E generalizing k with
  | nil => simp at hk
  | cons y E ih =>
    cases k with
    | zero =>
      have : F y = some r := hr
      simp [List.findSome?, this]
    | succ k =>
      have h0 : F y = none := h 0 (by omega)
      simp only [List.findSome?, h0]
      exact ih (k := k) (by simpa using hk) (fun k' hk' => h (k' + 1) (by omega)) hr
theorem findSome_none {E : List Nat} {F : Nat → Option (List Nat)} (h : ∀ k', k' < E.length → F (nthN E k') = none) : E.findSome? F = none := by
  rw [List.findSome?_eq_none_iff]
  intro y hy
  obtain ⟨k, hk, rfl⟩ := List.getElem_of_mem hy
  have := h k hk
  simpa [nthN, List.getD, hk] using this
theorem findSome_get {E : List Nat} {F : Nat → Option (List Nat)} {r : List Nat} (h : E.findSome? F = some r) : ∃ y ∈ E, F y = some r := by
  obtain ⟨l1, y, l2, rfl, hy, -⟩ := List.findSome?_eq_some_iff.1 h
  exact ⟨y, by simp, hy⟩
theorem fiI_ext (g h : List Int) (L E : List Nat) : ∀ f M N, fiI g h L E f M = some N → (∃ R, N = M ++ R) ∧ N.length = L.length ∧ isoK g h L N = true := by
  intro f
  induction f with
  | zero => intro M N e; cases e
  | succ f ih =>
    intro M N e
    unfold fiI at e
    split at e
    · next hl =>
      split at e
      · next hk => cases e; exact ⟨⟨[], by simp⟩, hl, hk⟩
      · cases e
    · obtain ⟨y, -, hy⟩ := findSome_get e
      split at hy
      · cases hy
      · obtain ⟨⟨R, hR⟩, h2, h3⟩ := ih _ _ hy
        exact ⟨⟨y :: R, by rw [hR]; simp⟩, h2, h3⟩
theorem fiS_eq (g h : List Int) (L E : List Nat) : ∀ f M, M.length ≤ L.length → fiS g h L E f M = fiI g h L E f M := by
  intro f
  induction f with
  | zero => intro M _; rfl
  | succ f ih =>
    intro M hM
    unfold fiS fiI
    by_cases hl : M.length = L.length
    · rw [if_pos hl, if_pos hl]
    · rw [if_neg hl, if_neg hl]
      congr 1
      funext y
      by_cases hb : (bset M).testBit y = true
      · simp [hb]
      · have hb' : (bset M).testBit y = false := by simpa using hb
        rw [hb']
        by_cases hk : kpB g h (L.take (M.length + 1)) (M ++ [y]) = true
        · rw [hk]; simp; exact ih _ (by simp; omega)
        · have hk' : kpB g h (L.take (M.length + 1)) (M ++ [y]) = false := by simpa using hk
          rw [hk']
          simp
          cases hf : fiI g h L E f (M ++ [y]) with
          | none => rfl
          | some N =>
            exfalso
            obtain ⟨⟨R, hR⟩, h2, h3⟩ := fiI_ext g h L E _ _ _ hf
            unfold isoK at h3
            rw [Bool.and_eq_true] at h3
            have := kpB_take (n := M.length + 1) (by omega) h3.1
            rw [hR, show (M ++ [y] ++ R).take (M.length + 1) = M ++ [y] by
              rw [show M.length + 1 = (M ++ [y]).length by simp]; exact List.take_left] at this
            exact hk this
def ffC (g h : List Int) (a b : Int) : Bool := isSetB g a && isSetB h b && (decide (cnt a.toNat = cnt b.toNat) && decide (1 ≤ cnt a.toNat ∧ cnt a.toNat ≤ 5))
def ffR (g h : List Int) (a b : Int) : Option (List Nat) := if ffC g h a b then fiI g h (elems a.toNat) (elems b.toNat) (cnt a.toNat + 1) [] else none
def ffL (g h : List Int) (a b : Int) : List Nat := (ffR g h a b).getD []
def ffB (g h : List Int) (a b : Int) : Bool := (ffR g h a b).isSome
theorem ff_no {g h : List Int} {a b : Int} (e : ffR g h a b = none) : ffL g h a b = [] ∧ ffB g h a b = false := by unfold ffL ffB; rw [e]; exact ⟨rfl, rfl⟩
theorem ff_yes {g h : List Int} {a b : Int} {N : List Nat} (e : ffR g h a b = some N) : ffL g h a b = N ∧ ffB g h a b = true := by unfold ffL ffB; rw [e]; exact ⟨rfl, rfl⟩
end Go.Zz

/- Whether a map keeps sums: of the program and of the reference. -/
namespace Go.Zz
open Go.RowKit Go.Proofs
set_option maxHeartbeats 4000000
set_option maxRecDepth 8000

end Go.Zz

/- Sets out of lists; maps that keep sums: SetOf, l15Fine, IsFreimanMap, IsFreimanIso of the reference. -/
namespace Go.Zz
open Go.RowKit Go.Proofs
set_option maxHeartbeats 1000000
set_option maxRecDepth 4000

theorem sSetOf_any (v : Value) (l : List Int) (vX : Value) (X : List Int) (w : World) (h : Ints w v l) (hX : Ints w vX X) :
    Calls Try.prog 67 #[.agg #[v], vX] w fun e w' => e = .returned (.tuple #[.int .i64 (soV l X), .bool (soB l X)]) ∧ Ext w w' := by
  obtain ⟨wb, hwb⟩ : ∃ wb, wb = w.alloc (.cells #[v] 27) := ⟨_, rfl⟩
  have hE0 := (Ext.refl w).alloc (.cells #[v] 27)
  have hb := box_cell w v 27
  rw [← hwb] at hE0 hb
  have hg : ∀ W, Ext wb W → Ints W v l := fun W hW => h.ext (hE0.trans hW)
  have hE := Ext.refl wb
  have Hsz : Hid (w.heap.size + 1 = wb.heap.size) := Lib.hid (by rw [hwb]; simp [go_sem])
  have Hwb := Lib.hid hwb
  clear hwb h
  obtain ⟨ao, c, adr, rfl, hlen, hadr, hcell⟩ := hX.op
  have hix := ints_index (c := c) elI szI hadr
  clear hadr hX
  go_enter Try.func67, Try.ntmps67
  go_wp2_with fail
  rw [← Hwb.out]
  go_loopw [6, 7] (fun av iv wr => ∃ (k a : Nat), k ≤ X.length ∧ iv = .int .i64 k ∧ av = .int .i64 a ∧ a < 2 ^ 24 ∧ Ext wb wr ∧ Hid (soG l X 0 = soG l (X.drop k) a)) (fun _ iv _ => X.length - (intOf iv).toNat)
  case atStart => exact ⟨0, 0, by omega, rfl, rfl, by decide, hE, Lib.hid rfl⟩
  case round =>
    clear hE
    obtain ⟨k, a, hk, rfl, rfl, ha, hE, H⟩ := hrel
    by_cases hlt : k < X.length
    · have hd := drop_nth X k hlt
      have hck := fun U => hcell k _ hlt (hE0.trans (hE.trans (lat_ext wr U)))
      have kb := fun U => hb _ (hE.trans (lat_ext wr U))
      have cI := fun U => l2Is_any v l (nth X k) (Lat wr U) (hg _ (hE.trans (lat_ext wr U)))
      have hEb := hE
      clear hE
      have hE := Ext.refl wr
      cases hh : hasB l (nth X k)
      · have Hn : Hid (soB l X = false ∧ soV l X = 0) := Lib.hid (soG_no (by rw [H.out, hd, soG_hno hh]))
        rw [hh] at cI
        clear hd hh
        go_wp2_with fail
        (refine wp_region_lat (wr) (by kernel_rfl) (by kernel_rfl) hE ?_); (repeat (go_big_quiet_step (first | (go_at_call 64; with_reducible exact Calls.lat (cI _))))); (refine wpQuiet_nil ?_); (intro W hE'); (replace hE := lat_of hE'); (clear hE')
        go_wp2_with fail
        exact bodyPost_ret (v := .tuple #[.int .i64 0, .bool false]) (by simp [results, Try.results67, go_sem]) rfl ⟨by rw [Hn.out.1, Hn.out.2], hE0.trans (hEb.trans hE)⟩
      · rw [hh] at cI
        obtain ⟨n, hn, hno, hgr⟩ := hasB_nat hh
        have hob := ord_bd hgr
        have hck3 : ∀ W, Ext wr W → W.cell? (adr k) = some (.int .i64 (n : Int)) := fun W hW => by rw [← hn]; exact hcell k _ hlt (hE0.trans (hEb.trans hW))
        rw [hn] at hd hh cI hck
        have hsh := ishr_nat (a := a) (n := n) (by omega)
        have hbt := bit_test' (a := a) (n := n) (by omega) (by omega)
        have hs1 := ishl_one (n := n) (by omega)
        have hpw := pw_le (n := n) (by omega)
        cases ht : a.testBit n
        · rw [ht] at hbt
          have Hn : Hid (soG l X 0 = soG l (X.drop (k + 1)) (a ||| 2 ^ n)) := Lib.hid (by rw [H.out, hd, soG_go hh ht])
          have Ha : Hid (((a : Int) + ((pw n : Nat) : Int)) = ((a ||| 2 ^ n : Nat) : Int)) := Lib.hid (by rw [← add_bit ht, pw_eq]; simp)
          have hab : a ||| 2 ^ n < 2 ^ 24 := Nat.or_lt_two_pow ha (Nat.pow_lt_pow_right (by omega) (by omega))
          clear hd hh ht hgr hn
          go_wp2_with fail
          (refine wp_region_lat (wr) (by kernel_rfl) (by kernel_rfl) hE ?_); (repeat (go_big_quiet_step (first | (go_at_call 64; with_reducible exact Calls.lat (cI _))))); (refine wpQuiet_nil ?_); (intro W hE'); (replace hE := lat_of hE'); (clear hE')
          go_wp2_with fail
          go_roundw
          case rel => exact ⟨k + 1, a ||| 2 ^ n, by omega, by go_num, by rw [Ha.out], hab, hEb.trans hE, Hn⟩
          case measure => (simp [intOf]; omega)
        · rw [ht] at hbt
          have Hn : Hid (soB l X = false ∧ soV l X = 0) := Lib.hid (soG_no (by rw [H.out, hd, soG_bno ht]))
          clear hd hh ht hgr hn
          go_wp2_with fail
          (refine wp_region_lat (wr) (by kernel_rfl) (by kernel_rfl) hE ?_); (repeat (go_big_quiet_step (first | (go_at_call 64; with_reducible exact Calls.lat (cI _))))); (refine wpQuiet_nil ?_); (intro W hE'); (replace hE := lat_of hE'); (clear hE')
          go_wp2_with fail
          exact bodyPost_ret (v := .tuple #[.int .i64 0, .bool false]) (by simp [results, Try.results67, go_sem]) rfl ⟨by rw [Hn.out.1, Hn.out.2], hE0.trans (hEb.trans hE)⟩
    · have hkl : k = X.length := by omega
      have Hn : Hid (soB l X = isGrp l ∧ soV l X = (a : Int)) := Lib.hid (soG_yes (by rw [H.out, hkl, List.drop_length]; rfl))
      clear hkl
      go_wp2_with (refine (sIsGroup_any _ _ _ (hg _ hE)).mono ?_; rintro e w' ⟨rfl, hE'⟩; replace hE := hE.trans hE')
      exact bodyPost_ret (v := .tuple #[.int .i64 a, .bool (isGrp l)]) (by simp [results, Try.results67, go_sem]) rfl ⟨by rw [Hn.out.1, Hn.out.2], hE0.trans hE⟩
theorem fine_nat {g h X Y : List Int} (H : fineF g h X Y = true) : isGrp g = true ∧ isGrp h = true ∧ (∃ L M, X = castL L ∧ Y = castL M ∧ (∀ y ∈ L, y < 24) ∧ (∀ y ∈ M, y < 24)) ∧ X.length = Y.length ∧ X.length ≤ 6 := by
  unfold fineF at H
  simp only [Bool.and_eq_true, decide_eq_true_eq] at H
  obtain ⟨h1, ⟨⟨h2, h3⟩, h4⟩, -, h5⟩ := H
  unfold soB at h2
  rw [Bool.and_eq_true] at h2
  have key : ∀ (X : List Int) (a : Nat), (soG g X a).isSome = true → ∀ x ∈ X, hasB g x = true := by
    intro X
    induction X with
    | nil => intro a _ x hx; cases hx
    | cons y X ih =>
      intro a e x hx
      unfold soG at e
      split at e
      · next hc =>
        rw [Bool.and_eq_true] at hc
        rcases List.mem_cons.1 hx with rfl | hx
        · exact hc.1
        · exact ih _ e x hx
      · cases e
  have toN : ∀ (l : List Int) (X : List Int), (∀ x ∈ X, hasB l x = true) → X = castL (natL X) ∧ ∀ y ∈ natL X, y < 24 := by
    intro l X hX
    constructor
    · unfold castL natL; rw [List.map_map]
      conv => lhs; rw [← List.map_id X]
      refine List.map_congr_left fun x hx => ?_
      obtain ⟨n, rfl, -, -⟩ := hasB_nat (hX x hx); rfl
    · intro y hy
      unfold natL at hy
      obtain ⟨x, hx, rfl⟩ := List.mem_map.1 hy
      obtain ⟨n, rfl, hn, hg⟩ := hasB_nat (hX x hx)
      have := (ord_bd hg).2
      show n < 24; omega
  obtain ⟨a1, a2⟩ := toN g X (key X 0 h2.1)
  obtain ⟨b1, b2⟩ := toN h Y (List.all_eq_true.1 h1)
  exact ⟨h2.2, h3, ⟨_, _, a1, b1, a2, b2⟩, h4, h5⟩
end Go.Zz

/- append to a slice that is empty without room, or owned behind a world. -/
namespace Go.Zz
open Go.RowKit Go.Proofs
set_option maxHeartbeats 400000

/-- v is the empty slice []int{} that reads as [], or it is owned in a block from w0 on -/
def OwnE (TI : TypeId) (wb w0 w : World) (v : Value) (l : List Int) : Prop :=
  (∃ g, wb.heap.size ≤ g ∧ v = .slice (some ⟨g, 0, none⟩) 0 0 ∧ l = [] ∧ Blk w g TI #[]) ∨ Own TI w0 w v l
theorem OwnE.ext {TI : TypeId} {wb w0 w w' : World} {v : Value} {l : List Int} (h : OwnE TI wb w0 w v l) (hE : Ext w w') : OwnE TI wb w0 w' v l := by
  rcases h with ⟨g, h0, h1, h2, h3⟩ | h
  · exact Or.inl ⟨g, h0, h1, h2, h3.ext hE⟩
  · exact Or.inr (h.ext hE)
theorem OwnE.own {TI : TypeId} {wb w0 w : World} {v : Value} {l : List Int} (h : OwnE TI wb w0 w v l) (hE : Ext wb w0) : Own TI wb w v l := by
  rcases h with ⟨g, h0, rfl, rfl, h3⟩ | h
  · exact ⟨⟨by simp, Or.inr ⟨g, 0, #[], rfl, h0, h3, Nat.le_refl _, Nat.zero_le _, by simp, by simp⟩⟩, by simp⟩
  · exact h.mono hE
theorem OwnE.start {TI : TypeId} {wb w1 w : World} (w0 : World) (hB : Blk w1 wb.heap.size TI #[]) (hE : Ext w1 w) : OwnE TI wb w0 w (.slice (some ⟨wb.heap.size, 0, none⟩) 0 0) [] := Or.inl ⟨_, Nat.le_refl _, rfl, rfl, hB.ext hE⟩
section
variable {P : Program} {ops : Array Oper} {rest : List Oper} {o : Oper} {a : Act} {Q : Exit → Act → World → Prop} {T TI : TypeId}
theorem wp_append1e (hT : IntSl P T TI) (hg : o.guard = none) (s x : Operand) (hop : o.op = Op.call { callee := Callee.builtin Builtin.append, args := #[s, x], argTypes := #[T, T] })
    (wb w0 W : World) (v : Value) (l : List Int) (y : Int) (hO : OwnE TI wb w0 W v l) (hE : Ext w0 W) (hn : l.length < 17592186044416) (hs : a.eval s = v) (hx : a.eval x = .slice (some ⟨W.heap.size, 0, none⟩) 1 1)
    (hK : ∀ v' w', Own TI w0 w' v' (l ++ [y]) → Ext w0 w' → wpList P ops Q rest (a.put o.dst v') w') :
    wpList P ops Q (o :: rest) a (W.alloc (.cells #[.int .i64 y] TI)) := by
  rcases hO with ⟨g, -, rfl, rfl, hB⟩ | hO
  · obtain ⟨i, hi, hz, hs1, hby⟩ := hT.info
    have hE1 := hE.alloc (.cells #[.int .i64 y] TI)
    obtain ⟨v', w', hrun, r1, r2⟩ := run_append_arg_grows (P := P) (w := W.alloc (.cells #[.int .i64 y] TI)) T o.type TI i (.int .i64 0) 1 8 hT.und hi hz hs1 hby rfl (by omega) ⟨g, 0, none⟩ 0 0 [] (by simp) (by simp) ⟨W.heap.size, 0, none⟩ 1 1 [.int .i64 y] rfl (cell_one_new _ _ _) (by omega) (by unfold maxLen; omega) (by omega)
    refine wpList_plain hg fun K hK' => ?_
    unfold Oper.wp
    simp [execOp, hop, resolve, invoke, builtin, hs, hx, hrun, Result.andThen]
    have hO' : Own TI (W.alloc (.cells #[.int .i64 y] TI)) w' v' [y] := ⟨by simpa using r1, by simp⟩
    exact hK' _ _ (hK _ _ (by simpa using hO'.mono hE1) (hE1.grown r2 (by simp)))
  · exact wp_append1 hT hg s x hop w0 W v l y hO hE hn hs hx hK
end
end Go.Zz

/- append(s, xs...) and append(s, y) to a slice that is empty or owned behind a world: as a run, as a step of a region that draws, with what stays. -/
namespace Go.Zz
open Go.RowKit Go.Proofs
set_option maxHeartbeats 1000000

/-- what stays behind an append: blocks of other types -/
def Oth (TI : TypeId) (w w' : World) : Prop := ∀ b T cs, T ≠ TI → Blk w b T cs → Blk w' b T cs
theorem Oth.refl (TI : TypeId) (w : World) : Oth TI w w := fun _ _ _ _ h => h
theorem Oth.trans {TI : TypeId} {a b c : World} (h : Oth TI a b) (k : Oth TI b c) : Oth TI a c := fun b T cs hT hB => k b T cs hT (h b T cs hT hB)
theorem Ext.oth {w w' : World} (h : Ext w w') (TI : TypeId) : Oth TI w w' := fun _ _ _ _ hB => hB.ext h
theorem own_not {TI T : TypeId} {w0 w : World} {v : Value} {l : List Int} (h : Own TI w0 w v l) {g : Nat} {cs : Array Value} (hB : Blk w g T cs) (hT : T ≠ TI) : v.ownBlock ≠ some g := fun e => by
  obtain ⟨h1, h2⟩ := h
  rcases h1.2 with ⟨rfl, _⟩ | ⟨g', cap, cur, rfl, _, hh, _⟩
  · cases e
  · simp [Value.ownBlock] at e
    subst e
    have hB' : w.heap[g']? = some (.cells cs T (0, 0)) := hB
    rw [hB'] at hh
    simp at hh
    exact hT hh.2
theorem oth_grown {TI : TypeId} {w0 w w' : World} {v : Value} {l : List Int} (h : Own TI w0 w v l) (hg : w.grownBy w' v.ownBlock) : Oth TI w w' := fun b T cs hT hB =>
  hB.grown hg fun k hk e => own_not h hB hT (by rw [hk, e])
theorem run_appendsE {P : Program} {T TI : TypeId} (hT : IntSl P T TI) (ty : TypeId) (wb w0 w : World) (v u : Value) (l m : List Int) (hO : OwnE TI wb w0 w v l) (hI : Ints w u m) (hE : Ext w0 w) (hn : l.length + m.length ≤ 17592186044416) :
    ∃ v' w', (Builtin.append_ #[T, T] ty #[v, u]).run P w = .ok v' w' ∧ OwnE TI wb w0 w' v' (l ++ m) ∧ Ext w0 w' ∧ Oth TI w w' := by
  obtain ⟨i, hi, hz, hs1, hby⟩ := hT.info
  obtain ⟨ao, c, rfl, hmc, hml, hc⟩ := hI
  cases ao with
  | none =>
    have hm : m = [] := by
      cases m with
      | nil => rfl
      | cons y m => obtain ⟨_, h, _⟩ := hc 0 (by simp); cases h
    subst hm
    refine ⟨v, w, ?_, by simpa using hO, hE, Oth.refl _ _⟩
    rcases hO with ⟨g, -, rfl, rfl, hB⟩ | hO
    · simp [Builtin.append_, run_underlying hT.und, sizeOf, typeInfo, hi, Builtin.lenOf, Builtin.firstCells, storeCells, Result.andThen]
    · rcases hO.1.2 with ⟨rfl, _⟩ | ⟨g, cap, cur, rfl, _, _, hnc, _⟩
      · simp [Builtin.append_, run_underlying hT.und, sizeOf, typeInfo, hi, Builtin.lenOf, Builtin.firstCells]
      · simp [Builtin.append_, run_underlying hT.und, sizeOf, typeInfo, hi, Builtin.lenOf, Builtin.firstCells, hnc, storeCells, Result.andThen]
  | some ad =>
    have hnews : ∀ j u, (m.map (Value.int .i64))[j]? = some u → w.cell? (ad.add j) = some u := by
      intro j u hu
      have hj : j < m.length := by have := (List.getElem?_eq_some_iff.1 hu).1; simpa using this
      obtain ⟨a', ha', hc'⟩ := hc j hj
      cases ha'
      rw [hc', ← hu, nth_get _ _ hj]; simp [hj]
    rcases hO with ⟨g, h0, rfl, rfl, hB⟩ | hO
    · by_cases hm : m = []
      · subst hm
        have hown : w.ownsRow wb.heap.size TI 1 (.slice (some ⟨g, 0, none⟩) 0 0) 0 [] := by
          have hB' : w.heap[g]? = some (.cells #[] TI (0, 0)) := hB
          exact ⟨by simp, Or.inr ⟨g, 0, #[], rfl, h0, hB', Nat.le_refl _, Nat.zero_le _, by simp, by simp⟩⟩
        refine ⟨_, w, ?_, Or.inl ⟨g, h0, rfl, rfl, hB⟩, hE, Oth.refl _ _⟩
        have hrun := run_append_owned_none (P := P) w wb.heap.size T ty TI i 1 hT.und hi (.slice (some ⟨g, 0, none⟩) 0 0) 0 [] hown
        rw [← hrun]; simp [Builtin.append_, run_underlying hT.und, sizeOf, typeInfo, hi, Builtin.lenOf, Builtin.firstCells, go_sem]
      · have hpos : 0 < m.length := Nat.pos_of_ne_zero (fun e => hm (List.eq_nil_of_length_eq_zero e))
        obtain ⟨v', w', hrun, r1, r2⟩ := run_append_arg_grows (P := P) (w := w) T ty TI i (.int .i64 0) 1 8 hT.und hi hz hs1 hby rfl (by omega) ⟨g, 0, none⟩ 0 0 [] (by simp) (by simp) ad m.length c (m.map (Value.int .i64)) (by simp) hnews (by omega) (by unfold maxLen; omega) (by omega)
        have hO' : Own TI w w' v' m := ⟨by simpa using r1, hml⟩
        have hE2 : Ext w w' := (Ext.refl w).grown r2 (by simp)
        exact ⟨v', w', hrun, Or.inr (by simpa using hO'.mono hE), hE.trans hE2, hE2.oth TI⟩
    · obtain ⟨v', w', hrun, r1, r2, -⟩ := run_append_own (P := P) w w0.heap.size T ty TI i (.int .i64 0) 1 8 hT.und hi hz hs1 hby rfl (by omega) v l.length _ hO.1 ad m.length c (m.map (Value.int .i64)) (by simp) hnews (ints_oneCell _ _) (by unfold maxLen; omega) (by omega) hE.size
      exact ⟨v', w', hrun, Or.inr ⟨by simpa using r1, by simp; omega⟩, hE.grown r2 fun k hk => (hO.blk k hk).1, oth_grown hO r2⟩
/-- as a step of a region that draws its order -/
theorem step_appendsE {P : Program} {ops : Array Oper} {o : Oper} {a : Act} {w : World} {K : Act → World → Prop} {Q : Exit → Act → World → Prop} {E : Prop} {T TI : TypeId} (hT : IntSl P T TI)
    (hg : o.guard = none) (s x : Operand) (hop : o.op = Op.call { callee := Callee.builtin Builtin.append, args := #[s, x], argTypes := #[T, T] })
    (wb w0 : World) (v u : Value) (l m : List Int) (hO : OwnE TI wb w0 w v l) (hI : Ints w u m) (hE : Ext w0 w) (hn : l.length + m.length ≤ 17592186044416) (hs : a.eval s = v) (hx : a.eval x = u)
    (hK : ∀ v' w', OwnE TI wb w0 w' v' (l ++ m) → Ext w0 w' → Oth TI w w' → K (a.put o.dst v') w') :
    if Region.wanted o (yielded ops a.tmps) = true then Oper.wp P o a w K Q else E := by
  have hw : Region.wanted o (yielded ops a.tmps) = true := by simp [Region.wanted, hg]
  rw [if_pos hw]
  obtain ⟨v', w', hrun, h1, h2, h3⟩ := run_appendsE hT o.type wb w0 w v u l m hO hI hE hn
  unfold Oper.wp
  simp [execOp, hop, resolve, invoke, builtin, hs, hx, hrun, Result.andThen]
  exact hK v' w' h1 h2 h3
section
variable {P : Program} {ops : Array Oper} {rest : List Oper} {o : Oper} {a : Act} {Q : Exit → Act → World → Prop} {T TI : TypeId}
theorem wp_appendsE (hT : IntSl P T TI) (hg : o.guard = none) (s x : Operand) (hop : o.op = Op.call { callee := Callee.builtin Builtin.append, args := #[s, x], argTypes := #[T, T] })
    (wb w0 w : World) (v u : Value) (l m : List Int) (hO : OwnE TI wb w0 w v l) (hI : Ints w u m) (hE : Ext w0 w) (hn : l.length + m.length ≤ 17592186044416) (hs : a.eval s = v) (hx : a.eval x = u)
    (hK : ∀ v' w', OwnE TI wb w0 w' v' (l ++ m) → Ext w0 w' → Oth TI w w' → wpList P ops Q rest (a.put o.dst v') w') :
    wpList P ops Q (o :: rest) a w := by
  obtain ⟨v', w', hrun, h1, h2, h3⟩ := run_appendsE hT o.type wb w0 w v u l m hO hI hE hn
  refine wpList_plain hg fun K hK' => ?_
  unfold Oper.wp
  simp [execOp, hop, resolve, invoke, builtin, hs, hx, hrun, Result.andThen]
  exact hK' _ _ (hK v' w' h1 h2 h3)
theorem ints_one (W : World) (y : Int) (TI : TypeId) : Ints (W.alloc (.cells #[.int .i64 y] TI)) (.slice (some ⟨W.heap.size, 0, none⟩) 1 1) [y] := by
  refine ⟨_, 1, rfl, Nat.le_refl _, by simp, fun i hi => ⟨_, rfl, ?_⟩⟩
  match i, hi with
  | 0, _ => simp [go_sem, nth, Addr.add]
/-- append(s, y), with what stays -/
theorem wp_append1K (hT : IntSl P T TI) (hg : o.guard = none) (s x : Operand) (hop : o.op = Op.call { callee := Callee.builtin Builtin.append, args := #[s, x], argTypes := #[T, T] })
    (wb w0 W : World) (v : Value) (l : List Int) (y : Int) (hO : OwnE TI wb w0 W v l) (hE : Ext w0 W) (hn : l.length < 17592186044416) (hs : a.eval s = v) (hx : a.eval x = .slice (some ⟨W.heap.size, 0, none⟩) 1 1)
    (hK : ∀ v' w', OwnE TI wb w0 w' v' (l ++ [y]) → Ext w0 w' → Oth TI W w' → wpList P ops Q rest (a.put o.dst v') w') :
    wpList P ops Q (o :: rest) a (W.alloc (.cells #[.int .i64 y] TI)) :=
  wp_appendsE hT hg s x hop wb w0 _ v _ l [y] (hO.ext ((Ext.refl W).alloc _)) (ints_one W y TI) (hE.alloc _) (by simp; omega) hs hx fun v' w' h1 h2 h3 =>
    hK v' w' h1 h2 ((((Ext.refl W).alloc _).oth TI).trans h3)
end
end Go.Zz

/- Steps of regions that draw their order: a struct variable is made, a struct is stored into it. -/
namespace Go.Zz
open Go.RowKit Go.Proofs
set_option maxHeartbeats 2000000
set_option maxRecDepth 20000

/-- append([]int{}, xs...) as a step of a region that draws its order; where its block lies -/
theorem step_copy2 {P : Program} {ops : Array Oper} {o : Oper} {a : Act} {w : World} {K : Act → World → Prop} {Q : Exit → Act → World → Prop} {E : Prop} {T TI : TypeId} (hT : IntSl P T TI)
    (hg : o.guard = none) (s x : Operand) (hop : o.op = Op.call { callee := Callee.builtin Builtin.append, args := #[s, x], argTypes := #[T, T] })
    (g : Nat) (u : Value) (m : List Int) (hs : a.eval s = .slice (some ⟨g, 0, none⟩) 0 0) (hx : a.eval x = u) (hB : Blk w g TI #[]) (hI : Ints w u m) (w0 : World) (h0 : w0.heap.size ≤ g) (hE : Ext w0 w)
    (hK : ∀ ao c w', Own TI w0 w' (.slice ao m.length c) m → (∀ k, (Value.slice ao m.length c).ownBlock = some k → k = g ∨ w.heap.size ≤ k) → Ext w w' → K (a.put o.dst (.slice ao m.length c)) w') :
    if Region.wanted o (yielded ops a.tmps) = true then Oper.wp P o a w K Q else E := by
  have hw : Region.wanted o (yielded ops a.tmps) = true := by simp [Region.wanted, hg]
  rw [if_pos hw]
  obtain ⟨i, hi, hz, hs1, hby⟩ := hT.info
  have hown : w.ownsRow w0.heap.size TI 1 (.slice (some ⟨g, 0, none⟩) 0 0) 0 [] := by
    have hB' : w.heap[g]? = some (.cells #[] TI (0, 0)) := hB
    exact ⟨by simp, Or.inr ⟨g, 0, #[], rfl, h0, hB', Nat.le_refl _, Nat.zero_le _, by simp, by simp⟩⟩
  obtain ⟨ao, c, rfl, hmc, hml, hc⟩ := hI
  have key : m = [] → Oper.wp P o a w K Q := by
    intro hm
    subst hm
    have hrun2 : (Builtin.append_ #[T, T] o.type #[.slice (some ⟨g, 0, none⟩) 0 0, .slice ao 0 c]).run P w = .ok (.slice (some ⟨g, 0, none⟩) 0 0) w := by
      have hrun := run_append_owned_none (P := P) w w0.heap.size T o.type TI i 1 hT.und hi (.slice (some ⟨g, 0, none⟩) 0 0) 0 [] hown
      rw [← hrun]; cases ao <;> simp [Builtin.append_, run_underlying hT.und, sizeOf, typeInfo, hi, Builtin.lenOf, Builtin.firstCells, go_sem]
    unfold Oper.wp
    simp [execOp, hop, resolve, invoke, builtin, hs, hx, hrun2, Result.andThen]
    exact hK (some ⟨g, 0, none⟩) 0 _ ⟨by simpa using hown, by simp⟩ (fun k hk => by simp [Value.ownBlock] at hk; exact Or.inl hk.symm) (Ext.refl w)
  by_cases hm : m = []
  · exact key hm
  · have hpos : 0 < m.length := Nat.pos_of_ne_zero (fun e => hm (List.eq_nil_of_length_eq_zero e))
    cases ao with
    | none => obtain ⟨_, h, _⟩ := hc 0 hpos; cases h
    | some ad =>
      obtain ⟨v', w', hrun, r1, r2⟩ := run_append_arg_grows (P := P) (w := w) T o.type TI i (.int .i64 0) 1 8 hT.und hi hz hs1 hby rfl (by omega) ⟨g, 0, none⟩ 0 0 [] (by simp) (by simp) ad m.length c (m.map (Value.int .i64)) (by simp) (by
        intro j u hu
        have hj : j < m.length := by have := (List.getElem?_eq_some_iff.1 hu).1; simpa using this
        obtain ⟨a', ha', hc'⟩ := hc j hj
        cases ha'
        rw [hc', ← hu, nth_get _ _ hj]; simp [hj]) (by omega) (by unfold maxLen; omega) (by omega)
      unfold Oper.wp
      simp [execOp, hop, resolve, invoke, builtin, hs, hx, hrun, Result.andThen]
      have hO' : Own TI w w' v' m := ⟨by simpa using r1, hml⟩
      obtain ⟨ao', c', rfl, -⟩ := hO'.shape
      exact hK ao' c' w' (hO'.mono hE) (fun k hk => Or.inr (hO'.blk k hk).1) ((Ext.refl w).grown r2 (by simp))
theorem step_build {ops : Array Oper} {o : Oper} {a : Act} {w : World} {K : Act → World → Prop} {Q : Exit → Act → World → Prop} {E : Prop} (hg : o.guard = none) (hop : o.op = Op.buildSlice 22 0 #[])
    (hK : ∀ g w', Blk w' g 3 #[] → w.heap.size ≤ g → Ext w w' → K (a.put o.dst (.slice (some ⟨g, 0, none⟩) 0 0)) w') :
    if Region.wanted o (yielded ops a.tmps) = true then Oper.wp Try.prog o a w K Q else E := by
  have hw : Region.wanted o (yielded ops a.tmps) = true := by simp [Region.wanted, hg]
  rw [if_pos hw]
  have := hK w.heap.size (w.alloc (.cells #[] 3)) (Blk.new _ _ _) (Nat.le_refl _) ((Ext.refl w).alloc _)
  unfold Oper.wp
  simp [execOp, hop, Result.andThen, go_sem]
  exact this
theorem grown_setCell (w : World) (a : Addr) (u : Value) : w.grownBy (w.setCell a u) (some a.block) :=
  ⟨rfl, rfl, rfl, by simp, fun k _ hk => Below.heap_setCell _ _ _ _ (fun e => hk (by rw [e]))⟩
theorem Own.setCell_ne {TI : TypeId} {w0 w : World} {v : Value} {l : List Int} (h : Own TI w0 w v l) {p : Addr} (hp : v.ownBlock ≠ some p.block) (u : Value) : Own TI w0 (w.setCell p u) v l :=
  h.kept (grown_setCell w p u) (Or.inr hp)
theorem Own.ne_of {TI : TypeId} {w0 w : World} {v : Value} {l : List Int} (h : Own TI w0 w v l) {b : Nat} (hb : b < w0.heap.size ∨ w.heap.size ≤ b) : v.ownBlock ≠ some b := fun e => by
  have := h.blk b e; omega
/-- a row of another type lies in another block -/
theorem Own.ne_blk {TI T : TypeId} {w0 w : World} {v : Value} {l : List Int} (h : Own TI w0 w v l) {g : Nat} {cs : Array Value} (hB : Blk w g T cs) (hT : T ≠ TI) : v.ownBlock ≠ some g := fun e => by
  obtain ⟨h1, h2⟩ := h
  rcases h1.2 with ⟨rfl, _⟩ | ⟨g', cap, cur, rfl, _, hh, _⟩
  · cases e
  · simp [Value.ownBlock] at e
    subst e
    have hB' : w.heap[g']? = some (.cells cs T (0, 0)) := hB
    rw [hB'] at hh
    simp at hh
    exact hT hh.2
end Go.Zz

/- The search for an isomorphism: the reference. -/
namespace Go.Zz
open Go.RowKit Go.Proofs
set_option maxHeartbeats 2000000
set_option maxRecDepth 8000

theorem step_build1 {ops : Array Oper} {o : Oper} {a : Act} {w : World} {K : Act → World → Prop} {Q : Exit → Act → World → Prop} {E : Prop} (hg : o.guard = none) (x : Operand) (y : Int) (hop : o.op = Op.buildSlice 22 1 #[(0, x)]) (hx : a.eval x = .int .i64 y)
    (hK : ∀ g w', Blk w' g 3 #[.int .i64 y] → w.heap.size ≤ g → Ext w w' → K (a.put o.dst (.slice (some ⟨g, 0, none⟩) 1 1)) w') :
    if Region.wanted o (yielded ops a.tmps) = true then Oper.wp Try.prog o a w K Q else E := by
  have hw : Region.wanted o (yielded ops a.tmps) = true := by simp [Region.wanted, hg]
  rw [if_pos hw]
  have := hK w.heap.size (w.alloc (.cells #[.int .i64 y] 3)) (Blk.new _ _ _) (Nat.le_refl _) ((Ext.refl w).alloc _)
  unfold Oper.wp
  simp [execOp, hop, hx]
  simp [Result.andThen, go_sem]
  exact this
theorem Ints.take {w : World} {ao : Option Addr} {n c : Nat} {l : List Int} (h : Ints w (.slice ao n c) l) {k : Nat} (hk : k ≤ l.length) : Ints w (.slice ao k c) (l.take k) := by
  obtain ⟨ao', c', hv, h1, h2, h3⟩ := h
  simp only [Value.slice.injEq] at hv
  obtain ⟨rfl, rfl, rfl⟩ := hv
  have hl : (l.take k).length = k := by rw [List.length_take]; omega
  refine ⟨ao, c, by rw [hl], by rw [hl]; omega, by rw [hl]; omega, fun i hi => ?_⟩
  rw [hl] at hi
  obtain ⟨a, ha, hc⟩ := h3 i (by omega)
  refine ⟨a, ha, ?_⟩
  rw [hc]; simp [nth, List.getD, hi]
theorem castL_take (L : List Nat) (n : Nat) : castL (L.take n) = (castL L).take n := by simp [castL]
theorem Blk.ints1 {w : World} {g : Nat} {T : TypeId} {y : Int} (h : Blk w g T #[.int .i64 y]) : Ints w (.slice (some ⟨g, 0, none⟩) 1 1) [y] := by
  refine ⟨_, 1, rfl, Nat.le_refl _, by simp, fun i hi => ⟨_, rfl, ?_⟩⟩
  match i, hi with
  | 0, _ => exact h.cell (i := 0) rfl
theorem Ints.cap {w : World} {ao : Option Addr} {n c : Nat} {l : List Int} (h : Ints w (.slice ao n c) l) : n ≤ c := by
  obtain ⟨ao', c', hv, h1, _⟩ := h
  simp only [Value.slice.injEq] at hv
  obtain ⟨rfl, rfl, rfl⟩ := hv
  exact h1
/-- l[:k] -/
theorem run_cut {P : Program} {t : TypeId} (ht : P.underlying t = some (.slice (P.elem t))) (hs : ∀ w, (sizeOf (P.elem t)).run P w = .ok 1 w) (ao : Option Addr) (n c : Nat) (k : Int) (k0 : 0 ≤ k) (hk : k ≤ c) (W : World) :
    (Instr.slice t (.slice ao n c) none (some (.int .i64 k)) none).run P W = .ok (.slice ao k.toNat c) W := by
  rw [run_slice_h (ht := ht) (h0 := k0) (h2 := hk), hs]
  simp [Result.andThen, sliced]
  cases ao <;> simp [Addr.add]
theorem run_cutAt {P : Program} {t : TypeId} (ht : P.underlying t = some (.slice (P.elem t))) (hs : ∀ w, (sizeOf (P.elem t)).run P w = .ok 1 w) (ao : Option Addr) (n c : Nat) (k : Int) (k0 : 0 ≤ k) (hk : k ≤ c) (W : World) :
    (Instr.sliceAt t (.slice ao n c) none (some (.int .i64 k)) none).run P W = .ok (.slice ao k.toNat c) W := by
  rw [run_sliceAt_slice (h := ht), run_cut ht hs ao n c k k0 hk]
/-- the list with one number more, in memory of the call's own -/
def NxP (w0 : World) (M : List Nat) (Y : Nat) (s : Value) (wx : World) : Prop :=
  ∃ ao c, s = .slice ao (M.length + 1) c ∧ Own 3 w0 wx (.slice ao (M.length + 1) c) (castL (M ++ [Y])) ∧ Ext w0 wx
theorem NxP.of {w0 : World} {M : List Nat} {Y : Nat} {s : Value} {wx : World} (h : OwnE 3 w0 w0 wx s (castL M ++ [(Y : Int)])) (hE : Ext w0 wx) : NxP w0 M Y s wx := by
  have h2 := h.own (Ext.refl w0)
  rw [show castL M ++ [(Y : Int)] = castL (M ++ [Y]) by simp [castL]] at h2
  obtain ⟨ao, c, rfl, -⟩ := h2.shape
  rw [castL_len] at h2 ⊢
  rw [show (M ++ [Y]).length = M.length + 1 by simp] at h2 ⊢
  exact ⟨ao, c, rfl, h2, hE⟩
end Go.Zz

/- Sequences of elements: sorted lists, parts, totals, shortest parts with the sum 0. No program is named here. -/
namespace Go.Zz

/-- whether a list ascends -/
def sortB (xs : List Int) : Bool := (List.range xs.length).all (fun j => decide (j = 0) || decide (nth xs (j - 1) ≤ nth xs j))
theorem sortB_iff (xs : List Int) : sortB xs = true ↔ ∀ j, 0 < j → j < xs.length → nth xs (j - 1) ≤ nth xs j := by
  unfold sortB
  simp only [List.all_eq_true, List.mem_range, Bool.or_eq_true, decide_eq_true_eq]
  constructor
  · intro h j h0 hj
    rcases h j hj with e | e
    · omega
    · exact e
  · intro h j hj
    by_cases e : j = 0
    · exact Or.inl e
    · exact Or.inr (h j (by omega) hj)
theorem sortB_no {xs : List Int} {j : Nat} (h0 : 0 < j) (hj : j < xs.length) (h : nth xs j < nth xs (j - 1)) : sortB xs = false := by
  rw [← Bool.not_eq_true, sortB_iff]
  intro hall; have := hall j h0 hj; omega
def seqB (l xs : List Int) : Bool := xs.all (hasB l) && isGrp l && decide (xs.length ≤ 12) && sortB xs
theorem seqB_has {l xs : List Int} {k : Nat} (hk : k < xs.length) (h : hasB l (nth xs k) = false) : seqB l xs = false := by
  have : xs.all (hasB l) = false := by
    rw [← Bool.not_eq_true, List.all_eq_true]
    intro hall; rw [hall _ (nth_mem hk)] at h; cases h
  unfold seqB; rw [this]; rfl
theorem seqB_down {l xs : List Int} {k : Nat} (h0 : 0 < k) (hk : k < xs.length) (h : nth xs k < nth xs (k - 1)) : seqB l xs = false := by
  unfold seqB; rw [sortB_no h0 hk h]; simp
theorem seqB_end {l xs : List Int} (h : ∀ j, j < xs.length → hasB l (nth xs j) = true) : seqB l xs = (isGrp l && decide (xs.length ≤ 12) && sortB xs) := by
  have : xs.all (hasB l) = true := by
    rw [List.all_eq_true]
    intro x hx; obtain ⟨k, hk, rfl⟩ := mem_nth hx; exact h k hk
  unfold seqB; rw [this]; simp
theorem nat_list : ∀ (xs : List Int), (∀ x ∈ xs, ∃ n : Nat, x = n) → ∃ X : List Nat, xs = castL X
  | [], _ => ⟨[], rfl⟩
  | x :: xs, h => by
    obtain ⟨n, hn⟩ := h x (by simp)
    obtain ⟨X, hX⟩ := nat_list xs (fun y hy => h y (by simp [hy]))
    exact ⟨n :: X, by rw [hn, hX]; simp [castL]⟩
theorem seqB_nat {l xs : List Int} (h : seqB l xs = true) : ∃ X : List Nat, xs = castL X ∧ (∀ x ∈ X, x < ord l) ∧ X.length ≤ 12 ∧ isGrp l = true ∧ ∀ x ∈ X, x < 24 := by
  simp only [seqB, Bool.and_eq_true, List.all_eq_true, decide_eq_true_eq] at h
  obtain ⟨⟨⟨h1, h2⟩, h3⟩, _⟩ := h
  obtain ⟨X, rfl⟩ := nat_list xs (fun x hx => by obtain ⟨n, hn, _⟩ := hasB_nat (h1 x hx); exact ⟨n, hn⟩)
  have hx : ∀ x ∈ X, x < ord l := fun x hx => by
    obtain ⟨n, hn, hlt, _⟩ := hasB_nat (h1 (x : Int) (by simp [castL]; exact ⟨x, hx, rfl⟩))
    have : x = n := by omega
    omega
  exact ⟨X, rfl, hx, by simpa [castL_len] using h3, h2, fun x hx' => Nat.lt_of_lt_of_le (hx x hx') (ord_bd h2).2⟩
/-- the terms of a mask -/
def partTo (xs : List Int) (m k : Nat) : List Int := ((List.range k).filter (fun i => m.testBit i)).map (nth xs)
def partI (xs : List Int) (m : Nat) : List Int := partTo xs m xs.length
theorem partTo_yes {xs : List Int} {m k : Nat} (h : m.testBit k = true) : partTo xs m (k + 1) = partTo xs m k ++ [nth xs k] := by
  unfold partTo; rw [List.range_succ, List.filter_append, List.map_append]; simp [h]
theorem partTo_no {xs : List Int} {m k : Nat} (h : m.testBit k = false) : partTo xs m (k + 1) = partTo xs m k := by
  unfold partTo; rw [List.range_succ, List.filter_append, List.map_append]; simp [h]
theorem partTo_len (xs : List Int) (m k : Nat) : (partTo xs m k).length ≤ k := by
  unfold partTo; rw [List.length_map]; exact Nat.le_trans (List.length_filter_le _ _) (by simp)
def partL (X : List Nat) (m : Nat) : List Nat := ((List.range X.length).filter (fun i => m.testBit i)).map (nthN X)
theorem partI_cast (X : List Nat) (m : Nat) : partI (castL X) m = castL (partL X m) := by
  unfold partI partTo partL castL
  rw [List.length_map, List.map_map]
  apply List.map_congr_left
  intro i _
  exact nth_castL X i
theorem partL_mem {X : List Nat} {m x : Nat} (h : x ∈ partL X m) : x ∈ X := by
  unfold partL at h
  rw [List.mem_map] at h
  obtain ⟨i, hi, rfl⟩ := h
  exact nthN_mem (List.mem_range.1 (List.mem_filter.1 hi).1)
theorem partL_le (X : List Nat) (m : Nat) : (partL X m).length ≤ X.length := by
  unfold partL; rw [List.length_map]; exact Nat.le_trans (List.length_filter_le _ _) (by simp)
theorem partL_len {X : List Nat} {m : Nat} (hX : X.length ≤ 24) (hm : m < 2 ^ X.length) : (partL X m).length = cnt m := by
  unfold partL; rw [List.length_map]
  have := elemsTo_all hX hm
  unfold elemsTo at this
  rw [this]; rfl
/-- the sum of all terms -/
def tot (l : List Int) (X : List Nat) : Nat := X.foldl (fun s x => addF l s x) 0
theorem tot_snoc (l : List Int) (X : List Nat) (x : Nat) : tot l (X ++ [x]) = addF l (tot l X) x := by unfold tot; rw [List.foldl_append]; rfl
theorem tot_bd {l : List Int} (h : isGrp l = true) (X : List Nat) : tot l X < 24 := by
  rcases List.eq_nil_or_concat X with rfl | ⟨Y, y, rfl⟩
  · show (0:Nat) < 24; omega
  · rw [List.concat_eq_append, tot_snoc]; exact addF_bd h _ _
theorem take_snocN (L : List Nat) (k : Nat) (h : k < L.length) : L.take (k + 1) = L.take k ++ [nthN L k] := take_nthN L k h
/-- the first mask of so many terms with the sum 0 -/
def zol (l : List Int) (X : List Nat) (k : Nat) : Option Nat := (List.range (pw X.length)).find? (fun m => decide (cnt m = k) && decide (tot l (partL X m) = 0))
def zolL (l : List Int) (X : List Nat) (k : Nat) : List Nat := match zol l X k with | some m => partL X m | none => []
def zolB (l : List Int) (X : List Nat) (k : Nat) : Bool := (zol l X k).isSome
theorem zol_at {l : List Int} {X : List Nat} {k m : Nat} (hm : m < pw X.length) (h : ∀ j, j < m → ¬ (cnt j = k ∧ tot l (partL X j) = 0)) (e1 : cnt m = k) (e2 : tot l (partL X m) = 0) : zolL l X k = partL X m ∧ zolB l X k = true ∧ zol l X k = some m := by
  have : zol l X k = some m := find_at hm (fun j hj => by
    have := h j hj
    by_cases a : cnt j = k
    · have b : ¬ tot l (partL X j) = 0 := fun b => this ⟨a, b⟩
      simp [b]
    · simp [a]) (by simp [e1, e2])
  unfold zolL zolB; rw [this]; exact ⟨rfl, rfl, rfl⟩
theorem zol_none {l : List Int} {X : List Nat} {k : Nat} (h : ∀ j, j < pw X.length → ¬ (cnt j = k ∧ tot l (partL X j) = 0)) : zolL l X k = [] ∧ zolB l X k = false ∧ zol l X k = none := by
  have : zol l X k = none := find_none (fun j hj => by
    have := h j hj
    by_cases a : cnt j = k
    · have b : ¬ tot l (partL X j) = 0 := fun b => this ⟨a, b⟩
      simp [b]
    · simp [a])
  unfold zolL zolB; rw [this]; exact ⟨rfl, rfl, rfl⟩
/-- the best mask below c, 0 if there is none -/
def szTo (l : List Int) (X : List Nat) : Nat → Nat
  | 0 => 0
  | c + 1 => if c ≠ 0 ∧ tot l (partL X c) = 0 ∧ (szTo l X c = 0 ∨ cnt c < cnt (szTo l X c)) then c else szTo l X c
theorem szTo_yes {l : List Int} {X : List Nat} {c : Nat} (h0 : c ≠ 0) (h1 : tot l (partL X c) = 0) (h2 : szTo l X c = 0 ∨ cnt c < cnt (szTo l X c)) : szTo l X (c + 1) = c := by rw [szTo, if_pos ⟨h0, h1, h2⟩]
theorem szTo_no {l : List Int} {X : List Nat} {c : Nat} (h : ¬ (tot l (partL X c) = 0 ∧ (szTo l X c = 0 ∨ cnt c < cnt (szTo l X c)))) : szTo l X (c + 1) = szTo l X c := by rw [szTo, if_neg (fun e => h e.2)]
theorem szTo_one (l : List Int) (X : List Nat) : szTo l X 1 = 0 := by rw [szTo, if_neg (fun e => e.1 rfl)]; rfl
theorem szTo_spec (l : List Int) (X : List Nat) : ∀ c, (szTo l X c = 0 ∧ ∀ m, m < c → m ≠ 0 → tot l (partL X m) ≠ 0) ∨
    (szTo l X c ≠ 0 ∧ szTo l X c < c ∧ tot l (partL X (szTo l X c)) = 0 ∧ ∀ m, m < c → m ≠ 0 → tot l (partL X m) = 0 → cnt (szTo l X c) < cnt m ∨ (cnt (szTo l X c) = cnt m ∧ szTo l X c ≤ m))
  | 0 => Or.inl ⟨rfl, fun m hm => by omega⟩
  | c + 1 => by
    have ih := szTo_spec l X c
    by_cases h : c ≠ 0 ∧ tot l (partL X c) = 0 ∧ (szTo l X c = 0 ∨ cnt c < cnt (szTo l X c))
    · rw [szTo_yes h.1 h.2.1 h.2.2]
      refine Or.inr ⟨h.1, by omega, h.2.1, fun m hm h0 ht => ?_⟩
      by_cases e : m = c
      · subst e; exact Or.inr ⟨rfl, Nat.le_refl _⟩
      · rcases ih with ⟨i1, i2⟩ | ⟨i1, i2, i3, i4⟩
        · exact absurd ht (i2 m (by omega) h0)
        · rcases h.2.2 with e2 | e2
          · exact absurd e2 i1
          · rcases i4 m (by omega) h0 ht with q | q <;> omega
    · have e : szTo l X (c + 1) = szTo l X c := by rw [szTo, if_neg h]
      rw [e]
      rcases ih with ⟨i1, i2⟩ | ⟨i1, i2, i3, i4⟩
      · refine Or.inl ⟨i1, fun m hm h0 => ?_⟩
        by_cases e : m = c
        · subst e; exact fun ht => h ⟨h0, ht, Or.inl i1⟩
        · exact i2 m (by omega) h0
      · refine Or.inr ⟨i1, by omega, i3, fun m hm h0 ht => ?_⟩
        by_cases e : m = c
        · subst e
          have : ¬ cnt m < cnt (szTo l X m) := fun q => h ⟨h0, ht, Or.inr q⟩
          omega
        · exact i4 m (by omega) h0 ht
theorem szTo_lt (l : List Int) (X : List Nat) (c : Nat) : szTo l X c ≤ c := by
  rcases szTo_spec l X c with ⟨h, _⟩ | ⟨_, h, _⟩ <;> omega
def szN (l : List Int) (X : List Nat) : Nat := szTo l X (pw X.length)
def szL' (X : List Nat) (b : Nat) : List Nat := if b = 0 then [] else partL X b
def szR (l : List Int) (X : List Nat) : List Nat := szL' X (szN l X)
def szB (l : List Int) (X : List Nat) : Bool := decide (szN l X ≠ 0)
theorem szL'_len {X : List Nat} {b : Nat} (hX : X.length ≤ 12) (hb : b < 2 ^ X.length) : (szL' X b).length = cnt b := by
  unfold szL'
  by_cases h : b = 0
  · rw [if_pos h, h, cnt_zero]; rfl
  · rw [if_neg h, partL_len (by omega) hb]
theorem cnt_mask {n m : Nat} (hn : n ≤ 24) (hm : m < 2 ^ n) : cnt m ≤ n := by
  have := elemsTo_all hn hm
  unfold cnt; rw [← this]; exact elemsTo_len m n
/-- the first length at which a part is found tells the best one -/
theorem sz_at {l : List Int} {X : List Nat} (hX : X.length ≤ 12) {k : Nat} (hk : 1 ≤ k) (h : ∀ j, 1 ≤ j → j < k → zolB l X j = false) (hz : zolB l X k = true) : szR l X = zolL l X k ∧ szB l X = true := by
  unfold zolB at hz
  cases hq : zol l X k with
  | none => rw [hq] at hz; cases hz
  | some m =>
    have hm := List.find?_some hq
    have hmr := List.mem_of_find?_eq_some hq
    rw [List.mem_range] at hmr
    simp only [Bool.and_eq_true, decide_eq_true_eq] at hm
    have h0 : m ≠ 0 := fun e => by rw [e, cnt_zero] at hm; omega
    have key : szN l X = m := by
      rcases szTo_spec l X (pw X.length) with ⟨_, i2⟩ | ⟨i1, i2, i3, i4⟩
      · exact absurd hm.2 (i2 m hmr h0)
      · have hb : szN l X = szTo l X (pw X.length) := rfl
        rw [← hb] at i1 i2 i3 i4
        have c1 := cnt_pos (a := szN l X) (by omega) (by have := cnt_mask (n := X.length) (m := szN l X) (by omega) i2; exact Nat.lt_of_lt_of_le i2 (Nat.pow_le_pow_right (by omega) (by omega)))
        rcases i4 m hmr h0 hm.2 with q | q
        · have hj := h (cnt (szN l X)) c1 (by omega)
          unfold zolB zol at hj
          have : ((List.range (pw X.length)).find? (fun m => decide (cnt m = cnt (szN l X)) && decide (tot l (partL X m) = 0))).isSome = true := by
            rw [List.find?_isSome]
            exact ⟨szN l X, List.mem_range.2 i2, by simp [i3]⟩
          rw [this] at hj; cases hj
        · have hle : m ≤ szN l X := by
            rcases Nat.lt_or_ge (szN l X) m with hlt | hge
            · exfalso
              unfold zol at hq
              rw [List.find?_range_eq_some] at hq
              have := hq.2.2 (szN l X) hlt
              simp [i3] at this
              omega
            · exact hge
          omega
    unfold szR szL' szB zolL
    rw [key, if_neg h0, hq]
    exact ⟨rfl, decide_eq_true h0⟩
theorem sz_none {l : List Int} {X : List Nat} (hX : X.length ≤ 12) (h : ∀ j, 1 ≤ j → j ≤ X.length → zolB l X j = false) : szR l X = [] ∧ szB l X = false := by
  have key : szN l X = 0 := by
    rcases szTo_spec l X (pw X.length) with ⟨i1, _⟩ | ⟨i1, i2, i3, i4⟩
    · exact i1
    · exfalso
      have hb : szN l X = szTo l X (pw X.length) := rfl
      rw [← hb] at i1 i2 i3
      have c2 := cnt_mask (n := X.length) (m := szN l X) (by omega) i2
      have c1 := cnt_pos (a := szN l X) (by omega) (Nat.lt_of_lt_of_le i2 (Nat.pow_le_pow_right (by omega) (by omega)))
      have hj := h (cnt (szN l X)) c1 c2
      unfold zolB zol at hj
      have : ((List.range (pw X.length)).find? (fun m => decide (cnt m = cnt (szN l X)) && decide (tot l (partL X m) = 0))).isSome = true := by
        rw [List.find?_isSome]
        exact ⟨szN l X, List.mem_range.2 i2, by simp [i3]⟩
      rw [this] at hj; cases hj
  unfold szR szL' szB
  rw [key]; exact ⟨rfl, rfl⟩
end Go.Zz
